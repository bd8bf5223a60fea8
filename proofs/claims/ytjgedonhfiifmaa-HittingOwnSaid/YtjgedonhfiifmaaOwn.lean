/- The walk through HittingOwn: it returns true and what lay in memory stays; for every two numbers. -/
import Derived.Test.YtjgedonhfiifmaaHeals
namespace Go.Proofs.Ytjgedonhfiifmaa.Hit
open Go.RowKit Go.Proofs.Ytjgedonhfiifmaa.PHittingOnly Go.Proofs.YtjgedonhfiifmaaW.PrintWords Go.Proofs.YtjgedonhfiifmaaW.PrintLast Go.Proofs.YtjgedonhfiifmaaW.PrintMore
set_option linter.unusedVariables false

def pl1 (k : Int) (h : Int) : S25 := ⟨k, 1, 0, 0, 0, 0, h, 0, 0⟩
def sh1 (o : Int) : S25 := ⟨2000, 2, 0, 0, 0, 0, 0, 0, o⟩
def pls : Nat → List S25
  | 0 => []
  | k + 1 => pls k ++ [pl1 (k + 1) 50]
theorem pls_length (k : Nat) : (pls k).length = k := by
  induction k with
  | zero => rfl
  | succ k ih => simp [pls, ih]
def hits (f : Int) : Nat → List S25
  | 0 => []
  | k + 1 => hits f k ++ [pl1 (k + 1) (if (k : Int) + 1 = f then 30 else 50)]
theorem hits_length (f : Int) (k : Nat) : (hits f k).length = k := by
  induction k with
  | zero => rfl
  | succ k ih => simp [hits, ih]
theorem hits_get (f : Int) (k : Nat) : ∀ i, i < k → ((hits f k).getD i z25).f6 = if (i : Int) + 1 = f then 30 else 50 := by
  induction k with
  | zero => intro i h; omega
  | succ k ih =>
    intro i hi
    unfold hits
    rcases Nat.lt_or_ge i k with h | h
    · rw [List.getD_eq_getElem?_getD, List.getElem?_append_left (by rw [hits_length]; exact h), ← List.getD_eq_getElem?_getD]
      exact ih i h
    · obtain rfl : i = k := by omega
      rw [List.getD_eq_getElem?_getD, List.getElem?_append_right (by rw [hits_length]; exact Nat.le_refl _), hits_length, Nat.sub_self]
      rfl
theorem own_one : shotF (pls 1 ++ [sh1 1]) = pls 1 ++ [sh1 1] := by kernel_rfl
theorem own_first (N : Nat) (h : 2 ≤ N) (h5 : N ≤ 5) : shotF (pls N ++ [sh1 1]) = hits 2 N := by
  rcases (by omega : N = 2 ∨ N = 3 ∨ N = 4 ∨ N = 5) with rfl | rfl | rfl | rfl
  · kernel_rfl
  · kernel_rfl
  · kernel_rfl
  · kernel_rfl
theorem own_other (N : Nat) (o : Int) (h : 2 ≤ o) (ho : o ≤ N) (h5 : N ≤ 5) : shotF (pls N ++ [sh1 o]) = hits 1 N := by
  rcases (by omega : (N = 2 ∧ o = 2) ∨ (N = 3 ∧ o = 2) ∨ (N = 3 ∧ o = 3) ∨ (N = 4 ∧ o = 2) ∨ (N = 4 ∧ o = 3) ∨ (N = 4 ∧ o = 4) ∨ (N = 5 ∧ o = 2) ∨ (N = 5 ∧ o = 3) ∨ (N = 5 ∧ o = 4) ∨ (N = 5 ∧ o = 5)) with ⟨rfl, rfl⟩ | ⟨rfl, rfl⟩ | ⟨rfl, rfl⟩ | ⟨rfl, rfl⟩ | ⟨rfl, rfl⟩ | ⟨rfl, rfl⟩ | ⟨rfl, rfl⟩ | ⟨rfl, rfl⟩ | ⟨rfl, rfl⟩ | ⟨rfl, rfl⟩ <;> kernel_rfl

set_option maxRecDepth 100000 in
set_option maxHeartbeats 8000000 in
theorem own_walk (owner n : Int) (w : World) : Calls Try.prog 3 #[.int .i64 owner, .int .i64 n] w fun e w' => e = .returned (.bool true) ∧ Below w.heap.size w w' := by
  obtain ⟨r, hr, r0, r1⟩ := rest n 5 (by omega) (by omega)
  obtain ⟨q, hq, q0, q1⟩ := rest owner (1 + r) (by omega) (by omega)
  obtain ⟨N, hN⟩ : ∃ N : Nat, (N : Int) = 1 + r := ⟨(1 + r).toNat, by omega⟩
  go_enter Try.func3, Try.ntmps3
  go_wp2_with fail
  rw [hr, hq]
  replace hr := Aside0.mk hr
  replace hq := Aside0.mk hq
  go_loopw [6, 5] (fun i v wr => ∃ (k : Nat) (A1 : Option Addr) (c1 : Nat), k ≤ N ∧ i = .int .i64 ((k : Int) + 1) ∧ v = .slice A1 k c1 ∧ Aside0 (Kd.R k25 25 wr w.heap.size (fun _ => True) (.slice A1 k c1) (pls k)) ∧ Aside0 (Below w.heap.size w wr)) (fun i _ _ => N + 1 - (intOf i).toNat)
  case atStart => exact ⟨0, none, 0, Nat.zero_le _, rfl, rfl, ⟨Kd.R_nil _ _ _ _ _⟩, ⟨Below.refl _ _⟩⟩
  case round =>
    obtain ⟨k, A1, c1, hk, rfl, rfl, hR, HB⟩ := hrel
    by_cases hlt : k < N
    · have hpl := pls_length k
      generalize hY : pls k = Y at *
      obtain ⟨Z, hZ⟩ : ∃ Z, Z = pls (k + 1) := ⟨_, rfl⟩
      have hZ2 : Z = Y ++ [pl1 (k + 1) 50] := by rw [hZ, ← hY]; rfl
      replace hZ := Aside0.mk hZ
      replace hZ2 := Aside0.mk hZ2
      replace hY := Aside0.mk hY
      have b1 : (k : Int) + 1 ≤ 1 + r := by omega
      go_wp2_with (first
        | ((with_reducible refine gate_dst (N := 32) rfl ?_); (refine Kd.R_append k25 (w0 := w) w.heap.size rfl (.tmp 28) (.tmp 31) 23 25 _ 72 rfl Try.underlying23 info25 rfl (by decide) (by decide) _ Y (pl1 (k + 1) 50) [.int .i64 ((k : Int) + 1), .int .i64 1, .int .i64 0, .int .i64 0, .int .i64 0, .int .i64 0, .int .i64 50, .int .i64 0, .int .i64 0] (fun _ => True) (fun _ => False) rfl (by first | rfl | (simp [Act.eval]; done) | go_simp) (k25_mkM _ _ _ _) (fun _ hk => hk.elim) (fun g hg => trivial) hR.out HB.out HB.out.size (by omega) ?_); intro v4 w4 ho4 hb4 hg4 hat4; rw [← hZ2.out, hZ.out] at ho4; obtain ⟨A4, c4, e4⟩ := Kd.R_slice ho4; subst e4; rw [pls_length] at ho4; rw [pls_length]; replace ho4 := Aside0.mk ho4; replace HB := Aside0.mk hb4; clear hg4 hat4 hR hb4)
        | fail)
      go_roundw
      case rel => exact ⟨k + 1, A4, c4, by omega, by go_num, rfl, ho4, HB⟩
      case measure => simp [intOf]; omega
    · have hkN : k = N := by omega
      subst hkN
      have hpl := pls_length k
      have hk5 : k ≤ 5 := by omega
      obtain ⟨Z, hZ⟩ : ∃ Z, Z = pls k ++ [sh1 (1 + q)] := ⟨_, rfl⟩
      have hZl : Z.length = k + 1 := by rw [hZ]; simp [hpl]
      have kk := Aside0.mk (fun (A : Option Addr) (c : Nat) (W : World) (h : Kd.C k25 W A (k + 1) Z) => shots_c A (k + 1) c Z W h (by omega))
      have hg : ¬ ((k : Int) + 1 ≤ 1 + r) := by omega
      by_cases h1 : k = 1
      · subst h1
        obtain rfl : r = 0 := by omega
        obtain rfl : q = 0 := by omega
        have hs : shotF Z = Z := by
          rw [hZ]
          exact own_one
        rw [hs] at kk
        clear hs hg
        obtain ⟨Y, hY⟩ : ∃ Y, Y = pls 1 := ⟨_, rfl⟩
        rw [← hY] at hZ hR hpl
        replace hZ := Aside0.mk hZ
        replace hY := Aside0.mk hY
        replace hZl := Aside0.mk hZl
        go_wp2_with (first
          | ((with_reducible refine gate_dst (N := 37) rfl ?_); (refine Kd.R_append k25 (w0 := w) w.heap.size rfl (.tmp 33) (.tmp 36) 23 25 _ 72 rfl Try.underlying23 info25 rfl (by decide) (by decide) _ Y (sh1 (1 + 0)) [.int .i64 2000, .int .i64 2, .int .i64 0, .int .i64 0, .int .i64 0, .int .i64 0, .int .i64 0, .int .i64 0, .int .i64 1] (fun _ => True) (fun _ => False) rfl (by first | rfl | (simp [Act.eval]; done) | go_simp) (k25_mkM _ _ _ _) (fun _ hk => hk.elim) (fun g hg => trivial) hR.out HB.out HB.out.size (by omega) ?_); intro v4 w4 ho4 hb4 hg4 hat4; rw [← hZ.out] at ho4; obtain ⟨A4, c4, e4⟩ := Kd.R_slice ho4; subst e4; rw [hZl.out] at ho4; rw [hZl.out]; have hc4 := Aside0.mk ((hZl.out ▸ (Kd.R_reads' ho4).2.2 : Kd.C k25 w4 A4 (1 + 1) Z)); replace HB := Aside0.mk hb4; clear hg4 hat4 hR hb4 ho4)
          | (go_at_call 7; (with_reducible refine (kk.out _ _ _ hc4.out).mono ?_); rintro e w1 ⟨⟨A', n', c', rfl, hx⟩, hb1⟩; have hrd := Kd.R_reads' hx; rw [hZl.out] at hrd; obtain ⟨hn', hc', hC0⟩ := hrd; subst hn'; clear hx hc'; have hX := Aside0.mk hC0; clear hC0; replace hc4 := Aside0.mk (Kd.C_below hc4.out hb1); replace HB := Aside0.mk (below_then HB.out HB.out.size hb1); clear hb1)
          | (go_at_call 8; (with_reducible refine (awake_c _).mono ?_); rintro e w2 ⟨rfl, hb2⟩; replace hc4 := Aside0.mk (Kd.C_below hc4.out hb2); replace hX := Aside0.mk (Kd.C_below hX.out hb2); replace HB := Aside0.mk (below_then HB.out HB.out.size hb2); clear hb2)
          | (go_at_call 9; (with_reducible refine (plain_c _ _ _ _ _ _ _ hX.out hc4.out).mono ?_); rintro e w2 ⟨rfl, hb2⟩; replace HB := Aside0.mk (below_then HB.out HB.out.size hb2); clear hb2)
          | fail)
        go_ret
        exact ⟨rfl, HB.out⟩
      · have e0 : ¬ r = 0 := by omega
        have e1 : ((1 + r : Int) == 1) = false := beq_eq_false_iff_ne.2 (by omega)
        by_cases hq0 : q = 0
        · subst hq0
          have hs : shotF Z = hits 2 k := by
            rw [hZ]
            exact own_first k (by omega) hk5
          rw [hs] at kk
          clear hs
          have hget := hits_get 2 k
          have hXl := hits_length 2 k
          generalize hX : hits 2 k = X at *
          replace hX := Aside0.mk hX
          replace hget := Aside0.mk hget
          replace hXl := Aside0.mk hXl
          obtain ⟨Y, hY⟩ : ∃ Y, Y = pls k := ⟨_, rfl⟩
          rw [← hY] at hZ hR hpl
          replace hZ := Aside0.mk hZ
          replace hY := Aside0.mk hY
          replace hZl := Aside0.mk hZl
          have hk2 : 2 ≤ k := by omega
          go_wp2_with (first
            | ((with_reducible refine gate_dst (N := 37) rfl ?_); refine Kd.R_append k25 (w0 := w) w.heap.size rfl (.tmp 33) (.tmp 36) 23 25 _ 72 rfl Try.underlying23 info25 rfl (by decide) (by decide) _ Y (sh1 (1 + 0)) [.int .i64 2000, .int .i64 2, .int .i64 0, .int .i64 0, .int .i64 0, .int .i64 0, .int .i64 0, .int .i64 0, .int .i64 1] (fun _ => True) (fun _ => False) rfl (by first | rfl | (simp [Act.eval]; done) | go_simp) (k25_mkM _ _ _ _) (fun _ hk => hk.elim) (fun g hg => trivial) hR.out HB.out HB.out.size (by omega) ?_; intro v4 w4 ho4 hb4 hg4 hat4; rw [← hZ.out] at ho4; obtain ⟨A4, c4, e4⟩ := Kd.R_slice ho4; subst e4; rw [hZl.out] at ho4; rw [hZl.out]; have hc4 := Aside0.mk ((hZl.out ▸ (Kd.R_reads' ho4).2.2 : Kd.C k25 w4 A4 (k + 1) Z)); replace HB := Aside0.mk hb4; clear hg4 hat4 hR hb4 ho4)
            | (go_at_call 7; (with_reducible refine (kk.out _ _ _ hc4.out).mono ?_); rintro e w1 ⟨⟨A', n', c', rfl, hx⟩, hb1⟩; obtain ⟨G, rfl, hn', hGb, hrow⟩ := R_row hx (by rw [hXl.out]; omega); rw [hXl.out] at hn'; replace hn' := hn'.symm; subst hn'; clear hx hc4; replace hrow := Aside0.mk hrow; replace HB := Aside0.mk (below_then HB.out HB.out.size hb1); clear hb1)
            | (go_at_call 8; (with_reducible refine (awake_c _).mono ?_); rintro e w2 ⟨rfl, hb2⟩; replace hrow := Aside0.mk (hrow.out.below hb2); replace HB := Aside0.mk (below_then HB.out HB.out.size hb2); clear hb2)
            | fail)
          go_loopw [9] (fun i wr => ∃ j : Nat, j ≤ k ∧ i = .int .i64 j ∧ Aside0 (Row wr G c' X) ∧ Aside0 (Below w.heap.size w wr)) (fun i _ => k - (intOf i).toNat)
          case atStart => exact ⟨0, Nat.zero_le _, rfl, hrow, HB⟩
          case round =>
            clear hrow HB
            obtain ⟨j, hj, rfl, hrow, HB⟩ := hrel
            by_cases hjk : j < k
            · have x6 := hrow.out.cell (i := j) (j := 6) (by rw [hXl.out]; exact hjk) (by omega)
              have hg6 := hget.out j hjk
              simp only [cells] at x6
              have b0 : (0 : Int) ≤ (j : Int) := by omega
              have b1 : (j : Int) < (k : Int) := by omega
              have b2 : (j : Int) < 1 + r := by omega
              by_cases hjf : (j : Int) + 1 = 2
              · rw [if_pos hjf] at hg6
                generalize (X.getD j z25) = p at *
                simp [hg6] at x6
                clear hg6
                go_wp2_with fail
                go_roundw
                case rel => exact ⟨j + 1, by omega, by go_num, hrow, HB⟩
                case measure => simp [intOf]; omega
              · rw [if_neg hjf] at hg6
                have hjb : (((j : Int) + 1) == 2) = false := beq_eq_false_iff_ne.2 hjf
                generalize (X.getD j z25) = p at *
                simp [hg6] at x6
                clear hg6
                go_wp2_with fail
                go_roundw
                case rel => exact ⟨j + 1, by omega, by go_num, hrow, HB⟩
                case measure => simp [intOf]; omega
            · have b2 : ¬ (j : Int) < 1 + r := by omega
              go_wp2_with fail
              go_ret
              exact ⟨rfl, HB.out⟩
        · have e2 : ((1 + q : Int) == 1) = false := beq_eq_false_iff_ne.2 (by omega)
          have hs : shotF Z = hits 1 k := by
            rw [hZ]
            exact own_other k (1 + q) (by omega) (by omega) hk5
          rw [hs] at kk
          clear hs
          have hget := hits_get 1 k
          have hXl := hits_length 1 k
          generalize hX : hits 1 k = X at *
          replace hX := Aside0.mk hX
          replace hget := Aside0.mk hget
          replace hXl := Aside0.mk hXl
          obtain ⟨Y, hY⟩ : ∃ Y, Y = pls k := ⟨_, rfl⟩
          rw [← hY] at hZ hR hpl
          replace hZ := Aside0.mk hZ
          replace hY := Aside0.mk hY
          replace hZl := Aside0.mk hZl
          have hk2 : 2 ≤ k := by omega
          go_wp2_with (first
            | ((with_reducible refine gate_dst (N := 37) rfl ?_); refine Kd.R_append k25 (w0 := w) w.heap.size rfl (.tmp 33) (.tmp 36) 23 25 _ 72 rfl Try.underlying23 info25 rfl (by decide) (by decide) _ Y (sh1 (1 + q)) [.int .i64 2000, .int .i64 2, .int .i64 0, .int .i64 0, .int .i64 0, .int .i64 0, .int .i64 0, .int .i64 0, .int .i64 (1 + q)] (fun _ => True) (fun _ => False) rfl (by first | rfl | (simp [Act.eval]; done) | go_simp) (k25_mkM _ _ _ _) (fun _ hk => hk.elim) (fun g hg => trivial) hR.out HB.out HB.out.size (by omega) ?_; intro v4 w4 ho4 hb4 hg4 hat4; rw [← hZ.out] at ho4; obtain ⟨A4, c4, e4⟩ := Kd.R_slice ho4; subst e4; rw [hZl.out] at ho4; rw [hZl.out]; have hc4 := Aside0.mk ((hZl.out ▸ (Kd.R_reads' ho4).2.2 : Kd.C k25 w4 A4 (k + 1) Z)); replace HB := Aside0.mk hb4; clear hg4 hat4 hR hb4 ho4)
            | (go_at_call 7; (with_reducible refine (kk.out _ _ _ hc4.out).mono ?_); rintro e w1 ⟨⟨A', n', c', rfl, hx⟩, hb1⟩; obtain ⟨G, rfl, hn', hGb, hrow⟩ := R_row hx (by rw [hXl.out]; omega); rw [hXl.out] at hn'; replace hn' := hn'.symm; subst hn'; clear hx hc4; replace hrow := Aside0.mk hrow; replace HB := Aside0.mk (below_then HB.out HB.out.size hb1); clear hb1)
            | (go_at_call 8; (with_reducible refine (awake_c _).mono ?_); rintro e w2 ⟨rfl, hb2⟩; replace hrow := Aside0.mk (hrow.out.below hb2); replace HB := Aside0.mk (below_then HB.out HB.out.size hb2); clear hb2)
            | fail)
          go_loopw [9] (fun i wr => ∃ j : Nat, j ≤ k ∧ i = .int .i64 j ∧ Aside0 (Row wr G c' X) ∧ Aside0 (Below w.heap.size w wr)) (fun i _ => k - (intOf i).toNat)
          case atStart => exact ⟨0, Nat.zero_le _, rfl, hrow, HB⟩
          case round =>
            clear hrow HB
            obtain ⟨j, hj, rfl, hrow, HB⟩ := hrel
            by_cases hjk : j < k
            · have x6 := hrow.out.cell (i := j) (j := 6) (by rw [hXl.out]; exact hjk) (by omega)
              have hg6 := hget.out j hjk
              simp only [cells] at x6
              have b0 : (0 : Int) ≤ (j : Int) := by omega
              have b1 : (j : Int) < (k : Int) := by omega
              have b2 : (j : Int) < 1 + r := by omega
              by_cases hjf : (j : Int) + 1 = 1
              · rw [if_pos hjf] at hg6
                generalize (X.getD j z25) = p at *
                simp [hg6] at x6
                clear hg6
                go_wp2_with fail
                go_roundw
                case rel => exact ⟨j + 1, by omega, by go_num, hrow, HB⟩
                case measure => simp [intOf]; omega
              · rw [if_neg hjf] at hg6
                have hjb : (((j : Int) + 1) == 1) = false := beq_eq_false_iff_ne.2 hjf
                generalize (X.getD j z25) = p at *
                simp [hg6] at x6
                clear hg6
                go_wp2_with fail
                go_roundw
                case rel => exact ⟨j + 1, by omega, by go_num, hrow, HB⟩
                case measure => simp [intOf]; omega
            · have b2 : ¬ (j : Int) < 1 + r := by omega
              go_wp2_with fail
              go_ret
              exact ⟨rfl, HB.out⟩
end Go.Proofs.Ytjgedonhfiifmaa.Hit
