/- The walk through OutboxMissing: it returns true and what lay in memory stays; for every list that is read and every number. -/
import Derived.Test.YtnenhlgpkfelcaaLaw
namespace Go.Proofs.Ytnenhlgpkfelcaa.Box
open Go Go.RowKit Go.Maps Go.Proofs.Ytnenhlgpkfelcaa.POutboxPlays Go.Proofs.YtnenhlgpkfelcaaW.PrintWords Go.Proofs.YtnenhlgpkfelcaaW.PrintLast Go.Proofs.YtnenhlgpkfelcaaW.PrintMore
set_option linter.unusedVariables false

theorem rest (a m : Int) (hm : 0 < m) (hm2 : m ≤ 1000000) : ∃ r, wrap64 ((IntKind.u64.wrap a).tmod m) = r ∧ 0 ≤ r ∧ r < m := by
  have hu : 0 ≤ IntKind.u64.wrap a := by rw [IntKind.wrap_u64]; omega
  have h0 : 0 ≤ (IntKind.u64.wrap a).tmod m := Int.tmod_nonneg m hu
  have h1 : (IntKind.u64.wrap a).tmod m < m := Int.tmod_lt_of_pos _ hm
  exact ⟨_, rfl, by unfold wrap64; omega, by unfold wrap64; omega⟩
theorem contains_snoc (l : List Int) (y x : Int) : (l ++ [y]).contains x = (l.contains x || x == y) := by
  induction l with
  | nil => simp only [List.nil_append, List.contains_cons, List.contains_nil, Bool.or_false, Bool.false_or]
  | cons a l ih => simp only [List.cons_append, List.contains_cons, ih, Bool.or_assoc]
theorem in_c (A : Option Addr) (n c : Nat) (l : List Int) (x : Int) (w : World) (HC : Kd.C (Kd.int .i64) w A n l) (hn : n ≤ 100000) :
    Calls Try.prog 11 #[.slice A n c, .int .i64 x] w fun e w' => e = .returned (.bool (l.contains x)) ∧ Drawn0 w w' := by
  have hl : l.length = n := HC.1
  replace HC := Aside0.mk HC
  replace hl := Aside0.mk hl
  go_enter Try.func11, Try.ntmps11
  go_wp2_with fail
  go_loopw [5] (fun i wr => ∃ k : Nat, k ≤ n ∧ i = .int .i64 k ∧ Aside0 ((l.take k).contains x = false) ∧ Drawn0 w wr) (fun i _ => n - (intOf i).toNat)
  case atStart => exact ⟨0, Nat.zero_le _, rfl, ⟨by simp⟩, Drawn0.refl _⟩
  case round =>
    obtain ⟨k, hk, rfl, hno, ⟨q, rfl⟩⟩ := hrel
    by_cases hlt : k < n
    · obtain ⟨ad, e1, hc⟩ := Kd.at_int HC.out (k : Int) (by omega) (by omega)
      rw [Int.toNat_natCast] at hc
      subst e1
      have hlk : k < l.length := by rw [hl.out]; exact hlt
      have hrd : rd l (k : Int) = l[k] := by simp [rd, List.getD_eq_getElem?_getD, List.getElem?_eq_getElem hlk]
      have htk : (l.take (k + 1)).contains x = ((l.take k).contains x || x == l[k]) := by
        rw [List.take_succ_eq_append_getElem hlk, contains_snoc]
      have b0 : (0 : Int) ≤ (k : Int) := by omega
      have b1 : (k : Int) < (n : Int) := by omega
      by_cases hx : l[k] = x
      · have hyes : l.contains x = true := by
          rw [← List.take_append_drop (k + 1) l, List.contains_eq_any_beq, List.any_append, ← List.contains_eq_any_beq, htk, hx]
          simp
        rw [hrd, hx] at hc
        have hyes' := Aside0.mk hyes
        clear hyes htk hrd hx hlk
        go_wp2_with fail
        go_ret
        exact ⟨by rw [hyes'.out]; rfl, ⟨_, rfl⟩⟩
      · have hno2 : (l.take (k + 1)).contains x = false := by
          rw [htk, hno.out, Bool.false_or, beq_eq_false_iff_ne]
          exact fun h => hx h.symm
        rw [hrd] at hc
        have hne : (l[k] == x) = false := beq_eq_false_iff_ne.2 hx
        generalize l[k] = y at hc hne
        replace hno2 := Aside0.mk hno2
        clear htk hrd hx
        go_wp2_with fail
        go_roundw
        case rel => exact ⟨k + 1, by omega, by go_num, hno2, ⟨_, rfl⟩⟩
        case measure => simp [intOf]; omega
    · have hall : (l.contains x) = false := by
        have := hno.out
        rwa [List.take_of_length_le (by rw [hl.out]; omega)] at this
      replace hall := Aside0.mk hall
      go_wp2_with fail
      go_ret
      exact ⟨by rw [hall.out]; rfl, ⟨_, rfl⟩⟩

/-- what the map of region 2 says -/
def Had (Fs : Nat → Int → Option Value) (tk : List Int) : Prop := (∀ x, (Fs 2 x).isSome = tk.contains x) ∧ (∀ x, Fs 1 x = none) ∧ ∀ x ∈ tk, 0 ≤ x ∧ x < 30
theorem Had.zero : Had F0 [] := ⟨fun _ => rfl, fun _ => rfl, fun x h => by simp at h⟩
theorem Had.step {Fs : Nat → Int → Option Value} {tk : List Int} (h : Had Fs tk) (f : Int) (f0 : 0 ≤ f) (f1 : f < 30) : Had (addF 2 f Fs) (tk ++ [f]) := by
  obtain ⟨h1, h2, h3⟩ := h
  refine ⟨fun x => ?_, fun x => ?_, fun x hx => ?_⟩
  · rw [contains_snoc, ← h1]
    unfold addF
    by_cases hs : (Fs 2 f).isSome = true
    · rw [if_pos hs]
      by_cases hx : x = f
      · subst hx; simp [hs]
      · simp [hx]
    · rw [if_neg hs]
      by_cases hx : x = f
      · subst hx; simp
      · simp [hx]
  · unfold addF
    by_cases hs : (Fs 2 f).isSome = true
    · rw [if_pos hs]; exact h2 x
    · rw [if_neg hs]; simp [h2]
  · simp only [List.mem_append, List.mem_singleton] at hx
    rcases hx with hx | rfl
    · exact h3 x hx
    · exact ⟨f0, f1⟩
/-- the first number from g on that is not there -/
theorem first_gap (tk : List Int) (hb : ∀ x ∈ tk, 0 ≤ x ∧ x < 30) (g : Int) (g0 : 0 ≤ g) : ∃ t : Nat, t ≤ 30 ∧ tk.contains (g + t) = false ∧ ∀ j : Nat, j < t → tk.contains (g + j) = true := by
  have hbig : ∀ y : Int, 30 ≤ y → tk.contains y = false := by
    intro y hy
    cases h : tk.contains y with
    | false => rfl
    | true =>
      have := hb y (by simpa using h)
      omega
  have key : ∀ d : Nat, ∀ t0 : Nat, t0 + d = 30 → (∀ j : Nat, j < t0 → tk.contains (g + j) = true) → ∃ t : Nat, t ≤ 30 ∧ tk.contains (g + t) = false ∧ ∀ j : Nat, j < t → tk.contains (g + j) = true := by
    intro d
    induction d with
    | zero => exact fun t0 h1 h2 => ⟨t0, by omega, hbig _ (by omega), h2⟩
    | succ d ih =>
      intro t0 h1 h2
      cases h : tk.contains (g + t0) with
      | false => exact ⟨t0, by omega, h, h2⟩
      | true => exact ih (t0 + 1) (by omega) (fun j hj => by
          by_cases hjt : j = t0
          · subst hjt; exact h
          · exact h2 j (by omega))
  exact key 30 0 (by omega) (fun j hj => absurd hj (Nat.not_lt_zero _))

theorem info3 : (Try.prog.info? 3).map (fun i => (i.zero, i.size, i.bytes)) = some (some (.int .i64 0), 1, 8) := by kernel_rfl
theorem St.other {w w' : World} {B R k N : Nat} {ms : Nat → Nat} {Fs : Nat → Int → Option Value} {row : Option Nat} (h : St w B R k N ms Fs) (hg : w.grownBy w' row) (h1 : some B ≠ row) (h2 : some R ≠ row) (h3 : ∀ i, i < k → some (ms i) ≠ row) : St w' B R k N ms Fs :=
  h.move (hg.block _ h.lt.1 h1) (hg.block _ h.lt.2 h2) fun i hi => hg.block _ (h.maps i hi).lt (h3 i hi)

theorem missing_out_c (B R k N : Nat) (ms : Nat → Nat) (Fs : Nat → Int → Option Value) (r fr : Int) (hit : isB k r = false) (w : World) (h : St w B R k N ms Fs) :
    Calls Try.prog 10 #[.pointer (some ⟨B, 0, none⟩), .int .i64 r, .int .i64 fr] w fun e w' => e = .returned (.int .i64 fr) ∧ w' = w := by
  have hi := is_c B R k N ms Fs r w h
  rw [hit] at hi
  replace hi := Aside0.mk hi
  go_enter Try.func10, Try.ntmps10
  go_wp2_with (first | (go_at_call 21; (with_reducible refine hi.out.mono ?_); rintro e w' ⟨rfl, hw⟩; subst w') | fail)
  go_ret
  exact ⟨rfl, rfl⟩

set_option maxRecDepth 100000 in
set_option maxHeartbeats 8000000 in
theorem missing_walk (A : Option Addr) (n cap : Nat) (l : List Int) (from_ : Int) (w : World) (HC : Kd.C (Kd.int .i64) w A n l) (hn : n ≤ maxLen) :
    Calls Try.prog 3 #[.slice A n cap, .int .i64 from_] w fun e w' => e = .returned (.bool true) ∧ Below w.heap.size w w' := by
  unfold maxLen at hn
  obtain ⟨g, hg, g0, g1⟩ := rest from_ 40 (by omega) (by omega)
  have hnew := new_c 4 (by omega) (by omega) w
  rw [show ((4 : Nat) : Int) = 4 from rfl] at hnew
  replace hnew := Aside0.mk hnew
  replace HC := Aside0.mk HC
  go_enter Try.func3, Try.ntmps3
  go_wp2_with (first
    | (go_at_call 7; (with_reducible refine hnew.out.mono ?_); rintro e w1 ⟨⟨B, R, ms, rfl, hB, hR, hms, hS⟩, hb1⟩; replace hS := Aside0.mk hS; replace hb1 := Aside0.mk hb1)
    | (go_at_call 8; (with_reducible refine (awake_c _).mono ?_); rintro e w2 ⟨rfl, hb2⟩; replace hS := Aside0.mk (hS.out.below hb2); replace hb1 := Aside0.mk (below_then hb1.out hb1.out.size hb2); clear hb2)
    | fail)
  have HB := hb1
  clear hb1
  have hmsA := Aside0.mk hms
  clear hms
  go_loopw [7, 6] (fun i v wr => ∃ (k N : Nat) (tk : List Int) (Fs : Nat → Int → Option Value) (A1 : Option Addr) (c1 : Nat), k ≤ n ∧ k ≤ 40 ∧ tk.length ≤ k ∧ N ≤ k ∧ i = .int .i64 k ∧ v = .slice A1 tk.length c1 ∧ Aside0 (Kd.R (Kd.int .i64) 3 wr w.heap.size (fun b => b ≠ B ∧ b ≠ R ∧ ∀ i, i < 4 → b ≠ ms i) (.slice A1 tk.length c1) tk) ∧ Aside0 (St wr B R 4 N ms Fs) ∧ Aside0 (Had Fs tk) ∧ Aside0 (Below w.heap.size w wr)) (fun i _ _ => n - (intOf i).toNat)
  case atStart => exact ⟨0, 0, [], F0, none, 0, Nat.zero_le _, Nat.zero_le _, by simp, by omega, rfl, rfl, ⟨Kd.R_nil _ _ _ _ _⟩, hS, ⟨Had.zero⟩, HB⟩
  case round =>
    clear hS HB hnew
    obtain ⟨k, N, tk, Fs, A1, c1, hkn, hk40, htk, hNk, rfl, rfl, hR1, hS, hH, HB⟩ := hrel
    by_cases hgo : k < n ∧ k < 40
    · obtain ⟨hlt, h40⟩ := hgo
      obtain ⟨ad, e1, hc⟩ := Kd.at_int (Kd.C_below HC.out HB.out) (k : Int) (by omega) (by omega)
      rw [Int.toNat_natCast] at hc
      subst e1
      obtain ⟨f, hf, f0, f1⟩ := rest (rd l (k : Int)) 30 (by omega) (by omega)
      generalize rd l (k : Int) = a at hc hf
      have b0 : (0 : Int) ≤ (k : Int) := by omega
      have b1 : (k : Int) < (n : Int) := by omega
      have b2 : (k : Int) < 40 := by omega
      have hH2 := Aside0.mk (hH.out.step f f0 f1)
      obtain ⟨y, hy⟩ : ∃ y, y = tk ++ [f] := ⟨_, rfl⟩
      have hyl : y.length = tk.length + 1 := by rw [hy]; simp
      have kadd := fun W (h : St W B R 4 N ms Fs) => add_c B R 4 N ms Fs 2 (by omega) (by omega) f f0 (by omega) 0 (by omega) W h
      generalize (!(Fs 2 f).isSome) = bb at kadd
      replace kadd := Aside0.mk kadd
      replace hy := Aside0.mk hy
      replace hyl := Aside0.mk hyl
      go_wp2_with (first
        | (go_at_call 9; (refine (kadd.out _ hS.out).mono ?_); rintro e w3 ⟨rfl, hS3, hf3, hfr3⟩; have hR3 := Aside0.mk (Kd.R_step hR1.out (fun b hb hlt => hfr3 b hlt (hb.2.2 2 (by omega)))); replace hS3 := Aside0.mk hS3; replace HB := Aside0.mk (hf3 _ HB.out (hmsA.out 2 (by omega))); clear hf3 hfr3 hR1 hS)
        | ((with_reducible refine gate_dst (N := 42) rfl ?_); (refine Kd.R_append (Kd.int .i64) (w0 := w) w.heap.size rfl (.tmp 39) (.tmp 41) 22 3 (.int .i64 0) 8 rfl Try.underlying22 info3 rfl (by decide) (by omega) _ tk f [.int .i64 f] (fun b => b ≠ B ∧ b ≠ R ∧ ∀ i, i < 4 → b ≠ ms i) (fun _ => False) rfl (by first | rfl | (simp [Act.eval]; done) | go_simp) rfl (fun _ hk => hk.elim) (fun b hb => ⟨fun h => absurd (h ▸ hb) (Nat.not_le.2 hS3.out.lt.1), fun h => absurd (h ▸ hb) (Nat.not_le.2 hS3.out.lt.2), fun i hi h => absurd (h ▸ hb) (Nat.not_le.2 (hS3.out.maps i hi).lt)⟩) hR3.out HB.out HB.out.size (by omega) ?_); intro v4 w4 ho4 hb4 hg4 hat4; have hS4 := Aside0.mk (hS3.out.other hg4 (fun e => (hR3.out.1 B e.symm).1 rfl) (fun e => (hR3.out.1 R e.symm).2.1 rfl) (fun i hi e => (hR3.out.1 _ e.symm).2.2 i hi rfl)); rw [← hy.out] at ho4; obtain ⟨A4, c4, e4⟩ := Kd.R_slice ho4; subst e4; replace ho4 := Aside0.mk ho4; replace HB := Aside0.mk hb4; clear hg4 hat4 hR3 hS3 hb4)
        | fail)
      go_roundw
      case rel => exact ⟨k + 1, N + 1, y, addF 2 f Fs, A4, c4, by omega, by omega, by rw [hyl.out]; omega, by omega, by go_num, rfl, ho4, hS4, ⟨by rw [hy.out]; exact hH2.out⟩, HB⟩
      case measure => simp [intOf]; omega
    · obtain ⟨t, ht, hno, hyes⟩ := first_gap tk hH.out.2.2 g g0
      have k1 := fun W (h : St W B R 4 N ms Fs) => missing_c B R 4 N ms Fs 2 (by omega) g t (by omega) (by omega) (by rw [show max g 0 = g by omega, hH.out.1]; exact hno) (fun j hj => by rw [show max g 0 = g by omega, hH.out.1]; exact hyes j hj) (by omega) W h
      have k2 := fun W (h : St W B R 4 N ms Fs) => missing_c B R 4 N ms Fs 1 (by omega) g 0 (by omega) (by omega) (by rw [hH.out.2.1]; rfl) (fun j hj => absurd hj (Nat.not_lt_zero _)) (by omega) W h
      rw [show max g 0 = g by omega] at k1 k2
      rw [show g + ((0 : Nat) : Int) = g by omega] at k2
      rw [show ((2 : Nat) : Int) = 2 from rfl] at k1
      rw [show ((1 : Nat) : Int) = 1 from rfl] at k2
      have k3 := fun W (h : St W B R 4 N ms Fs) => missing_out_c B R 4 N ms Fs 9 g rfl W h
      have k4 := fun (W : World) (j : Nat) (hj : j < t) (h : Kd.C (Kd.int .i64) W A1 tk.length tk) => hyes j hj ▸ in_c A1 tk.length c1 tk (g + j) W h (by omega)
      have k5 := fun (W : World) (h : Kd.C (Kd.int .i64) W A1 tk.length tk) => hno ▸ in_c A1 tk.length c1 tk (g + t) W h (by omega)
      replace k1 := Aside0.mk k1
      replace k2 := Aside0.mk k2
      replace k3 := Aside0.mk k3
      replace k4 := Aside0.mk k4
      replace k5 := Aside0.mk k5
      clear hno hyes hH
      rcases (by omega : k = n ∨ (k < n ∧ k = 40)) with hx | ⟨hx, hx2⟩
      · have z1 : ¬ ((k : Int) < (n : Int)) := by omega
        clear hx hgo
        go_wp2_with (first
          | (go_at_call 10; (with_reducible refine (k1.out _ hS.out).mono ?_); rintro e w' ⟨rfl, ⟨q1, rfl⟩⟩; replace hS := Aside0.mk (hS.out.drewN q1); replace hR1 := Aside0.mk (Kd.R_drewN hR1.out q1); replace HB := Aside0.mk (pw_below_drewN HB.out q1))
          | fail)
        go_loopw [10] (fun v wr => ∃ j : Nat, j ≤ t ∧ v = .int .i64 (g + j) ∧ Aside0 (Kd.R (Kd.int .i64) 3 wr w.heap.size (fun b => b ≠ B ∧ b ≠ R ∧ ∀ i, i < 4 → b ≠ ms i) (.slice A1 tk.length c1) tk) ∧ Aside0 (St wr B R 4 N ms Fs) ∧ Aside0 (Below w.heap.size w wr)) (fun v _ => t - (intOf v - g).toNat)
        case atStart => exact ⟨0, Nat.zero_le _, by congr 1; omega, hR1, hS, HB⟩
        case round =>
          clear hR1 hS HB k1
          obtain ⟨j, hj, rfl, hR1, hS, HB⟩ := hrel
          by_cases hjt : j < t
          · have k6 := Aside0.mk (fun W h => k4.out W j hjt h)
            have y1 : g + (j : Int) < g + (t : Int) := by omega
            go_wp2_with (first
              | (go_at_call 11; (with_reducible refine (k6.out _ (Kd.R_reads' hR1.out).2.2).mono ?_); rintro e w' ⟨rfl, ⟨q2, rfl⟩⟩; replace hS := Aside0.mk (hS.out.drewN q2); replace hR1 := Aside0.mk (Kd.R_drewN hR1.out q2); replace HB := Aside0.mk (pw_below_drewN HB.out q2))
              | fail)
            go_roundw
            case rel => exact ⟨j + 1, by omega, by congr 1; omega, hR1, hS, HB⟩
            case measure => simp [intOf]; omega
          · have hjt2 : j = t := by omega
            subst hjt2
            have y1 : ¬ (g + (j : Int) < g + (j : Int)) := by omega
            have y2 : g ≤ g + (j : Int) := by omega
            go_wp2_with (first
              | (go_at_call 11; (with_reducible refine (k5.out _ (Kd.R_reads' hR1.out).2.2).mono ?_); rintro e w' ⟨rfl, ⟨q2, rfl⟩⟩; replace hS := Aside0.mk (hS.out.drewN q2); replace HB := Aside0.mk (pw_below_drewN HB.out q2); clear hR1)
              | (go_at_call 10; (with_reducible refine (k2.out _ hS.out).mono ?_); rintro e w' ⟨rfl, ⟨q3, rfl⟩⟩; replace hS := Aside0.mk (by have h := hS.out.drewN q3; rw [World.drewN_drewN] at h; exact h); replace HB := Aside0.mk (by have h := pw_below_drewN HB.out q3; rw [World.drewN_drewN] at h; exact h))
              | (go_at_call 10; (with_reducible refine (k3.out _ hS.out).mono ?_); rintro e w' ⟨rfl, hw⟩; subst w')
              | fail)
            go_ret
            exact ⟨rfl, HB.out⟩
      · have z1 : (k : Int) < (n : Int) := by omega
        have z2 : ¬ ((k : Int) < 40) := by omega
        clear hx hx2 hgo
        go_wp2_with (first
          | (go_at_call 10; (with_reducible refine (k1.out _ hS.out).mono ?_); rintro e w' ⟨rfl, ⟨q1, rfl⟩⟩; replace hS := Aside0.mk (hS.out.drewN q1); replace hR1 := Aside0.mk (Kd.R_drewN hR1.out q1); replace HB := Aside0.mk (pw_below_drewN HB.out q1))
          | fail)
        go_loopw [10] (fun v wr => ∃ j : Nat, j ≤ t ∧ v = .int .i64 (g + j) ∧ Aside0 (Kd.R (Kd.int .i64) 3 wr w.heap.size (fun b => b ≠ B ∧ b ≠ R ∧ ∀ i, i < 4 → b ≠ ms i) (.slice A1 tk.length c1) tk) ∧ Aside0 (St wr B R 4 N ms Fs) ∧ Aside0 (Below w.heap.size w wr)) (fun v _ => t - (intOf v - g).toNat)
        case atStart => exact ⟨0, Nat.zero_le _, by congr 1; omega, hR1, hS, HB⟩
        case round =>
          clear hR1 hS HB k1
          obtain ⟨j, hj, rfl, hR1, hS, HB⟩ := hrel
          by_cases hjt : j < t
          · have k6 := Aside0.mk (fun W h => k4.out W j hjt h)
            have y1 : g + (j : Int) < g + (t : Int) := by omega
            go_wp2_with (first
              | (go_at_call 11; (with_reducible refine (k6.out _ (Kd.R_reads' hR1.out).2.2).mono ?_); rintro e w' ⟨rfl, ⟨q2, rfl⟩⟩; replace hS := Aside0.mk (hS.out.drewN q2); replace hR1 := Aside0.mk (Kd.R_drewN hR1.out q2); replace HB := Aside0.mk (pw_below_drewN HB.out q2))
              | fail)
            go_roundw
            case rel => exact ⟨j + 1, by omega, by congr 1; omega, hR1, hS, HB⟩
            case measure => simp [intOf]; omega
          · have hjt2 : j = t := by omega
            subst hjt2
            have y1 : ¬ (g + (j : Int) < g + (j : Int)) := by omega
            have y2 : g ≤ g + (j : Int) := by omega
            go_wp2_with (first
              | (go_at_call 11; (with_reducible refine (k5.out _ (Kd.R_reads' hR1.out).2.2).mono ?_); rintro e w' ⟨rfl, ⟨q2, rfl⟩⟩; replace hS := Aside0.mk (hS.out.drewN q2); replace HB := Aside0.mk (pw_below_drewN HB.out q2); clear hR1)
              | (go_at_call 10; (with_reducible refine (k2.out _ hS.out).mono ?_); rintro e w' ⟨rfl, ⟨q3, rfl⟩⟩; replace hS := Aside0.mk (by have h := hS.out.drewN q3; rw [World.drewN_drewN] at h; exact h); replace HB := Aside0.mk (by have h := pw_below_drewN HB.out q3; rw [World.drewN_drewN] at h; exact h))
              | (go_at_call 10; (with_reducible refine (k3.out _ hS.out).mono ?_); rintro e w' ⟨rfl, hw⟩; subst w')
              | fail)
            go_ret
            exact ⟨rfl, HB.out⟩

theorem missing (A : Option Addr) (len cap : Nat) (zs : List Int) (from_ : Int) (w : World)
    (hz : (A = none ∧ len = 0 ∧ cap = 0 ∧ zs = []) ∨ ∃ x, A = some x ∧ len ≤ cap ∧ cap ≤ maxLen ∧ zs.length = cap ∧ (∀ i, i < zs.length → w.cell? (x.add i) = some (.int .i64 (zs.getD i 0))) ∧ ∀ n ∈ zs, (Lit.int .i64 n).wf = true) :
    Calls Try.prog 3 #[.slice A len cap, .int .i64 from_] w fun e w' => e = .returned (.bool true) ∧ Below w.heap.size w w' := by
  obtain ⟨l, rfl, hr, hm, hw, hc⟩ := ReadsInt.ofRowC hz
  exact missing_walk A l.length cap l from_ w (Kd.C_of_reads (d := (0 : Int)) (h1 := fun _ => rfl) hr) hm
end Go.Proofs.Ytnenhlgpkfelcaa.Box
