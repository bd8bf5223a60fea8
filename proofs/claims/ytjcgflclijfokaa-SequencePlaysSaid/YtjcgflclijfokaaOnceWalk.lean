/- The walk through SequenceOnce: it returns true and what lay in memory stays; for every list that is read. -/
import Derived.Test.YtjcgflclijfokaaFarWalk
namespace Go.Proofs.Ytjcgflclijfokaa.Once
open Go.RowKit Go.Proofs.Ytjcgflclijfokaa.PSequencePlays Go.Proofs.YtjcgflclijfokaaW.PrintWords Go.Proofs.YtjcgflclijfokaaW.PrintLast Go.Proofs.YtjcgflclijfokaaW.PrintMore
open Go.Proofs.Ytjcgflclijfokaa.Win Go.Proofs.Ytjcgflclijfokaa.Far
set_option linter.unusedVariables false

theorem info3 : (Try.prog.info? 3).map (fun i => (i.zero, i.size, i.bytes)) = some (some (.int .i64 0), 1, 8) := by kernel_rfl

/-- the walk through jousthelp.In at int -/
theorem in_c (A : Option Addr) (n c : Nat) (l : List Int) (x : Int) (w : World) (HC : Kd.C (Kd.int .i64) w A n l) (hn : n ≤ 100000) :
    Calls Try.prog 15 #[.slice A n c, .int .i64 x] w fun e w' => e = .returned (.bool (l.contains x)) ∧ Drawn0 w w' := by
  have hl : l.length = n := HC.1
  replace HC := Aside0.mk HC
  replace hl := Aside0.mk hl
  go_enter Try.func15, Try.ntmps15
  go_wp2_with fail
  go_loopw [5] (fun i wr => ∃ k : Nat, k ≤ n ∧ i = .int .i64 k ∧ Aside0 ((l.take k).contains x = false) ∧ Drawn0 w wr) (fun i _ => n - (intOf i).toNat)
  case atStart => exact ⟨0, Nat.zero_le _, rfl, ⟨by simp⟩, Drawn0.refl _⟩
  case round =>
    obtain ⟨k, hk, rfl, hno, ⟨q, rfl⟩⟩ := hrel
    by_cases hlt : k < n
    · obtain ⟨ad, e1, hc⟩ := Kd.at_int HC.out (k : Int) (by omega) (by omega)
      rw [Int.toNat_natCast] at hc
      subst e1
      have hlk : k < l.length := by rw [hl.out]; exact hlt
      have hrd : rd l (k : Int) = l[k] := by simp [rd, List.getD_eq_getElem?_getD, List.getElem?_eq_getElem hlk]
      have htk : (l.take (k + 1)).contains x = ((l.take k).contains x || x == l[k]) := by
        rw [List.take_succ_eq_append_getElem hlk, contains_snoc]
      have b0 : (0 : Int) ≤ (k : Int) := by omega
      have b1 : (k : Int) < (n : Int) := by omega
      by_cases hx : l[k] = x
      · have hyes : l.contains x = true := by
          rw [← List.take_append_drop (k + 1) l, List.contains_eq_any_beq, List.any_append, ← List.contains_eq_any_beq, htk, hx]
          simp
        rw [hrd, hx] at hc
        have hyes' := Aside0.mk hyes
        clear hyes htk hrd hx hlk
        go_wp2_with fail
        go_ret
        exact ⟨by rw [hyes'.out]; rfl, ⟨_, rfl⟩⟩
      · have hno2 : (l.take (k + 1)).contains x = false := by
          rw [htk, hno.out, Bool.false_or, beq_eq_false_iff_ne]
          exact fun h => hx h.symm
        rw [hrd] at hc
        have hne : (l[k] == x) = false := beq_eq_false_iff_ne.2 hx
        generalize l[k] = y at hc hne
        replace hno2 := Aside0.mk hno2
        clear htk hrd hx
        go_wp2_with fail
        go_roundw
        case rel => exact ⟨k + 1, by omega, by go_num, hno2, ⟨_, rfl⟩⟩
        case measure => simp [intOf]; omega
    · have hall : (l.contains x) = false := by
        have := hno.out
        rwa [List.take_of_length_le (by rw [hl.out]; omega)] at this
      replace hall := Aside0.mk hall
      go_wp2_with fail
      go_ret
      exact ⟨by rw [hall.out]; rfl, ⟨_, rfl⟩⟩

/-- what happens at one number, in its five ways -/
theorem ways (x c m : Int) (tk : List Int) (h : Inv x c tk) (h1 : 1 ≤ m) (h2 : m ≤ 2147483647) :
    ∃ (is inb : Bool) (x' c' : Int), tookB x c m = is ∧ stL x c m = x' ∧ stC x c m = c' ∧ tk.contains m = inb ∧ Inv x' c' (if is = true then tk ++ [m] else tk) ∧ seenB x' c' m = true ∧
      ((x < m ∧ is = true ∧ inb = false) ∨ (m ≤ x ∧ m ≤ x - 64 ∧ is = false) ∨ (m ≤ x ∧ x - 64 < m ∧ is = true ∧ inb = false) ∨ (m ≤ x ∧ x - 64 < m ∧ is = false ∧ inb = true)) := by
  have hk := h.took m
  rw [decide_eq_true h1, decide_eq_true h2] at hk
  have hi := h.step m
  have hs := hi.seen m
  refine ⟨_, _, _, _, rfl, rfl, rfl, rfl, hi, ?_, ?_⟩
  · rw [hs, decide_eq_true h1, Bool.true_and]
    by_cases ht : tookB x c m = true
    · rw [if_pos ht, contains_snoc]; simp
    · rw [if_neg ht]
      have hl : stL x c m = x := by unfold stL; rw [if_neg ht]
      rw [hl]
      rw [hk] at ht
      cases hd : (decide (m ≤ x - 64) || tk.contains m) with
      | true => rfl
      | false => exact absurd (by rw [hd]; rfl) ht
  · rcases Int.lt_or_le x m with a1 | a1
    · left
      have hn : tk.contains m = false := by
        cases hq : tk.contains m with
        | false => rfl
        | true => exact absurd (h.mem _ hq).2 (by omega)
      refine ⟨a1, ?_, hn⟩
      rw [hk, hn, decide_eq_false (by omega)]; rfl
    · rcases Int.lt_or_le (x - 64) m with a2 | a2
      · rw [hk, decide_eq_false (show ¬ m ≤ x - 64 by omega)]
        cases hq : tk.contains m with
        | false => right; right; left; exact ⟨a1, a2, rfl, rfl⟩
        | true => right; right; right; exact ⟨a1, a2, rfl, rfl⟩
      · right; left
        exact ⟨a1, a2, by rw [hk, decide_eq_true a2]; rfl⟩

theorem zero_no (x c : Int) (tk : List Int) (h : Inv x c tk) : tookB x c 0 = false ∧ tookB x c 2147483648 = false := by
  rw [h.took, h.took]
  exact ⟨rfl, rfl⟩
theorem stay {x c m : Int} (h : tookB x c m = false) : stL x c m = x ∧ stC x c m = c := by
  unfold stL stC
  rw [h]
  exact ⟨rfl, rfl⟩

set_option maxRecDepth 100000 in
set_option maxHeartbeats 4000000 in
theorem once_walk (A : Option Addr) (n cap : Nat) (l : List Int) (w : World) (HC : Kd.C (Kd.int .i64) w A n l) (hn : n ≤ maxLen) :
    Calls Try.prog 5 #[.slice A n cap] w fun e w' => e = .returned (.bool true) ∧ Below w.heap.size w w' := by
  unfold maxLen at hn
  obtain ⟨B, hB⟩ : ∃ B, B = w.heap.size := ⟨_, rfl⟩
  have hBl : w.heap.size ≤ B := by omega
  have hnew := new_c w
  rw [← hB] at hnew
  replace hnew := Aside0.mk hnew
  replace hB := Aside0.mk hB
  replace HC := Aside0.mk HC
  go_enter Try.func5, Try.ntmps5
  go_wp2_with (first
    | (go_at_call 7; (with_reducible refine hnew.out.mono ?_); rintro e w1 ⟨rfl, h1, hb1⟩; replace h1 := Aside0.mk h1; have HB := Aside0.mk (by have := hb1; rw [hB.out] at this; exact this : Below w.heap.size w w1); clear hb1)
    | (go_at_call 8; (with_reducible refine (awake_c _).mono ?_); rintro e w2 ⟨rfl, hb2⟩; have h2 := Aside0.mk (h1.out.below hb2); clear h1; replace HB := Aside0.mk (below_then HB.out HB.out.size hb2); clear hb2)
    | fail)
  go_loopw [4, 5] (fun v i wr => ∃ (k : Nat) (x c : Int) (tk : List Int) (A1 : Option Addr) (c1 : Nat), k ≤ n ∧ k ≤ 150 ∧ tk.length ≤ k ∧ i = .int .i64 k ∧ v = .slice A1 tk.length c1 ∧ Aside0 (Kd.R (Kd.int .i64) 3 wr w.heap.size (fun g => g ≠ B) (.slice A1 tk.length c1) tk) ∧ Aside0 (At wr B x c) ∧ Aside0 (Inv x c tk) ∧ Aside0 (Below w.heap.size w wr)) (fun _ i _ => n - (intOf i).toNat)
  case atStart => exact ⟨0, 0, 0, [], none, 0, Nat.zero_le _, Nat.zero_le _, by simp, rfl, rfl, ⟨Kd.R_nil _ _ _ _ _⟩, h2, ⟨Inv.zero⟩, HB⟩
  case round =>
    clear h2 HB hnew
    obtain ⟨k, x, c, tk, A1, c1, hkn, hk60, htk, rfl, rfl, hR, hat, hinv, HB⟩ := hrel
    by_cases hlt : k < n
    · by_cases h60 : k < 150
      · obtain ⟨ad, e1, hc⟩ := Kd.at_int (Kd.C_below HC.out HB.out) (k : Int) (by omega) (by omega)
        rw [Int.toNat_natCast] at hc
        subst e1
        obtain ⟨r, hr, hr0, hr1⟩ := rest (rd l (k : Int)) 200 (by omega) (by omega)
        generalize rd l (k : Int) = a at hc hr
        have b0 : (0 : Int) ≤ (k : Int) := by omega
        have b1 : (k : Int) < (n : Int) := by omega
        have hx0 := hinv.out.h0
        have hx2 := hinv.out.h1
        obtain ⟨is, inb, x', c', p1, p2, p3, p4, hinv', hseen, hw⟩ := ways x c (1 + r) tk hinv.out (by omega) (by omega)
        have k1 := Aside0.mk (@take_is B x c (1 + r) x' c' is hx0 hx2 p1 p2 p3)
        have k2 := Aside0.mk (fun (W : World) (h : At W B x' c') => hseen ▸ seen_c B x' c' (1 + r) W h hinv'.h0 hinv'.h1)
        have k3 := Aside0.mk (fun (W : World) (h : Kd.C (Kd.int .i64) W A1 tk.length tk) => p4 ▸ in_c A1 tk.length c1 tk (1 + r) W h (by omega))
        replace hinv' := Aside0.mk hinv'
        clear p1 p2 p3 p4 hseen hinv
        rcases hw with ⟨a1, rfl, rfl⟩ | ⟨a1, a2, rfl⟩ | ⟨a1, a2, rfl, rfl⟩ | ⟨a1, a2, rfl, rfl⟩
        · obtain ⟨y, hy⟩ : ∃ y, y = tk ++ [1 + r] := ⟨_, rfl⟩
          have hyl : y.length = tk.length + 1 := by rw [hy]; simp
          replace hinv' := Aside0.mk (by have := hinv'.out; rw [if_pos rfl, ← hy] at this; exact this : Inv x' c' y)
          replace hy := Aside0.mk hy
          replace hyl := Aside0.mk hyl
          go_wp2_with (first
            | (go_at_call 11; (with_reducible refine (last_c _ _ _ _ hat.out).mono ?_); rintro e w' ⟨rfl, ⟨q, rfl⟩⟩)
            | (go_at_call 9; (with_reducible refine (k1.out _ (hat.out.drewN _)).mono ?_); rintro e w3 ⟨rfl, hat3, hg⟩; have hR3 := Aside0.mk (Kd.R_grown (Kd.R_drewN hR.out _) hg (fun g hgB h => hgB (by injection h))); replace hat3 := Aside0.mk hat3; replace HB := Aside0.mk (bg (pw_below_drewN HB.out _) hBl hg); clear hg hR)
            | (go_at_call 15; (with_reducible refine (k3.out _ (Kd.C_drewN (Kd.R_reads' hR3.out).2.2 _)).mono ?_); rintro e w' ⟨rfl, ⟨q2, rfl⟩⟩)
            | (go_at_call 15; (with_reducible refine (k3.out _ (Kd.R_reads' hR3.out).2.2).mono ?_); rintro e w' ⟨rfl, ⟨q2, rfl⟩⟩)
            | (go_at_call 10; (with_reducible refine (k2.out _ (hat3.out.drewN _)).mono ?_); rintro e w' ⟨rfl, ⟨q3, rfl⟩⟩)
            | (go_at_call 10; (with_reducible refine (k2.out _ hat3.out).mono ?_); rintro e w' ⟨rfl, ⟨q3, rfl⟩⟩)
            | ((with_reducible refine gate_dst (N := 84) rfl ?_); refine Kd.R_append (Kd.int .i64) (w0 := w) w.heap.size rfl (.tmp 81) (.tmp 83) 29 3 (.int .i64 0) 8 rfl Try.underlying29 info3 rfl (by decide) (by omega) _ tk (1 + r) [.int .i64 (1 + r)] (fun g => g ≠ B) (fun _ => False) rfl rfl rfl (fun _ hk => hk.elim) (fun g hg h => absurd (h ▸ hg) (Nat.not_le.2 hat3.out.lt)) (Kd.R_drewN hR3.out _) (pw_below_drewN HB.out _) (pw_below_drewN HB.out _).size (by omega) ?_; intro v4 w4 ho4 hb4 hg4 hat4; have hat5 := Aside0.mk ((hat3.out.drewN _).other hg4 (fun h => hR3.out.1 B h.symm rfl)); rw [← hy.out] at ho4; obtain ⟨A4, c4, e4⟩ := Kd.R_slice ho4; subst e4; replace ho4 := Aside0.mk ho4; replace HB := Aside0.mk hb4; clear hg4 hat4 hR3 hat3 hb4)
            | fail)
          go_roundw
          case rel => exact ⟨k + 1, x', c', y, A4, c4, by omega, by omega, by rw [hyl.out]; omega, by go_num, rfl, ho4, hat5, hinv', HB⟩
          case measure => simp [intOf]; omega
        · replace hinv' := Aside0.mk (by have := hinv'.out; rw [if_neg (by simp)] at this; exact this : Inv x' c' tk)
          go_wp2_with (first
            | (go_at_call 11; (with_reducible refine (last_c _ _ _ _ hat.out).mono ?_); rintro e w' ⟨rfl, ⟨q, rfl⟩⟩)
            | (go_at_call 9; (with_reducible refine (k1.out _ (hat.out.drewN _)).mono ?_); rintro e w3 ⟨rfl, hat3, hg⟩; have hR3 := Aside0.mk (Kd.R_grown (Kd.R_drewN hR.out _) hg (fun g hgB h => hgB (by injection h))); replace hat3 := Aside0.mk hat3; replace HB := Aside0.mk (bg (pw_below_drewN HB.out _) hBl hg); clear hg hR)
            | (go_at_call 15; (with_reducible refine (k3.out _ (Kd.C_drewN (Kd.R_reads' hR3.out).2.2 _)).mono ?_); rintro e w' ⟨rfl, ⟨q2, rfl⟩⟩)
            | (go_at_call 15; (with_reducible refine (k3.out _ (Kd.R_reads' hR3.out).2.2).mono ?_); rintro e w' ⟨rfl, ⟨q2, rfl⟩⟩)
            | (go_at_call 10; (with_reducible refine (k2.out _ (hat3.out.drewN _)).mono ?_); rintro e w' ⟨rfl, ⟨q3, rfl⟩⟩)
            | (go_at_call 10; (with_reducible refine (k2.out _ hat3.out).mono ?_); rintro e w' ⟨rfl, ⟨q3, rfl⟩⟩)
            | fail)
          go_roundw
          case rel => exact ⟨k + 1, x', c', tk, A1, c1, by omega, by omega, by omega, by go_num, rfl, ⟨Kd.R_drewN hR3.out _⟩, ⟨hat3.out.drewN _⟩, hinv', ⟨pw_below_drewN HB.out _⟩⟩
          case measure => simp [intOf]; omega
        · obtain ⟨y, hy⟩ : ∃ y, y = tk ++ [1 + r] := ⟨_, rfl⟩
          have hyl : y.length = tk.length + 1 := by rw [hy]; simp
          replace hinv' := Aside0.mk (by have := hinv'.out; rw [if_pos rfl, ← hy] at this; exact this : Inv x' c' y)
          replace hy := Aside0.mk hy
          replace hyl := Aside0.mk hyl
          go_wp2_with (first
            | (go_at_call 11; (with_reducible refine (last_c _ _ _ _ hat.out).mono ?_); rintro e w' ⟨rfl, ⟨q, rfl⟩⟩)
            | (go_at_call 9; (with_reducible refine (k1.out _ (hat.out.drewN _)).mono ?_); rintro e w3 ⟨rfl, hat3, hg⟩; have hR3 := Aside0.mk (Kd.R_grown (Kd.R_drewN hR.out _) hg (fun g hgB h => hgB (by injection h))); replace hat3 := Aside0.mk hat3; replace HB := Aside0.mk (bg (pw_below_drewN HB.out _) hBl hg); clear hg hR)
            | (go_at_call 15; (with_reducible refine (k3.out _ (Kd.C_drewN (Kd.R_reads' hR3.out).2.2 _)).mono ?_); rintro e w' ⟨rfl, ⟨q2, rfl⟩⟩)
            | (go_at_call 15; (with_reducible refine (k3.out _ (Kd.R_reads' hR3.out).2.2).mono ?_); rintro e w' ⟨rfl, ⟨q2, rfl⟩⟩)
            | (go_at_call 10; (with_reducible refine (k2.out _ (hat3.out.drewN _)).mono ?_); rintro e w' ⟨rfl, ⟨q3, rfl⟩⟩)
            | (go_at_call 10; (with_reducible refine (k2.out _ hat3.out).mono ?_); rintro e w' ⟨rfl, ⟨q3, rfl⟩⟩)
            | ((with_reducible refine gate_dst (N := 84) rfl ?_); refine Kd.R_append (Kd.int .i64) (w0 := w) w.heap.size rfl (.tmp 81) (.tmp 83) 29 3 (.int .i64 0) 8 rfl Try.underlying29 info3 rfl (by decide) (by omega) _ tk (1 + r) [.int .i64 (1 + r)] (fun g => g ≠ B) (fun _ => False) rfl rfl rfl (fun _ hk => hk.elim) (fun g hg h => absurd (h ▸ hg) (Nat.not_le.2 hat3.out.lt)) (Kd.R_drewN hR3.out _) (pw_below_drewN HB.out _) (pw_below_drewN HB.out _).size (by omega) ?_; intro v4 w4 ho4 hb4 hg4 hat4; have hat5 := Aside0.mk ((hat3.out.drewN _).other hg4 (fun h => hR3.out.1 B h.symm rfl)); rw [← hy.out] at ho4; obtain ⟨A4, c4, e4⟩ := Kd.R_slice ho4; subst e4; replace ho4 := Aside0.mk ho4; replace HB := Aside0.mk hb4; clear hg4 hat4 hR3 hat3 hb4)
            | fail)
          go_roundw
          case rel => exact ⟨k + 1, x', c', y, A4, c4, by omega, by omega, by rw [hyl.out]; omega, by go_num, rfl, ho4, hat5, hinv', HB⟩
          case measure => simp [intOf]; omega
        · replace hinv' := Aside0.mk (by have := hinv'.out; rw [if_neg (by simp)] at this; exact this : Inv x' c' tk)
          go_wp2_with (first
            | (go_at_call 11; (with_reducible refine (last_c _ _ _ _ hat.out).mono ?_); rintro e w' ⟨rfl, ⟨q, rfl⟩⟩)
            | (go_at_call 9; (with_reducible refine (k1.out _ (hat.out.drewN _)).mono ?_); rintro e w3 ⟨rfl, hat3, hg⟩; have hR3 := Aside0.mk (Kd.R_grown (Kd.R_drewN hR.out _) hg (fun g hgB h => hgB (by injection h))); replace hat3 := Aside0.mk hat3; replace HB := Aside0.mk (bg (pw_below_drewN HB.out _) hBl hg); clear hg hR)
            | (go_at_call 15; (with_reducible refine (k3.out _ (Kd.C_drewN (Kd.R_reads' hR3.out).2.2 _)).mono ?_); rintro e w' ⟨rfl, ⟨q2, rfl⟩⟩)
            | (go_at_call 15; (with_reducible refine (k3.out _ (Kd.R_reads' hR3.out).2.2).mono ?_); rintro e w' ⟨rfl, ⟨q2, rfl⟩⟩)
            | (go_at_call 10; (with_reducible refine (k2.out _ (hat3.out.drewN _)).mono ?_); rintro e w' ⟨rfl, ⟨q3, rfl⟩⟩)
            | (go_at_call 10; (with_reducible refine (k2.out _ hat3.out).mono ?_); rintro e w' ⟨rfl, ⟨q3, rfl⟩⟩)
            | fail)
          go_roundw
          case rel => exact ⟨k + 1, x', c', tk, A1, c1, by omega, by omega, by omega, by go_num, rfl, ⟨Kd.R_drewN hR3.out _⟩, ⟨hat3.out.drewN _⟩, hinv', ⟨pw_below_drewN HB.out _⟩⟩
          case measure => simp [intOf]; omega
      · have hz := zero_no x c tk hinv.out
        have k4 := Aside0.mk (@take_is B x c 0 x c false hinv.out.h0 hinv.out.h1 hz.1 (stay hz.1).1 (stay hz.1).2)
        have k5 := Aside0.mk (@take_is B x c 2147483648 x c false hinv.out.h0 hinv.out.h1 hz.2 (stay hz.2).1 (stay hz.2).2)
        clear hz
        go_wp2_with (first
          | (go_at_call 9; (with_reducible refine (nil_take 1 _).mono ?_); rintro e w' ⟨rfl, rfl⟩)
          | (go_at_call 11; (with_reducible refine (nil_last _).mono ?_); rintro e w' ⟨rfl, rfl⟩)
          | (go_at_call 10; (with_reducible refine (nil_seen 1 _).mono ?_); rintro e w' ⟨rfl, rfl⟩)
          | (go_at_call 13; (with_reducible refine (nil_fork _).mono ?_); rintro e w' ⟨rfl, rfl⟩)
          | (go_at_call 9; (with_reducible refine (k4.out _ hat.out).mono ?_); rintro e w3 ⟨rfl, hat3, hg⟩; replace hat3 := Aside0.mk hat3; replace HB := Aside0.mk (bg HB.out hBl hg); clear hg)
          | (go_at_call 9; (with_reducible refine (k5.out _ hat3.out).mono ?_); rintro e w4 ⟨rfl, hat4, hg⟩; replace HB := Aside0.mk (bg HB.out hBl hg); clear hg)
          | fail)
        go_ret
        exact ⟨rfl, HB.out⟩
    · have hz := zero_no x c tk hinv.out
      have k4 := Aside0.mk (@take_is B x c 0 x c false hinv.out.h0 hinv.out.h1 hz.1 (stay hz.1).1 (stay hz.1).2)
      have k5 := Aside0.mk (@take_is B x c 2147483648 x c false hinv.out.h0 hinv.out.h1 hz.2 (stay hz.2).1 (stay hz.2).2)
      clear hz
      go_wp2_with (first
        | (go_at_call 9; (with_reducible refine (nil_take 1 _).mono ?_); rintro e w' ⟨rfl, rfl⟩)
        | (go_at_call 11; (with_reducible refine (nil_last _).mono ?_); rintro e w' ⟨rfl, rfl⟩)
        | (go_at_call 10; (with_reducible refine (nil_seen 1 _).mono ?_); rintro e w' ⟨rfl, rfl⟩)
        | (go_at_call 13; (with_reducible refine (nil_fork _).mono ?_); rintro e w' ⟨rfl, rfl⟩)
        | (go_at_call 9; (with_reducible refine (k4.out _ hat.out).mono ?_); rintro e w3 ⟨rfl, hat3, hg⟩; replace hat3 := Aside0.mk hat3; replace HB := Aside0.mk (bg HB.out hBl hg); clear hg)
        | (go_at_call 9; (with_reducible refine (k5.out _ hat3.out).mono ?_); rintro e w4 ⟨rfl, hat4, hg⟩; replace HB := Aside0.mk (bg HB.out hBl hg); clear hg)
        | fail)
      go_ret
      exact ⟨rfl, HB.out⟩

theorem once (A : Option Addr) (len cap : Nat) (zs : List Int) (w : World)
    (hz : (A = none ∧ len = 0 ∧ cap = 0 ∧ zs = []) ∨ ∃ x, A = some x ∧ len ≤ cap ∧ cap ≤ maxLen ∧ zs.length = cap ∧ (∀ i, i < zs.length → w.cell? (x.add i) = some (.int .i64 (zs.getD i 0))) ∧ ∀ n ∈ zs, (Lit.int .i64 n).wf = true) :
    Calls Try.prog 5 #[.slice A len cap] w fun e w' => e = .returned (.bool true) ∧ Below w.heap.size w w' := by
  obtain ⟨l, rfl, hr, hm, hw, hc⟩ := ReadsInt.ofRowC hz
  exact once_walk A l.length cap l w (Kd.C_of_reads (d := (0 : Int)) (h1 := fun _ => rfl) hr) hm
end Go.Proofs.Ytjcgflclijfokaa.Once
