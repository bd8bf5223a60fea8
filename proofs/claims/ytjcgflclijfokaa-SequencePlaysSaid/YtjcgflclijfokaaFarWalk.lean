/- The walk through SequenceFar: it returns true and what lay in memory stays; for every two numbers of 64 bits. -/
import Derived.Test.YtjcgflclijfokaaWinPure
namespace Go.Proofs.Ytjcgflclijfokaa.Far
open Go.RowKit Go.Proofs.Ytjcgflclijfokaa.PSequencePlays Go.Proofs.YtjcgflclijfokaaW.PrintWords Go.Proofs.YtjcgflclijfokaaW.PrintLast Go.Proofs.YtjcgflclijfokaaW.PrintMore
open Go.Proofs.Ytjcgflclijfokaa.Win
set_option linter.unusedVariables false

theorem rest (a m : Int) (hm : 0 < m) (hm2 : m ≤ 1000000) : ∃ r, wrap64 ((IntKind.u64.wrap a).tmod m) = r ∧ 0 ≤ r ∧ r < m := by
  have hu : 0 ≤ IntKind.u64.wrap a := by rw [IntKind.wrap_u64]; omega
  have h0 : 0 ≤ (IntKind.u64.wrap a).tmod m := Int.tmod_nonneg m hu
  have h1 : (IntKind.u64.wrap a).tmod m < m := Int.tmod_lt_of_pos _ hm
  exact ⟨_, rfl, by unfold wrap64; omega, by unfold wrap64; omega⟩

theorem first (t : Int) (h1 : 1 ≤ t) (h2 : t ≤ 2147483647) : ∃ c, tookB 0 0 t = true ∧ stL 0 0 t = t ∧ stC 0 0 t = c ∧ Inv t c [t] := by
  have hk : tookB 0 0 t = true := by
    rw [Inv.zero.took t]
    simp [h1, h2]
    omega
  have hi := Inv.zero.step t
  rw [if_pos hk] at hi
  have hl : stL 0 0 t = t := by unfold stL; rw [if_pos hk, if_pos (by omega)]
  rw [hl] at hi
  exact ⟨_, hk, hl, rfl, hi⟩

theorem second (t b c : Int) (hi : Inv t c [t]) (ht : 100 ≤ t) (h1 : 1 ≤ b) (h2 : b ≤ 90) :
    ∃ c2, seenB t c (t - b) = decide (64 ≤ b) ∧ tookB t c (t - b) = decide (b < 64) ∧ stL t c (t - b) = t ∧ stC t c (t - b) = c2 ∧ seenB t c2 (t - b) = true := by
  have hmax := hi.h1
  have hne : ([t] : List Int).contains (t - b) = false := by
    rw [Bool.eq_false_iff]
    intro h
    have : t - b = t := by simpa using h
    omega
  have hs : seenB t c (t - b) = decide (64 ≤ b) := by
    rw [hi.seen, hne, decide_eq_true (show 1 ≤ t - b by omega), Bool.true_and, Bool.or_false, Bool.eq_iff_iff]
    simp only [decide_eq_true_eq]
    omega
  have hk : tookB t c (t - b) = decide (b < 64) := by
    rw [hi.took, hne, decide_eq_true (show 1 ≤ t - b by omega), decide_eq_true (show t - b ≤ 2147483647 by omega), Bool.or_false, Bool.true_and, Bool.true_and, Bool.eq_iff_iff]
    simp only [Bool.not_eq_true', decide_eq_false_iff_not, decide_eq_true_eq]
    omega
  have hl : stL t c (t - b) = t := by
    unfold stL
    by_cases h : tookB t c (t - b) = true
    · rw [if_pos h, if_neg (by omega)]
    · rw [if_neg h]
  refine ⟨_, hs, hk, hl, rfl, ?_⟩
  have hj := hi.step (t - b)
  rw [hl] at hj
  rw [hj.seen, decide_eq_true (show 1 ≤ t - b by omega), Bool.true_and, hk]
  by_cases hb : b < 64
  · rw [if_pos (by simpa using hb)]
    simp
  · rw [decide_eq_true (show t - b ≤ t - 64 by omega), Bool.true_or]

set_option maxHeartbeats 1600000 in
theorem far_walk (a0 a1 : Int) (w : World) : Calls Try.prog 3 #[.int .i64 a0, .int .i64 a1] w fun e w' => e = .returned (.bool true) ∧ Below w.heap.size w w' := by
  obtain ⟨n, hn, hn0, hn1⟩ := rest a0 1000000 (by omega) (by omega)
  obtain ⟨m, hm, hm0, hm1⟩ := rest a1 90 (by omega) (by omega)
  obtain ⟨c, p1, p2, p3, hi⟩ := first (100 + n) (by omega) (by omega)
  obtain ⟨c2, s1, s2, s3, s4, s5⟩ := second (100 + n) (1 + m) c hi (by omega) (by omega) (by omega)
  have hmax : 100 + n ≤ 2147483647 := by omega
  obtain ⟨B, hB⟩ : ∃ B, B = w.heap.size := ⟨_, rfl⟩
  have hBl : w.heap.size ≤ B := by omega
  have hnew := new_c w
  rw [← hB] at hnew
  have k1 := Aside0.mk (@take_is B 0 0 (100 + n) (100 + n) c true (by omega) (by omega) p1 p2 p3)
  clear p1 p2 p3 hi
  by_cases hb : 1 + m < 64
  · have hd1 : decide (1 + m < 64) = true := decide_eq_true hb
    have hd2 : decide (64 ≤ 1 + m) = false := decide_eq_false (by omega)
    rw [hd2] at s1
    rw [hd1] at s2
    have k2 := Aside0.mk (@take_is B (100 + n) c (100 + n - (1 + m)) (100 + n) c2 true (by omega) (by omega) s2 s3 s4)
    have k3 := Aside0.mk (fun (W : World) (h : At W B (100 + n) c) => s1 ▸ seen_c B (100 + n) c (100 + n - (1 + m)) W h (by omega) hmax)
    have k4 := Aside0.mk (fun (W : World) (h : At W B (100 + n) c2) => s5 ▸ seen_c B (100 + n) c2 (100 + n - (1 + m)) W h (by omega) hmax)
    clear s1 s2 s3 s4 s5
    replace hnew := Aside0.mk hnew
    replace hB := Aside0.mk hB
    go_enter Try.func3, Try.ntmps3
    go_wp2_with (first
      | (go_at_call 7; (with_reducible refine hnew.out.mono ?_); rintro e w1 ⟨rfl, h1, hb1⟩; replace h1 := Aside0.mk h1; have HB := Aside0.mk (by have := hb1; rw [hB.out] at this; exact this : Below w.heap.size w w1); clear hb1)
      | (go_at_call 8; (with_reducible refine (awake_c _).mono ?_); rintro e w2 ⟨rfl, hb2⟩; have h2 := Aside0.mk (h1.out.below hb2); clear h1; replace HB := Aside0.mk (below_then HB.out HB.out.size hb2); clear hb2)
      | (go_at_call 9; (with_reducible refine (k1.out _ h2.out).mono ?_); rintro e w3 ⟨rfl, h3, hg⟩; replace h3 := Aside0.mk h3; clear h2; replace HB := Aside0.mk (bg HB.out hBl hg); clear hg)
      | (go_at_call 10; (with_reducible refine (k3.out _ h3.out).mono ?_); rintro e w' ⟨rfl, ⟨q, rfl⟩⟩)
      | (go_at_call 9; (with_reducible refine (k2.out _ (h3.out.drewN _)).mono ?_); rintro e w4 ⟨rfl, h4, hg⟩; replace h4 := Aside0.mk h4; replace HB := Aside0.mk (bg (pw_below_drewN HB.out _) hBl hg); clear hg)
      | (go_at_call 11; (with_reducible refine (last_c _ _ _ _ h4.out).mono ?_); rintro e w' ⟨rfl, ⟨q2, rfl⟩⟩)
      | (go_at_call 10; (with_reducible refine (k4.out _ (h4.out.drewN _)).mono ?_); rintro e w' ⟨rfl, ⟨q3, rfl⟩⟩)
      | fail)
    go_ret
    exact ⟨rfl, pw_below_drewN HB.out _⟩
  · have hd1 : decide (1 + m < 64) = false := decide_eq_false hb
    have hd2 : decide (64 ≤ 1 + m) = true := decide_eq_true (by omega)
    rw [hd2] at s1
    rw [hd1] at s2
    have k2 := Aside0.mk (@take_is B (100 + n) c (100 + n - (1 + m)) (100 + n) c2 false (by omega) (by omega) s2 s3 s4)
    have k3 := Aside0.mk (fun (W : World) (h : At W B (100 + n) c) => s1 ▸ seen_c B (100 + n) c (100 + n - (1 + m)) W h (by omega) hmax)
    have k4 := Aside0.mk (fun (W : World) (h : At W B (100 + n) c2) => s5 ▸ seen_c B (100 + n) c2 (100 + n - (1 + m)) W h (by omega) hmax)
    clear s1 s2 s3 s4 s5
    replace hnew := Aside0.mk hnew
    replace hB := Aside0.mk hB
    go_enter Try.func3, Try.ntmps3
    go_wp2_with (first
      | (go_at_call 7; (with_reducible refine hnew.out.mono ?_); rintro e w1 ⟨rfl, h1, hb1⟩; replace h1 := Aside0.mk h1; have HB := Aside0.mk (by have := hb1; rw [hB.out] at this; exact this : Below w.heap.size w w1); clear hb1)
      | (go_at_call 8; (with_reducible refine (awake_c _).mono ?_); rintro e w2 ⟨rfl, hb2⟩; have h2 := Aside0.mk (h1.out.below hb2); clear h1; replace HB := Aside0.mk (below_then HB.out HB.out.size hb2); clear hb2)
      | (go_at_call 9; (with_reducible refine (k1.out _ h2.out).mono ?_); rintro e w3 ⟨rfl, h3, hg⟩; replace h3 := Aside0.mk h3; clear h2; replace HB := Aside0.mk (bg HB.out hBl hg); clear hg)
      | (go_at_call 10; (with_reducible refine (k3.out _ h3.out).mono ?_); rintro e w' ⟨rfl, ⟨q, rfl⟩⟩)
      | (go_at_call 9; (with_reducible refine (k2.out _ (h3.out.drewN _)).mono ?_); rintro e w4 ⟨rfl, h4, hg⟩; replace h4 := Aside0.mk h4; replace HB := Aside0.mk (bg (pw_below_drewN HB.out _) hBl hg); clear hg)
      | (go_at_call 11; (with_reducible refine (last_c _ _ _ _ h4.out).mono ?_); rintro e w' ⟨rfl, ⟨q2, rfl⟩⟩)
      | (go_at_call 10; (with_reducible refine (k4.out _ (h4.out.drewN _)).mono ?_); rintro e w' ⟨rfl, ⟨q3, rfl⟩⟩)
      | fail)
    go_ret
    exact ⟨rfl, pw_below_drewN HB.out _⟩
end Go.Proofs.Ytjcgflclijfokaa.Far
