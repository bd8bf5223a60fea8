/- The walk through HittingHeals: it returns true and what lay in memory stays; for every two numbers. -/
import Derived.Test.YtjgedonhfiifmaaLaw1
namespace Go.Proofs.Ytjgedonhfiifmaa.Hit
open Go.RowKit Go.Proofs.Ytjgedonhfiifmaa.PHittingOnly Go.Proofs.YtjgedonhfiifmaaW.PrintWords Go.Proofs.YtjgedonhfiifmaaW.PrintLast Go.Proofs.YtjgedonhfiifmaaW.PrintMore
open Go.Proofs.Ytjgedonhfiifmaa.Plain
set_option linter.unusedVariables false

theorem rest (a m : Int) (hm : 0 < m) (hm2 : m ≤ 1000000) : ∃ r, wrap64 ((IntKind.u64.wrap a).tmod m) = r ∧ 0 ≤ r ∧ r < m := by
  have hu : 0 ≤ IntKind.u64.wrap a := by rw [IntKind.wrap_u64]; omega
  have h0 : 0 ≤ (IntKind.u64.wrap a).tmod m := Int.tmod_nonneg m hu
  have h1 : (IntKind.u64.wrap a).tmod m < m := Int.tmod_lt_of_pos _ hm
  exact ⟨_, rfl, by unfold wrap64; omega, by unfold wrap64; omega⟩

theorem far_small (x y : Int) (hx : -100000 ≤ x) (hx2 : x ≤ 100000) (hy : -100000 ≤ y) (hy2 : y ≤ 100000) : far x 0 y 0 = max (x - y) (y - x) := by
  unfold far sub size held
  omega

def hp (h : Int) : S25 := ⟨1, 1, 0, 0, 0, 0, h, 0, 0⟩
def hg (f : Int) : S25 := ⟨1000, 3, f, 0, 0, 0, 1, 0, 0⟩
theorem heal_small (h : Int) (h1 : 1 ≤ h) (h2 : h ≤ 100) : heal h = min 100 (h + 25) := by
  unfold heal add held
  omega
theorem gems_far (h f : Int) (f1 : 32 < f) (f2 : f < 80) : gemF [hp h, hg f] = [hp h, hg f] := by
  have hn : Pgem (hg f) (hp h) = false := by
    unfold Pgem nearB hg hp
    simp only
    rw [far_small 0 f (by omega) (by omega) (by omega) (by omega)]
    simp
    omega
  have hn2 : Pgem (hg f) (hg f) = false := rfl
  have hk : (hp h).f1 ≠ 3 := by simp [hp]
  unfold gemF meetF iterM
  simp [iterM, stepM, leftOf, hn, hn2, hk]
theorem gems_near (h f : Int) (h1 : 1 ≤ h) (h2 : h ≤ 100) (f1 : 0 ≤ f) (f2 : f ≤ 32) : gemF [hp h, hg f] = [hp (min 100 (h + 25))] := by
  have hn : Pgem (hg f) (hp h) = true := by
    unfold Pgem nearB hg hp
    simp only
    rw [far_small 0 f (by omega) (by omega) (by omega) (by omega)]
    simp
    omega
  have hk : (hp h).f1 ≠ 3 := by simp [hp]
  have hk2 : (hg f).f1 = 3 := rfl
  unfold gemF meetF iterM
  simp [iterM, stepM, leftOf, hn, hk, hk2, upd, withH, List.findIdx_cons, gemT]
  simp only [hp, heal_small h h1 h2]

set_option maxRecDepth 100000 in
set_option maxHeartbeats 4000000 in
theorem heals_walk (health away : Int) (w : World) : Calls Try.prog 4 #[.int .i64 health, .int .i64 away] w fun e w' => e = .returned (.bool true) ∧ Below w.heap.size w w' := by
  obtain ⟨r, hr, r0, r1⟩ := rest health 100 (by omega) (by omega)
  obtain ⟨f, hf, f0, f1⟩ := rest away 80 (by omega) (by omega)
  have k1 := Aside0.mk (fun (W : World) (h : Kd.C k25 W (some ⟨w.heap.size, 0, none⟩) 2 [hp (1 + r), hg f]) => gems_c (some ⟨w.heap.size, 0, none⟩) 2 2 [hp (1 + r), hg f] W h (by omega))
  have r1' := Aside0.mk (Row.lit w [hp (1 + r), hg f] (by simp))
  have HB := Aside0.mk ((Below.refl w.heap.size w).alloc (Nat.le_refl _) (.cells (flat [hp (1 + r), hg f]).toArray 25))
  by_cases hfar : 32 < f
  · rw [gems_far _ f hfar f1] at k1
    simp only [flat, cells, hp, hg, List.append_nil, List.cons_append, List.nil_append, List.length_cons, List.length_nil, Nat.zero_add, Nat.reduceAdd] at k1 r1' HB
    go_enter Try.func4, Try.ntmps4
    go_wp2_with (first
      | (go_at_call 10; (with_reducible refine (k1.out _ r1'.out.reads).mono ?_); rintro e w1 ⟨⟨A', n', c', rfl, h1⟩, hb1⟩; replace r1' := Aside0.mk (r1'.out.below hb1); obtain ⟨hn', -, hC0⟩ := Kd.R_reads' h1; simp only [List.length_cons, List.length_nil, Nat.zero_add, Nat.reduceAdd] at hn' hC0; subst hn'; clear h1; have h1 := Aside0.mk hC0; clear hC0; replace HB := Aside0.mk (below_then HB.out HB.out.size hb1); clear hb1)
      | (go_at_call 8; ((with_reducible refine (awake_c _).mono ?_); rintro e w2 ⟨rfl, hb2⟩); (replace h1 := Aside0.mk (Kd.C_below h1.out hb2); replace r1' := Aside0.mk (r1'.out.below hb2); replace HB := Aside0.mk (below_then HB.out HB.out.size hb2)); clear hb2)
      | (go_at_call 9; (with_reducible refine (plain_c _ _ _ _ _ _ _ h1.out r1'.out.reads).mono ?_); rintro e w2 ⟨rfl, hb2⟩; replace HB := Aside0.mk (below_then HB.out HB.out.size hb2); clear hb2)
      | fail)
    go_ret
    exact ⟨rfl, HB.out⟩
  · rw [gems_near _ f (by omega) (by omega) f0 (by omega)] at k1
    simp only [flat, cells, hp, hg, List.append_nil, List.cons_append, List.nil_append, List.length_cons, List.length_nil, Nat.zero_add, Nat.reduceAdd] at k1 r1' HB
    have hmin : min 100 (1 + r + 25) = min 100 (26 + r) := by omega
    go_enter Try.func4, Try.ntmps4
    go_wp2_with (first
      | (go_at_call 10; (with_reducible refine (k1.out _ r1'.out.reads).mono ?_); rintro e w1 ⟨⟨A', n', c', rfl, h1⟩, hb1⟩; obtain ⟨G, rfl, rfl, hGb, hrow⟩ := R_row h1 (by simp); clear h1; replace HB := Aside0.mk (below_then HB.out HB.out.size hb1); clear hb1; replace hrow := Aside0.mk hrow)
      | (go_at_call 8; (with_reducible refine (awake_c _).mono ?_); rintro e w2 ⟨rfl, hb2⟩; replace hrow := Aside0.mk (hrow.out.below hb2); have x6 := hrow.out.cell (i := 0) (j := 6) (by simp) (by simp); simp [cells] at x6; replace HB := Aside0.mk (below_then HB.out HB.out.size hb2); clear hb2)
      | fail)
    all_goals
      go_ret
      exact ⟨by simp; omega, HB.out⟩
end Go.Proofs.Ytjgedonhfiifmaa.Hit
