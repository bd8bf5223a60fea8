/- The closure of Cut, IndexFunc, DeleteFunc, Cut. -/
import Derived.Test.YtompkbganljbkaaNil
import Derived.StillTailTactics
namespace Go.Proofs.Ytompkbganljbkaa.Rin
open Go Go.RowKit Go.Proofs.Ytompkbganljbkaa.PRingPlays Go.Proofs.YtompkbganljbkaaW.PrintWords Go.Proofs.YtompkbganljbkaaW.PrintLast Go.Proofs.YtompkbganljbkaaW.PrintMore
set_option linter.unusedVariables false
set_option linter.unusedSimpArgs false
theorem clos32_c (f : Int) (g : Nat) (a : Int) (v : Value) (w : World) (hg : w.heap[g]? = some (.cells #[.int .i64 f] 3 (0, 0))) :
    Calls Try.prog 32 #[.agg #[.int .i64 a, v], .pointer (some ⟨g, 0, none⟩)] w fun e w' => e = .returned (.bool (decide (f < a))) ∧ Below w.heap.size w w' := by
  have hB := (Below.refl w.heap.size w).alloc (Nat.le_refl _) (.cells #[.int .i64 a, v] 29)
  have q0 : (w.alloc (.cells #[.int .i64 a, v] 29)).cell? ⟨g, 0, none⟩ = some (.int .i64 f) := blk_cell' ((hB.block g (blk_lt' hg)).trans hg) 0
  replace hB := Aside0.mk hB
  go_enter Try.func32, Try.ntmps32
  go_wp2_with fail
  go_ret
  exact ⟨rfl, hB.out⟩
set_option maxRecDepth 100000 in
set_option maxHeartbeats 4000000 in
/-- the first one behind f: i -/
theorem idx_c (f : Int) (A : Option Addr) (n c g : Nat) (L : List S29) (i0 : Nat) (w : World) (HC : Kd.C k29 w A n L) (hn : n ≤ 100000) (hg : w.heap[g]? = some (.cells #[.int .i64 f] 3 (0, 0)))
    (hi : i0 ≤ n) (hlo : ∀ k : Nat, k < i0 → (rd_T29 L (k : Int)).f0 ≤ f) (hhi : i0 < n → f < (rd_T29 L (i0 : Int)).f0) :
    Calls Try.prog 36 #[.slice A n c, .func (.func 32) #[] #[.pointer (some ⟨g, 0, none⟩)]] w fun e w' => e = .returned (.int .i64 (if i0 < n then (i0 : Int) else -1)) ∧ Below w.heap.size w w' := by
  have hl : L.length = n := HC.1
  replace HC := Aside0.mk HC
  replace hl := Aside0.mk hl
  replace hg := Aside0.mk hg
  replace hlo := Aside0.mk hlo
  replace hhi := Aside0.mk hhi
  go_enter Try.func36, Try.ntmps36
  go_wp2_with fail
  go_loopw [8] (fun i wr => ∃ k : Nat, k ≤ n ∧ k ≤ i0 ∧ i = .int .i64 k ∧ Aside0 (Below w.heap.size w wr)) (fun i _ => n - (intOf i).toNat)
  case atStart => exact ⟨0, Nat.zero_le _, Nat.zero_le _, rfl, ⟨Below.refl _ _⟩⟩
  case round =>
    obtain ⟨k, hk, hki, rfl, HB⟩ := hrel
    by_cases hlt : k < n
    · obtain ⟨ad, A1, c1, e1, x0, x1, _⟩ := at_T29 (Kd.C_below HC.out HB.out) (k : Int) (by omega) (by omega)
      rw [Int.toNat_natCast] at x0 x1
      subst e1
      have b0 : (0 : Int) ≤ (k : Int) := by omega
      have b1 : (k : Int) < (n : Int) := by omega
      by_cases hki0 : k < i0
      · have hq := hlo.out k hki0
        generalize rd_T29 L (k : Int) = q at *
        have kc := fun W hW => clos32_c f g q.f0 (.slice A1 q.f1.length c1) W hW
        rw [decide_eq_false (show ¬ (f < q.f0) by omega)] at kc
        replace kc := Aside0.mk kc
        go_wp2_with (first
          | (go_at_call 32; (with_reducible refine (kc.out _ (HB.out.block _ (blk_lt' hg.out) |>.trans hg.out)).mono ?_); rintro e w3 ⟨rfl, hb3⟩; replace HB := Aside0.mk (below_then HB.out HB.out.size hb3); clear hb3)
          | fail)
        go_roundw
        case rel => exact ⟨k + 1, by omega, by omega, by go_num, HB⟩
        case measure => simp [intOf]; omega
      · have e0 : k = i0 := by omega
        subst e0
        have hq := hhi.out hlt
        generalize rd_T29 L (k : Int) = q at *
        have kc := fun W hW => clos32_c f g q.f0 (.slice A1 q.f1.length c1) W hW
        rw [decide_eq_true (show f < q.f0 by omega)] at kc
        replace kc := Aside0.mk kc
        go_wp2_with (first
          | (go_at_call 32; (with_reducible refine (kc.out _ (HB.out.block _ (blk_lt' hg.out) |>.trans hg.out)).mono ?_); rintro e w3 ⟨rfl, hb3⟩; replace HB := Aside0.mk (below_then HB.out HB.out.size hb3); clear hb3)
          | fail)
        go_ret
        all_goals first | exact ⟨rfl, HB.out⟩ | (exfalso; omega)
    · have b1 : ¬ ((k : Int) < (n : Int)) := by omega
      go_wp2_with fail
      go_ret
      all_goals first | exact ⟨rfl, HB.out⟩ | (exfalso; omega)
end Go.Proofs.Ytompkbganljbkaa.Rin
