/- What a nil ring answers; Region over two that are alike. -/
import Derived.Test.YtompkbganljbkaaSame
namespace Go.Proofs.Ytompkbganljbkaa.Rin
open Go Go.RowKit Go.Proofs.Ytompkbganljbkaa.PRingPlays Go.Proofs.YtompkbganljbkaaW.PrintWords Go.Proofs.YtompkbganljbkaaW.PrintLast Go.Proofs.YtompkbganljbkaaW.PrintMore
set_option linter.unusedVariables false
set_option linter.unusedSimpArgs false
theorem nilCut_c (f : Int) (w : World) : Calls Try.prog 14 #[.pointer none, .int .i64 f] w fun e w' => e = .returned (.tuple #[]) ∧ Below w.heap.size w w' := by
  go_enter Try.func14, Try.ntmps14
  go_wp2_with (first | (go_at_call 26; (with_reducible refine (nilHas_c _).mono ?_); rintro e w' ⟨rfl, hw⟩; subst w') | fail)
  go_end0
  exact ⟨rfl, (Below.refl _ _).alloc (Nat.le_refl _) _⟩
theorem nilSFirst_c (w : World) : Calls Try.prog 28 #[.pointer none] w fun e w' => e = .returned (.int .i64 (-1)) ∧ w' = w := by
  go_enter Try.func28, Try.ntmps28
  go_wp2_with fail
  go_ret
  exact ⟨rfl, rfl⟩
theorem nilSLast_c (w : World) : Calls Try.prog 27 #[.pointer none] w fun e w' => e = .returned (.int .i64 (-1)) ∧ w' = w := by
  go_enter Try.func27, Try.ntmps27
  go_wp2_with fail
  go_ret
  exact ⟨rfl, rfl⟩
theorem nilFirst_c (w : World) : Calls Try.prog 12 #[.pointer none] w fun e w' => e = .returned (.int .i64 (-1)) ∧ w' = w := by
  go_enter Try.func12, Try.ntmps12
  go_wp2_with (first | (go_at_call 26; (with_reducible refine (nilHas_c _).mono ?_); rintro e w' ⟨rfl, hw⟩; subst w') | (go_at_call 28; (with_reducible refine (nilSFirst_c _).mono ?_); rintro e w' ⟨rfl, hw⟩; subst w') | fail)
  go_ret
  exact ⟨rfl, rfl⟩
theorem nilLast_c (w : World) : Calls Try.prog 11 #[.pointer none] w fun e w' => e = .returned (.int .i64 (-1)) ∧ w' = w := by
  go_enter Try.func11, Try.ntmps11
  go_wp2_with (first | (go_at_call 26; (with_reducible refine (nilHas_c _).mono ?_); rintro e w' ⟨rfl, hw⟩; subst w') | (go_at_call 27; (with_reducible refine (nilSLast_c _).mono ?_); rintro e w' ⟨rfl, hw⟩; subst w') | fail)
  go_ret
  exact ⟨rfl, rfl⟩
theorem nilAt_c (f : Int) (w : World) : Calls Try.prog 23 #[.pointer none, .int .i64 f] w fun e w' => e = .returned (.tuple #[.int .i64 0, .bool false]) ∧ Drawn0 w w' := by
  go_enter Try.func23, Try.ntmps23
  go_wp2_with (first | (go_at_call 26; (with_reducible refine (nilHas_c _).mono ?_); rintro e w' ⟨rfl, hw⟩; subst w') | fail)
  go_ret2
  exact ⟨rfl, Drawn0.refl _⟩
theorem nilGet_c (f : Int) (w : World) : Calls Try.prog 10 #[.pointer none, .int .i64 f] w fun e w' => e = .returned (.tuple #[.agg #[.int .i64 0, .slice none 0 0], .bool false]) ∧ Below w.heap.size w w' :=
  getOut_c (.pointer none) f w (fun W _ => nilAt_c f W)
theorem nilPut_c (f : Int) (A : Option Addr) (n c : Nat) (w : World) : Calls Try.prog 9 #[.pointer none, .agg #[.int .i64 f, .slice A n c]] w fun e w' => e = .returned (.bool false) ∧ Below w.heap.size w w' := by
  go_enter Try.func9, Try.ntmps9
  go_wp2_with fail
  go_ret
  exact ⟨rfl, (Below.refl _ _).alloc (Nat.le_refl _) _⟩
theorem nilFork_c (w : World) : Calls Try.prog 17 #[.pointer none] w fun e w' => e = .returned (.pointer none) ∧ w' = w := by
  go_enter Try.func17, Try.ntmps17
  go_wp2_with fail
  go_ret
  exact ⟨rfl, rfl⟩
/-- Region over two that are alike -/
theorem region_c (f : Int) (A A' : Option Addr) (n c c' : Nat) (l : List S36) (w : World) (HC : Kd.C k36 w A n l) (HC' : Kd.C k36 w A' n l) (hn : n ≤ 100000) :
    Calls Try.prog 22 #[.agg #[.int .i64 f, .slice A n c], .agg #[.int .i64 f, .slice A' n c']] w fun e w' => e = .returned (.bool true) ∧ Below w.heap.size w w' := by
  have kp := Aside0.mk (fun W (hb : Below w.heap.size w W) => plain_c A A' n c c' l W (Kd.C_below HC hb) (Kd.C_below HC' hb) hn)
  have hB0 := Aside0.mk (((Below.refl w.heap.size w).alloc (Nat.le_refl _) (.cells #[.int .i64 f, .slice A n c] 29)).alloc (by simp) (.cells #[.int .i64 f, .slice A' n c'] 29))
  clear HC HC'
  go_enter Try.func22, Try.ntmps22
  go_wp2_with (first
    | (go_at_call 13; (with_reducible refine (kp.out _ hB0.out).mono ?_); rintro e w3 ⟨rfl, hb3⟩; replace hb3 := Aside0.mk (below_then hB0.out hB0.out.size hb3))
    | fail)
  go_ret
  exact ⟨rfl, hb3.out⟩
end Go.Proofs.Ytompkbganljbkaa.Rin
