/- Last and at, for frames up to the bounds of int. -/
import Derived.Test.YtompkbganljbkaaAgain
namespace Go.Proofs.Ytompkbganljbkaa.Rin
open Go Go.RowKit Go.Proofs.Ytompkbganljbkaa.PRingPlays Go.Proofs.YtompkbganljbkaaW.PrintWords Go.Proofs.YtompkbganljbkaaW.PrintLast Go.Proofs.YtompkbganljbkaaW.PrintMore
set_option linter.unusedVariables false
set_option linter.unusedSimpArgs false
set_option maxRecDepth 100000
set_option maxHeartbeats 4000000
theorem sLastW_c (B S base size : Nat) (v : Value) (f0 : Int) (F : List S29) (w : World) (h : Rg w B S base v size f0 F) (hf : -9223372036854775808 ≤ f0 ∧ f0 + (F.length : Int) ≤ 9223372036854775808) (hn : F.length ≤ 100000) :
    Calls Try.prog 27 #[.pointer (some ⟨S, 0, none⟩)] w fun e w' => e = .returned (.int .i64 (lst f0 F)) ∧ Drawn0 w w' := by
  obtain ⟨q0, q1, q2⟩ := h.cells
  obtain ⟨A, c, rfl, hl, hC⟩ := h.slice
  have k1 := fun m => sFirst_c B S base size _ f0 F (w.drewN m) (h.drewN m)
  unfold lst
  by_cases h0 : F.length = 0
  · rw [if_pos h0]
    rw [h0] at q2
    replace h := Aside0.mk h
    clear hC k1
    go_enter Try.func27, Try.ntmps27
    go_wp2_with fail
    go_ret
    exact ⟨rfl, Drawn0.refl _⟩
  · rw [if_neg h0]
    have e1 : fst f0 F = f0 := by unfold fst; rw [if_neg h0]
    rw [e1] at k1
    replace k1 := Aside0.mk k1
    have z1 : ((F.length : Int) == 0) = false := beq_eq_false_iff_ne.2 (by omega)
    have z3 : wrap64 (wrap64 (f0 + (F.length : Int)) - 1) = f0 + (F.length : Int) - 1 := by unfold wrap64; omega
    replace h := Aside0.mk h
    clear hC e1
    go_enter Try.func27, Try.ntmps27
    go_wp2_with fail
    go_quiet ((go_at_call 28; exact quiet_at (k1.out _)))
    go_wp2_with fail
    go_ret
    refine ⟨?_, ⟨_, rfl⟩⟩
    show Ending.returned (.int .i64 (wrap64 (wrap64 (f0 + (F.length : Int)) - 1))) = _
    rw [z3]
theorem lastW_c (B S base size : Nat) (v : Value) (f0 : Int) (F : List S29) (w : World) (h : Rg w B S base v size f0 F) (hf : -9223372036854775808 ≤ f0 ∧ f0 + (F.length : Int) ≤ 9223372036854775808) (hn : F.length ≤ 100000) :
    Calls Try.prog 11 #[.pointer (some ⟨B, 0, none⟩)] w fun e w' => e = .returned (.int .i64 (lst f0 F)) ∧ Drawn0 w w' := by
  have k1 := Aside0.mk (has_c B S base size v f0 F w h)
  have k2 := Aside0.mk (sLastW_c B S base size v f0 F w h hf hn)
  go_enter Try.func11, Try.ntmps11
  go_wp2_with (first | (go_at_call 26; (with_reducible refine k1.out.mono ?_); rintro e w' ⟨rfl, hw⟩; subst w') | (go_at_call 27; (with_reducible refine k2.out.mono ?_); rintro e w' ⟨rfl, hw⟩; replace hw := Aside0.mk hw) | fail)
  go_ret
  exact ⟨rfl, hw.out⟩
theorem atHighW_c (f : Int) (B S base size : Nat) (v : Value) (f0 : Int) (F : List S29) (w : World) (h : Rg w B S base v size f0 F) (h0 : 0 < F.length) (hf : -9223372036854775808 ≤ f0 ∧ f0 + (F.length : Int) ≤ 9223372036854775808) (hn : F.length ≤ 100000) (hhigh : f0 + (F.length : Int) ≤ f) :
    Calls Try.prog 23 #[.pointer (some ⟨B, 0, none⟩), .int .i64 f] w fun e w' => e = .returned (.tuple #[.int .i64 0, .bool false]) ∧ Drawn0 w w' := by
  have k1 := Aside0.mk (has_c B S base size v f0 F w h)
  have k2 := sFirst_c B S base size v f0 F w h
  have k3 := sLastW_c B S base size v f0 F w h hf hn
  have e1 : fst f0 F = f0 := by unfold fst; rw [if_neg (by omega)]
  rw [e1] at k2
  have e2 : lst f0 F = f0 + (F.length : Int) - 1 := by unfold lst; rw [if_neg (by omega)]
  rw [e2] at k3
  obtain ⟨l, hlst⟩ : ∃ l, l = f0 + (F.length : Int) - 1 := ⟨_, rfl⟩
  rw [← hlst] at k3
  replace k2 := Aside0.mk k2
  replace k3 := Aside0.mk k3
  obtain ⟨q0, q1, q2⟩ := h.cells
  obtain ⟨A, c, rfl, hl, hC⟩ := h.slice
  have z1 : ((F.length : Int) == 0) = false := beq_eq_false_iff_ne.2 (by omega)
  have z2 : ¬ (f < f0) := by omega
  have z3 : l < f := by omega
  replace h := Aside0.mk h
  clear hC e1 e2 hhigh
  replace hlst := Aside0.mk hlst
  go_enter Try.func23, Try.ntmps23
  go_wp2_with (first | (go_at_call 26; (with_reducible refine k1.out.mono ?_); rintro e w' ⟨rfl, hw⟩; subst w') | (go_at_call 28; (with_reducible refine k2.out.mono ?_); rintro e w' ⟨rfl, hw⟩; subst w') | (go_at_call 27; (with_reducible refine k3.out.mono ?_); rintro e w3 ⟨rfl, hd⟩; replace hd := Aside0.mk hd) | fail)
  go_ret2
  exact ⟨rfl, hd.out⟩
theorem atInW_c (f : Int) (B S base size : Nat) (v : Value) (f0 : Int) (F : List S29) (w : World) (h : Rg w B S base v size f0 F) (hf : -9223372036854775808 ≤ f0 ∧ f0 + (F.length : Int) ≤ 9223372036854775808) (hn : F.length ≤ 100000) (j : Nat) (hj : j < F.length) (hfj : f = f0 + (j : Int)) :
    Calls Try.prog 23 #[.pointer (some ⟨B, 0, none⟩), .int .i64 f] w fun e w' => e = .returned (.tuple #[.int .i64 (j : Int), .bool true]) ∧ Drawn0 w w' := by
  have k1 := Aside0.mk (has_c B S base size v f0 F w h)
  have k2 := fun W (hR : Rg W B S base v size f0 F) => sFirst_c B S base size v f0 F W hR
  have k3 := sLastW_c B S base size v f0 F w h hf hn
  have e1 : fst f0 F = f0 := by unfold fst; rw [if_neg (by omega)]
  rw [e1] at k2
  have e2 : lst f0 F = f0 + (F.length : Int) - 1 := by unfold lst; rw [if_neg (by omega)]
  rw [e2] at k3
  obtain ⟨l, hlst⟩ : ∃ l, l = f0 + (F.length : Int) - 1 := ⟨_, rfl⟩
  rw [← hlst] at k3
  replace k2 := Aside0.mk k2
  replace k3 := Aside0.mk k3
  obtain ⟨q0, q1, q2⟩ := h.cells
  obtain ⟨A, c, rfl, hl, hC⟩ := h.slice
  have z1 : ((F.length : Int) == 0) = false := beq_eq_false_iff_ne.2 (by omega)
  have z2 : ¬ (f < f0) := by omega
  have z3 : ¬ (l < f) := by omega
  have z4 : wrap64 (f - f0) = (j : Int) := by unfold wrap64; omega
  have z5 : f - f0 = (j : Int) := by omega
  have hR := Aside0.mk h
  clear h
  clear hC e1 e2 hfj
  replace hlst := Aside0.mk hlst
  go_enter Try.func23, Try.ntmps23
  go_wp2_with (first | (go_at_call 26; (with_reducible refine k1.out.mono ?_); rintro e w' ⟨rfl, hw⟩; subst w') | (go_at_call 28; (with_reducible refine (k2.out w hR.out).mono ?_); rintro e w' ⟨rfl, hw⟩; subst w') | (go_at_call 27; (with_reducible refine k3.out.mono ?_); rintro e w3 ⟨rfl, hd⟩; have hR3 := Aside0.mk (hR.out.drawn hd); replace hd := Aside0.mk hd) | (go_at_call 28; (with_reducible refine (k2.out w3 hR3.out).mono ?_); rintro e w' ⟨rfl, hw⟩; subst w') | fail)
  go_ret2
  exact ⟨rfl, hd.out⟩
end Go.Proofs.Ytompkbganljbkaa.Rin
