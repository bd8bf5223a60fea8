/- The contracts of at and Get. -/
import Derived.Test.YtompkbganljbkaaRing
namespace Go.Proofs.Ytompkbganljbkaa.Rin
open Go Go.RowKit Go.Proofs.Ytompkbganljbkaa.PRingPlays Go.Proofs.YtompkbganljbkaaW.PrintWords Go.Proofs.YtompkbganljbkaaW.PrintLast Go.Proofs.YtompkbganljbkaaW.PrintMore
set_option linter.unusedVariables false
set_option linter.unusedSimpArgs false
theorem Rg.drawn {w w' : World} {B S base size : Nat} {v : Value} {f0 : Int} {F : List S29} (h : Rg w B S base v size f0 F) (hd : Drawn0 w w') : Rg w' B S base v size f0 F := h.below hd.below
set_option maxRecDepth 100000 in
set_option maxHeartbeats 4000000 in
theorem atEmpty_c (f : Int) (B S base size : Nat) (v : Value) (f0 : Int) (F : List S29) (w : World) (h : Rg w B S base v size f0 F) (h0 : F.length = 0) :
    Calls Try.prog 23 #[.pointer (some ⟨B, 0, none⟩), .int .i64 f] w fun e w' => e = .returned (.tuple #[.int .i64 0, .bool false]) ∧ Drawn0 w w' := by
  have k1 := Aside0.mk (has_c B S base size v f0 F w h)
  obtain ⟨q0, q1, q2⟩ := h.cells
  obtain ⟨A, c, rfl, hl, hC⟩ := h.slice
  rw [h0] at q2
  replace h := Aside0.mk h
  clear hC
  go_enter Try.func23, Try.ntmps23
  go_wp2_with (first | (go_at_call 26; (with_reducible refine k1.out.mono ?_); rintro e w' ⟨rfl, hw⟩; subst w') | fail)
  go_ret2
  exact ⟨rfl, Drawn0.refl _⟩
set_option maxRecDepth 100000 in
set_option maxHeartbeats 4000000 in
theorem atLow_c (f : Int) (B S base size : Nat) (v : Value) (f0 : Int) (F : List S29) (w : World) (h : Rg w B S base v size f0 F) (h0 : 0 < F.length) (hlow : f < f0) :
    Calls Try.prog 23 #[.pointer (some ⟨B, 0, none⟩), .int .i64 f] w fun e w' => e = .returned (.tuple #[.int .i64 0, .bool false]) ∧ Drawn0 w w' := by
  have k1 := Aside0.mk (has_c B S base size v f0 F w h)
  have k2 := sFirst_c B S base size v f0 F w h
  have e1 : fst f0 F = f0 := by unfold fst; rw [if_neg (by omega)]
  rw [e1] at k2
  replace k2 := Aside0.mk k2
  obtain ⟨q0, q1, q2⟩ := h.cells
  obtain ⟨A, c, rfl, hl, hC⟩ := h.slice
  have z1 : ((F.length : Int) == 0) = false := beq_eq_false_iff_ne.2 (by omega)
  replace h := Aside0.mk h
  clear hC e1
  go_enter Try.func23, Try.ntmps23
  go_wp2_with (first | (go_at_call 26; (with_reducible refine k1.out.mono ?_); rintro e w' ⟨rfl, hw⟩; subst w') | (go_at_call 28; (with_reducible refine k2.out.mono ?_); rintro e w' ⟨rfl, hw⟩; subst w') | fail)
  go_ret2
  exact ⟨rfl, Drawn0.refl _⟩
set_option maxRecDepth 100000 in
set_option maxHeartbeats 4000000 in
theorem atHigh_c (f : Int) (B S base size : Nat) (v : Value) (f0 : Int) (F : List S29) (w : World) (h : Rg w B S base v size f0 F) (h0 : 0 < F.length) (hf : -1000000 ≤ f0 ∧ f0 ≤ 1000000) (hn : F.length ≤ 100000) (hhigh : f0 + (F.length : Int) ≤ f) :
    Calls Try.prog 23 #[.pointer (some ⟨B, 0, none⟩), .int .i64 f] w fun e w' => e = .returned (.tuple #[.int .i64 0, .bool false]) ∧ Drawn0 w w' := by
  have k1 := Aside0.mk (has_c B S base size v f0 F w h)
  have k2 := sFirst_c B S base size v f0 F w h
  have k3 := sLast_c B S base size v f0 F w h hf hn
  have e1 : fst f0 F = f0 := by unfold fst; rw [if_neg (by omega)]
  rw [e1] at k2
  have e2 : lst f0 F = f0 + (F.length : Int) - 1 := by unfold lst; rw [if_neg (by omega)]
  rw [e2] at k3
  obtain ⟨l, hlst⟩ : ∃ l, l = f0 + (F.length : Int) - 1 := ⟨_, rfl⟩
  rw [← hlst] at k3
  replace k2 := Aside0.mk k2
  replace k3 := Aside0.mk k3
  obtain ⟨q0, q1, q2⟩ := h.cells
  obtain ⟨A, c, rfl, hl, hC⟩ := h.slice
  have z1 : ((F.length : Int) == 0) = false := beq_eq_false_iff_ne.2 (by omega)
  have z2 : ¬ (f < f0) := by omega
  have z3 : l < f := by omega
  replace h := Aside0.mk h
  clear hC e1 e2 hhigh
  replace hlst := Aside0.mk hlst
  go_enter Try.func23, Try.ntmps23
  go_wp2_with (first | (go_at_call 26; (with_reducible refine k1.out.mono ?_); rintro e w' ⟨rfl, hw⟩; subst w') | (go_at_call 28; (with_reducible refine k2.out.mono ?_); rintro e w' ⟨rfl, hw⟩; subst w') | (go_at_call 27; (with_reducible refine k3.out.mono ?_); rintro e w3 ⟨rfl, hd⟩; replace hd := Aside0.mk hd) | fail)
  go_ret2
  exact ⟨rfl, hd.out⟩
set_option maxRecDepth 100000 in
set_option maxHeartbeats 4000000 in
theorem atIn_c (f : Int) (B S base size : Nat) (v : Value) (f0 : Int) (F : List S29) (w : World) (h : Rg w B S base v size f0 F) (hf : -1000000 ≤ f0 ∧ f0 ≤ 1000000) (hn : F.length ≤ 100000) (j : Nat) (hj : j < F.length) (hfj : f = f0 + (j : Int)) :
    Calls Try.prog 23 #[.pointer (some ⟨B, 0, none⟩), .int .i64 f] w fun e w' => e = .returned (.tuple #[.int .i64 (j : Int), .bool true]) ∧ Drawn0 w w' := by
  have k1 := Aside0.mk (has_c B S base size v f0 F w h)
  have k2 := fun W (hR : Rg W B S base v size f0 F) => sFirst_c B S base size v f0 F W hR
  have k3 := sLast_c B S base size v f0 F w h hf hn
  have e1 : fst f0 F = f0 := by unfold fst; rw [if_neg (by omega)]
  rw [e1] at k2
  have e2 : lst f0 F = f0 + (F.length : Int) - 1 := by unfold lst; rw [if_neg (by omega)]
  rw [e2] at k3
  obtain ⟨l, hlst⟩ : ∃ l, l = f0 + (F.length : Int) - 1 := ⟨_, rfl⟩
  rw [← hlst] at k3
  replace k2 := Aside0.mk k2
  replace k3 := Aside0.mk k3
  obtain ⟨q0, q1, q2⟩ := h.cells
  obtain ⟨A, c, rfl, hl, hC⟩ := h.slice
  have z1 : ((F.length : Int) == 0) = false := beq_eq_false_iff_ne.2 (by omega)
  have z2 : ¬ (f < f0) := by omega
  have z3 : ¬ (l < f) := by omega
  have z4 : wrap64 (f - f0) = (j : Int) := by unfold wrap64; omega
  have z5 : f - f0 = (j : Int) := by omega
  have hR := Aside0.mk h
  clear h
  clear hC e1 e2 hfj
  replace hlst := Aside0.mk hlst
  go_enter Try.func23, Try.ntmps23
  go_wp2_with (first | (go_at_call 26; (with_reducible refine k1.out.mono ?_); rintro e w' ⟨rfl, hw⟩; subst w') | (go_at_call 28; (with_reducible refine (k2.out w hR.out).mono ?_); rintro e w' ⟨rfl, hw⟩; subst w') | (go_at_call 27; (with_reducible refine k3.out.mono ?_); rintro e w3 ⟨rfl, hd⟩; have hR3 := Aside0.mk (hR.out.drawn hd); replace hd := Aside0.mk hd) | (go_at_call 28; (with_reducible refine (k2.out w3 hR3.out).mono ?_); rintro e w' ⟨rfl, hw⟩; subst w') | fail)
  go_ret2
  exact ⟨rfl, hd.out⟩
end Go.Proofs.Ytompkbganljbkaa.Rin
