/- The ring's state, and the contracts of New, has, First, Last, at, Get. -/
import Derived.Test.YtompkbganljbkaaDel
namespace Go.Proofs.Ytompkbganljbkaa.Rin
open Go Go.RowKit Go.Proofs.Ytompkbganljbkaa.PRingPlays Go.Proofs.YtompkbganljbkaaW.PrintWords Go.Proofs.YtompkbganljbkaaW.PrintLast Go.Proofs.YtompkbganljbkaaW.PrintMore
set_option linter.unusedVariables false
set_option linter.unusedSimpArgs false
/-- a ring at block B, its store at S, its regions F from frame f0 on -/
structure Rg (w : World) (B S base : Nat) (v : Value) (size : Nat) (f0 : Int) (F : List S29) : Prop where
  box : w.heap[B]? = some (.cells #[.pointer (some ⟨S, 0, none⟩), .int .i64 (size : Int)] 52 (0, 0))
  st : w.heap[S]? = some (.cells #[v] 50 (0, 0))
  row : Kd.R k29 29 w base (fun _ => True) v F
  hb : base ≤ B
  hs : base ≤ S
  con : ∀ (j : Nat) (x : S29), F[j]? = some x → x.f0 = f0 + (j : Int)
theorem types52 : ∀ q, q ∈ 29 :: k29.E → q ≠ 52 ∧ q ≠ 50 := by
  intro q hq
  simp [k29, k36, Kd.slice, Kd.iso, Kd.pair, Kd.int, Kd.scalar] at hq
  rcases hq with rfl | rfl <;> decide
section
variable {w w' : World} {B S base size : Nat} {v : Value} {f0 : Int} {F : List S29}
theorem Rg.below (h : Rg w B S base v size f0 F) (hb : Below w.heap.size w w') : Rg w' B S base v size f0 F := ⟨(hb.block B (blk_lt' h.box)).trans h.box, (hb.block S (blk_lt' h.st)).trans h.st, Kd.R_below h.row hb, h.hb, h.hs, h.con⟩
theorem Rg.slice (h : Rg w B S base v size f0 F) : ∃ A c, v = .slice A F.length c ∧ F.length ≤ c ∧ Kd.C k29 w A F.length F := Kd.R_reads h.row
theorem Rg.ne (h : Rg w B S base v size f0 F) : some B ≠ v.ownBlock ∧ some S ≠ v.ownBlock ∧ B ≠ S := ⟨Kd.R_ne h.row h.box (by decide), Kd.R_ne h.row h.st (by decide), fun e => by
  have h1 := h.box
  rw [e, h.st] at h1
  injection h1 with h1
  injection h1 with _ h1
  cases h1⟩
theorem Rg.cells (h : Rg w B S base v size f0 F) : w.cell? ⟨B, 0, none⟩ = some (.pointer (some ⟨S, 0, none⟩)) ∧ w.cell? ⟨B, 1, none⟩ = some (.int .i64 (size : Int)) ∧ w.cell? ⟨S, 0, none⟩ = some v := ⟨blk_cell' h.box 0, blk_cell' h.box 1, blk_cell' h.st 0⟩
end
theorem Rg.drewN {w : World} {B S base size : Nat} {v : Value} {f0 : Int} {F : List S29} (h : Rg w B S base v size f0 F) (m : Nat) : Rg (w.drewN m) B S base v size f0 F := ⟨h.box, h.st, Kd.R_drewN h.row m, h.hb, h.hs, h.con⟩
theorem quiet_at {P : Program} {f : FuncId} {args : Array Value} {w : World} {n : Nat} {v : Value}
    (h : Calls P f args (w.drewN n) fun e w' => e = .returned v ∧ w' = w.drewN n) : Calls P f args (w.drewN n) fun e w'' => e = .returned v ∧ ∃ m, w'' = w.drewN m :=
  h.mono fun _ _ ⟨he, hm⟩ => ⟨he, n, hm⟩
theorem quiet_dr {P : Program} {f : FuncId} {args : Array Value} {w : World} {n : Nat} {v : Value}
    (h : Calls P f args (w.drewN n) fun e w' => e = .returned v ∧ Drawn0 (w.drewN n) w') : Calls P f args (w.drewN n) fun e w'' => e = .returned v ∧ ∃ m, w'' = w.drewN m :=
  h.mono fun _ _ ⟨he, ⟨q, hq⟩⟩ => ⟨he, n + q, by rw [hq, World.drewN_drewN]⟩
theorem has_c (B S base size : Nat) (v : Value) (f0 : Int) (F : List S29) (w : World) (h : Rg w B S base v size f0 F) :
    Calls Try.prog 26 #[.pointer (some ⟨B, 0, none⟩)] w fun e w' => e = .returned (.pointer (some ⟨S, 0, none⟩)) ∧ w' = w := by
  obtain ⟨q0, q1, q2⟩ := h.cells
  replace h := Aside0.mk h
  go_enter Try.func26, Try.ntmps26
  go_wp2_with fail
  go_ret
  exact ⟨rfl, rfl⟩
theorem nilHas_c (w : World) : Calls Try.prog 26 #[.pointer none] w fun e w' => e = .returned (.pointer none) ∧ w' = w := by
  go_enter Try.func26, Try.ntmps26
  go_wp2_with fail
  go_ret
  exact ⟨rfl, rfl⟩
/-- the first frame; the last one -/
def fst (f0 : Int) (F : List S29) : Int := if F.length = 0 then -1 else f0
def lst (f0 : Int) (F : List S29) : Int := if F.length = 0 then -1 else f0 + (F.length : Int) - 1
theorem sFirst_c (B S base size : Nat) (v : Value) (f0 : Int) (F : List S29) (w : World) (h : Rg w B S base v size f0 F) :
    Calls Try.prog 28 #[.pointer (some ⟨S, 0, none⟩)] w fun e w' => e = .returned (.int .i64 (fst f0 F)) ∧ w' = w := by
  obtain ⟨q0, q1, q2⟩ := h.cells
  obtain ⟨A, c, rfl, hl, hC⟩ := h.slice
  unfold fst
  by_cases h0 : F.length = 0
  · rw [if_pos h0]
    rw [h0] at q2
    replace h := Aside0.mk h
    clear hC
    go_enter Try.func28, Try.ntmps28
    go_wp2_with fail
    go_ret
    exact ⟨rfl, rfl⟩
  · rw [if_neg h0]
    obtain ⟨ad, A1, c1, e1, hx0, hx1, _⟩ := at_T29 hC 0 (by omega) (by omega)
    subst e1
    have hc := h.con 0 (rd_T29 F 0) (by
      have h5 : rd_T29 F 0 = F[0] := by simp [rd_T29, List.getD_eq_getElem?_getD, List.getElem?_eq_getElem (show 0 < F.length by omega)]
      rw [h5]
      exact List.getElem?_eq_getElem _)
    rw [hc] at hx0
    have hx : w.cell? ad = some (.int .i64 f0) := by
      have h5 : w.cell? ad = some (.int .i64 (f0 + ((0 : Nat) : Int))) := hx0
      simpa using h5
    have z1 : ((F.length : Int) == 0) = false := beq_eq_false_iff_ne.2 (by omega)
    have z2 : (0 : Int) < (F.length : Int) := by omega
    replace h := Aside0.mk h
    clear hC hx0 hx1 hc
    go_enter Try.func28, Try.ntmps28
    go_wp2_with fail
    go_ret
    exact ⟨rfl, rfl⟩
theorem sLast_c (B S base size : Nat) (v : Value) (f0 : Int) (F : List S29) (w : World) (h : Rg w B S base v size f0 F) (hf : -1000000 ≤ f0 ∧ f0 ≤ 1000000) (hn : F.length ≤ 100000) :
    Calls Try.prog 27 #[.pointer (some ⟨S, 0, none⟩)] w fun e w' => e = .returned (.int .i64 (lst f0 F)) ∧ Drawn0 w w' := by
  obtain ⟨q0, q1, q2⟩ := h.cells
  obtain ⟨A, c, rfl, hl, hC⟩ := h.slice
  have k1 := fun m => sFirst_c B S base size _ f0 F (w.drewN m) (h.drewN m)
  unfold lst
  by_cases h0 : F.length = 0
  · rw [if_pos h0]
    rw [h0] at q2
    replace h := Aside0.mk h
    clear hC k1
    go_enter Try.func27, Try.ntmps27
    go_wp2_with fail
    go_ret
    exact ⟨rfl, Drawn0.refl _⟩
  · rw [if_neg h0]
    have e1 : fst f0 F = f0 := by unfold fst; rw [if_neg h0]
    rw [e1] at k1
    replace k1 := Aside0.mk k1
    have z1 : ((F.length : Int) == 0) = false := beq_eq_false_iff_ne.2 (by omega)
    have z3 : wrap64 (wrap64 (f0 + (F.length : Int)) - 1) = f0 + (F.length : Int) - 1 := by unfold wrap64; omega
    have z4 : wrap64 (f0 + (F.length : Int)) = f0 + (F.length : Int) := by unfold wrap64; omega
    have z5 : wrap64 (f0 + (F.length : Int) - 1) = f0 + (F.length : Int) - 1 := by unfold wrap64; omega
    replace h := Aside0.mk h
    clear hC e1
    go_enter Try.func27, Try.ntmps27
    go_wp2_with fail
    go_quiet ((go_at_call 28; exact quiet_at (k1.out _)))
    go_wp2_with fail
    go_ret
    exact ⟨rfl, ⟨_, rfl⟩⟩
theorem first_c (B S base size : Nat) (v : Value) (f0 : Int) (F : List S29) (w : World) (h : Rg w B S base v size f0 F) :
    Calls Try.prog 12 #[.pointer (some ⟨B, 0, none⟩)] w fun e w' => e = .returned (.int .i64 (fst f0 F)) ∧ w' = w := by
  have k1 := Aside0.mk (has_c B S base size v f0 F w h)
  have k2 := Aside0.mk (sFirst_c B S base size v f0 F w h)
  go_enter Try.func12, Try.ntmps12
  go_wp2_with (first | (go_at_call 26; (with_reducible refine k1.out.mono ?_); rintro e w' ⟨rfl, hw⟩; subst w') | (go_at_call 28; (with_reducible refine k2.out.mono ?_); rintro e w' ⟨rfl, hw⟩; subst w') | fail)
  go_ret
  exact ⟨rfl, rfl⟩
theorem last_c (B S base size : Nat) (v : Value) (f0 : Int) (F : List S29) (w : World) (h : Rg w B S base v size f0 F) (hf : -1000000 ≤ f0 ∧ f0 ≤ 1000000) (hn : F.length ≤ 100000) :
    Calls Try.prog 11 #[.pointer (some ⟨B, 0, none⟩)] w fun e w' => e = .returned (.int .i64 (lst f0 F)) ∧ Drawn0 w w' := by
  have k1 := Aside0.mk (has_c B S base size v f0 F w h)
  have k2 := Aside0.mk (sLast_c B S base size v f0 F w h hf hn)
  go_enter Try.func11, Try.ntmps11
  go_wp2_with (first | (go_at_call 26; (with_reducible refine k1.out.mono ?_); rintro e w' ⟨rfl, hw⟩; subst w') | (go_at_call 27; (with_reducible refine k2.out.mono ?_); rintro e w' ⟨rfl, hw⟩; replace hw := Aside0.mk hw) | fail)
  go_ret
  exact ⟨rfl, hw.out⟩
end Go.Proofs.Ytompkbganljbkaa.Rin
