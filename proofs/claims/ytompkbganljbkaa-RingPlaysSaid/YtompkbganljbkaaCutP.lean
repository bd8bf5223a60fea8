/- Cut; Put over a frame that is there. -/
import Derived.Test.YtompkbganljbkaaDelF
namespace Go.Proofs.Ytompkbganljbkaa.Rin
open Go Go.RowKit Go.Proofs.Ytompkbganljbkaa.PRingPlays Go.Proofs.YtompkbganljbkaaW.PrintWords Go.Proofs.YtompkbganljbkaaW.PrintLast Go.Proofs.YtompkbganljbkaaW.PrintMore
set_option linter.unusedVariables false
set_option linter.unusedSimpArgs false
theorem rd29 (F : List S29) (k : Nat) (hk : k < F.length) : rd_T29 F (k : Int) = F[k] := by simp [rd_T29, List.getD_eq_getElem?_getD, List.getElem?_eq_getElem hk]
set_option maxRecDepth 100000 in
set_option maxHeartbeats 4000000 in
/-- the first i0 frames stay -/
theorem cut_c (f : Int) (B S base size : Nat) (v : Value) (f0 : Int) (F : List S29) (w0 w : World) (h : Rg w B S base v size f0 F) (HB : Below base w0 w) (hbase : base ≤ w.heap.size) (hF : F.length ≤ 100000) (i0 : Nat) (hi : i0 < F.length) (hlo : ∀ k : Nat, k < i0 → f0 + (k : Int) ≤ f) (hhi : f < f0 + (i0 : Int)) :
    Calls Try.prog 14 #[.pointer (some ⟨B, 0, none⟩), .int .i64 f] w fun e w' => e = .returned (.tuple #[]) ∧ (∃ v', Rg w' B S base v' size f0 (F.take i0) ∧ v'.ownBlock = v.ownBlock) ∧ Below base w0 w' ∧ Fr w w' B S v ∧ w.heap.size ≤ w'.heap.size := by
  have hBw := Aside0.mk ((Below.refl w.heap.size w).alloc (Nat.le_refl _) (.cells #[.int .i64 f] 3))
  have e0 := heap_alloc_new w (.cells #[.int .i64 f] 3)
  have hsz : (w.alloc (.cells #[.int .i64 f] 3)).heap.size = w.heap.size + 1 := Array.size_push _
  have h1 : Rg (w.alloc (.cells #[.int .i64 f] 3)) B S base v size f0 F := h.below hBw.out
  have k1 := Aside0.mk (has_c B S base size v f0 F _ h1)
  have hne := Aside0.mk h.ne
  obtain ⟨A, c, rfl, hl, hC⟩ := h1.slice
  obtain ⟨ad, A1, c1, e1, _⟩ := at_T29 hC 0 (by omega) (by omega)
  subst e1
  obtain ⟨g, rfl⟩ := R_home h1.row
  have kd := Aside0.mk (delf_c f g F.length c base w.heap.size (fun _ => True) F i0 w0 (w.alloc (.cells #[.int .i64 f] 3)) hi hF h1.row (HB.alloc hbase _) (by omega) e0
    (fun k hk => by rw [rd29 F k (by omega), h.con k F[k] (List.getElem?_eq_getElem _)]; exact hlo k hk)
    (fun k hk1 hk2 => by rw [rd29 F k (by omega), h.con k F[k] (List.getElem?_eq_getElem _)]; omega))
  obtain ⟨q0, q1, q2⟩ := h1.cells
  have hS := Aside0.mk (blk_lt' h1.st)
  have hBb := Aside0.mk (blk_lt' h1.box)
  have hst := Aside0.mk h1.st
  have hbx := Aside0.mk h1.box
  replace h := Aside0.mk h
  replace hsz := Aside0.mk hsz
  clear h1 hC e0 hl hlo hhi
  go_enter Try.func14, Try.ntmps14
  go_wp2_with (first
    | (go_at_call 26; (with_reducible refine k1.out.mono ?_); rintro e w' ⟨rfl, hw⟩; subst w')
    | (go_at_call 31; (with_reducible refine kd.out.mono ?_); rintro e w1 ⟨rfl, hR, hB1, hg⟩; have hx := (hg.block S hS.out (fun e => hne.out.2.1 e)).trans hst.out; have hy := Aside0.mk ((hg.block B hBb.out (fun e => hne.out.1 e)).trans hbx.out); have r0 := blk_cell' hx 0; have g0 : w1.frozen? ⟨S, 0, none⟩ = false := (by simp [World.frozen?, hx]); simp at r0; replace hx := Aside0.mk hx; replace hR := Aside0.mk hR; replace hB1 := Aside0.mk hB1; replace hg := Aside0.mk hg)
    | fail)
  go_end0
  refine ⟨rfl, ⟨.slice (some ⟨g, 0, none⟩) i0 c, ⟨?_, ?_, Kd.R_set hR.out hx.out (fun q hq => (types52 q hq).2) 0 _, h.out.hb, h.out.hs, fun j y hy => ?_⟩, rfl⟩, hB1.out.setCell (p := ⟨S, 0, none⟩) h.out.hs _, fun b hb1 hb2 hb3 hb4 => ?_, ?_⟩
  · exact blk_far hy.out (p := ⟨S, 0, none⟩) hne.out.2.2 _
  · have := blk_set hx.out 0 (.slice (some ⟨g, 0, none⟩) i0 c)
    simpa using this
  · rw [List.getElem?_take] at hy
    split at hy
    · exact h.out.con j y hy
    · cases hy
  · rw [Below.heap_setCell _ _ _ _ hb3, hg.out.block b (by rw [hsz.out]; omega) (fun e => hb4 e), hBw.out.block b hb1]
  · have h1 := hg.out.size
    rw [hsz.out] at h1
    have h2 : (w1.setCell ⟨S, 0, none⟩ (.slice (some ⟨g, 0, none⟩) i0 c)).heap.size = w1.heap.size := by simp [World.setCell]
    rw [h2]
    omega
end Go.Proofs.Ytompkbganljbkaa.Rin
