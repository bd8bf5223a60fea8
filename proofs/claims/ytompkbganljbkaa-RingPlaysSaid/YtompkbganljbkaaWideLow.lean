/- Put before the first, for frames up to the bounds of int. -/
import Derived.Test.YtompkbganljbkaaWide
namespace Go.Proofs.Ytompkbganljbkaa.Rin
open Go Go.RowKit Go.Proofs.Ytompkbganljbkaa.PRingPlays Go.Proofs.YtompkbganljbkaaW.PrintWords Go.Proofs.YtompkbganljbkaaW.PrintLast Go.Proofs.YtompkbganljbkaaW.PrintMore
set_option linter.unusedVariables false
set_option linter.unusedSimpArgs false
set_option maxRecDepth 100000
set_option maxHeartbeats 8000000
theorem putLowW_c (f : Int) (A : Option Addr) (n c : Nat) (B S base size : Nat) (v : Value) (f0 : Int) (F : List S29) (w : World) (h : Rg w B S base v size f0 F) (hf0 : -9223372036854775808 ≤ f0 ∧ f0 + (F.length : Int) ≤ 9223372036854775808) (h0 : 0 < F.length) (hF : F.length ≤ 1000) (hf : f < f0) :
    Calls Try.prog 9 #[.pointer (some ⟨B, 0, none⟩), .agg #[.int .i64 f, .slice A n c]] w fun e w' => e = .returned (.bool false) ∧ Below w.heap.size w w' := by
  have hB1 := Aside0.mk ((Below.refl w.heap.size w).alloc (Nat.le_refl _) (.cells #[.int .i64 f, .slice A n c] 29))
  have e0 := Aside0.mk (heap_alloc_new w (.cells #[.int .i64 f, .slice A n c] 29))
  obtain ⟨q0, q1, q2⟩ := h.cells
  obtain ⟨A0, c0, rfl, hl, _⟩ := h.slice
  have hfr := Aside0.mk (fun W (hb : Below w.heap.size w W) => (⟨(World.cell?_of_block (hb.block B (blk_lt' h.box))).trans q0, (World.cell?_of_block (hb.block B (blk_lt' h.box))).trans q1, (World.cell?_of_block (hb.block S (blk_lt' h.st))).trans q2⟩ : W.cell? ⟨B, 0, none⟩ = some (.pointer (some ⟨S, 0, none⟩)) ∧ W.cell? ⟨B, 1, none⟩ = some (.int .i64 (size : Int)) ∧ W.cell? ⟨S, 0, none⟩ = some (.slice A0 F.length c0)))
  have hh := Aside0.mk h
  clear h
  clear q0 q1 q2
  obtain ⟨q0, q1, q2⟩ := hfr.out _ hB1.out
  have ka := Aside0.mk (atLow_c f B S base size _ f0 F _ (hh.out.below hB1.out) h0 hf)
  have z1 : (0 : Int) < (F.length : Int) := by omega
  obtain ⟨l, hl⟩ : ∃ l, l = f0 + (F.length : Int) - 1 := ⟨_, rfl⟩
  have kl := fun W (hR : Rg W B S base (.slice A0 F.length c0) size f0 F) => lastW_c B S base size _ f0 F W hR hf0 (by omega)
  have e2 : lst f0 F = l := by unfold lst; rw [if_neg (by omega), hl]
  rw [e2] at kl
  replace kl := Aside0.mk kl
  have z2 : f ≤ l := by omega
  have zb1 : decide ((0 : Int) < (F.length : Int)) = true := decide_eq_true z1
  have zb2 : decide (0 < F.length) = true := decide_eq_true (by omega)
  have zb3 : decide (f ≤ l) = true := decide_eq_true z2
  clear hf hl e2
  go_enter Try.func9, Try.ntmps9
  go_wp2_with (first
    | (go_at_call 23; (with_reducible refine ka.out.mono ?_); rintro e w1 ⟨rfl, hd⟩; have hd1 := Aside0.mk (below_then hB1.out hB1.out.size hd.below); obtain ⟨p0, p1, p2⟩ := hfr.out w1 hd1.out; have e1 := Aside0.mk ((hd.below.block _ (blk_lt' e0.out)).trans e0.out); have p3 := blk_cell' e1.out 0; have p4 := blk_cell' e1.out 1; simp at p3 p4; clear hd)
    | fail)
  have hR1 := Aside0.mk (hh.out.below hd1.out)
  go_quiet ((go_at_call 11; exact quiet_dr (kl.out _ (hR1.out.drewN _))))
  go_wp2_with fail
  go_ret
  exact ⟨rfl, pw_below_drewN hd1.out _⟩
end Go.Proofs.Ytompkbganljbkaa.Rin
