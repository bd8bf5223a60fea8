/- The contract of Get. -/
import Derived.Test.YtompkbganljbkaaAt
namespace Go.Proofs.Ytompkbganljbkaa.Rin
open Go Go.RowKit Go.Proofs.Ytompkbganljbkaa.PRingPlays Go.Proofs.YtompkbganljbkaaW.PrintWords Go.Proofs.YtompkbganljbkaaW.PrintLast Go.Proofs.YtompkbganljbkaaW.PrintMore
set_option linter.unusedVariables false
set_option linter.unusedSimpArgs false
theorem R_home {α : Type} {d : Kd α} {e n c base : Nat} {W : World} {ok : Nat → Prop} {xs : List α} {ad : Addr} (h : d.R e W base ok (.slice (some ad) n c) xs) : ∃ g, ad = ⟨g, 0, none⟩ := by
  obtain ⟨_, inner, hown, _⟩ := h
  rcases hown.2 with ⟨hv, _⟩ | ⟨g', cap', cur, hv, _⟩
  · cases hv
  · injection hv with ha _ _
    injection ha with ha
    exact ⟨g', ha⟩
set_option maxRecDepth 100000 in
set_option maxHeartbeats 4000000 in
theorem getOut_c (p : Value) (f : Int) (w : World) (ka : ∀ W, Below w.heap.size w W → Calls Try.prog 23 #[p, .int .i64 f] W fun e w' => e = .returned (.tuple #[.int .i64 0, .bool false]) ∧ Drawn0 W w') :
    Calls Try.prog 10 #[p, .int .i64 f] w fun e w' => e = .returned (.tuple #[.agg #[.int .i64 0, .slice none 0 0], .bool false]) ∧ Below w.heap.size w w' := by
  replace ka := Aside0.mk ka
  have hB1 := Aside0.mk ((Below.refl w.heap.size w).alloc (Nat.le_refl _) (.cells #[.int .i64 0, .slice none 0 0] 29))
  have e0 := Aside0.mk (heap_alloc_new w (.cells #[.int .i64 0, .slice none 0 0] 29))
  go_enter Try.func10, Try.ntmps10
  go_wp2_with (first | (go_at_call 23; (with_reducible refine (ka.out _ hB1.out).mono ?_); rintro e w1 ⟨rfl, hd⟩; have hb1 := Aside0.mk (below_then hB1.out hB1.out.size hd.below); have x1 := (hd.below.block _ (blk_lt' e0.out)).trans e0.out; have q0 := blk_cell' x1 0; have q1 := blk_cell' x1 1; have ff : ∀ j, w1.frozen? ⟨w.heap.size, j, none⟩ = false := (fun j => by simp [World.frozen?, x1]); simp at q0 q1; replace x1 := Aside0.mk x1; clear hd) | fail)
  have x2 : ((w1.setCell ⟨w.heap.size, 0, none⟩ (.int .i64 0)).setCell ⟨w.heap.size, 1, none⟩ (.slice none 0 0)).heap[w.heap.size]? = some (.cells #[.int .i64 0, .slice none 0 0] 29 (0, 0)) := by
    have h := blk_set (blk_set x1.out 0 (.int .i64 0)) 1 (.slice none 0 0)
    simpa using h
  refine bodyPost_ret (results_ct (p := 4) (u := 5) (ty := 29) rfl _ _ w.heap.size 29 #[.int .i64 0, .slice none 0 0] (0, 0) _ rfl x2 Try.underlying29 rfl (by kernel_rfl)) rfl ?_
  exact ⟨rfl, (hb1.out.setCell (p := ⟨w.heap.size, 0, none⟩) (Nat.le_refl _) _).setCell (p := ⟨w.heap.size, 1, none⟩) (Nat.le_refl _) _⟩
set_option maxRecDepth 100000 in
set_option maxHeartbeats 4000000 in
theorem getIn_c (f : Int) (B S base size : Nat) (v : Value) (f0 : Int) (F : List S29) (w : World) (h : Rg w B S base v size f0 F) (hf : -1000000 ≤ f0 ∧ f0 ≤ 1000000) (hn : F.length ≤ 100000) (j : Nat) (hj : j < F.length) (hfj : f = f0 + (j : Int)) (hl36 : F[j].f1.length ≤ 100000) :
    Calls Try.prog 10 #[.pointer (some ⟨B, 0, none⟩), .int .i64 f] w fun e w' => (∃ A' c', e = .returned (.tuple #[.agg #[.int .i64 f, .slice A' F[j].f1.length c'], .bool true]) ∧ Kd.R k36 36 w' w.heap.size (fun _ => True) (.slice A' F[j].f1.length c') F[j].f1) ∧ Below w.heap.size w w' := by
  have ka := Aside0.mk (fun W (hb : Below w.heap.size w W) => atIn_c f B S base size v f0 F W (h.below hb) hf hn j hj hfj)
  obtain ⟨A, c, rfl, hl, hC⟩ := h.slice
  obtain ⟨ad, A1, c1, e1, hx0, hx1, hlc, hC1⟩ := at_T29 hC (j : Int) (by omega) (by omega)
  subst e1
  obtain ⟨g, rfl⟩ := R_home h.row
  have hrd : rd_T29 F (j : Int) = F[j] := by simp [rd_T29, List.getD_eq_getElem?_getD, List.getElem?_eq_getElem hj]
  rw [hrd] at hx0 hx1 hlc hC1
  have hcon := h.con j F[j] (List.getElem?_eq_getElem hj)
  rw [Int.toNat_natCast, Addr.add_lit, Nat.zero_add] at hx0 hx1
  rw [hcon, ← hfj] at hx0
  have hgl : g < w.heap.size := ((Kd.R_bound h.row).1 g rfl).2.2.1
  obtain ⟨q0, q1, q2⟩ := h.cells
  generalize F[j].f1 = xs at *
  have hcell : Aside0 (∀ W, Below w.heap.size w W → W.cell? ⟨B, 0, none⟩ = some (.pointer (some ⟨S, 0, none⟩)) ∧ W.cell? ⟨S, 0, none⟩ = some (.slice (some ⟨g, 0, none⟩) F.length c) ∧ W.cell? ⟨g, j * 2, none⟩ = some (.int .i64 f) ∧ W.cell? ⟨g, j * 2 + 1, none⟩ = some (.slice A1 xs.length c1)) := ⟨fun W hb =>
    ⟨(World.cell?_of_block (hb.block B (blk_lt' h.box))).trans q0, (World.cell?_of_block (hb.block S (blk_lt' h.st))).trans q2, (World.cell?_of_block (hb.block g hgl)).trans hx0, (World.cell?_of_block (hb.block g hgl)).trans hx1⟩⟩
  have ko := Aside0.mk (fun W (hb : Below w.heap.size w W) => own_c f A1 xs.length c1 xs W (Kd.C_below hC1 hb) hl36)
  have z1 : (0 : Int) ≤ (j : Int) := by omega
  have z2 : (j : Int) < (F.length : Int) := by omega
  clear hC hC1 hx0 hx1 hcon hrd q0 q1 q2 hfj hl36
  replace h := Aside0.mk h
  replace hlc := Aside0.mk hlc
  have hB1 := Aside0.mk ((Below.refl w.heap.size w).alloc (Nat.le_refl _) (.cells #[.int .i64 0, .slice none 0 0] 29))
  have e0 := Aside0.mk (heap_alloc_new w (.cells #[.int .i64 0, .slice none 0 0] 29))
  go_enter Try.func10, Try.ntmps10
  go_wp2_with (first
    | (go_at_call 23; (with_reducible refine (ka.out _ hB1.out).mono ?_); rintro e w1 ⟨rfl, hd⟩; have hb1 := Aside0.mk (below_then hB1.out hB1.out.size hd.below); have x1 := Aside0.mk ((hd.below.block _ (blk_lt' e0.out)).trans e0.out); obtain ⟨q0, q1, q2, q3⟩ := hcell.out w1 hb1.out; clear hd)
    | (go_at_call 24; (with_reducible refine (ko.out w1 hb1.out).mono ?_); rintro e w2 ⟨⟨A2, c2, rfl, hR2⟩, hb2⟩; have x2 := (hb2.block _ (blk_lt' x1.out)).trans x1.out; have p0 := blk_cell' x2 0; have p1 := blk_cell' x2 1; have ff : ∀ j, w2.frozen? ⟨w.heap.size, j, none⟩ = false := (fun j => by simp [World.frozen?, x2]); simp at p0 p1; replace x2 := Aside0.mk x2; replace hR2 := Aside0.mk hR2; replace hb2 := Aside0.mk hb2)
    | fail)
  have x3 : ((w2.setCell ⟨w.heap.size, 0, none⟩ (.int .i64 f)).setCell ⟨w.heap.size, 1, none⟩ (.slice A2 xs.length c2)).heap[w.heap.size]? = some (.cells #[.int .i64 f, .slice A2 xs.length c2] 29 (0, 0)) := by
    have h := blk_set (blk_set x2.out 0 (.int .i64 f)) 1 (.slice A2 xs.length c2)
    simpa using h
  refine bodyPost_ret (results_ct (p := 4) (u := 5) (ty := 29) rfl _ _ w.heap.size 29 #[.int .i64 f, .slice A2 xs.length c2] (0, 0) _ rfl x3 Try.underlying29 rfl (by kernel_rfl)) rfl ?_
  have hw1 : w.heap.size < w1.heap.size := blk_lt' x1.out
  have far : ∀ (W : World) (p : Addr) (u : Value), p.block < w1.heap.size → Kd.R k36 36 W w1.heap.size (fun _ => True) (.slice A2 xs.length c2) xs → Kd.R k36 36 (W.setCell p u) w1.heap.size (fun _ => True) (.slice A2 xs.length c2) xs := fun W p u hp h => Kd.R_mono (Kd.R_far (Kd.R_bound h) (fun k hk => by have := hk.2.1; omega) u) (fun _ _ => trivial)
  exact ⟨⟨A2, c2, rfl, Kd.R_lower (far _ _ _ hw1 (far _ _ _ hw1 hR2.out)) hb1.out.size⟩, ((below_then hb1.out hb1.out.size hb2.out).setCell (p := ⟨w.heap.size, 0, none⟩) (Nat.le_refl _) _).setCell (p := ⟨w.heap.size, 1, none⟩) (Nat.le_refl _) _⟩
end Go.Proofs.Ytompkbganljbkaa.Rin
