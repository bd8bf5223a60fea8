/- A ring of one region, whatever its frame: Last, at, Get. -/
import Derived.Test.YtompkbganljbkaaGet
namespace Go.Proofs.Ytompkbganljbkaa.Rin
open Go Go.RowKit Go.Proofs.Ytompkbganljbkaa.PRingPlays Go.Proofs.YtompkbganljbkaaW.PrintWords Go.Proofs.YtompkbganljbkaaW.PrintLast Go.Proofs.YtompkbganljbkaaW.PrintMore
set_option linter.unusedVariables false
set_option linter.unusedSimpArgs false
theorem wrap_back (f : Int) (h0 : -9223372036854775808 ≤ f) (h1 : f ≤ 9223372036854775807) : wrap64 (wrap64 (f + 1) - 1) = f := by unfold wrap64; omega
theorem sLast1_c (B S base size : Nat) (v : Value) (f : Int) (x : S29) (w : World) (h : Rg w B S base v size f [x]) (hw0 : -9223372036854775808 ≤ f) (hw1 : f ≤ 9223372036854775807) :
    Calls Try.prog 27 #[.pointer (some ⟨S, 0, none⟩)] w fun e w' => e = .returned (.int .i64 f) ∧ Drawn0 w w' := by
  obtain ⟨q0, q1, q2⟩ := h.cells
  obtain ⟨A, c, rfl, hl, hC⟩ := h.slice
  have k1 := fun m => sFirst_c B S base size _ f [x] (w.drewN m) (h.drewN m)
  have e1 : fst f [x] = f := rfl
  rw [e1] at k1
  have q2' : w.cell? ⟨S, 0, none⟩ = some (.slice A 1 c) := q2
  replace k1 := Aside0.mk k1
  have z3 := wrap_back f hw0 hw1
  replace h := Aside0.mk h
  clear hC e1 q2 hl
  go_enter Try.func27, Try.ntmps27
  go_wp2_with fail
  go_quiet ((go_at_call 28; exact quiet_at (k1.out _)))
  go_wp2_with fail
  go_ret
  exact ⟨by first | rfl | (simp only [z3]; rfl), ⟨_, rfl⟩⟩
set_option maxRecDepth 100000 in
set_option maxHeartbeats 4000000 in
theorem at1_c (f : Int) (B S base size : Nat) (v : Value) (x : S29) (w : World) (h : Rg w B S base v size f [x]) (hw0 : -9223372036854775808 ≤ f) (hw1 : f ≤ 9223372036854775807) :
    Calls Try.prog 23 #[.pointer (some ⟨B, 0, none⟩), .int .i64 f] w fun e w' => e = .returned (.tuple #[.int .i64 0, .bool true]) ∧ Drawn0 w w' := by
  have k1 := Aside0.mk (has_c B S base size v f [x] w h)
  have k2 := fun W (hR : Rg W B S base v size f [x]) => sFirst_c B S base size v f [x] W hR
  have k3 := sLast1_c B S base size v f x w h hw0 hw1
  have e1 : fst f [x] = f := rfl
  rw [e1] at k2
  replace k2 := Aside0.mk k2
  replace k3 := Aside0.mk k3
  obtain ⟨q0, q1, q2⟩ := h.cells
  obtain ⟨A, c, rfl, hl, hC⟩ := h.slice
  have q2' : w.cell? ⟨S, 0, none⟩ = some (.slice A 1 c) := q2
  have z2 : ¬ (f < f) := by omega
  have z4 : wrap64 (f - f) = 0 := by unfold wrap64; omega
  have z5 : wrap64 0 = 0 := by unfold wrap64; omega
  have hR := Aside0.mk h
  clear h hC e1 q2 hl
  go_enter Try.func23, Try.ntmps23
  go_wp2_with (first | (go_at_call 26; (with_reducible refine k1.out.mono ?_); rintro e w' ⟨rfl, hw⟩; subst w') | (go_at_call 28; (with_reducible refine (k2.out w hR.out).mono ?_); rintro e w' ⟨rfl, hw⟩; subst w') | (go_at_call 27; (with_reducible refine k3.out.mono ?_); rintro e w3 ⟨rfl, hd⟩; have hR3 := Aside0.mk (hR.out.drawn hd); replace hd := Aside0.mk hd) | (go_at_call 28; (with_reducible refine (k2.out w3 hR3.out).mono ?_); rintro e w' ⟨rfl, hw⟩; subst w') | fail)
  go_ret2
  exact ⟨rfl, hd.out⟩
set_option maxRecDepth 100000 in
set_option maxHeartbeats 4000000 in
theorem get1_c (f : Int) (B S base size : Nat) (v : Value) (x : S29) (w : World) (h : Rg w B S base v size f [x]) (hw0 : -9223372036854775808 ≤ f) (hw1 : f ≤ 9223372036854775807) (hl36 : x.f1.length ≤ 100000) :
    Calls Try.prog 10 #[.pointer (some ⟨B, 0, none⟩), .int .i64 f] w fun e w' => (∃ A' c', e = .returned (.tuple #[.agg #[.int .i64 f, .slice A' x.f1.length c'], .bool true]) ∧ Kd.R k36 36 w' w.heap.size (fun _ => True) (.slice A' x.f1.length c') x.f1) ∧ Below w.heap.size w w' := by
  have ka := Aside0.mk (fun W (hb : Below w.heap.size w W) => at1_c f B S base size v x W (h.below hb) hw0 hw1)
  obtain ⟨A, c, rfl, hl, hC⟩ := h.slice
  obtain ⟨ad, A1, c1, e1, hx0, hx1, hlc, hC1⟩ := at_T29 hC 0 (by omega) (by simp)
  subst e1
  obtain ⟨g, rfl⟩ := R_home h.row
  have hrd : rd_T29 [x] 0 = x := rfl
  rw [hrd] at hx0 hx1 hlc hC1
  have hcon : x.f0 = f := by have h5 := h.con 0 x rfl; simpa using h5
  rw [Addr.add_lit, Nat.zero_add] at hx0 hx1
  rw [hcon] at hx0
  have hgl : g < w.heap.size := ((Kd.R_bound h.row).1 g rfl).2.2.1
  obtain ⟨q0, q1, q2⟩ := h.cells
  generalize x.f1 = xs at *
  have hcell : Aside0 (∀ W, Below w.heap.size w W → W.cell? ⟨B, 0, none⟩ = some (.pointer (some ⟨S, 0, none⟩)) ∧ W.cell? ⟨S, 0, none⟩ = some (.slice (some ⟨g, 0, none⟩) 1 c) ∧ W.cell? ⟨g, 0, none⟩ = some (.int .i64 f) ∧ W.cell? ⟨g, 1, none⟩ = some (.slice A1 xs.length c1)) := ⟨fun W hb =>
    ⟨(World.cell?_of_block (hb.block B (blk_lt' h.box))).trans q0, (World.cell?_of_block (hb.block S (blk_lt' h.st))).trans q2, (World.cell?_of_block (hb.block g hgl)).trans hx0, (World.cell?_of_block (hb.block g hgl)).trans hx1⟩⟩
  have ko := Aside0.mk (fun W (hb : Below w.heap.size w W) => own_c f A1 xs.length c1 xs W (Kd.C_below hC1 hb) hl36)
  clear hC hC1 hx0 hx1 hcon hrd q0 q1 q2 hl36
  replace h := Aside0.mk h
  replace hlc := Aside0.mk hlc
  have hB1 := Aside0.mk ((Below.refl w.heap.size w).alloc (Nat.le_refl _) (.cells #[.int .i64 0, .slice none 0 0] 29))
  have e0 := Aside0.mk (heap_alloc_new w (.cells #[.int .i64 0, .slice none 0 0] 29))
  go_enter Try.func10, Try.ntmps10
  go_wp2_with (first
    | (go_at_call 23; (with_reducible refine (ka.out _ hB1.out).mono ?_); rintro e w1 ⟨rfl, hd⟩; have hb1 := Aside0.mk (below_then hB1.out hB1.out.size hd.below); have x1 := Aside0.mk ((hd.below.block _ (blk_lt' e0.out)).trans e0.out); obtain ⟨q0, q1, q2, q3⟩ := hcell.out w1 hb1.out; clear hd)
    | (go_at_call 24; (with_reducible refine (ko.out w1 hb1.out).mono ?_); rintro e w2 ⟨⟨A2, c2, rfl, hR2⟩, hb2⟩; have x2 := (hb2.block _ (blk_lt' x1.out)).trans x1.out; have p0 := blk_cell' x2 0; have p1 := blk_cell' x2 1; have ff : ∀ j, w2.frozen? ⟨w.heap.size, j, none⟩ = false := (fun j => by simp [World.frozen?, x2]); simp at p0 p1; replace x2 := Aside0.mk x2; replace hR2 := Aside0.mk hR2; replace hb2 := Aside0.mk hb2)
    | fail)
  have x3 : ((w2.setCell ⟨w.heap.size, 0, none⟩ (.int .i64 f)).setCell ⟨w.heap.size, 1, none⟩ (.slice A2 xs.length c2)).heap[w.heap.size]? = some (.cells #[.int .i64 f, .slice A2 xs.length c2] 29 (0, 0)) := by
    have h := blk_set (blk_set x2.out 0 (.int .i64 f)) 1 (.slice A2 xs.length c2)
    simpa using h
  refine bodyPost_ret (results_ct (p := 4) (u := 5) (ty := 29) rfl _ _ w.heap.size 29 #[.int .i64 f, .slice A2 xs.length c2] (0, 0) _ rfl x3 Try.underlying29 rfl (by kernel_rfl)) rfl ?_
  have hw1 : w.heap.size < w1.heap.size := blk_lt' x1.out
  have far : ∀ (W : World) (p : Addr) (u : Value), p.block < w1.heap.size → Kd.R k36 36 W w1.heap.size (fun _ => True) (.slice A2 xs.length c2) xs → Kd.R k36 36 (W.setCell p u) w1.heap.size (fun _ => True) (.slice A2 xs.length c2) xs := fun W p u hp h => Kd.R_mono (Kd.R_far (Kd.R_bound h) (fun k hk => by have := hk.2.1; omega) u) (fun _ _ => trivial)
  exact ⟨⟨A2, c2, rfl, Kd.R_lower (far _ _ _ hw1 (far _ _ _ hw1 hR2.out)) hb1.out.size⟩, ((below_then hb1.out hb1.out.size hb2.out).setCell (p := ⟨w.heap.size, 0, none⟩) (Nat.le_refl _) _).setCell (p := ⟨w.heap.size, 1, none⟩) (Nat.le_refl _) _⟩
end Go.Proofs.Ytompkbganljbkaa.Rin
