/- Get and Put of a frame that is there, for frames up to the bounds of int. -/
import Derived.Test.YtompkbganljbkaaWide
namespace Go.Proofs.Ytompkbganljbkaa.Rin
open Go Go.RowKit Go.Proofs.Ytompkbganljbkaa.PRingPlays Go.Proofs.YtompkbganljbkaaW.PrintWords Go.Proofs.YtompkbganljbkaaW.PrintLast Go.Proofs.YtompkbganljbkaaW.PrintMore
set_option linter.unusedVariables false
set_option linter.unusedSimpArgs false
set_option maxRecDepth 100000
set_option maxHeartbeats 8000000
theorem getInW_c (f : Int) (B S base size : Nat) (v : Value) (f0 : Int) (F : List S29) (w : World) (h : Rg w B S base v size f0 F) (hf : -9223372036854775808 ≤ f0 ∧ f0 + (F.length : Int) ≤ 9223372036854775808) (hn : F.length ≤ 100000) (j : Nat) (hj : j < F.length) (hfj : f = f0 + (j : Int)) (hl36 : F[j].f1.length ≤ 100000) :
    Calls Try.prog 10 #[.pointer (some ⟨B, 0, none⟩), .int .i64 f] w fun e w' => (∃ A' c', e = .returned (.tuple #[.agg #[.int .i64 f, .slice A' F[j].f1.length c'], .bool true]) ∧ Kd.R k36 36 w' w.heap.size (fun _ => True) (.slice A' F[j].f1.length c') F[j].f1) ∧ Below w.heap.size w w' := by
  have ka := Aside0.mk (fun W (hb : Below w.heap.size w W) => atInW_c f B S base size v f0 F W (h.below hb) hf hn j hj hfj)
  obtain ⟨A, c, rfl, hl, hC⟩ := h.slice
  obtain ⟨ad, A1, c1, e1, hx0, hx1, hlc, hC1⟩ := at_T29 hC (j : Int) (by omega) (by omega)
  subst e1
  obtain ⟨g, rfl⟩ := R_home h.row
  have hrd : rd_T29 F (j : Int) = F[j] := by simp [rd_T29, List.getD_eq_getElem?_getD, List.getElem?_eq_getElem hj]
  rw [hrd] at hx0 hx1 hlc hC1
  have hcon := h.con j F[j] (List.getElem?_eq_getElem hj)
  rw [Int.toNat_natCast, Addr.add_lit, Nat.zero_add] at hx0 hx1
  rw [hcon, ← hfj] at hx0
  have hgl : g < w.heap.size := ((Kd.R_bound h.row).1 g rfl).2.2.1
  obtain ⟨q0, q1, q2⟩ := h.cells
  generalize F[j].f1 = xs at *
  have hcell : Aside0 (∀ W, Below w.heap.size w W → W.cell? ⟨B, 0, none⟩ = some (.pointer (some ⟨S, 0, none⟩)) ∧ W.cell? ⟨S, 0, none⟩ = some (.slice (some ⟨g, 0, none⟩) F.length c) ∧ W.cell? ⟨g, j * 2, none⟩ = some (.int .i64 f) ∧ W.cell? ⟨g, j * 2 + 1, none⟩ = some (.slice A1 xs.length c1)) := ⟨fun W hb =>
    ⟨(World.cell?_of_block (hb.block B (blk_lt' h.box))).trans q0, (World.cell?_of_block (hb.block S (blk_lt' h.st))).trans q2, (World.cell?_of_block (hb.block g hgl)).trans hx0, (World.cell?_of_block (hb.block g hgl)).trans hx1⟩⟩
  have ko := Aside0.mk (fun W (hb : Below w.heap.size w W) => own_c f A1 xs.length c1 xs W (Kd.C_below hC1 hb) hl36)
  have z1 : (0 : Int) ≤ (j : Int) := by omega
  have z2 : (j : Int) < (F.length : Int) := by omega
  clear hC hC1 hx0 hx1 hcon hrd q0 q1 q2 hfj hl36
  replace h := Aside0.mk h
  replace hlc := Aside0.mk hlc
  have hB1 := Aside0.mk ((Below.refl w.heap.size w).alloc (Nat.le_refl _) (.cells #[.int .i64 0, .slice none 0 0] 29))
  have e0 := Aside0.mk (heap_alloc_new w (.cells #[.int .i64 0, .slice none 0 0] 29))
  go_enter Try.func10, Try.ntmps10
  go_wp2_with (first
    | (go_at_call 23; (with_reducible refine (ka.out _ hB1.out).mono ?_); rintro e w1 ⟨rfl, hd⟩; have hb1 := Aside0.mk (below_then hB1.out hB1.out.size hd.below); have x1 := Aside0.mk ((hd.below.block _ (blk_lt' e0.out)).trans e0.out); obtain ⟨q0, q1, q2, q3⟩ := hcell.out w1 hb1.out; clear hd)
    | (go_at_call 24; (with_reducible refine (ko.out w1 hb1.out).mono ?_); rintro e w2 ⟨⟨A2, c2, rfl, hR2⟩, hb2⟩; have x2 := (hb2.block _ (blk_lt' x1.out)).trans x1.out; have p0 := blk_cell' x2 0; have p1 := blk_cell' x2 1; have ff : ∀ j, w2.frozen? ⟨w.heap.size, j, none⟩ = false := (fun j => by simp [World.frozen?, x2]); simp at p0 p1; replace x2 := Aside0.mk x2; replace hR2 := Aside0.mk hR2; replace hb2 := Aside0.mk hb2)
    | fail)
  have x3 : ((w2.setCell ⟨w.heap.size, 0, none⟩ (.int .i64 f)).setCell ⟨w.heap.size, 1, none⟩ (.slice A2 xs.length c2)).heap[w.heap.size]? = some (.cells #[.int .i64 f, .slice A2 xs.length c2] 29 (0, 0)) := by
    have h := blk_set (blk_set x2.out 0 (.int .i64 f)) 1 (.slice A2 xs.length c2)
    simpa using h
  refine bodyPost_ret (results_ct (p := 4) (u := 5) (ty := 29) rfl _ _ w.heap.size 29 #[.int .i64 f, .slice A2 xs.length c2] (0, 0) _ rfl x3 Try.underlying29 rfl (by kernel_rfl)) rfl ?_
  have hw1 : w.heap.size < w1.heap.size := blk_lt' x1.out
  have far : ∀ (W : World) (p : Addr) (u : Value), p.block < w1.heap.size → Kd.R k36 36 W w1.heap.size (fun _ => True) (.slice A2 xs.length c2) xs → Kd.R k36 36 (W.setCell p u) w1.heap.size (fun _ => True) (.slice A2 xs.length c2) xs := fun W p u hp h => Kd.R_mono (Kd.R_far (Kd.R_bound h) (fun k hk => by have := hk.2.1; omega) u) (fun _ _ => trivial)
  exact ⟨⟨A2, c2, rfl, Kd.R_lower (far _ _ _ hw1 (far _ _ _ hw1 hR2.out)) hb1.out.size⟩, ((below_then hb1.out hb1.out.size hb2.out).setCell (p := ⟨w.heap.size, 0, none⟩) (Nat.le_refl _) _).setCell (p := ⟨w.heap.size, 1, none⟩) (Nat.le_refl _) _⟩
theorem putInW_c (f : Int) (A : Option Addr) (n c : Nat) (es : List S36) (B S base size : Nat) (v : Value) (f0 : Int) (F : List S29) (w0 w : World) (h : Rg w B S base v size f0 F) (HB : Below base w0 w) (hbase : base ≤ w.heap.size) (hf0 : -9223372036854775808 ≤ f0 ∧ f0 + (F.length : Int) ≤ 9223372036854775808) (hF : F.length ≤ 1000) (j : Nat) (hj : j < F.length) (hf : f = f0 + (j : Int)) (HC : ∀ W, w.heap.size ≤ W.heap.size → Fr w W B S v → Kd.C k36 W A n es) (hn : n ≤ 100000) :
    Calls Try.prog 9 #[.pointer (some ⟨B, 0, none⟩), .agg #[.int .i64 f, .slice A n c]] w fun e w' => e = .returned (.bool true) ∧ (∃ v', Rg w' B S base v' size f0 (F.set j ⟨f, es⟩) ∧ v'.ownBlock = v.ownBlock) ∧ Below base w0 w' ∧ Fr w w' B S v ∧ w.heap.size ≤ w'.heap.size := by
  have hB1 := Aside0.mk ((Below.refl w.heap.size w).alloc (Nat.le_refl _) (.cells #[.int .i64 f, .slice A n c] 29))
  have e0 := Aside0.mk (heap_alloc_new w (.cells #[.int .i64 f, .slice A n c] 29))
  have hne := Aside0.mk h.ne
  obtain ⟨q0, q1, q2⟩ := h.cells
  obtain ⟨A0, c0, rfl, hl, _⟩ := h.slice
  have hfr := Aside0.mk (fun W (hb : Below w.heap.size w W) => (⟨(World.cell?_of_block (hb.block B (blk_lt' h.box))).trans q0, (World.cell?_of_block (hb.block B (blk_lt' h.box))).trans q1, (World.cell?_of_block (hb.block S (blk_lt' h.st))).trans q2⟩ : W.cell? ⟨B, 0, none⟩ = some (.pointer (some ⟨S, 0, none⟩)) ∧ W.cell? ⟨B, 1, none⟩ = some (.int .i64 (size : Int)) ∧ W.cell? ⟨S, 0, none⟩ = some (.slice A0 F.length c0)))
  have hh := Aside0.mk h
  clear h
  replace HB := Aside0.mk HB
  replace HC := Aside0.mk HC
  clear q0 q1 q2
  obtain ⟨q0, q1, q2⟩ := hfr.out _ hB1.out
  have ka := Aside0.mk (atInW_c f B S base size _ f0 F _ (hh.out.below hB1.out) hf0 (by omega) j hj hf)
  replace hf := Aside0.mk hf
  clear hl
  go_enter Try.func9, Try.ntmps9
  go_wp2_with (first
      | (go_at_call 23; (with_reducible refine ka.out.mono ?_); rintro e w1 ⟨rfl, hd⟩; have hd1 := Aside0.mk (below_then hB1.out hB1.out.size hd.below); obtain ⟨p0, p1, p2⟩ := hfr.out w1 hd1.out; have e1 := Aside0.mk ((hd.below.block _ (blk_lt' e0.out)).trans e0.out); have p3 := blk_cell' e1.out 0; have p4 := blk_cell' e1.out 1; simp at p3 p4; clear hd)
      | fail)
  have hd2 := Aside0.mk hd1.out
  have e2 : Aside0 (w1.heap[w.heap.size]? = some (.cells #[.int .i64 f, .slice A n c] 29 (0, 0))) := ⟨e1.out⟩
  clear p0 p1 p2 p3 p4 q0 q1 q2
  have hR2 := Aside0.mk (hh.out.below hd2.out)
  have hC2 := Aside0.mk (fun W (hb : Below w1.heap.size w1 W) => HC.out W (Nat.le_trans hd2.out.size hb.size) (fun b hb1 _ _ _ => (hb.block b (Nat.lt_of_lt_of_le hb1 hd2.out.size)).trans (hd2.out.block b hb1)))
  have kS : Aside0 (∀ w', Below w1.heap.size w1 w' → w'.cell? ⟨B, 0, none⟩ = some (.pointer (some ⟨S, 0, none⟩)) ∧ w'.cell? ⟨S, 0, none⟩ = some (.slice A0 F.length c0) ∧ w'.cell? ⟨w.heap.size, 0, none⟩ = some (.int .i64 f) ∧ w'.cell? ⟨w.heap.size, 1, none⟩ = some (.slice A n c) ∧ Aside0 (Below w1.heap.size w1 w')) := ⟨fun w' hb => by
      have hx := (hb.block w.heap.size (blk_lt' e2.out)).trans e2.out
      obtain ⟨p0, p1, p2⟩ := hfr.out w' (below_then hd2.out hd2.out.size hb)
      exact ⟨p0, p2, blk_cell' hx 0, blk_cell' hx 1, ⟨hb⟩⟩⟩
  have hokp : Aside0 (∀ q, w1.heap.size ≤ q → True ∧ some q ≠ (Value.slice A0 F.length c0).ownBlock) := ⟨fun q hq => ⟨trivial, fun e => by
      have := (Kd.R_bound hR2.out.row).1 q e.symm
      omega⟩⟩
  have hCr : Kd.C k29 w1 A0 F.length F := (Kd.R_reads' hR2.out.row).2.2
  obtain ⟨ad, A1, c1, ea, _⟩ := at_T29 hCr (j : Int) (by omega) (by omega)
  clear hCr
  subst ea
  obtain ⟨g, rfl⟩ := R_home hR2.out.row
  have b0 : (0 : Int) ≤ (j : Int) := by omega
  have b1 : (j : Int) < (F.length : Int) := by omega
  refine start_ (n := 12) (S := fun w' => w'.cell? ⟨B, 0, none⟩ = some (.pointer (some ⟨S, 0, none⟩)) ∧ w'.cell? ⟨S, 0, none⟩ = some (.slice (some ⟨g, 0, none⟩) F.length c0) ∧ w'.cell? ⟨w.heap.size, 0, none⟩ = some (.int .i64 f) ∧ w'.cell? ⟨w.heap.size, 1, none⟩ = some (.slice A n c)) (ds := [11]) #[false, false, false, false, false, false, false, false, false, false, false, false] (by kernel_rfl) rfl rfl ⟨(kS.out _ (below_drew (Below.refl _ _))).1, (kS.out _ (below_drew (Below.refl _ _))).2.1, (kS.out _ (below_drew (Below.refl _ _))).2.2.1, (kS.out _ (below_drew (Below.refl _ _))).2.2.2.1⟩ (fun hHeld => ?_)
  refine pure_ (i := 0) (N := some 35) (v := ?_) (a' := ?_) #[true, false, false, false, false, false, false, false, false, false, false, false] rfl rfl (by kernel_rfl) (fun _ _ _ h => h) (Or.inl ⟨by rfl, ?_⟩) ?_ ?_
  rotate_left
  · intro w'
    go_simp
    with_reducible rfl
  rotate_left
  · simp only [Act.put, List.setIfInBounds_toArray, List.set_cons_zero, List.set_cons_succ, i64_w, i32_w]
    rfl
  refine pure_ (i := 1) (N := some 36) (v := ?_) (a' := ?_) #[true, true, false, false, false, false, false, false, false, false, false, false] rfl rfl (by kernel_rfl) (fun _ _ _ h => h) (Or.inl ⟨by rfl, ?_⟩) ?_ ?_
  rotate_left
  · intro w'
    go_simp
    with_reducible rfl
  rotate_left
  · simp only [Act.put, List.setIfInBounds_toArray, List.set_cons_zero, List.set_cons_succ, i64_w, i32_w]
    rfl
  refine pure_ (i := 2) (N := some 37) (v := ?_) (a' := ?_) #[true, true, true, false, false, false, false, false, false, false, false, false] rfl rfl (by kernel_rfl) (fun _ _ _ h => h) (Or.inl ⟨by rfl, ?_⟩) ?_ ?_
  rotate_left
  · intro w'
    go_simp
    with_reducible rfl
  rotate_left
  · simp only [Act.put, List.setIfInBounds_toArray, List.set_cons_zero, List.set_cons_succ, i64_w, i32_w]
    rfl
  refine pure_ (i := 7) (N := some 42) (v := ?_) (a' := ?_) #[true, true, true, false, false, false, false, true, false, false, false, false] rfl rfl (by kernel_rfl) (fun _ _ _ h => h) (Or.inl ⟨by rfl, ?_⟩) ?_ ?_
  rotate_left
  · intro w'
    go_simp
    with_reducible rfl
  rotate_left
  · simp only [Act.put, List.setIfInBounds_toArray, List.set_cons_zero, List.set_cons_succ, i64_w, i32_w]
    rfl
  refine take_ (i := 3) (N := some 38) (v := ?_) (a' := ?_) #[true, true, true, true, false, false, false, true, false, false, false, false] rfl rfl (by kernel_rfl) (fun _ _ _ h => h) (Or.inl ⟨by rfl, ?_⟩) hHeld ?_ ?_
  rotate_left
  · rintro w' ⟨s0, s1, s2, s3⟩
    go_simp
    with_reducible rfl
  rotate_left
  · simp only [Act.put, List.setIfInBounds_toArray, List.set_cons_zero, List.set_cons_succ, i64_w, i32_w]
    rfl
  refine pure_ (i := 4) (N := some 39) (v := ?_) (a' := ?_) #[true, true, true, true, true, false, false, true, false, false, false, false] rfl rfl (by kernel_rfl) (fun _ _ _ h => h) (Or.inl ⟨by rfl, ?_⟩) ?_ ?_
  rotate_left
  · intro w'
    go_simp
    with_reducible rfl
  rotate_left
  · simp only [Act.put, List.setIfInBounds_toArray, List.set_cons_zero, List.set_cons_succ, i64_w, i32_w]
    rfl
  refine pure_ (i := 5) (N := some 40) (v := ?_) (a' := ?_) #[true, true, true, true, true, true, false, true, false, false, false, false] rfl rfl (by kernel_rfl) (fun _ _ _ h => h) (Or.inl ⟨by rfl, ?_⟩) ?_ ?_
  rotate_left
  · intro w'
    go_simp
    with_reducible rfl
  rotate_left
  · simp only [Act.put, List.setIfInBounds_toArray, List.set_cons_zero, List.set_cons_succ, i64_w, i32_w]
    rfl
  refine take_ (i := 6) (N := some 41) (v := ?_) (a' := ?_) #[true, true, true, true, true, true, true, true, false, false, false, false] rfl rfl (by kernel_rfl) (fun _ _ _ h => h) (Or.inl ⟨by rfl, ?_⟩) hHeld ?_ ?_
  rotate_left
  · rintro w' ⟨s0, s1, s2, s3⟩
    go_simp
    with_reducible rfl
  rotate_left
  · simp only [Act.put, List.setIfInBounds_toArray, List.set_cons_zero, List.set_cons_succ, i64_w, i32_w]
    rfl
  refine take_ (i := 8) (N := some 43) (v := ?_) (a' := ?_) #[true, true, true, true, true, true, true, true, true, false, false, false] rfl rfl (by kernel_rfl) (fun _ _ _ h => h) (Or.inl ⟨by rfl, ?_⟩) hHeld ?_ ?_
  rotate_left
  · rintro w' ⟨s0, s1, s2, s3⟩
    go_simp
    with_reducible rfl
  rotate_left
  · simp only [Act.put, List.setIfInBounds_toArray, List.set_cons_zero, List.set_cons_succ, i64_w, i32_w]
    rfl
  refine one_ (i := 9) (N := some 44) #[true, true, true, true, true, true, true, true, true, true, false, false] rfl rfl (by kernel_rfl) (by decide) (fun K hK => ?_)
  have HB_ := below_drew (Below.refl w1.heap.size w1)
  refine goes_ Try.func24 (by kernel_rfl) rfl #[.agg #[.int .i64 f, .slice A n c]] (by rfl) rfl rfl (by simp only [List.map_toArray, List.map_cons, List.map_nil]; rfl) ?_
  with_reducible refine (own_c f A n c es _ (hC2.out _ HB_) hn).mono ?_
  rintro e w3 ⟨⟨A', c', rfl, hR⟩, hbb⟩
  refine ⟨_, rfl, ?_⟩
  have hR3 : Aside0 (Kd.R k36 36 w3 base (fun q => w1.heap.size ≤ q) (.slice A' es.length c') es) := ⟨Kd.R_lower (Kd.R_mono (Kd.R_bound hR) (fun q hq => Nat.le_trans HB_.size hq.2.1)) (Nat.le_trans hbase (Nat.le_trans hd2.out.size HB_.size))⟩
  have hB3 := Aside0.mk (below_then HB_ HB_.size hbb)
  refine hK.out _ _ ⟨(kS.out _ hB3.out).1, (kS.out _ hB3.out).2.1, (kS.out _ hB3.out).2.2.1, (kS.out _ hB3.out).2.2.2.1⟩ (fun hHeld => ?_)
  clear hK K
  refine norm_ (a' := ?_) ?_ ?_
  rotate_left
  · show Act.put _ (some 44) _ = _
    simp only [Act.put, List.setIfInBounds_toArray, List.set_cons_zero, List.set_cons_succ, i64_w, i32_w]
    rfl
  refine pure_ (i := 10) (N := some 45) (v := ?_) (a' := ?_) #[true, true, true, true, true, true, true, true, true, true, true, false] rfl rfl (by kernel_rfl) (fun _ _ _ h => h) (Or.inl ⟨by rfl, ?_⟩) ?_ ?_
  rotate_left
  · intro w'
    go_simp
    with_reducible rfl
  rotate_left
  · simp only [Act.put, List.setIfInBounds_toArray, List.set_cons_zero, List.set_cons_succ, i64_w, i32_w]
    rfl
  refine last_ (i := 11) (N := none) #[true, true, true, true, true, true, true, true, true, true, true, true] rfl rfl (by kernel_rfl) (by decide) (fun K hK => ?_)
  have hR4 := Aside0.mk (Kd.R_below hR2.out.row hB3.out)
  have hrun := Aside0.mk (store29 (f := f) (u := .slice A' es.length c') hR4.out (j * 2) (by omega))
  refine skip_ (w1 := w3.setCells g (j * 2) [.int .i64 f, .slice A' es.length c']) (by rfl) rfl (exec_store (t := 29) (q := .pointer (some ⟨g, j * 2, none⟩)) (u := .agg #[.int .i64 f, .slice A' es.length c']) rfl ?_ (by rfl) hrun.out) ?_
  · show Value.pointer (some _) = _
    simp [Addr.add_lit]
  refine hK.out _ _ ?_
  clear hK K
  refine done_ (by kernel_rfl) ?_
  obtain ⟨ad5, A5, c5, ea5, x0, x1, _⟩ := at_T29 (Kd.R_reads' hR4.out).2.2 (j : Int) (by omega) (by omega)
  injection ea5 with ea5
  subst ea5
  simp only [Addr.add_lit, Nat.zero_add, Int.toNat_natCast] at x0 x1
  obtain ⟨hR5, hg5⟩ := Kd.R_seg hR4.out (j : Int) (by omega) (by omega) (j := 0) (seg := [.int .i64 f, .slice A' es.length c']) (c := [.int .i64 (rd_T29 F (j : Int)).f0, .slice A5 (rd_T29 F (j : Int)).f1.length c5]) rfl
    (fun k u hu => by
      match k, hu with
      | 0, hu => simp at hu; subst hu; have hz : k29.sz = 2 := rfl; simpa [Int.toNat_natCast, hz] using x0
      | 1, hu => simp at hu; subst hu; have hz : k29.sz = 2 := rfl; simpa [Int.toNat_natCast, hz] using x1
      | k + 2, hu => simp at hu)
    (Nat.le_refl _) (x' := ⟨f, es⟩) (by simpa using k29_mkM w3 base (fun q => w1.heap.size ≤ q) ⟨f, es⟩ hR3.out) (fun k hk => ⟨trivial, fun e => (hokp.out k hk).2 (by rw [e]; rfl)⟩)
  simp only [Int.toNat_natCast, Nat.add_zero] at hR5 hg5
  replace hR5 : Aside0 (Kd.R k29 29 (w3.setCells g (j * 2) [.int .i64 f, .slice A' es.length c']) base (fun _ => True) (.slice (some ⟨g, 0, none⟩) F.length c0) (F.set j ⟨f, es⟩)) := ⟨hR5⟩
  replace hg5 : Aside0 (w3.grownBy (w3.setCells g (j * 2) [.int .i64 f, .slice A' es.length c']) (some g)) := ⟨hg5⟩
  have hB4 := Aside0.mk (below_then hd2.out hd2.out.size hB3.out)
  clear x0 x1 hrun kS hC2 hokp hR3 hR hbb HB_ hHeld
  generalize w3.setCells g (j * 2) [.int .i64 f, .slice A' es.length c'] = w5 at *
  go_wp2_with fail
  go_ret
  have hSb := hg5.out.block S (Nat.lt_of_lt_of_le (blk_lt' hh.out.st) hB4.out.size) (fun e => hne.out.2.1 e)
  have hBb := hg5.out.block B (Nat.lt_of_lt_of_le (blk_lt' hh.out.box) hB4.out.size) (fun e => hne.out.1 e)
  refine ⟨rfl, ⟨.slice (some ⟨g, 0, none⟩) F.length c0, ⟨?_, ?_, hR5.out, hh.out.hb, hh.out.hs, fun k y hy => ?_⟩, rfl⟩, ?_, fun b hb1 hb2 hb3 hb4 => ?_, Nat.le_trans hB4.out.size hg5.out.size⟩
  · exact hBb.trans ((hB4.out.block B (blk_lt' hh.out.box)).trans hh.out.box)
  · exact hSb.trans ((hB4.out.block S (blk_lt' hh.out.st)).trans hh.out.st)
  · rw [List.getElem?_set] at hy
    split at hy
    · rename_i e
      subst e
      first | rw [if_pos hj] at hy | skip
      injection hy with hy
      subst hy
      exact hf.out
    · exact hh.out.con k y hy
  · exact (below_then HB.out hbase hB4.out).grown hg5.out (Nat.le_trans hbase hB4.out.size) (fun k hk => by injection hk with hk; subst hk; exact Kd.R_base hh.out.row _ rfl)
  · rw [hg5.out.block b (Nat.lt_of_lt_of_le hb1 hB4.out.size) (fun e => hb4 e), hB4.out.block b hb1]
end Go.Proofs.Ytompkbganljbkaa.Rin
