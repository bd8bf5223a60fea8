/- Fork: a clone of the regions, their lists shared. -/
import Derived.Test.YtompkbganljbkaaAgain
namespace Go.Proofs.Ytompkbganljbkaa.Rin
open Go Go.RowKit Go.Proofs.Ytompkbganljbkaa.PRingPlays Go.Proofs.YtompkbganljbkaaW.PrintWords Go.Proofs.YtompkbganljbkaaW.PrintLast Go.Proofs.YtompkbganljbkaaW.PrintMore
set_option linter.unusedVariables false
set_option linter.unusedSimpArgs false
set_option maxRecDepth 100000
set_option maxHeartbeats 8000000
theorem cloneRowsNil_c (c : Nat) (w : World) : Calls Try.prog 33 #[.slice none 0 c] w fun e w' => e = .returned (.slice none 0 0) ∧ w' = w := by
  have heq := fun W => Lib.run_eql_slice_nil (P := Try.prog) W 48 29 none 0 c 0 0 Try.underlying48
  go_enter Try.func33, Try.ntmps33
  go_wp2_with fail
  go_ret
  exact ⟨rfl, rfl⟩
theorem R_empty29 (w : World) (base : Nat) (hb : base ≤ w.heap.size) : Kd.R k29 29 (w.alloc (.cells #[] 29)) base (fun _ => True) (.slice (some ⟨w.heap.size, 0, none⟩) 0 0) [] :=
  ⟨fun _ _ => trivial, [], World.ownsRow_lit w #[] 0 hb (by decide) rfl, Reps.none _ _⟩
set_option maxHeartbeats 800000 in
/-- slices.Clone of the outer row: the rows inside are shared -/
theorem cloneRows_c (A : Option Addr) (n c base : Nat) (L : List S29) (w : World) (hR : Kd.R k29 29 w base (fun _ => True) (.slice A n c) L) (hbase : base ≤ w.heap.size) (hn : n ≤ 100000) :
    Calls Try.prog 33 #[.slice A n c] w fun e w' => (∃ A' c', e = .returned (.slice A' L.length c') ∧ Kd.R k29 29 w' base (fun _ => True) (.slice A' L.length c') L ∧ ∀ k, (Value.slice A' L.length c').ownBlock = some k → w.heap.size ≤ k) ∧ Below w.heap.size w w' := by
  obtain ⟨hl, hnc, hC⟩ := Kd.R_reads' hR
  rcases A with _ | ad
  · have h0 : n = 0 := by
      rcases Nat.eq_zero_or_pos n with h | h
      · exact h
      · obtain ⟨_, h, _⟩ := hC.2.2 (by omega); cases h
    subst h0
    have hx : L = [] := List.eq_nil_of_length_eq_zero hl.symm
    subst hx
    exact (cloneRowsNil_c c w).mono fun e w' h => ⟨⟨none, 0, h.1, Kd.R_nil _ _ _ _ _, fun k hk => by simp [Value.ownBlock] at hk⟩, by rw [h.2]; exact Below.refl _ _⟩
  · have heq := fun W => Lib.run_eql_slice_nil (P := Try.prog) W 48 29 (some ad) n c 0 0 Try.underlying48
    have HE := Aside0.mk (R_empty29 w base hbase)
    have hB := Aside0.mk ((Below.refl w.heap.size w).alloc (Nat.le_refl _) (.cells #[] 29))
    have hR2 : Kd.R k29 29 (w.alloc (.cells #[] 29)) base (fun k => k < w.heap.size) (.slice (some ad) n c) L := Kd.R_below (Kd.R_mono (Kd.R_bound hR) (fun k hk => hk.2.2.1)) hB.out
    obtain ⟨A2, c2, e2, hl2, hrd⟩ := OwnRow.reads hR2.2
    injection e2 with ea en ec
    subst ea
    rw [← hl] at hrd
    clear en ec hl2
    replace hrd := Aside0.mk hrd
    replace hl := Aside0.mk hl
    clear hC hR2
    go_enter Try.func33, Try.ntmps33
    go_wp2_with (first
      | ((with_reducible refine gate_dst (N := 7) rfl ?_); go_loud (refine Kd.R_append_rows k29 (w0 := w) base rfl (.tmp 5) (.tmp 6) 48 29 _ 32 rfl Try.underlying48 info29 rfl (by decide) (by omega) (.slice (some ⟨w.heap.size, 0, none⟩) 0 0) [] L (some ad) n c (fun _ => True) (fun k => k < w.heap.size) rfl rfl HE.out hrd.out (fun _ _ h => k29.M_mono (fun k hk => hk.1) h) (fun k hk => ⟨trivial, fun e => by have e2 : k = w.heap.size := by { injection e }; omega⟩) (fun _ _ => trivial) ((Below.refl base w).alloc hbase _) (Nat.le_trans hbase hB.out.size) (by simp; omega) ?_); intro v1 w1 ho1 hb1 hg1 hat1; rw [List.nil_append] at ho1; obtain ⟨A1, c1, e1⟩ := Kd.R_slice ho1; subst e1; replace ho1 := Aside0.mk ho1; replace hb1 := Aside0.mk hb1; replace hg1 := Aside0.mk hg1; replace hat1 := Aside0.mk hat1)
      | fail)
    go_ret
    refine ⟨⟨A1, c1, rfl, ho1.out, fun k hk => ?_⟩, hB.out.grown hg1.out hB.out.size (fun k hk => by have e2 : w.heap.size = k := (by simpa [Value.ownBlock] using hk); omega)⟩
    rcases hat1.out with h | ⟨b, h1, h2⟩
    · rw [hk] at h
      have e2 : k = w.heap.size := by simpa [Value.ownBlock] using h
      omega
    · rw [hk] at h1
      injection h1 with h1
      have h3 : w.heap.size ≤ (w.alloc (.cells #[] 29)).heap.size := hB.out.size
      omega
/-- Fork -/
theorem fork_c (B S base size : Nat) (v : Value) (f0 : Int) (F : List S29) (w : World) (h : Rg w B S base v size f0 F) (hbase : base ≤ w.heap.size) (hn : F.length ≤ 100000) :
    Calls Try.prog 17 #[.pointer (some ⟨B, 0, none⟩)] w fun e w' => (∃ B' S' v', e = .returned (.pointer (some ⟨B', 0, none⟩)) ∧ Rg w' B' S' base v' size f0 F ∧ w.heap.size ≤ B' ∧ w.heap.size ≤ S' ∧ ∀ k, v'.ownBlock = some k → w.heap.size ≤ k) ∧ Below w.heap.size w w' := by
  obtain ⟨W1, hW1⟩ : ∃ W1, W1 = w.alloc (.cells #[.slice none 0 0] 50) := ⟨_, rfl⟩
  obtain ⟨W2, hW2⟩ : ∃ W2, W2 = W1.alloc (.cells #[.pointer (some ⟨w.heap.size, 0, none⟩), .int .i64 (size : Int)] 52) := ⟨_, rfl⟩
  have hb1 : Below w.heap.size w W1 := by rw [hW1]; exact (Below.refl _ _).alloc (Nat.le_refl _) _
  have hs1 : W1.heap.size = w.heap.size + 1 := by rw [hW1]; exact Array.size_push _
  have hb2 : Below w.heap.size w W2 := by rw [hW2]; exact hb1.alloc hb1.size _
  have hb12 : Below W1.heap.size W1 W2 := by rw [hW2]; exact (Below.refl _ _).alloc (Nat.le_refl _) _
  have x1 : W1.heap[w.heap.size]? = some (.cells #[.slice none 0 0] 50 (0, 0)) := by rw [hW1]; exact heap_alloc_new _ _
  have x2 : W2.heap[w.heap.size]? = some (.cells #[.slice none 0 0] 50 (0, 0)) := (hb12.block _ (by omega)).trans x1
  have y2 : W2.heap[w.heap.size + 1]? = some (.cells #[.pointer (some ⟨w.heap.size, 0, none⟩), .int .i64 (size : Int)] 52 (0, 0)) := by rw [hW2, ← hs1]; exact heap_alloc_new _ _
  have h1 := h.below hb1
  have h2 := h.below hb2
  have kh := Aside0.mk (has_c B S base size v f0 F W2 h2)
  obtain ⟨q0, q1, q2⟩ := h.cells
  obtain ⟨p0, p1, p2⟩ := h1.cells
  obtain ⟨r0, r1, r2⟩ := h2.cells
  obtain ⟨A, c, rfl, hl, hC⟩ := h.slice
  have kc := Aside0.mk (cloneRows_c A F.length c base F W2 h2.row (Nat.le_trans hbase hb2.size) hn)
  have c0 := blk_cell' x2 0
  have c1 := blk_cell' y2 0
  simp at c0 c1
  have hsW2 : w.heap.size + 2 ≤ W2.heap.size := by
    have := blk_lt' y2
    omega
  subst hW2
  subst hW1
  have hbb := Aside0.mk hb2
  have hx := Aside0.mk x2
  have hy := Aside0.mk y2
  replace hs1 := Aside0.mk hs1
  replace hsW2 := Aside0.mk hsW2
  replace h := Aside0.mk h
  clear hC hb1 hb2 hb12 x1 x2 y2 h1 h2 hl
  go_enter Try.func17, Try.ntmps17
  go_wp2_with (first
    | (go_at_call 26; (with_reducible refine kh.out.mono ?_); rintro e w' ⟨rfl, hw⟩; subst w')
    | (go_at_call 33; (with_reducible refine kc.out.mono ?_); rintro e w1 ⟨⟨A', c', rfl, hR, hk⟩, hb⟩; replace hR := Aside0.mk hR; replace hb := Aside0.mk hb; replace hk := Aside0.mk hk)
    | fail)
  generalize hW2g : (w.alloc (.cells #[.slice none 0 0] 50)).alloc (.cells #[.pointer (some ⟨w.heap.size, 0, none⟩), .int .i64 (size : Int)] 52) = W2 at *
  have hR2 := Aside0.mk (h.out.below hbb.out)
  replace hW2g := Aside0.mk hW2g
  clear r0 r1 r2 c0 c1 p0 p1 p2 q0 q1 q2
  have kS : Aside0 (∀ w', Below W2.heap.size W2 w' → w'.cell? ⟨w.heap.size + 1, 0, none⟩ = some (.pointer (some ⟨w.heap.size, 0, none⟩)) ∧ w'.cell? ⟨S, 0, none⟩ = some (.slice A F.length c) ∧ Aside0 (Below W2.heap.size W2 w')) := ⟨fun w' hb =>
    ⟨blk_cell' ((hb.block _ (blk_lt' hy.out)).trans hy.out) 0, (hR2.out.below hb).cells.2.2, ⟨hb⟩⟩⟩
  refine start_ (n := 12) (S := fun w' => w'.cell? ⟨w.heap.size + 1, 0, none⟩ = some (.pointer (some ⟨w.heap.size, 0, none⟩)) ∧ w'.cell? ⟨S, 0, none⟩ = some (.slice A F.length c)) (ds := [11]) #[false, false, false, false, false, false, false, false, false, false, false, false] (by kernel_rfl) rfl rfl ⟨(kS.out _ (below_drew (Below.refl _ _))).1, (kS.out _ (below_drew (Below.refl _ _))).2.1⟩ (fun hHeld => ?_)
  refine pure_ (i := 0) (N := some 19) (v := ?_) (a' := ?_) #[true, false, false, false, false, false, false, false, false, false, false, false] rfl rfl (by kernel_rfl) (fun _ _ _ h => h) (Or.inl ⟨by rfl, ?_⟩) ?_ ?_
  rotate_left
  · intro w'
    go_simp
    with_reducible rfl
  rotate_left
  · simp only [Act.put, List.setIfInBounds_toArray, List.set_cons_zero, List.set_cons_succ, i64_w, i32_w]
    rfl
  refine pure_ (i := 1) (N := some 20) (v := ?_) (a' := ?_) #[true, true, false, false, false, false, false, false, false, false, false, false] rfl rfl (by kernel_rfl) (fun _ _ _ h => h) (Or.inl ⟨by rfl, ?_⟩) ?_ ?_
  rotate_left
  · intro w'
    go_simp
    with_reducible rfl
  rotate_left
  · simp only [Act.put, List.setIfInBounds_toArray, List.set_cons_zero, List.set_cons_succ, i64_w, i32_w]
    rfl
  refine pure_ (i := 2) (N := some 21) (v := ?_) (a' := ?_) #[true, true, true, false, false, false, false, false, false, false, false, false] rfl rfl (by kernel_rfl) (fun _ _ _ h => h) (Or.inl ⟨by rfl, ?_⟩) ?_ ?_
  rotate_left
  · intro w'
    go_simp
    with_reducible rfl
  rotate_left
  · simp only [Act.put, List.setIfInBounds_toArray, List.set_cons_zero, List.set_cons_succ, i64_w, i32_w]
    rfl
  refine pure_ (i := 4) (N := some 23) (v := ?_) (a' := ?_) #[true, true, true, false, true, false, false, false, false, false, false, false] rfl rfl (by kernel_rfl) (fun _ _ _ h => h) (Or.inl ⟨by rfl, ?_⟩) ?_ ?_
  rotate_left
  · intro w'
    go_simp
    with_reducible rfl
  rotate_left
  · simp only [Act.put, List.setIfInBounds_toArray, List.set_cons_zero, List.set_cons_succ, i64_w, i32_w]
    rfl
  refine pure_ (i := 5) (N := some 24) (v := ?_) (a' := ?_) #[true, true, true, false, true, true, false, false, false, false, false, false] rfl rfl (by kernel_rfl) (fun _ _ _ h => h) (Or.inl ⟨by rfl, ?_⟩) ?_ ?_
  rotate_left
  · intro w'
    go_simp
    with_reducible rfl
  rotate_left
  · simp only [Act.put, List.setIfInBounds_toArray, List.set_cons_zero, List.set_cons_succ, i64_w, i32_w]
    rfl
  refine pure_ (i := 6) (N := some 25) (v := ?_) (a' := ?_) #[true, true, true, false, true, true, true, false, false, false, false, false] rfl rfl (by kernel_rfl) (fun _ _ _ h => h) (Or.inl ⟨by rfl, ?_⟩) ?_ ?_
  rotate_left
  · intro w'
    go_simp
    with_reducible rfl
  rotate_left
  · simp only [Act.put, List.setIfInBounds_toArray, List.set_cons_zero, List.set_cons_succ, i64_w, i32_w]
    rfl
  refine take_ (i := 3) (N := some 22) (v := ?_) (a' := ?_) #[true, true, true, true, true, true, true, false, false, false, false, false] rfl rfl (by kernel_rfl) (fun _ _ _ h => h) (Or.inl ⟨by rfl, ?_⟩) hHeld ?_ ?_
  rotate_left
  · rintro w' ⟨s0, s1⟩
    go_simp
    with_reducible rfl
  rotate_left
  · simp only [Act.put, List.setIfInBounds_toArray, List.set_cons_zero, List.set_cons_succ, i64_w, i32_w]
    rfl
  refine take_ (i := 7) (N := some 26) (v := ?_) (a' := ?_) #[true, true, true, true, true, true, true, true, false, false, false, false] rfl rfl (by kernel_rfl) (fun _ _ _ h => h) (Or.inl ⟨by rfl, ?_⟩) hHeld ?_ ?_
  rotate_left
  · rintro w' ⟨s0, s1⟩
    go_simp
    with_reducible rfl
  rotate_left
  · simp only [Act.put, List.setIfInBounds_toArray, List.set_cons_zero, List.set_cons_succ, i64_w, i32_w]
    rfl
  refine one_ (i := 8) (N := some 27) #[true, true, true, true, true, true, true, true, true, false, false, false] rfl rfl (by kernel_rfl) (by decide) (fun K hK => ?_)
  have HB_ := below_drew (Below.refl W2.heap.size W2)
  refine goes_ Try.func33 (by kernel_rfl) rfl #[.slice A F.length c] (by rfl) rfl rfl (by simp only [List.map_toArray, List.map_cons, List.map_nil]; rfl) ?_
  with_reducible refine (cloneRows_c A F.length c base F _ (Kd.R_below hR2.out.row HB_) (Nat.le_trans hbase (Nat.le_trans hbb.out.size HB_.size)) hn).mono ?_
  rintro e w3 ⟨⟨A', c', rfl, hR, hk⟩, hbw⟩
  refine ⟨_, rfl, ?_⟩
  have hR3 := Aside0.mk hR
  have hk3 : Aside0 (∀ k, (Value.slice A' F.length c').ownBlock = some k → W2.heap.size ≤ k) := ⟨fun k hq => Nat.le_trans HB_.size (hk k hq)⟩
  have hB3 := Aside0.mk (below_then HB_ HB_.size hbw)
  refine hK.out _ _ ⟨(kS.out _ hB3.out).1, (kS.out _ hB3.out).2.1⟩ (fun hHeld => ?_)
  clear hK K
  refine norm_ (a' := ?_) ?_ ?_
  rotate_left
  · show Act.put _ (some 27) _ = _
    simp only [Act.put, List.setIfInBounds_toArray, List.set_cons_zero, List.set_cons_succ, i64_w, i32_w]
    rfl
  refine pure_ (i := 9) (N := some 28) (v := ?_) (a' := ?_) #[true, true, true, true, true, true, true, true, true, true, false, false] rfl rfl (by kernel_rfl) (fun _ _ _ h => h) (Or.inl ⟨by rfl, ?_⟩) ?_ ?_
  rotate_left
  · intro w'
    go_simp
    with_reducible rfl
  rotate_left
  · simp only [Act.put, List.setIfInBounds_toArray, List.set_cons_zero, List.set_cons_succ, i64_w, i32_w]
    rfl
  refine pure_ (i := 10) (N := some 29) (v := ?_) (a' := ?_) #[true, true, true, true, true, true, true, true, true, true, true, false] rfl rfl (by kernel_rfl) (fun _ _ _ h => h) (Or.inl ⟨by rfl, ?_⟩) ?_ ?_
  rotate_left
  · intro w'
    go_simp
    with_reducible rfl
  rotate_left
  · simp only [Act.put, List.setIfInBounds_toArray, List.set_cons_zero, List.set_cons_succ, i64_w, i32_w]
    rfl
  refine last_ (i := 11) (N := none) #[true, true, true, true, true, true, true, true, true, true, true, true] rfl rfl (by kernel_rfl) (by decide) (fun K hK => ?_)
  have hx3 := Aside0.mk ((hB3.out.block w.heap.size (blk_lt' hx.out)).trans hx.out)
  have q4 := blk_cell' hx3.out 0
  have f4 : w3.frozen? ⟨w.heap.size, 0, none⟩ = false := by simp [World.frozen?, hx3.out]
  simp at q4
  refine skip_ (w1 := ?_) (by rfl) rfl ?_ ?_
  rotate_left
  · go_simp
    rfl
  refine hK.out _ _ ?_
  clear hK K
  refine done_ (by kernel_rfl) ?_
  go_wp2_with fail
  go_ret
  have hy3 := (hB3.out.block _ (blk_lt' hy.out)).trans hy.out
  refine ⟨⟨w.heap.size + 1, w.heap.size, .slice A' F.length c', rfl, ⟨?_, ?_, Kd.R_set hR3.out hx3.out (fun q hq => (types52 q hq).2) 0 _, Nat.le_trans hbase (Nat.le_succ _), hbase, h.out.con⟩, Nat.le_succ _, Nat.le_refl _, fun k hk => Nat.le_trans hbb.out.size (hk3.out k hk)⟩, (below_then hbb.out hbb.out.size hB3.out).setCell (p := ⟨w.heap.size, 0, none⟩) (Nat.le_refl _) _⟩
  · exact blk_far hy3 (p := ⟨w.heap.size, 0, none⟩) (by simp) _
  · have := blk_set hx3.out 0 (.slice A' F.length c')
    simpa using this
end Go.Proofs.Ytompkbganljbkaa.Rin
