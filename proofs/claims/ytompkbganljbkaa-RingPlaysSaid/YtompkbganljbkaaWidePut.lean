/- Put behind all others, for frames up to the bounds of int. -/
import Derived.Test.YtompkbganljbkaaWide
namespace Go.Proofs.Ytompkbganljbkaa.Rin
open Go Go.RowKit Go.Proofs.Ytompkbganljbkaa.PRingPlays Go.Proofs.YtompkbganljbkaaW.PrintWords Go.Proofs.YtompkbganljbkaaW.PrintLast Go.Proofs.YtompkbganljbkaaW.PrintMore
set_option linter.unusedVariables false
set_option linter.unusedSimpArgs false
set_option maxRecDepth 100000
set_option maxHeartbeats 8000000
theorem putW_c (f : Int) (A : Option Addr) (n c : Nat) (es : List S36) (B S base size : Nat) (v : Value) (f0 : Int) (F : List S29) (w0 w : World) (h : Rg w B S base v size f0 F) (HB : Below base w0 w) (hbase : base ≤ w.heap.size) (hsz : 1 ≤ size) (hf0 : -9223372036854775808 ≤ f0 ∧ f0 + (F.length : Int) ≤ 9223372036854775808) (hf1 : f0 + (F.length : Int) ≤ 9223372036854775807) (hF : F.length ≤ 1000) (hf : f = f0 + (F.length : Int)) (HC : ∀ W, w.heap.size ≤ W.heap.size → Fr w W B S v → Kd.C k36 W A n es) (hn : n ≤ 100000) :
    Calls Try.prog 9 #[.pointer (some ⟨B, 0, none⟩), .agg #[.int .i64 f, .slice A n c]] w fun e w' => e = .returned (.bool true) ∧ (∃ v', Rg w' B S base v' size (nf0 size f0 F) (nxt size F ⟨f, es⟩) ∧ (v'.ownBlock = v.ownBlock ∨ ∃ b, v'.ownBlock = some b ∧ w.heap.size ≤ b)) ∧ Below base w0 w' ∧ Fr w w' B S v ∧ w.heap.size ≤ w'.heap.size := by
  have hB1 := Aside0.mk ((Below.refl w.heap.size w).alloc (Nat.le_refl _) (.cells #[.int .i64 f, .slice A n c] 29))
  have e0 := Aside0.mk (heap_alloc_new w (.cells #[.int .i64 f, .slice A n c] 29))
  have hne := Aside0.mk h.ne
  obtain ⟨q0, q1, q2⟩ := h.cells
  obtain ⟨A0, c0, rfl, hl, _⟩ := h.slice
  have hfr := Aside0.mk (fun W (hb : Below w.heap.size w W) => (⟨(World.cell?_of_block (hb.block B (blk_lt' h.box))).trans q0, (World.cell?_of_block (hb.block B (blk_lt' h.box))).trans q1, (World.cell?_of_block (hb.block S (blk_lt' h.st))).trans q2⟩ : W.cell? ⟨B, 0, none⟩ = some (.pointer (some ⟨S, 0, none⟩)) ∧ W.cell? ⟨B, 1, none⟩ = some (.int .i64 (size : Int)) ∧ W.cell? ⟨S, 0, none⟩ = some (.slice A0 F.length c0)))
  have hh := Aside0.mk h
  clear h
  replace HB := Aside0.mk HB
  replace HC := Aside0.mk HC
  clear q0 q1 q2
  obtain ⟨q0, q1, q2⟩ := hfr.out _ hB1.out
  have hffA := Aside0.mk hf
  clear hl
  by_cases h0 : F.length = 0
  · have ka := Aside0.mk (atEmpty_c f B S base size _ f0 F _ (hh.out.below hB1.out) h0)
    rw [h0] at q2
    clear hf
    go_enter Try.func9, Try.ntmps9
    go_wp2_with (first
      | (go_at_call 23; (with_reducible refine ka.out.mono ?_); rintro e w1 ⟨rfl, hd⟩; have hd1 := Aside0.mk (below_then hB1.out hB1.out.size hd.below); obtain ⟨p0, p1, p2⟩ := hfr.out w1 hd1.out; rw [h0] at p2; have e1 := Aside0.mk ((hd.below.block _ (blk_lt' e0.out)).trans e0.out); have p3 := blk_cell' e1.out 0; have p4 := blk_cell' e1.out 1; simp at p3 p4; clear hd)
      | fail)
    go_quiet (fail)
    go_wp2_with fail
    replace h0 := Aside0.mk h0
    have hd2 := Aside0.mk (pw_below_drewN hd1.out nq)
    have e2 : Aside0 ((w1.drewN nq).heap[w.heap.size]? = some (.cells #[.int .i64 f, .slice A n c] 29 (0, 0))) := ⟨e1.out⟩
    clear p0 p1 p2 p3 p4 q0 q1 q2
    generalize w1.drewN nq = w2 at *
    have hR2 := Aside0.mk (hh.out.below hd2.out)
    have hC2 := Aside0.mk (fun W (hb : Below w2.heap.size w2 W) => HC.out W (Nat.le_trans hd2.out.size hb.size) (fun b hb1 _ _ _ => (hb.block b (Nat.lt_of_lt_of_le hb1 hd2.out.size)).trans (hd2.out.block b hb1)))
    have kS : Aside0 (∀ w', Below w2.heap.size w2 w' → w'.cell? ⟨B, 0, none⟩ = some (.pointer (some ⟨S, 0, none⟩)) ∧ w'.cell? ⟨S, 0, none⟩ = some (.slice A0 F.length c0) ∧ w'.cell? ⟨w.heap.size, 0, none⟩ = some (.int .i64 f) ∧ w'.cell? ⟨w.heap.size, 1, none⟩ = some (.slice A n c) ∧ Aside0 (Below w2.heap.size w2 w')) := ⟨fun w' hb => by
      have hx := (hb.block w.heap.size (blk_lt' e2.out)).trans e2.out
      obtain ⟨p0, p1, p2⟩ := hfr.out w' (below_then hd2.out hd2.out.size hb)
      exact ⟨p0, p2, blk_cell' hx 0, blk_cell' hx 1, ⟨hb⟩⟩⟩
    have hokp : Aside0 (∀ q, w2.heap.size ≤ q → True ∧ some q ≠ (Value.slice A0 F.length c0).ownBlock) := ⟨fun q hq => ⟨trivial, fun e => by
      have := (Kd.R_bound hR2.out.row).1 q e.symm
      omega⟩⟩
    refine start_ (n := 18) (S := fun w' => w'.cell? ⟨B, 0, none⟩ = some (.pointer (some ⟨S, 0, none⟩)) ∧ w'.cell? ⟨S, 0, none⟩ = some (.slice A0 F.length c0) ∧ w'.cell? ⟨w.heap.size, 0, none⟩ = some (.int .i64 f) ∧ w'.cell? ⟨w.heap.size, 1, none⟩ = some (.slice A n c)) (ds := [17]) #[false, false, false, false, false, false, false, false, false, false, false, false, false, false, false, false, false, false] (by kernel_rfl) rfl rfl ⟨(kS.out _ (below_drew (Below.refl _ _))).1, (kS.out _ (below_drew (Below.refl _ _))).2.1, (kS.out _ (below_drew (Below.refl _ _))).2.2.1, (kS.out _ (below_drew (Below.refl _ _))).2.2.2.1⟩ (fun hHeld => ?_)
    refine pure_ (i := 0) (N := some 70) (v := ?_) (a' := ?_) #[true, false, false, false, false, false, false, false, false, false, false, false, false, false, false, false, false, false] rfl rfl (by kernel_rfl) (fun _ _ _ h => h) (Or.inl ⟨by rfl, ?_⟩) ?_ ?_
    rotate_left
    · intro w'
      go_simp
      with_reducible rfl
    rotate_left
    · simp only [Act.put, List.setIfInBounds_toArray, List.set_cons_zero, List.set_cons_succ, i64_w, i32_w]
      rfl
    refine pure_ (i := 1) (N := some 71) (v := ?_) (a' := ?_) #[true, true, false, false, false, false, false, false, false, false, false, false, false, false, false, false, false, false] rfl rfl (by kernel_rfl) (fun _ _ _ h => h) (Or.inl ⟨by rfl, ?_⟩) ?_ ?_
    rotate_left
    · intro w'
      go_simp
      with_reducible rfl
    rotate_left
    · simp only [Act.put, List.setIfInBounds_toArray, List.set_cons_zero, List.set_cons_succ, i64_w, i32_w]
      rfl
    refine pure_ (i := 2) (N := some 72) (v := ?_) (a' := ?_) #[true, true, true, false, false, false, false, false, false, false, false, false, false, false, false, false, false, false] rfl rfl (by kernel_rfl) (fun _ _ _ h => h) (Or.inl ⟨by rfl, ?_⟩) ?_ ?_
    rotate_left
    · intro w'
      go_simp
      with_reducible rfl
    rotate_left
    · simp only [Act.put, List.setIfInBounds_toArray, List.set_cons_zero, List.set_cons_succ, i64_w, i32_w]
      rfl
    refine pure_ (i := 4) (N := some 74) (v := ?_) (a' := ?_) #[true, true, true, false, true, false, false, false, false, false, false, false, false, false, false, false, false, false] rfl rfl (by kernel_rfl) (fun _ _ _ h => h) (Or.inl ⟨by rfl, ?_⟩) ?_ ?_
    rotate_left
    · intro w'
      go_simp
      with_reducible rfl
    rotate_left
    · simp only [Act.put, List.setIfInBounds_toArray, List.set_cons_zero, List.set_cons_succ, i64_w, i32_w]
      rfl
    refine pure_ (i := 5) (N := some 75) (v := ?_) (a' := ?_) #[true, true, true, false, true, true, false, false, false, false, false, false, false, false, false, false, false, false] rfl rfl (by kernel_rfl) (fun _ _ _ h => h) (Or.inl ⟨by rfl, ?_⟩) ?_ ?_
    rotate_left
    · intro w'
      go_simp
      with_reducible rfl
    rotate_left
    · simp only [Act.put, List.setIfInBounds_toArray, List.set_cons_zero, List.set_cons_succ, i64_w, i32_w]
      rfl
    refine pure_ (i := 6) (N := some 76) (v := ?_) (a' := ?_) #[true, true, true, false, true, true, true, false, false, false, false, false, false, false, false, false, false, false] rfl rfl (by kernel_rfl) (fun _ _ _ h => h) (Or.inl ⟨by rfl, ?_⟩) ?_ ?_
    rotate_left
    · intro w'
      go_simp
      with_reducible rfl
    rotate_left
    · simp only [Act.put, List.setIfInBounds_toArray, List.set_cons_zero, List.set_cons_succ, i64_w, i32_w]
      rfl
    refine take_ (i := 3) (N := some 73) (v := ?_) (a' := ?_) #[true, true, true, true, true, true, true, false, false, false, false, false, false, false, false, false, false, false] rfl rfl (by kernel_rfl) (fun _ _ _ h => h) (Or.inl ⟨by rfl, ?_⟩) hHeld ?_ ?_
    rotate_left
    · rintro w' ⟨s0, s1, s2, s3⟩
      go_simp
      with_reducible rfl
    rotate_left
    · simp only [Act.put, List.setIfInBounds_toArray, List.set_cons_zero, List.set_cons_succ, i64_w, i32_w]
      rfl
    refine take_ (i := 7) (N := some 77) (v := ?_) (a' := ?_) #[true, true, true, true, true, true, true, true, false, false, false, false, false, false, false, false, false, false] rfl rfl (by kernel_rfl) (fun _ _ _ h => h) (Or.inl ⟨by rfl, ?_⟩) hHeld ?_ ?_
    rotate_left
    · rintro w' ⟨s0, s1, s2, s3⟩
      go_simp
      with_reducible rfl
    rotate_left
    · simp only [Act.put, List.setIfInBounds_toArray, List.set_cons_zero, List.set_cons_succ, i64_w, i32_w]
      rfl
    refine pure_ (i := 8) (N := some 78) (v := ?_) (a' := ?_) #[true, true, true, true, true, true, true, true, true, false, false, false, false, false, false, false, false, false] rfl rfl (by kernel_rfl) (fun _ _ _ h => h) (Or.inl ⟨by rfl, ?_⟩) ?_ ?_
    rotate_left
    · intro w'
      go_simp
      with_reducible rfl
    rotate_left
    · simp only [Act.put, List.setIfInBounds_toArray, List.set_cons_zero, List.set_cons_succ, i64_w, i32_w]
      rfl
    refine pure_ (i := 9) (N := some 79) (v := ?_) (a' := ?_) #[true, true, true, true, true, true, true, true, true, true, false, false, false, false, false, false, false, false] rfl rfl (by kernel_rfl) (fun _ _ _ h => h) (Or.inl ⟨by rfl, ?_⟩) ?_ ?_
    rotate_left
    · intro w'
      go_simp
      with_reducible rfl
    rotate_left
    · simp only [Act.put, List.setIfInBounds_toArray, List.set_cons_zero, List.set_cons_succ, i64_w, i32_w]
      rfl
    refine take_ (i := 10) (N := some 80) (v := ?_) (a' := ?_) #[true, true, true, true, true, true, true, true, true, true, true, false, false, false, false, false, false, false] rfl rfl (by kernel_rfl) (fun _ _ _ h => h) (Or.inl ⟨by rfl, ?_⟩) hHeld ?_ ?_
    rotate_left
    · rintro w' ⟨s0, s1, s2, s3⟩
      go_simp
      with_reducible rfl
    rotate_left
    · simp only [Act.put, List.setIfInBounds_toArray, List.set_cons_zero, List.set_cons_succ, i64_w, i32_w]
      rfl
    refine take_ (i := 11) (N := some 81) (v := ?_) (a' := ?_) #[true, true, true, true, true, true, true, true, true, true, true, true, false, false, false, false, false, false] rfl rfl (by kernel_rfl) (fun _ _ _ h => h) (Or.inl ⟨by rfl, ?_⟩) hHeld ?_ ?_
    rotate_left
    · rintro w' ⟨s0, s1, s2, s3⟩
      go_simp
      with_reducible rfl
    rotate_left
    · simp only [Act.put, List.setIfInBounds_toArray, List.set_cons_zero, List.set_cons_succ, i64_w, i32_w]
      rfl
    refine one_ (i := 12) (N := some 82) #[true, true, true, true, true, true, true, true, true, true, true, true, true, false, false, false, false, false] rfl rfl (by kernel_rfl) (by decide) (fun K hK => ?_)
    have HB_ := below_drew (Below.refl w2.heap.size w2)
    refine goes_ Try.func24 (by kernel_rfl) rfl #[.agg #[.int .i64 f, .slice A n c]] (by rfl) rfl rfl (by simp only [List.map_toArray, List.map_cons, List.map_nil]; rfl) ?_
    with_reducible refine (own_c f A n c es _ (hC2.out _ HB_) hn).mono ?_
    rintro e w3 ⟨⟨A', c', rfl, hR⟩, hbb⟩
    refine ⟨_, rfl, ?_⟩
    have hR3 : Aside0 (Kd.R k36 36 w3 base (fun q => w2.heap.size ≤ q) (.slice A' es.length c') es) := ⟨Kd.R_lower (Kd.R_mono (Kd.R_bound hR) (fun q hq => Nat.le_trans HB_.size hq.2.1)) (Nat.le_trans hbase (Nat.le_trans hd2.out.size HB_.size))⟩
    have hB3 := Aside0.mk (below_then HB_ HB_.size hbb)
    refine hK.out _ _ ⟨(kS.out _ hB3.out).1, (kS.out _ hB3.out).2.1, (kS.out _ hB3.out).2.2.1, (kS.out _ hB3.out).2.2.2.1⟩ (fun hHeld => ?_)
    clear hK K
    refine norm_ (a' := ?_) ?_ ?_
    rotate_left
    · show Act.put _ (some 82) _ = _
      simp only [Act.put, List.setIfInBounds_toArray, List.set_cons_zero, List.set_cons_succ, i64_w, i32_w]
      rfl
    refine one_ (i := 13) (N := some 83) #[true, true, true, true, true, true, true, true, true, true, true, true, true, true, false, false, false, false] rfl rfl (by kernel_rfl) (by decide) (fun K hK => ?_)
    refine value_ (w1 := ?_) (v := ?_) (by rfl) rfl ?_ ?_
    rotate_left 2
    · go_simp
      constructor
      · rfl
      · rfl
    refine hK.out _ _ ⟨(kS.out _ (hB3.out.alloc hB3.out.size _)).1, (kS.out _ (hB3.out.alloc hB3.out.size _)).2.1, (kS.out _ (hB3.out.alloc hB3.out.size _)).2.2.1, (kS.out _ (hB3.out.alloc hB3.out.size _)).2.2.2.1⟩ (fun hHeld => ?_)
    clear hK K
    refine norm_ (a' := ?_) ?_ ?_
    rotate_left
    · show Act.put _ (some 83) _ = _
      simp only [Act.put, List.setIfInBounds_toArray, List.set_cons_zero, List.set_cons_succ, i64_w, i32_w]
      rfl
    refine one_ (i := 14) (N := some 84) #[true, true, true, true, true, true, true, true, true, true, true, true, true, true, true, false, false, false] rfl rfl (by kernel_rfl) (by decide) (fun K hK => ?_)
    refine Kd.R_append_step k29 (w0 := w0) base (by rfl) (.tmp 80) (.tmp 83) 48 29 _ 32 (by rfl) Try.underlying48 info29 (by rfl) (by decide) (by omega) (.slice A0 F.length c0) F ⟨f, es⟩ [.int .i64 f, .slice A' es.length c'] (fun _ => True) (fun q => w2.heap.size ≤ q) (by rfl) (by rfl) (k29_mkM _ _ _ ⟨f, es⟩ hR3.out) hokp.out (fun _ _ => trivial) (Kd.R_below hR2.out.row hB3.out) (below_then (below_then HB.out hbase hd2.out) (Nat.le_trans hbase hd2.out.size) hB3.out) (Nat.le_trans hbase (Nat.le_trans hd2.out.size hB3.out.size)) (by omega) ?_
    intro v4 w4 hR4 hB4 hg4 hat4
    obtain ⟨A4, c4, e4⟩ := Kd.R_slice hR4
    rw [List.length_append, List.length_singleton] at e4
    subst e4
    replace hR4 := Aside0.mk hR4
    replace hB4 := Aside0.mk hB4
    have hx4 := Aside0.mk ((hg4.block S (Nat.lt_of_lt_of_le (blk_lt' hR2.out.st) hB3.out.size) hne.out.2.1).trans ((hB3.out.block S (blk_lt' hR2.out.st)).trans hR2.out.st))
    have hy4 := Aside0.mk ((hg4.block B (Nat.lt_of_lt_of_le (blk_lt' hR2.out.box) hB3.out.size) hne.out.1).trans ((hB3.out.block B (blk_lt' hR2.out.box)).trans hR2.out.box))
    have hz4 := Aside0.mk ((hg4.block w.heap.size (Nat.lt_of_lt_of_le (blk_lt' e2.out) hB3.out.size) (fun e => by have h7 := ((Kd.R_bound hh.out.row).1 _ e.symm).2.2.1; omega)).trans ((hB3.out.block w.heap.size (blk_lt' e2.out)).trans e2.out))
    replace hg4 := Aside0.mk hg4
    replace hat4 := Aside0.mk hat4
    refine hK.out _ _ ⟨(blk_cell' hy4.out 0), (blk_cell' hx4.out 0), (blk_cell' hz4.out 0), (blk_cell' hz4.out 1)⟩ (fun hHeld => ?_)
    clear hK K
    refine norm_ (a' := ?_) ?_ ?_
    rotate_left
    · show Act.put _ (some 84) _ = _
      simp only [Act.put, List.setIfInBounds_toArray, List.set_cons_zero, List.set_cons_succ, i64_w, i32_w]
      rfl
    refine pure_ (i := 15) (N := some 85) (v := ?_) (a' := ?_) #[true, true, true, true, true, true, true, true, true, true, true, true, true, true, true, true, false, false] rfl rfl (by kernel_rfl) (fun _ _ _ h => h) (Or.inl ⟨by rfl, ?_⟩) ?_ ?_
    rotate_left
    · intro w'
      go_simp
      with_reducible rfl
    rotate_left
    · simp only [Act.put, List.setIfInBounds_toArray, List.set_cons_zero, List.set_cons_succ, i64_w, i32_w]
      rfl
    refine pure_ (i := 16) (N := some 86) (v := ?_) (a' := ?_) #[true, true, true, true, true, true, true, true, true, true, true, true, true, true, true, true, true, false] rfl rfl (by kernel_rfl) (fun _ _ _ h => h) (Or.inl ⟨by rfl, ?_⟩) ?_ ?_
    rotate_left
    · intro w'
      go_simp
      with_reducible rfl
    rotate_left
    · simp only [Act.put, List.setIfInBounds_toArray, List.set_cons_zero, List.set_cons_succ, i64_w, i32_w]
      rfl
    refine last_ (i := 17) (N := none) #[true, true, true, true, true, true, true, true, true, true, true, true, true, true, true, true, true, true] rfl rfl (by kernel_rfl) (by decide) (fun K hK => ?_)
    have q4 := blk_cell' hx4.out 0
    have f4 : w4.frozen? ⟨S, 0, none⟩ = false := by simp [World.frozen?, hx4.out]
    simp at q4
    refine skip_ (w1 := ?_) (by rfl) rfl ?_ ?_
    rotate_left
    · go_simp
      rfl
    refine hK.out _ _ ?_
    clear hK K
    refine done_ (by kernel_rfl) ?_
    have hR5 : Aside0 (Rg (w4.setCell ⟨S, 0, none⟩ (.slice A4 (F.length + 1) c4)) B S base (.slice A4 (F.length + 1) c4) size f0 (F ++ [⟨f, es⟩])) := ⟨by
      refine ⟨?_, ?_, Kd.R_set hR4.out hx4.out (fun q hq => (types52 q hq).2) 0 _, hh.out.hb, hh.out.hs, fun j y hy => ?_⟩
      · exact blk_far hy4.out (p := ⟨S, 0, none⟩) hne.out.2.2 _
      · have := blk_set hx4.out 0 (.slice A4 (F.length + 1) c4)
        simpa using this
      · rcases Nat.lt_or_ge j F.length with hj | hj
        · rw [List.getElem?_append_left hj] at hy
          exact hh.out.con j y hy
        · rw [List.getElem?_append_right hj] at hy
          have hj0 : j - F.length = 0 := by
            have := (List.getElem?_eq_some_iff.1 hy).1
            simp at this
            omega
          rw [hj0] at hy
          simp at hy
          subst hy
          show f = _
          rw [hffA.out]
          omega⟩
    have hB5 := Aside0.mk (hB4.out.setCell (p := ⟨S, 0, none⟩) hh.out.hs (.slice A4 (F.length + 1) c4))
    have hs5 : Aside0 (w.heap.size ≤ (w4.setCell ⟨S, 0, none⟩ (.slice A4 (F.length + 1) c4)).heap.size) := ⟨by
      have h1 := hd2.out.size
      have h2 := hB3.out.size
      have h3 := hg4.out.size
      simp [World.setCell]
      omega⟩
    have hO5 : Aside0 ((Value.slice A4 (F.length + 1) c4).ownBlock = (Value.slice A0 F.length c0).ownBlock ∨ ∃ b, (Value.slice A4 (F.length + 1) c4).ownBlock = some b ∧ w.heap.size ≤ b) := ⟨by
      rcases hat4.out with h | ⟨b, h1, h2⟩
      · exact .inl h
      · have h3 := hd2.out.size
        have h4 := hB3.out.size
        exact .inr ⟨b, h1, by omega⟩⟩
    have hF5 : Aside0 (Fr w (w4.setCell ⟨S, 0, none⟩ (.slice A4 (F.length + 1) c4)) B S (.slice A0 F.length c0)) := ⟨fun b hb _ hbS hbv => by
      have h3 := hd2.out.size
      have h4 := hB3.out.size
      rw [Below.heap_setCell _ _ _ _ hbS, hg4.out.block b (by omega) hbv, hB3.out.block b (by omega)]
      exact hd2.out.block b hb⟩
    clear kS hC2 hokp hR4 hB4 hx4 hy4 hz4 hg4 hat4 q4 f4 hR3 hB3 hR hbb HB_ hHeld
    generalize w4.setCell ⟨S, 0, none⟩ (.slice A4 (F.length + 1) c4) = w5 at *
    obtain ⟨p0, p1, p2⟩ := hR5.out.cells
    go_wp2_with fail
    go_quiet (fail)
    replace hR5 := Aside0.mk (hR5.out.drewN nq)
    replace hB5 := Aside0.mk (pw_below_drewN hB5.out nq)
    replace hs5 : Aside0 (w.heap.size ≤ (w5.drewN nq).heap.size) := ⟨hs5.out⟩
    replace hF5 : Aside0 (Fr w (w5.drewN nq) B S (.slice A0 F.length c0)) := ⟨hF5.out⟩
    clear p0 p1 p2
    generalize w5.drewN nq = w5 at *
    obtain ⟨p0, p1, p2⟩ := hR5.out.cells
    by_cases ho : F.length + 1 > size
    · have z9 : (size : Int) < (F.length : Int) + 1 := by omega
      have z10 : (size : Int) < ((F.length + 1 : Nat) : Int) := by omega
      have en : Aside0 (nxt size F ⟨f, es⟩ = (F ++ [(⟨f, es⟩ : S29)]).eraseIdx 0) := ⟨by unfold nxt; rw [if_pos ho]⟩
      have ef : Aside0 (nf0 size f0 F = f0 + 1) := ⟨by unfold nf0; rw [if_pos ho]⟩
      replace ho := Aside0.mk ho
      obtain ⟨g, hg⟩ : ∃ g, A4 = some ⟨g, 0, none⟩ := by
        obtain ⟨ad, he, _⟩ := (Kd.R_reads' hR5.out.row).2.2.2.2 (by simp)
        subst he
        obtain ⟨g, rfl⟩ := R_home hR5.out.row
        exact ⟨g, rfl⟩
      subst hg
      have kd := Aside0.mk (delete_c g (F.length + 1) c4 0 base (fun _ => True) (F ++ [⟨f, es⟩]) w0 w5.drew (by omega) (by omega) (Kd.R_drew hR5.out.row) (below_drew1 hB5.out) (Nat.le_trans hbase hs5.out))
      simp only [show ((0 : Nat) : Int) = 0 from rfl, show (0 : Int) + 1 = 1 from rfl, Nat.add_sub_cancel] at kd
      have hne5 := Aside0.mk hR5.out.ne
      go_wp2_with fail
      refine start_ (n := 15) (S := fun w' => w'.cell? ⟨B, 0, none⟩ = some (.pointer (some ⟨S, 0, none⟩)) ∧ w'.cell? ⟨S, 0, none⟩ = some (.slice (some ⟨g, 0, none⟩) (F.length + 1) c4)) (ds := [14]) #[false, false, false, false, false, false, false, false, false, false, false, false, false, false, false] (by kernel_rfl) rfl rfl ⟨p0, p2⟩ (fun hHeld => ?_)
      refine pure_ (i := 0) (N := some 100) (v := ?_) (a' := ?_) #[true, false, false, false, false, false, false, false, false, false, false, false, false, false, false] rfl rfl (by kernel_rfl) (fun _ _ _ h => h) (Or.inl ⟨by rfl, ?_⟩) ?_ ?_
      rotate_left
      · intro w'
        go_simp
        with_reducible rfl
      rotate_left
      · simp only [Act.put, List.setIfInBounds_toArray, List.set_cons_zero, List.set_cons_succ, i64_w, i32_w]
        rfl
      refine pure_ (i := 1) (N := some 101) (v := ?_) (a' := ?_) #[true, true, false, false, false, false, false, false, false, false, false, false, false, false, false] rfl rfl (by kernel_rfl) (fun _ _ _ h => h) (Or.inl ⟨by rfl, ?_⟩) ?_ ?_
      rotate_left
      · intro w'
        go_simp
        with_reducible rfl
      rotate_left
      · simp only [Act.put, List.setIfInBounds_toArray, List.set_cons_zero, List.set_cons_succ, i64_w, i32_w]
        rfl
      refine pure_ (i := 2) (N := some 102) (v := ?_) (a' := ?_) #[true, true, true, false, false, false, false, false, false, false, false, false, false, false, false] rfl rfl (by kernel_rfl) (fun _ _ _ h => h) (Or.inl ⟨by rfl, ?_⟩) ?_ ?_
      rotate_left
      · intro w'
        go_simp
        with_reducible rfl
      rotate_left
      · simp only [Act.put, List.setIfInBounds_toArray, List.set_cons_zero, List.set_cons_succ, i64_w, i32_w]
        rfl
      refine pure_ (i := 4) (N := some 104) (v := ?_) (a' := ?_) #[true, true, true, false, true, false, false, false, false, false, false, false, false, false, false] rfl rfl (by kernel_rfl) (fun _ _ _ h => h) (Or.inl ⟨by rfl, ?_⟩) ?_ ?_
      rotate_left
      · intro w'
        go_simp
        with_reducible rfl
      rotate_left
      · simp only [Act.put, List.setIfInBounds_toArray, List.set_cons_zero, List.set_cons_succ, i64_w, i32_w]
        rfl
      refine pure_ (i := 5) (N := some 105) (v := ?_) (a' := ?_) #[true, true, true, false, true, true, false, false, false, false, false, false, false, false, false] rfl rfl (by kernel_rfl) (fun _ _ _ h => h) (Or.inl ⟨by rfl, ?_⟩) ?_ ?_
      rotate_left
      · intro w'
        go_simp
        with_reducible rfl
      rotate_left
      · simp only [Act.put, List.setIfInBounds_toArray, List.set_cons_zero, List.set_cons_succ, i64_w, i32_w]
        rfl
      refine pure_ (i := 6) (N := some 106) (v := ?_) (a' := ?_) #[true, true, true, false, true, true, true, false, false, false, false, false, false, false, false] rfl rfl (by kernel_rfl) (fun _ _ _ h => h) (Or.inl ⟨by rfl, ?_⟩) ?_ ?_
      rotate_left
      · intro w'
        go_simp
        with_reducible rfl
      rotate_left
      · simp only [Act.put, List.setIfInBounds_toArray, List.set_cons_zero, List.set_cons_succ, i64_w, i32_w]
        rfl
      refine take_ (i := 3) (N := some 103) (v := ?_) (a' := ?_) #[true, true, true, true, true, true, true, false, false, false, false, false, false, false, false] rfl rfl (by kernel_rfl) (fun _ _ _ h => h) (Or.inl ⟨by rfl, ?_⟩) hHeld ?_ ?_
      rotate_left
      · rintro w' ⟨s0, s1⟩
        go_simp
        with_reducible rfl
      rotate_left
      · simp only [Act.put, List.setIfInBounds_toArray, List.set_cons_zero, List.set_cons_succ, i64_w, i32_w]
        rfl
      refine take_ (i := 7) (N := some 107) (v := ?_) (a' := ?_) #[true, true, true, true, true, true, true, true, false, false, false, false, false, false, false] rfl rfl (by kernel_rfl) (fun _ _ _ h => h) (Or.inl ⟨by rfl, ?_⟩) hHeld ?_ ?_
      rotate_left
      · rintro w' ⟨s0, s1⟩
        go_simp
        with_reducible rfl
      rotate_left
      · simp only [Act.put, List.setIfInBounds_toArray, List.set_cons_zero, List.set_cons_succ, i64_w, i32_w]
        rfl
      refine pure_ (i := 8) (N := some 108) (v := ?_) (a' := ?_) #[true, true, true, true, true, true, true, true, true, false, false, false, false, false, false] rfl rfl (by kernel_rfl) (fun _ _ _ h => h) (Or.inl ⟨by rfl, ?_⟩) ?_ ?_
      rotate_left
      · intro w'
        go_simp
        with_reducible rfl
      rotate_left
      · simp only [Act.put, List.setIfInBounds_toArray, List.set_cons_zero, List.set_cons_succ, i64_w, i32_w]
        rfl
      refine pure_ (i := 9) (N := some 109) (v := ?_) (a' := ?_) #[true, true, true, true, true, true, true, true, true, true, false, false, false, false, false] rfl rfl (by kernel_rfl) (fun _ _ _ h => h) (Or.inl ⟨by rfl, ?_⟩) ?_ ?_
      rotate_left
      · intro w'
        go_simp
        with_reducible rfl
      rotate_left
      · simp only [Act.put, List.setIfInBounds_toArray, List.set_cons_zero, List.set_cons_succ, i64_w, i32_w]
        rfl
      refine take_ (i := 10) (N := some 110) (v := ?_) (a' := ?_) #[true, true, true, true, true, true, true, true, true, true, true, false, false, false, false] rfl rfl (by kernel_rfl) (fun _ _ _ h => h) (Or.inl ⟨by rfl, ?_⟩) hHeld ?_ ?_
      rotate_left
      · rintro w' ⟨s0, s1⟩
        go_simp
        with_reducible rfl
      rotate_left
      · simp only [Act.put, List.setIfInBounds_toArray, List.set_cons_zero, List.set_cons_succ, i64_w, i32_w]
        rfl
      refine one_ (i := 11) (N := some 111) #[true, true, true, true, true, true, true, true, true, true, true, true, false, false, false] rfl rfl (by kernel_rfl) (by decide) (fun K hK => ?_)
      refine goes_ Try.func25 (by kernel_rfl) rfl #[.slice (some ⟨g, 0, none⟩) (F.length + 1) c4, .int .i64 0, .int .i64 1] (by rfl) rfl rfl (by simp only [List.map_toArray, List.map_cons, List.map_nil]; rfl) ?_
      with_reducible refine (kd.out).mono ?_
      rintro e w6 ⟨rfl, hR6, hB6, hg6⟩
      refine ⟨_, rfl, ?_⟩
      have hx6 := Aside0.mk ((hg6.block S (blk_lt' hR5.out.st) hne5.out.2.1).trans hR5.out.st)
      have hy6 := Aside0.mk ((hg6.block B (blk_lt' hR5.out.box) hne5.out.1).trans hR5.out.box)
      replace hR6 := Aside0.mk hR6
      replace hB6 := Aside0.mk hB6
      replace hg6 := Aside0.mk hg6
      refine hK.out _ _ ⟨(blk_cell' hy6.out 0), (blk_cell' hx6.out 0)⟩ (fun hHeld => ?_)
      clear hK K
      refine norm_ (a' := ?_) ?_ ?_
      rotate_left
      · show Act.put _ (some 111) _ = _
        simp only [Act.put, List.setIfInBounds_toArray, List.set_cons_zero, List.set_cons_succ, i64_w, i32_w]
        rfl
      refine pure_ (i := 12) (N := some 112) (v := ?_) (a' := ?_) #[true, true, true, true, true, true, true, true, true, true, true, true, true, false, false] rfl rfl (by kernel_rfl) (fun _ _ _ h => h) (Or.inl ⟨by rfl, ?_⟩) ?_ ?_
      rotate_left
      · intro w'
        go_simp
        with_reducible rfl
      rotate_left
      · simp only [Act.put, List.setIfInBounds_toArray, List.set_cons_zero, List.set_cons_succ, i64_w, i32_w]
        rfl
      refine pure_ (i := 13) (N := some 113) (v := ?_) (a' := ?_) #[true, true, true, true, true, true, true, true, true, true, true, true, true, true, false] rfl rfl (by kernel_rfl) (fun _ _ _ h => h) (Or.inl ⟨by rfl, ?_⟩) ?_ ?_
      rotate_left
      · intro w'
        go_simp
        with_reducible rfl
      rotate_left
      · simp only [Act.put, List.setIfInBounds_toArray, List.set_cons_zero, List.set_cons_succ, i64_w, i32_w]
        rfl
      refine last_ (i := 14) (N := none) #[true, true, true, true, true, true, true, true, true, true, true, true, true, true, true] rfl rfl (by kernel_rfl) (by decide) (fun K hK => ?_)
      have r0 := blk_cell' hx6.out 0
      have g6 : w6.frozen? ⟨S, 0, none⟩ = false := (by simp [World.frozen?, hx6.out])
      simp at r0
      refine skip_ (w1 := ?_) (by rfl) rfl ?_ ?_
      rotate_left
      · go_simp
        rfl
      refine hK.out _ _ ?_
      clear hK K
      refine done_ (by kernel_rfl) ?_
      go_wp2_with fail
      go_ret
      rw [en.out, ef.out]
      refine ⟨rfl, ⟨.slice (some ⟨g, 0, none⟩) F.length c4, ⟨?_, ?_, Kd.R_set hR6.out hx6.out (fun q hq => (types52 q hq).2) 0 _, hh.out.hb, hh.out.hs, fun j y hy => ?_⟩, ?_⟩, hB6.out.setCell (p := ⟨S, 0, none⟩) hh.out.hs _, fun b hb1 hb2 hb3 hb4 => ?_, ?_⟩
      · exact blk_far hy6.out (p := ⟨S, 0, none⟩) hne.out.2.2 _
      · have := blk_set hx6.out 0 (.slice (some ⟨g, 0, none⟩) F.length c4)
        simpa using this
      · rw [List.eraseIdx_zero, List.getElem?_tail] at hy
        rw [hR5.out.con (j + 1) y hy]
        omega
      · exact hO5.out
      · rw [Below.heap_setCell _ _ _ _ hb3, hg6.out.block b (Nat.lt_of_lt_of_le hb1 hs5.out) (fun e => ?_)]
        · exact hF5.out b hb1 hb2 hb3 hb4
        · rcases hO5.out with h | ⟨b', h1, h2⟩
          · exact hb4 (by rw [← h]; exact e)
          · have h3 : b = g := by injection e
            have h4 : g = b' := by simpa [Value.ownBlock] using h1
            omega
      · have h1 : w5.heap.size ≤ w6.heap.size := hg6.out.size
        have h2 := hs5.out
        simp [World.setCell]
        omega
    · have z9 : ¬ ((size : Int) < (F.length : Int) + 1) := by omega
      have z10 : ¬ ((size : Int) < ((F.length + 1 : Nat) : Int)) := by omega
      have en : Aside0 (nxt size F ⟨f, es⟩ = F ++ [⟨f, es⟩]) := ⟨by unfold nxt; rw [if_neg ho]⟩
      have ef : Aside0 (nf0 size f0 F = f0) := ⟨by unfold nf0; rw [if_neg ho]⟩
      replace ho := Aside0.mk ho
      go_wp2_with fail
      go_ret
      rw [en.out, ef.out]
      exact ⟨rfl, ⟨_, hR5.out, hO5.out⟩, hB5.out, hF5.out, hs5.out⟩
  · have ka := Aside0.mk (atHighW_c f B S base size _ f0 F _ (hh.out.below hB1.out) (by omega) hf0 (by omega) (by omega))
    have z1 : (0 : Int) < (F.length : Int) := by omega
    obtain ⟨l, hl⟩ : ∃ l, l = f0 + (F.length : Int) - 1 := ⟨_, rfl⟩
    have kl := fun W (hR : Rg W B S base (.slice A0 F.length c0) size f0 F) => lastW_c B S base size _ f0 F W hR hf0 (by omega)
    have e2 : lst f0 F = l := by unfold lst; rw [if_neg h0, hl]
    rw [e2] at kl
    replace kl := Aside0.mk kl
    have z2 : ¬ (f ≤ l) := by omega
    have z3 : f - 1 = l := by omega
    have z4 : wrap64 (f - 1) = l := by unfold wrap64; omega
    have z5 : l < f := by omega
    have z6 : wrap64 l = l := by unfold wrap64; omega
    have zb1 : decide ((0 : Int) < (F.length : Int)) = true := decide_eq_true z1
    have zb2 : decide (0 < F.length) = true := decide_eq_true (by omega)
    have zb3 : decide (f ≤ l) = false := decide_eq_false z2
    have z0 : 0 < F.length := by omega
    clear hf hl e2
    go_enter Try.func9, Try.ntmps9
    go_wp2_with (first
      | (go_at_call 23; (with_reducible refine ka.out.mono ?_); rintro e w1 ⟨rfl, hd⟩; have hd1 := Aside0.mk (below_then hB1.out hB1.out.size hd.below); obtain ⟨p0, p1, p2⟩ := hfr.out w1 hd1.out; have e1 := Aside0.mk ((hd.below.block _ (blk_lt' e0.out)).trans e0.out); have p3 := blk_cell' e1.out 0; have p4 := blk_cell' e1.out 1; simp at p3 p4; clear hd)
      | fail)
    have hR1 := Aside0.mk (hh.out.below hd1.out)
    go_quiet ((go_at_call 11; exact quiet_dr (kl.out _ (hR1.out.drewN _))))
    go_wp2_with fail
    have hd2 := Aside0.mk (pw_below_drewN hd1.out nq)
    have e2 : Aside0 ((w1.drewN nq).heap[w.heap.size]? = some (.cells #[.int .i64 f, .slice A n c] 29 (0, 0))) := ⟨e1.out⟩
    clear p0 p1 p2 p3 p4 q0 q1 q2
    generalize w1.drewN nq = w2 at *
    have hR2 := Aside0.mk (hh.out.below hd2.out)
    have hC2 := Aside0.mk (fun W (hb : Below w2.heap.size w2 W) => HC.out W (Nat.le_trans hd2.out.size hb.size) (fun b hb1 _ _ _ => (hb.block b (Nat.lt_of_lt_of_le hb1 hd2.out.size)).trans (hd2.out.block b hb1)))
    have kS : Aside0 (∀ w', Below w2.heap.size w2 w' → w'.cell? ⟨B, 0, none⟩ = some (.pointer (some ⟨S, 0, none⟩)) ∧ w'.cell? ⟨S, 0, none⟩ = some (.slice A0 F.length c0) ∧ w'.cell? ⟨w.heap.size, 0, none⟩ = some (.int .i64 f) ∧ w'.cell? ⟨w.heap.size, 1, none⟩ = some (.slice A n c) ∧ Aside0 (Below w2.heap.size w2 w')) := ⟨fun w' hb => by
      have hx := (hb.block w.heap.size (blk_lt' e2.out)).trans e2.out
      obtain ⟨p0, p1, p2⟩ := hfr.out w' (below_then hd2.out hd2.out.size hb)
      exact ⟨p0, p2, blk_cell' hx 0, blk_cell' hx 1, ⟨hb⟩⟩⟩
    have hokp : Aside0 (∀ q, w2.heap.size ≤ q → True ∧ some q ≠ (Value.slice A0 F.length c0).ownBlock) := ⟨fun q hq => ⟨trivial, fun e => by
      have := (Kd.R_bound hR2.out.row).1 q e.symm
      omega⟩⟩
    refine start_ (n := 18) (S := fun w' => w'.cell? ⟨B, 0, none⟩ = some (.pointer (some ⟨S, 0, none⟩)) ∧ w'.cell? ⟨S, 0, none⟩ = some (.slice A0 F.length c0) ∧ w'.cell? ⟨w.heap.size, 0, none⟩ = some (.int .i64 f) ∧ w'.cell? ⟨w.heap.size, 1, none⟩ = some (.slice A n c)) (ds := [17]) #[false, false, false, false, false, false, false, false, false, false, false, false, false, false, false, false, false, false] (by kernel_rfl) rfl rfl ⟨(kS.out _ (below_drew (Below.refl _ _))).1, (kS.out _ (below_drew (Below.refl _ _))).2.1, (kS.out _ (below_drew (Below.refl _ _))).2.2.1, (kS.out _ (below_drew (Below.refl _ _))).2.2.2.1⟩ (fun hHeld => ?_)
    refine pure_ (i := 0) (N := some 70) (v := ?_) (a' := ?_) #[true, false, false, false, false, false, false, false, false, false, false, false, false, false, false, false, false, false] rfl rfl (by kernel_rfl) (fun _ _ _ h => h) (Or.inl ⟨by rfl, ?_⟩) ?_ ?_
    rotate_left
    · intro w'
      go_simp
      with_reducible rfl
    rotate_left
    · simp only [Act.put, List.setIfInBounds_toArray, List.set_cons_zero, List.set_cons_succ, i64_w, i32_w]
      rfl
    refine pure_ (i := 1) (N := some 71) (v := ?_) (a' := ?_) #[true, true, false, false, false, false, false, false, false, false, false, false, false, false, false, false, false, false] rfl rfl (by kernel_rfl) (fun _ _ _ h => h) (Or.inl ⟨by rfl, ?_⟩) ?_ ?_
    rotate_left
    · intro w'
      go_simp
      with_reducible rfl
    rotate_left
    · simp only [Act.put, List.setIfInBounds_toArray, List.set_cons_zero, List.set_cons_succ, i64_w, i32_w]
      rfl
    refine pure_ (i := 2) (N := some 72) (v := ?_) (a' := ?_) #[true, true, true, false, false, false, false, false, false, false, false, false, false, false, false, false, false, false] rfl rfl (by kernel_rfl) (fun _ _ _ h => h) (Or.inl ⟨by rfl, ?_⟩) ?_ ?_
    rotate_left
    · intro w'
      go_simp
      with_reducible rfl
    rotate_left
    · simp only [Act.put, List.setIfInBounds_toArray, List.set_cons_zero, List.set_cons_succ, i64_w, i32_w]
      rfl
    refine pure_ (i := 4) (N := some 74) (v := ?_) (a' := ?_) #[true, true, true, false, true, false, false, false, false, false, false, false, false, false, false, false, false, false] rfl rfl (by kernel_rfl) (fun _ _ _ h => h) (Or.inl ⟨by rfl, ?_⟩) ?_ ?_
    rotate_left
    · intro w'
      go_simp
      with_reducible rfl
    rotate_left
    · simp only [Act.put, List.setIfInBounds_toArray, List.set_cons_zero, List.set_cons_succ, i64_w, i32_w]
      rfl
    refine pure_ (i := 5) (N := some 75) (v := ?_) (a' := ?_) #[true, true, true, false, true, true, false, false, false, false, false, false, false, false, false, false, false, false] rfl rfl (by kernel_rfl) (fun _ _ _ h => h) (Or.inl ⟨by rfl, ?_⟩) ?_ ?_
    rotate_left
    · intro w'
      go_simp
      with_reducible rfl
    rotate_left
    · simp only [Act.put, List.setIfInBounds_toArray, List.set_cons_zero, List.set_cons_succ, i64_w, i32_w]
      rfl
    refine pure_ (i := 6) (N := some 76) (v := ?_) (a' := ?_) #[true, true, true, false, true, true, true, false, false, false, false, false, false, false, false, false, false, false] rfl rfl (by kernel_rfl) (fun _ _ _ h => h) (Or.inl ⟨by rfl, ?_⟩) ?_ ?_
    rotate_left
    · intro w'
      go_simp
      with_reducible rfl
    rotate_left
    · simp only [Act.put, List.setIfInBounds_toArray, List.set_cons_zero, List.set_cons_succ, i64_w, i32_w]
      rfl
    refine take_ (i := 3) (N := some 73) (v := ?_) (a' := ?_) #[true, true, true, true, true, true, true, false, false, false, false, false, false, false, false, false, false, false] rfl rfl (by kernel_rfl) (fun _ _ _ h => h) (Or.inl ⟨by rfl, ?_⟩) hHeld ?_ ?_
    rotate_left
    · rintro w' ⟨s0, s1, s2, s3⟩
      go_simp
      with_reducible rfl
    rotate_left
    · simp only [Act.put, List.setIfInBounds_toArray, List.set_cons_zero, List.set_cons_succ, i64_w, i32_w]
      rfl
    refine take_ (i := 7) (N := some 77) (v := ?_) (a' := ?_) #[true, true, true, true, true, true, true, true, false, false, false, false, false, false, false, false, false, false] rfl rfl (by kernel_rfl) (fun _ _ _ h => h) (Or.inl ⟨by rfl, ?_⟩) hHeld ?_ ?_
    rotate_left
    · rintro w' ⟨s0, s1, s2, s3⟩
      go_simp
      with_reducible rfl
    rotate_left
    · simp only [Act.put, List.setIfInBounds_toArray, List.set_cons_zero, List.set_cons_succ, i64_w, i32_w]
      rfl
    refine pure_ (i := 8) (N := some 78) (v := ?_) (a' := ?_) #[true, true, true, true, true, true, true, true, true, false, false, false, false, false, false, false, false, false] rfl rfl (by kernel_rfl) (fun _ _ _ h => h) (Or.inl ⟨by rfl, ?_⟩) ?_ ?_
    rotate_left
    · intro w'
      go_simp
      with_reducible rfl
    rotate_left
    · simp only [Act.put, List.setIfInBounds_toArray, List.set_cons_zero, List.set_cons_succ, i64_w, i32_w]
      rfl
    refine pure_ (i := 9) (N := some 79) (v := ?_) (a' := ?_) #[true, true, true, true, true, true, true, true, true, true, false, false, false, false, false, false, false, false] rfl rfl (by kernel_rfl) (fun _ _ _ h => h) (Or.inl ⟨by rfl, ?_⟩) ?_ ?_
    rotate_left
    · intro w'
      go_simp
      with_reducible rfl
    rotate_left
    · simp only [Act.put, List.setIfInBounds_toArray, List.set_cons_zero, List.set_cons_succ, i64_w, i32_w]
      rfl
    refine take_ (i := 10) (N := some 80) (v := ?_) (a' := ?_) #[true, true, true, true, true, true, true, true, true, true, true, false, false, false, false, false, false, false] rfl rfl (by kernel_rfl) (fun _ _ _ h => h) (Or.inl ⟨by rfl, ?_⟩) hHeld ?_ ?_
    rotate_left
    · rintro w' ⟨s0, s1, s2, s3⟩
      go_simp
      with_reducible rfl
    rotate_left
    · simp only [Act.put, List.setIfInBounds_toArray, List.set_cons_zero, List.set_cons_succ, i64_w, i32_w]
      rfl
    refine take_ (i := 11) (N := some 81) (v := ?_) (a' := ?_) #[true, true, true, true, true, true, true, true, true, true, true, true, false, false, false, false, false, false] rfl rfl (by kernel_rfl) (fun _ _ _ h => h) (Or.inl ⟨by rfl, ?_⟩) hHeld ?_ ?_
    rotate_left
    · rintro w' ⟨s0, s1, s2, s3⟩
      go_simp
      with_reducible rfl
    rotate_left
    · simp only [Act.put, List.setIfInBounds_toArray, List.set_cons_zero, List.set_cons_succ, i64_w, i32_w]
      rfl
    refine one_ (i := 12) (N := some 82) #[true, true, true, true, true, true, true, true, true, true, true, true, true, false, false, false, false, false] rfl rfl (by kernel_rfl) (by decide) (fun K hK => ?_)
    have HB_ := below_drew (Below.refl w2.heap.size w2)
    refine goes_ Try.func24 (by kernel_rfl) rfl #[.agg #[.int .i64 f, .slice A n c]] (by rfl) rfl rfl (by simp only [List.map_toArray, List.map_cons, List.map_nil]; rfl) ?_
    with_reducible refine (own_c f A n c es _ (hC2.out _ HB_) hn).mono ?_
    rintro e w3 ⟨⟨A', c', rfl, hR⟩, hbb⟩
    refine ⟨_, rfl, ?_⟩
    have hR3 : Aside0 (Kd.R k36 36 w3 base (fun q => w2.heap.size ≤ q) (.slice A' es.length c') es) := ⟨Kd.R_lower (Kd.R_mono (Kd.R_bound hR) (fun q hq => Nat.le_trans HB_.size hq.2.1)) (Nat.le_trans hbase (Nat.le_trans hd2.out.size HB_.size))⟩
    have hB3 := Aside0.mk (below_then HB_ HB_.size hbb)
    refine hK.out _ _ ⟨(kS.out _ hB3.out).1, (kS.out _ hB3.out).2.1, (kS.out _ hB3.out).2.2.1, (kS.out _ hB3.out).2.2.2.1⟩ (fun hHeld => ?_)
    clear hK K
    refine norm_ (a' := ?_) ?_ ?_
    rotate_left
    · show Act.put _ (some 82) _ = _
      simp only [Act.put, List.setIfInBounds_toArray, List.set_cons_zero, List.set_cons_succ, i64_w, i32_w]
      rfl
    refine one_ (i := 13) (N := some 83) #[true, true, true, true, true, true, true, true, true, true, true, true, true, true, false, false, false, false] rfl rfl (by kernel_rfl) (by decide) (fun K hK => ?_)
    refine value_ (w1 := ?_) (v := ?_) (by rfl) rfl ?_ ?_
    rotate_left 2
    · go_simp
      constructor
      · rfl
      · rfl
    refine hK.out _ _ ⟨(kS.out _ (hB3.out.alloc hB3.out.size _)).1, (kS.out _ (hB3.out.alloc hB3.out.size _)).2.1, (kS.out _ (hB3.out.alloc hB3.out.size _)).2.2.1, (kS.out _ (hB3.out.alloc hB3.out.size _)).2.2.2.1⟩ (fun hHeld => ?_)
    clear hK K
    refine norm_ (a' := ?_) ?_ ?_
    rotate_left
    · show Act.put _ (some 83) _ = _
      simp only [Act.put, List.setIfInBounds_toArray, List.set_cons_zero, List.set_cons_succ, i64_w, i32_w]
      rfl
    refine one_ (i := 14) (N := some 84) #[true, true, true, true, true, true, true, true, true, true, true, true, true, true, true, false, false, false] rfl rfl (by kernel_rfl) (by decide) (fun K hK => ?_)
    refine Kd.R_append_step k29 (w0 := w0) base (by rfl) (.tmp 80) (.tmp 83) 48 29 _ 32 (by rfl) Try.underlying48 info29 (by rfl) (by decide) (by omega) (.slice A0 F.length c0) F ⟨f, es⟩ [.int .i64 f, .slice A' es.length c'] (fun _ => True) (fun q => w2.heap.size ≤ q) (by rfl) (by rfl) (k29_mkM _ _ _ ⟨f, es⟩ hR3.out) hokp.out (fun _ _ => trivial) (Kd.R_below hR2.out.row hB3.out) (below_then (below_then HB.out hbase hd2.out) (Nat.le_trans hbase hd2.out.size) hB3.out) (Nat.le_trans hbase (Nat.le_trans hd2.out.size hB3.out.size)) (by omega) ?_
    intro v4 w4 hR4 hB4 hg4 hat4
    obtain ⟨A4, c4, e4⟩ := Kd.R_slice hR4
    rw [List.length_append, List.length_singleton] at e4
    subst e4
    replace hR4 := Aside0.mk hR4
    replace hB4 := Aside0.mk hB4
    have hx4 := Aside0.mk ((hg4.block S (Nat.lt_of_lt_of_le (blk_lt' hR2.out.st) hB3.out.size) hne.out.2.1).trans ((hB3.out.block S (blk_lt' hR2.out.st)).trans hR2.out.st))
    have hy4 := Aside0.mk ((hg4.block B (Nat.lt_of_lt_of_le (blk_lt' hR2.out.box) hB3.out.size) hne.out.1).trans ((hB3.out.block B (blk_lt' hR2.out.box)).trans hR2.out.box))
    have hz4 := Aside0.mk ((hg4.block w.heap.size (Nat.lt_of_lt_of_le (blk_lt' e2.out) hB3.out.size) (fun e => by have h7 := ((Kd.R_bound hh.out.row).1 _ e.symm).2.2.1; omega)).trans ((hB3.out.block w.heap.size (blk_lt' e2.out)).trans e2.out))
    replace hg4 := Aside0.mk hg4
    replace hat4 := Aside0.mk hat4
    refine hK.out _ _ ⟨(blk_cell' hy4.out 0), (blk_cell' hx4.out 0), (blk_cell' hz4.out 0), (blk_cell' hz4.out 1)⟩ (fun hHeld => ?_)
    clear hK K
    refine norm_ (a' := ?_) ?_ ?_
    rotate_left
    · show Act.put _ (some 84) _ = _
      simp only [Act.put, List.setIfInBounds_toArray, List.set_cons_zero, List.set_cons_succ, i64_w, i32_w]
      rfl
    refine pure_ (i := 15) (N := some 85) (v := ?_) (a' := ?_) #[true, true, true, true, true, true, true, true, true, true, true, true, true, true, true, true, false, false] rfl rfl (by kernel_rfl) (fun _ _ _ h => h) (Or.inl ⟨by rfl, ?_⟩) ?_ ?_
    rotate_left
    · intro w'
      go_simp
      with_reducible rfl
    rotate_left
    · simp only [Act.put, List.setIfInBounds_toArray, List.set_cons_zero, List.set_cons_succ, i64_w, i32_w]
      rfl
    refine pure_ (i := 16) (N := some 86) (v := ?_) (a' := ?_) #[true, true, true, true, true, true, true, true, true, true, true, true, true, true, true, true, true, false] rfl rfl (by kernel_rfl) (fun _ _ _ h => h) (Or.inl ⟨by rfl, ?_⟩) ?_ ?_
    rotate_left
    · intro w'
      go_simp
      with_reducible rfl
    rotate_left
    · simp only [Act.put, List.setIfInBounds_toArray, List.set_cons_zero, List.set_cons_succ, i64_w, i32_w]
      rfl
    refine last_ (i := 17) (N := none) #[true, true, true, true, true, true, true, true, true, true, true, true, true, true, true, true, true, true] rfl rfl (by kernel_rfl) (by decide) (fun K hK => ?_)
    have q4 := blk_cell' hx4.out 0
    have f4 : w4.frozen? ⟨S, 0, none⟩ = false := by simp [World.frozen?, hx4.out]
    simp at q4
    refine skip_ (w1 := ?_) (by rfl) rfl ?_ ?_
    rotate_left
    · go_simp
      rfl
    refine hK.out _ _ ?_
    clear hK K
    refine done_ (by kernel_rfl) ?_
    have hR5 : Aside0 (Rg (w4.setCell ⟨S, 0, none⟩ (.slice A4 (F.length + 1) c4)) B S base (.slice A4 (F.length + 1) c4) size f0 (F ++ [⟨f, es⟩])) := ⟨by
      refine ⟨?_, ?_, Kd.R_set hR4.out hx4.out (fun q hq => (types52 q hq).2) 0 _, hh.out.hb, hh.out.hs, fun j y hy => ?_⟩
      · exact blk_far hy4.out (p := ⟨S, 0, none⟩) hne.out.2.2 _
      · have := blk_set hx4.out 0 (.slice A4 (F.length + 1) c4)
        simpa using this
      · rcases Nat.lt_or_ge j F.length with hj | hj
        · rw [List.getElem?_append_left hj] at hy
          exact hh.out.con j y hy
        · rw [List.getElem?_append_right hj] at hy
          have hj0 : j - F.length = 0 := by
            have := (List.getElem?_eq_some_iff.1 hy).1
            simp at this
            omega
          rw [hj0] at hy
          simp at hy
          subst hy
          show f = _
          rw [hffA.out]
          omega⟩
    have hB5 := Aside0.mk (hB4.out.setCell (p := ⟨S, 0, none⟩) hh.out.hs (.slice A4 (F.length + 1) c4))
    have hs5 : Aside0 (w.heap.size ≤ (w4.setCell ⟨S, 0, none⟩ (.slice A4 (F.length + 1) c4)).heap.size) := ⟨by
      have h1 := hd2.out.size
      have h2 := hB3.out.size
      have h3 := hg4.out.size
      simp [World.setCell]
      omega⟩
    have hO5 : Aside0 ((Value.slice A4 (F.length + 1) c4).ownBlock = (Value.slice A0 F.length c0).ownBlock ∨ ∃ b, (Value.slice A4 (F.length + 1) c4).ownBlock = some b ∧ w.heap.size ≤ b) := ⟨by
      rcases hat4.out with h | ⟨b, h1, h2⟩
      · exact .inl h
      · have h3 := hd2.out.size
        have h4 := hB3.out.size
        exact .inr ⟨b, h1, by omega⟩⟩
    have hF5 : Aside0 (Fr w (w4.setCell ⟨S, 0, none⟩ (.slice A4 (F.length + 1) c4)) B S (.slice A0 F.length c0)) := ⟨fun b hb _ hbS hbv => by
      have h3 := hd2.out.size
      have h4 := hB3.out.size
      rw [Below.heap_setCell _ _ _ _ hbS, hg4.out.block b (by omega) hbv, hB3.out.block b (by omega)]
      exact hd2.out.block b hb⟩
    clear kS hC2 hokp hR4 hB4 hx4 hy4 hz4 hg4 hat4 q4 f4 hR3 hB3 hR hbb HB_ hHeld
    generalize w4.setCell ⟨S, 0, none⟩ (.slice A4 (F.length + 1) c4) = w5 at *
    obtain ⟨p0, p1, p2⟩ := hR5.out.cells
    go_wp2_with fail
    go_quiet (fail)
    replace hR5 := Aside0.mk (hR5.out.drewN nq)
    replace hB5 := Aside0.mk (pw_below_drewN hB5.out nq)
    replace hs5 : Aside0 (w.heap.size ≤ (w5.drewN nq).heap.size) := ⟨hs5.out⟩
    replace hF5 : Aside0 (Fr w (w5.drewN nq) B S (.slice A0 F.length c0)) := ⟨hF5.out⟩
    clear p0 p1 p2
    generalize w5.drewN nq = w5 at *
    obtain ⟨p0, p1, p2⟩ := hR5.out.cells
    by_cases ho : F.length + 1 > size
    · have z9 : (size : Int) < (F.length : Int) + 1 := by omega
      have z10 : (size : Int) < ((F.length + 1 : Nat) : Int) := by omega
      have en : Aside0 (nxt size F ⟨f, es⟩ = (F ++ [(⟨f, es⟩ : S29)]).eraseIdx 0) := ⟨by unfold nxt; rw [if_pos ho]⟩
      have ef : Aside0 (nf0 size f0 F = f0 + 1) := ⟨by unfold nf0; rw [if_pos ho]⟩
      replace ho := Aside0.mk ho
      obtain ⟨g, hg⟩ : ∃ g, A4 = some ⟨g, 0, none⟩ := by
        obtain ⟨ad, he, _⟩ := (Kd.R_reads' hR5.out.row).2.2.2.2 (by simp)
        subst he
        obtain ⟨g, rfl⟩ := R_home hR5.out.row
        exact ⟨g, rfl⟩
      subst hg
      have kd := Aside0.mk (delete_c g (F.length + 1) c4 0 base (fun _ => True) (F ++ [⟨f, es⟩]) w0 w5.drew (by omega) (by omega) (Kd.R_drew hR5.out.row) (below_drew1 hB5.out) (Nat.le_trans hbase hs5.out))
      simp only [show ((0 : Nat) : Int) = 0 from rfl, show (0 : Int) + 1 = 1 from rfl, Nat.add_sub_cancel] at kd
      have hne5 := Aside0.mk hR5.out.ne
      go_wp2_with fail
      refine start_ (n := 15) (S := fun w' => w'.cell? ⟨B, 0, none⟩ = some (.pointer (some ⟨S, 0, none⟩)) ∧ w'.cell? ⟨S, 0, none⟩ = some (.slice (some ⟨g, 0, none⟩) (F.length + 1) c4)) (ds := [14]) #[false, false, false, false, false, false, false, false, false, false, false, false, false, false, false] (by kernel_rfl) rfl rfl ⟨p0, p2⟩ (fun hHeld => ?_)
      refine pure_ (i := 0) (N := some 100) (v := ?_) (a' := ?_) #[true, false, false, false, false, false, false, false, false, false, false, false, false, false, false] rfl rfl (by kernel_rfl) (fun _ _ _ h => h) (Or.inl ⟨by rfl, ?_⟩) ?_ ?_
      rotate_left
      · intro w'
        go_simp
        with_reducible rfl
      rotate_left
      · simp only [Act.put, List.setIfInBounds_toArray, List.set_cons_zero, List.set_cons_succ, i64_w, i32_w]
        rfl
      refine pure_ (i := 1) (N := some 101) (v := ?_) (a' := ?_) #[true, true, false, false, false, false, false, false, false, false, false, false, false, false, false] rfl rfl (by kernel_rfl) (fun _ _ _ h => h) (Or.inl ⟨by rfl, ?_⟩) ?_ ?_
      rotate_left
      · intro w'
        go_simp
        with_reducible rfl
      rotate_left
      · simp only [Act.put, List.setIfInBounds_toArray, List.set_cons_zero, List.set_cons_succ, i64_w, i32_w]
        rfl
      refine pure_ (i := 2) (N := some 102) (v := ?_) (a' := ?_) #[true, true, true, false, false, false, false, false, false, false, false, false, false, false, false] rfl rfl (by kernel_rfl) (fun _ _ _ h => h) (Or.inl ⟨by rfl, ?_⟩) ?_ ?_
      rotate_left
      · intro w'
        go_simp
        with_reducible rfl
      rotate_left
      · simp only [Act.put, List.setIfInBounds_toArray, List.set_cons_zero, List.set_cons_succ, i64_w, i32_w]
        rfl
      refine pure_ (i := 4) (N := some 104) (v := ?_) (a' := ?_) #[true, true, true, false, true, false, false, false, false, false, false, false, false, false, false] rfl rfl (by kernel_rfl) (fun _ _ _ h => h) (Or.inl ⟨by rfl, ?_⟩) ?_ ?_
      rotate_left
      · intro w'
        go_simp
        with_reducible rfl
      rotate_left
      · simp only [Act.put, List.setIfInBounds_toArray, List.set_cons_zero, List.set_cons_succ, i64_w, i32_w]
        rfl
      refine pure_ (i := 5) (N := some 105) (v := ?_) (a' := ?_) #[true, true, true, false, true, true, false, false, false, false, false, false, false, false, false] rfl rfl (by kernel_rfl) (fun _ _ _ h => h) (Or.inl ⟨by rfl, ?_⟩) ?_ ?_
      rotate_left
      · intro w'
        go_simp
        with_reducible rfl
      rotate_left
      · simp only [Act.put, List.setIfInBounds_toArray, List.set_cons_zero, List.set_cons_succ, i64_w, i32_w]
        rfl
      refine pure_ (i := 6) (N := some 106) (v := ?_) (a' := ?_) #[true, true, true, false, true, true, true, false, false, false, false, false, false, false, false] rfl rfl (by kernel_rfl) (fun _ _ _ h => h) (Or.inl ⟨by rfl, ?_⟩) ?_ ?_
      rotate_left
      · intro w'
        go_simp
        with_reducible rfl
      rotate_left
      · simp only [Act.put, List.setIfInBounds_toArray, List.set_cons_zero, List.set_cons_succ, i64_w, i32_w]
        rfl
      refine take_ (i := 3) (N := some 103) (v := ?_) (a' := ?_) #[true, true, true, true, true, true, true, false, false, false, false, false, false, false, false] rfl rfl (by kernel_rfl) (fun _ _ _ h => h) (Or.inl ⟨by rfl, ?_⟩) hHeld ?_ ?_
      rotate_left
      · rintro w' ⟨s0, s1⟩
        go_simp
        with_reducible rfl
      rotate_left
      · simp only [Act.put, List.setIfInBounds_toArray, List.set_cons_zero, List.set_cons_succ, i64_w, i32_w]
        rfl
      refine take_ (i := 7) (N := some 107) (v := ?_) (a' := ?_) #[true, true, true, true, true, true, true, true, false, false, false, false, false, false, false] rfl rfl (by kernel_rfl) (fun _ _ _ h => h) (Or.inl ⟨by rfl, ?_⟩) hHeld ?_ ?_
      rotate_left
      · rintro w' ⟨s0, s1⟩
        go_simp
        with_reducible rfl
      rotate_left
      · simp only [Act.put, List.setIfInBounds_toArray, List.set_cons_zero, List.set_cons_succ, i64_w, i32_w]
        rfl
      refine pure_ (i := 8) (N := some 108) (v := ?_) (a' := ?_) #[true, true, true, true, true, true, true, true, true, false, false, false, false, false, false] rfl rfl (by kernel_rfl) (fun _ _ _ h => h) (Or.inl ⟨by rfl, ?_⟩) ?_ ?_
      rotate_left
      · intro w'
        go_simp
        with_reducible rfl
      rotate_left
      · simp only [Act.put, List.setIfInBounds_toArray, List.set_cons_zero, List.set_cons_succ, i64_w, i32_w]
        rfl
      refine pure_ (i := 9) (N := some 109) (v := ?_) (a' := ?_) #[true, true, true, true, true, true, true, true, true, true, false, false, false, false, false] rfl rfl (by kernel_rfl) (fun _ _ _ h => h) (Or.inl ⟨by rfl, ?_⟩) ?_ ?_
      rotate_left
      · intro w'
        go_simp
        with_reducible rfl
      rotate_left
      · simp only [Act.put, List.setIfInBounds_toArray, List.set_cons_zero, List.set_cons_succ, i64_w, i32_w]
        rfl
      refine take_ (i := 10) (N := some 110) (v := ?_) (a' := ?_) #[true, true, true, true, true, true, true, true, true, true, true, false, false, false, false] rfl rfl (by kernel_rfl) (fun _ _ _ h => h) (Or.inl ⟨by rfl, ?_⟩) hHeld ?_ ?_
      rotate_left
      · rintro w' ⟨s0, s1⟩
        go_simp
        with_reducible rfl
      rotate_left
      · simp only [Act.put, List.setIfInBounds_toArray, List.set_cons_zero, List.set_cons_succ, i64_w, i32_w]
        rfl
      refine one_ (i := 11) (N := some 111) #[true, true, true, true, true, true, true, true, true, true, true, true, false, false, false] rfl rfl (by kernel_rfl) (by decide) (fun K hK => ?_)
      refine goes_ Try.func25 (by kernel_rfl) rfl #[.slice (some ⟨g, 0, none⟩) (F.length + 1) c4, .int .i64 0, .int .i64 1] (by rfl) rfl rfl (by simp only [List.map_toArray, List.map_cons, List.map_nil]; rfl) ?_
      with_reducible refine (kd.out).mono ?_
      rintro e w6 ⟨rfl, hR6, hB6, hg6⟩
      refine ⟨_, rfl, ?_⟩
      have hx6 := Aside0.mk ((hg6.block S (blk_lt' hR5.out.st) hne5.out.2.1).trans hR5.out.st)
      have hy6 := Aside0.mk ((hg6.block B (blk_lt' hR5.out.box) hne5.out.1).trans hR5.out.box)
      replace hR6 := Aside0.mk hR6
      replace hB6 := Aside0.mk hB6
      replace hg6 := Aside0.mk hg6
      refine hK.out _ _ ⟨(blk_cell' hy6.out 0), (blk_cell' hx6.out 0)⟩ (fun hHeld => ?_)
      clear hK K
      refine norm_ (a' := ?_) ?_ ?_
      rotate_left
      · show Act.put _ (some 111) _ = _
        simp only [Act.put, List.setIfInBounds_toArray, List.set_cons_zero, List.set_cons_succ, i64_w, i32_w]
        rfl
      refine pure_ (i := 12) (N := some 112) (v := ?_) (a' := ?_) #[true, true, true, true, true, true, true, true, true, true, true, true, true, false, false] rfl rfl (by kernel_rfl) (fun _ _ _ h => h) (Or.inl ⟨by rfl, ?_⟩) ?_ ?_
      rotate_left
      · intro w'
        go_simp
        with_reducible rfl
      rotate_left
      · simp only [Act.put, List.setIfInBounds_toArray, List.set_cons_zero, List.set_cons_succ, i64_w, i32_w]
        rfl
      refine pure_ (i := 13) (N := some 113) (v := ?_) (a' := ?_) #[true, true, true, true, true, true, true, true, true, true, true, true, true, true, false] rfl rfl (by kernel_rfl) (fun _ _ _ h => h) (Or.inl ⟨by rfl, ?_⟩) ?_ ?_
      rotate_left
      · intro w'
        go_simp
        with_reducible rfl
      rotate_left
      · simp only [Act.put, List.setIfInBounds_toArray, List.set_cons_zero, List.set_cons_succ, i64_w, i32_w]
        rfl
      refine last_ (i := 14) (N := none) #[true, true, true, true, true, true, true, true, true, true, true, true, true, true, true] rfl rfl (by kernel_rfl) (by decide) (fun K hK => ?_)
      have r0 := blk_cell' hx6.out 0
      have g6 : w6.frozen? ⟨S, 0, none⟩ = false := (by simp [World.frozen?, hx6.out])
      simp at r0
      refine skip_ (w1 := ?_) (by rfl) rfl ?_ ?_
      rotate_left
      · go_simp
        rfl
      refine hK.out _ _ ?_
      clear hK K
      refine done_ (by kernel_rfl) ?_
      go_wp2_with fail
      go_ret
      rw [en.out, ef.out]
      refine ⟨rfl, ⟨.slice (some ⟨g, 0, none⟩) F.length c4, ⟨?_, ?_, Kd.R_set hR6.out hx6.out (fun q hq => (types52 q hq).2) 0 _, hh.out.hb, hh.out.hs, fun j y hy => ?_⟩, ?_⟩, hB6.out.setCell (p := ⟨S, 0, none⟩) hh.out.hs _, fun b hb1 hb2 hb3 hb4 => ?_, ?_⟩
      · exact blk_far hy6.out (p := ⟨S, 0, none⟩) hne.out.2.2 _
      · have := blk_set hx6.out 0 (.slice (some ⟨g, 0, none⟩) F.length c4)
        simpa using this
      · rw [List.eraseIdx_zero, List.getElem?_tail] at hy
        rw [hR5.out.con (j + 1) y hy]
        omega
      · exact hO5.out
      · rw [Below.heap_setCell _ _ _ _ hb3, hg6.out.block b (Nat.lt_of_lt_of_le hb1 hs5.out) (fun e => ?_)]
        · exact hF5.out b hb1 hb2 hb3 hb4
        · rcases hO5.out with h | ⟨b', h1, h2⟩
          · exact hb4 (by rw [← h]; exact e)
          · have h3 : b = g := by injection e
            have h4 : g = b' := by simpa [Value.ownBlock] using h1
            omega
      · have h1 : w5.heap.size ≤ w6.heap.size := hg6.out.size
        have h2 := hs5.out
        simp [World.setCell]
        omega
    · have z9 : ¬ ((size : Int) < (F.length : Int) + 1) := by omega
      have z10 : ¬ ((size : Int) < ((F.length + 1 : Nat) : Int)) := by omega
      have en : Aside0 (nxt size F ⟨f, es⟩ = F ++ [⟨f, es⟩]) := ⟨by unfold nxt; rw [if_neg ho]⟩
      have ef : Aside0 (nf0 size f0 F = f0) := ⟨by unfold nf0; rw [if_neg ho]⟩
      replace ho := Aside0.mk ho
      go_wp2_with fail
      go_ret
      rw [en.out, ef.out]
      exact ⟨rfl, ⟨_, hR5.out, hO5.out⟩, hB5.out, hF5.out, hs5.out⟩
end Go.Proofs.Ytompkbganljbkaa.Rin
