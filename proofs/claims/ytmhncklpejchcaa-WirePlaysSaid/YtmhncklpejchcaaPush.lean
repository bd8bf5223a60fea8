/- The wire's state, and the contracts of New, at, Len and Push. -/
import Derived.Test.YtmhncklpejchcaaDel
namespace Go.Proofs.Ytmhncklpejchcaa.Wir
open Go Go.RowKit Go.Proofs.Ytmhncklpejchcaa.PWirePlays Go.Proofs.YtmhncklpejchcaaW.PrintWords Go.Proofs.YtmhncklpejchcaaW.PrintLast Go.Proofs.YtmhncklpejchcaaW.PrintMore
set_option linter.unusedVariables false
set_option linter.unusedSimpArgs false
/-- a wire at block B, its rows above base -/
structure Wi (w : World) (B base : Nat) (v : Value) (L : List (List Int)) : Prop where
  box : w.heap[B]? = some (.cells #[v] 45 (0, 0))
  row : Kd.R kbs 27 w base (fun _ => True) v L
  hb : base ≤ B
theorem types45 : ∀ q, q ∈ 27 :: kbs.E → q ≠ 45 := by
  intro q hq
  simp [kbs, kb, Kd.slice, Kd.int, Kd.scalar] at hq
  rcases hq with rfl | rfl <;> decide
section
variable {w w' : World} {B base : Nat} {v : Value} {L : List (List Int)}
theorem Wi.below (h : Wi w B base v L) (hb : Below w.heap.size w w') : Wi w' B base v L := ⟨(hb.block B (blk_lt' h.box)).trans h.box, Kd.R_below h.row hb, h.hb⟩
theorem Wi.slice (h : Wi w B base v L) : ∃ A c, v = .slice A L.length c ∧ L.length ≤ c ∧ Kd.C kbs w A L.length L := Kd.R_reads h.row
theorem Wi.ne (h : Wi w B base v L) : some B ≠ v.ownBlock := Kd.R_ne h.row h.box (by decide)
/-- another value is stored in the box -/
theorem Wi.set (hx : w.heap[B]? = some (.cells #[v] 45 (0, 0))) (hb : base ≤ B) {v' : Value} {L' : List (List Int)} (hR : Kd.R kbs 27 w base (fun _ => True) v' L') : Wi (w.setCell ⟨B, 0, none⟩ v') B base v' L' := by
  refine ⟨?_, Kd.R_set hR hx types45 0 v', hb⟩
  have := blk_set hx 0 v'
  simpa using this
theorem Wi.new (w : World) : Wi (w.alloc (.cells #[.slice none 0 0] 45)) w.heap.size w.heap.size (.slice none 0 0) [] := ⟨heap_alloc_new _ _, Kd.R_nil _ _ _ _ _, Nat.le_refl _⟩
end
theorem new_c (w : World) : Calls Try.prog 8 #[] w fun e w' => e = .returned (.pointer (some ⟨w.heap.size, 0, none⟩)) ∧ Wi w' w.heap.size w.heap.size (.slice none 0 0) [] ∧ Below w.heap.size w w' := by
  go_enter Try.func8, Try.ntmps8
  go_wp2_with fail
  go_ret
  exact ⟨rfl, Wi.new w, (Below.refl _ _).alloc (Nat.le_refl _) _⟩
theorem atIn_c (i : Nat) (B base : Nat) (v : Value) (L : List (List Int)) (w : World) (h : Wi w B base v L) (hi : i < L.length) :
    Calls Try.prog 18 #[.pointer (some ⟨B, 0, none⟩), .int .i64 (i : Int)] w fun e w' => e = .returned (.int .i64 0) ∧ w' = w := by
  obtain ⟨A, c, rfl, hl, hC⟩ := h.slice
  have q0 := blk_cell' h.box 0
  simp at q0
  have hz : (0 : Int) ≤ (i : Int) := by omega
  have hz2 : (i : Int) < (L.length : Int) := by omega
  replace h := Aside0.mk h
  go_enter Try.func18, Try.ntmps18
  go_wp2_with fail
  all_goals go_ret
  all_goals exact ⟨rfl, rfl⟩
theorem atOut_c (i : Int) (B base : Nat) (v : Value) (L : List (List Int)) (w : World) (h : Wi w B base v L) (hi : i < 0 ∨ (L.length : Int) ≤ i) :
    Calls Try.prog 18 #[.pointer (some ⟨B, 0, none⟩), .int .i64 i] w fun e w' => e = .returned (.int .i64 8) ∧ w' = w := by
  obtain ⟨A, c, rfl, hl, hC⟩ := h.slice
  have q0 := blk_cell' h.box 0
  simp at q0
  replace h := Aside0.mk h
  rcases (by omega : i < 0 ∨ (0 ≤ i ∧ (L.length : Int) ≤ i)) with h0 | ⟨h0, h1⟩
  · clear hi
    go_enter Try.func18, Try.ntmps18
    go_wp2_with fail
    all_goals go_ret
    all_goals exact ⟨rfl, rfl⟩
  · clear hi
    go_enter Try.func18, Try.ntmps18
    go_wp2_with fail
    all_goals go_ret
    all_goals exact ⟨rfl, rfl⟩
theorem len_c (B base : Nat) (v : Value) (L : List (List Int)) (w : World) (h : Wi w B base v L) :
    Calls Try.prog 13 #[.pointer (some ⟨B, 0, none⟩)] w fun e w' => e = .returned (.int .i64 (L.length : Int)) ∧ w' = w := by
  obtain ⟨A, c, rfl, hl, hC⟩ := h.slice
  have q0 := blk_cell' h.box 0
  simp at q0
  replace h := Aside0.mk h
  go_enter Try.func13, Try.ntmps13
  go_wp2_with fail
  go_ret
  exact ⟨rfl, rfl⟩
/-- what was there stays, but the wire's box and its row -/
def Fr (w w' : World) (B : Nat) (v : Value) : Prop := ∀ b, b < w.heap.size → b ≠ B → some b ≠ v.ownBlock → w'.heap[b]? = w.heap[b]?
set_option maxRecDepth 100000 in
set_option maxHeartbeats 4000000 in
theorem push_c (B base : Nat) (v : Value) (L Ls : List (List Int)) (A : Option Addr) (n c : Nat) (w0 w : World) (hn : n ≤ 100000) (hL : L.length ≤ 4000) (h : Wi w B base v L) (HB : Below base w0 w) (hbase : base ≤ w.heap.size) (hcap : n ≤ c)
    (harg : ∀ W, w.heap.size ≤ W.heap.size → Below base w0 W → Fr w W B v → Kd.C kbs W A n Ls) (hs : ∀ x ∈ Ls, x.length ≤ 140737488351232) :
    Calls Try.prog 9 #[.pointer (some ⟨B, 0, none⟩), .slice A n c] w fun e w' => e = .returned (.int .i64 ((min n (4000 - L.length) : Nat) : Int)) ∧ ∃ v', Wi w' B base v' (L ++ Ls.take (min n (4000 - L.length))) ∧ (v'.ownBlock = v.ownBlock ∨ ∃ b, v'.ownBlock = some b ∧ w.heap.size ≤ b) ∧ Below base w0 w' ∧ Fr w w' B v ∧ w.heap.size ≤ w'.heap.size := by
  obtain ⟨m, hm⟩ : ∃ m, m = min n (4000 - L.length) := ⟨_, rfl⟩
  have hmm : min (n : Int) (wrap64 (4000 - (L.length : Int))) = (m : Int) := by rw [hm]; unfold wrap64; omega
  have hm1 : m ≤ n := by omega
  have hm2 : L.length + m ≤ 4000 := by omega
  rw [← hm]
  obtain ⟨A0, c0, rfl, hl, hC⟩ := h.slice
  have q0 := blk_cell' h.box 0
  simp at q0
  have h' := Aside0.mk h
  have hwA := harg w (Nat.le_refl _) HB (fun _ _ _ _ => rfl)
  have hLs : Aside0 (Ls.length = n) := ⟨hwA.1⟩
  clear hC
  have hargA := Aside0.mk harg
  have HBA := Aside0.mk HB
  have hsA := Aside0.mk hs
  replace hwA := Aside0.mk hwA
  clear harg hs HB h
  rcases (by omega : ((n : Int) ≤ 4000 - (L.length : Int) ∧ n = m) ∨ (4000 - (L.length : Int) < (n : Int) ∧ 4000 - (L.length : Int) = (m : Int))) with ⟨hle, hnm⟩ | ⟨hlt, hq⟩
  · subst hnm
    clear hmm hm hm1
    --ONE
    go_enter Try.func9, Try.ntmps9
    go_wp2_with fail
    go_loopw [23] (fun i wr => ∃ (k : Nat) (v' : Value), k ≤ n ∧ i = .int .i64 k ∧ Aside0 (Wi wr B base v' (L ++ Ls.take k)) ∧ Aside0 (v'.ownBlock = (Value.slice A0 L.length c0).ownBlock ∨ ∃ b, v'.ownBlock = some b ∧ w.heap.size ≤ b) ∧ Aside0 (Below base w0 wr) ∧ Aside0 (Fr w wr B (.slice A0 L.length c0)) ∧ Aside0 (w.heap.size ≤ wr.heap.size)) (fun i _ => n - (intOf i).toNat)
    case atStart => exact ⟨0, _, Nat.zero_le _, rfl, ⟨by rw [List.take_zero, List.append_nil]; exact h'.out⟩, ⟨.inl rfl⟩, HBA, ⟨fun _ _ _ _ => rfl⟩, ⟨Nat.le_refl _⟩⟩
    case round =>
      obtain ⟨k, v', hk, rfl, hW, hO, HB, hF, hsz⟩ := hrel
      clear q0 h' hwA HBA
      by_cases hkn : k < n
      · have hCr := hargA.out wr hsz.out HB.out hF.out
        obtain ⟨ad, A1, c1, e1, hx, hx1, hx2⟩ := at_L1 hCr (k : Int) (by omega) (by omega)
        rw [Int.toNat_natCast] at hx
        subst e1
        have hlk : k < Ls.length := by rw [hLs.out]; omega
        have hrd : rd_L1 Ls (k : Int) = Ls[k] := by simp [rd_L1, List.getD_eq_getElem?_getD, List.getElem?_eq_getElem hlk]
        have htk : Ls.take (k + 1) = Ls.take k ++ [Ls[k]] := List.take_succ_eq_append_getElem hlk
        have hxl := hsA.out _ (List.getElem_mem hlk)
        rw [hrd] at hx hx1 hx2
        generalize Ls[k] = xs at *
        clear hrd hCr
        obtain ⟨Av, cv, ev, hlv, hCv⟩ := hW.out.slice
        have q0 := blk_cell' hW.out.box 0
        simp at q0
        subst ev
        replace hx2 := Aside0.mk hx2
        replace hxl := Aside0.mk hxl
        replace htk := Aside0.mk htk
        replace hx1 := Aside0.mk hx1
        clear hCv hlv hlk
        have b0 : (0 : Int) ≤ (k : Int) := by omega
        have b1 : (k : Int) < (n : Int) := by omega
        have b2 : (n : Int) ≤ (c : Int) := by omega
        go_wp2_with fail
        replace hx2 : Aside0 (Kd.C kb wr A1 xs.length xs) := hx2
        have hnext : Aside0 (L ++ Ls.take (k + 1) = (L ++ Ls.take k) ++ [xs]) := ⟨by rw [htk.out, List.append_assoc]⟩
        have hLkl : Aside0 ((L ++ Ls.take k).length ≤ 4000) := ⟨by rw [List.length_append, List.length_take]; omega⟩
        generalize L ++ Ls.take k = Lk at *
        have hbr : Aside0 (base ≤ wr.heap.size) := ⟨Nat.le_trans hbase hsz.out⟩
        have hne : Aside0 (some B ≠ (Value.slice Av Lk.length cv).ownBlock) := ⟨hW.out.ne⟩
        have kS : Aside0 (∀ w', Below wr.heap.size wr w' → w'.cell? ⟨B, 0, none⟩ = some (.slice Av Lk.length cv) ∧ Aside0 (Below wr.heap.size wr w')) := ⟨fun w' hb => ⟨blk_cell' ((hb.block B (blk_lt' hW.out.box)).trans hW.out.box) 0, ⟨hb⟩⟩⟩
        have hokp : Aside0 (∀ q, wr.heap.size ≤ q → True ∧ some q ≠ (Value.slice Av Lk.length cv).ownBlock) := ⟨fun q hq => ⟨trivial, fun e => by
          have := (Kd.R_bound hW.out.row).1 q e.symm
          omega⟩⟩
        refine start_ (n := 12) (S := fun w' => w'.cell? ⟨B, 0, none⟩ = some (.slice Av Lk.length cv) ∧ Aside0 (Below wr.heap.size wr w')) (ds := [8, 11]) #[false, false, false, false, false, false, false, false, false, false, false, false] (by kernel_rfl) rfl rfl ⟨(kS.out _ (below_drew (Below.refl _ _))).1, (kS.out _ (below_drew (Below.refl _ _))).2⟩ (fun hHeld => ?_)
        refine pure_ (i := 0) (N := some 27) (v := ?_) (a' := ?_) #[true, false, false, false, false, false, false, false, false, false, false, false] rfl rfl (by kernel_rfl) (fun _ _ _ h => h) (Or.inl ⟨by rfl, ?_⟩) ?_ ?_
        rotate_left
        · intro w'
          go_simp
          with_reducible rfl
        rotate_left
        · simp only [Act.put, List.setIfInBounds_toArray, List.set_cons_zero, List.set_cons_succ, i64_w, i32_w]
          rfl
        refine pure_ (i := 1) (N := some 28) (v := ?_) (a' := ?_) #[true, true, false, false, false, false, false, false, false, false, false, false] rfl rfl (by kernel_rfl) (fun _ _ _ h => h) (Or.inl ⟨by rfl, ?_⟩) ?_ ?_
        rotate_left
        · intro w'
          go_simp
          with_reducible rfl
        rotate_left
        · simp only [Act.put, List.setIfInBounds_toArray, List.set_cons_zero, List.set_cons_succ, i64_w, i32_w]
          rfl
        refine pure_ (i := 2) (N := some 29) (v := ?_) (a' := ?_) #[true, true, true, false, false, false, false, false, false, false, false, false] rfl rfl (by kernel_rfl) (fun _ _ _ h => h) (Or.inl ⟨by rfl, ?_⟩) ?_ ?_
        rotate_left
        · intro w'
          go_simp
          with_reducible rfl
        rotate_left
        · simp only [Act.put, List.setIfInBounds_toArray, List.set_cons_zero, List.set_cons_succ, i64_w, i32_w]
          rfl
        refine pure_ (i := 3) (N := some 30) (v := ?_) (a' := ?_) #[true, true, true, true, false, false, false, false, false, false, false, false] rfl rfl (by kernel_rfl) (fun _ _ _ h => h) (Or.inl ⟨by rfl, ?_⟩) ?_ ?_
        rotate_left
        · intro w'
          go_simp
          with_reducible rfl
        rotate_left
        · simp only [Act.put, List.setIfInBounds_toArray, List.set_cons_zero, List.set_cons_succ, i64_w, i32_w]
          rfl
        refine pure_ (i := 5) (N := some 32) (v := ?_) (a' := ?_) #[true, true, true, true, false, true, false, false, false, false, false, false] rfl rfl (by kernel_rfl) (fun _ _ _ h => h) (Or.inl ⟨by rfl, ?_⟩) ?_ ?_
        rotate_left
        · intro w'
          go_simp
          with_reducible rfl
        rotate_left
        · simp only [Act.put, List.setIfInBounds_toArray, List.set_cons_zero, List.set_cons_succ, i64_w, i32_w]
          rfl
        refine take_ (i := 4) (N := some 31) (v := ?_) (a' := ?_) #[true, true, true, true, true, true, false, false, false, false, false, false] rfl rfl (by kernel_rfl) (fun _ _ _ h => h) (Or.inl ⟨by rfl, ?_⟩) hHeld ?_ ?_
        rotate_left
        · rintro w' ⟨s0, s1⟩
          go_simp
          with_reducible rfl
        rotate_left
        · simp only [Act.put, List.setIfInBounds_toArray, List.set_cons_zero, List.set_cons_succ, i64_w, i32_w]
          rfl
        refine one_ (i := 6) (N := some 33) #[true, true, true, true, true, true, true, false, false, false, false, false] rfl rfl (by kernel_rfl) (by decide) (fun K hK => ?_)
        have HB_ := hHeld.2.out
        refine goes_ Try.func17 (by kernel_rfl) rfl #[.slice A1 xs.length c1] (by rfl) rfl rfl (by simp only [List.map_toArray, List.map_cons, List.map_nil]; rfl) ?_
        with_reducible refine (clone_c A1 xs.length c1 xs _ (Kd.C_below hx2.out HB_) hxl.out).mono ?_
        rintro e w3 ⟨⟨A', c', rfl, hR⟩, hbb⟩
        refine ⟨_, rfl, ?_⟩
        have hR1 : Aside0 (Kd.R kb 5 w3 base (fun q => wr.heap.size ≤ q) (.slice A' xs.length c') xs) := ⟨Kd.R_lower (Kd.R_mono (Kd.R_bound hR) (fun q hq => Nat.le_trans HB_.size hq.2.1)) (Nat.le_trans hbr.out HB_.size)⟩
        have hB3 := Aside0.mk (below_then HB_ HB_.size hbb)
        have hH3 := Aside0.mk (heap_alloc_new w3 (.cells #[.slice A' xs.length c'] 27))
        refine hK.out _ _ ⟨(kS.out _ hB3.out).1, (kS.out _ hB3.out).2⟩ (fun hHeld => ?_)
        clear hK K
        refine norm_ (a' := ?_) ?_ ?_
        rotate_left
        · show Act.put _ (some 33) _ = _
          simp only [Act.put, List.setIfInBounds_toArray, List.set_cons_zero, List.set_cons_succ, i64_w, i32_w]
          rfl
        refine one_ (i := 7) (N := some 34) #[true, true, true, true, true, true, true, true, false, false, false, false] rfl rfl (by kernel_rfl) (by decide) (fun K hK => ?_)
        refine value_ (w1 := ?_) (v := ?_) (by rfl) rfl ?_ ?_
        rotate_left 2
        · go_simp
          constructor
          · rfl
          · rfl
        refine hK.out _ _ ⟨(kS.out _ (hB3.out.alloc hB3.out.size _)).1, (kS.out _ (hB3.out.alloc hB3.out.size _)).2⟩ (fun hHeld => ?_)
        clear hK K
        refine norm_ (a' := ?_) ?_ ?_
        rotate_left
        · show Act.put _ (some 34) _ = _
          simp only [Act.put, List.setIfInBounds_toArray, List.set_cons_zero, List.set_cons_succ, i64_w, i32_w]
          rfl
        refine last_ (i := 8) (N := some 35) #[true, true, true, true, true, true, true, true, true, false, false, false] rfl rfl (by kernel_rfl) (by decide) (fun K hK => ?_)
        refine Kd.R_append_step kbs (w0 := w0) base (by rfl) (.tmp 31) (.tmp 34) 22 27 _ 24 (by rfl) Try.underlying22 info27 (by rfl) (by decide) (by omega) (.slice Av Lk.length cv) Lk xs [.slice A' xs.length c'] (fun _ => True) (fun q => wr.heap.size ≤ q) (by rfl) (by rfl) ⟨_, rfl, hR1.out⟩ hokp.out (fun _ _ => trivial) (Kd.R_below hW.out.row hB3.out) (below_then HB.out hbr.out hB3.out) (Nat.le_trans hbr.out hB3.out.size) (by have := hLkl.out; omega) ?_
        intro v4 w4 hR4 hB4 hg4 hat4
        obtain ⟨A4, c4, e4⟩ := Kd.R_slice hR4
        rw [List.length_append, List.length_singleton] at e4
        subst e4
        replace hR4 := Aside0.mk hR4
        replace hB4 := Aside0.mk hB4
        have hx4 := Aside0.mk ((hg4.block B (blk_lt' ((hB3.out.block B (blk_lt' hW.out.box)).trans hW.out.box)) hne.out).trans ((hB3.out.block B (blk_lt' hW.out.box)).trans hW.out.box))
        replace hg4 := Aside0.mk hg4
        replace hat4 := Aside0.mk hat4
        refine hK.out _ _ ?_
        clear hK K
        refine norm_ (a' := ?_) ?_ ?_
        rotate_left
        · show Act.put _ (some 35) _ = _
          simp only [Act.put, List.setIfInBounds_toArray, List.set_cons_zero, List.set_cons_succ, i64_w, i32_w]
          rfl
        refine pure_ (i := 9) (N := some 36) (v := ?_) (a' := ?_) #[true, true, true, true, true, true, true, true, true, true, false, false] rfl rfl (by kernel_rfl) (fun _ _ _ h => h) (Or.inl ⟨by rfl, ?_⟩) ?_ ?_
        rotate_left
        · intro w'
          go_simp
          with_reducible rfl
        rotate_left
        · simp only [Act.put, List.setIfInBounds_toArray, List.set_cons_zero, List.set_cons_succ, i64_w, i32_w]
          rfl
        refine pure_ (i := 10) (N := some 37) (v := ?_) (a' := ?_) #[true, true, true, true, true, true, true, true, true, true, true, false] rfl rfl (by kernel_rfl) (fun _ _ _ h => h) (Or.inl ⟨by rfl, ?_⟩) ?_ ?_
        rotate_left
        · intro w'
          go_simp
          with_reducible rfl
        rotate_left
        · simp only [Act.put, List.setIfInBounds_toArray, List.set_cons_zero, List.set_cons_succ, i64_w, i32_w]
          rfl
        refine last_ (i := 11) (N := none) #[true, true, true, true, true, true, true, true, true, true, true, true] rfl rfl (by kernel_rfl) (by decide) (fun K hK => ?_)
        have q4 := blk_cell' hx4.out 0
        have f4 : w4.frozen? ⟨B, 0, none⟩ = false := by simp [World.frozen?, hx4.out]
        simp at q4
        refine skip_ (w1 := ?_) (by rfl) rfl ?_ ?_
        rotate_left
        · go_simp
          rfl
        refine hK.out _ _ ?_
        clear hK K
        refine done_ (by kernel_rfl) ?_
        have hW5 := Aside0.mk (Wi.set hx4.out hW.out.hb hR4.out)
        have hB5 := Aside0.mk (hB4.out.setCell (p := ⟨B, 0, none⟩) hW.out.hb (.slice A4 (Lk.length + 1) c4))
        have hs5 : Aside0 (w.heap.size ≤ (w4.setCell ⟨B, 0, none⟩ (.slice A4 (Lk.length + 1) c4)).heap.size) := ⟨by
          have h1 := hsz.out
          have h2 := hB3.out.size
          have h3 := hg4.out.size
          simp [World.setCell]
          omega⟩
        have hO5 : Aside0 ((Value.slice A4 (Lk.length + 1) c4).ownBlock = (Value.slice A0 L.length c0).ownBlock ∨ ∃ b, (Value.slice A4 (Lk.length + 1) c4).ownBlock = some b ∧ w.heap.size ≤ b) := ⟨by
          rcases hat4.out with h | ⟨b, h1, h2⟩
          · rw [h]; exact hO.out
          · have h3 := hsz.out
            have h4 := hB3.out.size
            exact .inr ⟨b, h1, by omega⟩⟩
        have hF5 : Aside0 (Fr w (w4.setCell ⟨B, 0, none⟩ (.slice A4 (Lk.length + 1) c4)) B (.slice A0 L.length c0)) := ⟨fun b hb hbB hbv => by
          have h3 := hsz.out
          have h4 := hB3.out.size
          rw [Below.heap_setCell _ _ _ _ hbB, hg4.out.block b (by omega) (fun e => by
            rcases hO.out with h | ⟨b', h1, h2⟩
            · exact hbv (e.trans h)
            · have h5 := e.trans h1
              injection h5 with h5
              omega), hB3.out.block b (by omega)]
          exact hF.out b hb hbB hbv⟩
        go_wp2_with fail
        go_roundw
        case rel => exact ⟨k + 1, _, by omega, by go_num, ⟨by rw [hnext.out]; exact hW5.out⟩, hO5, hB5, hF5, hs5⟩
        case measure => simp [intOf]; omega
      · have hkk : k = n := by omega
        subst hkk
        go_wp2_with fail
        go_ret
        exact ⟨rfl, v', hW.out, hO.out, HB.out, hF.out, hsz.out⟩
  · clear hmm hm
    --TWO
    go_enter Try.func9, Try.ntmps9
    go_wp2_with fail
    go_loopw [23] (fun i wr => ∃ (k : Nat) (v' : Value), k ≤ m ∧ i = .int .i64 k ∧ Aside0 (Wi wr B base v' (L ++ Ls.take k)) ∧ Aside0 (v'.ownBlock = (Value.slice A0 L.length c0).ownBlock ∨ ∃ b, v'.ownBlock = some b ∧ w.heap.size ≤ b) ∧ Aside0 (Below base w0 wr) ∧ Aside0 (Fr w wr B (.slice A0 L.length c0)) ∧ Aside0 (w.heap.size ≤ wr.heap.size)) (fun i _ => m - (intOf i).toNat)
    case atStart => exact ⟨0, _, Nat.zero_le _, rfl, ⟨by rw [List.take_zero, List.append_nil]; exact h'.out⟩, ⟨.inl rfl⟩, HBA, ⟨fun _ _ _ _ => rfl⟩, ⟨Nat.le_refl _⟩⟩
    case round =>
      obtain ⟨k, v', hk, rfl, hW, hO, HB, hF, hsz⟩ := hrel
      clear q0 h' hwA HBA
      by_cases hkn : k < m
      · have hCr := hargA.out wr hsz.out HB.out hF.out
        obtain ⟨ad, A1, c1, e1, hx, hx1, hx2⟩ := at_L1 hCr (k : Int) (by omega) (by omega)
        rw [Int.toNat_natCast] at hx
        subst e1
        have hlk : k < Ls.length := by rw [hLs.out]; omega
        have hrd : rd_L1 Ls (k : Int) = Ls[k] := by simp [rd_L1, List.getD_eq_getElem?_getD, List.getElem?_eq_getElem hlk]
        have htk : Ls.take (k + 1) = Ls.take k ++ [Ls[k]] := List.take_succ_eq_append_getElem hlk
        have hxl := hsA.out _ (List.getElem_mem hlk)
        rw [hrd] at hx hx1 hx2
        generalize Ls[k] = xs at *
        clear hrd hCr
        obtain ⟨Av, cv, ev, hlv, hCv⟩ := hW.out.slice
        have q0 := blk_cell' hW.out.box 0
        simp at q0
        subst ev
        replace hx2 := Aside0.mk hx2
        replace hxl := Aside0.mk hxl
        replace htk := Aside0.mk htk
        replace hx1 := Aside0.mk hx1
        clear hCv hlv hlk
        have b0 : (0 : Int) ≤ (k : Int) := by omega
        have b1 : (k : Int) < (m : Int) := by omega
        have b2 : (m : Int) ≤ (c : Int) := by omega
        go_wp2_with fail
        replace hx2 : Aside0 (Kd.C kb wr A1 xs.length xs) := hx2
        have hnext : Aside0 (L ++ Ls.take (k + 1) = (L ++ Ls.take k) ++ [xs]) := ⟨by rw [htk.out, List.append_assoc]⟩
        have hLkl : Aside0 ((L ++ Ls.take k).length ≤ 4000) := ⟨by rw [List.length_append, List.length_take]; omega⟩
        generalize L ++ Ls.take k = Lk at *
        have hbr : Aside0 (base ≤ wr.heap.size) := ⟨Nat.le_trans hbase hsz.out⟩
        have hne : Aside0 (some B ≠ (Value.slice Av Lk.length cv).ownBlock) := ⟨hW.out.ne⟩
        have kS : Aside0 (∀ w', Below wr.heap.size wr w' → w'.cell? ⟨B, 0, none⟩ = some (.slice Av Lk.length cv) ∧ Aside0 (Below wr.heap.size wr w')) := ⟨fun w' hb => ⟨blk_cell' ((hb.block B (blk_lt' hW.out.box)).trans hW.out.box) 0, ⟨hb⟩⟩⟩
        have hokp : Aside0 (∀ q, wr.heap.size ≤ q → True ∧ some q ≠ (Value.slice Av Lk.length cv).ownBlock) := ⟨fun q hq => ⟨trivial, fun e => by
          have := (Kd.R_bound hW.out.row).1 q e.symm
          omega⟩⟩
        refine start_ (n := 12) (S := fun w' => w'.cell? ⟨B, 0, none⟩ = some (.slice Av Lk.length cv) ∧ Aside0 (Below wr.heap.size wr w')) (ds := [8, 11]) #[false, false, false, false, false, false, false, false, false, false, false, false] (by kernel_rfl) rfl rfl ⟨(kS.out _ (below_drew (Below.refl _ _))).1, (kS.out _ (below_drew (Below.refl _ _))).2⟩ (fun hHeld => ?_)
        refine pure_ (i := 0) (N := some 27) (v := ?_) (a' := ?_) #[true, false, false, false, false, false, false, false, false, false, false, false] rfl rfl (by kernel_rfl) (fun _ _ _ h => h) (Or.inl ⟨by rfl, ?_⟩) ?_ ?_
        rotate_left
        · intro w'
          go_simp
          with_reducible rfl
        rotate_left
        · simp only [Act.put, List.setIfInBounds_toArray, List.set_cons_zero, List.set_cons_succ, i64_w, i32_w]
          rfl
        refine pure_ (i := 1) (N := some 28) (v := ?_) (a' := ?_) #[true, true, false, false, false, false, false, false, false, false, false, false] rfl rfl (by kernel_rfl) (fun _ _ _ h => h) (Or.inl ⟨by rfl, ?_⟩) ?_ ?_
        rotate_left
        · intro w'
          go_simp
          with_reducible rfl
        rotate_left
        · simp only [Act.put, List.setIfInBounds_toArray, List.set_cons_zero, List.set_cons_succ, i64_w, i32_w]
          rfl
        refine pure_ (i := 2) (N := some 29) (v := ?_) (a' := ?_) #[true, true, true, false, false, false, false, false, false, false, false, false] rfl rfl (by kernel_rfl) (fun _ _ _ h => h) (Or.inl ⟨by rfl, ?_⟩) ?_ ?_
        rotate_left
        · intro w'
          go_simp
          with_reducible rfl
        rotate_left
        · simp only [Act.put, List.setIfInBounds_toArray, List.set_cons_zero, List.set_cons_succ, i64_w, i32_w]
          rfl
        refine pure_ (i := 3) (N := some 30) (v := ?_) (a' := ?_) #[true, true, true, true, false, false, false, false, false, false, false, false] rfl rfl (by kernel_rfl) (fun _ _ _ h => h) (Or.inl ⟨by rfl, ?_⟩) ?_ ?_
        rotate_left
        · intro w'
          go_simp
          with_reducible rfl
        rotate_left
        · simp only [Act.put, List.setIfInBounds_toArray, List.set_cons_zero, List.set_cons_succ, i64_w, i32_w]
          rfl
        refine pure_ (i := 5) (N := some 32) (v := ?_) (a' := ?_) #[true, true, true, true, false, true, false, false, false, false, false, false] rfl rfl (by kernel_rfl) (fun _ _ _ h => h) (Or.inl ⟨by rfl, ?_⟩) ?_ ?_
        rotate_left
        · intro w'
          go_simp
          with_reducible rfl
        rotate_left
        · simp only [Act.put, List.setIfInBounds_toArray, List.set_cons_zero, List.set_cons_succ, i64_w, i32_w]
          rfl
        refine take_ (i := 4) (N := some 31) (v := ?_) (a' := ?_) #[true, true, true, true, true, true, false, false, false, false, false, false] rfl rfl (by kernel_rfl) (fun _ _ _ h => h) (Or.inl ⟨by rfl, ?_⟩) hHeld ?_ ?_
        rotate_left
        · rintro w' ⟨s0, s1⟩
          go_simp
          with_reducible rfl
        rotate_left
        · simp only [Act.put, List.setIfInBounds_toArray, List.set_cons_zero, List.set_cons_succ, i64_w, i32_w]
          rfl
        refine one_ (i := 6) (N := some 33) #[true, true, true, true, true, true, true, false, false, false, false, false] rfl rfl (by kernel_rfl) (by decide) (fun K hK => ?_)
        have HB_ := hHeld.2.out
        refine goes_ Try.func17 (by kernel_rfl) rfl #[.slice A1 xs.length c1] (by rfl) rfl rfl (by simp only [List.map_toArray, List.map_cons, List.map_nil]; rfl) ?_
        with_reducible refine (clone_c A1 xs.length c1 xs _ (Kd.C_below hx2.out HB_) hxl.out).mono ?_
        rintro e w3 ⟨⟨A', c', rfl, hR⟩, hbb⟩
        refine ⟨_, rfl, ?_⟩
        have hR1 : Aside0 (Kd.R kb 5 w3 base (fun q => wr.heap.size ≤ q) (.slice A' xs.length c') xs) := ⟨Kd.R_lower (Kd.R_mono (Kd.R_bound hR) (fun q hq => Nat.le_trans HB_.size hq.2.1)) (Nat.le_trans hbr.out HB_.size)⟩
        have hB3 := Aside0.mk (below_then HB_ HB_.size hbb)
        have hH3 := Aside0.mk (heap_alloc_new w3 (.cells #[.slice A' xs.length c'] 27))
        refine hK.out _ _ ⟨(kS.out _ hB3.out).1, (kS.out _ hB3.out).2⟩ (fun hHeld => ?_)
        clear hK K
        refine norm_ (a' := ?_) ?_ ?_
        rotate_left
        · show Act.put _ (some 33) _ = _
          simp only [Act.put, List.setIfInBounds_toArray, List.set_cons_zero, List.set_cons_succ, i64_w, i32_w]
          rfl
        refine one_ (i := 7) (N := some 34) #[true, true, true, true, true, true, true, true, false, false, false, false] rfl rfl (by kernel_rfl) (by decide) (fun K hK => ?_)
        refine value_ (w1 := ?_) (v := ?_) (by rfl) rfl ?_ ?_
        rotate_left 2
        · go_simp
          constructor
          · rfl
          · rfl
        refine hK.out _ _ ⟨(kS.out _ (hB3.out.alloc hB3.out.size _)).1, (kS.out _ (hB3.out.alloc hB3.out.size _)).2⟩ (fun hHeld => ?_)
        clear hK K
        refine norm_ (a' := ?_) ?_ ?_
        rotate_left
        · show Act.put _ (some 34) _ = _
          simp only [Act.put, List.setIfInBounds_toArray, List.set_cons_zero, List.set_cons_succ, i64_w, i32_w]
          rfl
        refine last_ (i := 8) (N := some 35) #[true, true, true, true, true, true, true, true, true, false, false, false] rfl rfl (by kernel_rfl) (by decide) (fun K hK => ?_)
        refine Kd.R_append_step kbs (w0 := w0) base (by rfl) (.tmp 31) (.tmp 34) 22 27 _ 24 (by rfl) Try.underlying22 info27 (by rfl) (by decide) (by omega) (.slice Av Lk.length cv) Lk xs [.slice A' xs.length c'] (fun _ => True) (fun q => wr.heap.size ≤ q) (by rfl) (by rfl) ⟨_, rfl, hR1.out⟩ hokp.out (fun _ _ => trivial) (Kd.R_below hW.out.row hB3.out) (below_then HB.out hbr.out hB3.out) (Nat.le_trans hbr.out hB3.out.size) (by have := hLkl.out; omega) ?_
        intro v4 w4 hR4 hB4 hg4 hat4
        obtain ⟨A4, c4, e4⟩ := Kd.R_slice hR4
        rw [List.length_append, List.length_singleton] at e4
        subst e4
        replace hR4 := Aside0.mk hR4
        replace hB4 := Aside0.mk hB4
        have hx4 := Aside0.mk ((hg4.block B (blk_lt' ((hB3.out.block B (blk_lt' hW.out.box)).trans hW.out.box)) hne.out).trans ((hB3.out.block B (blk_lt' hW.out.box)).trans hW.out.box))
        replace hg4 := Aside0.mk hg4
        replace hat4 := Aside0.mk hat4
        refine hK.out _ _ ?_
        clear hK K
        refine norm_ (a' := ?_) ?_ ?_
        rotate_left
        · show Act.put _ (some 35) _ = _
          simp only [Act.put, List.setIfInBounds_toArray, List.set_cons_zero, List.set_cons_succ, i64_w, i32_w]
          rfl
        refine pure_ (i := 9) (N := some 36) (v := ?_) (a' := ?_) #[true, true, true, true, true, true, true, true, true, true, false, false] rfl rfl (by kernel_rfl) (fun _ _ _ h => h) (Or.inl ⟨by rfl, ?_⟩) ?_ ?_
        rotate_left
        · intro w'
          go_simp
          with_reducible rfl
        rotate_left
        · simp only [Act.put, List.setIfInBounds_toArray, List.set_cons_zero, List.set_cons_succ, i64_w, i32_w]
          rfl
        refine pure_ (i := 10) (N := some 37) (v := ?_) (a' := ?_) #[true, true, true, true, true, true, true, true, true, true, true, false] rfl rfl (by kernel_rfl) (fun _ _ _ h => h) (Or.inl ⟨by rfl, ?_⟩) ?_ ?_
        rotate_left
        · intro w'
          go_simp
          with_reducible rfl
        rotate_left
        · simp only [Act.put, List.setIfInBounds_toArray, List.set_cons_zero, List.set_cons_succ, i64_w, i32_w]
          rfl
        refine last_ (i := 11) (N := none) #[true, true, true, true, true, true, true, true, true, true, true, true] rfl rfl (by kernel_rfl) (by decide) (fun K hK => ?_)
        have q4 := blk_cell' hx4.out 0
        have f4 : w4.frozen? ⟨B, 0, none⟩ = false := by simp [World.frozen?, hx4.out]
        simp at q4
        refine skip_ (w1 := ?_) (by rfl) rfl ?_ ?_
        rotate_left
        · go_simp
          rfl
        refine hK.out _ _ ?_
        clear hK K
        refine done_ (by kernel_rfl) ?_
        have hW5 := Aside0.mk (Wi.set hx4.out hW.out.hb hR4.out)
        have hB5 := Aside0.mk (hB4.out.setCell (p := ⟨B, 0, none⟩) hW.out.hb (.slice A4 (Lk.length + 1) c4))
        have hs5 : Aside0 (w.heap.size ≤ (w4.setCell ⟨B, 0, none⟩ (.slice A4 (Lk.length + 1) c4)).heap.size) := ⟨by
          have h1 := hsz.out
          have h2 := hB3.out.size
          have h3 := hg4.out.size
          simp [World.setCell]
          omega⟩
        have hO5 : Aside0 ((Value.slice A4 (Lk.length + 1) c4).ownBlock = (Value.slice A0 L.length c0).ownBlock ∨ ∃ b, (Value.slice A4 (Lk.length + 1) c4).ownBlock = some b ∧ w.heap.size ≤ b) := ⟨by
          rcases hat4.out with h | ⟨b, h1, h2⟩
          · rw [h]; exact hO.out
          · have h3 := hsz.out
            have h4 := hB3.out.size
            exact .inr ⟨b, h1, by omega⟩⟩
        have hF5 : Aside0 (Fr w (w4.setCell ⟨B, 0, none⟩ (.slice A4 (Lk.length + 1) c4)) B (.slice A0 L.length c0)) := ⟨fun b hb hbB hbv => by
          have h3 := hsz.out
          have h4 := hB3.out.size
          rw [Below.heap_setCell _ _ _ _ hbB, hg4.out.block b (by omega) (fun e => by
            rcases hO.out with h | ⟨b', h1, h2⟩
            · exact hbv (e.trans h)
            · have h5 := e.trans h1
              injection h5 with h5
              omega), hB3.out.block b (by omega)]
          exact hF.out b hb hbB hbv⟩
        go_wp2_with fail
        go_roundw
        case rel => exact ⟨k + 1, _, by omega, by go_num, ⟨by rw [hnext.out]; exact hW5.out⟩, hO5, hB5, hF5, hs5⟩
        case measure => simp [intOf]; omega
      · have hkk : k = m := by omega
        subst hkk
        go_wp2_with fail
        go_ret
        exact ⟨rfl, v', hW.out, hO.out, HB.out, hF.out, hsz.out⟩
end Go.Proofs.Ytmhncklpejchcaa.Wir
