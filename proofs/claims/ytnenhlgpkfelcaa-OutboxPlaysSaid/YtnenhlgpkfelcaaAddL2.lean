/- The contract of Add over a list of messages that is of the region and the frame. -/
import Derived.Test.YtnenhlgpkfelcaaAdd2
import Derived.Test.YtnenhlgpkfelcaaWLast
namespace Go.Proofs.Ytnenhlgpkfelcaa.Box2
open Go.Proofs.Ytnenhlgpkfelcaa.Box
open Go Go.RowKit Go.Maps Go.Proofs.Ytnenhlgpkfelcaa.POutboxPlays Go.Proofs.YtnenhlgpkfelcaaW.PrintWords Go.Proofs.YtnenhlgpkfelcaaW.PrintLast Go.Proofs.YtnenhlgpkfelcaaW.PrintMore
set_option linter.unusedVariables false
set_option linter.unusedSimpArgs false
/-- one list more -/
def putF (r : Nat) (f : Int) (v : Value) (Fs : Nat → Int → Option Value) : Nat → Int → Option Value := fun i => if i = r then (fun x => if x = f then some v else Fs r x) else Fs i
set_option maxRecDepth 100000 in
set_option maxHeartbeats 4000000 in
/-- a list that is of the region and the frame is taken, if none is there -/
theorem addL_c (B R xc k N : Nat) (ms : Nat → Nat) (Fs : Nat → Int → Option Value) (r : Nat) (hr : r < k) (hk : k ≤ 100) (f : Int) (f0 : 0 ≤ f) (f1 : f < 10000) (A : Option Addr) (n c : Nat) (l : List S36) (hn : n ≤ 1000) (hgood : l.any (badP r f) = false) (hN : N < 100000) (w : World) (h : St w B R xc k N ms Fs) (HC : Kd.C k36 w A n l) :
    Calls Try.prog 9 #[.pointer (some ⟨B, 0, none⟩), .agg #[.int .i64 (r : Int), .int .i64 f, .slice A n c]] w fun e w' => e = .returned (.bool (!(Fs r f).isSome)) ∧ ((Fs r f).isSome = true → St w' B R xc k N ms Fs) ∧ ((Fs r f).isSome = false → ∃ A' c', Kd.R k36 36 w' w.heap.size (fun _ => True) (.slice A' l.length c') l ∧ St w' B R xc k (N + 1) ms (putF r f (.slice A' l.length c') Fs)) ∧ (∀ w0 : World, Below w0.heap.size w0 w → w0.heap.size ≤ ms r → Below w0.heap.size w0 w') ∧ (∀ b, b < w.heap.size → b ≠ ms r → w'.heap[b]? = w.heap[b]?) := by
  have hi := fun W (hh : St W B R xc k N ms Fs) => is_c B R xc k N ms Fs (r : Int) W hh
  have hit : isB k (r : Int) = true := by unfold isB; simp; omega
  rw [hit] at hi
  replace hi := Aside0.mk hi
  replace h := Aside0.mk h
  have b0 : (0 : Int) ≤ (r : Int) := by omega
  have b1 : (r : Int) < (k : Int) := by omega
  have hbA := (Below.refl w.heap.size w).alloc (Nat.le_refl _) (.cells #[.int .i64 (r : Int), .int .i64 f, .slice A n c] 30)
  have h1 := h.out.below hbA
  have hC1 := Kd.C_alloc HC (.cells #[.int .i64 (r : Int), .int .i64 f, .slice A n c] 30)
  have q0 : (w.alloc (.cells #[.int .i64 (r : Int), .int .i64 f, .slice A n c] 30)).cell? ⟨w.heap.size, 0, none⟩ = some (.int .i64 (r : Int)) := World.cell?_alloc_new w _ _ _
  have q1 : (w.alloc (.cells #[.int .i64 (r : Int), .int .i64 f, .slice A n c] 30)).cell? ⟨w.heap.size, 1, none⟩ = some (.int .i64 f) := World.cell?_alloc_new w _ _ _
  have q2 : (w.alloc (.cells #[.int .i64 (r : Int), .int .i64 f, .slice A n c] 30)).cell? ⟨w.heap.size, 2, none⟩ = some (.slice A n c) := World.cell?_alloc_new w _ _ _
  have qb : (w.alloc (.cells #[.int .i64 (r : Int), .int .i64 f, .slice A n c] 30)).heap[w.heap.size]? = some (.cells #[.int .i64 (r : Int), .int .i64 f, .slice A n c] 30 (0, 0)) := heap_alloc_new _ _
  replace hbA := Aside0.mk hbA
  replace HC := Aside0.mk HC
  go_enter Try.func9, Try.ntmps9
  go_wp2_with fail
  generalize hW : w.alloc (.cells #[.int .i64 (r : Int), .int .i64 f, .slice A n c] 30) = W0 at *
  replace h1 := Aside0.mk h1
  replace hC1 := Aside0.mk hC1
  replace qb := Aside0.mk qb
  go_still_tail 25, (by kernel_rfl)
  still_call (hi.out _ (by exact h1.out.drew))
  repeat still_step
  refine wpStill_nil ?_
  change wpList _ _ _ _ _ W0.drew
  have kc := contains_c A n c l w.heap.size (badP r f) W0.drew (by exact hC1.out) (by omega) (fun p W' hb => pred_c w.heap.size (r : Int) f (.slice A n c) p W' ((hb.block _ (by exact blk_lt' qb.out)).trans qb.out))
  rw [hgood] at kc
  replace kc := Aside0.mk kc
  go_wp2_with (first
    | (go_at_call 22; (with_reducible refine kc.out.mono ?_); rintro e w2 ⟨rfl, hb2⟩; have HB := Aside0.mk (below_then (below_drew hbA.out) (below_drew hbA.out).size hb2))
    | fail)
  have h2 : St w2 B R xc k N ms Fs := (h1.out.move rfl rfl (fun _ _ => rfl) : St W0.drew B R xc k N ms Fs).below hb2
  have hx2 := Aside0.mk ((hb2.block w.heap.size (blk_lt' qb.out)).trans qb.out)
  have hC2 := Aside0.mk (Kd.C_below HC.out HB.out)
  clear h1 hC1 qb hb2 kc q0 q1 q2 hbA hi hW
  have q0 := blk_cell' hx2.out 0
  have q1 := blk_cell' hx2.out 1
  have q2 := blk_cell' hx2.out 2
  simp at q0 q1 q2
  obtain ⟨c1, c2⟩ := h2.cells
  have c3 := c2 r hr
  clear c2
  have hlk := fun m => ((h2.drewN m).maps r hr).look (key := f) (wf64 (by omega) (by omega))
  replace h2 := Aside0.mk h2
  generalize hv : (Fs r f).getD nilS = v at hlk
  generalize hth : (Fs r f).isSome = th at *
  replace hv := Aside0.mk hv
  replace hth := Aside0.mk hth
  have hl : Aside0 (l.length = n) := ⟨HC.out.1⟩
  cases th with
  | true =>
    go_quiet (fail)
    go_wp2_with fail
    go_ret
    refine ⟨by rw [hth.out]; rfl, fun _ => h2.out.drewN _, fun hx => (by rw [hth.out] at hx; cases hx), fun w0 hb hle => pw_below_drewN (below_then hb hb.size HB.out) _, fun b hb _ => HB.out.block b hb⟩
  | false =>
    go_quiet (fail)
    go_wp2_with fail
    have h3 := Aside0.mk (h2.out.drewN nq)
    have hx3 : Aside0 ((w2.drewN nq).heap[w.heap.size]? = _) := ⟨hx2.out⟩
    have hC3 : Aside0 (Kd.C k36 (w2.drewN nq) A n l) := ⟨Kd.C_below hC2.out (pw_below_drewN (Below.refl _ _) nq)⟩
    have HB3 := Aside0.mk (pw_below_drewN HB.out nq)
    clear hlk h2 hx2 hC2 HB q0 q1 q2 c1 c3
    generalize w2.drewN nq = W1 at *
    have kS : Aside0 (∀ w', Below W1.heap.size W1 w' → w'.cell? ⟨B, 0, none⟩ = some (.slice (some ⟨R, 0, none⟩) k (k + xc)) ∧ w'.cell? ⟨R, r, none⟩ = some (.map (some (ms r))) ∧ w'.cell? ⟨w.heap.size, 0, none⟩ = some (.int .i64 (r : Int)) ∧ w'.cell? ⟨w.heap.size, 1, none⟩ = some (.int .i64 f) ∧ w'.cell? ⟨w.heap.size, 2, none⟩ = some (.slice A n c) ∧ Aside0 (Below W1.heap.size W1 w')) := ⟨fun w' hb => by
      have hx := (hb.block w.heap.size (blk_lt' hx3.out)).trans hx3.out
      obtain ⟨c1, c2⟩ := (h3.out.below hb).cells
      exact ⟨c1, c2 r hr, blk_cell' hx 0, blk_cell' hx 1, blk_cell' hx 2, ⟨hb⟩⟩⟩
    refine start_ (n := 15) (S := fun w' => w'.cell? ⟨B, 0, none⟩ = some (.slice (some ⟨R, 0, none⟩) k (k + xc)) ∧ w'.cell? ⟨R, r, none⟩ = some (.map (some (ms r))) ∧ w'.cell? ⟨w.heap.size, 0, none⟩ = some (.int .i64 (r : Int)) ∧ w'.cell? ⟨w.heap.size, 1, none⟩ = some (.int .i64 f) ∧ w'.cell? ⟨w.heap.size, 2, none⟩ = some (.slice A n c) ∧ Aside0 (Below W1.heap.size W1 w')) (ds := [14]) #[false, false, false, false, false, false, false, false, false, false, false, false, false, false, false] (by kernel_rfl) rfl rfl ⟨(kS.out _ (below_drew (Below.refl _ _))).1, (kS.out _ (below_drew (Below.refl _ _))).2.1, (kS.out _ (below_drew (Below.refl _ _))).2.2.1, (kS.out _ (below_drew (Below.refl _ _))).2.2.2.1, (kS.out _ (below_drew (Below.refl _ _))).2.2.2.2.1, (kS.out _ (below_drew (Below.refl _ _))).2.2.2.2.2⟩ (fun hHeld => ?_)
    refine pure_ (i := 0) (N := some 50) (v := ?_) (a' := ?_) #[true, false, false, false, false, false, false, false, false, false, false, false, false, false, false] rfl rfl (by kernel_rfl) (fun _ _ _ h => h) (Or.inl ⟨by rfl, ?_⟩) ?_ ?_
    rotate_left
    · intro w'
      go_simp
      with_reducible rfl
    rotate_left
    · simp only [Act.put, List.setIfInBounds_toArray, List.set_cons_zero, List.set_cons_succ, i64_w, i32_w]
      rfl
    refine pure_ (i := 1) (N := some 51) (v := ?_) (a' := ?_) #[true, true, false, false, false, false, false, false, false, false, false, false, false, false, false] rfl rfl (by kernel_rfl) (fun _ _ _ h => h) (Or.inl ⟨by rfl, ?_⟩) ?_ ?_
    rotate_left
    · intro w'
      go_simp
      with_reducible rfl
    rotate_left
    · simp only [Act.put, List.setIfInBounds_toArray, List.set_cons_zero, List.set_cons_succ, i64_w, i32_w]
      rfl
    refine pure_ (i := 2) (N := some 52) (v := ?_) (a' := ?_) #[true, true, true, false, false, false, false, false, false, false, false, false, false, false, false] rfl rfl (by kernel_rfl) (fun _ _ _ h => h) (Or.inl ⟨by rfl, ?_⟩) ?_ ?_
    rotate_left
    · intro w'
      go_simp
      with_reducible rfl
    rotate_left
    · simp only [Act.put, List.setIfInBounds_toArray, List.set_cons_zero, List.set_cons_succ, i64_w, i32_w]
      rfl
    refine pure_ (i := 3) (N := some 53) (v := ?_) (a' := ?_) #[true, true, true, true, false, false, false, false, false, false, false, false, false, false, false] rfl rfl (by kernel_rfl) (fun _ _ _ h => h) (Or.inl ⟨by rfl, ?_⟩) ?_ ?_
    rotate_left
    · intro w'
      go_simp
      with_reducible rfl
    rotate_left
    · simp only [Act.put, List.setIfInBounds_toArray, List.set_cons_zero, List.set_cons_succ, i64_w, i32_w]
      rfl
    refine pure_ (i := 5) (N := some 55) (v := ?_) (a' := ?_) #[true, true, true, true, false, true, false, false, false, false, false, false, false, false, false] rfl rfl (by kernel_rfl) (fun _ _ _ h => h) (Or.inl ⟨by rfl, ?_⟩) ?_ ?_
    rotate_left
    · intro w'
      go_simp
      with_reducible rfl
    rotate_left
    · simp only [Act.put, List.setIfInBounds_toArray, List.set_cons_zero, List.set_cons_succ, i64_w, i32_w]
      rfl
    refine pure_ (i := 9) (N := some 59) (v := ?_) (a' := ?_) #[true, true, true, true, false, true, false, false, false, true, false, false, false, false, false] rfl rfl (by kernel_rfl) (fun _ _ _ h => h) (Or.inl ⟨by rfl, ?_⟩) ?_ ?_
    rotate_left
    · intro w'
      go_simp
      with_reducible rfl
    rotate_left
    · simp only [Act.put, List.setIfInBounds_toArray, List.set_cons_zero, List.set_cons_succ, i64_w, i32_w]
      rfl
    refine pure_ (i := 11) (N := some 61) (v := ?_) (a' := ?_) #[true, true, true, true, false, true, false, false, false, true, false, true, false, false, false] rfl rfl (by kernel_rfl) (fun _ _ _ h => h) (Or.inl ⟨by rfl, ?_⟩) ?_ ?_
    rotate_left
    · intro w'
      go_simp
      with_reducible rfl
    rotate_left
    · simp only [Act.put, List.setIfInBounds_toArray, List.set_cons_zero, List.set_cons_succ, i64_w, i32_w]
      rfl
    refine take_ (i := 4) (N := some 54) (v := ?_) (a' := ?_) #[true, true, true, true, true, true, false, false, false, true, false, true, false, false, false] rfl rfl (by kernel_rfl) (fun _ _ _ h => h) (Or.inl ⟨by rfl, ?_⟩) hHeld ?_ ?_
    rotate_left
    · rintro w' ⟨s0, s1, s2, s3, s4, s5⟩
      go_simp
      with_reducible rfl
    rotate_left
    · simp only [Act.put, List.setIfInBounds_toArray, List.set_cons_zero, List.set_cons_succ, i64_w, i32_w]
      rfl
    refine take_ (i := 6) (N := some 56) (v := ?_) (a' := ?_) #[true, true, true, true, true, true, true, false, false, true, false, true, false, false, false] rfl rfl (by kernel_rfl) (fun _ _ _ h => h) (Or.inl ⟨by rfl, ?_⟩) hHeld ?_ ?_
    rotate_left
    · rintro w' ⟨s0, s1, s2, s3, s4, s5⟩
      go_simp
      with_reducible rfl
    rotate_left
    · simp only [Act.put, List.setIfInBounds_toArray, List.set_cons_zero, List.set_cons_succ, i64_w, i32_w]
      rfl
    refine pure_ (i := 7) (N := some 57) (v := ?_) (a' := ?_) #[true, true, true, true, true, true, true, true, false, true, false, true, false, false, false] rfl rfl (by kernel_rfl) (fun _ _ _ h => h) (Or.inl ⟨by rfl, ?_⟩) ?_ ?_
    rotate_left
    · intro w'
      go_simp
      with_reducible rfl
    rotate_left
    · simp only [Act.put, List.setIfInBounds_toArray, List.set_cons_zero, List.set_cons_succ, i64_w, i32_w]
      rfl
    refine take_ (i := 8) (N := some 58) (v := ?_) (a' := ?_) #[true, true, true, true, true, true, true, true, true, true, false, true, false, false, false] rfl rfl (by kernel_rfl) (fun _ _ _ h => h) (Or.inl ⟨by rfl, ?_⟩) hHeld ?_ ?_
    rotate_left
    · rintro w' ⟨s0, s1, s2, s3, s4, s5⟩
      go_simp
      with_reducible rfl
    rotate_left
    · simp only [Act.put, List.setIfInBounds_toArray, List.set_cons_zero, List.set_cons_succ, i64_w, i32_w]
      rfl
    refine take_ (i := 10) (N := some 60) (v := ?_) (a' := ?_) #[true, true, true, true, true, true, true, true, true, true, true, true, false, false, false] rfl rfl (by kernel_rfl) (fun _ _ _ h => h) (Or.inl ⟨by rfl, ?_⟩) hHeld ?_ ?_
    rotate_left
    · rintro w' ⟨s0, s1, s2, s3, s4, s5⟩
      go_simp
      with_reducible rfl
    rotate_left
    · simp only [Act.put, List.setIfInBounds_toArray, List.set_cons_zero, List.set_cons_succ, i64_w, i32_w]
      rfl
    refine take_ (i := 12) (N := some 62) (v := ?_) (a' := ?_) #[true, true, true, true, true, true, true, true, true, true, true, true, true, false, false] rfl rfl (by kernel_rfl) (fun _ _ _ h => h) (Or.inl ⟨by rfl, ?_⟩) hHeld ?_ ?_
    rotate_left
    · rintro w' ⟨s0, s1, s2, s3, s4, s5⟩
      go_simp
      with_reducible rfl
    rotate_left
    · simp only [Act.put, List.setIfInBounds_toArray, List.set_cons_zero, List.set_cons_succ, i64_w, i32_w]
      rfl
    refine one_ (i := 13) (N := some 63) #[true, true, true, true, true, true, true, true, true, true, true, true, true, true, false] rfl rfl (by kernel_rfl) (by decide) (fun K hK => ?_)
    have HB_ := hHeld.2.2.2.2.2.out
    refine goes_ Try.func24 (by kernel_rfl) rfl #[.slice A n c] (by rfl) rfl rfl (by simp only [List.map_toArray, List.map_cons, List.map_nil]; rfl) ?_
    with_reducible refine (clone_c A n c l _ (Kd.C_below hC3.out HB_) (by omega)).mono ?_
    rintro e w3 ⟨⟨A', c', rfl, hR⟩, hbb⟩
    refine ⟨_, rfl, ?_⟩
    have hR4 := Aside0.mk (Kd.R_mono (Kd.R_lower hR (Nat.le_trans HB3.out.size HB_.size)) (fun _ h => h))
    have HB4 := Aside0.mk (below_then HB_ HB_.size hbb)
    have hR5 := Aside0.mk (Kd.R_bound hR)
    have hz5 := Aside0.mk (HB_.size)
    refine hK.out _ _ ⟨(kS.out _ HB4.out).1, (kS.out _ HB4.out).2.1, (kS.out _ HB4.out).2.2.1, (kS.out _ HB4.out).2.2.2.1, (kS.out _ HB4.out).2.2.2.2.1, (kS.out _ HB4.out).2.2.2.2.2⟩ (fun hHeld => ?_)
    clear hK K
    refine norm_ (a' := ?_) ?_ ?_
    rotate_left
    · show Act.put _ (some 63) _ = _
      simp only [Act.put, List.setIfInBounds_toArray, List.set_cons_zero, List.set_cons_succ, i64_w, i32_w]
      rfl
    refine last_ (i := 14) (N := none) #[true, true, true, true, true, true, true, true, true, true, true, true, true, true, true] rfl rfl (by kernel_rfl) (by decide) (fun K hK => ?_)
    have h4 := h3.out.below HB4.out
    obtain ⟨w5, hrun, hS5, hg5⟩ := h4.put hr (key := f) (wf64 (by omega) (by omega)) (by unfold maxLen; omega) A' l.length c'
    refine skip_ (w1 := ?_) (by rfl) rfl ?_ ?_
    rotate_left
    · go_simp
      rfl
    refine hK.out _ _ ?_
    clear hK K
    refine done_ (by kernel_rfl) ?_
    go_wp2_with fail
    go_ret
    have hlt : ms r < W1.heap.size := (h3.out.maps r hr).lt
    refine ⟨by rw [hth.out]; rfl, fun hx => (by rw [hth.out] at hx; cases hx), fun _ => ⟨A', c', ?_, hS5⟩, fun w0 hb hle => bg (below_then hb hb.size (below_then HB3.out HB3.out.size HB4.out)) hle hg5, fun b hb hne => (hg5.block b (Nat.lt_of_lt_of_le hb (Nat.le_trans HB3.out.size HB4.out.size)) (fun e => hne (by injection e))).trans ((below_then HB3.out HB3.out.size HB4.out).block b hb)⟩
    exact Kd.R_mono (Kd.R_lower (Kd.R_grown hR5.out hg5 (fun k hk e => by injection e with e; have := hk.2.1; have := hz5.out; omega)) (Nat.le_trans HB3.out.size hz5.out)) (fun _ _ => trivial)
end Go.Proofs.Ytnenhlgpkfelcaa.Box2
