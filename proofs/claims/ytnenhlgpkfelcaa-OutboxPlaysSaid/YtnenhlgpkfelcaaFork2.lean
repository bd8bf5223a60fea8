/- maps.Clone, and the store's Fork. -/
import Derived.Test.YtnenhlgpkfelcaaGet2
import Derived.Laws.Externs
import Derived.MapKept
namespace Go.Proofs.Ytnenhlgpkfelcaa.Box2
open Go.Proofs.Ytnenhlgpkfelcaa.Box
open Go Go.RowKit Go.Maps Go.Proofs.Ytnenhlgpkfelcaa.POutboxPlays Go.Proofs.YtnenhlgpkfelcaaW.PrintWords Go.Proofs.YtnenhlgpkfelcaaW.PrintLast Go.Proofs.YtnenhlgpkfelcaaW.PrintMore
set_option linter.unusedVariables false
set_option linter.unusedSimpArgs false
theorem eql_map_nil (b : Nat) (W : World) : (binOp .eql 54 (.map (some b)) (.map none)).run Try.prog W = .ok (.bool false) W := by
  kernel_rfl
theorem clone_run {w : World} {b : Nat} {es : Array MapEntry} {clock : Nat} (hb : w.heap[b]? = some (.map es clock)) : (Extern.MapsClone.clone #[.iface 54 (.map (some b))]).run Try.prog w = .ok (.iface 54 (.map (some w.heap.size))) (w.alloc (.map es clock)) := by
  have e : Extern.MapsClone.clone #[.iface 54 (.map (some b))] = (getObj b >>= fun o => match o with
      | .map entries clock => (newObj (.map entries clock) >>= fun n => pure (.iface 54 (.map (some n))))
      | _ => stuck "maps.clone: a map expected") := rfl
  rw [e]
  simp [MapKept.run_getObj_map hb, Result.andThen, go_sem]
theorem assert_run (v : Value) (w : World) : (Instr.typeAssert (.iface 54 v) 20 54 false).run Try.prog w = .ok v w := by
  simp [Instr.typeAssert, run_underlying Try.underlying54, go_sem, Result.andThen]
set_option maxHeartbeats 2000000 in
theorem cloneMap_c (b : Nat) (es : Array MapEntry) (clock : Nat) (w : World) (hb : w.heap[b]? = some (.map es clock)) :
    Calls Try.prog 25 #[.map (some b)] w fun e w' => e = .returned (.map (some w.heap.size)) ∧ w' = w.alloc (.map es clock) := by
  have hq := eql_map_nil b
  go_enter Try.func25, Try.ntmps25
  go_wp2
  rw [run_callFunc_extern Try.func29 (by kernel_rfl) (by kernel_rfl) (by kernel_rfl) (e := Extern.MapsClone.clone) (by kernel_rfl), clone_run hb]
  simp only [Result.andThen]
  rw [Oper.upon_value]
  go_wp2
  rw [assert_run]
  simp only [Result.andThen]
  rw [Oper.upon_value]
  go_wp2
  go_ret
  exact ⟨rfl, rfl⟩
--FORK
def kmap : Kd Nat := Kd.scalar (fun b : Nat => Value.map (some b)) (fun _ => rfl)
theorem types53 : ∀ q, q ∈ 54 :: kmap.E → q ≠ 53 := by
  intro q hq
  simp [kmap, Kd.scalar] at hq
  subst hq
  decide
set_option maxRecDepth 100000 in
set_option maxHeartbeats 8000000 in
theorem fork_c (B R xc k N : Nat) (ms : Nat → Nat) (Fs : Nat → Int → Option Value) (hk0 : 1 ≤ k) (hk : k ≤ 100) (w : World) (h : St w B R xc k N ms Fs) :
    Calls Try.prog 17 #[.pointer (some ⟨B, 0, none⟩)] w fun e w' => (∃ B' R' xc' ms', e = .returned (.pointer (some ⟨B', 0, none⟩)) ∧ St w' B' R' xc' k N ms' Fs ∧ w.heap.size ≤ B' ∧ w.heap.size ≤ R' ∧ ∀ i, i < k → w.heap.size ≤ ms' i) ∧ Below w.heap.size w w' := by
  obtain ⟨q0, qm⟩ := h.cells
  have hlt := h.lt
  have hB1 := Aside0.mk ((Below.refl w.heap.size w).alloc (Nat.le_refl _) (.cells #[.slice none 0 0] 53))
  have e0 := Aside0.mk (heap_alloc_new w (.cells #[.slice none 0 0] 53))
  have hR0 := Aside0.mk (Kd.R_nil kmap 54 (w.alloc (.cells #[.slice none 0 0] 53)) w.heap.size (fun _ => True))
  have qm' : Aside0 (∀ W, Below w.heap.size w W → ∀ i, i < k → W.cell? ⟨R, i, none⟩ = some (.map (some (ms i)))) := ⟨fun W hW i hi => (World.cell?_of_block (hW.block R hlt.2)).trans (qm i hi)⟩
  have hltB := hlt.1
  clear qm hlt
  replace h := Aside0.mk h
  go_enter Try.func17, Try.ntmps17
  go_wp2_with fail
  go_loopw [16] (fun i wr => ∃ (v : Value) (bs : List Nat), bs.length ≤ k ∧ i = .int .i64 (bs.length : Nat) ∧ Aside0 (Below w.heap.size w wr) ∧ Aside0 (wr.heap[w.heap.size]? = some (.cells #[v] 53 (0, 0))) ∧ Aside0 (Kd.R kmap 54 wr w.heap.size (fun _ => True) v bs) ∧ Aside0 (∀ (i : Nat) (hi : i < bs.length), w.heap.size ≤ bs[i] ∧ bs[i] < wr.heap.size ∧ MapOf wr bs[i] N (Fs i)) ∧ Aside0 (∀ (i j : Nat) (hi : i < bs.length) (hj : j < bs.length), i ≠ j → bs[i] ≠ bs[j])) (fun i _ => k - (intOf i).toNat)
  case atStart => exact ⟨_, [], Nat.zero_le _, rfl, hB1, e0, hR0, ⟨fun i hi => by simp at hi⟩, ⟨fun i j hi => by simp at hi⟩⟩
  case round =>
    clear q0 hB1 e0 hR0
    obtain ⟨v, bs, hj, rfl, hb, hx, hR, hM, hD⟩ := hrel
    by_cases hjk : bs.length < k
    · have q1 := qm'.out wr hb.out bs.length hjk
      have p0 := blk_cell' hx.out 0
      simp at p0
      have z0 : (0 : Int) ≤ (bs.length : Int) := by omega
      have z1 : (bs.length : Int) < (k : Int) := by omega
      obtain ⟨Av, cv, rfl⟩ := Kd.R_slice hR.out
      obtain ⟨es, clock, hes⟩ := ((h.out.below hb.out).maps bs.length hjk).is
      have hes' := Aside0.mk hes
      replace hes := Aside0.mk hes
      go_wp2_with fail
      have kS : Aside0 (∀ w', Below wr.heap.size wr w' → w'.cell? ⟨w.heap.size, 0, none⟩ = some (.slice Av bs.length cv)) := ⟨fun w' hb => blk_cell' ((hb.block _ (blk_lt' hx.out)).trans hx.out) 0⟩
      have hne : Aside0 (some w.heap.size ≠ (Value.slice Av bs.length cv).ownBlock) := ⟨Kd.R_ne hR.out hx.out (by decide)⟩
      have hsz : Aside0 (w.heap.size ≤ wr.heap.size) := ⟨hb.out.size⟩
      refine start_ (n := 14) (S := fun w' => w'.cell? ⟨w.heap.size, 0, none⟩ = some (.slice Av bs.length cv)) (ds := [9, 13]) #[false, false, false, false, false, false, false, false, false, false, false, false, false, false] (by kernel_rfl) rfl rfl (kS.out _ (below_drew (Below.refl _ _))) (fun hHeld => ?_)
      refine pure_ (i := 0) (N := some 20) (v := ?_) (a' := ?_) #[true, false, false, false, false, false, false, false, false, false, false, false, false, false] rfl rfl (by kernel_rfl) (fun _ _ _ h => h) (Or.inl ⟨by rfl, ?_⟩) ?_ ?_
      rotate_left
      · intro w'
        go_simp
        with_reducible rfl
      rotate_left
      · simp only [Act.put, List.setIfInBounds_toArray, List.set_cons_zero, List.set_cons_succ, i64_w, i32_w]
        rfl
      refine pure_ (i := 1) (N := some 21) (v := ?_) (a' := ?_) #[true, true, false, false, false, false, false, false, false, false, false, false, false, false] rfl rfl (by kernel_rfl) (fun _ _ _ h => h) (Or.inl ⟨by rfl, ?_⟩) ?_ ?_
      rotate_left
      · intro w'
        go_simp
        with_reducible rfl
      rotate_left
      · simp only [Act.put, List.setIfInBounds_toArray, List.set_cons_zero, List.set_cons_succ, i64_w, i32_w]
        rfl
      refine pure_ (i := 2) (N := some 22) (v := ?_) (a' := ?_) #[true, true, true, false, false, false, false, false, false, false, false, false, false, false] rfl rfl (by kernel_rfl) (fun _ _ _ h => h) (Or.inl ⟨by rfl, ?_⟩) ?_ ?_
      rotate_left
      · intro w'
        go_simp
        with_reducible rfl
      rotate_left
      · simp only [Act.put, List.setIfInBounds_toArray, List.set_cons_zero, List.set_cons_succ, i64_w, i32_w]
        rfl
      refine pure_ (i := 3) (N := some 23) (v := ?_) (a' := ?_) #[true, true, true, true, false, false, false, false, false, false, false, false, false, false] rfl rfl (by kernel_rfl) (fun _ _ _ h => h) (Or.inl ⟨by rfl, ?_⟩) ?_ ?_
      rotate_left
      · intro w'
        go_simp
        with_reducible rfl
      rotate_left
      · simp only [Act.put, List.setIfInBounds_toArray, List.set_cons_zero, List.set_cons_succ, i64_w, i32_w]
        rfl
      refine pure_ (i := 4) (N := some 24) (v := ?_) (a' := ?_) #[true, true, true, true, true, false, false, false, false, false, false, false, false, false] rfl rfl (by kernel_rfl) (fun _ _ _ h => h) (Or.inl ⟨by rfl, ?_⟩) ?_ ?_
      rotate_left
      · intro w'
        go_simp
        with_reducible rfl
      rotate_left
      · simp only [Act.put, List.setIfInBounds_toArray, List.set_cons_zero, List.set_cons_succ, i64_w, i32_w]
        rfl
      refine pure_ (i := 6) (N := some 26) (v := ?_) (a' := ?_) #[true, true, true, true, true, false, true, false, false, false, false, false, false, false] rfl rfl (by kernel_rfl) (fun _ _ _ h => h) (Or.inl ⟨by rfl, ?_⟩) ?_ ?_
      rotate_left
      · intro w'
        go_simp
        with_reducible rfl
      rotate_left
      · simp only [Act.put, List.setIfInBounds_toArray, List.set_cons_zero, List.set_cons_succ, i64_w, i32_w]
        rfl
      refine take_ (i := 5) (N := some 25) (v := ?_) (a' := ?_) #[true, true, true, true, true, true, true, false, false, false, false, false, false, false] rfl rfl (by kernel_rfl) (fun _ _ _ h => h) (Or.inl ⟨by rfl, ?_⟩) hHeld ?_ ?_
      rotate_left
      · intro w' s0
        go_simp
        with_reducible rfl
      rotate_left
      · simp only [Act.put, List.setIfInBounds_toArray, List.set_cons_zero, List.set_cons_succ, i64_w, i32_w]
        rfl
      refine one_ (i := 7) (N := some 27) #[true, true, true, true, true, true, true, true, false, false, false, false, false, false] rfl rfl (by kernel_rfl) (by decide) (fun K hK => ?_)
      have hes2 : wr.drew.heap[ms bs.length]? = some (.map es clock) := hes.out
      refine goes_ Try.func25 (by kernel_rfl) rfl #[.map (some (ms bs.length))] (by rfl) rfl rfl (by simp only [List.map_toArray, List.map_cons, List.map_nil]; rfl) ?_
      with_reducible refine (cloneMap_c (ms bs.length) es clock _ hes2).mono ?_
      rintro e w3 ⟨rfl, hw3⟩
      refine ⟨_, rfl, ?_⟩
      have hB3 := Aside0.mk (show Below wr.heap.size wr w3 by rw [hw3]; exact (below_drew (Below.refl _ _)).alloc (Nat.le_refl _) _)
      have hm3 := Aside0.mk (show w3.heap[wr.heap.size]? = some (.map es clock) by rw [hw3]; exact heap_alloc_new wr.drew _)
      clear hw3
      refine hK.out _ _ (kS.out _ hB3.out) (fun hHeld => ?_)
      clear hK K
      refine norm_ (a' := ?_) ?_ ?_
      rotate_left
      · show Act.put _ (some 27) _ = _
        simp only [Act.put, List.setIfInBounds_toArray, List.set_cons_zero, List.set_cons_succ, i64_w, i32_w]
        rfl
      refine one_ (i := 8) (N := some 28) #[true, true, true, true, true, true, true, true, true, false, false, false, false, false] rfl rfl (by kernel_rfl) (by decide) (fun K hK => ?_)
      refine value_ (w1 := ?_) (v := ?_) (by rfl) rfl ?_ ?_
      rotate_left 2
      · go_simp
        constructor
        · rfl
        · rfl
      refine hK.out _ _ (kS.out _ (hB3.out.alloc hB3.out.size _)) (fun hHeld => ?_)
      clear hK K
      refine norm_ (a' := ?_) ?_ ?_
      rotate_left
      · show Act.put _ (some 28) _ = _
        simp only [Act.put, List.setIfInBounds_toArray, List.set_cons_zero, List.set_cons_succ, i64_w, i32_w]
        rfl
      refine last_ (i := 9) (N := some 29) #[true, true, true, true, true, true, true, true, true, true, false, false, false, false] rfl rfl (by kernel_rfl) (by decide) (fun K hK => ?_)
      refine Kd.R_append_step kmap (w0 := w) w.heap.size (by rfl) (.tmp 25) (.tmp 28) 49 54 _ 8 (by rfl) Try.underlying49 info54 (by rfl) (by decide) (by omega) (.slice Av bs.length cv) bs wr.heap.size [.map (some wr.heap.size)] (fun _ => True) (fun _ => False) (by rfl) (by rfl) rfl (fun _ h => h.elim) (fun _ _ => trivial) (Kd.R_below hR.out hB3.out) (below_then hb.out hb.out.size hB3.out) (Nat.le_trans hb.out.size hB3.out.size) (by omega) ?_
      intro v4 w4 hR4 hB4 hg4 hat4
      obtain ⟨A4, c4, e4⟩ := Kd.R_slice hR4
      rw [List.length_append, List.length_singleton] at e4
      subst e4
      replace hR4 := Aside0.mk hR4
      replace hB4 := Aside0.mk hB4
      have hx4 := Aside0.mk ((hg4.block _ (Nat.lt_of_lt_of_le (blk_lt' hx.out) hB3.out.size) hne.out).trans ((hB3.out.block _ (blk_lt' hx.out)).trans hx.out))
      replace hg4 := Aside0.mk hg4
      refine hK.out _ _ ?_
      clear hK K
      refine norm_ (a' := ?_) ?_ ?_
      rotate_left
      · show Act.put _ (some 29) _ = _
        simp only [Act.put, List.setIfInBounds_toArray, List.set_cons_zero, List.set_cons_succ, i64_w, i32_w]
        rfl
      refine pure_ (i := 10) (N := some 30) (v := ?_) (a' := ?_) #[true, true, true, true, true, true, true, true, true, true, true, false, false, false] rfl rfl (by kernel_rfl) (fun _ _ _ h => h) (Or.inl ⟨by rfl, ?_⟩) ?_ ?_
      rotate_left
      · intro w'
        go_simp
        with_reducible rfl
      rotate_left
      · simp only [Act.put, List.setIfInBounds_toArray, List.set_cons_zero, List.set_cons_succ, i64_w, i32_w]
        rfl
      refine pure_ (i := 11) (N := some 31) (v := ?_) (a' := ?_) #[true, true, true, true, true, true, true, true, true, true, true, true, false, false] rfl rfl (by kernel_rfl) (fun _ _ _ h => h) (Or.inl ⟨by rfl, ?_⟩) ?_ ?_
      rotate_left
      · intro w'
        go_simp
        with_reducible rfl
      rotate_left
      · simp only [Act.put, List.setIfInBounds_toArray, List.set_cons_zero, List.set_cons_succ, i64_w, i32_w]
        rfl
      refine pure_ (i := 12) (N := some 32) (v := ?_) (a' := ?_) #[true, true, true, true, true, true, true, true, true, true, true, true, true, false] rfl rfl (by kernel_rfl) (fun _ _ _ h => h) (Or.inl ⟨by rfl, ?_⟩) ?_ ?_
      rotate_left
      · intro w'
        go_simp
        with_reducible rfl
      rotate_left
      · simp only [Act.put, List.setIfInBounds_toArray, List.set_cons_zero, List.set_cons_succ, i64_w, i32_w]
        rfl
      refine last_ (i := 13) (N := none) #[true, true, true, true, true, true, true, true, true, true, true, true, true, true] rfl rfl (by kernel_rfl) (by decide) (fun K hK => ?_)
      have q4 := blk_cell' hx4.out 0
      have f4 : w4.frozen? ⟨w.heap.size, 0, none⟩ = false := by simp [World.frozen?, hx4.out]
      simp at q4
      refine skip_ (w1 := ?_) (by rfl) rfl ?_ ?_
      rotate_left
      · go_simp
        rfl
      refine hK.out _ _ ?_
      clear hK K
      refine done_ (by kernel_rfl) ?_
      have ht : ∀ k', (Value.slice Av bs.length cv).ownBlock = some k' → ∃ cells, w3.heap[k']? = some (.cells cells 54 (0, 0)) := Kd.R_typed (Kd.R_below hR.out hB3.out)
      have hmv : ∀ (b : Nat) (es : Array MapEntry) (c : Nat), w3.heap[b]? = some (.map es c) → (w4.setCell ⟨w.heap.size, 0, none⟩ (.slice A4 (bs.length + 1) c4)).heap[b]? = w3.heap[b]? := fun b es c hbm => by
        rw [Below.heap_setCell w4 ⟨w.heap.size, 0, none⟩ _ b (fun e => by
          have e2 : b = w.heap.size := e
          rw [e2, (hB3.out.block _ (blk_lt' hx.out)).trans hx.out] at hbm
          injection hbm with hbm
          cases hbm)]
        exact hg4.out.block b (blk_lt' hbm) (fun e => by
          obtain ⟨cells, hc⟩ := ht b e.symm
          rw [hbm] at hc
          injection hc with hc
          cases hc)
      have hR5 : Aside0 (Kd.R kmap 54 (w4.setCell ⟨w.heap.size, 0, none⟩ (.slice A4 (bs.length + 1) c4)) w.heap.size (fun _ => True) (.slice A4 (bs.length + 1) c4) (bs ++ [wr.heap.size])) := ⟨Kd.R_set hR4.out hx4.out types53 0 _⟩
      have hB5 := Aside0.mk (hB4.out.setCell (p := ⟨w.heap.size, 0, none⟩) (Nat.le_refl _) (.slice A4 (bs.length + 1) c4))
      have hx5 : Aside0 ((w4.setCell ⟨w.heap.size, 0, none⟩ (.slice A4 (bs.length + 1) c4)).heap[w.heap.size]? = some (.cells #[.slice A4 (bs.length + 1) c4] 53 (0, 0))) := ⟨by
        have h5 := blk_set hx4.out 0 (.slice A4 (bs.length + 1) c4)
        simpa using h5⟩
      have hs5 : Aside0 (wr.heap.size < (w4.setCell ⟨w.heap.size, 0, none⟩ (.slice A4 (bs.length + 1) c4)).heap.size) := ⟨by
        have h1 := blk_lt' hm3.out
        have h2 := hg4.out.size
        simp [World.setCell]
        omega⟩
      have hM5 : Aside0 (∀ (i : Nat) (hi : i < (bs ++ [wr.heap.size]).length), w.heap.size ≤ (bs ++ [wr.heap.size])[i] ∧ (bs ++ [wr.heap.size])[i] < (w4.setCell ⟨w.heap.size, 0, none⟩ (.slice A4 (bs.length + 1) c4)).heap.size ∧ MapOf (w4.setCell ⟨w.heap.size, 0, none⟩ (.slice A4 (bs.length + 1) c4)) (bs ++ [wr.heap.size])[i] N (Fs i)) := ⟨fun i hi => by
        by_cases hib : i < bs.length
        · rw [List.getElem_append_left hib]
          obtain ⟨h1, h2, h3⟩ := hM.out i hib
          have h4 := h3.below hB3.out
          obtain ⟨es', c', hc'⟩ := h4.is
          exact ⟨h1, by have := hs5.out; omega, h4.move (hmv _ es' c' hc')⟩
        · have hie : i = bs.length := by rw [List.length_append, List.length_singleton] at hi; omega
          have hge : (bs ++ [wr.heap.size])[i] = wr.heap.size := by
            rw [List.getElem_append_right (by omega)]
            simp [hie]
          rw [hge]
          refine ⟨hb.out.size, hs5.out, ?_⟩
          obtain ⟨D, ⟨es', clock', hb', r⟩, hF⟩ := (h.out.below hb.out).maps bs.length hjk
          rw [hes.out] at hb'
          injection hb' with hb'
          injection hb' with h1 h2
          subst h1; subst h2
          rw [hie]
          exact ⟨D, ⟨es, clock, (hmv _ es clock hm3.out).trans hm3.out, r⟩, hF⟩⟩
      have hD5 : Aside0 (∀ (i j : Nat) (hi : i < (bs ++ [wr.heap.size]).length) (hj : j < (bs ++ [wr.heap.size]).length), i ≠ j → (bs ++ [wr.heap.size])[i] ≠ (bs ++ [wr.heap.size])[j]) := ⟨fun i j hi hj hij => by
        rw [List.length_append, List.length_singleton] at hi hj
        by_cases h1 : i < bs.length
        · by_cases h2 : j < bs.length
          · rw [List.getElem_append_left h1, List.getElem_append_left h2]
            exact hD.out i j h1 h2 hij
          · rw [List.getElem_append_left h1, List.getElem_append_right (by omega)]
            have h3 := (hM.out i h1).2.1
            simp
            omega
        · by_cases h2 : j < bs.length
          · rw [List.getElem_append_right (by omega), List.getElem_append_left h2]
            have h3 := (hM.out j h2).2.1
            simp
            omega
          · omega⟩
      generalize w4.setCell ⟨w.heap.size, 0, none⟩ (.slice A4 (bs.length + 1) c4) = w5 at *
      clear hHeld kS hmv ht q4 f4
      go_wp2_with fail
      go_roundw
      case rel => exact ⟨.slice A4 (bs.length + 1) c4, bs ++ [wr.heap.size], by rw [List.length_append, List.length_singleton]; omega, by rw [List.length_append, List.length_singleton]; go_num, hB5, hx5, hR5, hM5, hD5⟩
      case measure => simp [intOf]; omega
    · obtain rfl : bs.length = k := by omega
      go_wp2_with fail
      go_ret
      obtain ⟨g, cap, rfl, hg0, hg1, cells, hgc⟩ := Kd.R_form hR.out (by omega)
      obtain ⟨hl, hlc, hC⟩ := Kd.R_reads' hR.out
      have hce : ∀ i, (hi : i < bs.length) → wr.cell? ⟨g, i, none⟩ = some (.map (some bs[i])) := fun i hi => by
        have h5 := (Kd.R_celln (h1 := fun _ => rfl) (0 : Nat) hR.out (i : Int) (by omega) (by omega)).1
        rw [Int.toNat_natCast] at h5
        rw [h5]
        simp [rdOf, List.getD_eq_getElem?_getD, List.getElem?_eq_getElem hi]
      refine ⟨⟨w.heap.size, g, cap - bs.length, fun i => bs.getD i 0, rfl, ⟨by rw [Nat.add_sub_cancel' hlc]; exact hx.out, ⟨cells, hgc, ?_, fun i hi => ?_⟩, fun i hi => ?_, fun i j hi hj hij => ?_⟩, Nat.le_refl _, hg0, fun i hi => ?_⟩, hb.out⟩
      · have h5 := hce (bs.length - 1) (by omega)
        rw [blk_cell' hgc] at h5
        have h6 := (Array.getElem?_eq_some_iff.1 h5).1
        omega
      · have h5 := hce i hi
        rw [blk_cell' hgc] at h5
        rw [h5]
        simp [List.getD_eq_getElem?_getD, List.getElem?_eq_getElem hi]
      · rw [List.getD_eq_getElem?_getD, List.getElem?_eq_getElem hi]
        exact (hM.out i hi).2.2
      · simp only [List.getD_eq_getElem?_getD, List.getElem?_eq_getElem hi, List.getElem?_eq_getElem hj]
        exact hD.out i j hi hj hij
      · simp only [List.getD_eq_getElem?_getD, List.getElem?_eq_getElem hi]
        exact (hM.out i hi).1
end Go.Proofs.Ytnenhlgpkfelcaa.Box2
