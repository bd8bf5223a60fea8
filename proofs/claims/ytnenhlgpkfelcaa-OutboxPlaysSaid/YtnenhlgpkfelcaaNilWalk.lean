/- The walk through OutboxNil: it returns true and what lay in memory stays; for every message list that is read and every number. -/
import Derived.Test.YtnenhlgpkfelcaaNil
import Derived.Test.YtnenhlgpkfelcaaWLast
namespace Go.Proofs.Ytnenhlgpkfelcaa.Box
open Go Go.RowKit Go.Maps Go.Proofs.Ytnenhlgpkfelcaa.POutboxPlays Go.Proofs.YtnenhlgpkfelcaaW.PrintWords Go.Proofs.YtnenhlgpkfelcaaW.PrintLast Go.Proofs.YtnenhlgpkfelcaaW.PrintMore Go.Proofs.YtnenhlgpkfelcaaW.PrintLast
set_option linter.unusedVariables false
set_option linter.unusedSimpArgs false
theorem rest' (a m : Int) (hm : 0 < m) (hm2 : m ≤ 1000000) : ∃ r, wrap64 ((IntKind.u64.wrap a).tmod m) = r ∧ 0 ≤ r ∧ r < m := by
  have hu : 0 ≤ IntKind.u64.wrap a := by rw [IntKind.wrap_u64]; omega
  have h0 : 0 ≤ (IntKind.u64.wrap a).tmod m := Int.tmod_nonneg m hu
  have h1 : (IntKind.u64.wrap a).tmod m < m := Int.tmod_lt_of_pos _ hm
  exact ⟨_, rfl, by unfold wrap64; omega, by unfold wrap64; omega⟩
theorem missing0_c (B R k N : Nat) (ms : Nat → Nat) (Fs : Nat → Int → Option Value) (r : Nat) (hr : r < k) (hno : Fs r 0 = none) (hk : k ≤ 100) (w : World) (hSt : St w B R k N ms Fs) :
    Calls Try.prog 10 #[.pointer (some ⟨B, 0, none⟩), .int .i64 (r : Int), .int .i64 0] w fun e w' => e = .returned (.int .i64 0) ∧ Below w.heap.size w w' :=
  (missing_c B R k N ms Fs r hr 0 0 (by omega) (by omega) (by show (Fs r 0).isSome = false; rw [hno]; rfl) (fun j hj => by omega) hk w hSt).mono fun e w' h => ⟨by rw [h.1]; rfl, h.2.below⟩
set_option maxRecDepth 100000 in
set_option maxHeartbeats 8000000 in
theorem nil_walk (reg frm frame : Int) (A : Option Addr) (n c : Nat) (l : List S36) (w : World) (HC : Kd.C k36 w A n l) (hn : n ≤ maxLen) :
    Calls Try.prog 6 #[.agg #[.int .i64 reg, .int .i64 frm, .slice A n c], .int .i64 frame] w fun e w' => e = .returned (.bool true) ∧ Below w.heap.size w w' := by
  unfold maxLen at hn
  by_cases hbig : 20 < n
  · have h1 : (20 : Int) < (n : Int) := by omega
    replace HC := Aside0.mk HC
    have hbA := Aside0.mk ((Below.refl w.heap.size w).alloc (Nat.le_refl _) (.cells #[.int .i64 reg, .int .i64 frm, .slice A n c] 30))
    go_enter Try.func6, Try.ntmps6
    go_wp2_with (first
      | (go_at_call 8; (with_reducible refine (awake_c _).mono ?_); rintro e w2 ⟨rfl, hb2⟩; have HB := Aside0.mk (below_then hbA.out hbA.out.size hb2); clear hb2)
      | fail)
    go_ret
    exact ⟨rfl, HB.out⟩
  · have h1 : (n : Int) ≤ 20 := by omega
    obtain ⟨r, hr, r0, r1⟩ := rest' reg 16 (by omega) (by omega)
    obtain ⟨f, hf, f0, f1⟩ := rest' frm 100 (by omega) (by omega)
    have hnew := fun W => new_c 16 (by omega) (by omega) W
    simp only [show ((16 : Nat) : Int) = 16 from rfl] at hnew
    replace hnew := Aside0.mk hnew
    obtain ⟨r, rfl⟩ := Int.eq_ofNat_of_zero_le r0
    have hw1 : wrap64 (f + 1) = f + 1 := by unfold wrap64; omega
    have hh1 : Aside0 (n ≤ 20) := ⟨by omega⟩
    have hlen : Aside0 (l.length = n) := ⟨HC.1⟩
    have hC1 := Aside0.mk (Kd.C_alloc HC (.cells #[.int .i64 reg, .int .i64 frm, .slice A n c] 30))
    have hbA := Aside0.mk ((Below.refl w.heap.size w).alloc (Nat.le_refl _) (.cells #[.int .i64 reg, .int .i64 frm, .slice A n c] 30))
    replace HC := Aside0.mk HC
    go_enter Try.func6, Try.ntmps6
    go_wp2_with (first
      | (go_at_call 12; (with_reducible refine (nilGet_c _ _ _).mono ?_); rintro e w' ⟨rfl, hw⟩; subst w')
      | (go_at_call 7; go_loud (with_reducible refine (hnew.out _).mono ?_); rintro e w1 ⟨⟨B, R, ms, rfl, hB, hR, hms, hS⟩, hb1⟩; go_loud (have hbox := Aside0.mk ((hb1.block w.heap.size (by simp)).trans (heap_alloc_new w (.cells #[.int .i64 reg, .int .i64 frm, .slice A n c] 30))); have q0 := blk_cell' hbox.out 0; have q1 := blk_cell' hbox.out 1; have q2 := blk_cell' hbox.out 2; have qf : ∀ j, w1.frozen? ⟨w.heap.size, j, none⟩ = false := (fun j => by simp [World.frozen?, hbox.out]); simp at q0 q1 q2; replace hC1 := Aside0.mk (Kd.C_below hC1.out hb1); have HB := Aside0.mk (below_then hbA.out hbA.out.size hb1); replace hS := Aside0.mk hS; have hzz := blk_lt' hbox.out; replace hms := Aside0.mk hms; simp at hB hR); clear hb1)
      | fail)
    --GEN
    have hbox2 : Aside0 (((w1.setCell ⟨w.heap.size, 0, none⟩ (.int .i64 (r : Int))).setCell ⟨w.heap.size, 1, none⟩ (.int .i64 f)).heap[w.heap.size]? = some (.cells #[.int .i64 (r : Int), .int .i64 f, .slice A n c] 30 (0, 0))) := ⟨by
      have := blk_set (blk_set hbox.out 0 (.int .i64 (r : Int))) 1 (.int .i64 f)
      simpa using this⟩
    have HB2 := Aside0.mk (Below.setCell (Below.setCell HB.out (p := ⟨w.heap.size, 0, none⟩) (Nat.le_refl _) (.int .i64 (r : Int))) (p := ⟨w.heap.size, 1, none⟩) (Nat.le_refl _) (.int .i64 f))
    have hz2 : Aside0 (w.heap.size < ((w1.setCell ⟨w.heap.size, 0, none⟩ (.int .i64 (r : Int))).setCell ⟨w.heap.size, 1, none⟩ (.int .i64 f)).heap.size) := ⟨by simp [World.setCell]; exact hzz⟩
    have hS2 : Aside0 (St ((w1.setCell ⟨w.heap.size, 0, none⟩ (.int .i64 (r : Int))).setCell ⟨w.heap.size, 1, none⟩ (.int .i64 f)) B R 16 0 ms (fun _ _ => none)) := ⟨by
      have hne : ∀ b : Nat, b ≠ w.heap.size → ((w1.setCell ⟨w.heap.size, 0, none⟩ (.int .i64 (r : Int))).setCell ⟨w.heap.size, 1, none⟩ (.int .i64 f)).heap[b]? = w1.heap[b]? := fun b hb => (Below.heap_setCell _ ⟨w.heap.size, 1, none⟩ _ b hb).trans (Below.heap_setCell _ ⟨w.heap.size, 0, none⟩ _ b hb)
      refine hS.out.move (hne _ (by omega)) (hne _ (by omega)) fun i hi => hne _ ?_
      have := hms.out i hi
      simp at this
      omega⟩
    generalize hW : (w1.setCell ⟨w.heap.size, 0, none⟩ (.int .i64 (r : Int))).setCell ⟨w.heap.size, 1, none⟩ (.int .i64 f) = w2 at *
    clear hW hbox q0 q1 q2 qf hS hC1 HB
    have hC2 := Aside0.mk (Kd.C_below HC.out HB2.out)
    have kS : Aside0 (∀ w', Below w2.heap.size w2 w' → w'.cell? ⟨w.heap.size, 0, none⟩ = some (.int .i64 (r : Int)) ∧ w'.cell? ⟨w.heap.size, 1, none⟩ = some (.int .i64 f) ∧ w'.cell? ⟨w.heap.size, 2, none⟩ = some (.slice A n c) ∧ Aside0 (Below w2.heap.size w2 w')) := ⟨fun w' hb => by
      have hx := (hb.block w.heap.size hz2.out).trans hbox2.out
      exact ⟨blk_cell' hx 0, blk_cell' hx 1, blk_cell' hx 2, ⟨hb⟩⟩⟩
    have kF : Aside0 (∀ w', Below w2.heap.size w2 w' → w'.frozen? ⟨w.heap.size, 2, none⟩ = false) := ⟨fun w' hb => by
      have hx := (hb.block w.heap.size hz2.out).trans hbox2.out
      simp [World.frozen?, hx]⟩
    refine start_ (n := 13) (S := fun w' => w'.cell? ⟨w.heap.size, 0, none⟩ = some (.int .i64 (r : Int)) ∧ w'.cell? ⟨w.heap.size, 1, none⟩ = some (.int .i64 f) ∧ w'.cell? ⟨w.heap.size, 2, none⟩ = some (.slice A n c) ∧ Aside0 (Below w2.heap.size w2 w')) (ds := [12]) #[false, false, false, false, false, false, false, false, false, false, false, false, false] (by kernel_rfl) rfl rfl ⟨(kS.out _ (below_drew (Below.refl _ _))).1, (kS.out _ (below_drew (Below.refl _ _))).2.1, (kS.out _ (below_drew (Below.refl _ _))).2.2.1, (kS.out _ (below_drew (Below.refl _ _))).2.2.2⟩ (fun hHeld => ?_)
    refine pure_ (i := 0) (N := some 33) (v := ?_) (a' := ?_) #[true, false, false, false, false, false, false, false, false, false, false, false, false] rfl rfl (by kernel_rfl) (fun _ _ _ h => h) (Or.inl ⟨by rfl, ?_⟩) ?_ ?_
    rotate_left
    · intro w'
      go_simp
      with_reducible rfl
    rotate_left
    · simp only [Act.put, List.setIfInBounds_toArray, List.set_cons_zero, List.set_cons_succ, i64_w, i32_w]
      rfl
    refine pure_ (i := 3) (N := some 36) (v := ?_) (a' := ?_) #[true, false, false, true, false, false, false, false, false, false, false, false, false] rfl rfl (by kernel_rfl) (fun _ _ _ h => h) (Or.inl ⟨by rfl, ?_⟩) ?_ ?_
    rotate_left
    · intro w'
      go_simp
      with_reducible rfl
    rotate_left
    · simp only [Act.put, List.setIfInBounds_toArray, List.set_cons_zero, List.set_cons_succ, i64_w, i32_w]
      rfl
    refine pure_ (i := 5) (N := some 38) (v := ?_) (a' := ?_) #[true, false, false, true, false, true, false, false, false, false, false, false, false] rfl rfl (by kernel_rfl) (fun _ _ _ h => h) (Or.inl ⟨by rfl, ?_⟩) ?_ ?_
    rotate_left
    · intro w'
      go_simp
      with_reducible rfl
    rotate_left
    · simp only [Act.put, List.setIfInBounds_toArray, List.set_cons_zero, List.set_cons_succ, i64_w, i32_w]
      rfl
    refine take_ (i := 1) (N := some 34) (v := ?_) (a' := ?_) #[true, true, false, true, false, true, false, false, false, false, false, false, false] rfl rfl (by kernel_rfl) (fun _ _ _ h => h) (Or.inl ⟨by rfl, ?_⟩) hHeld ?_ ?_
    rotate_left
    · rintro w' ⟨s0, s1, s2, s3⟩
      go_simp
      with_reducible rfl
    rotate_left
    · simp only [Act.put, List.setIfInBounds_toArray, List.set_cons_zero, List.set_cons_succ, i64_w, i32_w]
      rfl
    refine take_ (i := 4) (N := some 37) (v := ?_) (a' := ?_) #[true, true, false, true, true, true, false, false, false, false, false, false, false] rfl rfl (by kernel_rfl) (fun _ _ _ h => h) (Or.inl ⟨by rfl, ?_⟩) hHeld ?_ ?_
    rotate_left
    · rintro w' ⟨s0, s1, s2, s3⟩
      go_simp
      with_reducible rfl
    rotate_left
    · simp only [Act.put, List.setIfInBounds_toArray, List.set_cons_zero, List.set_cons_succ, i64_w, i32_w]
      rfl
    refine take_ (i := 6) (N := some 39) (v := ?_) (a' := ?_) #[true, true, false, true, true, true, true, false, false, false, false, false, false] rfl rfl (by kernel_rfl) (fun _ _ _ h => h) (Or.inl ⟨by rfl, ?_⟩) hHeld ?_ ?_
    rotate_left
    · rintro w' ⟨s0, s1, s2, s3⟩
      go_simp
      with_reducible rfl
    rotate_left
    · simp only [Act.put, List.setIfInBounds_toArray, List.set_cons_zero, List.set_cons_succ, i64_w, i32_w]
      rfl
    refine pure_ (i := 7) (N := some 40) (v := ?_) (a' := ?_) #[true, true, false, true, true, true, true, true, false, false, false, false, false] rfl rfl (by kernel_rfl) (fun _ _ _ h => h) (Or.inl ⟨by rfl, ?_⟩) ?_ ?_
    rotate_left
    · intro w'
      go_simp
      with_reducible rfl
    rotate_left
    · simp only [Act.put, List.setIfInBounds_toArray, List.set_cons_zero, List.set_cons_succ, i64_w, i32_w]
      rfl
    refine pure_ (i := 8) (N := some 41) (v := ?_) (a' := ?_) #[true, true, false, true, true, true, true, true, true, false, false, false, false] rfl rfl (by kernel_rfl) (fun _ _ _ h => h) (Or.inl ⟨by rfl, ?_⟩) ?_ ?_
    rotate_left
    · intro w'
      go_simp
      with_reducible rfl
    rotate_left
    · simp only [Act.put, List.setIfInBounds_toArray, List.set_cons_zero, List.set_cons_succ, i64_w, i32_w]
      rfl
    refine join_ (σ := Value × Value) 3 #[true, true, true, true, true, true, true, true, true, true, false, false, false] (fun s => [(35, s.1), (42, s.2)]) (fun s w' => Aside0 (Below w2.heap.size w2 w') ∧ Aside0 (Kd.R k36 36 w' w2.heap.size (fun _ => True) s.1 l) ∧ Aside0 (Kd.R k36 36 w' w2.heap.size (fun _ => True) s.2 [(⟨0, (r : Int), 0, f + 1, ⟨0, 0, 0, 0, 0, 0, 0, 0, 0⟩, 0, 0⟩ : S36)])) ?_ ?_
    rotate_left
    · intro hCont
      refine two_ (i := 2) (j := 9) (Ni := some 35) (Nj := some 42) #[true, true, true, true, true, true, true, true, true, false, false, false, false] #[true, true, false, true, true, true, true, true, true, true, false, false, false] rfl rfl rfl rfl (by kernel_rfl) (by decide) (by decide) (fun K hK => ?_) (fun K hK => ?_)
      · skip
        have HB_ := hHeld.2.2.2.out
        refine Kd.R_append_rows_step k36 (w0 := w2) w2.heap.size (by rfl) (.const (.slice none 0 0)) (.tmp 34) 28 36 _ 120 (by rfl) Try.underlying28 info36 (by rfl) (by decide) (by omega) (.slice none 0 0) [] l A n c (fun _ => True) (fun _ => False) (by rfl) (by rfl) (Kd.R_nil _ _ _ _ _) (Kd.C_below hC2.out HB_) (fun _ _ h => K_M36 h) (fun _ h => h.elim) (fun _ _ => trivial) HB_ HB_.size (by have := hh1.out; simp; omega) ?_
        clear HB_
        intro v1 w4 hr1 hb1 hg1 hat1
        rw [List.nil_append] at hr1
        replace hr1 := Aside0.mk hr1
        replace hb1 := Aside0.mk hb1
        clear hg1 hat1
        refine hK.out _ _ ⟨(kS.out _ hb1.out).1, (kS.out _ hb1.out).2.1, (kS.out _ hb1.out).2.2.1, (kS.out _ hb1.out).2.2.2⟩ (fun hHeld => ?_)
        clear hK K
        refine norm_ (a' := ?_) ?_ ?_
        rotate_left
        · show Act.put _ (some 35) _ = _
          simp only [Act.put, List.setIfInBounds_toArray, List.set_cons_zero, List.set_cons_succ, i64_w, i32_w]
          rfl
        refine one_ (i := 9) (N := some 42) #[true, true, true, true, true, true, true, true, true, true, false, false, false] rfl rfl (by kernel_rfl) (by decide) (fun K hK => ?_)
        have HB_ := hHeld.2.2.2.out
        refine Kd.R_lit_step k36 (w0 := w2) w2.heap.size 36 (by rfl) (N := 42) rfl (xs := [(⟨0, (r : Int), 0, f + 1, ⟨0, 0, 0, 0, 0, 0, 0, 0, 0⟩, 0, 0⟩ : S36)]) (inner := [.int .i64 0, .int .i64 (r : Int), .int .i64 0, .int .i64 (f + 1), .int .i64 0, .int .i64 0, .int .i64 0, .int .i64 0, .int .i64 0, .int .i64 0, .int .i64 0, .int .i64 0, .int .i64 0, .int .i64 0, .int .i64 0]) (ok := fun _ => True) (okp := fun _ => False) (by go_simp) (Reps.front (k36_mkM _ _ _ (⟨0, (r : Int), 0, f + 1, ⟨0, 0, 0, 0, 0, 0, 0, 0, 0⟩, 0, 0⟩ : S36)) rfl (Reps.none _ _) rfl) (fun _ h => h.elim) trivial HB_ HB_.size (by simp) ?_
        clear HB_
        intro v2 w5 hr2 hb2 hg2 hat2
        replace hr2 := Aside0.mk hr2
        replace hb2 := Aside0.mk hb2
        have hr1 := Aside0.mk (Kd.R_grown hr1.out hg2 (fun k _ => by simp))
        clear hg2 hat2
        refine hK.out _ _ ⟨(kS.out _ hb2.out).1, (kS.out _ hb2.out).2.1, (kS.out _ hb2.out).2.2.1, (kS.out _ hb2.out).2.2.2⟩ (fun hHeld => ?_)
        clear hK K
        refine norm_ (a' := ?_) ?_ ?_
        rotate_left
        · show Act.put _ (some 42) _ = _
          simp only [Act.put, List.setIfInBounds_toArray, List.set_cons_zero, List.set_cons_succ, i64_w, i32_w]
          rfl
        exact norm_ (by simp only [putAll, Act.put, List.setIfInBounds_toArray, List.set_cons_zero, List.set_cons_succ]) (hCont (v1, v2) _ ⟨⟨hb2.out⟩, hr1, hr2⟩)
      · skip
        have HB_ := hHeld.2.2.2.out
        refine Kd.R_lit_step k36 (w0 := w2) w2.heap.size 36 (by rfl) (N := 42) rfl (xs := [(⟨0, (r : Int), 0, f + 1, ⟨0, 0, 0, 0, 0, 0, 0, 0, 0⟩, 0, 0⟩ : S36)]) (inner := [.int .i64 0, .int .i64 (r : Int), .int .i64 0, .int .i64 (f + 1), .int .i64 0, .int .i64 0, .int .i64 0, .int .i64 0, .int .i64 0, .int .i64 0, .int .i64 0, .int .i64 0, .int .i64 0, .int .i64 0, .int .i64 0]) (ok := fun _ => True) (okp := fun _ => False) (by go_simp) (Reps.front (k36_mkM _ _ _ (⟨0, (r : Int), 0, f + 1, ⟨0, 0, 0, 0, 0, 0, 0, 0, 0⟩, 0, 0⟩ : S36)) rfl (Reps.none _ _) rfl) (fun _ h => h.elim) trivial HB_ HB_.size (by simp) ?_
        clear HB_
        intro v2 w5 hr2 hb2 hg2 hat2
        replace hr2 := Aside0.mk hr2
        replace hb2 := Aside0.mk hb2
        clear hg2 hat2
        refine hK.out _ _ ⟨(kS.out _ hb2.out).1, (kS.out _ hb2.out).2.1, (kS.out _ hb2.out).2.2.1, (kS.out _ hb2.out).2.2.2⟩ (fun hHeld => ?_)
        clear hK K
        refine norm_ (a' := ?_) ?_ ?_
        rotate_left
        · show Act.put _ (some 42) _ = _
          simp only [Act.put, List.setIfInBounds_toArray, List.set_cons_zero, List.set_cons_succ, i64_w, i32_w]
          rfl
        refine one_ (i := 2) (N := some 35) #[true, true, true, true, true, true, true, true, true, true, false, false, false] rfl rfl (by kernel_rfl) (by decide) (fun K hK => ?_)
        have HB_ := hHeld.2.2.2.out
        refine Kd.R_append_rows_step k36 (w0 := w2) w2.heap.size (by rfl) (.const (.slice none 0 0)) (.tmp 34) 28 36 _ 120 (by rfl) Try.underlying28 info36 (by rfl) (by decide) (by omega) (.slice none 0 0) [] l A n c (fun _ => True) (fun _ => False) (by rfl) (by rfl) (Kd.R_nil _ _ _ _ _) (Kd.C_below hC2.out HB_) (fun _ _ h => K_M36 h) (fun _ h => h.elim) (fun _ _ => trivial) HB_ HB_.size (by have := hh1.out; simp; omega) ?_
        clear HB_
        intro v1 w4 hr1 hb1 hg1 hat1
        rw [List.nil_append] at hr1
        replace hr1 := Aside0.mk hr1
        replace hb1 := Aside0.mk hb1
        have hr2 := Aside0.mk (Kd.R_grown hr2.out hg1 (fun k _ => by simp [Value.ownBlock]))
        clear hg1 hat1
        refine hK.out _ _ ⟨(kS.out _ hb1.out).1, (kS.out _ hb1.out).2.1, (kS.out _ hb1.out).2.2.1, (kS.out _ hb1.out).2.2.2⟩ (fun hHeld => ?_)
        clear hK K
        refine norm_ (a' := ?_) ?_ ?_
        rotate_left
        · show Act.put _ (some 35) _ = _
          simp only [Act.put, List.setIfInBounds_toArray, List.set_cons_zero, List.set_cons_succ, i64_w, i32_w]
          rfl
        exact norm_ (by simp only [putAll, Act.put, List.setIfInBounds_toArray, List.set_cons_zero, List.set_cons_succ]) (hCont (v1, v2) _ ⟨⟨hb1.out⟩, hr1, hr2⟩)
    rintro ⟨v1, v2⟩ w6 ⟨hb3, hr1, hr2⟩
    have hHeld := kS.out _ hb3.out
    obtain ⟨A1, c1, e1⟩ := Kd.R_slice hr1.out
    obtain ⟨A2, c2, e2⟩ := Kd.R_slice hr2.out
    subst e1
    subst e2
    dsimp only
    refine norm_ (a' := ?_) ?_ ?_
    rotate_left
    · simp only [putAll, Act.put, List.setIfInBounds_toArray, List.set_cons_zero, List.set_cons_succ]
      rfl
    refine one_ (i := 10) (N := some 43) #[true, true, true, true, true, true, true, true, true, true, true, false, false] rfl rfl (by kernel_rfl) (by decide) (fun K hK => ?_)
    have HB_ := hHeld.2.2.2.out
    refine Kd.R_append_rows_step k36 (w0 := w2) w2.heap.size (by rfl) (.tmp 35) (.tmp 42) 28 36 _ 120 (by rfl) Try.underlying28 info36 (by rfl) (by decide) (by omega) (.slice A1 l.length c1) l [(⟨0, (r : Int), 0, f + 1, ⟨0, 0, 0, 0, 0, 0, 0, 0, 0⟩, 0, 0⟩ : S36)] A2 1 c2 (fun _ => True) (fun _ => False) (by rfl) (by rfl) (hr1.out) ((Kd.R_reads' hr2.out).2.2) (fun _ _ h => K_M36 h) (fun _ h => h.elim) (fun _ _ => trivial) HB_ HB_.size (by have := hh1.out; have := hlen.out; simp; omega) ?_
    clear HB_
    intro v3 w7 hr3 hb4 hg3 hat3
    clear hg3 hat3
    obtain ⟨A3, c3, e3⟩ := Kd.R_slice hr3
    subst e3
    replace hr3 := Aside0.mk hr3
    replace hb4 := Aside0.mk hb4
    refine hK.out _ _ ⟨(kS.out _ hb4.out).1, (kS.out _ hb4.out).2.1, (kS.out _ hb4.out).2.2.1, (kS.out _ hb4.out).2.2.2⟩ (fun hHeld => ?_)
    clear hK K
    refine norm_ (a' := ?_) ?_ ?_
    rotate_left
    · show Act.put _ (some 43) _ = _
      simp only [Act.put, List.setIfInBounds_toArray, List.set_cons_zero, List.set_cons_succ, i64_w, i32_w]
      rfl
    refine pure_ (i := 11) (N := some 44) (v := ?_) (a' := ?_) #[true, true, true, true, true, true, true, true, true, true, true, true, false] rfl rfl (by kernel_rfl) (fun _ _ _ h => h) (Or.inl ⟨by rfl, ?_⟩) ?_ ?_
    rotate_left
    · intro w'
      go_simp
      with_reducible rfl
    rotate_left
    · simp only [Act.put, List.setIfInBounds_toArray, List.set_cons_zero, List.set_cons_succ, i64_w, i32_w]
      rfl
    refine last_ (i := 12) (N := none) #[true, true, true, true, true, true, true, true, true, true, true, true, true] rfl rfl (by kernel_rfl) (by decide) (fun K hK => ?_)
    have qq2 := (kS.out _ hb4.out).2.2.1
    have qqf := kF.out _ hb4.out
    refine skip_ (w1 := ?_) (by rfl) rfl ?_ ?_
    rotate_left
    · go_simp
      rfl
    refine hK.out _ _ ?_
    clear hK K
    refine done_ (by kernel_rfl) ?_
    have hbox3 : Aside0 ((w7.setCell ⟨w.heap.size, 2, none⟩ (.slice A3 (l.length + 1) c3)).heap[w.heap.size]? = some (.cells #[.int .i64 (r : Int), .int .i64 f, .slice A3 (l.length + 1) c3] 30 (0, 0))) := ⟨by
      have := blk_set ((hb4.out.block w.heap.size hz2.out).trans hbox2.out) 2 (.slice A3 (l.length + 1) c3)
      simpa using this⟩
    have HB3 := Aside0.mk (Below.setCell (below_then HB2.out (Nat.le_of_lt hz2.out) hb4.out) (p := ⟨w.heap.size, 2, none⟩) (Nat.le_refl _) (.slice A3 (l.length + 1) c3))
    have hz3 : Aside0 (w.heap.size < (w7.setCell ⟨w.heap.size, 2, none⟩ (.slice A3 (l.length + 1) c3)).heap.size) := ⟨by
      have h2 := hz2.out
      have h3 := hb4.out.size
      simp [World.setCell]
      omega⟩
    have hS3 : Aside0 (St (w7.setCell ⟨w.heap.size, 2, none⟩ (.slice A3 (l.length + 1) c3)) B R 16 0 ms (fun _ _ => none)) := ⟨by
      have hne : ∀ b : Nat, b ≠ w.heap.size → (w7.setCell ⟨w.heap.size, 2, none⟩ (.slice A3 (l.length + 1) c3)).heap[b]? = w7.heap[b]? := fun b hb => Below.heap_setCell _ ⟨w.heap.size, 2, none⟩ _ b hb
      refine (hS2.out.below hb4.out).move (hne _ (by omega)) (hne _ (by omega)) fun i hi => hne _ ?_
      have := hms.out i hi
      simp at this
      omega⟩
    have hC3 : Aside0 (Kd.C k36 (w7.setCell ⟨w.heap.size, 2, none⟩ (.slice A3 (l.length + 1) c3)) A3 (l.length + 1) (l ++ [⟨0, (r : Int), 0, f + 1, ⟨0, 0, 0, 0, 0, 0, 0, 0, 0⟩, 0, 0⟩])) := ⟨by
      have hfar := Kd.R_far (p := ⟨w.heap.size, 2, none⟩) (Kd.R_bound hr3.out) (fun k hk => by have := hz2.out; have := hk.2.1; show k ≠ w.heap.size; omega) (.slice A3 (l.length + 1) c3)
      have := (Kd.R_reads' hfar).2.2
      rw [List.length_append] at this
      exact this⟩
    dsimp only [List.length_append, List.length_cons, List.length_nil, Nat.zero_add]
    generalize hW : w7.setCell ⟨w.heap.size, 2, none⟩ (.slice A3 (l.length + 1) c3) = w8 at *
    clear hW hbox2 hS2 hC2 kS kF hr1 hr2 hr3 hb3 hb4 hHeld qq2 qqf HB2 hz2
    have kS : Aside0 (∀ w', Below w8.heap.size w8 w' → w'.cell? ⟨w.heap.size, 0, none⟩ = some (.int .i64 (r : Int)) ∧ w'.cell? ⟨w.heap.size, 1, none⟩ = some (.int .i64 f) ∧ w'.cell? ⟨w.heap.size, 2, none⟩ = some (.slice A3 (l.length + 1) c3) ∧ Aside0 (Below w8.heap.size w8 w')) := ⟨fun w' hb => by
      have hx := (hb.block w.heap.size hz3.out).trans hbox3.out
      exact ⟨blk_cell' hx 0, blk_cell' hx 1, blk_cell' hx 2, ⟨hb⟩⟩⟩
    have hbad : Aside0 ((l ++ [(⟨0, (r : Int), 0, f + 1, ⟨0, 0, 0, 0, 0, 0, 0, 0, 0⟩, 0, 0⟩ : S36)]).any (badP r f) = true) := ⟨by
      rw [List.any_append]
      simp [badP]
      right
      omega⟩
    have HX := Aside0.mk (Below.refl w8.heap.size w8)
    go_wp2_with (first
      | (go_at_call 8; go_loud (with_reducible refine (awake_c _).mono ?_); rintro e w9 ⟨rfl, hbb⟩; (replace HX := Aside0.mk (below_then HX.out HX.out.size hbb)); have q0 := (kS.out _ HX.out).1; have q1 := (kS.out _ HX.out).2.1; have q2 := (kS.out _ HX.out).2.2.1; clear hbb)
      | (go_at_call 9; (with_reducible refine (nilAdd_c _).mono ?_); rintro e w10 ⟨rfl, hbb⟩; (replace HX := Aside0.mk (below_then HX.out HX.out.size hbb)); have q0 := (kS.out _ HX.out).1; have q1 := (kS.out _ HX.out).2.1; have q2 := (kS.out _ HX.out).2.2.1; clear hbb)
      | (go_at_call 10; (with_reducible refine (nilMissing_c _ _ _).mono ?_); rintro e w11 ⟨rfl, hw⟩; subst w11)
      | (go_at_call 17; (with_reducible refine (nilFork_c _).mono ?_); rintro e w12 ⟨rfl, hw⟩; subst w12)
      | (go_at_call 9; go_loud (refine (addBad_c B R 16 0 ms (fun _ _ => none) r (by omega) (by omega) f f0 (by omega) A3 (l.length + 1) c3 _ (by have := hlen.out; have := hh1.out; omega) hbad.out _ (hS3.out.below HX.out) (Kd.C_below hC3.out HX.out)).mono ?_); rintro e w13 ⟨rfl, hbb⟩; (replace HX := Aside0.mk (below_then HX.out HX.out.size hbb)); have q0 := (kS.out _ HX.out).1; have q1 := (kS.out _ HX.out).2.1; have q2 := (kS.out _ HX.out).2.2.1; clear hbb)
      | (go_at_call 10; go_loud (refine (missing0_c B R 16 0 ms (fun _ _ => none) r (by omega) rfl (by omega) _ (hS3.out.below HX.out)).mono ?_); rintro e w14 ⟨rfl, hbb⟩; (replace HX := Aside0.mk (below_then HX.out HX.out.size hbb)); clear hbb)
      | fail)
    go_ret
    exact ⟨rfl, below_then HB3.out (Nat.le_of_lt hz3.out) HX.out⟩
end Go.Proofs.Ytnenhlgpkfelcaa.Box
