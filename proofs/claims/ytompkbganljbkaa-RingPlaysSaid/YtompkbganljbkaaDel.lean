/- slices.Delete of one row, in place. -/
import Derived.Test.YtompkbganljbkaaRin
namespace Go.Proofs.Ytompkbganljbkaa.Rin
open Go Go.RowKit Go.Proofs.Ytompkbganljbkaa.PRingPlays Go.Proofs.YtompkbganljbkaaW.PrintWords Go.Proofs.YtompkbganljbkaaW.PrintLast Go.Proofs.YtompkbganljbkaaW.PrintMore
set_option linter.unusedVariables false
set_option linter.unusedSimpArgs false
theorem gtrans {a b c : World} {row : Option Nat} (h : a.grownBy b row) (k : b.grownBy c row) : a.grownBy c row :=
  ⟨k.os.trans h.os, k.tape.trans h.tape, k.output.trans h.output, Nat.le_trans h.size k.size, fun i hi hne => (k.block i (Nat.lt_of_lt_of_le hi h.size) hne).trans (h.block i hi hne)⟩
theorem gdrew {a b : World} {row : Option Nat} (h : a.drew.grownBy b row) : a.grownBy b row := ⟨h.os, h.tape, h.output, h.size, h.block⟩
theorem R_spare {α : Type} {d : Kd α} {e g n c base : Nat} {W : World} {ok : Nat → Prop} {xs : List α} (h : d.R e W base ok (.slice (some ⟨g, 0, none⟩) n c) xs) (vs : List Value) (o : Nat) (ho : n * d.sz ≤ o) (hv : o + vs.length ≤ c * d.sz) :
    d.R e (W.setCells g o vs) base ok (.slice (some ⟨g, 0, none⟩) n c) xs ∧ W.grownBy (W.setCells g o vs) (some g) := by
  obtain ⟨hok, inner, hown, hr⟩ := h
  obtain ⟨s1, s2, s3, s4⟩ := setCells_same g vs o W
  have hgr : W.grownBy (W.setCells g o vs) (some g) := ⟨s1, s2, s3, by rw [s4]; exact Nat.le_refl _, fun k hk hne => setCells_far vs o k (fun e => hne (by rw [e]))⟩
  refine ⟨⟨hok, inner, ⟨hown.1, ?_⟩, ?_⟩, hgr⟩
  · rcases hown.2 with ⟨hv, _⟩ | ⟨g', cap', cur, hv2, hb, hh, hnc, hcm, hcs, htake⟩
    · cases hv
    · injection hv2 with ha hn2 hc
      injection ha with ha
      injection ha with hg
      subst hg; subst hc; subst hn2
      have hrow := setCells_row (g := g) (e := e) vs o W cur hh (by rw [hcs]; exact hv)
      obtain ⟨cur', h1, h2, h3⟩ := hrow
      have hle : xs.length * d.sz ≤ (cur.toList.take o).length := by
        have h5 : cur.toList.length = c * d.sz := Array.length_toList.trans hcs
        rw [List.length_take, h5]
        exact Nat.le_min.2 ⟨ho, Nat.mul_le_mul_right _ hnc⟩
      refine .inr ⟨g, c, cur', rfl, hb, h1, hnc, hcm, by rw [h2, hcs], ?_⟩
      rw [h3, List.append_assoc, List.take_append_of_le_length hle, List.take_take, Nat.min_eq_left ho]
      exact htake
  · refine hr.imp_ (fun p c hp => d.M_mono (fun k hk => ⟨hk.1, hk.2⟩) (Kd.M_step hp (fun k hk _ => setCells_far vs o k (fun e => hk.2 (by rw [e]; rfl)))))
theorem zero29 (w : World) : (zeroValue 29).run Try.prog w = .ok (.agg #[.int .i64 0, .slice none 0 0]) w := by kernel_rfl
theorem clear1 (w : World) (ty : TypeId) (b o c : Nat) (h0 : (w.cell? ⟨b, o, none⟩).isSome = true) (h1 : (w.cell? ⟨b, o + 1, none⟩).isSome = true) (hf : ∀ j, w.frozen? ⟨b, j, none⟩ = false) :
    (Builtin.clear_ #[48] ty #[.slice (some ⟨b, o, none⟩) 1 c]).run Try.prog w = .ok (.tuple #[]) (w.setCells b o [.int .i64 0, .slice none 0 0]) := by
  have hst := run_storeCells_cells (P := Try.prog) b o [.int .i64 0, .slice none 0 0] 0 w (fun j hj => by
    match j, hj with
    | 0, _ => exact h0
    | 1, _ => exact h1
    | j + 2, hj =>
      have h2 : j + 2 < 2 := hj
      omega) (fun j _ => hf _) (by intro v hv; simp at hv; rcases hv with rfl | rfl <;> rfl)
  simp only [Nat.add_zero] at hst
  have hzc : (Builtin.zeroCells (Value.agg #[.int .i64 0, .slice none 0 0]).cells 1).toList = [.int .i64 0, .slice none 0 0] := by kernel_rfl
  simp [Builtin.clear_, run_underlying Try.underlying48, zero29, hzc, hst]
theorem size29 : (Try.prog.info? 29).map (·.size) = some k29.sz := by kernel_rfl
theorem under48 : Try.prog.underlying 48 = some (.slice 29) := Try.underlying48
set_option maxRecDepth 100000 in
set_option maxHeartbeats 4000000 in
theorem delete_c (g n c i base : Nat) (ok : Nat → Prop) (L : List S29) (w0 w : World) (hi : i < n) (hn : n ≤ 100000) (HO : Kd.R k29 29 w base ok (.slice (some ⟨g, 0, none⟩) n c) L) (HB : Below base w0 w) (hbase : base ≤ w.heap.size) :
    Calls Try.prog 25 #[.slice (some ⟨g, 0, none⟩) n c, .int .i64 (i : Int), .int .i64 ((i : Int) + 1)] w fun e w' => e = .returned (.slice (some ⟨g, 0, none⟩) (n - 1) c) ∧ Kd.R k29 29 w' base ok (.slice (some ⟨g, 0, none⟩) (n - 1) c) (L.eraseIdx i) ∧ Below base w0 w' ∧ w.grownBy w' (some g) := by
  obtain ⟨hl, hnc, _⟩ := Kd.R_reads' HO
  have hcm : (c : Int) ≤ 9223372036854775807 := by
    obtain ⟨_, inner, hown, _⟩ := HO
    rcases hown.2 with ⟨hv, _⟩ | ⟨g', cap', cur, hv, hb, hh, _, hcm, hcs, htake⟩
    · cases hv
    · injection hv with _ _ hc
      subst hc
      unfold maxLen at hcm
      omega
  have b0 : (0 : Int) ≤ (i : Int) := by omega
  have b1 : (0 : Int) ≤ (i : Int) + 1 := by omega
  have b2 : (i : Int) + 1 ≤ (n : Int) := by omega
  have b3 : (i : Int) ≤ (c : Int) := by omega
  have b4 : (i : Int) ≤ (i : Int) + 1 := by omega
  have b5 : (i : Int) + 1 ≤ (c : Int) := by omega
  have b6 : (n : Int) ≤ (c : Int) := by omega
  have b7 : (i : Int) ≤ (n : Int) := by omega
  have b8 : ¬ ((i : Int) = (i : Int) + 1) := by omega
  replace hl := Aside0.mk hl
  replace HO := Aside0.mk HO
  replace HB := Aside0.mk HB
  go_enter Try.func25, Try.ntmps25
  go_wp2_with fail
  refine start_ (n := 8) (S := fun w' => True) (ds := []) #[false, false, false, false, false, false, false, false] (by kernel_rfl) rfl rfl trivial (fun hHeld => ?_)
  refine pure_ (i := 0) (N := some 20) (v := ?_) (a' := ?_) #[true, false, false, false, false, false, false, false] rfl rfl (by kernel_rfl) (fun _ _ _ h => h) (Or.inl ⟨by rfl, ?_⟩) ?_ ?_
  rotate_left
  · intro w'
    go_simp
    with_reducible rfl
  rotate_left
  · simp only [Act.put, List.setIfInBounds_toArray, List.set_cons_zero, List.set_cons_succ, i64_w, i32_w]
    rfl
  refine pure_ (i := 1) (N := some 21) (v := ?_) (a' := ?_) #[true, true, false, false, false, false, false, false] rfl rfl (by kernel_rfl) (fun _ _ _ h => h) (Or.inl ⟨by rfl, ?_⟩) ?_ ?_
  rotate_left
  · intro w'
    go_simp
    with_reducible rfl
  rotate_left
  · simp only [Act.put, List.setIfInBounds_toArray, List.set_cons_zero, List.set_cons_succ, i64_w, i32_w]
    rfl
  refine pure_ (i := 2) (N := some 22) (v := ?_) (a' := ?_) #[true, true, true, false, false, false, false, false] rfl rfl (by kernel_rfl) (fun _ _ _ h => h) (Or.inl ⟨by rfl, ?_⟩) ?_ ?_
  rotate_left
  · intro w'
    go_simp
    with_reducible rfl
  rotate_left
  · simp only [Act.put, List.setIfInBounds_toArray, List.set_cons_zero, List.set_cons_succ, i64_w, i32_w]
    rfl
  refine pure_ (i := 3) (N := some 23) (v := ?_) (a' := ?_) #[true, true, true, true, false, false, false, false] rfl rfl (by kernel_rfl) (fun _ _ _ h => h) (Or.inl ⟨by rfl, ?_⟩) ?_ ?_
  rotate_left
  · intro w'
    go_simp
    with_reducible rfl
  rotate_left
  · simp only [Act.put, List.setIfInBounds_toArray, List.set_cons_zero, List.set_cons_succ, i64_w, i32_w]
    rfl
  refine pure_ (i := 4) (N := some 24) (v := ?_) (a' := ?_) #[true, true, true, true, true, false, false, false] rfl rfl (by kernel_rfl) (fun _ _ _ h => h) (Or.inl ⟨by rfl, ?_⟩) ?_ ?_
  rotate_left
  · intro w'
    go_simp
    with_reducible rfl
  rotate_left
  · simp only [Act.put, List.setIfInBounds_toArray, List.set_cons_zero, List.set_cons_succ, i64_w, i32_w]
    rfl
  refine pure_ (i := 5) (N := some 25) (v := ?_) (a' := ?_) #[true, true, true, true, true, true, false, false] rfl rfl (by kernel_rfl) (fun _ _ _ h => h) (Or.inl ⟨by rfl, ?_⟩) ?_ ?_
  rotate_left
  · intro w'
    go_simp
    with_reducible rfl
  rotate_left
  · simp only [Act.put, List.setIfInBounds_toArray, List.set_cons_zero, List.set_cons_succ, i64_w, i32_w]
    rfl
  refine one_ (i := 6) (N := some 26) #[true, true, true, true, true, true, true, false] rfl rfl (by kernel_rfl) (by decide) (fun K hK => ?_)
  refine Kd.R_delete_step k29 (w0 := w0) base (by rfl) (.tmp 22) (.tmp 25) 48 29 (by rfl) Try.underlying48 size29 (g := g) (n := n) (c := c) (k := i) (m := n - (i + 1)) (c2 := c - (i + 1)) (A := if c = i + 1 then some ⟨g, 0, none⟩ else some ⟨g, (i + 1) * 2, none⟩) (by rfl) (by rfl) (by have e2 : k29.sz = 2 := rfl; rw [e2]; simp [Addr.add_lit]) rfl (Kd.R_drew HO.out) hi (below_drew1 HB.out) hbase ?_
  intro w1 hR1 hB1 hg1
  replace hR1 := Aside0.mk hR1
  replace hB1 := Aside0.mk hB1
  replace hg1 := Aside0.mk hg1
  refine hK.out _ _ trivial (fun hHeld => ?_)
  clear hK K
  refine norm_ (a' := ?_) ?_ ?_
  rotate_left
  · show Act.put _ (some 26) _ = _
    simp only [Act.put, List.setIfInBounds_toArray, List.set_cons_zero, List.set_cons_succ, i64_w, i32_w]
    rfl
  refine pure_ (i := 7) (N := some 0) (v := ?_) (a' := ?_) #[true, true, true, true, true, true, true, true] rfl rfl (by kernel_rfl) (fun _ _ _ h => h) (Or.inl ⟨by rfl, ?_⟩) ?_ ?_
  rotate_left
  · intro w'
    go_simp
    with_reducible rfl
  rotate_left
  · simp only [Act.put, List.setIfInBounds_toArray, List.set_cons_zero, List.set_cons_succ, i64_w, i32_w]
    rfl
  refine done_ (by kernel_rfl) ?_
  have hcl : Aside0 (∀ ty, (Builtin.clear_ #[48] ty #[.slice (some ⟨g, (n - 1) * 2, none⟩) (n - (n - 1)) (c - (n - 1))]).run Try.prog w1 = .ok (.tuple #[]) (w1.setCells g ((n - 1) * 2) [.int .i64 0, .slice none 0 0])) := ⟨fun ty => by
    have hrow := hR1.out
    obtain ⟨_, inner, hown, hr⟩ := hrow
    rcases hown.2 with ⟨hv, _⟩ | ⟨g', cap', cur, hv, hb, hh, hnc, hcm2, hcs, htake⟩
    · cases hv
    · injection hv with ha hn2 hc
      injection ha with ha
      injection ha with hg
      subst hg; subst hc
      have hcell := blk_cell' hh
      have hsz : cur.size = c * 2 := hcs
      have e1 : n - (n - 1) = 1 := by omega
      rw [e1]
      exact clear1 w1 ty g ((n - 1) * 2) (c - (n - 1)) (by rw [hcell, Array.getElem?_eq_getElem (by omega)]; rfl) (by rw [hcell, Array.getElem?_eq_getElem (by omega)]; rfl) (fun j => by simp [World.frozen?, hh])⟩
  go_wp2_with (simp only [hcl.out])
  all_goals go_ret
  all_goals
    have hz : k29.sz = 2 := rfl
    obtain ⟨k1, k2⟩ := R_spare hR1.out [.int .i64 0, .slice none 0 0] ((n - 1) * 2) (by rw [hz]; exact Nat.le_refl _) (by rw [hz]; show (n - 1) * 2 + 2 ≤ c * 2; omega)
    first
      | exact ⟨rfl, k1, hB1.out.grown k2 (Nat.le_trans hbase hg1.out.size) (fun k hk => by injection hk with hk; subst hk; exact Kd.R_base HO.out _ rfl), gtrans (gdrew hg1.out) k2⟩
      | (have hce : c = i + 1 := by assumption
         subst hce
         exact ⟨rfl, k1, hB1.out.grown k2 (Nat.le_trans hbase hg1.out.size) (fun k hk => by injection hk with hk; subst hk; exact Kd.R_base HO.out _ rfl), gtrans (gdrew hg1.out) k2⟩)
end Go.Proofs.Ytompkbganljbkaa.Rin
