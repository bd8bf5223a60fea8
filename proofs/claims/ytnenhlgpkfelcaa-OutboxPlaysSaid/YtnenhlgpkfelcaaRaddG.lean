/- The reference's store: Add. -/
import Derived.Test.YtnenhlgpkfelcaaRaddB
namespace Go.Proofs.Ytnenhlgpkfelcaa.Box2
open Go.Proofs.Ytnenhlgpkfelcaa.Box
open Go Go.RowKit Go.Maps Go.Proofs.Ytnenhlgpkfelcaa.POutboxPlays Go.Proofs.YtnenhlgpkfelcaaW.PrintWords Go.Proofs.YtnenhlgpkfelcaaW.PrintLast Go.Proofs.YtnenhlgpkfelcaaW.PrintMore
set_option linter.unusedVariables false
set_option linter.unusedSimpArgs false
theorem R_types30 {w : World} {base : Nat} {ok : Nat → Prop} {v : Value} {L : List S30} (h : Kd.R k30 30 w base ok v L) : Kd.R k30 30 w base (fun k => ok k ∧ base ≤ k ∧ k < w.heap.size ∧ (v.ownBlock = some k ∨ ∃ cells, w.heap[k]? = some (.cells cells 36 (0, 0)))) v L := by
  have hb := (Kd.R_bound h).1
  obtain ⟨h0, inner, ho, hr⟩ := h
  refine ⟨fun k hk => ⟨h0 k hk, (hb k hk).2.1, (hb k hk).2.2.1, .inl hk⟩, inner, ho, hr.imp_ (fun p c hp => k30.M_mono (fun k hk => ?_) (k30.M_bound hp))⟩
  obtain ⟨⟨h1, h2⟩, h3, h4, q, hq, cells, hc⟩ := hk
  have hq5 : q = 36 := by
    simp [k30, k36, k34, Kd.iso, Kd.pair, Kd.slice, Kd.int, Kd.scalar] at hq
    exact hq
  subst hq5
  exact ⟨⟨h1, h3, h4, .inr ⟨cells, hc⟩⟩, h2⟩
theorem info30 : (Try.prog.info? 30).map (fun i => (i.zero, i.size, i.bytes)) = some (some (.agg #[.int .i64 0, .int .i64 0, .slice none 0 0]), 3, 40) := by kernel_rfl
set_option maxRecDepth 100000 in
set_option maxHeartbeats 4000000 in
theorem raddGood_c (r : Nat) (f : Int) (A : Option Addr) (n c : Nat) (l : List S36) (B R k base : Nat) (vs : Nat → Value) (LL : Nat → List S30) (w : World) (h : Rs w B R k base vs LL) (hr : r < k) (hn : (LL r).length ≤ 1000) (hs : ∀ o ∈ LL r, o.f2.length ≤ 1000) (hlk : (look (LL r) f).isSome = false) (f0 : 0 ≤ f) (f1 : f < 10000) (HC : Kd.C k36 w A n l) (hnl : n ≤ 1000) (hgood0 : l.any (badP r f) = false) (w0 : World) (HB : Below base w0 w) (hbase : base ≤ w.heap.size) :
    Calls Try.prog 15 #[.pointer (some ⟨B, 0, none⟩), .agg #[.int .i64 (r : Int), .int .i64 f, .slice A n c]] w fun e w' => e = .returned (.bool true) ∧ (∃ v', Rs w' B R k base (fun i => if i = r then v' else vs i) (fun i => if i = r then LL r ++ [⟨(r : Int), f, l⟩] else LL i) ∧ (v'.ownBlock = (vs r).ownBlock ∨ ∃ b, v'.ownBlock = some b ∧ w.heap.size ≤ b)) ∧ Below base w0 w' ∧ (∀ b, b < w.heap.size → b ≠ R → some b ≠ (vs r).ownBlock → w'.heap[b]? = w.heap[b]?) ∧ w.heap.size ≤ w'.heap.size := by
  have hb1 : Below w.heap.size w (w.alloc (.cells #[.int .i64 (r : Int), .int .i64 f, .slice A n c] 30)) := (Below.refl _ _).alloc (Nat.le_refl _) _
  have h1 := h.below hb1
  have e0 := heap_alloc_new w (.cells #[.int .i64 (r : Int), .int .i64 f, .slice A n c] 30)
  have q0 := h1.cells.1
  have x0 := blk_cell' e0 0
  have x1 := blk_cell' e0 1
  have x2 := blk_cell' e0 2
  simp at x0 x1 x2
  have k1 := rget_c r f B R k base vs LL _ h1 hr hn hs
  unfold Got at k1
  rw [hlk] at k1
  replace k1 := Aside0.mk k1
  have c1 : decide ((r : Int) < 0) = false := decide_eq_false (by omega)
  have c1b : ¬ ((r : Int) < 0) := by omega
  have c2 : decide ((k : Int) ≤ (r : Int)) = false := decide_eq_false (by omega)
  have c2b : ¬ ((k : Int) ≤ (r : Int)) := by omega
  have c2c : ¬ (k ≤ r) := by omega
  have c2d : decide (k ≤ r) = false := decide_eq_false c2c
  replace hs := Aside0.mk hs
  have d1 : decide (f < 0) = false := decide_eq_false (by omega)
  have d1b : ¬ (f < 0) := by omega
  have d2 : decide (10000 ≤ f) = false := decide_eq_false (by omega)
  have d2b : ¬ (10000 ≤ f) := by omega
  have hl : l.length = n := HC.1
  replace HC := Aside0.mk HC
  replace hl := Aside0.mk hl
  have hgd := Aside0.mk hgood0
  clear hgood0
  replace HB := Aside0.mk HB
  replace hbase := Aside0.mk hbase
  replace h1 := Aside0.mk h1
  replace e0 := Aside0.mk e0
  replace hb1 := Aside0.mk hb1
  replace h := Aside0.mk h
  go_enter Try.func15, Try.ntmps15
  go_wp2_with (first
    | (go_at_call 18; (with_reducible refine k1.out.mono ?_); rintro e w3 ⟨⟨A3, c3, rfl, _⟩, hb3⟩; have hx3 := (hb3.block _ (blk_lt' e0.out)).trans e0.out; have y0 := blk_cell' hx3 0; have y1 := blk_cell' hx3 1; have y2 := blk_cell' hx3 2; simp at y0 y1 y2; have h3 := h1.out.below hb3; have p0 := h3.cells.1; replace h3 := Aside0.mk h3; replace hx3 := Aside0.mk hx3; replace hb3 := Aside0.mk (below_then hb1.out hb1.out.size hb3))
    | fail)
  go_quiet (fail)
  have hb4 := Aside0.mk (pw_below_drewN hb3.out nq)
  have hx4 : Aside0 ((w3.drewN nq).heap[w.heap.size]? = some (.cells #[.int .i64 (r : Int), .int .i64 f, .slice A n c] 30 (0, 0))) := ⟨hx3.out⟩
  clear y0 y1 y2 p0 q0 x0 x1 x2
  go_wp2_with fail
  go_loopw [7] (fun i wr => ∃ j : Nat, j ≤ n ∧ i = .int .i64 j ∧ Aside0 (Below w.heap.size w wr) ∧ Aside0 (wr.heap[w.heap.size]? = some (.cells #[.int .i64 (r : Int), .int .i64 f, .slice A n c] 30 (0, 0))) ∧ Aside0 ((l.take j).any (badP r f) = false)) (fun i _ => n - (intOf i).toNat)
  case atStart => exact ⟨0, Nat.zero_le _, rfl, hb4, hx4, ⟨by simp⟩⟩
  case round =>
    clear hb3 hx3 h3 hb4 hx4
    obtain ⟨j, hj, rfl, hb, hx, hno⟩ := hrel
    have y0 := blk_cell' hx.out 0
    have y1 := blk_cell' hx.out 1
    have y2 := blk_cell' hx.out 2
    simp at y0 y1 y2
    by_cases hjn : j < n
    · obtain ⟨ad, e1, x0, x1, x2, x3, x4, x5, x6, x7, x8, x9, x10, x11, x12, x13, x14⟩ := at_T36 (Kd.C_below HC.out hb.out) (j : Int) (by omega) (by omega)
      subst e1
      rw [Int.toNat_natCast] at x1 x3
      have hlk' : j < l.length := by rw [hl.out]; exact hjn
      have hrd : rd_T36 l (j : Int) = l[j] := by simp [rd_T36, List.getD_eq_getElem?_getD, List.getElem?_eq_getElem hlk']
      have htk : (l.take (j + 1)).any (badP r f) = badP r f l[j] := by
        rw [List.take_succ_eq_append_getElem hlk', List.any_append, hno.out]
        simp
      have hmem : l[j] ∈ l := List.getElem_mem hlk'
      rw [hrd] at x1 x3
      clear x0 x2 x4 x5 x6 x7 x8 x9 x10 x11 x12 x13 x14 hrd
      generalize l[j] = p at *
      have z0 : (0 : Int) ≤ (j : Int) := by omega
      have z1 : (j : Int) < (n : Int) := by omega
      rcases (by
        cases hb1 : (p.f1 == (r : Int)) with
        | true => cases hb2 : (p.f3 == f) with
          | true => exact .inr ⟨beq_iff_eq.1 hb1, beq_iff_eq.1 hb2⟩
          | false => exact .inl (.inr ⟨beq_iff_eq.1 hb1, beq_eq_false_iff_ne.1 hb2⟩)
        | false => exact .inl (.inl (beq_eq_false_iff_ne.1 hb1)) : (p.f1 ≠ (r : Int) ∨ (p.f1 = (r : Int) ∧ p.f3 ≠ f)) ∨ (p.f1 = (r : Int) ∧ p.f3 = f)) with (h1' | ⟨h1', h2'⟩) | ⟨h1', h2'⟩
      · exact absurd hmem (fun hm => by have h5 := List.any_eq_false.1 hgd.out p hm; simp [badP, h1'] at h5)
      · exact absurd hmem (fun hm => by have h5 := List.any_eq_false.1 hgd.out p hm; simp [badP, h2'] at h5)
      · have hgood : badP r f p = false := by simp [badP, h1', h2']
        rw [hgood] at htk
        rw [h1'] at x1
        rw [h2'] at x3
        have g1 : (((r : Int) != (r : Int)) = false) := by simp
        replace htk := Aside0.mk htk
        clear hgood h1' h2'
        replace hmem := Aside0.mk hmem
        go_wp2_with fail
        go_quiet (fail)
        have hb5 := Aside0.mk (pw_below_drewN hb.out nq)
        have hx5 : Aside0 ((wr.drewN nq).heap[w.heap.size]? = some (.cells #[.int .i64 (r : Int), .int .i64 f, .slice (some ad) n c] 30 (0, 0))) := ⟨hx.out⟩
        go_wp2_with fail
        go_roundw
        case rel => exact ⟨j + 1, by omega, by go_num, hb5, hx5, htk⟩
        case measure => simp [intOf]; omega
    · obtain rfl : j = n := by omega
      have hh := h.out.below hb.out
      have HCj := Kd.C_below HC.out hb.out
      have ff : ∀ i, wr.frozen? ⟨w.heap.size, i, none⟩ = false := fun i => by simp [World.frozen?, hx.out]
      replace hh := Aside0.mk hh
      replace HCj := Aside0.mk HCj
      go_wp2_with (first
        | ((with_reducible refine gate_dst (N := 72) rfl ?_); go_loud (refine Kd.R_append_rows k36 (w0 := wr) wr.heap.size rfl (.const (.slice none 0 0)) (.tmp 71) 28 36 _ 120 rfl Try.underlying28 info36 rfl (by decide) (by omega) (.slice none 0 0) [] l A j c (fun _ => True) (fun _ => False) rfl rfl (Kd.R_nil _ _ _ _ _) HCj.out (fun _ _ h => K_M36 h) (fun _ h => h.elim) (fun _ _ => trivial) (Below.refl _ _) (Nat.le_refl _) (by simp; omega) ?_); intro v9 w9 hR9 hb9 hg9 hat9; rw [List.nil_append] at hR9; obtain ⟨A9, c9, e9⟩ := Kd.R_slice hR9; subst e9; have hx9 := (hb9.block _ (blk_lt' hx.out)).trans hx.out; have r0 := blk_cell' hx9 0; have r1 := blk_cell' hx9 1; have r2 := blk_cell' hx9 2; have ff9 : ∀ i, w9.frozen? ⟨w.heap.size, i, none⟩ = false := (fun i => by simp [World.frozen?, hx9]); simp at r0 r1 r2; replace hx9 := Aside0.mk hx9; replace hR9 := Aside0.mk hR9; replace hb9 := Aside0.mk hb9; clear hg9 hat9)
        | fail)
      have hx5 : Aside0 ((w9.setCell ⟨w.heap.size, 2, none⟩ (.slice A9 l.length c9)).heap[w.heap.size]? = some (.cells #[.int .i64 (r : Int), .int .i64 f, .slice A9 l.length c9] 30 (0, 0))) := ⟨by
        have h5 := blk_set hx9.out 2 (.slice A9 l.length c9)
        simpa using h5⟩
      have hb5 : Aside0 (Below w.heap.size w (w9.setCell ⟨w.heap.size, 2, none⟩ (.slice A9 l.length c9))) := ⟨(below_then hb.out hb.out.size hb9.out).setCell (p := ⟨w.heap.size, 2, none⟩) (Nat.le_refl _) _⟩
      have hwr9 : Aside0 (w.heap.size < wr.heap.size ∧ wr.heap.size ≤ w9.heap.size) := ⟨blk_lt' hx.out, hb9.out.size⟩
      have hR5 : Aside0 (Kd.R k36 36 (w9.setCell ⟨w.heap.size, 2, none⟩ (.slice A9 l.length c9)) base (fun q => w.heap.size ≤ q) (.slice A9 l.length c9) l) := ⟨by
        have h5 := Kd.R_far (Kd.R_bound hR9.out) (p := ⟨w.heap.size, 2, none⟩) (fun q hq e => by have := hq.2.1; have := hwr9.out; have e2 : q = w.heap.size := e; omega) (.slice A9 l.length c9)
        exact Kd.R_lower (Kd.R_mono h5 (fun q hq => by have := hq.2.1; have := hwr9.out; omega)) (by have := hwr9.out; have := hbase.out; omega)⟩
      have hw5e : Aside0 (True) := ⟨trivial⟩
      generalize w9.setCell ⟨w.heap.size, 2, none⟩ (.slice A9 l.length c9) = W5 at *
      have hh5 := Aside0.mk (h.out.below hb5.out)
      obtain ⟨Av, cv, hv⟩ := Kd.R_slice (hh5.out.rows r hr)
      have kS : Aside0 (∀ w', Below W5.heap.size W5 w' → w'.cell? ⟨B, 0, none⟩ = some (.slice (some ⟨R, 0, none⟩) k k) ∧ w'.cell? ⟨R, r, none⟩ = some (.slice Av (LL r).length cv) ∧ w'.cell? ⟨w.heap.size, 0, none⟩ = some (.int .i64 (r : Int)) ∧ w'.cell? ⟨w.heap.size, 1, none⟩ = some (.int .i64 f) ∧ w'.cell? ⟨w.heap.size, 2, none⟩ = some (.slice A9 l.length c9)) := ⟨fun w' hb => by
        have hy := (hb.block w.heap.size (blk_lt' hx5.out)).trans hx5.out
        have hz := hh5.out.below hb
        exact ⟨hz.cells.1, by have h5 := hz.cells.2 r hr; rw [hv] at h5; exact h5, blk_cell' hy 0, blk_cell' hy 1, blk_cell' hy 2⟩⟩
      have hvb : Aside0 (∀ b, (vs r).ownBlock = some b → b < w.heap.size) := ⟨fun b hbb => ((Kd.R_bound (h.out.rows r hr)).1 b hbb).2.2.1⟩
      have hRv := Aside0.mk (hh5.out.rows r hr)
      rw [hv] at hRv hvb
      have z0 : (0 : Int) ≤ (r : Int) := by omega
      have z1 : (r : Int) < (k : Int) := by omega
      have hll : Aside0 ((LL r).length ≤ 1000) := ⟨hn⟩
      clear r0 r1 r2 ff9 ff y0 y1 y2 hx9 hb9 hR9
      refine start_ (n := 19) (S := fun w' => w'.cell? ⟨B, 0, none⟩ = some (.slice (some ⟨R, 0, none⟩) k k) ∧ w'.cell? ⟨R, r, none⟩ = some (.slice Av (LL r).length cv) ∧ w'.cell? ⟨w.heap.size, 0, none⟩ = some (.int .i64 (r : Int)) ∧ w'.cell? ⟨w.heap.size, 1, none⟩ = some (.int .i64 f) ∧ w'.cell? ⟨w.heap.size, 2, none⟩ = some (.slice A9 l.length c9)) (ds := [18]) #[false, false, false, false, false, false, false, false, false, false, false, false, false, false, false, false, false, false, false] (by kernel_rfl) rfl rfl ⟨(kS.out _ (below_drew (Below.refl _ _))).1, (kS.out _ (below_drew (Below.refl _ _))).2.1, (kS.out _ (below_drew (Below.refl _ _))).2.2.1, (kS.out _ (below_drew (Below.refl _ _))).2.2.2.1, (kS.out _ (below_drew (Below.refl _ _))).2.2.2.2⟩ (fun hHeld => ?_)
      refine pure_ (i := 0) (N := some 74) (v := ?_) (a' := ?_) #[true, false, false, false, false, false, false, false, false, false, false, false, false, false, false, false, false, false, false] rfl rfl (by kernel_rfl) (fun _ _ _ h => h) (Or.inl ⟨by rfl, ?_⟩) ?_ ?_
      rotate_left
      · intro w'
        go_simp
        with_reducible rfl
      rotate_left
      · simp only [Act.put, List.setIfInBounds_toArray, List.set_cons_zero, List.set_cons_succ, i64_w, i32_w]
        rfl
      refine pure_ (i := 1) (N := some 75) (v := ?_) (a' := ?_) #[true, true, false, false, false, false, false, false, false, false, false, false, false, false, false, false, false, false, false] rfl rfl (by kernel_rfl) (fun _ _ _ h => h) (Or.inl ⟨by rfl, ?_⟩) ?_ ?_
      rotate_left
      · intro w'
        go_simp
        with_reducible rfl
      rotate_left
      · simp only [Act.put, List.setIfInBounds_toArray, List.set_cons_zero, List.set_cons_succ, i64_w, i32_w]
        rfl
      refine pure_ (i := 2) (N := some 76) (v := ?_) (a' := ?_) #[true, true, true, false, false, false, false, false, false, false, false, false, false, false, false, false, false, false, false] rfl rfl (by kernel_rfl) (fun _ _ _ h => h) (Or.inl ⟨by rfl, ?_⟩) ?_ ?_
      rotate_left
      · intro w'
        go_simp
        with_reducible rfl
      rotate_left
      · simp only [Act.put, List.setIfInBounds_toArray, List.set_cons_zero, List.set_cons_succ, i64_w, i32_w]
        rfl
      refine pure_ (i := 4) (N := some 78) (v := ?_) (a' := ?_) #[true, true, true, false, true, false, false, false, false, false, false, false, false, false, false, false, false, false, false] rfl rfl (by kernel_rfl) (fun _ _ _ h => h) (Or.inl ⟨by rfl, ?_⟩) ?_ ?_
      rotate_left
      · intro w'
        go_simp
        with_reducible rfl
      rotate_left
      · simp only [Act.put, List.setIfInBounds_toArray, List.set_cons_zero, List.set_cons_succ, i64_w, i32_w]
        rfl
      refine pure_ (i := 6) (N := some 80) (v := ?_) (a' := ?_) #[true, true, true, false, true, false, true, false, false, false, false, false, false, false, false, false, false, false, false] rfl rfl (by kernel_rfl) (fun _ _ _ h => h) (Or.inl ⟨by rfl, ?_⟩) ?_ ?_
      rotate_left
      · intro w'
        go_simp
        with_reducible rfl
      rotate_left
      · simp only [Act.put, List.setIfInBounds_toArray, List.set_cons_zero, List.set_cons_succ, i64_w, i32_w]
        rfl
      refine pure_ (i := 7) (N := some 81) (v := ?_) (a' := ?_) #[true, true, true, false, true, false, true, true, false, false, false, false, false, false, false, false, false, false, false] rfl rfl (by kernel_rfl) (fun _ _ _ h => h) (Or.inl ⟨by rfl, ?_⟩) ?_ ?_
      rotate_left
      · intro w'
        go_simp
        with_reducible rfl
      rotate_left
      · simp only [Act.put, List.setIfInBounds_toArray, List.set_cons_zero, List.set_cons_succ, i64_w, i32_w]
        rfl
      refine pure_ (i := 8) (N := some 82) (v := ?_) (a' := ?_) #[true, true, true, false, true, false, true, true, true, false, false, false, false, false, false, false, false, false, false] rfl rfl (by kernel_rfl) (fun _ _ _ h => h) (Or.inl ⟨by rfl, ?_⟩) ?_ ?_
      rotate_left
      · intro w'
        go_simp
        with_reducible rfl
      rotate_left
      · simp only [Act.put, List.setIfInBounds_toArray, List.set_cons_zero, List.set_cons_succ, i64_w, i32_w]
        rfl
      refine pure_ (i := 10) (N := some 84) (v := ?_) (a' := ?_) #[true, true, true, false, true, false, true, true, true, false, true, false, false, false, false, false, false, false, false] rfl rfl (by kernel_rfl) (fun _ _ _ h => h) (Or.inl ⟨by rfl, ?_⟩) ?_ ?_
      rotate_left
      · intro w'
        go_simp
        with_reducible rfl
      rotate_left
      · simp only [Act.put, List.setIfInBounds_toArray, List.set_cons_zero, List.set_cons_succ, i64_w, i32_w]
        rfl
      refine take_ (i := 3) (N := some 77) (v := ?_) (a' := ?_) #[true, true, true, true, true, false, true, true, true, false, true, false, false, false, false, false, false, false, false] rfl rfl (by kernel_rfl) (fun _ _ _ h => h) (Or.inl ⟨by rfl, ?_⟩) hHeld ?_ ?_
      rotate_left
      · rintro w' ⟨s0, s1, s2, s3, s4⟩
        go_simp
        with_reducible rfl
      rotate_left
      · simp only [Act.put, List.setIfInBounds_toArray, List.set_cons_zero, List.set_cons_succ, i64_w, i32_w]
        rfl
      refine take_ (i := 5) (N := some 79) (v := ?_) (a' := ?_) #[true, true, true, true, true, true, true, true, true, false, true, false, false, false, false, false, false, false, false] rfl rfl (by kernel_rfl) (fun _ _ _ h => h) (Or.inl ⟨by rfl, ?_⟩) hHeld ?_ ?_
      rotate_left
      · rintro w' ⟨s0, s1, s2, s3, s4⟩
        go_simp
        with_reducible rfl
      rotate_left
      · simp only [Act.put, List.setIfInBounds_toArray, List.set_cons_zero, List.set_cons_succ, i64_w, i32_w]
        rfl
      refine take_ (i := 9) (N := some 83) (v := ?_) (a' := ?_) #[true, true, true, true, true, true, true, true, true, true, true, false, false, false, false, false, false, false, false] rfl rfl (by kernel_rfl) (fun _ _ _ h => h) (Or.inl ⟨by rfl, ?_⟩) hHeld ?_ ?_
      rotate_left
      · rintro w' ⟨s0, s1, s2, s3, s4⟩
        go_simp
        with_reducible rfl
      rotate_left
      · simp only [Act.put, List.setIfInBounds_toArray, List.set_cons_zero, List.set_cons_succ, i64_w, i32_w]
        rfl
      refine take_ (i := 11) (N := some 85) (v := ?_) (a' := ?_) #[true, true, true, true, true, true, true, true, true, true, true, true, false, false, false, false, false, false, false] rfl rfl (by kernel_rfl) (fun _ _ _ h => h) (Or.inl ⟨by rfl, ?_⟩) hHeld ?_ ?_
      rotate_left
      · rintro w' ⟨s0, s1, s2, s3, s4⟩
        go_simp
        with_reducible rfl
      rotate_left
      · simp only [Act.put, List.setIfInBounds_toArray, List.set_cons_zero, List.set_cons_succ, i64_w, i32_w]
        rfl
      refine pure_ (i := 12) (N := some 86) (v := ?_) (a' := ?_) #[true, true, true, true, true, true, true, true, true, true, true, true, true, false, false, false, false, false, false] rfl rfl (by kernel_rfl) (fun _ _ _ h => h) (Or.inl ⟨by rfl, ?_⟩) ?_ ?_
      rotate_left
      · intro w'
        go_simp
        with_reducible rfl
      rotate_left
      · simp only [Act.put, List.setIfInBounds_toArray, List.set_cons_zero, List.set_cons_succ, i64_w, i32_w]
        rfl
      refine take_ (i := 13) (N := some 87) (v := ?_) (a' := ?_) #[true, true, true, true, true, true, true, true, true, true, true, true, true, true, false, false, false, false, false] rfl rfl (by kernel_rfl) (fun _ _ _ h => h) (Or.inl ⟨by rfl, ?_⟩) hHeld ?_ ?_
      rotate_left
      · rintro w' ⟨s0, s1, s2, s3, s4⟩
        go_simp
        with_reducible rfl
      rotate_left
      · simp only [Act.put, List.setIfInBounds_toArray, List.set_cons_zero, List.set_cons_succ, i64_w, i32_w]
        rfl
      refine take_ (i := 14) (N := some 88) (v := ?_) (a' := ?_) #[true, true, true, true, true, true, true, true, true, true, true, true, true, true, true, false, false, false, false] rfl rfl (by kernel_rfl) (fun _ _ _ h => h) (Or.inl ⟨by rfl, ?_⟩) hHeld ?_ ?_
      rotate_left
      · rintro w' ⟨s0, s1, s2, s3, s4⟩
        go_simp
        with_reducible rfl
      rotate_left
      · simp only [Act.put, List.setIfInBounds_toArray, List.set_cons_zero, List.set_cons_succ, i64_w, i32_w]
        rfl
      refine one_ (i := 15) (N := some 89) #[true, true, true, true, true, true, true, true, true, true, true, true, true, true, true, true, false, false, false] rfl rfl (by kernel_rfl) (by decide) (fun K hK => ?_)
      refine value_ (w1 := ?_) (v := ?_) (by rfl) rfl ?_ ?_
      rotate_left 2
      · go_simp
        constructor
        · rfl
        · rfl
      refine hK.out _ _ ⟨(kS.out _ ((below_drew (Below.refl W5.heap.size W5)).alloc (below_drew (Below.refl W5.heap.size W5)).size _)).1, (kS.out _ ((below_drew (Below.refl W5.heap.size W5)).alloc (below_drew (Below.refl W5.heap.size W5)).size _)).2.1, (kS.out _ ((below_drew (Below.refl W5.heap.size W5)).alloc (below_drew (Below.refl W5.heap.size W5)).size _)).2.2.1, (kS.out _ ((below_drew (Below.refl W5.heap.size W5)).alloc (below_drew (Below.refl W5.heap.size W5)).size _)).2.2.2.1, (kS.out _ ((below_drew (Below.refl W5.heap.size W5)).alloc (below_drew (Below.refl W5.heap.size W5)).size _)).2.2.2.2⟩ (fun hHeld => ?_)
      clear hK K
      refine norm_ (a' := ?_) ?_ ?_
      rotate_left
      · show Act.put _ (some 89) _ = _
        simp only [Act.put, List.setIfInBounds_toArray, List.set_cons_zero, List.set_cons_succ, i64_w, i32_w]
        rfl
      refine one_ (i := 16) (N := some 90) #[true, true, true, true, true, true, true, true, true, true, true, true, true, true, true, true, true, false, false] rfl rfl (by kernel_rfl) (by decide) (fun K hK => ?_)
      refine Kd.R_append_step k30 (w0 := w0) (W := W5.drew) base (by rfl) (.tmp 87) (.tmp 89) 40 30 _ 40 (by rfl) Try.underlying40 info30 (by rfl) (by decide) (by omega) (.slice Av (LL r).length cv) (LL r) ⟨(r : Int), f, l⟩ [.int .i64 (r : Int), .int .i64 f, .slice A9 l.length c9] (fun _ => True) (fun q => w.heap.size ≤ q) (by rfl) (by rfl) (k30_mkM W5.drew base _ ⟨(r : Int), f, l⟩ (Kd.R_drew hR5.out)) (fun q hq => ⟨trivial, fun e => by have := hvb.out q e.symm; omega⟩) (fun _ _ => trivial) (Kd.R_drew hRv.out) (below_drew (below_then HB.out hbase.out hb5.out)) (Nat.le_trans hbase.out hb5.out.size) (by have := hll.out; omega) ?_
      intro v4 w4 hR4 hB4 hg4 hat4
      obtain ⟨A4, c4, e4⟩ := Kd.R_slice hR4
      rw [List.length_append, List.length_singleton] at e4
      subst e4
      replace hR4 := Aside0.mk hR4
      replace hB4 := Aside0.mk hB4
      replace hg4 := Aside0.mk hg4
      replace hat4 := Aside0.mk hat4
      have hRne : Aside0 (some R ≠ (Value.slice Av (LL r).length cv).ownBlock) := ⟨by obtain ⟨cur, hc1, _⟩ := hh5.out.row; exact Kd.R_ne hRv.out hc1 (by decide)⟩
      have hrow4 : Aside0 (∃ cur : Array Value, w4.heap[R]? = some (.cells cur 40 (0, 0)) ∧ cur.size = k ∧ ∀ i, i < k → cur[i]? = some (vs i)) := ⟨by obtain ⟨cur, hc1, hc2, hc3⟩ := hh5.out.row; exact ⟨cur, (hg4.out.block R (blk_lt' hc1) hRne.out).trans hc1, hc2, hc3⟩⟩
      have hBv4 : Aside0 (w4.heap[B]? = some (.cells #[.slice (some ⟨R, 0, none⟩) k k] 61 (0, 0))) := ⟨(hg4.out.block B (blk_lt' hh5.out.box) (Kd.R_ne hRv.out hh5.out.box (by decide))).trans hh5.out.box⟩
      have hx4 : Aside0 (w4.heap[w.heap.size]? = some (.cells #[.int .i64 (r : Int), .int .i64 f, .slice A9 l.length c9] 30 (0, 0))) := ⟨(hg4.out.block w.heap.size (blk_lt' hx5.out) (fun e => by have := hvb.out _ e.symm; omega)).trans hx5.out⟩
      have hv4 : Aside0 (w4.cell? ⟨R, r, none⟩ = some (.slice Av (LL r).length cv)) := ⟨by obtain ⟨cur, hc1, hc2, hc3⟩ := hrow4.out; rw [← hv]; exact (blk_cell' hc1 r).trans (hc3 r hr)⟩
      refine hK.out _ _ ⟨(blk_cell' hBv4.out 0), hv4.out, (blk_cell' hx4.out 0), (blk_cell' hx4.out 1), (blk_cell' hx4.out 2)⟩ (fun hHeld => ?_)
      clear hK K
      refine norm_ (a' := ?_) ?_ ?_
      rotate_left
      · show Act.put _ (some 90) _ = _
        simp only [Act.put, List.setIfInBounds_toArray, List.set_cons_zero, List.set_cons_succ, i64_w, i32_w]
        rfl
      refine pure_ (i := 17) (N := some 91) (v := ?_) (a' := ?_) #[true, true, true, true, true, true, true, true, true, true, true, true, true, true, true, true, true, true, false] rfl rfl (by kernel_rfl) (fun _ _ _ h => h) (Or.inl ⟨by rfl, ?_⟩) ?_ ?_
      rotate_left
      · intro w'
        go_simp
        with_reducible rfl
      rotate_left
      · simp only [Act.put, List.setIfInBounds_toArray, List.set_cons_zero, List.set_cons_succ, i64_w, i32_w]
        rfl
      refine last_ (i := 18) (N := none) #[true, true, true, true, true, true, true, true, true, true, true, true, true, true, true, true, true, true, true] rfl rfl (by kernel_rfl) (by decide) (fun K hK => ?_)
      have q4 : w4.cell? ⟨R, r, none⟩ = some (vs r) := by obtain ⟨cur, hc1, hc2, hc3⟩ := hrow4.out; exact (blk_cell' hc1 r).trans (hc3 r hr)
      have f4 : w4.frozen? ⟨R, r, none⟩ = false := by obtain ⟨cur, hc1, hc2, hc3⟩ := hrow4.out; simp [World.frozen?, hc1]
      refine skip_ (w1 := ?_) (by rfl) rfl ?_ ?_
      rotate_left
      · go_simp
        rfl
      refine hK.out _ _ ?_
      clear hK K
      refine done_ (by kernel_rfl) ?_
      clear hHeld kS
      go_wp2_with fail
      go_ret
      obtain ⟨cur, hc1, hc2, hc3⟩ := hrow4.out
      have hRlt := blk_lt' hc1
      have hw5 : w.heap.size ≤ W5.heap.size := hb5.out.size
      have hRw : R < w.heap.size := h.out.lt.2
      have hBR : B ≠ R := fun e => by
        have h5 := h.out.box
        obtain ⟨cur', hc', _⟩ := h.out.row
        rw [e, hc'] at h5
        injection h5 with h5
        injection h5 with _ h5
        cases h5
      have hBv : some B ≠ (Value.slice Av (LL r).length cv).ownBlock := Kd.R_ne hRv.out hh5.out.box (by decide)
      have hBw : B < w.heap.size := h.out.lt.1
      have h40 : ∀ q, q ∈ 30 :: k30.E → q ≠ 40 := by
        intro q hq
        simp [k30, k36, k34, Kd.slice, Kd.iso, Kd.pair, Kd.int, Kd.scalar] at hq
        rcases hq with rfl | rfl <;> decide
      have hR6 : Kd.R k30 30 (w4.setCell ⟨R, r, none⟩ (.slice A4 ((LL r).length + 1) c4)) base (fun _ => True) (.slice A4 ((LL r).length + 1) c4) (LL r ++ [⟨(r : Int), f, l⟩]) := Kd.R_set hR4.out hc1 h40 r _
      have hvw : (Value.slice Av (LL r).length cv).ownBlock = (vs r).ownBlock := by rw [hv]
      refine ⟨rfl, ⟨.slice A4 ((LL r).length + 1) c4, ⟨?_, ⟨cur.setIfInBounds r (.slice A4 ((LL r).length + 1) c4), blk_set hc1 r _, by simpa using hc2, fun i hi => ?_⟩, fun i hi => ?_, fun i j hi hj hij b hb' => ?_, h.out.hb⟩, ?_⟩, hB4.out.setCell (p := ⟨R, r, none⟩) h.out.hb.2 _, fun b h1 h2 h3 => ?_, ?_⟩
      · exact (Below.heap_setCell w4 ⟨R, r, none⟩ _ B hBR).trans ((hg4.out.block B (by show B < W5.heap.size; omega) hBv).trans hh5.out.box)
      · by_cases hir : i = r
        · subst hir
          rw [if_pos rfl, Array.getElem?_setIfInBounds_self_of_lt (by omega)]
        · rw [if_neg hir, Array.getElem?_setIfInBounds_ne (fun e => hir e.symm)]
          exact hc3 i hi
      · by_cases hir : i = r
        · subst hir
          rw [if_pos rfl, if_pos rfl]
          exact hR6
        · rw [if_neg hir, if_neg hir]
          have hri := hh5.out.rows i hi
          have hty := Kd.R_typed hRv.out
          refine Kd.R_set (Kd.R_mono (Kd.R_step (R_types30 hri) (fun q hq hlt => hg4.out.block q hlt (fun e => ?_))) (fun _ _ => trivial)) hc1 h40 r _
          rcases hq.2.2.2 with h5 | ⟨cells, hcq⟩
          · exact hh5.out.apart i r hi hr hir q h5 (e.trans hvw)
          · obtain ⟨cells', hcq'⟩ := hty q e.symm
            rw [hcq] at hcq'
            injection hcq' with hcq'
            injection hcq' with _ hcq'
            cases hcq'
      · have hown : ∀ i, i < k → ∀ b, (vs i).ownBlock = some b → b < W5.heap.size := fun i hi b hb2 => ((Kd.R_bound (hh5.out.rows i hi)).1 b hb2).2.2.1
        by_cases hir : i = r
        · rw [if_pos hir] at hb'
          rw [if_neg (fun e : j = r => hij (hir.trans e.symm))]
          intro hb2
          rcases hat4.out with h5 | ⟨b3, h5, h6⟩
          · exact hh5.out.apart i j hi hj hij b (by rw [hir, ← hvw, ← h5]; exact hb') hb2
          · rw [h5] at hb'
            injection hb' with hb'
            subst hb'
            have := hown j hj b3 hb2.symm
            have h7 : W5.heap.size ≤ b3 := h6
            omega
        · rw [if_neg hir] at hb'
          intro hb2
          by_cases hjr : j = r
          · rw [if_pos hjr] at hb2
            rcases hat4.out with h5 | ⟨b3, h5, h6⟩
            · exact hh5.out.apart i j hi hj hij b hb' (by rw [hjr, ← hvw, ← h5]; exact hb2)
            · rw [h5] at hb2
              injection hb2 with hb2
              subst hb2
              have := hown i hi b hb'
              have h7 : W5.heap.size ≤ b := h6
              omega
          · rw [if_neg hjr] at hb2
            exact hh5.out.apart i j hi hj hij b hb' hb2
      · rcases hat4.out with h5 | ⟨b, h5, h6⟩
        · exact .inl (h5.trans hvw)
        · exact .inr ⟨b, h5, by have h7 : W5.heap.size ≤ b := h6; omega⟩
      · rw [Below.heap_setCell w4 ⟨R, r, none⟩ _ b h2, hg4.out.block b (by show b < W5.heap.size; omega) (fun e => h3 (e.trans hvw))]
        exact hb5.out.block b h1
      · have h5 := hg4.out.size
        have h6 : W5.heap.size ≤ w4.heap.size := h5
        simp [World.setCell]
        omega
end Go.Proofs.Ytnenhlgpkfelcaa.Box2
