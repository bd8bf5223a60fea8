/- The reference's store: Add. -/
import Derived.Test.YtnenhlgpkfelcaaRaddA
namespace Go.Proofs.Ytnenhlgpkfelcaa.Box2
open Go.Proofs.Ytnenhlgpkfelcaa.Box
open Go Go.RowKit Go.Maps Go.Proofs.Ytnenhlgpkfelcaa.POutboxPlays Go.Proofs.YtnenhlgpkfelcaaW.PrintWords Go.Proofs.YtnenhlgpkfelcaaW.PrintLast Go.Proofs.YtnenhlgpkfelcaaW.PrintMore
set_option linter.unusedVariables false
set_option linter.unusedSimpArgs false
set_option maxRecDepth 100000 in
set_option maxHeartbeats 4000000 in
theorem raddBad_c (r : Nat) (f : Int) (A : Option Addr) (n c : Nat) (l : List S36) (B R k base : Nat) (vs : Nat → Value) (LL : Nat → List S30) (w : World) (h : Rs w B R k base vs LL) (hr : r < k) (hn : (LL r).length ≤ 1000) (hs : ∀ o ∈ LL r, o.f2.length ≤ 1000) (hlk : (look (LL r) f).isSome = false) (f0 : 0 ≤ f) (f1 : f < 10000) (HC : Kd.C k36 w A n l) (hnl : n ≤ 1000) (hbad : l.any (badP r f) = true) :
    Calls Try.prog 15 #[.pointer (some ⟨B, 0, none⟩), .agg #[.int .i64 (r : Int), .int .i64 f, .slice A n c]] w fun e w' => e = .returned (.bool false) ∧ Below w.heap.size w w' := by
  have hb1 : Below w.heap.size w (w.alloc (.cells #[.int .i64 (r : Int), .int .i64 f, .slice A n c] 30)) := (Below.refl _ _).alloc (Nat.le_refl _) _
  have h1 := h.below hb1
  have e0 := heap_alloc_new w (.cells #[.int .i64 (r : Int), .int .i64 f, .slice A n c] 30)
  have q0 := h1.cells.1
  have x0 := blk_cell' e0 0
  have x1 := blk_cell' e0 1
  have x2 := blk_cell' e0 2
  simp at x0 x1 x2
  have k1 := rget_c r f B R k base vs LL _ h1 hr hn hs
  unfold Got at k1
  rw [hlk] at k1
  replace k1 := Aside0.mk k1
  have c1 : decide ((r : Int) < 0) = false := decide_eq_false (by omega)
  have c1b : ¬ ((r : Int) < 0) := by omega
  have c2 : decide ((k : Int) ≤ (r : Int)) = false := decide_eq_false (by omega)
  have c2b : ¬ ((k : Int) ≤ (r : Int)) := by omega
  have c2c : ¬ (k ≤ r) := by omega
  have c2d : decide (k ≤ r) = false := decide_eq_false c2c
  replace hs := Aside0.mk hs
  have d1 : decide (f < 0) = false := decide_eq_false (by omega)
  have d1b : ¬ (f < 0) := by omega
  have d2 : decide (10000 ≤ f) = false := decide_eq_false (by omega)
  have d2b : ¬ (10000 ≤ f) := by omega
  have hl : l.length = n := HC.1
  replace HC := Aside0.mk HC
  replace hl := Aside0.mk hl
  have hbd := Aside0.mk hbad
  clear hbad
  replace h1 := Aside0.mk h1
  replace e0 := Aside0.mk e0
  replace hb1 := Aside0.mk hb1
  replace h := Aside0.mk h
  go_enter Try.func15, Try.ntmps15
  go_wp2_with (first
    | (go_at_call 18; (with_reducible refine k1.out.mono ?_); rintro e w3 ⟨⟨A3, c3, rfl, _⟩, hb3⟩; have hx3 := (hb3.block _ (blk_lt' e0.out)).trans e0.out; have y0 := blk_cell' hx3 0; have y1 := blk_cell' hx3 1; have y2 := blk_cell' hx3 2; simp at y0 y1 y2; have h3 := h1.out.below hb3; have p0 := h3.cells.1; replace h3 := Aside0.mk h3; replace hx3 := Aside0.mk hx3; replace hb3 := Aside0.mk (below_then hb1.out hb1.out.size hb3))
    | fail)
  go_quiet (fail)
  have hb4 := Aside0.mk (pw_below_drewN hb3.out nq)
  have hx4 : Aside0 ((w3.drewN nq).heap[w.heap.size]? = some (.cells #[.int .i64 (r : Int), .int .i64 f, .slice A n c] 30 (0, 0))) := ⟨hx3.out⟩
  clear y0 y1 y2 p0 q0 x0 x1 x2
  go_wp2_with fail
  go_loopw [7] (fun i wr => ∃ j : Nat, j ≤ n ∧ i = .int .i64 j ∧ Aside0 (Below w.heap.size w wr) ∧ Aside0 (wr.heap[w.heap.size]? = some (.cells #[.int .i64 (r : Int), .int .i64 f, .slice A n c] 30 (0, 0))) ∧ Aside0 ((l.take j).any (badP r f) = false)) (fun i _ => n - (intOf i).toNat)
  case atStart => exact ⟨0, Nat.zero_le _, rfl, hb4, hx4, ⟨by simp⟩⟩
  case round =>
    clear hb3 hx3 h3 hb4 hx4
    obtain ⟨j, hj, rfl, hb, hx, hno⟩ := hrel
    have y0 := blk_cell' hx.out 0
    have y1 := blk_cell' hx.out 1
    have y2 := blk_cell' hx.out 2
    simp at y0 y1 y2
    by_cases hjn : j < n
    · obtain ⟨ad, e1, x0, x1, x2, x3, x4, x5, x6, x7, x8, x9, x10, x11, x12, x13, x14⟩ := at_T36 (Kd.C_below HC.out hb.out) (j : Int) (by omega) (by omega)
      subst e1
      rw [Int.toNat_natCast] at x1 x3
      have hlk' : j < l.length := by rw [hl.out]; exact hjn
      have hrd : rd_T36 l (j : Int) = l[j] := by simp [rd_T36, List.getD_eq_getElem?_getD, List.getElem?_eq_getElem hlk']
      have htk : (l.take (j + 1)).any (badP r f) = badP r f l[j] := by
        rw [List.take_succ_eq_append_getElem hlk', List.any_append, hno.out]
        simp
      have hmem : l[j] ∈ l := List.getElem_mem hlk'
      rw [hrd] at x1 x3
      clear x0 x2 x4 x5 x6 x7 x8 x9 x10 x11 x12 x13 x14 hrd
      generalize l[j] = p at *
      have z0 : (0 : Int) ≤ (j : Int) := by omega
      have z1 : (j : Int) < (n : Int) := by omega
      rcases (by
        cases hb1 : (p.f1 == (r : Int)) with
        | true => cases hb2 : (p.f3 == f) with
          | true => exact .inr ⟨beq_iff_eq.1 hb1, beq_iff_eq.1 hb2⟩
          | false => exact .inl (.inr ⟨beq_iff_eq.1 hb1, beq_eq_false_iff_ne.1 hb2⟩)
        | false => exact .inl (.inl (beq_eq_false_iff_ne.1 hb1)) : (p.f1 ≠ (r : Int) ∨ (p.f1 = (r : Int) ∧ p.f3 ≠ f)) ∨ (p.f1 = (r : Int) ∧ p.f3 = f)) with (h1' | ⟨h1', h2'⟩) | ⟨h1', h2'⟩
      · have g1 : (p.f1 != (r : Int)) = true := bne_iff_ne.2 h1'
        replace hmem := Aside0.mk hmem
        replace htk := Aside0.mk htk
        go_wp2_with fail
        go_quiet (fail)
        go_wp2_with fail
        go_ret
        exact ⟨rfl, pw_below_drewN hb.out nq⟩
      · rw [h1'] at x1
        have g1 : (p.f3 != f) = true := bne_iff_ne.2 h2'
        replace hmem := Aside0.mk hmem
        replace htk := Aside0.mk htk
        clear h1'
        go_wp2_with fail
        go_quiet (fail)
        go_wp2_with fail
        go_ret
        exact ⟨rfl, pw_below_drewN hb.out nq⟩
      · have hgood : badP r f p = false := by simp [badP, h1', h2']
        rw [hgood] at htk
        rw [h1'] at x1
        rw [h2'] at x3
        have g1 : (((r : Int) != (r : Int)) = false) := by simp
        replace htk := Aside0.mk htk
        clear hgood h1' h2'
        replace hmem := Aside0.mk hmem
        go_wp2_with fail
        go_quiet (fail)
        have hb5 := Aside0.mk (pw_below_drewN hb.out nq)
        have hx5 : Aside0 ((wr.drewN nq).heap[w.heap.size]? = some (.cells #[.int .i64 (r : Int), .int .i64 f, .slice (some ad) n c] 30 (0, 0))) := ⟨hx.out⟩
        go_wp2_with fail
        go_roundw
        case rel => exact ⟨j + 1, by omega, by go_num, hb5, hx5, htk⟩
        case measure => simp [intOf]; omega
    · obtain rfl : j = n := by omega
      exfalso
      have h5 := hno.out
      rw [List.take_of_length_le (by rw [hl.out]; omega), hbd.out] at h5
      cases h5
end Go.Proofs.Ytnenhlgpkfelcaa.Box2
