/- The reference's store: Add. -/
import Derived.Test.YtnenhlgpkfelcaaRm
namespace Go.Proofs.Ytnenhlgpkfelcaa.Box2
open Go.Proofs.Ytnenhlgpkfelcaa.Box
open Go Go.RowKit Go.Maps Go.Proofs.Ytnenhlgpkfelcaa.POutboxPlays Go.Proofs.YtnenhlgpkfelcaaW.PrintWords Go.Proofs.YtnenhlgpkfelcaaW.PrintLast Go.Proofs.YtnenhlgpkfelcaaW.PrintMore
set_option linter.unusedVariables false
set_option linter.unusedSimpArgs false
set_option maxRecDepth 100000 in
set_option maxHeartbeats 4000000 in
theorem raddlow_c (r : Int) (f : Int) (A : Option Addr) (n c : Nat) (l : List S36) (B R k base : Nat) (vs : Nat → Value) (LL : Nat → List S30) (w : World) (h : Rs w B R k base vs LL) (hr : r < 0) :
    Calls Try.prog 15 #[.pointer (some ⟨B, 0, none⟩), .agg #[.int .i64 r, .int .i64 f, .slice A n c]] w fun e w' => e = .returned (.bool false) ∧ Below w.heap.size w w' := by
  have hb1 : Below w.heap.size w (w.alloc (.cells #[.int .i64 r, .int .i64 f, .slice A n c] 30)) := (Below.refl _ _).alloc (Nat.le_refl _) _
  have h1 := h.below hb1
  have e0 := heap_alloc_new w (.cells #[.int .i64 r, .int .i64 f, .slice A n c] 30)
  have q0 := h1.cells.1
  have x0 := blk_cell' e0 0
  have x1 := blk_cell' e0 1
  have x2 := blk_cell' e0 2
  simp at x0 x1 x2
  have kg := Aside0.mk (rgetOut_c r f B R k base vs LL _ h1 (by omega))
  have c1 : decide (r < 0) = true := decide_eq_true hr
  replace h1 := Aside0.mk h1
  replace e0 := Aside0.mk e0
  replace hb1 := Aside0.mk hb1
  replace h := Aside0.mk h
  go_enter Try.func15, Try.ntmps15
  go_wp2_with (first
    | (go_at_call 18; (with_reducible refine kg.out.mono ?_); rintro e w' ⟨rfl, hw⟩; subst w')
    | fail)
  go_quiet (fail)
  go_wp2_with fail
  go_ret
  exact ⟨rfl, pw_below_drewN hb1.out nq⟩
set_option maxRecDepth 100000 in
set_option maxHeartbeats 4000000 in
theorem raddhigh_c (r : Int) (f : Int) (A : Option Addr) (n c : Nat) (l : List S36) (B R k base : Nat) (vs : Nat → Value) (LL : Nat → List S30) (w : World) (h : Rs w B R k base vs LL) (hr0 : 0 ≤ r) (hr : (k : Int) ≤ r) :
    Calls Try.prog 15 #[.pointer (some ⟨B, 0, none⟩), .agg #[.int .i64 r, .int .i64 f, .slice A n c]] w fun e w' => e = .returned (.bool false) ∧ Below w.heap.size w w' := by
  have hb1 : Below w.heap.size w (w.alloc (.cells #[.int .i64 r, .int .i64 f, .slice A n c] 30)) := (Below.refl _ _).alloc (Nat.le_refl _) _
  have h1 := h.below hb1
  have e0 := heap_alloc_new w (.cells #[.int .i64 r, .int .i64 f, .slice A n c] 30)
  have q0 := h1.cells.1
  have x0 := blk_cell' e0 0
  have x1 := blk_cell' e0 1
  have x2 := blk_cell' e0 2
  simp at x0 x1 x2
  have kg := Aside0.mk (rgetOut_c r f B R k base vs LL _ h1 (by omega))
  have c1 : decide (r < 0) = false := decide_eq_false (by omega)
  have c1b : ¬ (r < 0) := by omega
  have c2 : decide ((k : Int) ≤ r) = true := decide_eq_true hr
  replace h1 := Aside0.mk h1
  replace e0 := Aside0.mk e0
  replace hb1 := Aside0.mk hb1
  replace h := Aside0.mk h
  go_enter Try.func15, Try.ntmps15
  go_wp2_with (first
    | (go_at_call 18; (with_reducible refine kg.out.mono ?_); rintro e w' ⟨rfl, hw⟩; subst w')
    | fail)
  go_quiet (fail)
  go_wp2_with fail
  go_ret
  exact ⟨rfl, pw_below_drewN hb1.out nq⟩
set_option maxRecDepth 100000 in
set_option maxHeartbeats 4000000 in
theorem raddThere_c (r : Nat) (f : Int) (A : Option Addr) (n c : Nat) (l : List S36) (B R k base : Nat) (vs : Nat → Value) (LL : Nat → List S30) (w : World) (h : Rs w B R k base vs LL) (hr : r < k) (hn : (LL r).length ≤ 1000) (hs : ∀ o ∈ LL r, o.f2.length ≤ 1000) (hlk : (look (LL r) f).isSome = true) :
    Calls Try.prog 15 #[.pointer (some ⟨B, 0, none⟩), .agg #[.int .i64 (r : Int), .int .i64 f, .slice A n c]] w fun e w' => e = .returned (.bool false) ∧ Below w.heap.size w w' := by
  have hb1 : Below w.heap.size w (w.alloc (.cells #[.int .i64 (r : Int), .int .i64 f, .slice A n c] 30)) := (Below.refl _ _).alloc (Nat.le_refl _) _
  have h1 := h.below hb1
  have e0 := heap_alloc_new w (.cells #[.int .i64 (r : Int), .int .i64 f, .slice A n c] 30)
  have q0 := h1.cells.1
  have x0 := blk_cell' e0 0
  have x1 := blk_cell' e0 1
  have x2 := blk_cell' e0 2
  simp at x0 x1 x2
  have k1 := rget_c r f B R k base vs LL _ h1 hr hn hs
  unfold Got at k1
  rw [hlk] at k1
  replace k1 := Aside0.mk k1
  have c1 : decide ((r : Int) < 0) = false := decide_eq_false (by omega)
  have c1b : ¬ ((r : Int) < 0) := by omega
  have c2 : decide ((k : Int) ≤ (r : Int)) = false := decide_eq_false (by omega)
  have c2b : ¬ ((k : Int) ≤ (r : Int)) := by omega
  have c2c : ¬ (k ≤ r) := by omega
  have c2d : decide (k ≤ r) = false := decide_eq_false c2c
  replace hs := Aside0.mk hs
  replace h1 := Aside0.mk h1
  replace e0 := Aside0.mk e0
  replace hb1 := Aside0.mk hb1
  replace h := Aside0.mk h
  go_enter Try.func15, Try.ntmps15
  go_wp2_with (first
    | (go_at_call 18; (with_reducible refine k1.out.mono ?_); rintro e w3 ⟨⟨A3, c3, rfl, _⟩, hb3⟩; have hx3 := (hb3.block _ (blk_lt' e0.out)).trans e0.out; have y0 := blk_cell' hx3 0; have y1 := blk_cell' hx3 1; have y2 := blk_cell' hx3 2; simp at y0 y1 y2; have h3 := h1.out.below hb3; have p0 := h3.cells.1; replace h3 := Aside0.mk h3; replace hx3 := Aside0.mk hx3; replace hb3 := Aside0.mk (below_then hb1.out hb1.out.size hb3))
    | fail)
  go_quiet (fail)
  go_wp2_with fail
  go_ret
  exact ⟨rfl, pw_below_drewN hb3.out nq⟩
set_option maxRecDepth 100000 in
set_option maxHeartbeats 4000000 in
theorem raddNeg_c (r : Nat) (f : Int) (A : Option Addr) (n c : Nat) (l : List S36) (B R k base : Nat) (vs : Nat → Value) (LL : Nat → List S30) (w : World) (h : Rs w B R k base vs LL) (hr : r < k) (hn : (LL r).length ≤ 1000) (hs : ∀ o ∈ LL r, o.f2.length ≤ 1000) (hlk : (look (LL r) f).isSome = false) (hf : f < 0) :
    Calls Try.prog 15 #[.pointer (some ⟨B, 0, none⟩), .agg #[.int .i64 (r : Int), .int .i64 f, .slice A n c]] w fun e w' => e = .returned (.bool false) ∧ Below w.heap.size w w' := by
  have hb1 : Below w.heap.size w (w.alloc (.cells #[.int .i64 (r : Int), .int .i64 f, .slice A n c] 30)) := (Below.refl _ _).alloc (Nat.le_refl _) _
  have h1 := h.below hb1
  have e0 := heap_alloc_new w (.cells #[.int .i64 (r : Int), .int .i64 f, .slice A n c] 30)
  have q0 := h1.cells.1
  have x0 := blk_cell' e0 0
  have x1 := blk_cell' e0 1
  have x2 := blk_cell' e0 2
  simp at x0 x1 x2
  have k1 := rget_c r f B R k base vs LL _ h1 hr hn hs
  unfold Got at k1
  rw [hlk] at k1
  replace k1 := Aside0.mk k1
  have c1 : decide ((r : Int) < 0) = false := decide_eq_false (by omega)
  have c1b : ¬ ((r : Int) < 0) := by omega
  have c2 : decide ((k : Int) ≤ (r : Int)) = false := decide_eq_false (by omega)
  have c2b : ¬ ((k : Int) ≤ (r : Int)) := by omega
  have c2c : ¬ (k ≤ r) := by omega
  have c2d : decide (k ≤ r) = false := decide_eq_false c2c
  replace hs := Aside0.mk hs
  have d1 : decide (f < 0) = true := decide_eq_true hf
  replace h1 := Aside0.mk h1
  replace e0 := Aside0.mk e0
  replace hb1 := Aside0.mk hb1
  replace h := Aside0.mk h
  go_enter Try.func15, Try.ntmps15
  go_wp2_with (first
    | (go_at_call 18; (with_reducible refine k1.out.mono ?_); rintro e w3 ⟨⟨A3, c3, rfl, _⟩, hb3⟩; have hx3 := (hb3.block _ (blk_lt' e0.out)).trans e0.out; have y0 := blk_cell' hx3 0; have y1 := blk_cell' hx3 1; have y2 := blk_cell' hx3 2; simp at y0 y1 y2; have h3 := h1.out.below hb3; have p0 := h3.cells.1; replace h3 := Aside0.mk h3; replace hx3 := Aside0.mk hx3; replace hb3 := Aside0.mk (below_then hb1.out hb1.out.size hb3))
    | fail)
  go_quiet (fail)
  go_wp2_with fail
  go_ret
  exact ⟨rfl, pw_below_drewN hb3.out nq⟩
set_option maxRecDepth 100000 in
set_option maxHeartbeats 4000000 in
theorem raddBig_c (r : Nat) (f : Int) (A : Option Addr) (n c : Nat) (l : List S36) (B R k base : Nat) (vs : Nat → Value) (LL : Nat → List S30) (w : World) (h : Rs w B R k base vs LL) (hr : r < k) (hn : (LL r).length ≤ 1000) (hs : ∀ o ∈ LL r, o.f2.length ≤ 1000) (hlk : (look (LL r) f).isSome = false) (hf : 10000 ≤ f) :
    Calls Try.prog 15 #[.pointer (some ⟨B, 0, none⟩), .agg #[.int .i64 (r : Int), .int .i64 f, .slice A n c]] w fun e w' => e = .returned (.bool false) ∧ Below w.heap.size w w' := by
  have hb1 : Below w.heap.size w (w.alloc (.cells #[.int .i64 (r : Int), .int .i64 f, .slice A n c] 30)) := (Below.refl _ _).alloc (Nat.le_refl _) _
  have h1 := h.below hb1
  have e0 := heap_alloc_new w (.cells #[.int .i64 (r : Int), .int .i64 f, .slice A n c] 30)
  have q0 := h1.cells.1
  have x0 := blk_cell' e0 0
  have x1 := blk_cell' e0 1
  have x2 := blk_cell' e0 2
  simp at x0 x1 x2
  have k1 := rget_c r f B R k base vs LL _ h1 hr hn hs
  unfold Got at k1
  rw [hlk] at k1
  replace k1 := Aside0.mk k1
  have c1 : decide ((r : Int) < 0) = false := decide_eq_false (by omega)
  have c1b : ¬ ((r : Int) < 0) := by omega
  have c2 : decide ((k : Int) ≤ (r : Int)) = false := decide_eq_false (by omega)
  have c2b : ¬ ((k : Int) ≤ (r : Int)) := by omega
  have c2c : ¬ (k ≤ r) := by omega
  have c2d : decide (k ≤ r) = false := decide_eq_false c2c
  replace hs := Aside0.mk hs
  have d1 : decide (f < 0) = false := decide_eq_false (by omega)
  have d1b : ¬ (f < 0) := by omega
  have d2 : decide (10000 ≤ f) = true := decide_eq_true hf
  replace h1 := Aside0.mk h1
  replace e0 := Aside0.mk e0
  replace hb1 := Aside0.mk hb1
  replace h := Aside0.mk h
  go_enter Try.func15, Try.ntmps15
  go_wp2_with (first
    | (go_at_call 18; (with_reducible refine k1.out.mono ?_); rintro e w3 ⟨⟨A3, c3, rfl, _⟩, hb3⟩; have hx3 := (hb3.block _ (blk_lt' e0.out)).trans e0.out; have y0 := blk_cell' hx3 0; have y1 := blk_cell' hx3 1; have y2 := blk_cell' hx3 2; simp at y0 y1 y2; have h3 := h1.out.below hb3; have p0 := h3.cells.1; replace h3 := Aside0.mk h3; replace hx3 := Aside0.mk hx3; replace hb3 := Aside0.mk (below_then hb1.out hb1.out.size hb3))
    | fail)
  go_quiet (fail)
  go_wp2_with fail
  go_ret
  exact ⟨rfl, pw_below_drewN hb3.out nq⟩
end Go.Proofs.Ytnenhlgpkfelcaa.Box2
