/- The ring's kinds, and the contracts of slices.Clone over entities. -/
import Derived.Test.YtompkbganljbkaaPRingPlaysx0
import Derived.Test.YtompkbganljbkaaWLast
import Derived.Lib.SliceRun
import Derived.Outline
import Derived.WalkSpells
namespace Go.Proofs.Ytompkbganljbkaa.Rin
open Go Go.RowKit Go.Proofs.Ytompkbganljbkaa.PRingPlays Go.Proofs.YtompkbganljbkaaW.PrintWords Go.Proofs.YtompkbganljbkaaW.PrintLast Go.Proofs.YtompkbganljbkaaW.PrintMore
set_option linter.unusedVariables false
set_option linter.unusedSimpArgs false
theorem blk_cell' {w : World} {B t : Nat} {cs : Array Value} (h : w.heap[B]? = some (.cells cs t (0, 0))) (j : Nat) : w.cell? ⟨B, j, none⟩ = cs[j]? := cell_of_row w B j cs t (0, 0) h
theorem blk_lt' {w : World} {B : Nat} {o : Obj} (h : w.heap[B]? = some o) : B < w.heap.size := (Array.getElem?_eq_some_iff.1 h).1
theorem info36 : (Try.prog.info? 36).map (fun i => (i.zero, i.size, i.bytes)) = some (some (.agg #[.int .i64 0, .int .i64 0, .int .i64 0, .int .i64 0, .int .i64 0, .int .i64 0, .int .i64 0, .int .i64 0, .int .i64 0]), 9, 72) := by kernel_rfl
theorem info29 : (Try.prog.info? 29).map (fun i => (i.zero, i.size, i.bytes)) = some (some (.agg #[.int .i64 0, .slice none 0 0]), 2, 32) := by kernel_rfl
theorem K_M36 {w : World} {base : Nat} {ok : Nat → Prop} {x : S36} {cs : List Value} (h : k36.K w x cs) : k36.M w base ok x cs := by
  obtain rfl := k36_open h
  exact k36_mkM w base ok x
theorem R_empty36 (w : World) (base : Nat) (hb : base ≤ w.heap.size) : Kd.R k36 36 (w.alloc (.cells #[] 36)) base (fun _ => True) (.slice (some ⟨w.heap.size, 0, none⟩) 0 0) [] :=
  ⟨fun _ _ => trivial, [], World.ownsRow_lit w #[] 0 hb (by decide) rfl, Reps.none _ _⟩
theorem cloneNil_c (c : Nat) (w : World) : Calls Try.prog 35 #[.slice none 0 c] w fun e w' => e = .returned (.slice none 0 0) ∧ w' = w := by
  have heq := fun W => Lib.run_eql_slice_nil (P := Try.prog) W 27 36 none 0 c 0 0 Try.underlying27
  go_enter Try.func35, Try.ntmps35
  go_wp2_with fail
  go_ret
  exact ⟨rfl, rfl⟩
set_option maxHeartbeats 800000 in
/-- slices.Clone of entities -/
theorem clone_c (A : Option Addr) (n c : Nat) (l : List S36) (w : World) (HC : Kd.C k36 w A n l) (hn : n ≤ 100000) :
    Calls Try.prog 35 #[.slice A n c] w fun e w' => (∃ A' c', e = .returned (.slice A' l.length c') ∧ Kd.R k36 36 w' w.heap.size (fun _ => True) (.slice A' l.length c') l) ∧ Below w.heap.size w w' := by
  have hl : l.length = n := HC.1
  rcases A with _ | ad
  · have h0 : n = 0 := by
      rcases Nat.eq_zero_or_pos n with h | h
      · exact h
      · obtain ⟨_, h, _⟩ := HC.2.2 h; cases h
    subst h0
    have hx : l = [] := List.eq_nil_of_length_eq_zero hl
    subst hx
    exact (cloneNil_c c w).mono fun e w' h => ⟨⟨none, 0, h.1, Kd.R_nil _ _ _ _ _⟩, by rw [h.2]; exact Below.refl _ _⟩
  · have heq := fun W => Lib.run_eql_slice_nil (P := Try.prog) W 27 36 (some ad) n c 0 0 Try.underlying27
    have HE := Aside0.mk (R_empty36 w w.heap.size (Nat.le_refl _))
    have HC2 := Aside0.mk (Kd.C_alloc HC (.cells #[] 36))
    have hB := Aside0.mk ((Below.refl w.heap.size w).alloc (Nat.le_refl _) (.cells #[] 36))
    replace HC := Aside0.mk HC
    replace hl := Aside0.mk hl
    go_enter Try.func35, Try.ntmps35
    go_wp2_with (first
      | ((with_reducible refine gate_dst (N := 7) rfl ?_); refine Kd.R_append_rows k36 (w0 := w) w.heap.size rfl (.tmp 5) (.tmp 6) 27 36 _ 72 rfl Try.underlying27 info36 rfl (by decide) (by omega) (.slice (some ⟨w.heap.size, 0, none⟩) 0 0) [] l (some ad) n c (fun _ => True) (fun _ => False) rfl rfl HE.out HC2.out (fun _ _ h => K_M36 h) (fun _ h => h.elim) (fun _ _ => trivial) hB.out hB.out.size (by simp; omega) ?_; intro v1 w1 ho1 hb1 hg1 hat1; rw [List.nil_append] at ho1; obtain ⟨A1, c1, e1⟩ := Kd.R_slice ho1; subst e1; replace ho1 := Aside0.mk ho1; replace hb1 := Aside0.mk hb1; clear hg1 hat1)
      | fail)
    go_ret
    exact ⟨⟨A1, c1, rfl, ho1.out⟩, hb1.out⟩
/-- own -/
theorem own_c (f : Int) (A : Option Addr) (n c : Nat) (l : List S36) (w : World) (HC : Kd.C k36 w A n l) (hn : n ≤ 100000) :
    Calls Try.prog 24 #[.agg #[.int .i64 f, .slice A n c]] w fun e w' => (∃ A' c', e = .returned (.agg #[.int .i64 f, .slice A' l.length c']) ∧ Kd.R k36 36 w' w.heap.size (fun _ => True) (.slice A' l.length c') l) ∧ Below w.heap.size w w' := by
  have kc := Aside0.mk (fun W hC => clone_c A n c l W hC hn)
  replace HC := Aside0.mk HC
  go_enter Try.func24, Try.ntmps24
  have e0 : ((w.alloc (.cells #[.int .i64 f, .slice A n c] 29)).alloc (.cells #[.int .i64 0, .slice none 0 0] 29)).heap[w.heap.size]? = some (.cells #[.int .i64 f, .slice A n c] 29 (0, 0)) := (Below.heap_alloc _ _ _ (by simp)).trans (heap_alloc_new _ _)
  have e1 : ((w.alloc (.cells #[.int .i64 f, .slice A n c] 29)).alloc (.cells #[.int .i64 0, .slice none 0 0] 29)).heap[w.heap.size + 1]? = some (.cells #[.int .i64 0, .slice none 0 0] 29 (0, 0)) := by
    have h := heap_alloc_new (w.alloc (.cells #[.int .i64 f, .slice A n c] 29)) (.cells #[.int .i64 0, .slice none 0 0] 29)
    rw [show (w.alloc (.cells #[.int .i64 f, .slice A n c] 29)).heap.size = w.heap.size + 1 by simp] at h
    exact h
  replace e0 := Aside0.mk e0
  replace e1 := Aside0.mk e1
  have hB2 := Aside0.mk (((Below.refl w.heap.size w).alloc (Nat.le_refl _) (.cells #[.int .i64 f, .slice A n c] 29)).alloc (by simp) (.cells #[.int .i64 0, .slice none 0 0] 29))
  have hC2 := Aside0.mk (Kd.C_below HC.out hB2.out)
  go_wp2_with (first
    | (go_at_call 35; (with_reducible refine (kc.out _ hC2.out).mono ?_); rintro e w1 ⟨⟨A', c', rfl, hR⟩, hb⟩; have x0 := (hb.block _ (blk_lt' e0.out)).trans e0.out; have x1 := (hb.block _ (blk_lt' e1.out)).trans e1.out; have q0 := blk_cell' x0 0; have q1 := blk_cell' x0 1; have q2 := blk_cell' x1 0; have q3 := blk_cell' x1 1; have f0 : ∀ j, w1.frozen? ⟨w.heap.size, j, none⟩ = false := (fun j => by simp [World.frozen?, x0]); have f1 : ∀ j, w1.frozen? ⟨w.heap.size + 1, j, none⟩ = false := (fun j => by simp [World.frozen?, x1]); simp at q0 q1 q2 q3; replace hR := Aside0.mk hR; replace hb := Aside0.mk hb; replace x0 := Aside0.mk x0; replace x1 := Aside0.mk x1)
    | fail)
  have x2 : (((w1.setCell ⟨w.heap.size, 1, none⟩ (.slice A' l.length c')).setCell ⟨w.heap.size + 1, 0, none⟩ (.int .i64 f)).setCell ⟨w.heap.size + 1, 1, none⟩ (.slice A' l.length c')).heap[w.heap.size + 1]? = some (.cells #[.int .i64 f, .slice A' l.length c'] 29 (0, 0)) := by
    have h := blk_set (blk_set (blk_far x1.out (p := ⟨w.heap.size, 1, none⟩) (by show w.heap.size + 1 ≠ w.heap.size; omega) (.slice A' l.length c')) 0 (.int .i64 f)) 1 (.slice A' l.length c')
    simpa using h
  refine bodyPost_ret (results_single (r := .cell 2 29) rfl (.cell (w.heap.size + 1) 29 #[.int .i64 f, .slice A' l.length c'] (0, 0) _ rfl x2 Try.underlying29 rfl (by kernel_rfl) .nil)) rfl ?_
  have hz2 : ((w.alloc (.cells #[.int .i64 f, .slice A n c] 29)).alloc (.cells #[.int .i64 0, .slice none 0 0] 29)).heap.size = w.heap.size + 1 + 1 := by simp
  refine ⟨⟨A', c', rfl, ?_⟩, ((below_then hB2.out hB2.out.size hb.out).setCell (p := ⟨w.heap.size, 1, none⟩) (Nat.le_refl _) _ |>.setCell (p := ⟨w.heap.size + 1, 0, none⟩) (Nat.le_succ _) _).setCell (p := ⟨w.heap.size + 1, 1, none⟩) (Nat.le_succ _) _⟩
  have far : ∀ (W : World) (p : Addr) (u : Value), p.block < w.heap.size + 1 + 1 → Kd.R k36 36 W (w.heap.size + 1 + 1) (fun _ => True) (.slice A' l.length c') l → Kd.R k36 36 (W.setCell p u) (w.heap.size + 1 + 1) (fun _ => True) (.slice A' l.length c') l := fun W p u hp h => Kd.R_mono (Kd.R_far (Kd.R_bound h) (fun k hk => by have := hk.2.1; omega) u) (fun _ _ => trivial)
  have hR0 := hR.out
  rw [hz2] at hR0
  exact Kd.R_lower (far _ _ _ (by show w.heap.size + 1 < _; omega) (far _ _ _ (by show w.heap.size + 1 < _; omega) (far _ _ _ (by show w.heap.size < _; omega) hR0))) (by omega)
end Go.Proofs.Ytompkbganljbkaa.Rin
