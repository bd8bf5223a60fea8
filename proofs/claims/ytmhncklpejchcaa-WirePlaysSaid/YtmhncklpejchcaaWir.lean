/- The wire's kinds, and the contracts of slices.Clone and slices.Delete as it uses them. -/
import Derived.Test.YtmhncklpejchcaaPWirePlaysx1
import Derived.Lib.SliceRun
import Derived.Outline
import Derived.WalkSpells
namespace Go.Proofs.Ytmhncklpejchcaa.Wir
open Go Go.RowKit Go.Proofs.Ytmhncklpejchcaa.PWirePlays Go.Proofs.YtmhncklpejchcaaW.PrintWords Go.Proofs.YtmhncklpejchcaaW.PrintLast Go.Proofs.YtmhncklpejchcaaW.PrintMore
set_option linter.unusedVariables false
set_option linter.unusedSimpArgs false
/-- bytes; rows of bytes -/
def kb : Kd Int := Kd.int .u8
def kbs : Kd (List Int) := Kd.slice 5 kb
theorem blk_cell' {w : World} {B t : Nat} {cs : Array Value} (h : w.heap[B]? = some (.cells cs t (0, 0))) (j : Nat) : w.cell? ⟨B, j, none⟩ = cs[j]? := cell_of_row w B j cs t (0, 0) h
theorem blk_lt' {w : World} {B : Nat} {o : Obj} (h : w.heap[B]? = some o) : B < w.heap.size := (Array.getElem?_eq_some_iff.1 h).1
theorem info5 : (Try.prog.info? 5).map (fun i => (i.zero, i.size, i.bytes)) = some (some (.int .u8 0), 1, 1) := by kernel_rfl
theorem info27 : (Try.prog.info? 27).map (fun i => (i.zero, i.size, i.bytes)) = some (some (.slice none 0 0), 1, 24) := by kernel_rfl
theorem kb_KM {w : World} {base : Nat} {ok : Nat → Prop} {x : Int} {cs : List Value} (h : kb.K w x cs) : kb.M w base ok x cs := h
theorem R_empty5 (w : World) (base : Nat) (hb : base ≤ w.heap.size) : Kd.R kb 5 (w.alloc (.cells #[] 5)) base (fun _ => True) (.slice (some ⟨w.heap.size, 0, none⟩) 0 0) [] :=
  ⟨fun _ _ => trivial, [], World.ownsRow_lit w #[] 0 hb (by decide) rfl, Reps.none _ _⟩
theorem cloneNil_c (c : Nat) (w : World) : Calls Try.prog 17 #[.slice none 0 c] w fun e w' => e = .returned (.slice none 0 0) ∧ w' = w := by
  have heq := fun W => Lib.run_eql_slice_nil (P := Try.prog) W 27 5 none 0 c 0 0 Try.underlying27
  go_enter Try.func17, Try.ntmps17
  go_wp2_with fail
  go_ret
  exact ⟨rfl, rfl⟩
set_option maxHeartbeats 800000 in
/-- slices.Clone of bytes -/
theorem clone_c (A : Option Addr) (n c : Nat) (l : List Int) (w : World) (HC : Kd.C kb w A n l) (hn : n ≤ 140737488351232) :
    Calls Try.prog 17 #[.slice A n c] w fun e w' => (∃ A' c', e = .returned (.slice A' l.length c') ∧ Kd.R kb 5 w' w.heap.size (fun _ => True) (.slice A' l.length c') l) ∧ Below w.heap.size w w' := by
  have hl : l.length = n := HC.1
  rcases A with _ | ad
  · have h0 : n = 0 := by
      rcases Nat.eq_zero_or_pos n with h | h
      · exact h
      · obtain ⟨_, h, _⟩ := HC.2.2 h; cases h
    subst h0
    have hx : l = [] := List.eq_nil_of_length_eq_zero hl
    subst hx
    exact (cloneNil_c c w).mono fun e w' h => ⟨⟨none, 0, h.1, Kd.R_nil _ _ _ _ _⟩, by rw [h.2]; exact Below.refl _ _⟩
  · have heq := fun W => Lib.run_eql_slice_nil (P := Try.prog) W 27 5 (some ad) n c 0 0 Try.underlying27
    have HE := Aside0.mk (R_empty5 w w.heap.size (Nat.le_refl _))
    have HC2 := Aside0.mk (Kd.C_alloc HC (.cells #[] 5))
    have hB := Aside0.mk ((Below.refl w.heap.size w).alloc (Nat.le_refl _) (.cells #[] 5))
    replace HC := Aside0.mk HC
    replace hl := Aside0.mk hl
    go_enter Try.func17, Try.ntmps17
    go_wp2_with (first
      | ((with_reducible refine gate_dst (N := 7) rfl ?_); refine Kd.R_append_rows kb (w0 := w) w.heap.size rfl (.tmp 5) (.tmp 6) 27 5 _ 1 rfl Try.underlying27 info5 rfl (by decide) (by omega) (.slice (some ⟨w.heap.size, 0, none⟩) 0 0) [] l (some ad) n c (fun _ => True) (fun _ => False) rfl rfl HE.out HC2.out (fun _ _ h => kb_KM h) (fun _ h => h.elim) (fun _ _ => trivial) hB.out hB.out.size (by simp; omega) ?_; intro v1 w1 ho1 hb1 hg1 hat1; rw [List.nil_append] at ho1; obtain ⟨A1, c1, e1⟩ := Kd.R_slice ho1; subst e1; replace ho1 := Aside0.mk ho1; replace hb1 := Aside0.mk hb1; clear hg1 hat1)
      | fail)
    go_ret
    exact ⟨⟨A1, c1, rfl, ho1.out⟩, hb1.out⟩
theorem bytes_c (A0 : Option Addr) (c0 : Nat) (l0 : List Int) (A1 : Option Addr) (c1 : Nat) (l1 : List Int) (w : World) (hr0 : Kd.C kb w A0 l0.length l0) (hc0 : l0.length ≤ c0) (hr1 : Kd.C kb w A1 l1.length l1) (hc1 : l1.length ≤ c1) :
    Calls Try.prog 12 #[.slice A0 l0.length c0, .slice A1 l1.length c1] w fun e w' => e = .returned (.bool ((strOfNums l0).toList == (strOfNums l1).toList)) ∧ Drawn0 w w' :=
  jousthelp_Bytes.calls A0 c0 l0 A1 c1 l1 _ w hr0 hc0 hr1 hc1 rfl
end Go.Proofs.Ytmhncklpejchcaa.Wir
