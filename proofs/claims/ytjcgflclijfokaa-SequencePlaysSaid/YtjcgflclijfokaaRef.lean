/- Contracts of the reference's Window (joustref20): Take and Seen, on a window that lies in one block, its list in a row of the call's own. -/
import Derived.Test.YtjcgflclijfokaaOnceWalk
namespace Go.Proofs.Ytjcgflclijfokaa.Ref
open Go.RowKit Go.Proofs.Ytjcgflclijfokaa.PSequencePlays Go.Proofs.YtjcgflclijfokaaW.PrintWords Go.Proofs.YtjcgflclijfokaaW.PrintLast Go.Proofs.YtjcgflclijfokaaW.PrintMore
open Go.Proofs.Ytjcgflclijfokaa.Win Go.Proofs.Ytjcgflclijfokaa.Far Go.Proofs.Ytjcgflclijfokaa.Once
set_option linter.unusedVariables false

/-- the reference's window in memory -/
structure Ref (w : World) (base R : Nat) (x : Int) (A : Option Addr) (c : Nat) (tk : List Int) : Prop where
  hb : w.heap[R]? = some (.cells #[.int .i64 x, .slice A tk.length c] 32 (0, 0))
  hr : Kd.R (Kd.int .i64) 3 w base (fun _ => True) (.slice A tk.length c) tk

theorem ty {t : Nat} (ht : 3 ≠ t) : ∀ q, q ∈ 3 :: (Kd.int .i64).E → q ≠ t := by
  intro q hq
  rcases List.mem_cons.1 hq with e | e
  · subst e; exact ht
  · cases e

theorem R_other {W W' : World} {base B t : Nat} {cs : Array Value} {v : Value} {xs : List Int} (h : Kd.R (Kd.int .i64) 3 W base (fun _ => True) v xs) (hb : W.heap[B]? = some (.cells cs t (0, 0))) (ht : 3 ≠ t) (hg : W.grownBy W' (some B)) :
    Kd.R (Kd.int .i64) 3 W' base (fun _ => True) v xs :=
  Kd.R_mono (Kd.R_grown (Kd.R_types h hb (fun q hq => by
    rcases List.mem_cons.1 hq with e | e
    · subst e; exact ht
    · cases e)) hg (fun k hk e => hk.2 (by injection e))) (fun _ _ => trivial)

section
variable {w w' : World} {base R : Nat} {x : Int} {A : Option Addr} {c : Nat} {tk : List Int}
theorem Ref.c0 (h : Ref w base R x A c tk) : w.cell? ⟨R, 0, none⟩ = some (.int .i64 x) := by rw [cell_of_row w R 0 _ 32 (0, 0) h.hb]; rfl
theorem Ref.c1 (h : Ref w base R x A c tk) : w.cell? ⟨R, 1, none⟩ = some (.slice A tk.length c) := by rw [cell_of_row w R 1 _ 32 (0, 0) h.hb]; rfl
theorem Ref.f (h : Ref w base R x A c tk) (j : Nat) : w.frozen? ⟨R, j, none⟩ = false := by have := h.hb; simp [World.frozen?, this]
theorem Ref.lt (h : Ref w base R x A c tk) : R < w.heap.size := (Array.getElem?_eq_some_iff.1 h.hb).1
theorem Ref.below (h : Ref w base R x A c tk) (hb : Below w.heap.size w w') : Ref w' base R x A c tk := ⟨(hb.block R h.lt).trans h.hb, Kd.R_below h.hr hb⟩
theorem Ref.drewN (h : Ref w base R x A c tk) (n : Nat) : Ref (w.drewN n) base R x A c tk := ⟨h.hb, Kd.R_drewN h.hr n⟩
theorem Ref.other {B t : Nat} {cs : Array Value} (h : Ref w base R x A c tk) (hB : w.heap[B]? = some (.cells cs t (0, 0))) (ht : 3 ≠ t) (hne : B ≠ R) (hg : w.grownBy w' (some B)) : Ref w' base R x A c tk :=
  ⟨(hg.block R h.lt (fun e => hne (by injection e with e; exact e.symm))).trans h.hb, R_other h.hr hB ht hg⟩
theorem Ref.reads (h : Ref w base R x A c tk) : Kd.C (Kd.int .i64) w A tk.length tk := (Kd.R_reads' h.hr).2.2
end

/-- is it taken? -/
def took (x : Int) (tk : List Int) (seq : Int) : Bool := decide (1 ≤ seq) && decide (seq ≤ 2147483647) && !(decide (seq ≤ x - 64) || tk.contains seq)

theorem rtake_no (base R : Nat) (x : Int) (A : Option Addr) (c : Nat) (tk : List Int) (seq : Int) (w : World) (h : Ref w base R x A c tk) (h0 : 0 ≤ x) (h4 : x ≤ 2147483647) (hl : tk.length ≤ 1000) (ht : took x tk seq = false) :
    Calls Try.prog 12 #[.pointer (some ⟨R, 0, none⟩), .int .i64 seq] w fun e w' => e = .returned (.bool false) ∧ Drawn0 w w' := by
  have c0 := h.c0
  have c1 := h.c1
  have hC := Aside0.mk (in_c A tk.length c tk seq w h.reads (by omega))
  replace h := Aside0.mk h
  by_cases h1 : seq < 1
  · clear ht
    go_enter Try.func12, Try.ntmps12
    go_wp2
    go_ret
    exact ⟨rfl, d0 w⟩
  · by_cases h2 : 2147483647 < seq
    · clear ht
      go_enter Try.func12, Try.ntmps12
      go_wp2
      go_ret
      exact ⟨rfl, d0 w⟩
    · by_cases h3 : seq ≤ x - 64
      · clear ht
        go_enter Try.func12, Try.ntmps12
        go_wp2
        go_ret
        exact ⟨rfl, d0 w⟩
      · have hc : tk.contains seq = true := by
          unfold took at ht
          rw [decide_eq_true (by omega), decide_eq_true (by omega), decide_eq_false h3] at ht
          simpa using ht
        rw [hc] at hC
        clear ht hc
        have h1' : 1 ≤ seq := by omega
        have h2' : seq ≤ 2147483647 := by omega
        have h3' : x - 64 < seq := by omega
        clear h1 h2 h3
        go_enter Try.func12, Try.ntmps12
        go_wp2_with (first | (go_at_call 15; (with_reducible refine hC.out.mono ?_); rintro e w' ⟨rfl, ⟨q, rfl⟩⟩))
        go_ret
        exact ⟨rfl, dN w _⟩

theorem only_of_below {a w : World} (h : Below a.heap.size a w) (row : Option Nat) : a.grownBy w row := ⟨h.os, h.tape, h.output, h.size, fun i hi _ => h.block i hi⟩
theorem put1 {w : World} {R : Nat} {a b : Value} (h : w.heap[R]? = some (.cells #[a, b] 32 (0, 0))) (v : Value) : (w.setCell ⟨R, 1, none⟩ v).heap[R]? = some (.cells #[a, v] 32 (0, 0)) := by
  simp [World.setCell, Array.getElem?_modify, h]
theorem put2 {w : World} {R : Nat} {a b : Value} (h : w.heap[R]? = some (.cells #[a, b] 32 (0, 0))) (v u : Value) : ((w.setCell ⟨R, 1, none⟩ v).setCell ⟨R, 0, none⟩ u).heap[R]? = some (.cells #[u, v] 32 (0, 0)) := by
  have := put1 h v
  simp [World.setCell, Array.getElem?_modify, h]

set_option maxHeartbeats 1600000 in
theorem rtake_yes (base R : Nat) (x : Int) (A : Option Addr) (c : Nat) (tk : List Int) (seq : Int) (w : World) (h : Ref w base R x A c tk) (hbase : base ≤ w.heap.size) (h0 : 0 ≤ x) (h4 : x ≤ 2147483647) (hl : tk.length ≤ 1000) (ht : took x tk seq = true) :
    Calls Try.prog 12 #[.pointer (some ⟨R, 0, none⟩), .int .i64 seq] w fun e w' => e = .returned (.bool true) ∧ (∃ A' c', Ref w' base R (if x < seq then seq else x) A' c' (tk ++ [seq])) ∧ w.grownBy w' (some R) := by
  have c0 := h.c0
  have c1 := h.c1
  have hq : ((1 ≤ seq ∧ seq ≤ 2147483647) ∧ x - 64 < seq) ∧ tk.contains seq = false := by simpa [took, and_assoc] using ht
  obtain ⟨⟨⟨h1, h2⟩, h3⟩, hc⟩ := hq
  have hC := in_c A tk.length c tk seq w h.reads (by omega)
  rw [hc] at hC
  replace hC := Aside0.mk hC
  have hlt := h.lt
  replace h := Aside0.mk h
  clear ht hc
  obtain ⟨y, hy⟩ : ∃ y, y = tk ++ [seq] := ⟨_, rfl⟩
  replace hy := Aside0.mk hy
  go_enter Try.func12, Try.ntmps12
  go_wp2_with (first
    | (go_at_call 15; (with_reducible refine hC.out.mono ?_); rintro e w' ⟨rfl, ⟨q, rfl⟩⟩)
    | ((with_reducible refine gate_dst (N := 33) rfl ?_); refine Kd.R_append_row (w0 := w) (enc := fun x => Value.int .i64 x) (0 : Int) (h1 := fun _ => rfl) w.heap.size rfl (.const (.slice none 0 0)) (.tmp 32) 29 3 (.int .i64 0) 8 rfl Try.underlying29 info3 rfl (by omega) (.slice none 0 0) [] tk A tk.length c (fun _ => True) rfl rfl (fun _ _ => trivial) (Kd.R_nil _ _ _ _ _) (Kd.C_drewN h.out.reads _) (pw_below_drewN (Below.refl _ _) _) (Nat.le_refl _) (by simp; omega) ?_; intro v1 w1 ho1 hb1 hg1 hat1; rw [List.nil_append] at ho1; obtain ⟨A1, c1', e1⟩ := Kd.R_slice ho1; subst e1; replace ho1 := Aside0.mk ho1; replace hb1 := Aside0.mk hb1; clear hg1 hat1)
    | ((with_reducible refine gate_dst (N := 36) rfl ?_); refine Kd.R_append (Kd.int .i64) (w0 := w) w.heap.size rfl (.tmp 33) (.tmp 35) 29 3 (.int .i64 0) 8 rfl Try.underlying29 info3 rfl (by decide) (by omega) _ tk seq [.int .i64 seq] (fun _ => True) (fun _ => False) rfl rfl rfl (fun _ hk => hk.elim) (fun _ _ => trivial) ho1.out hb1.out hb1.out.size (by omega) ?_; intro v2 w2 ho2 hb2 hg2 hat2; rw [← hy.out] at ho2; obtain ⟨A2, c2, e2⟩ := Kd.R_slice ho2; subst e2; have h2' := h.out.below hb2; have d0' := h2'.c0; have d1' := h2'.c1; have f0' := h2'.f 0; have f1' := h2'.f 1; replace h2' := Aside0.mk h2'; replace ho2 := Aside0.mk ho2; replace hb2 := Aside0.mk hb2; clear hg2 hat2)
    | fail)
  all_goals
    go_ret
    obtain rfl := hy.out
    refine ⟨rfl, ⟨A2, c2, put2 h2'.out.hb _ _, ?_⟩, only_set (only_set (only_of_below hb2.out _) _ _) _ _⟩
    exact Kd.R_set (Kd.R_set (Kd.R_lower ho2.out hbase) h2'.out.hb (ty (by decide)) 1 _) (put1 h2'.out.hb _) (ty (by decide)) 0 _

/-- what the reference's Take leaves -/
theorem rtake_c (base R : Nat) (x : Int) (A : Option Addr) (c : Nat) (tk : List Int) (seq : Int) (w : World) (h : Ref w base R x A c tk) (hbase : base ≤ w.heap.size) (h0 : 0 ≤ x) (h4 : x ≤ 2147483647) (hl : tk.length ≤ 1000) :
    Calls Try.prog 12 #[.pointer (some ⟨R, 0, none⟩), .int .i64 seq] w fun e w' => e = .returned (.bool (took x tk seq)) ∧
      (∃ A' c', Ref w' base R (if took x tk seq = true then (if x < seq then seq else x) else x) A' c' (if took x tk seq = true then tk ++ [seq] else tk)) ∧ w.grownBy w' (some R) := by
  by_cases ht : took x tk seq = true
  · rw [if_pos ht, if_pos ht, ht]
    exact rtake_yes base R x A c tk seq w h hbase h0 h4 hl ht
  · rw [if_neg ht, if_neg ht, Bool.eq_false_iff.2 ht]
    refine (rtake_no base R x A c tk seq w h h0 h4 hl (Bool.eq_false_iff.2 ht)).mono fun e w' ⟨he, ⟨n, hn⟩⟩ => ⟨he, ⟨A, c, ?_⟩, ?_⟩
    · rw [hn]; exact h.drewN n
    · rw [hn]; exact only_drewN (World.grownBy.refl _ _) _

theorem rseen_c (base R : Nat) (x : Int) (A : Option Addr) (c : Nat) (tk : List Int) (seq : Int) (w : World) (h : Ref w base R x A c tk) (h0 : 0 ≤ x) (h4 : x ≤ 2147483647) (hl : tk.length ≤ 1000) :
    Calls Try.prog 14 #[.pointer (some ⟨R, 0, none⟩), .int .i64 seq] w fun e w' => e = .returned (.bool (decide (1 ≤ seq) && (decide (seq ≤ x - 64) || tk.contains seq))) ∧ Drawn0 w w' := by
  have c0 := h.c0
  have c1 := h.c1
  have hC := Aside0.mk (in_c A tk.length c tk seq w h.reads (by omega))
  replace h := Aside0.mk h
  by_cases h1 : 1 ≤ seq
  · rw [decide_eq_true h1, Bool.true_and]
    by_cases h3 : seq ≤ x - 64
    · rw [decide_eq_true h3, Bool.true_or]
      go_enter Try.func14, Try.ntmps14
      go_wp2
      go_ret
      exact ⟨rfl, d0 w⟩
    · rw [decide_eq_false h3, Bool.false_or]
      have h3' : x - 64 < seq := by omega
      clear h3
      generalize tk.contains seq = b at *
      go_enter Try.func14, Try.ntmps14
      go_wp2_with (first | (go_at_call 15; (with_reducible refine hC.out.mono ?_); rintro e w' ⟨rfl, ⟨q, rfl⟩⟩))
      go_ret
      exact ⟨by simp [show ¬ seq ≤ x - 64 by omega], dN w _⟩
  · rw [decide_eq_false h1, Bool.false_and]
    have h1' : seq < 1 := by omega
    clear h1
    go_enter Try.func14, Try.ntmps14
    go_wp2
    go_ret
    exact ⟨rfl, d0 w⟩
end Go.Proofs.Ytjcgflclijfokaa.Ref
