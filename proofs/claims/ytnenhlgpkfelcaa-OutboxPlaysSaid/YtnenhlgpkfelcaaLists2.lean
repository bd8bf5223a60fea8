/- ContainsFunc and Clone over lists of messages. -/
import Derived.Test.YtnenhlgpkfelcaaLists
namespace Go.Proofs.Ytnenhlgpkfelcaa.Box
open Go Go.RowKit Go.Maps Go.Proofs.Ytnenhlgpkfelcaa.POutboxPlays Go.Proofs.YtnenhlgpkfelcaaW.PrintWords Go.Proofs.YtnenhlgpkfelcaaW.PrintLast Go.Proofs.YtnenhlgpkfelcaaW.PrintMore
set_option linter.unusedVariables false
theorem contains_c (A : Option Addr) (n c : Nat) (l : List S36) (Po : Nat) (P : S36 → Bool) (w : World) (HC : Kd.C k36 w A n l) (hn : n ≤ 100000)
    (hcl : ∀ (p : S36) (W : World), Below w.heap.size w W → Calls Try.prog 23 #[cr p, .pointer (some ⟨Po, 0, none⟩)] W fun e w' => e = .returned (.bool (P p)) ∧ Below W.heap.size W w') :
    Calls Try.prog 22 #[.slice A n c, .func (.func 23) #[] #[.pointer (some ⟨Po, 0, none⟩)]] w fun e w' => e = .returned (.bool (l.any P)) ∧ Below w.heap.size w w' := by
  have k := index_c A n c l Po P w HC hn hcl
  unfold idx at k
  cases h : l.any P with
  | true =>
    rw [if_pos h] at k
    generalize l.findIdx P = j at k
    replace k := Aside0.mk k
    have j0 : (0 : Int) ≤ (j : Int) := by omega
    go_enter Try.func22, Try.ntmps22
    go_wp2_with (first | (go_at_call 28; (with_reducible refine k.out.mono ?_); rintro e w' ⟨rfl, hb⟩; replace hb := Aside0.mk hb) | fail)
    go_ret
    exact ⟨rfl, hb.out⟩
  | false =>
    rw [if_neg (by rw [h]; simp)] at k
    replace k := Aside0.mk k
    go_enter Try.func22, Try.ntmps22
    go_wp2_with (first | (go_at_call 28; (with_reducible refine k.out.mono ?_); rintro e w' ⟨rfl, hb⟩; replace hb := Aside0.mk hb) | fail)
    go_ret
    exact ⟨rfl, hb.out⟩
theorem info36 : (Try.prog.info? 36).map (fun i => (i.zero, i.size, i.bytes)) = some (some (.agg #[.int .i64 0, .int .i64 0, .int .i64 0, .int .i64 0, .int .i64 0, .int .i64 0, .int .i64 0, .int .i64 0, .int .i64 0, .int .i64 0, .int .i64 0, .int .i64 0, .int .i64 0, .int .i64 0, .int .i64 0]), 15, 120) := by kernel_rfl
theorem R_empty36 (w : World) (base : Nat) (hb : base ≤ w.heap.size) : Kd.R k36 36 (w.alloc (.cells #[] 36)) base (fun _ => True) (.slice (some ⟨w.heap.size, 0, none⟩) 0 0) [] :=
  ⟨fun _ _ => trivial, [], World.ownsRow_lit w #[] 0 hb (by decide) rfl, Reps.none _ _⟩
theorem K_M36 {w : World} {base : Nat} {ok : Nat → Prop} {x : S36} {cs : List Value} (h : k36.K w x cs) : k36.M w base ok x cs := by
  obtain rfl := k36_open h
  exact k36_mkM w base ok x
set_option maxHeartbeats 800000 in
theorem clone_c (A : Option Addr) (n c : Nat) (l : List S36) (w : World) (HC : Kd.C k36 w A n l) (hn : n ≤ 100000) :
    Calls Try.prog 24 #[.slice A n c] w fun e w' => (∃ A' c', e = .returned (.slice A' l.length c') ∧ Kd.R k36 36 w' w.heap.size (fun _ => True) (.slice A' l.length c') l) ∧ Below w.heap.size w w' := by
  have hl : l.length = n := HC.1
  rcases A with _ | ad
  · have h0 : n = 0 := by
      rcases Nat.eq_zero_or_pos n with h | h
      · exact h
      · obtain ⟨_, h, _⟩ := HC.2.2 h; cases h
    subst h0
    have hx : l = [] := List.eq_nil_of_length_eq_zero hl
    subst hx
    exact (cloneNil_c c w).mono fun e w' h => ⟨⟨none, 0, h.1, Kd.R_nil _ _ _ _ _⟩, by rw [h.2]; exact Below.refl _ _⟩
  · have heq := fun W => Lib.run_eql_slice_nil (P := Try.prog) W 28 36 (some ad) n c 0 0 Try.underlying28
    have HE := Aside0.mk (R_empty36 w w.heap.size (Nat.le_refl _))
    have HC2 := Aside0.mk (Kd.C_alloc HC (.cells #[] 36))
    have hB := Aside0.mk ((Below.refl w.heap.size w).alloc (Nat.le_refl _) (.cells #[] 36))
    replace HC := Aside0.mk HC
    replace hl := Aside0.mk hl
    go_enter Try.func24, Try.ntmps24
    go_wp2_with (first
      | ((with_reducible refine gate_dst (N := 7) rfl ?_); refine Kd.R_append_rows k36 (w0 := w) w.heap.size rfl (.tmp 5) (.tmp 6) 28 36 _ 120 rfl Try.underlying28 info36 rfl (by decide) (by omega) (.slice (some ⟨w.heap.size, 0, none⟩) 0 0) [] l (some ad) n c (fun _ => True) (fun _ => False) rfl rfl HE.out HC2.out (fun _ _ h => K_M36 h) (fun _ h => h.elim) (fun _ _ => trivial) hB.out hB.out.size (by simp; omega) ?_; intro v1 w1 ho1 hb1 hg1 hat1; rw [List.nil_append] at ho1; obtain ⟨A1, c1, e1⟩ := Kd.R_slice ho1; subst e1; replace ho1 := Aside0.mk ho1; replace hb1 := Aside0.mk hb1; clear hg1 hat1)
      | fail)
    go_ret
    exact ⟨⟨A1, c1, rfl, ho1.out⟩, hb1.out⟩
end Go.Proofs.Ytnenhlgpkfelcaa.Box
