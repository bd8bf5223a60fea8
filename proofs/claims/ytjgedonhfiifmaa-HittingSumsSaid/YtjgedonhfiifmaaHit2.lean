/- Contracts of fixed.Add at two numbers, the turn of a gem, slices.Clone and slices.IndexFunc at entities. -/
import Derived.Test.YtjgedonhfiifmaaHit1
namespace Go.Proofs.Ytjgedonhfiifmaa.Hit
open Go.RowKit Go.Proofs.Ytjgedonhfiifmaa.PHittingOnly Go.Proofs.YtjgedonhfiifmaaW.PrintWords Go.Proofs.YtjgedonhfiifmaaW.PrintLast Go.Proofs.YtjgedonhfiifmaaW.PrintMore
open Go.Proofs.Ytjgedonhfiifmaa.Plain
set_option linter.unusedVariables false

theorem held_c (a : Int) (w : World) : Calls Try.prog 26 #[.int .i64 a] w fun e w' => e = .returned (.int .i64 (held a)) ∧ Drawn0 w w' := fixed_Held.calls a _ w (pc_held a)

theorem add2_c (A : Option Addr) (c : Nat) (a b : Int) (w : World) (HC : Kd.C (Kd.int .i64) w A 2 [a, b]) :
    Calls Try.prog 21 #[.slice A 2 c] w fun e w' => e = .returned (.int .i64 (add (add 0 a) b)) ∧ Drawn0 w w' := by
  obtain ⟨ad, e1, h0⟩ := Kd.at_int HC 0 (by omega) (by omega)
  obtain ⟨ad', e2, h1⟩ := Kd.at_int HC 1 (by omega) (by omega)
  rw [e1] at e2
  injection e2 with e2
  subst e2
  subst e1
  have hs1 := held_range a
  have hs2 := held_range b
  have e3 : wrap64 (held a) = held a := by unfold wrap64; omega
  have e4 : wrap64 (held (held a) + held b) = held (held a) + held b := by have := held_range (held a); unfold wrap64; omega
  have k1 := Aside0.mk (held_c a)
  have k2 := Aside0.mk (held_c b)
  have k3 := Aside0.mk (held_c (held a))
  have k4 := Aside0.mk (held_c (held (held a) + held b))
  have hfin : add (add 0 a) b = held (held (held a) + held b) := by unfold add; rw [Int.zero_add]
  rw [hfin]
  generalize held a = x at *
  generalize held b = y at *
  generalize held x = z at *
  obtain ⟨b1, b2⟩ := hs1
  obtain ⟨b3, b4⟩ := hs2
  generalize hzz : held (z + y) = r at *
  clear hzz hfin
  replace HC := Aside0.mk HC
  simp [rd] at h0 h1
  rw [show ad.add 0 = ad by simp [Addr.add]] at h0
  rw [show ad.add 1 = ⟨ad.block, ad.off + 1, none⟩ by simp [Addr.add]] at h1
  go_enter Try.func21, Try.ntmps21
  go_wp2_with fail
  refine wp_loop_rounds 3 ?_
  rw [rounds_succ]
  go_wp2_with (first | (go_at_call 26; (with_reducible refine (k1.out _).mono ?_); rintro e w' ⟨rfl, ⟨q1, rfl⟩⟩) | (go_at_call 26; (with_reducible refine (k3.out _).mono ?_); rintro e w' ⟨rfl, ⟨q2, rfl⟩⟩) | fail)
  rw [rounds_succ]
  go_wp2_with (first | (go_at_call 26; (with_reducible refine (k2.out _).mono ?_); rintro e w' ⟨rfl, ⟨q3, rfl⟩⟩) | (go_at_call 26; (with_reducible refine (k4.out _).mono ?_); rintro e w' ⟨rfl, ⟨q4, rfl⟩⟩) | fail)
  rw [rounds_succ]
  go_wp2_with fail
  go_ret
  exact ⟨rfl, ⟨_, rfl⟩⟩

/-- a gem's turn: healed, up to full health -/
def heal (h : Int) : Int := min (add (add 0 h) 25) 100

theorem gem_turn_c (h : Int) (w : World) : Calls Try.prog 20 #[.int .i64 h] w fun e w' => e = .returned (.int .i64 (heal h)) ∧ Below w.heap.size w w' := by
  have k := Aside0.mk (fun (W : World) (A : Option Addr) (c : Nat) (HC : Kd.C (Kd.int .i64) W A 2 [h, 25]) => add2_c A c h 25 W HC)
  unfold heal
  generalize add (add 0 h) 25 = r at *
  have HC : Aside0 (Kd.C (Kd.int .i64) (w.alloc (.cells #[.int .i64 h, .int .i64 25] 3)) (some ⟨w.heap.size, 0, none⟩) 2 [h, 25]) := ⟨Kd.C_of_reads (d := (0 : Int)) (h1 := fun _ => rfl) (enc := Value.int .i64)
    ⟨rfl, by omega, fun _ => ⟨_, rfl, fun j hj => by
      rw [add_plain, World.cell?_alloc_new]
      match j, hj with
      | 0, _ => rfl
      | 1, _ => rfl⟩⟩⟩
  go_enter Try.func20, Try.ntmps20
  go_wp2_with (first
    | (go_at_call 21; (with_reducible refine (k.out _ _ _ HC.out).mono ?_); rintro e w' ⟨rfl, ⟨q1, rfl⟩⟩)
    | fail)
  all_goals
    go_ret
    first | exact ⟨by simp; omega, pw_below_drewN ((Below.refl _ _).alloc (Nat.le_refl _) _) _⟩ | exact ⟨by simp, pw_below_drewN ((Below.refl _ _).alloc (Nat.le_refl _) _) _⟩ | exact ⟨by simp [Int.min_def]; omega, pw_below_drewN ((Below.refl _ _).alloc (Nat.le_refl _) _) _⟩

theorem info25 : (Try.prog.info? 25).map (fun i => (i.zero, i.size, i.bytes)) = some (some (.agg #[.int .i64 0, .int .i64 0, .int .i64 0, .int .i64 0, .int .i64 0, .int .i64 0, .int .i64 0, .int .i64 0, .int .i64 0]), 9, 72) := by kernel_rfl

/-- an empty row of the call's own -/
theorem R_empty (w : World) (base : Nat) (hb : base ≤ w.heap.size) : Kd.R k25 25 (w.alloc (.cells #[] 25)) base (fun _ => True) (.slice (some ⟨w.heap.size, 0, none⟩) 0 0) [] :=
  ⟨fun _ _ => trivial, [], World.ownsRow_lit w #[] 0 hb (by decide) rfl, Reps.none _ _⟩

theorem K_M {w : World} {base : Nat} {ok : Nat → Prop} {x : S25} {cs : List Value} (h : k25.K w x cs) : k25.M w base ok x cs := by
  obtain rfl := k25_open h
  exact k25_mkM w base ok x

set_option maxHeartbeats 800000 in
theorem clone_c (A : Option Addr) (n c : Nat) (l : List S25) (w : World) (HC : Kd.C k25 w A n l) (hn : n ≤ 100000) :
    Calls Try.prog 22 #[.slice A n c] w fun e w' => (∃ A' c', e = .returned (.slice A' l.length c') ∧ Kd.R k25 25 w' w.heap.size (fun _ => True) (.slice A' l.length c') l) ∧ Below w.heap.size w w' := by
  have hl : l.length = n := HC.1
  rcases A with _ | ad
  · have h0 : n = 0 := by
      rcases Nat.eq_zero_or_pos n with h | h
      · exact h
      · obtain ⟨_, h, _⟩ := HC.2.2 h; cases h
    subst h0
    have hx : l = [] := List.eq_nil_of_length_eq_zero hl
    subst hx
    have heq := fun W => Lib.run_eql_slice_nil (P := Try.prog) W 23 25 none 0 c 0 0 Try.underlying23
    replace HC := Aside0.mk HC
    go_enter Try.func22, Try.ntmps22
    go_wp2_with fail
    go_ret
    exact ⟨⟨none, 0, rfl, Kd.R_nil _ _ _ _ _⟩, Below.refl _ _⟩
  · have heq := fun W => Lib.run_eql_slice_nil (P := Try.prog) W 23 25 (some ad) n c 0 0 Try.underlying23
    have HE := Aside0.mk (R_empty w w.heap.size (Nat.le_refl _))
    have HC2 := Aside0.mk (Kd.C_alloc HC (.cells #[] 25))
    have hB := Aside0.mk ((Below.refl w.heap.size w).alloc (Nat.le_refl _) (.cells #[] 25))
    replace HC := Aside0.mk HC
    replace hl := Aside0.mk hl
    go_enter Try.func22, Try.ntmps22
    go_wp2_with (first
      | ((with_reducible refine gate_dst (N := 7) rfl ?_); refine Kd.R_append_rows k25 (w0 := w) w.heap.size rfl (.tmp 5) (.tmp 6) 23 25 _ 72 rfl Try.underlying23 info25 rfl (by decide) (by omega) (.slice (some ⟨w.heap.size, 0, none⟩) 0 0) [] l (some ad) n c (fun _ => True) (fun _ => False) rfl rfl HE.out HC2.out (fun _ _ h => K_M h) (fun _ h => h.elim) (fun _ _ => trivial) hB.out hB.out.size (by simp; omega) ?_; intro v1 w1 ho1 hb1 hg1 hat1; rw [List.nil_append] at ho1; obtain ⟨A1, c1, e1⟩ := Kd.R_slice ho1; subst e1; replace ho1 := Aside0.mk ho1; replace hb1 := Aside0.mk hb1; clear hg1 hat1)
      | fail)
    go_ret
    exact ⟨⟨A1, c1, rfl, ho1.out⟩, hb1.out⟩
end Go.Proofs.Ytjgedonhfiifmaa.Hit
