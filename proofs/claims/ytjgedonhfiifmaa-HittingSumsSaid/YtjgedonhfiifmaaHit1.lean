/- Contracts of what hitting's meet hands to slices.IndexFunc: near, the tests of a shot and of a gem, and the closure over them. -/
import Derived.Test.YtjgedonhfiifmaaPHittingOnlyx1
import Derived.Test.YtjgedonhfiifmaaPlain
import Derived.WalkSpells
import Derived.WalkLawsBesides
import Derived.Outline
namespace Go.Proofs.Ytjgedonhfiifmaa.Hit
open Go.RowKit Go.Proofs.Ytjgedonhfiifmaa.PHittingOnly Go.Proofs.YtjgedonhfiifmaaW.PrintWords Go.Proofs.YtjgedonhfiifmaaW.PrintLast Go.Proofs.YtjgedonhfiifmaaW.PrintMore
open Go.Proofs.Ytjgedonhfiifmaa.Plain
set_option linter.unusedVariables false

theorem pc_held (a : Int) : fixed_Held.f a = some (held a) := by
  unfold fixed_Held.f fixed_Clamp.f held
  by_cases h : a < -2147483647
  · rw [if_pos h, if_pos h]; rfl
  · rw [if_neg h, if_neg h]
    by_cases h2 : a > 2147483647
    · rw [if_pos h2, if_pos h2]; rfl
    · rw [if_neg h2, if_neg h2]; rfl
theorem pc_sub (a b : Int) : fixed_Sub.f a b = some (sub a b) := by
  unfold fixed_Sub.f
  simp only [pc_held, Option.bind_some]
  rw [diff_in]
  rfl
theorem pc_mx (a b : Int) : mx a b = max a b := by unfold mx; omega
theorem pc_size {v : Int} (h0 : -2147483647 ≤ v) (h1 : v ≤ 2147483647) : fixed_size.f v = some (size v) := by
  unfold fixed_size.f size
  have e : wrap64 (-v) = -v := by unfold wrap64; omega
  rw [e, pc_mx]
theorem pc_far (a b c d : Int) : fixed_Far.f a b c d = some (far a b c d) := by
  unfold fixed_Far.f
  simp only [pc_sub, Option.bind_some]
  rw [pc_size (sub_range _ _).1 (sub_range _ _).2]
  simp only [Option.bind_some]
  rw [pc_size (sub_range _ _).1 (sub_range _ _).2]
  simp only [Option.bind_some]
  rw [pc_mx]
  rfl

/-- an entity as a value; its cells -/
def ent (p : S25) : Value := .agg #[.int .i64 p.f0, .int .i64 p.f1, .int .i64 p.f2, .int .i64 p.f3, .int .i64 p.f4, .int .i64 p.f5, .int .i64 p.f6, .int .i64 p.f7, .int .i64 p.f8]
def cells (p : S25) : Array Value := #[.int .i64 p.f0, .int .i64 p.f1, .int .i64 p.f2, .int .i64 p.f3, .int .i64 p.f4, .int .i64 p.f5, .int .i64 p.f6, .int .i64 p.f7, .int .i64 p.f8]
/-- is it so near? -/
def nearB (p : S25) (x y d : Int) : Bool := decide (far p.f2 p.f3 x y ≤ d)

theorem near_c (p : S25) (x y d : Int) (w : World) : Calls Try.prog 23 #[.agg #[.int .i64 p.f0, .int .i64 p.f1, .int .i64 p.f2, .int .i64 p.f3, .int .i64 p.f4, .int .i64 p.f5, .int .i64 p.f6, .int .i64 p.f7, .int .i64 p.f8], .int .i64 x, .int .i64 y, .int .i64 d] w fun e w' => e = .returned (.bool (nearB p x y d)) ∧ Below w.heap.size w w' :=
  hitting_near.calls p.f0 p.f1 p.f2 p.f3 p.f4 p.f5 p.f6 p.f7 p.f8 x y d _ w (by unfold hitting_near.f; rw [pc_far]; rfl)

theorem shot_other_c (s p : S25) (w : World) : Calls Try.prog 13 #[ent s, ent p] w fun e w' => e = .returned (.bool (p.f0 != s.f8)) ∧ Below w.heap.size w w' := by
  unfold ent
  go_enter Try.func13, Try.ntmps13
  go_wp2
  go_ret
  exact ⟨rfl, ((Below.refl _ _).alloc (Nat.le_refl _) _).alloc (by simp) _⟩

theorem gem_other_c (s p : S25) (w : World) : Calls Try.prog 19 #[ent s, ent p] w fun e w' => e = .returned (.bool true) ∧ Below w.heap.size w w' := by
  unfold ent
  go_enter Try.func19, Try.ntmps19
  go_wp2
  go_ret
  exact ⟨rfl, ((Below.refl _ _).alloc (Nat.le_refl _) _).alloc (by simp) _⟩

theorem shot_turn_c (h : Int) (w : World) : Calls Try.prog 14 #[.int .i64 h] w fun e w' => e = .returned (.int .i64 (sub h 20)) ∧ Below w.heap.size w w' := by
  have C := Aside0.mk (fixed_Sub.calls h 20 _ w (pc_sub h 20))
  generalize sub h 20 = r at *
  go_enter Try.func14, Try.ntmps14
  go_wp2_with (first | (go_at_call 15; (with_reducible refine C.out.mono ?_); rintro e w' ⟨rfl, ⟨q, rfl⟩⟩))
  go_ret
  exact ⟨rfl, pw_below_drewN (Below.refl _ _) _⟩

theorem blk_cell {w : World} {B t : Nat} {cs : Array Value} (h : w.heap[B]? = some (.cells cs t (0, 0))) (j : Nat) : w.cell? ⟨B, j, none⟩ = cs[j]? := cell_of_row w B j cs t (0, 0) h
theorem blk_lt' {w : World} {B : Nat} {o : Obj} (h : w.heap[B]? = some o) : B < w.heap.size := (Array.getElem?_eq_some_iff.1 h).1

/-- the closure: is p a player, met by the thing in the box? -/
theorem pred_c (Po Pt Pf : Nat) (o : FuncId) (oth : S25 → S25 → Bool) (t p : S25) (d : Int) (w : World)
    (ho : w.heap[Po]? = some (.cells #[.func (.func o) #[] #[]] 38 (0, 0))) (ht : w.heap[Pt]? = some (.cells (cells t) 25 (0, 0))) (hf : w.heap[Pf]? = some (.cells #[.int .i64 d] 3 (0, 0)))
    (hoc : (o = 13 ∧ oth = fun s p => p.f0 != s.f8) ∨ (o = 19 ∧ oth = fun _ _ => true)) :
    Calls Try.prog 25 #[ent p, .pointer (some ⟨Po, 0, none⟩), .pointer (some ⟨Pt, 0, none⟩), .pointer (some ⟨Pf, 0, none⟩)] w fun e w' =>
      e = .returned (.bool (p.f1 == 1 && oth t p && nearB p t.f2 t.f3 d)) ∧ Below w.heap.size w w' := by
  have lo := blk_lt' ho
  have lt := blk_lt' ht
  have lf := blk_lt' hf
  have co := blk_cell ho 0
  have cf := blk_cell hf 0
  have t0 := blk_cell ht 0
  have t1 := blk_cell ht 1
  have t2 := blk_cell ht 2
  have t3 := blk_cell ht 3
  have t4 := blk_cell ht 4
  have t5 := blk_cell ht 5
  have t6 := blk_cell ht 6
  have t7 := blk_cell ht 7
  have t8 := blk_cell ht 8
  simp [cells] at co cf t0 t1 t2 t3 t4 t5 t6 t7 t8
  replace ho := Aside0.mk ho
  replace ht := Aside0.mk ht
  replace hf := Aside0.mk hf
  unfold ent
  by_cases h1 : p.f1 = 1
  · have hb1 : (p.f1 == 1) = true := beq_iff_eq.2 h1
    have k2 := Aside0.mk (near_c p t.f2 t.f3 d)
    rw [hb1, Bool.true_and]
    generalize nearB p t.f2 t.f3 d = nb at *
    clear h1
    rcases hoc with ⟨rfl, rfl⟩ | ⟨rfl, rfl⟩
    · have k1 := shot_other_c t p
      unfold ent at k1
      replace k1 := Aside0.mk k1
      show Calls _ _ _ _ fun e w' => e = .returned (.bool ((p.f0 != t.f8) && nb)) ∧ Below w.heap.size w w'
      generalize (p.f0 != t.f8) = ob at *
      go_enter Try.func25, Try.ntmps25
      go_wp2_with (first
        | (go_at_call 13; (with_reducible refine (k1.out _).mono ?_); rintro e w1 ⟨rfl, hb1⟩; have hbw := Aside0.mk (below_then ((Below.refl w.heap.size w).alloc (Nat.le_refl _) _) (by simp) hb1); have co' := pw_cell_below hbw.out co; have cf' := pw_cell_below hbw.out cf; have t0' := pw_cell_below hbw.out t0; have t1' := pw_cell_below hbw.out t1; have t2' := pw_cell_below hbw.out t2; have t3' := pw_cell_below hbw.out t3; have t4' := pw_cell_below hbw.out t4; have t5' := pw_cell_below hbw.out t5; have t6' := pw_cell_below hbw.out t6; have t7' := pw_cell_below hbw.out t7; have t8' := pw_cell_below hbw.out t8; have hown := Aside0.mk (fun j => (hb1.cell (p := ⟨w.heap.size, j, none⟩) (by simp))); have p0 := hown.out 0; have p1 := hown.out 1; have p2 := hown.out 2; have p3 := hown.out 3; have p4 := hown.out 4; have p5 := hown.out 5; have p6 := hown.out 6; have p7 := hown.out 7; have p8 := hown.out 8; simp [World.cell?_alloc_new] at p0 p1 p2 p3 p4 p5 p6 p7 p8)
        | (go_at_call 23; (with_reducible refine (k2.out _).mono ?_); rintro e w2 ⟨rfl, hb2⟩; have hbw2 := Aside0.mk (below_then hbw.out hbw.out.size hb2))
        | fail)
      all_goals
        go_ret
        first | exact ⟨by simp [*], hbw2.out⟩ | exact ⟨by simp [*], hbw.out⟩
    · have k1 := gem_other_c t p
      unfold ent at k1
      replace k1 := Aside0.mk k1
      show Calls _ _ _ _ fun e w' => e = .returned (.bool (true && nb)) ∧ Below w.heap.size w w'
      rw [Bool.true_and]
      go_enter Try.func25, Try.ntmps25
      go_wp2_with (first
        | (go_at_call 19; (with_reducible refine (k1.out _).mono ?_); rintro e w1 ⟨rfl, hb1⟩; have hbw := Aside0.mk (below_then ((Below.refl w.heap.size w).alloc (Nat.le_refl _) _) (by simp) hb1); have co' := pw_cell_below hbw.out co; have cf' := pw_cell_below hbw.out cf; have t0' := pw_cell_below hbw.out t0; have t1' := pw_cell_below hbw.out t1; have t2' := pw_cell_below hbw.out t2; have t3' := pw_cell_below hbw.out t3; have t4' := pw_cell_below hbw.out t4; have t5' := pw_cell_below hbw.out t5; have t6' := pw_cell_below hbw.out t6; have t7' := pw_cell_below hbw.out t7; have t8' := pw_cell_below hbw.out t8; have hown := Aside0.mk (fun j => (hb1.cell (p := ⟨w.heap.size, j, none⟩) (by simp))); have p0 := hown.out 0; have p1 := hown.out 1; have p2 := hown.out 2; have p3 := hown.out 3; have p4 := hown.out 4; have p5 := hown.out 5; have p6 := hown.out 6; have p7 := hown.out 7; have p8 := hown.out 8; simp [World.cell?_alloc_new] at p0 p1 p2 p3 p4 p5 p6 p7 p8)
        | (go_at_call 23; (with_reducible refine (k2.out _).mono ?_); rintro e w2 ⟨rfl, hb2⟩; have hbw2 := Aside0.mk (below_then hbw.out hbw.out.size hb2))
        | fail)
      all_goals
        go_ret
        first | exact ⟨by simp [*], hbw2.out⟩ | exact ⟨by simp [*], hbw.out⟩
  · have hb1 : (p.f1 == 1) = false := beq_eq_false_iff_ne.2 h1
    rw [hb1]
    clear h1 hoc
    go_enter Try.func25, Try.ntmps25
    go_wp2_with fail
    go_ret
    exact ⟨rfl, (Below.refl _ _).alloc (Nat.le_refl _) _⟩
end Go.Proofs.Ytjgedonhfiifmaa.Hit
