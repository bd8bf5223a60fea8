/- The walk through FixedBounds: it returns true and what lay in memory stays; for every list that is read and every three numbers of 64 bits. -/
import Derived.Test.YtdodnhpboddheaaFFixedBounds
import Derived.Outline
namespace Go.Proofs.Ytdodnhpboddheaa.Bounds
open Go.RowKit Go.Proofs.Ytdodnhpboddheaa.PFixedBounds Go.Proofs.YtdodnhpboddheaaW.PrintWords Go.Proofs.YtdodnhpboddheaaW.PrintLast Go.Proofs.YtdodnhpboddheaaW.PrintMore
open Go.Proofs.Ytdodnhpboddheaa.Plain Go.Proofs.Ytdodnhpboddheaa.FixedBoundsFacts
set_option linter.unusedVariables false

theorem sub_turn (a b : Int) : sub a b = -(sub b a) := by unfold sub held; omega
theorem size_turn (v : Int) : size (-v) = size v := by unfold size; omega
theorem far_turn (a b d : Int) : far d a a b = far a b d a := by
  unfold far
  rw [sub_turn d a, sub_turn b a, size_turn, size_turn]
theorem far_pos (a b c d : Int) : 0 ≤ far a b c d := by unfold far size; omega
theorem fold_range (l : List Int) : ∀ x : Int, -2147483647 ≤ x → x ≤ 2147483647 → -2147483647 ≤ l.foldl add x ∧ l.foldl add x ≤ 2147483647 := by
  induction l with
  | nil => exact fun x h0 h1 => ⟨h0, h1⟩
  | cons v l ih => exact fun x h0 h1 => ih _ (add_range _ _).1 (add_range _ _).2

theorem within_c (v : Int) (h0 : -2147483647 ≤ v) (h1 : v ≤ 2147483647) (w : World) : Calls Try.prog 24 #[.int .i64 v] w fun e w' => e = .returned (.bool true) ∧ w = w' := by
  go_enter Try.func24, Try.ntmps24
  go_wp2
  go_ret
  exact ⟨rfl, rfl⟩

theorem chain0 {w w1 w2 : World} (h : Below w.heap.size w w1) (k : Below w1.heap.size w1 w2) : Below w.heap.size w w2 := below_then h h.size k

set_option maxHeartbeats 800000 in
theorem long_walk (a1 a2 a3 : Int) (A : Option Addr) (c n : Nat) (w : World) (hn : n ≤ maxLen) (hl : 100 < n) :
    Calls Try.prog 4 #[.slice A n c, .int .i64 a1, .int .i64 a2, .int .i64 a3] w fun e w' => e = .returned (.bool true) ∧ Below w.heap.size w w' := by
  unfold maxLen at hn
  have hlt : decide ((100 : Int) < (n : Int)) = true := by simp; omega
  go_enter Try.func4, Try.ntmps4
  go_wp2_with (first | (go_at_call 9; (with_reducible refine (joustlaw01_awake.calls 8 true _ pc_awake8).mono ?_); rintro e w' ⟨rfl, hb⟩))
  go_ret
  exact ⟨rfl, hb⟩

theorem scale_any (a b d : Int) : ∃ x e, fixed_Scale.f a b d = some (x, e) ∧ -2147483647 ≤ x ∧ x ≤ 2147483647 := by
  by_cases h : d = 0
  · subst h; exact ⟨0, 1, pc_scale0 a b, by omega, by omega⟩
  · exact ⟨_, _, pc_scale a b d h, (held_range _).1, (held_range _).2⟩

set_option maxHeartbeats 1600000 in
theorem short_walk (a1 a2 a3 : Int) (A : Option Addr) (c : Nat) (l : List Int) (w : World) (HC : Kd.C (Kd.int .i64) w A l.length l) (hc : l.length ≤ c) (hl : l.length ≤ 100) :
    Calls Try.prog 4 #[.slice A l.length c, .int .i64 a1, .int .i64 a2, .int .i64 a3] w fun e w' => e = .returned (.bool true) ∧ Below w.heap.size w w' := by
  have hlt : decide ((100 : Int) < (l.length : Int)) = false := by simp; omega
  obtain ⟨x, xe, C1, hx0, hx1⟩ := scale_any a1 a2 a3
  have C2 := pc_add 200 l (by omega) (by omega)
  have hs := fold_range l 0 (by omega) (by omega)
  have C3 := pc_sub a2 a1
  have C4 := pc_sub a1 a2
  rw [sub_turn a1 a2] at C4
  have h3 := sub_range a2 a1
  have C5 := pc_far a1 a2 a3 a1
  have C6 := pc_far a3 a1 a1 a2
  rw [far_turn] at C6
  have h5 := far_pos a1 a2 a3 a1
  have C7 := pc_held a3
  have h7 := held_range a3
  generalize sub a2 a1 = s at *
  generalize far a1 a2 a3 a1 = f at *
  generalize held a3 = h at *
  generalize List.foldl add 0 l = sm at *
  obtain ⟨hs0, hs1⟩ := hs
  obtain ⟨h30, h31⟩ := h3
  obtain ⟨h70, h71⟩ := h7
  have hn0 : -2147483647 ≤ -s := by omega
  have hn1 : -s ≤ 2147483647 := by omega
  replace C1 := Aside0.mk C1
  replace C2 := Aside0.mk C2
  replace C3 := Aside0.mk C3
  replace C4 := Aside0.mk C4
  replace C5 := Aside0.mk C5
  replace C6 := Aside0.mk C6
  replace C7 := Aside0.mk C7
  replace HC := Aside0.mk HC
  have HB := Aside0.mk (Below.refl w.heap.size w)
  go_enter Try.func4, Try.ntmps4
  go_wp2_with (first
    | (go_at_call 11; (with_reducible refine (fixed_Scale.calls a1 a2 a3 x xe _ C1.out).mono ?_); rintro e w' ⟨rfl, ⟨n1, rfl⟩⟩)
    | (go_at_call 9; (with_reducible refine (joustlaw01_awake.calls 8 true _ pc_awake8).mono ?_); rintro e w' ⟨rfl, hb⟩; have hbw := Aside0.mk (below_then (pw_below_drewN (Below.refl w.heap.size w) n1) (pw_below_drewN (Below.refl w.heap.size w) n1).size hb); clear hb)
    | (go_at_call 15; (with_reducible refine (fixed_Add.calls 200 A c l sm _ (Kd.C_below HC.out hbw.out) hc C2.out).mono ?_); rintro e w' ⟨rfl, ⟨n2, rfl⟩⟩)
    | (go_at_call 24; (with_reducible refine (within_c _ (by assumption) (by assumption) _).mono ?_); rintro e w' ⟨rfl, rfl⟩)
    | (go_at_call 17; (with_reducible refine (fixed_Sub.calls a1 a2 (-s) _ C4.out).mono ?_); rintro e w' ⟨rfl, ⟨n3, rfl⟩⟩)
    | (go_at_call 17; (with_reducible refine (fixed_Sub.calls a2 a1 s _ C3.out).mono ?_); rintro e w' ⟨rfl, ⟨n4, rfl⟩⟩)
    | (go_at_call 13; (with_reducible refine (fixed_Held.calls a3 h _ C7.out).mono ?_); rintro e w' ⟨rfl, ⟨n5, rfl⟩⟩)
    | (go_at_call 21; (with_reducible refine (fixed_Far.calls a1 a2 a3 a1 f _ C5.out).mono ?_); rintro e w' ⟨rfl, hb⟩; have hc1 := Aside0.mk hb; clear hb)
    | (go_at_call 21; (with_reducible refine (fixed_Far.calls a3 a1 a1 a2 f _ C6.out).mono ?_); rintro e w' ⟨rfl, hb⟩; have hc2 := Aside0.mk hb; clear hb)
    | fail)
  go_ret
  exact ⟨rfl, pw_below_drewN (chain0 (chain0 (chain0 (pw_below_drewN hbw.out _) (Aside0.out (by assumption))) hc1.out) hc2.out) _⟩

theorem bounds_walk (a1 a2 a3 : Int) (A : Option Addr) (len cap : Nat) (zs : List Int) (w : World)
    (hz : (A = none ∧ len = 0 ∧ cap = 0 ∧ zs = []) ∨ ∃ x, A = some x ∧ len ≤ cap ∧ cap ≤ maxLen ∧ zs.length = cap ∧ (∀ i, i < zs.length → w.cell? (x.add i) = some (.int .i64 (zs.getD i 0))) ∧ ∀ n ∈ zs, (Lit.int .i64 n).wf = true) :
    Calls Try.prog 4 #[.slice A len cap, .int .i64 a1, .int .i64 a2, .int .i64 a3] w fun e w' => e = .returned (.bool true) ∧ Below w.heap.size w w' := by
  obtain ⟨l, rfl, hr, hm, hw, hc⟩ := ReadsInt.ofRowC hz
  by_cases h : l.length ≤ 100
  · exact short_walk a1 a2 a3 A cap l w (Kd.C_of_reads (d := (0 : Int)) (h1 := fun _ => rfl) hr) hc h
  · exact long_walk a1 a2 a3 A cap l.length w hm (by omega)
end Go.Proofs.Ytdodnhpboddheaa.Bounds
