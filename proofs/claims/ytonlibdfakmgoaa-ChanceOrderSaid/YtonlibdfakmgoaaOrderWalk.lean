/- The walk through ChanceOrder: it returns true and what lay in memory stays; for every seed, every list that is read, every two last numbers. -/
import Derived.Test.YtonlibdfakmgoaaOrderPure
import Derived.Outline
namespace Go.Proofs.Ytonlibdfakmgoaa.Order
open Go.RowKit Go.Proofs.Ytonlibdfakmgoaa.PChanceOrder Go.Proofs.YtonlibdfakmgoaaW.PrintWords Go.Proofs.YtonlibdfakmgoaaW.PrintLast Go.Proofs.YtonlibdfakmgoaaW.PrintMore
open Go.Proofs.Ytonlibdfakmgoaa.Mixing
set_option linter.unusedVariables false

set_option maxHeartbeats 800000 in
theorem long_walk (a0 a2 a3 : Int) (A : Option Addr) (c n : Nat) (w : World) (hn : n ≤ maxLen) (hl : 100 < n) :
    Calls Try.prog 3 #[.int .u64 a0, .slice A n c, .int .i64 a2, .int .i64 a3] w fun e w' => e = .returned (.bool true) ∧ Below w.heap.size w w' := by
  unfold maxLen at hn
  have hlt : decide ((100 : Int) < (n : Int)) = true := by simp; omega
  go_enter Try.func3, Try.ntmps3
  go_wp2_with (first | (go_at_call 7; (with_reducible refine (joustlaw02_awake.calls 8 true _ or_awake8).mono ?_); rintro e w' ⟨rfl, hb⟩))
  go_ret
  exact ⟨rfl, hb⟩

set_option maxHeartbeats 800000 in
theorem short_walk (a0 a2 a3 : Int) (A : Option Addr) (c : Nat) (l : List Int) (w : World) (HC : Kd.C (Kd.int .i64) w A l.length l) (hc : l.length ≤ c) (hl : l.length ≤ 100)
    (h2 : (Lit.int .i64 a2).wf = true) (h3 : (Lit.int .i64 a3).wf = true) :
    Calls Try.prog 3 #[.int .u64 a0, .slice A l.length c, .int .i64 a2, .int .i64 a3] w fun e w' => e = .returned (.bool true) ∧ Below w.heap.size w w' := by
  have hlt : decide ((100 : Int) < (l.length : Int)) = false := by simp; omega
  obtain ⟨r1, hr1⟩ : ∃ r, (l ++ [a2]).foldl one (mix a0) = r := ⟨_, rfl⟩
  obtain ⟨r2, hr2⟩ : ∃ r, (l ++ [a3]).foldl one (mix a0) = r := ⟨_, rfl⟩
  have hlast := or_last a0 l h2 h3
  rw [hr1, hr2] at hlast
  have C1 : chance_At.f 200 a0 (l ++ [a2]) = some r1 := by rw [← hr1]; exact or_at_f 200 a0 _ (by simp; omega) (by simp; omega)
  have C2 : chance_At.f 200 a0 (l ++ [a3]) = some r2 := by rw [← hr2]; exact or_at_f 200 a0 _ (by simp; omega) (by simp; omega)
  have C3 : chance_At.f 200 a0 [] = some (mix a0) := or_at_f 200 a0 [] (by simp) (by simp)
  have C4 : chance_Mix.f a0 = some (mix a0) := or_mix a0
  obtain ⟨y1, hy1⟩ : ∃ y, y = l ++ [a2] := ⟨_, rfl⟩
  obtain ⟨y2, hy2⟩ : ∃ y, y = l ++ [a3] := ⟨_, rfl⟩
  rw [← hy1] at C1
  rw [← hy2] at C2
  have Ny1 := Aside0.mk hy1
  have Ny2 := Aside0.mk hy2
  replace C1 := Aside0.mk C1
  replace C2 := Aside0.mk C2
  replace C3 := Aside0.mk C3
  replace C4 := Aside0.mk C4
  replace HC := Aside0.mk HC
  clear hr1 hr2 h2 h3 hy1 hy2
  generalize hm : mix a0 = m at *
  clear hm
  have CN : Aside0 (∀ W, Calls Try.prog 8 #[.int .u64 a0, .slice none 0 0] W fun e w' => e = .returned (.int .u64 m) ∧ Drawn0 W w') := ⟨fun W => chance_At.calls 200 a0 none 0 [] m W (Kd.C_nil _ _) (Nat.le_refl _) C3.out⟩
  go_enter Try.func3, Try.ntmps3
  go_wp2_with (first
    | ((with_reducible refine gate_dst (N := 17) rfl ?_); refine Kd.R_append_row (w0 := w) (enc := fun x => Value.int .i64 x) (0 : Int) (h1 := fun _ => rfl) w.heap.size rfl (.const (.slice none 0 0)) (.tmp 16) 23 3 (.int .i64 0) 8 rfl Try.underlying23 info3 rfl (by omega) (.slice none 0 0) [] l A l.length c (fun _ => True) rfl rfl (fun _ _ => trivial) (Kd.R_nil _ _ _ _ _) HC.out (Below.refl _ _) (Nat.le_refl _) (by simp; omega) ?_; intro v1 w1 ho1 hb1 hg1 hat1; rw [List.nil_append] at ho1; obtain ⟨A1, c1, e1⟩ := Kd.R_slice ho1; subst e1; replace ho1 := Aside0.mk ho1; replace hb1 := Aside0.mk hb1; clear hg1 hat1)
    | ((with_reducible refine gate_dst (N := 20) rfl ?_); refine Kd.R_append (Kd.int .i64) (w0 := w) w.heap.size rfl (.tmp 17) (.tmp 19) 23 3 (.int .i64 0) 8 rfl Try.underlying23 info3 rfl (by decide) (by omega) _ l a2 [.int .i64 a2] (fun _ => True) (fun _ => False) rfl rfl rfl (fun _ hk => hk.elim) (fun _ _ => trivial) ho1.out hb1.out hb1.out.size (by omega) ?_; intro v2 w2 ho2 hb2 hg2 hat2; rw [← Ny1.out] at ho2; obtain ⟨A2, c2, e2⟩ := Kd.R_slice ho2; subst e2; replace ho2 := Aside0.mk ho2; replace hb2 := Aside0.mk hb2; clear hg2 hat2)
    | (go_at_call 8; (with_reducible refine (chance_At.calls 200 a0 _ _ y1 r1 _ (Kd.R_reads' ho2.out).2.2 (Kd.R_reads' ho2.out).2.1 C1.out).mono ?_); rintro e w' ⟨rfl, ⟨nd, rfl⟩⟩)
    | ((with_reducible refine gate_dst (N := 24) rfl ?_); refine Kd.R_append_row (w0 := w) (enc := fun x => Value.int .i64 x) (0 : Int) (h1 := fun _ => rfl) w.heap.size rfl (.const (.slice none 0 0)) (.tmp 23) 23 3 (.int .i64 0) 8 rfl Try.underlying23 info3 rfl (by omega) (.slice none 0 0) [] l A l.length c (fun _ => True) rfl rfl (fun _ _ => trivial) (Kd.R_nil _ _ _ _ _) (Kd.C_below HC.out (pw_below_drewN hb2.out nd)) (pw_below_drewN hb2.out nd) (pw_below_drewN hb2.out nd).size (by simp; omega) ?_; intro v3 w3 ho3 hb3 hg3 hat3; rw [List.nil_append] at ho3; obtain ⟨A3, c3, e3⟩ := Kd.R_slice ho3; subst e3; replace ho3 := Aside0.mk ho3; replace hb3 := Aside0.mk hb3; clear hg3 hat3)
    | ((with_reducible refine gate_dst (N := 27) rfl ?_); refine Kd.R_append (Kd.int .i64) (w0 := w) w.heap.size rfl (.tmp 24) (.tmp 26) 23 3 (.int .i64 0) 8 rfl Try.underlying23 info3 rfl (by decide) (by omega) _ l a3 [.int .i64 a3] (fun _ => True) (fun _ => False) rfl rfl rfl (fun _ hk => hk.elim) (fun _ _ => trivial) ho3.out hb3.out hb3.out.size (by omega) ?_; intro v4 w4 ho4 hb4 hg4 hat4; rw [← Ny2.out] at ho4; obtain ⟨A4, c4, e4⟩ := Kd.R_slice ho4; subst e4; replace ho4 := Aside0.mk ho4; replace hb4 := Aside0.mk hb4; clear hg4 hat4)
    | (go_at_call 8; (with_reducible refine (chance_At.calls 200 a0 _ _ y2 r2 _ (Kd.R_reads' ho4.out).2.2 (Kd.R_reads' ho4.out).2.1 C2.out).mono ?_); rintro e w' ⟨rfl, ⟨nd2, rfl⟩⟩)
    | (go_at_call 7; (with_reducible refine (joustlaw02_awake.calls 8 true _ or_awake8).mono ?_); rintro e w' ⟨rfl, hb5⟩; replace hb5 := Aside0.mk hb5)
    | (go_at_call 8; (with_reducible refine (CN.out _).mono ?_); rintro e w' ⟨rfl, ⟨nd3, rfl⟩⟩)
    | (go_at_call 9; (with_reducible refine (chance_Mix.calls a0 m _ C4.out).mono ?_); rintro e w' ⟨rfl, ⟨nd4, rfl⟩⟩)
    | fail)
  go_ret
  exact ⟨rfl, pw_below_drewN (below_then (pw_below_drewN hb4.out _) (pw_below_drewN hb4.out _).size hb5.out) _⟩

theorem order_walk (a0 a2 a3 : Int) (A : Option Addr) (len cap : Nat) (zs : List Int) (w : World) (h2 : (Lit.int .i64 a2).wf = true) (h3 : (Lit.int .i64 a3).wf = true)
    (hz : (A = none ∧ len = 0 ∧ cap = 0 ∧ zs = []) ∨ ∃ x, A = some x ∧ len ≤ cap ∧ cap ≤ maxLen ∧ zs.length = cap ∧ (∀ i, i < zs.length → w.cell? (x.add i) = some (.int .i64 (zs.getD i 0))) ∧ ∀ n ∈ zs, (Lit.int .i64 n).wf = true) :
    Calls Try.prog 3 #[.int .u64 a0, .slice A len cap, .int .i64 a2, .int .i64 a3] w fun e w' => e = .returned (.bool true) ∧ Below w.heap.size w w' := by
  obtain ⟨l, rfl, hr, hm, hw, hc⟩ := ReadsInt.ofRowC hz
  by_cases h : l.length ≤ 100
  · exact short_walk a0 a2 a3 A cap l w (Kd.C_of_reads (d := (0 : Int)) (h1 := fun _ => rfl) hr) hc h h2 h3
  · exact long_walk a0 a2 a3 A cap l.length w hm (by omega)
end Go.Proofs.Ytonlibdfakmgoaa.Order
