/- '==' of two entities; Same and Plain over lists that are alike. -/
import Derived.Test.YtompkbganljbkaaAwake
import Derived.Test.YtompkbganljbkaaWEqStruct
import Derived.StillTailTactics
namespace Go.Proofs.Ytompkbganljbkaa.Rin
open Go Go.RowKit Go.Proofs.Ytompkbganljbkaa.PRingPlays Go.Proofs.YtompkbganljbkaaW.PrintWords Go.Proofs.YtompkbganljbkaaW.PrintLast Go.Proofs.YtompkbganljbkaaW.PrintMore
set_option linter.unusedVariables false
set_option linter.unusedSimpArgs false
def ecells (q : S36) : Array Value := #[.int .i64 q.f0, .int .i64 q.f1, .int .i64 q.f2, .int .i64 q.f3, .int .i64 q.f4, .int .i64 q.f5, .int .i64 q.f6, .int .i64 q.f7, .int .i64 q.f8]
theorem eqI (d : Nat) (a b : Int) (W : World) : (Op.equalIn (d + 1) 3 (.int .i64 a) (.int .i64 b)).run Try.prog W = .ok (a == b) W := by
  have hu := Try.underlying3
  simp [Op.equalIn, run_underlying hu]
theorem eq36 (q e : S36) (W : World) : (binOp .eql 36 (.agg (ecells q)) (.agg (ecells e))).run Try.prog W = .ok (.bool (q.f0 == e.f0 && (q.f1 == e.f1 && (q.f2 == e.f2 && (q.f3 == e.f3 && (q.f4 == e.f4 && (q.f5 == e.f5 && (q.f6 == e.f6 && (q.f7 == e.f7 && q.f8 == e.f8))))))))) W := by
  have h := eqA_of (P := Try.prog) (d := 9999) (w := W) (xs := ecells q) (ys := ecells e) Try.underlying36 (by kernel_rfl)
    (eqf_cons (by rfl) (by rfl) (by rfl) (eqI _ _ _ _) (eqf_cons (by rfl) (by rfl) (by rfl) (eqI _ _ _ _) (eqf_cons (by rfl) (by rfl) (by rfl) (eqI _ _ _ _) (eqf_cons (by rfl) (by rfl) (by rfl) (eqI _ _ _ _) (eqf_cons (by rfl) (by rfl) (by rfl) (eqI _ _ _ _) (eqf_cons (by rfl) (by rfl) (by rfl) (eqI _ _ _ _) (eqf_cons (by rfl) (by rfl) (by rfl) (eqI _ _ _ _) (eqf_cons (by rfl) (by rfl) (by rfl) (eqI _ _ _ _) (eqf_last (by rfl) (by rfl) (by rfl) (eqI _ _ _ _))))))))))
  simp only [binOp]
  simp [Op.equal, Op.maxDepth, h]
theorem eqSelf (q : S36) (W : World) : (binOp .eql 36 (.agg (ecells q)) (.agg (ecells q))).run Try.prog W = .ok (.bool true) W := by
  rw [eq36]
  simp
theorem clos_c (q : S36) (w : World) : Calls Try.prog 30 #[.agg (ecells q), .agg (ecells q)] w fun e w' => e = .returned (.bool true) ∧ Below w.heap.size w w' := by
  have h := eqSelf q
  unfold ecells at h ⊢
  go_enter Try.func30, Try.ntmps30
  go_wp2_with fail
  go_ret
  exact ⟨rfl, ((Below.refl _ _).alloc (Nat.le_refl _) _).alloc (by simp) _⟩
set_option maxRecDepth 100000 in
set_option maxHeartbeats 4000000 in
theorem same_c (A A' : Option Addr) (n c c' : Nat) (l : List S36) (w : World) (HC : Kd.C k36 w A n l) (HC' : Kd.C k36 w A' n l) (hn : n ≤ 100000) :
    Calls Try.prog 29 #[.slice A n c, .slice A' n c', .func (.func 30) #[] #[]] w fun e w' => e = .returned (.bool true) ∧ Below w.heap.size w w' := by
  have hl : l.length = n := HC.1
  replace HC := Aside0.mk HC
  replace HC' := Aside0.mk HC'
  replace hl := Aside0.mk hl
  go_enter Try.func29, Try.ntmps29
  go_wp2_with fail
  go_loopw [7] (fun i wr => ∃ k : Nat, k ≤ n ∧ i = .int .i64 k ∧ Aside0 (Below w.heap.size w wr)) (fun i _ => n - (intOf i).toNat)
  case atStart => exact ⟨0, Nat.zero_le _, rfl, ⟨Below.refl _ _⟩⟩
  case round =>
    obtain ⟨k, hk, rfl, HB⟩ := hrel
    by_cases hlt : k < n
    · obtain ⟨ad, e1, x0, x1, x2, x3, x4, x5, x6, x7, x8⟩ := at_T36 (Kd.C_below HC.out HB.out) (k : Int) (by omega) (by omega)
      obtain ⟨ad', e2, y0, y1, y2, y3, y4, y5, y6, y7, y8⟩ := at_T36 (Kd.C_below HC'.out HB.out) (k : Int) (by omega) (by omega)
      rw [Int.toNat_natCast] at x0 x1 x2 x3 x4 x5 x6 x7 x8 y0 y1 y2 y3 y4 y5 y6 y7 y8
      subst e1
      subst e2
      generalize rd_T36 l (k : Int) = q at *
      have kc := clos_c q
      unfold ecells at kc
      replace kc := Aside0.mk kc
      have b0 : (0 : Int) ≤ (k : Int) := by omega
      have b1 : (k : Int) < (n : Int) := by omega
      go_wp2_with fail
      go_still_tail 9, (by kernel_rfl)
      go_wp2_with (first
        | (go_at_call 30; (with_reducible refine (kc.out _).mono ?_); rintro e w3 ⟨rfl, hb3⟩; replace HB := Aside0.mk (below_then (below_drew HB.out) (below_drew HB.out).size hb3); clear hb3)
        | fail)
      go_roundw
      case rel => exact ⟨k + 1, by omega, by go_num, HB⟩
      case measure => simp [intOf]; omega
    · have b1 : ¬ ((k : Int) < (n : Int)) := by omega
      go_wp2_with fail
      go_ret
      exact ⟨rfl, HB.out⟩
/-- Plain over two lists that are alike -/
theorem plain_c (A A' : Option Addr) (n c c' : Nat) (l : List S36) (w : World) (HC : Kd.C k36 w A n l) (HC' : Kd.C k36 w A' n l) (hn : n ≤ 100000) :
    Calls Try.prog 13 #[.slice A n c, .slice A' n c'] w fun e w' => e = .returned (.bool true) ∧ Below w.heap.size w w' := by
  have ks := Aside0.mk (same_c A A' n c c' l w HC HC' hn)
  clear HC HC'
  go_enter Try.func13, Try.ntmps13
  go_wp2_with (first
    | (go_at_call 29; (with_reducible refine ks.out.mono ?_); rintro e w3 ⟨rfl, hb3⟩; replace hb3 := Aside0.mk hb3)
    | fail)
  go_ret
  exact ⟨rfl, hb3.out⟩
end Go.Proofs.Ytompkbganljbkaa.Rin
