/- '==' of two messages; Same and Plain over lists that are alike. -/
import Derived.Test.YtnenhlgpkfelcaaFork2
import Derived.Test.YtnenhlgpkfelcaaWEqStruct
import Derived.StillTailTactics
namespace Go.Proofs.Ytnenhlgpkfelcaa.Box2
open Go.Proofs.Ytnenhlgpkfelcaa.Box
open Go Go.RowKit Go.Maps Go.Proofs.Ytnenhlgpkfelcaa.POutboxPlays Go.Proofs.YtnenhlgpkfelcaaW.PrintWords Go.Proofs.YtnenhlgpkfelcaaW.PrintLast Go.Proofs.YtnenhlgpkfelcaaW.PrintMore
set_option linter.unusedVariables false
set_option linter.unusedSimpArgs false
theorem eqI (d : Nat) (a b : Int) (W : World) : (Op.equalIn (d + 1) 3 (.int .i64 a) (.int .i64 b)).run Try.prog W = .ok (a == b) W := by
  have hu := Try.underlying3
  simp [Op.equalIn, run_underlying hu]
theorem eqSelf (q : S36) (W : World) : (binOp .eql 36 (.agg #[.int .i64 q.f0, .int .i64 q.f1, .int .i64 q.f2, .int .i64 q.f3, .int .i64 q.f4.f0, .int .i64 q.f4.f1, .int .i64 q.f4.f2, .int .i64 q.f4.f3, .int .i64 q.f4.f4, .int .i64 q.f4.f5, .int .i64 q.f4.f6, .int .i64 q.f4.f7, .int .i64 q.f4.f8, .int .i64 q.f5, .int .i64 q.f6]) (.agg #[.int .i64 q.f0, .int .i64 q.f1, .int .i64 q.f2, .int .i64 q.f3, .int .i64 q.f4.f0, .int .i64 q.f4.f1, .int .i64 q.f4.f2, .int .i64 q.f4.f3, .int .i64 q.f4.f4, .int .i64 q.f4.f5, .int .i64 q.f4.f6, .int .i64 q.f4.f7, .int .i64 q.f4.f8, .int .i64 q.f5, .int .i64 q.f6])).run Try.prog W = .ok (.bool true) W := by
  have h := eqA_of (P := Try.prog) (d := 9999) (w := W) (xs := #[.int .i64 q.f0, .int .i64 q.f1, .int .i64 q.f2, .int .i64 q.f3, .int .i64 q.f4.f0, .int .i64 q.f4.f1, .int .i64 q.f4.f2, .int .i64 q.f4.f3, .int .i64 q.f4.f4, .int .i64 q.f4.f5, .int .i64 q.f4.f6, .int .i64 q.f4.f7, .int .i64 q.f4.f8, .int .i64 q.f5, .int .i64 q.f6]) (ys := #[.int .i64 q.f0, .int .i64 q.f1, .int .i64 q.f2, .int .i64 q.f3, .int .i64 q.f4.f0, .int .i64 q.f4.f1, .int .i64 q.f4.f2, .int .i64 q.f4.f3, .int .i64 q.f4.f4, .int .i64 q.f4.f5, .int .i64 q.f4.f6, .int .i64 q.f4.f7, .int .i64 q.f4.f8, .int .i64 q.f5, .int .i64 q.f6]) Try.underlying36 (by kernel_rfl)
    (eqf_cons (by rfl) (by rfl) (by rfl) (eqI _ _ _ _) (eqf_cons (by rfl) (by rfl) (by rfl) (eqI _ _ _ _) (eqf_cons (by rfl) (by rfl) (by rfl) (eqI _ _ _ _) (eqf_cons (by rfl) (by rfl) (by rfl) (eqI _ _ _ _) (eqf_cons (by rfl) (by rfl) (by rfl) (eqA_of (P := Try.prog) (d := 9998) (w := W) Try.underlying34 (by kernel_rfl) (eqf_cons (by rfl) (by rfl) (by rfl) (eqI _ _ _ _) (eqf_cons (by rfl) (by rfl) (by rfl) (eqI _ _ _ _) (eqf_cons (by rfl) (by rfl) (by rfl) (eqI _ _ _ _) (eqf_cons (by rfl) (by rfl) (by rfl) (eqI _ _ _ _) (eqf_cons (by rfl) (by rfl) (by rfl) (eqI _ _ _ _) (eqf_cons (by rfl) (by rfl) (by rfl) (eqI _ _ _ _) (eqf_cons (by rfl) (by rfl) (by rfl) (eqI _ _ _ _) (eqf_cons (by rfl) (by rfl) (by rfl) (eqI _ _ _ _) (eqf_last (by rfl) (by rfl) (by rfl) (eqI _ _ _ _))))))))))) (eqf_cons (by rfl) (by rfl) (by rfl) (eqI _ _ _ _) (eqf_last (by rfl) (by rfl) (by rfl) (eqI _ _ _ _))))))))
  simp only [binOp]
  simp [Op.equal, Op.maxDepth, h]
theorem neSelf (q : S36) (W : World) : (binOp .neq 36 (.agg #[.int .i64 q.f0, .int .i64 q.f1, .int .i64 q.f2, .int .i64 q.f3, .int .i64 q.f4.f0, .int .i64 q.f4.f1, .int .i64 q.f4.f2, .int .i64 q.f4.f3, .int .i64 q.f4.f4, .int .i64 q.f4.f5, .int .i64 q.f4.f6, .int .i64 q.f4.f7, .int .i64 q.f4.f8, .int .i64 q.f5, .int .i64 q.f6]) (.agg #[.int .i64 q.f0, .int .i64 q.f1, .int .i64 q.f2, .int .i64 q.f3, .int .i64 q.f4.f0, .int .i64 q.f4.f1, .int .i64 q.f4.f2, .int .i64 q.f4.f3, .int .i64 q.f4.f4, .int .i64 q.f4.f5, .int .i64 q.f4.f6, .int .i64 q.f4.f7, .int .i64 q.f4.f8, .int .i64 q.f5, .int .i64 q.f6])).run Try.prog W = .ok (.bool false) W := by
  have h := eqA_of (P := Try.prog) (d := 9999) (w := W) (xs := #[.int .i64 q.f0, .int .i64 q.f1, .int .i64 q.f2, .int .i64 q.f3, .int .i64 q.f4.f0, .int .i64 q.f4.f1, .int .i64 q.f4.f2, .int .i64 q.f4.f3, .int .i64 q.f4.f4, .int .i64 q.f4.f5, .int .i64 q.f4.f6, .int .i64 q.f4.f7, .int .i64 q.f4.f8, .int .i64 q.f5, .int .i64 q.f6]) (ys := #[.int .i64 q.f0, .int .i64 q.f1, .int .i64 q.f2, .int .i64 q.f3, .int .i64 q.f4.f0, .int .i64 q.f4.f1, .int .i64 q.f4.f2, .int .i64 q.f4.f3, .int .i64 q.f4.f4, .int .i64 q.f4.f5, .int .i64 q.f4.f6, .int .i64 q.f4.f7, .int .i64 q.f4.f8, .int .i64 q.f5, .int .i64 q.f6]) Try.underlying36 (by kernel_rfl)
    (eqf_cons (by rfl) (by rfl) (by rfl) (eqI _ _ _ _) (eqf_cons (by rfl) (by rfl) (by rfl) (eqI _ _ _ _) (eqf_cons (by rfl) (by rfl) (by rfl) (eqI _ _ _ _) (eqf_cons (by rfl) (by rfl) (by rfl) (eqI _ _ _ _) (eqf_cons (by rfl) (by rfl) (by rfl) (eqA_of (P := Try.prog) (d := 9998) (w := W) Try.underlying34 (by kernel_rfl) (eqf_cons (by rfl) (by rfl) (by rfl) (eqI _ _ _ _) (eqf_cons (by rfl) (by rfl) (by rfl) (eqI _ _ _ _) (eqf_cons (by rfl) (by rfl) (by rfl) (eqI _ _ _ _) (eqf_cons (by rfl) (by rfl) (by rfl) (eqI _ _ _ _) (eqf_cons (by rfl) (by rfl) (by rfl) (eqI _ _ _ _) (eqf_cons (by rfl) (by rfl) (by rfl) (eqI _ _ _ _) (eqf_cons (by rfl) (by rfl) (by rfl) (eqI _ _ _ _) (eqf_cons (by rfl) (by rfl) (by rfl) (eqI _ _ _ _) (eqf_last (by rfl) (by rfl) (by rfl) (eqI _ _ _ _))))))))))) (eqf_cons (by rfl) (by rfl) (by rfl) (eqI _ _ _ _) (eqf_last (by rfl) (by rfl) (by rfl) (eqI _ _ _ _))))))))
  simp only [binOp]
  simp [Op.equal, Op.maxDepth, h]
theorem clos_c (q : S36) (w : World) : Calls Try.prog 27 #[.agg #[.int .i64 q.f0, .int .i64 q.f1, .int .i64 q.f2, .int .i64 q.f3, .int .i64 q.f4.f0, .int .i64 q.f4.f1, .int .i64 q.f4.f2, .int .i64 q.f4.f3, .int .i64 q.f4.f4, .int .i64 q.f4.f5, .int .i64 q.f4.f6, .int .i64 q.f4.f7, .int .i64 q.f4.f8, .int .i64 q.f5, .int .i64 q.f6], .agg #[.int .i64 q.f0, .int .i64 q.f1, .int .i64 q.f2, .int .i64 q.f3, .int .i64 q.f4.f0, .int .i64 q.f4.f1, .int .i64 q.f4.f2, .int .i64 q.f4.f3, .int .i64 q.f4.f4, .int .i64 q.f4.f5, .int .i64 q.f4.f6, .int .i64 q.f4.f7, .int .i64 q.f4.f8, .int .i64 q.f5, .int .i64 q.f6]] w fun e w' => e = .returned (.bool true) ∧ Below w.heap.size w w' := by
  have h := eqSelf q
  go_enter Try.func27, Try.ntmps27
  go_wp2_with fail
  go_ret
  exact ⟨rfl, ((Below.refl _ _).alloc (Nat.le_refl _) _).alloc (by simp) _⟩
set_option maxRecDepth 100000 in
set_option maxHeartbeats 4000000 in
theorem same_c (A A' : Option Addr) (n c c' : Nat) (l : List S36) (w : World) (HC : Kd.C k36 w A n l) (HC' : Kd.C k36 w A' n l) (hn : n ≤ 100000) :
    Calls Try.prog 26 #[.slice A n c, .slice A' n c', .func (.func 27) #[] #[]] w fun e w' => e = .returned (.bool true) ∧ Below w.heap.size w w' := by
  have hl : l.length = n := HC.1
  replace HC := Aside0.mk HC
  replace HC' := Aside0.mk HC'
  replace hl := Aside0.mk hl
  go_enter Try.func26, Try.ntmps26
  go_wp2_with fail
  go_loopw [7] (fun i wr => ∃ k : Nat, k ≤ n ∧ i = .int .i64 k ∧ Aside0 (Below w.heap.size w wr)) (fun i _ => n - (intOf i).toNat)
  case atStart => exact ⟨0, Nat.zero_le _, rfl, ⟨Below.refl _ _⟩⟩
  case round =>
    obtain ⟨k, hk, rfl, HB⟩ := hrel
    by_cases hlt : k < n
    · obtain ⟨ad, e1, x0, x1, x2, x3, x4, x5, x6, x7, x8, x9, x10, x11, x12, x13, x14⟩ := at_T36 (Kd.C_below HC.out HB.out) (k : Int) (by omega) (by omega)
      obtain ⟨ad', e2, y0, y1, y2, y3, y4, y5, y6, y7, y8, y9, y10, y11, y12, y13, y14⟩ := at_T36 (Kd.C_below HC'.out HB.out) (k : Int) (by omega) (by omega)
      rw [Int.toNat_natCast] at x0 x1 x2 x3 x4 x5 x6 x7 x8 x9 x10 x11 x12 x13 x14 y0 y1 y2 y3 y4 y5 y6 y7 y8 y9 y10 y11 y12 y13 y14
      subst e1
      subst e2
      generalize rd_T36 l (k : Int) = q at *
      have kc := Aside0.mk (clos_c q)
      have b0 : (0 : Int) ≤ (k : Int) := by omega
      have b1 : (k : Int) < (n : Int) := by omega
      go_wp2_with fail
      go_still_tail 9, (by kernel_rfl)
      go_wp2_with (first
        | (go_at_call 27; (with_reducible refine (kc.out _).mono ?_); rintro e w3 ⟨rfl, hb3⟩; replace HB := Aside0.mk (below_then (below_drew HB.out) (below_drew HB.out).size hb3); clear hb3)
        | fail)
      go_roundw
      case rel => exact ⟨k + 1, by omega, by go_num, HB⟩
      case measure => simp [intOf]; omega
    · have b1 : ¬ ((k : Int) < (n : Int)) := by omega
      go_wp2_with fail
      go_ret
      exact ⟨rfl, HB.out⟩
/-- Plain over two lists that are alike -/
theorem plain_c (A A' : Option Addr) (n c c' : Nat) (l : List S36) (w : World) (HC : Kd.C k36 w A n l) (HC' : Kd.C k36 w A' n l) (hn : n ≤ 100000) :
    Calls Try.prog 19 #[.slice A n c, .slice A' n c'] w fun e w' => e = .returned (.bool true) ∧ Below w.heap.size w w' := by
  have ks := Aside0.mk (same_c A A' n c c' l w HC HC' hn)
  clear HC HC'
  go_enter Try.func19, Try.ntmps19
  go_wp2_with (first
    | (go_at_call 26; (with_reducible refine ks.out.mono ?_); rintro e w3 ⟨rfl, hb3⟩; replace hb3 := Aside0.mk hb3)
    | fail)
  go_ret
  exact ⟨rfl, hb3.out⟩
end Go.Proofs.Ytnenhlgpkfelcaa.Box2
