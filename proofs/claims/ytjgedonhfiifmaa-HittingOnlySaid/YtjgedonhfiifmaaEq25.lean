/- '==' of two entities. -/
import Derived.Test.YtjgedonhfiifmaaOnlyPure
import Derived.Test.YtjgedonhfiifmaaWEqStruct
namespace Go.Proofs.Ytjgedonhfiifmaa.Hit
open Go.RowKit Go.Proofs.Ytjgedonhfiifmaa.PHittingOnly Go.Proofs.YtjgedonhfiifmaaW.PrintWords Go.Proofs.YtjgedonhfiifmaaW.PrintLast Go.Proofs.YtjgedonhfiifmaaW.PrintMore
set_option linter.unusedVariables false
theorem eqI (d : Nat) (a b : Int) (W : World) : (Op.equalIn (d + 1) 3 (.int .i64 a) (.int .i64 b)).run Try.prog W = .ok (a == b) W := by
  have hu := Try.underlying3
  simp [Op.equalIn, run_underlying hu]
theorem eq25 (q e : S25) (W : World) : (binOp .eql 25 (ent q) (ent e)).run Try.prog W = .ok (.bool (q.f0 == e.f0 && (q.f1 == e.f1 && (q.f2 == e.f2 && (q.f3 == e.f3 && (q.f4 == e.f4 && (q.f5 == e.f5 && (q.f6 == e.f6 && (q.f7 == e.f7 && q.f8 == e.f8))))))))) W := by
  have h := eqA_of (P := Try.prog) (d := 9999) (w := W) (xs := cells q) (ys := cells e) Try.underlying25 (by kernel_rfl)
    (eqf_cons (by rfl) (by rfl) (by rfl) (eqI _ _ _ _) (eqf_cons (by rfl) (by rfl) (by rfl) (eqI _ _ _ _) (eqf_cons (by rfl) (by rfl) (by rfl) (eqI _ _ _ _) (eqf_cons (by rfl) (by rfl) (by rfl) (eqI _ _ _ _) (eqf_cons (by rfl) (by rfl) (by rfl) (eqI _ _ _ _) (eqf_cons (by rfl) (by rfl) (by rfl) (eqI _ _ _ _) (eqf_cons (by rfl) (by rfl) (by rfl) (eqI _ _ _ _) (eqf_cons (by rfl) (by rfl) (by rfl) (eqI _ _ _ _) (eqf_last (by rfl) (by rfl) (by rfl) (eqI _ _ _ _))))))))))
  simp only [binOp]
  unfold cells at h
  unfold ent
  simp [Op.equal, Op.maxDepth, h]
end Go.Proofs.Ytjgedonhfiifmaa.Hit
