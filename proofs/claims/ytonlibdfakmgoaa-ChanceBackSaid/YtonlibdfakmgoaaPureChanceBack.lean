/- ChanceBack: what Mix makes of a number can be gone back to it, and Mix of 0 is 0; for every number of 64 bits. -/
import Derived.Test.YtonlibdfakmgoaaPChanceBackx1
import Derived.Test.YtonlibdfakmgoaaMix
namespace Go.Proofs.Ytonlibdfakmgoaa.Pure
open Go.RowKit Go.Proofs.Ytonlibdfakmgoaa.PChanceBack Go.Proofs.YtonlibdfakmgoaaW.PrintWords Go.Proofs.YtonlibdfakmgoaaW.PrintLast
open Go.Proofs.Ytonlibdfakmgoaa.Mixing

theorem cb_mix (a : Int) : chance_Mix.f a = some (mix a) := rfl
theorem cb_awake : joustlaw02_awake.f 8 = some true := by decide +kernel
theorem cb_t2 : joustlaw02_turned.f 8 14181476777654086739 = some 11291846944257947611 := by decide +kernel
theorem cb_t1 : joustlaw02_turned.f 8 18397679294719823053 = some 5725274745694666757 := by decide +kernel

theorem ChanceBack : joustlaw02_ChanceBack.Pure := by
  intro a h
  have hb : 0 ≤ a ∧ a ≤ 18446744073709551615 := by simpa [Lit.wf, IntKind.min, IntKind.max, IntKind.signed, IntKind.bits] using h
  refine ⟨8, ?_⟩
  unfold joustlaw02_ChanceBack.f
  rw [cb_mix, cb_t2, cb_t1, cb_awake]
  simp only [Option.bind_some, if_true]
  have e := back_mix hb.1 (by omega : a < 18446744073709551616)
  unfold back ml sh at e
  rw [if_pos e, cb_mix, mix_zero]
  rfl
end Go.Proofs.Ytonlibdfakmgoaa.Pure
