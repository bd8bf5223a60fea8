/- The plain arithmetic of ChanceOrder: the chance of a list with one more number behind it is another one for another last number; for every seed and list of numbers. -/
import Derived.Test.YtonlibdfakmgoaaPChanceOrderx1
import Derived.Test.YtonlibdfakmgoaaMix
namespace Go.Proofs.Ytonlibdfakmgoaa.Order
open Go.RowKit Go.Proofs.Ytonlibdfakmgoaa.PChanceOrder Go.Proofs.YtonlibdfakmgoaaW.PrintWords Go.Proofs.YtonlibdfakmgoaaW.PrintLast
open Go.Proofs.Ytonlibdfakmgoaa.Mixing

theorem or_mix (a : Int) : chance_Mix.f a = some (mix a) := rfl
theorem or_awake8 : joustlaw02_awake.f 8 = some true := by decide +kernel
theorem or_awake {k : Nat} (hk : 8 ≤ k) : joustlaw02_awake.f k = some true := at_rounds joustlaw02_awake.mono hk or_awake8

/-- one number more -/
def one (x v : Int) : Int := mix (IntKind.u64.wrap (IntKind.u64.wrap (x + IntKind.u64.wrap v) + 11400714819323198485))

theorem or_at (l : List Int) (hl : l.length ≤ 101) (d : Nat) : ∀ (k : Nat) (x : Int) (i : Nat), l.length - i = d → i ≤ l.length → d < k →
    chance_At.l0 k x l (l.length : Int) (i : Int) = some ((l.drop i).foldl one x) := by
  induction d with
  | zero =>
    intro k x i hd hi hk
    obtain ⟨k, rfl⟩ : ∃ m, k = m + 1 := ⟨k - 1, by omega⟩
    simp only [chance_At.l0]
    rw [if_neg (by omega), List.drop_of_length_le (by omega)]
    rfl
  | succ d ih =>
    intro k x i hd hi hk
    obtain ⟨k, rfl⟩ : ∃ m, k = m + 1 := ⟨k - 1, by omega⟩
    have hw : wrap64 ((i : Int) + 1) = ((i + 1 : Nat) : Int) := by unfold wrap64; omega
    simp only [chance_At.l0]
    rw [if_pos (by omega), if_pos (by omega), if_pos (by omega), or_mix]
    simp only [Option.bind_some]
    rw [hw, ih k _ (i + 1) (by omega) (by omega) (by omega)]
    have hlt : i < l.length := by omega
    rw [List.drop_eq_getElem_cons hlt]
    have hrd : rd l (i : Int) = l[i] := by simp [rd, List.getD_eq_getElem?_getD, List.getElem?_eq_getElem hlt]
    rw [hrd]
    rfl

theorem or_at_f (k : Nat) (seed : Int) (l : List Int) (hl : l.length ≤ 101) (hk : l.length < k) : chance_At.f k seed l = some (l.foldl one (mix seed)) := by
  unfold chance_At.f
  rw [or_mix]
  simp only [Option.bind_some]
  have := or_at l hl l.length k (mix seed) 0 (by omega) (by omega) hk
  simpa using this

theorem or_last (seed : Int) (l : List Int) {a b : Int} (ha : (Lit.int .i64 a).wf = true) (hb : (Lit.int .i64 b).wf = true) :
    (((l ++ [a]).foldl one (mix seed) == (l ++ [b]).foldl one (mix seed)) == (a == b)) = true := by
  have h1 : -9223372036854775808 ≤ a ∧ a ≤ 9223372036854775807 := by simpa [Lit.wf, IntKind.min, IntKind.max, IntKind.signed, IntKind.bits] using ha
  have h2 : -9223372036854775808 ≤ b ∧ b ≤ 9223372036854775807 := by simpa [Lit.wf, IntKind.min, IntKind.max, IntKind.signed, IntKind.bits] using hb
  rw [List.foldl_append, List.foldl_append]
  generalize l.foldl one (mix seed) = x
  simp only [List.foldl_cons, List.foldl_nil]
  by_cases e : a = b
  · subst e; simp
  · have hne : one x a ≠ one x b := by
      intro h
      unfold one at h
      have := mix_inj (by rw [IntKind.wrap_u64]; omega) (by rw [IntKind.wrap_u64]; omega) (by rw [IntKind.wrap_u64]; omega) (by rw [IntKind.wrap_u64]; omega) h
      simp only [IntKind.wrap_u64] at this
      omega
    rw [beq_eq_false_iff_ne.2 e, beq_eq_false_iff_ne.2 hne]
    rfl
end Go.Proofs.Ytonlibdfakmgoaa.Order
