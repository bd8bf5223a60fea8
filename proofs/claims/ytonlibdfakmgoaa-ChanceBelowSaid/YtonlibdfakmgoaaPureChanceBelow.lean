/- ChanceBelow: what is told is from 0 up and below what was asked, told twice it is the same, and two numbers have one Mix only if they are one; for every seed, every other number, every n, every list of at most 100 numbers (a longer list asks nothing but awake). -/
import Derived.Test.YtonlibdfakmgoaaPChanceBelowx1
import Derived.Test.YtonlibdfakmgoaaMix
namespace Go.Proofs.Ytonlibdfakmgoaa.Pure
open Go.RowKit Go.Proofs.Ytonlibdfakmgoaa.PChanceBelow Go.Proofs.YtonlibdfakmgoaaW.PrintWords Go.Proofs.YtonlibdfakmgoaaW.PrintLast
open Go.Proofs.Ytonlibdfakmgoaa.Mixing

theorem be_mix (a : Int) : chance_Mix.f a = some (mix a) := rfl
theorem be_awake8 : joustlaw02_awake.f 8 = some true := by decide +kernel
theorem be_awake {k : Nat} (hk : 8 ≤ k) : joustlaw02_awake.f k = some true := at_rounds joustlaw02_awake.mono hk be_awake8

theorem be_at (l : List Int) (hl : l.length ≤ 100) (d : Nat) : ∀ (k : Nat) (x i : Int), 0 ≤ x → x < 18446744073709551616 → 0 ≤ i → (l.length : Int) - i = d → d < k →
    ∃ r, chance_At.l0 k x l (l.length : Int) i = some r ∧ 0 ≤ r ∧ r < 18446744073709551616 := by
  induction d with
  | zero =>
    intro k x i hx0 hx h0 hd hk
    obtain ⟨k, rfl⟩ : ∃ m, k = m + 1 := ⟨k - 1, by omega⟩
    exact ⟨x, by simp only [chance_At.l0]; rw [if_neg (by omega)], hx0, hx⟩
  | succ d ih =>
    intro k x i hx0 hx h0 hd hk
    obtain ⟨k, rfl⟩ : ∃ m, k = m + 1 := ⟨k - 1, by omega⟩
    have hw : wrap64 (i + 1) = i + 1 := by unfold wrap64; omega
    simp only [chance_At.l0]
    rw [if_pos (by omega), if_pos h0, if_pos (by omega), be_mix]
    simp only [Option.bind_some]
    rw [hw]
    exact ih k _ (i + 1) mix_range.1 mix_range.2 (by omega) (by omega) (by omega)

theorem be_below (k : Nat) (n seed : Int) (l : List Int) (hl : l.length ≤ 100) (hk : l.length < k) (hn : n ≤ 9223372036854775807) :
    ∃ r, chance_Below.f k n seed l = some r ∧ 0 ≤ r ∧ (n < 1 ∧ r = 0 ∨ 1 ≤ n ∧ r < n) := by
  unfold chance_Below.f
  by_cases h : n < 1
  · exact ⟨0, by rw [if_pos h], by omega, .inl ⟨h, rfl⟩⟩
  · rw [if_neg h]
    obtain ⟨r, hr, h0, h1⟩ := be_at l hl l.length k (mix seed) 0 mix_range.1 mix_range.2 (by omega) (by omega) hk
    have hw : IntKind.u64.wrap n = n := by rw [IntKind.wrap_u64]; omega
    have e : chance_At.f k seed l = some r := by unfold chance_At.f; rw [be_mix]; exact hr
    rw [e]
    simp only [Option.bind_some]
    rw [hw, if_neg (by omega)]
    have hm0 : 0 ≤ r.tmod n := Int.tmod_nonneg n h0
    have hm1 : r.tmod n < n := Int.tmod_lt_of_pos r (by omega)
    have hw2 : wrap64 (r.tmod n) = r.tmod n := by unfold wrap64; omega
    exact ⟨r.tmod n, by rw [hw2], hm0, .inr ⟨by omega, hm1⟩⟩

theorem be_eq {a b : Int} (ha : (Lit.int .u64 a).wf = true) (hb : (Lit.int .u64 b).wf = true) : ((mix a == mix b) == (a == b)) = true := by
  have h1 : 0 ≤ a ∧ a ≤ 18446744073709551615 := by simpa [Lit.wf, IntKind.min, IntKind.max, IntKind.signed, IntKind.bits] using ha
  have h2 : 0 ≤ b ∧ b ≤ 18446744073709551615 := by simpa [Lit.wf, IntKind.min, IntKind.max, IntKind.signed, IntKind.bits] using hb
  by_cases e : a = b
  · subst e; simp
  · have hne : mix a ≠ mix b := fun h => e (mix_inj h1.1 (by omega) h2.1 (by omega) h)
    rw [beq_eq_false_iff_ne.2 e, beq_eq_false_iff_ne.2 hne]
    rfl

theorem ChanceBelow : joustlaw02_ChanceBelow.Pure := by
  intro a b n l ha hb hn _ _ _
  have hn2 : n ≤ 9223372036854775807 := by
    have h : -9223372036854775808 ≤ n ∧ n ≤ 9223372036854775807 := by simpa [Lit.wf, IntKind.min, IntKind.max, IntKind.signed, IntKind.bits] using hn
    exact h.2
  refine ⟨l.length + 8, ?_⟩
  unfold joustlaw02_ChanceBelow.f
  rw [be_awake (by omega)]
  by_cases hl : (l.length : Int) > 100
  · rw [if_pos hl]; rfl
  · rw [if_neg hl]
    obtain ⟨r, hr, h0, h⟩ := be_below (l.length + 8) n a l (by omega) (by omega) hn2
    rw [hr]
    simp only [Option.bind_some, if_true, be_mix, be_eq ha hb]
    rw [if_pos (by omega : r ≥ 0)]
    rcases h with ⟨h1, h2⟩ | ⟨h1, h2⟩
    · rw [if_pos h1, if_pos h2]
    · rw [if_neg (by omega), if_pos (by omega : n ≥ 1), if_pos h2]
end Go.Proofs.Ytonlibdfakmgoaa.Pure
