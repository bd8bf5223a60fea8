/- What the printed functions of layer 1 come to, for FixedTells: plain arithmetic over whole numbers. -/
import Derived.Test.YtdodnhpboddheaaPFixedTellsx1
import Derived.Test.YtdodnhpboddheaaPlain
namespace Go.Proofs.Ytdodnhpboddheaa.FixedTellsFacts
open Go.RowKit Go.Proofs.Ytdodnhpboddheaa.PFixedTells Go.Proofs.YtdodnhpboddheaaW.PrintWords Go.Proofs.YtdodnhpboddheaaW.PrintLast Go.Proofs.YtdodnhpboddheaaW.PrintMore
open Go.Proofs.Ytdodnhpboddheaa.Plain

theorem pc_awake8 : joustlaw01_awake.f 8 = some true := by decide +kernel
theorem pc_awake {k : Nat} (hk : 8 ≤ k) : joustlaw01_awake.f k = some true := at_rounds joustlaw01_awake.mono hk pc_awake8
theorem pc_held (a : Int) : fixed_Held.f a = some (held a) := by
  unfold fixed_Held.f fixed_Clamp.f held
  by_cases h : a < -2147483647
  · rw [if_pos h, if_pos h]; rfl
  · rw [if_neg h, if_neg h]
    by_cases h2 : a > 2147483647
    · rw [if_pos h2, if_pos h2]; rfl
    · rw [if_neg h2, if_neg h2]; rfl
theorem pc_scale (a b d : Int) (h : d ≠ 0) : fixed_Scale.f a b d = some (ptof a b d, 0) := by
  unfold fixed_Scale.f
  rw [if_neg h]
  simp only [pc_held, Option.bind_some]
  rw [if_neg (held_ne h), prod_in, quot_in]
  rfl
theorem pc_scale0 (a b : Int) : fixed_Scale.f a b 0 = some (0, 1) := by
  unfold fixed_Scale.f
  rw [if_pos rfl]
theorem pc_sub (a b : Int) : fixed_Sub.f a b = some (sub a b) := by
  unfold fixed_Sub.f
  simp only [pc_held, Option.bind_some]
  rw [diff_in]
  rfl
theorem pc_mx (a b : Int) : mx a b = max a b := by unfold mx; omega
theorem pc_size {v : Int} (h0 : -2147483647 ≤ v) (h1 : v ≤ 2147483647) : fixed_size.f v = some (size v) := by
  unfold fixed_size.f size
  have e : wrap64 (-v) = -v := by unfold wrap64; omega
  rw [e, pc_mx]
theorem pc_far (a b c d : Int) : fixed_Far.f a b c d = some (far a b c d) := by
  unfold fixed_Far.f
  simp only [pc_sub, Option.bind_some]
  rw [pc_size (sub_range _ _).1 (sub_range _ _).2]
  simp only [Option.bind_some]
  rw [pc_size (sub_range _ _).1 (sub_range _ _).2]
  simp only [Option.bind_some]
  rw [pc_mx]
  rfl
theorem pc_add_l (l : List Int) (hl : l.length ≤ 140737488355328) (d : Nat) : ∀ (k : Nat) (x : Int) (i : Nat), -2147483647 ≤ x → x ≤ 2147483647 → l.length - i = d → i ≤ l.length → d < k →
    fixed_Add.l0 k x l (l.length : Int) (i : Int) = some ((l.drop i).foldl add x) := by
  induction d with
  | zero =>
    intro k x i _ _ hd hi hk
    obtain ⟨k, rfl⟩ : ∃ m, k = m + 1 := ⟨k - 1, by omega⟩
    simp only [fixed_Add.l0]
    rw [if_neg (by omega), List.drop_of_length_le (by omega)]
    rfl
  | succ d ih =>
    intro k x i hx0 hx1 hd hi hk
    obtain ⟨k, rfl⟩ : ∃ m, k = m + 1 := ⟨k - 1, by omega⟩
    have hw : wrap64 ((i : Int) + 1) = ((i + 1 : Nat) : Int) := by unfold wrap64; omega
    have hlt : i < l.length := by omega
    have hrd : rd l (i : Int) = l[i] := by simp [rd, List.getD_eq_getElem?_getD, List.getElem?_eq_getElem hlt]
    simp only [fixed_Add.l0]
    rw [if_pos (by omega), if_pos (by omega), if_pos (by omega), pc_held]
    simp only [Option.bind_some]
    rw [pc_held]
    simp only [Option.bind_some]
    have hs : wrap64 (x + held (rd l (i : Int))) = x + held (rd l (i : Int)) := by
      have := held_range (rd l (i : Int))
      unfold wrap64
      omega
    rw [hs, hw, ih k _ (i + 1) (held_range _).1 (held_range _).2 (by omega) (by omega) (by omega), List.drop_eq_getElem_cons hlt, hrd]
    rfl
theorem pc_add (k : Nat) (l : List Int) (hl : l.length ≤ 140737488355328) (hk : l.length < k) : fixed_Add.f k l = some (l.foldl add 0) := by
  have h := pc_add_l l hl l.length k 0 0 (by omega) (by omega) (by omega) (by omega) hk
  simpa [fixed_Add.f] using h
theorem pc_bounds {a : Int} (h : (Lit.int .i64 a).wf = true) : -9223372036854775808 ≤ a ∧ a ≤ 9223372036854775807 := by
  simpa [Lit.wf, IntKind.min, IntKind.max, IntKind.signed, IntKind.bits] using h
/-- what is left of a number, taken as one without sign -/
theorem pc_rest (a : Int) (m : Int) (hm : 0 < m) (hm2 : m ≤ 1000000) : ∃ r, wrap64 ((IntKind.u64.wrap a).tmod m) = r ∧ 0 ≤ r ∧ r < m := by
  have hu : 0 ≤ IntKind.u64.wrap a := by rw [IntKind.wrap_u64]; omega
  have h0 : 0 ≤ (IntKind.u64.wrap a).tmod m := Int.tmod_nonneg m hu
  have h1 : (IntKind.u64.wrap a).tmod m < m := Int.tmod_lt_of_pos _ hm
  exact ⟨_, rfl, by unfold wrap64; omega, by unfold wrap64; omega⟩
end Go.Proofs.Ytdodnhpboddheaa.FixedTellsFacts
