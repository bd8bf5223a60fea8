/- FixedPlain: of numbers between -10000 and 10000 all is plain arithmetic; for every three numbers of 64 bits (what is left of each by 10000 is taken). -/
import Derived.Test.YtdodnhpboddheaaPFixedPlainx1
import Derived.Test.YtdodnhpboddheaaPlain
namespace Go.Proofs.Ytdodnhpboddheaa.Pure.FixedPlainFacts
open Go.RowKit Go.Proofs.Ytdodnhpboddheaa.PFixedPlain Go.Proofs.YtdodnhpboddheaaW.PrintWords Go.Proofs.YtdodnhpboddheaaW.PrintLast Go.Proofs.YtdodnhpboddheaaW.PrintMore
open Go.Proofs.Ytdodnhpboddheaa.Plain

theorem pc_awake8 : joustlaw01_awake.f 8 = some true := by decide +kernel
theorem pc_awake {k : Nat} (hk : 8 ≤ k) : joustlaw01_awake.f k = some true := at_rounds joustlaw01_awake.mono hk pc_awake8
theorem pc_held (a : Int) : fixed_Held.f a = some (held a) := by
  unfold fixed_Held.f fixed_Clamp.f held
  by_cases h : a < -2147483647
  · rw [if_pos h, if_pos h]; rfl
  · rw [if_neg h, if_neg h]
    by_cases h2 : a > 2147483647
    · rw [if_pos h2, if_pos h2]; rfl
    · rw [if_neg h2, if_neg h2]; rfl
theorem pc_scale (a b d : Int) (h : d ≠ 0) : fixed_Scale.f a b d = some (ptof a b d, 0) := by
  unfold fixed_Scale.f
  rw [if_neg h]
  simp only [pc_held, Option.bind_some]
  rw [if_neg (held_ne h), prod_in, quot_in]
  rfl
theorem pc_scale0 (a b : Int) : fixed_Scale.f a b 0 = some (0, 1) := by
  unfold fixed_Scale.f
  rw [if_pos rfl]
theorem pc_sub (a b : Int) : fixed_Sub.f a b = some (sub a b) := by
  unfold fixed_Sub.f
  simp only [pc_held, Option.bind_some]
  rw [diff_in]
  rfl
theorem pc_mx (a b : Int) : mx a b = max a b := by unfold mx; omega
theorem pc_size {v : Int} (h0 : -2147483647 ≤ v) (h1 : v ≤ 2147483647) : fixed_size.f v = some (size v) := by
  unfold fixed_size.f size
  have e : wrap64 (-v) = -v := by unfold wrap64; omega
  rw [e, pc_mx]
theorem pc_far (a b c d : Int) : fixed_Far.f a b c d = some (far a b c d) := by
  unfold fixed_Far.f
  simp only [pc_sub, Option.bind_some]
  rw [pc_size (sub_range _ _).1 (sub_range _ _).2]
  simp only [Option.bind_some]
  rw [pc_size (sub_range _ _).1 (sub_range _ _).2]
  simp only [Option.bind_some]
  rw [pc_mx]
  rfl
theorem pc_add_l (l : List Int) (hl : l.length ≤ 140737488355328) (d : Nat) : ∀ (k : Nat) (x : Int) (i : Nat), -2147483647 ≤ x → x ≤ 2147483647 → l.length - i = d → i ≤ l.length → d < k →
    fixed_Add.l0 k x l (l.length : Int) (i : Int) = some ((l.drop i).foldl add x) := by
  induction d with
  | zero =>
    intro k x i _ _ hd hi hk
    obtain ⟨k, rfl⟩ : ∃ m, k = m + 1 := ⟨k - 1, by omega⟩
    simp only [fixed_Add.l0]
    rw [if_neg (by omega), List.drop_of_length_le (by omega)]
    rfl
  | succ d ih =>
    intro k x i hx0 hx1 hd hi hk
    obtain ⟨k, rfl⟩ : ∃ m, k = m + 1 := ⟨k - 1, by omega⟩
    have hw : wrap64 ((i : Int) + 1) = ((i + 1 : Nat) : Int) := by unfold wrap64; omega
    have hlt : i < l.length := by omega
    have hrd : rd l (i : Int) = l[i] := by simp [rd, List.getD_eq_getElem?_getD, List.getElem?_eq_getElem hlt]
    simp only [fixed_Add.l0]
    rw [if_pos (by omega), if_pos (by omega), if_pos (by omega), pc_held]
    simp only [Option.bind_some]
    rw [pc_held]
    simp only [Option.bind_some]
    have hs : wrap64 (x + held (rd l (i : Int))) = x + held (rd l (i : Int)) := by
      have := held_range (rd l (i : Int))
      unfold wrap64
      omega
    rw [hs, hw, ih k _ (i + 1) (held_range _).1 (held_range _).2 (by omega) (by omega) (by omega), List.drop_eq_getElem_cons hlt, hrd]
    rfl
theorem pc_add (k : Nat) (l : List Int) (hl : l.length ≤ 140737488355328) (hk : l.length < k) : fixed_Add.f k l = some (l.foldl add 0) := by
  have h := pc_add_l l hl l.length k 0 0 (by omega) (by omega) (by omega) (by omega) hk
  simpa [fixed_Add.f] using h
theorem pc_bounds {a : Int} (h : (Lit.int .i64 a).wf = true) : -9223372036854775808 ≤ a ∧ a ≤ 9223372036854775807 := by
  simpa [Lit.wf, IntKind.min, IntKind.max, IntKind.signed, IntKind.bits] using h
/-- what is left of a number, taken as one without sign -/
theorem pc_rest (a : Int) (m : Int) (hm : 0 < m) (hm2 : m ≤ 1000000) : ∃ r, wrap64 ((IntKind.u64.wrap a).tmod m) = r ∧ 0 ≤ r ∧ r < m := by
  have hu : 0 ≤ IntKind.u64.wrap a := by rw [IntKind.wrap_u64]; omega
  have h0 : 0 ≤ (IntKind.u64.wrap a).tmod m := Int.tmod_nonneg m hu
  have h1 : (IntKind.u64.wrap a).tmod m < m := Int.tmod_lt_of_pos _ hm
  exact ⟨_, rfl, by unfold wrap64; omega, by unfold wrap64; omega⟩

theorem fp_core (a b d : Int) (ha0 : -10000 < a) (ha : a < 10000) (hb0 : -10000 < b) (hb : b < 10000) (hd0 : -10000 < d) (hd : d < 10000) (hne : d ≠ 0) : joustlaw01_FixedPlain.j0 9 a b d = some true := by
  simp only [joustlaw01_FixedPlain.j0]
  have ea : held a = a := held_in (by omega) (by omega)
  have eb : held b = b := held_in (by omega) (by omega)
  have ed : held d = d := held_in (by omega) (by omega)
  have hp := mul_range (x := a) (y := b) (m := 10000) (by omega) (by omega) (by omega) (by omega)
  have hq := tdiv_range (a * b) d (10000 * 10000) (by omega) (by omega)
  have e1 : wrap64 (a * b) = a * b := by unfold wrap64; omega
  have e2 : wrap64 ((a * b).tdiv d) = (a * b).tdiv d := by unfold wrap64; omega
  have e3 : ptof a b d = (a * b).tdiv d := by unfold ptof; rw [ea, eb, ed]; exact held_in (by omega) (by omega)
  have e4 : wrap64 (wrap64 (a + b) + d) = a + b + d := by unfold wrap64; omega
  have e5 : wrap64 (a - b) = a - b := by unfold wrap64; omega
  have e6 : wrap64 (b - a) = b - a := by unfold wrap64; omega
  rw [pc_scale a b d hne, pc_awake8, pc_add 8 _ (by simp) (by simp), pc_sub, pc_held, pc_far, pc_mx]
  simp only [Option.bind_some, if_true, List.foldl_cons, List.foldl_nil, e1, e2, e3, e4, e5, e6, ea]
  have f1 : add (add (add 0 a) b) d = a + b + d := by unfold add held; omega
  have f2 : sub a b = a - b := by unfold sub held; omega
  have f3 : far a 0 b 0 = max (a - b) (b - a) := by unfold far size sub held; omega
  rw [f1, f2, f3]
  simp [hne]
theorem fp_small (x : Int) : -10000 < x.tmod 10000 ∧ x.tmod 10000 < 10000 := by
  refine ⟨?_, Int.tmod_lt_of_pos x (by omega)⟩
  have := Int.tmod_lt_of_pos (-x) (b := 10000) (by omega)
  rw [Int.neg_tmod] at this
  omega
end Go.Proofs.Ytdodnhpboddheaa.Pure.FixedPlainFacts
namespace Go.Proofs.Ytdodnhpboddheaa.Pure
open Go.RowKit Go.Proofs.Ytdodnhpboddheaa.PFixedPlain Go.Proofs.YtdodnhpboddheaaW.PrintWords Go.Proofs.YtdodnhpboddheaaW.PrintLast Go.Proofs.YtdodnhpboddheaaW.PrintMore Go.Proofs.Ytdodnhpboddheaa.Plain Go.Proofs.Ytdodnhpboddheaa.Pure.FixedPlainFacts
theorem FixedPlain : joustlaw01_FixedPlain.Pure := by
  intro a b d _ _ _
  refine ⟨9, ?_⟩
  unfold joustlaw01_FixedPlain.f
  have ha := fp_small a
  have hb := fp_small b
  have hd := fp_small d
  by_cases h : d.tmod 10000 = 0
  · rw [if_pos h]
    exact fp_core _ _ _ ha.1 ha.2 hb.1 hb.2 (by omega) (by omega) (by omega)
  · rw [if_neg h]
    exact fp_core _ _ _ ha.1 ha.2 hb.1 hb.2 hd.1 hd.2 h
end Go.Proofs.Ytdodnhpboddheaa.Pure
