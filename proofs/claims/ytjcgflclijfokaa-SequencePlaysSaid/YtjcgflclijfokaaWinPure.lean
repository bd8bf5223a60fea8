/- What a window tells, in plain words: it knows the greatest number and those of the last sixty-four that came; for all whole numbers. -/
import Derived.Test.YtjcgflclijfokaaWin
namespace Go.Proofs.Ytjcgflclijfokaa.Win
open Go Go.RowKit

/-- the window (last, came) knows the numbers of l -/
structure Inv (last came : Int) (l : List Int) : Prop where
  h0 : 0 ≤ last
  h1 : last ≤ 2147483647
  bits : ∃ c : Nat, came = (c : Int) ∧ c < 18446744073709551616 ∧ ∀ d : Nat, d < 64 → 1 ≤ last - d → c.testBit d = l.contains (last - (d : Int))
  mem : ∀ n, l.contains n = true → 1 ≤ n ∧ n ≤ last

theorem Inv.zero : Inv 0 0 [] := ⟨by omega, by omega, ⟨0, rfl, by omega, fun d _ h => by omega⟩, fun n h => by simp at h⟩

theorem bit_is (c d : Nat) (hc : c < 18446744073709551616) : (Go.bits BinOp.and IntKind.u64 ((c : Int) / 2 ^ d) 1 == 1) = c.testBit d := by
  have h1 : ((c : Int) / 2 ^ d) = ((c / 2 ^ d : Nat) : Int) := by
    rw [Int.natCast_ediv]
    congr 1
  have h2 : c / 2 ^ d < 18446744073709551616 := Nat.lt_of_le_of_lt (Nat.div_le_self _ _) hc
  rw [h1, show (1 : Int) = ((1 : Nat) : Int) from rfl, u64_and_nat _ _ h2 (by omega), Nat.and_one_is_mod, Nat.testBit_eq_decide_div_mod_eq, Bool.eq_iff_iff]
  simp only [beq_iff_eq, decide_eq_true_eq]
  omega

theorem Inv.seen {last came : Int} {l : List Int} (h : Inv last came l) (seq : Int) : seenB last came seq = (decide (1 ≤ seq) && (decide (seq ≤ last - 64) || l.contains seq)) := by
  obtain ⟨h0, h1, ⟨c, rfl, hc, hb⟩, hm⟩ := h
  unfold seenB
  by_cases a1 : seq < 1
  · rw [if_pos (.inl a1), decide_eq_false (by omega)]; rfl
  · by_cases a2 : last < seq
    · have hn : l.contains seq = false := by
        cases hq : l.contains seq with
        | false => rfl
        | true => exact absurd (hm seq hq).2 (by omega)
      rw [if_pos (.inr a2), decide_eq_false (show ¬ seq ≤ last - 64 by omega), hn]
      simp
    · rw [if_neg (by omega)]
      by_cases a3 : seq ≤ last - 64
      · rw [if_pos a3, decide_eq_true a3, decide_eq_true (show 1 ≤ seq by omega)]
        simp
      · rw [if_neg a3, bit_is c _ hc, hb _ (by omega) (by omega), decide_eq_false a3, decide_eq_true (show 1 ≤ seq by omega)]
        have e : last - (((last - seq).toNat : Nat) : Int) = seq := by omega
        rw [e]
        simp

theorem Inv.took {last came : Int} {l : List Int} (h : Inv last came l) (seq : Int) : tookB last came seq = (decide (1 ≤ seq) && decide (seq ≤ 2147483647) && !(decide (seq ≤ last - 64) || l.contains seq)) := by
  unfold tookB
  rw [h.seen seq]
  by_cases a1 : 1 ≤ seq <;> simp [a1]

theorem or_is (a b : Nat) (ha : a < 18446744073709551616) (hb : b < 18446744073709551616) : Go.bits BinOp.or IntKind.u64 (a : Int) (b : Int) = ((a ||| b : Nat) : Int) := u64_or_nat a b ha hb

theorem wrap_pow (c k : Nat) : IntKind.u64.wrap ((c : Int) * 2 ^ k) = ((c * 2 ^ k % 18446744073709551616 : Nat) : Int) := by
  rw [IntKind.wrap_u64, Int.natCast_emod, Int.natCast_mul, Int.natCast_pow]
  rfl

theorem contains_snoc (l : List Int) (x n : Int) : (l ++ [x]).contains n = (l.contains n || n == x) := by
  rw [List.contains_eq_any_beq, List.contains_eq_any_beq, List.any_append]
  simp

theorem Inv.step {last came : Int} {l : List Int} (h : Inv last came l) (seq : Int) :
    Inv (stL last came seq) (stC last came seq) (if tookB last came seq = true then l ++ [seq] else l) := by
  by_cases ht : tookB last came seq = true
  · unfold stL stC
    rw [if_pos ht, if_pos ht, if_pos ht]
    rw [h.took seq] at ht
    obtain ⟨h0, h1, ⟨c, rfl, hc, hb⟩, hm⟩ := h
    have hq : (1 ≤ seq ∧ seq ≤ 2147483647) ∧ (¬ seq ≤ last - 64) ∧ l.contains seq = false := by simpa using ht
    obtain ⟨⟨q1, q2⟩, q3, q4⟩ := hq
    by_cases hl : last < seq
    · rw [if_pos hl, if_pos hl]
      obtain ⟨s, hs⟩ : ∃ s : Nat, (seq - last).toNat = s := ⟨_, rfl⟩
      refine ⟨by omega, q2, ⟨c * 2 ^ min s 64 % 18446744073709551616 ||| 1, ?_, ?_, ?_⟩, ?_⟩
      · unfold newC
        rw [hs, wrap_pow, show (1 : Int) = ((1 : Nat) : Int) from rfl, or_is _ _ (Nat.mod_lt _ (by omega)) (by omega)]
      · exact Nat.or_lt_two_pow (n := 64) (Nat.mod_lt _ (by omega)) (by omega)
      · intro d hd h1d
        rw [contains_snoc, Nat.testBit_or, show (18446744073709551616 : Nat) = 2 ^ 64 from rfl, Nat.testBit_mod_two_pow, ← Nat.shiftLeft_eq, Nat.testBit_shiftLeft]
        rcases Nat.eq_zero_or_pos d with e | e
        · subst e
          simp
        · have e1 : Nat.testBit 1 d = false := by
            rw [Bool.eq_false_iff]
            intro hh
            exact absurd (Nat.testBit_one_eq_true_iff_self_eq_zero.1 hh) (by omega)
          have e2 : (seq - (d : Int) == seq) = false := by rw [beq_eq_false_iff_ne]; omega
          rw [e1, e2, Bool.or_false, Bool.or_false, decide_eq_true hd, Bool.true_and]
          by_cases hsd : s ≤ d
          · have hmin : min s 64 = s := by omega
            rw [hmin, decide_eq_true hsd, Bool.true_and, hb (d - s) (by omega) (by omega)]
            congr 1
            omega
          · have hnot : ¬ min s 64 ≤ d := by omega
            rw [decide_eq_false hnot, Bool.false_and]
            cases hq : l.contains (seq - (d : Int)) with
            | false => rfl
            | true => exact absurd (hm _ hq).2 (by omega)
      · intro n hn
        rw [contains_snoc, Bool.or_eq_true] at hn
        rcases hn with hn | hn
        · have := hm n hn; omega
        · have := eq_of_beq hn; omega
    · rw [if_neg hl, if_neg hl]
      obtain ⟨s, hs⟩ : ∃ s : Nat, (last - seq).toNat = s := ⟨_, rfl⟩
      have hs64 : s < 64 := by omega
      have hmin : min s 64 = s := by omega
      have hp : 2 ^ s < 18446744073709551616 := (Nat.pow_lt_pow_right (by decide : 1 < 2) hs64 : 2 ^ s < 2 ^ 64)
      refine ⟨h0, h1, ⟨c ||| 2 ^ s, ?_, Nat.or_lt_two_pow (n := 64) hc hp, ?_⟩, ?_⟩
      · unfold oldC
        have hw := wrap_pow 1 s
        rw [Nat.mod_eq_of_lt (by rw [Nat.one_mul]; exact hp), Nat.one_mul] at hw
        rw [hs, hmin, show (2 : Int) ^ s = ((1 : Nat) : Int) * 2 ^ s by simp, hw, or_is _ _ hc hp]
      · intro d hd h1d
        rw [contains_snoc, Nat.testBit_or, hb d hd h1d, Nat.testBit_two_pow]
        congr 1
        rw [Bool.eq_iff_iff]
        simp only [decide_eq_true_eq, beq_iff_eq]
        omega
      · intro n hn
        rw [contains_snoc, Bool.or_eq_true] at hn
        rcases hn with hn | hn
        · exact hm n hn
        · have := eq_of_beq hn; omega
  · unfold stL stC
    rw [if_neg ht, if_neg ht, if_neg ht]
    exact h
end Go.Proofs.Ytjcgflclijfokaa.Win
