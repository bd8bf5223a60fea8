/- HittingSums in plain words. -/
import Derived.Test.YtjgedonhfiifmaaOnlyPure
namespace Go.Proofs.Ytjgedonhfiifmaa.Hit
open Go.RowKit Go.Proofs.Ytjgedonhfiifmaa.PHittingOnly Go.Proofs.YtjgedonhfiifmaaW.PrintWords Go.Proofs.YtjgedonhfiifmaaW.PrintLast Go.Proofs.YtjgedonhfiifmaaW.PrintMore
open Go.Proofs.Ytjgedonhfiifmaa.Plain
set_option linter.unusedVariables false

def hsum : List S25 → Int
  | [] => 0
  | p :: l => (if p.f1 = 1 then p.f6 else 0) + hsum l
def oth : List S25 → Int
  | [] => 0
  | p :: l => (if p.f1 = 1 then 0 else 1) + oth l
def cnt : List Bool → Int
  | [] => 0
  | b :: l => (if b = true then 1 else 0) + cnt l
theorem hsum_append (a b : List S25) : hsum (a ++ b) = hsum a + hsum b := by
  induction a with
  | nil => simp [hsum]
  | cons p l ih => simp only [List.cons_append, hsum, ih]; omega
theorem oth_append (a b : List S25) : oth (a ++ b) = oth a + oth b := by
  induction a with
  | nil => simp [oth]
  | cons p l ih => simp only [List.cons_append, oth, ih]; omega
theorem oth_range (a : List S25) : 0 ≤ oth a ∧ oth a ≤ a.length := by
  induction a with
  | nil => simp [oth]
  | cons p l ih => simp only [oth, List.length_cons]; split <;> omega
theorem cnt_range (a : List Bool) : 0 ≤ cnt a ∧ cnt a ≤ a.length := by
  induction a with
  | nil => simp [cnt]
  | cons p l ih => simp only [cnt, List.length_cons]; split <;> omega
theorem hsum_range (a : List S25) (b c : Int) (hb : b ≤ 0) (hc : 0 ≤ c) (h : ∀ p ∈ a, b ≤ p.f6 ∧ p.f6 ≤ c) : a.length * b ≤ hsum a ∧ hsum a ≤ a.length * c := by
  induction a with
  | nil => simp [hsum]
  | cons p l ih =>
    have ih := ih (fun q hq => h q (List.mem_cons_of_mem _ hq))
    have hp := h p (List.mem_cons_self ..)
    simp only [hsum, List.length_cons]
    rw [show ((l.length + 1 : Nat) : Int) * b = l.length * b + b by rw [Int.natCast_add, Int.add_mul]; simp, show ((l.length + 1 : Nat) : Int) * c = l.length * c + c by rw [Int.natCast_add, Int.add_mul]; simp]
    split <;> omega
theorem hsum_set (a : List S25) : ∀ (i : Nat) (h : Int), i < a.length → (a.getD i z25).f1 = 1 → hsum (a.set i (withH (a.getD i z25) h)) = hsum a - (a.getD i z25).f6 + h := by
  induction a with
  | nil => intro i h hi; simp at hi
  | cons p l ih =>
    intro i h hi h1
    rcases i with _ | i
    · simp only [List.getD_cons_zero] at h1
      simp only [List.getD_cons_zero, List.set_cons_zero, hsum]
      have e1 : (withH p h).f1 = 1 := h1
      have e2 : (withH p h).f6 = h := rfl
      rw [if_pos h1, if_pos e1, e2]; omega
    · simp only [List.getD_cons_succ] at h1
      simp only [List.getD_cons_succ, List.set_cons_succ, hsum]
      have := ih i h (by simpa using hi) h1
      omega
theorem cnt_set (a : List Bool) : ∀ i, i < a.length → a.getD i false = false → cnt (a.set i true) = cnt a + 1 := by
  induction a with
  | nil => intro i hi; simp at hi
  | cons p l ih =>
    intro i hi h1
    rcases i with _ | i
    · simp only [List.getD_cons_zero] at h1
      subst h1
      simp [cnt]
      omega
    · simp only [List.getD_cons_succ] at h1
      simp only [List.set_cons_succ, cnt]
      have := ih i (by simpa using hi) h1
      omega
theorem cnt_none (n : Nat) : cnt (List.replicate n false) = 0 := by
  induction n with
  | zero => rfl
  | succ n ih => rw [List.replicate_succ]; simp [cnt, ih]
theorem left_sums : ∀ (out : List S25) (gone : List Bool), gone.length = out.length → (∀ i, i < out.length → gone.getD i false = true → (out.getD i z25).f1 ≠ 1) →
    hsum (leftOf out gone) = hsum out ∧ oth (leftOf out gone) = oth out - cnt gone
  | [], [], _, _ => by simp [leftOf, hsum, oth, cnt]
  | p :: l, b :: bs, h, hg => by
    have ih := left_sums l bs (by simpa using h) (fun i hi => by
      have := hg (i + 1) (by simpa using hi)
      simpa using this)
    have h0 := hg 0 (by simp)
    simp at h0
    unfold leftOf at ih ⊢
    rw [List.zip_cons_cons, List.filter_cons]
    cases b with
    | true =>
      have h1 := h0 rfl
      simp only [Bool.not_true, hsum, oth, cnt]
      rw [if_neg h1, if_neg h1]
      simp only [if_true, Bool.false_eq_true, if_false]
      omega
    | false =>
      simp only [Bool.not_false, if_true, List.map_cons, hsum, oth, cnt, Bool.false_eq_true, if_false]
      omega
  | [], _ :: _, h, _ => by simp at h
  | _ :: _, [], h, _ => by simp at h

theorem shot_player {t p : S25} (h : Pshot t p = true) : p.f1 = 1 := by unfold Pshot at h; simp at h; exact h.1.1

/-- what holds at each thing's turn -/
structure Tally (l : List S25) (k : Nat) (s : List S25 × List Bool) : Prop where
  kind : ∀ i, (s.1.getD i z25).f1 = (l.getD i z25).f1
  low : ∀ i, i < l.length → -20 * (k : Int) ≤ (s.1.getD i z25).f6 ∧ (s.1.getD i z25).f6 ≤ 100
  sum : hsum s.1 = hsum l - 20 * cnt s.2
  two : ∀ i, s.2.getD i false = true → i < k ∧ (s.1.getD i z25).f1 ≠ 1
  othr : oth s.1 = oth l

theorem oth_set (a : List S25) : ∀ (i : Nat) (h : Int), i < a.length → oth (a.set i (withH (a.getD i z25) h)) = oth a := by
  induction a with
  | nil => intro i h hi; simp at hi
  | cons p l ih =>
    intro i h hi
    rcases i with _ | i
    · simp only [List.getD_cons_zero, List.set_cons_zero, oth]
      rfl
    · simp only [List.getD_cons_succ, List.set_cons_succ, oth]
      have := ih i h (by simpa using hi)
      omega

theorem tally (l : List S25) (hl : l.length ≤ 100) (hb : ∀ i, i < l.length → 0 ≤ (l.getD i z25).f6 ∧ (l.getD i z25).f6 ≤ 100) (k : Nat) (hk : k ≤ l.length) : Tally l k (iterM Pshot 2 shotT l k) := by
  induction k with
  | zero =>
    refine ⟨fun i => rfl, fun i hi => by have := hb i hi; simp only [iterM]; omega, ?_, fun i h => ?_, rfl⟩
    · show hsum l = hsum l - 20 * cnt (List.replicate l.length false)
      rw [cnt_none]; omega
    · exfalso
      revert h
      show (List.replicate l.length false).getD i false = true → False
      by_cases hi : i < l.length <;> simp [List.getD_eq_getElem?_getD, hi]
  | succ k ih =>
    have ih := ih (by omega)
    have hlen := iterM_length Pshot 2 shotT l k
    show Tally l (k + 1) (stepM Pshot 2 shotT (iterM Pshot 2 shotT l k) k)
    generalize iterM Pshot 2 shotT l k = s at *
    obtain ⟨s1, s2⟩ := s
    simp only at hlen
    obtain ⟨i1, i2, i3, i4, i5⟩ := ih
    simp only at i1 i2 i3 i4 i5
    unfold stepM
    simp only
    by_cases hc : (s1.getD k z25).f1 = 2 ∧ s1.any (Pshot (s1.getD k z25)) = true
    · rw [if_pos hc]
      have hf : s1.findIdx (Pshot (s1.getD k z25)) < s1.length := List.findIdx_lt_length.2 (List.any_eq_true.1 hc.2)
      have hpf : Pshot (s1.getD k z25) (s1.getD (s1.findIdx (Pshot (s1.getD k z25))) z25) = true := by
        have := List.findIdx_getElem (w := hf)
        have e : s1.getD (s1.findIdx (Pshot (s1.getD k z25))) z25 = s1[s1.findIdx (Pshot (s1.getD k z25))] := by
          rw [List.getD_eq_getElem?_getD, List.getElem?_eq_getElem hf]; rfl
        rw [e]
        exact this
      have h1 : (s1.getD (s1.findIdx (Pshot (s1.getD k z25))) z25).f1 = 1 := shot_player hpf
      generalize s1.findIdx (Pshot (s1.getD k z25)) = f at *
      have hlo := i2 f (by omega)
      have ht : shotT (s1.getD f z25).f6 = (s1.getD f z25).f6 - 20 := by
        unfold shotT sub held
        omega
      have hgk : s2.getD k false = false := by
        cases h : s2.getD k false with
        | false => rfl
        | true => have := (i4 k h).1; omega
      have hget : ∀ i, (upd shotT s1 f).getD i z25 = if i = f then withH (s1.getD f z25) ((s1.getD f z25).f6 - 20) else s1.getD i z25 := by
        intro i
        unfold upd
        rw [ht]
        by_cases hif : i = f
        · subst hif
          simp [List.getD_eq_getElem?_getD, hf]
        · rw [if_neg hif]
          simp [List.getD_eq_getElem?_getD, Ne.symm hif]
      refine ⟨fun i => ?_, fun i hi => ?_, ?_, fun i h => ?_, ?_⟩
      · show ((upd shotT s1 f).getD i z25).f1 = _
        rw [hget]
        split
        · rename_i h; subst h; exact i1 i
        · exact i1 i
      · show _ ≤ ((upd shotT s1 f).getD i z25).f6 ∧ ((upd shotT s1 f).getD i z25).f6 ≤ 100
        rw [hget]
        have := i2 i hi
        split
        · show _ ≤ (s1.getD f z25).f6 - 20 ∧ (s1.getD f z25).f6 - 20 ≤ 100
          omega
        · omega
      · show hsum (upd shotT s1 f) = hsum l - 20 * cnt (s2.set k true)
        unfold upd
        rw [hsum_set s1 f _ hf h1, cnt_set s2 k (by omega) hgk, ht]
        omega
      · show i < k + 1 ∧ ((upd shotT s1 f).getD i z25).f1 ≠ 1
        have h' : (s2.set k true).getD i false = true := h
        have hfk : ∀ i, ((upd shotT s1 f).getD i z25).f1 = (s1.getD i z25).f1 := by
          intro i
          rw [hget]
          split
          · rename_i h; subst h; rfl
          · rfl
        rw [hfk]
        by_cases hik : i = k
        · subst hik
          exact ⟨by omega, by rw [hc.1]; decide⟩
        · have hv : (s2.set k true).getD i false = s2.getD i false := by simp [List.getD_eq_getElem?_getD, Ne.symm hik]
          rw [hv] at h'
          have := i4 i h'
          exact ⟨by omega, this.2⟩
      · show oth (upd shotT s1 f) = oth l
        unfold upd
        rw [oth_set s1 f _ hf, i5]
    · rw [if_neg hc]
      exact ⟨i1, fun i hi => by have := i2 i hi; simp only; omega, i3, fun i h => ⟨by have := (i4 i h).1; omega, (i4 i h).2⟩, i5⟩

/-- each shot that is gone has cost twenty -/
theorem shots_sums (l : List S25) (hl : l.length ≤ 100) (hb : ∀ i, i < l.length → 0 ≤ (l.getD i z25).f6 ∧ (l.getD i z25).f6 ≤ 100) :
    ∃ c : Int, 0 ≤ c ∧ c ≤ l.length ∧ oth (shotF l) = oth l - c ∧ hsum (shotF l) = hsum l - 20 * c := by
  have ht := tally l hl hb l.length (Nat.le_refl _)
  have hlen := iterM_length Pshot 2 shotT l l.length
  obtain ⟨h1, h2⟩ := left_sums (iterM Pshot 2 shotT l l.length).1 (iterM Pshot 2 shotT l l.length).2 (hlen.2.trans hlen.1.symm) (fun i _ h => (ht.two i h).2)
  have hc := cnt_range (iterM Pshot 2 shotT l l.length).2
  refine ⟨cnt (iterM Pshot 2 shotT l l.length).2, hc.1, by have := hc.2; rw [hlen.2] at this; exact this, ?_, ?_⟩
  · rw [← ht.othr]; exact h2
  · rw [← ht.sum]; exact h1

theorem left_mem {out : List S25} {gone : List Bool} {p : S25} (h : p ∈ leftOf out gone) : p ∈ out := by
  unfold leftOf at h
  obtain ⟨x, hx, rfl⟩ := List.mem_map.1 h
  exact (List.of_mem_zip (List.mem_filter.1 hx).1).1
theorem shots_range (l : List S25) (hl : l.length ≤ 100) (hb : ∀ i, i < l.length → 0 ≤ (l.getD i z25).f6 ∧ (l.getD i z25).f6 ≤ 100) : ∀ p ∈ shotF l, -2000 ≤ p.f6 ∧ p.f6 ≤ 100 := by
  intro p hp
  have ht := tally l hl hb l.length (Nat.le_refl _)
  have hlen := iterM_length Pshot 2 shotT l l.length
  obtain ⟨i, hi, he⟩ := List.mem_iff_getElem.1 (left_mem hp)
  have := ht.low i (by omega)
  rw [List.getD_eq_getElem?_getD, List.getElem?_eq_getElem hi] at this
  simp only [Option.getD_some, he] at this
  omega

def asum : List S25 → Int
  | [] => 0
  | p :: l => p.f6 + asum l
theorem asum_append (a b : List S25) : asum (a ++ b) = asum a + asum b := by
  induction a with
  | nil => simp [asum]
  | cons p l ih => simp only [List.cons_append, asum, ih]; omega
theorem take_next (l : List S25) (k : Nat) (h : k < l.length) : l.take (k + 1) = l.take k ++ [l.getD k z25] := by
  rw [List.take_succ_eq_append_getElem h]
  simp [List.getD_eq_getElem?_getD, h]
theorem asum_next (l : List S25) (k : Nat) (h : k < l.length) : asum (l.take (k + 1)) = asum (l.take k) + (l.getD k z25).f6 := by
  rw [take_next l k h, asum_append]; simp [asum]
theorem hsum_next (l : List S25) (k : Nat) (h : k < l.length) : hsum (l.take (k + 1)) = hsum (l.take k) + (if (l.getD k z25).f1 = 1 then (l.getD k z25).f6 else 0) := by
  rw [take_next l k h, hsum_append]; simp [hsum]
theorem oth_next (l : List S25) (k : Nat) (h : k < l.length) : oth (l.take (k + 1)) = oth (l.take k) + (if (l.getD k z25).f1 = 1 then 0 else 1) := by
  rw [take_next l k h, oth_append]; simp [oth]

/-- players with these healths; shots at these places -/
def pS (f : Nat → Int) : Nat → List S25
  | 0 => []
  | k + 1 => pS f k ++ [⟨k + 1, 1, 100 * k, 0, 0, 0, f k, 0, 0⟩]
def sS (g : Nat → Int) : Nat → List S25
  | 0 => []
  | k + 1 => sS g k ++ [⟨1000 + k, 2, g k, 0, 0, 0, 0, 0, 1 + ((k : Int).tmod 6)⟩]
theorem pS_length (f : Nat → Int) (k : Nat) : (pS f k).length = k := by
  induction k with
  | zero => rfl
  | succ k ih => simp [pS, ih]
theorem sS_length (f : Nat → Int) (k : Nat) : (sS f k).length = k := by
  induction k with
  | zero => rfl
  | succ k ih => simp [sS, ih]
theorem pS_hsum (f : Nat → Int) (k : Nat) : hsum (pS f k) = asum (pS f k) ∧ oth (pS f k) = 0 := by
  induction k with
  | zero => exact ⟨rfl, rfl⟩
  | succ k ih => simp only [pS, hsum_append, asum_append, oth_append]; simp [hsum, asum, oth, ih]
theorem sS_hsum (g : Nat → Int) (k : Nat) : hsum (sS g k) = 0 ∧ oth (sS g k) = k := by
  induction k with
  | zero => exact ⟨rfl, rfl⟩
  | succ k ih => simp only [sS, hsum_append, oth_append]; simp [hsum, oth, ih]
theorem pS_mem (f : Nat → Int) (h : ∀ j, 1 ≤ f j ∧ f j ≤ 100) (k : Nat) : ∀ p ∈ pS f k, 1 ≤ p.f6 ∧ p.f6 ≤ 100 := by
  induction k with
  | zero => intro p hp; simp [pS] at hp
  | succ k ih =>
    intro p hp
    simp only [pS, List.mem_append, List.mem_singleton] at hp
    rcases hp with hp | rfl
    · exact ih p hp
    · exact h k
theorem sS_mem (g : Nat → Int) (k : Nat) : ∀ p ∈ sS g k, p.f6 = 0 := by
  induction k with
  | zero => intro p hp; simp [sS] at hp
  | succ k ih =>
    intro p hp
    simp only [sS, List.mem_append, List.mem_singleton] at hp
    rcases hp with hp | rfl
    · exact ih p hp
    · rfl
theorem asum_range (a : List S25) (b c : Int) (hb : b ≤ 0) (hc : 0 ≤ c) (h : ∀ p ∈ a, b ≤ p.f6 ∧ p.f6 ≤ c) : a.length * b ≤ asum a ∧ asum a ≤ a.length * c := by
  induction a with
  | nil => simp [asum]
  | cons p l ih =>
    have ih := ih (fun q hq => h q (List.mem_cons_of_mem _ hq))
    have hp := h p (List.mem_cons_self ..)
    simp only [asum, List.length_cons]
    rw [show ((l.length + 1 : Nat) : Int) * b = l.length * b + b by rw [Int.natCast_add, Int.add_mul]; simp, show ((l.length + 1 : Nat) : Int) * c = l.length * c + c by rw [Int.natCast_add, Int.add_mul]; simp]
    omega
def hurtS (away : Int) : Nat → Int
  | 0 => 0
  | k + 1 => hurtS away k + (if -128 ≤ 100 * (k : Int) - away ∧ 100 * (k : Int) - away ≤ 128 then 10 else 0)
theorem hurt_range (away : Int) (k : Nat) : 0 ≤ hurtS away k ∧ hurtS away k ≤ 10 * k := by
  induction k with
  | zero => simp [hurtS]
  | succ k ih => unfold hurtS; split <;> omega
theorem blast_sums (f : Nat → Int) (h : ∀ j, 1 ≤ f j ∧ f j ≤ 100) (away : Int) (a0 : 0 ≤ away) (a1 : away < 600) (k : Nat) (hk : k ≤ 6) :
    asum ((pS f k).map (bF 2 away 0)) = asum (pS f k) - hurtS away k ∧ ∀ p ∈ (pS f k).map (bF 2 away 0), -10 ≤ p.f6 ∧ p.f6 ≤ 100 := by
  induction k with
  | zero => exact ⟨rfl, fun p hp => by simp [pS] at hp⟩
  | succ k ih =>
    obtain ⟨ih1, ih2⟩ := ih (by omega)
    have hfk := h k
    have hb : (bF 2 away 0 ⟨k + 1, 1, 100 * k, 0, 0, 0, f k, 0, 0⟩).f6 = f k - (if -128 ≤ 100 * (k : Int) - away ∧ 100 * (k : Int) - away ≤ 128 then 10 else 0) := by
      unfold bF nearB
      simp only
      rw [far_small _ _ (by omega) (by omega) (by omega) (by omega)]
      by_cases hn : -128 ≤ 100 * (k : Int) - away ∧ 100 * (k : Int) - away ≤ 128
      · rw [if_pos hn, if_pos ⟨trivial, trivial, by simp; omega⟩]
        show sub (f k) 10 = _
        unfold sub held
        omega
      · rw [if_neg hn, if_neg (fun hh => hn (by have := hh.2.2; simp at this; omega))]
        show f k = _
        omega
    constructor
    · simp only [pS, List.map_append, asum_append, List.map_cons, List.map_nil, asum, hurtS]
      rw [hb, ih1]
      omega
    · intro p hp
      simp only [pS, List.map_append, List.mem_append, List.map_cons, List.map_nil, List.mem_singleton] at hp
      rcases hp with hp | rfl
      · exact ih2 p hp
      · rw [hb]
        split <;> omega
end Go.Proofs.Ytjgedonhfiifmaa.Hit
