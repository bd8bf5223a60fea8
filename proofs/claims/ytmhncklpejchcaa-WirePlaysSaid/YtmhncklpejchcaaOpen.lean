/- Arguments that are rows of rows of bytes: what is read there. -/
import Derived.Test.YtmhncklpejchcaaOrder
import Derived.Deep.Slices
import Derived.ChangeArms
import Derived.OpenShut
import Derived.SizedLaws
import Derived.ChangeSlices
namespace Go.Proofs.Ytmhncklpejchcaa.Wir
open Go Go.RowKit Go.Deep Go.ChangeShapes Go.WideShapes Go.Proofs.Ytmhncklpejchcaa.PWirePlays Go.Proofs.YtmhncklpejchcaaW.PrintWords Go.Proofs.YtmhncklpejchcaaW.PrintLast Go.Proofs.YtmhncklpejchcaaW.PrintMore
set_option linter.unusedVariables false
section
variable {H : Type} {enc : TypeId × Value → H} {w : World} {base : Nat} {spare : Nat → Bool} {held : Bool} {fuel : Nat} {cs : List Value} {x : DataW H × List MemPlace}
theorem weights_all {P : Program} {e : TypeId} : ∀ {l : List (DataW H)} {d : DataW H} {n : Nat}, d ∈ l → n ∈ d.weights P e → n ∈ DataW.weightsAll P e l
  | d0 :: r, d, n, hd, hn => by
    simp only [DataW.weightsAll, List.mem_append]
    rcases List.mem_cons.1 hd with h | h
    · subst h; exact .inl hn
    · exact .inr (weights_all h hn)
  | [], _, _, hd, _ => by simp at hd
theorem cells27 : Try.prog.cellsOf 27 = 1 := by kernel_rfl
theorem cells5 : Try.prog.cellsOf 5 = 1 := by kernel_rfl
theorem bytes5 : Try.prog.bytesOf 5 = 1 := by kernel_rfl
/-- a row of bytes that is read -/
theorem open_bytes (h : DataW.trod enc Try.prog w base spare held fuel 27 cs = some x) (hw : ∀ m ∈ x.1.weights Try.prog 27, m ≤ reachBytes) :
    ∃ A c, ∃ p : List Int, cs = [.slice A p.length c] ∧ p.length ≤ c ∧ Kd.C kb w A p.length p ∧ p.length ≤ 140737488351232 ∧ (∀ z ∈ p, 0 ≤ z ∧ z < 256) := by
  rcases open_ints Try.underlying27 Try.underlying5 cells5 h with ⟨h0, _⟩ | ⟨a, len, cap, zs, hcs, _, hl, hm, hz, hx, hcell, hwf⟩
  · exact ⟨none, 0, [], h0, Nat.le_refl _, Kd.C_nil _ _, by simp, fun z hz => by simp at hz⟩
  · have hl2 : len ≤ zs.length := by
      rw [hz]
      split
      · exact hl
      · exact Nat.le_refl _
    have hlen : (zs.take len).length = len := by rw [List.length_take]; omega
    have hwt : len ≤ 140737488351232 := by
      have h1 : (lits (H := H) .u8 (zs.take len)).length + (lits (H := H) .u8 (zs.drop len)).length = zs.length := by
        simp [lits]
        omega
      have h2 := hw (((lits (H := H) .u8 (zs.take len)).length + (lits (H := H) .u8 (zs.drop len)).length) * Try.prog.bytesOf 5) (by rw [hx]; simp [DataW.weights, Try.underlying27])
      rw [h1, bytes5] at h2
      unfold reachBytes at h2
      omega
    refine ⟨some a, cap, zs.take len, by rw [hlen]; exact hcs, by omega, ?_, by omega, fun z hzm => ?_⟩
    · rw [hlen]
      refine ⟨hlen, by omega, fun _ => ⟨a, rfl, fun j q hq => ⟨[.int .u8 q], rfl, rfl, fun i u hu => ?_⟩⟩⟩
      cases i with
      | zero =>
        simp at hu
        subst hu
        have hj : j < len := by
          have := (List.getElem?_eq_some_iff.1 hq).1
          omega
        have hc := hcell j (by omega)
        rw [List.getElem?_take_of_lt hj] at hq
        show w.cell? (a.add (j * 1 + 0)) = _
        rw [Nat.mul_one, Nat.add_zero, hc, List.getD_eq_getElem?_getD, hq]
        rfl
      | succ i => simp at hu
    · have := bounds_u8 (hwf z (List.mem_of_mem_take hzm))
      omega
/-- rows of bytes that are read -/
theorem open_rows (h : DataW.trod enc Try.prog w base spare held fuel 22 cs = some x) (hw : ∀ m ∈ x.1.weights Try.prog 22, m ≤ reachBytes) :
    ∃ A n c, cs = [.slice A n c] ∧ n ≤ maxLen ∧ n ≤ c ∧ ∃ L : List (List Int), Kd.C kbs w A n L ∧ (∀ p ∈ L, p.length ≤ 140737488351232) ∧ (∀ p ∈ L, ∀ z ∈ p, 0 ≤ z ∧ z < 256) := by
  rcases open_slice Try.underlying22 h with ⟨h0, _⟩ | ⟨a, len, cap, m, k, D, Pl, hcs, hb, hl, hm, hmm, hx, hi⟩
  · exact ⟨none, 0, 0, h0, Nat.zero_le _, Nat.le_refl _, [], Kd.C_nil _ _, fun p hp => by simp at hp, fun p hp => by simp at hp⟩
  · have hnm : len ≤ m := by rw [hmm]; split <;> omega
    have get : ∀ i, i < len → ∃ p : List Int, (∃ A c, w.cell? (a.add (i * 1)) = some (.slice A p.length c) ∧ p.length ≤ c ∧ Kd.C kb w A p.length p) ∧ p.length ≤ 140737488351232 ∧ (∀ z ∈ p, 0 ≤ z ∧ z < 256) := by
      intro i hin
      obtain ⟨cs', hc, ht⟩ := hi i (by omega)
      rw [cells27] at hc
      obtain ⟨_, hcl, hat⟩ := World.cells?_some hc
      obtain ⟨A, c, p, e, h1, h2, h3, h4⟩ := open_bytes ht (fun q hq => hw q (by
        rw [hx]
        simp only [DataW.weights, Try.underlying22, List.mem_cons, List.mem_append]
        exact .inr (.inl (weights_all (List.mem_map.2 ⟨i, List.mem_range.2 hin, rfl⟩) hq))))
      have hcell := hat 0 (by omega)
      rw [Go.Deep.add_add, Nat.add_zero] at hcell
      exact ⟨p, ⟨A, c, by rw [hcell, e]; rfl, h1, h2⟩, h3, h4⟩
    refine ⟨some a, len, cap, hcs, by omega, hl, (List.range len).map (fun i => if hin : i < len then Classical.choose (get i hin) else []), ⟨by simp, by simp only [maxLen] at hm; omega, fun _ => ⟨a, rfl, fun j p hp => ?_⟩⟩, fun p hp => ?_, fun p hp => ?_⟩
    · have hj : j < len := by
        have := (List.getElem?_eq_some_iff.1 hp).1
        simpa using this
      rw [List.getElem?_map, List.getElem?_range hj] at hp
      simp only [Option.map_some, dif_pos hj, Option.some.injEq] at hp
      obtain ⟨⟨A, c, h1, h2, h3⟩, _, _⟩ := Classical.choose_spec (get j hj)
      rw [hp] at h1 h2 h3
      refine ⟨[.slice A p.length c], rfl, ⟨A, c, rfl, h2, h3⟩, fun i u hu => ?_⟩
      cases i with
      | zero =>
        simp at hu
        subst hu
        exact h1
      | succ i => simp at hu
    · obtain ⟨i, hi2, rfl⟩ := List.mem_map.1 hp
      have hin := List.mem_range.1 hi2
      rw [dif_pos hin]
      exact (Classical.choose_spec (get i hin)).2.1
    · obtain ⟨i, hi2, rfl⟩ := List.mem_map.1 hp
      have hin := List.mem_range.1 hi2
      rw [dif_pos hin]
      exact (Classical.choose_spec (get i hin)).2.2
end
end Go.Proofs.Ytmhncklpejchcaa.Wir
