/- Arguments that are messages' lists: what is read there. -/
import Derived.Test.YtnenhlgpkfelcaaNilWalk
import Derived.Deep.Slices
import Derived.ChangeArms
import Derived.OpenShut
namespace Go.Proofs.Ytnenhlgpkfelcaa.Box
open Go Go.RowKit Go.Deep Go.ChangeShapes Go.Proofs.Ytnenhlgpkfelcaa.POutboxPlays Go.Proofs.YtnenhlgpkfelcaaW.PrintWords Go.Proofs.YtnenhlgpkfelcaaW.PrintLast Go.Proofs.YtnenhlgpkfelcaaW.PrintMore
set_option linter.unusedVariables false
section
variable {H : Type} {enc : TypeId × Value → H} {w : World} {base : Nat} {spare : Nat → Bool} {held : Bool} {fuel : Nat} {cs : List Value} {x : DataW H × List MemPlace}
theorem take_one {cs : List Value} {i k : Nat} {v : Value} (h : (cs.drop i).take k = [v]) : cs[i]? = some v := by
  have h1 := congrArg (fun l => l[0]?) h
  simp only [List.getElem?_take, List.getElem?_drop, Nat.add_zero, List.getElem?_cons_zero] at h1
  split at h1
  · exact h1
  · cases h1
theorem trod_i (h : ∃ y, DataW.trod enc Try.prog w base spare held fuel 3 cs = some y) : ∃ z, cs = [.int .i64 z] := by
  obtain ⟨y, h⟩ := h
  obtain ⟨z, hz, _⟩ := DataW.trod_int Try.underlying3 h
  exact ⟨z, hz⟩
theorem trod_ent (h : DataW.trod enc Try.prog w base spare held fuel 34 cs = some x) : ∀ i, i < 9 → ∃ z, cs[i]? = some (.int .i64 z) := by
  obtain ⟨ys, n, _, _, _, hlen, hf⟩ := DataW.trod_struct Try.underlying34 h
  have hlen9 : ys.length = 9 := hlen
  have one : ∀ i (f : Field) (hi : i < 9) (ht : f.type = 3) (ho : f.offset = i) (hfi : DataW.trod enc Try.prog w base spare held n f.type ((cs.drop f.offset).take (Try.prog.cellsOf f.type)) = ys[i]?), ∃ z, cs[i]? = some (.int .i64 z) := by
    intro i f hi ht ho hfi
    rw [List.getElem?_eq_getElem (by omega), ht, ho] at hfi
    obtain ⟨z, hz⟩ := trod_i ⟨_, hfi⟩
    exact ⟨z, take_one hz⟩
  intro i hi
  match i, hi with
  | 0, _ => exact one 0 _ (by omega) rfl rfl (hf 0 _ rfl)
  | 1, _ => exact one 1 _ (by omega) rfl rfl (hf 1 _ rfl)
  | 2, _ => exact one 2 _ (by omega) rfl rfl (hf 2 _ rfl)
  | 3, _ => exact one 3 _ (by omega) rfl rfl (hf 3 _ rfl)
  | 4, _ => exact one 4 _ (by omega) rfl rfl (hf 4 _ rfl)
  | 5, _ => exact one 5 _ (by omega) rfl rfl (hf 5 _ rfl)
  | 6, _ => exact one 6 _ (by omega) rfl rfl (hf 6 _ rfl)
  | 7, _ => exact one 7 _ (by omega) rfl rfl (hf 7 _ rfl)
  | 8, _ => exact one 8 _ (by omega) rfl rfl (hf 8 _ rfl)
theorem trod_cross (h : DataW.trod enc Try.prog w base spare held fuel 36 cs = some x) : ∀ i, i < 15 → ∃ z, cs[i]? = some (.int .i64 z) := by
  obtain ⟨ys, n, _, _, _, hlen, hf⟩ := DataW.trod_struct Try.underlying36 h
  have hlen7 : ys.length = 7 := hlen
  have one : ∀ i j (f : Field) (hi : j < 7) (ht : f.type = 3) (ho : f.offset = i) (hfi : DataW.trod enc Try.prog w base spare held n f.type ((cs.drop f.offset).take (Try.prog.cellsOf f.type)) = ys[j]?), ∃ z, cs[i]? = some (.int .i64 z) := by
    intro i j f hi ht ho hfi
    rw [List.getElem?_eq_getElem (by omega), ht, ho] at hfi
    obtain ⟨z, hz⟩ := trod_i ⟨_, hfi⟩
    exact ⟨z, take_one hz⟩
  have mid : ∀ j, j < 9 → ∃ z, cs[4 + j]? = some (.int .i64 z) := by
    intro j hj
    have h4 := hf 4 _ rfl
    rw [List.getElem?_eq_getElem (by omega)] at h4
    obtain ⟨z, hz⟩ := trod_ent h4 j hj
    refine ⟨z, ?_⟩
    rw [List.getElem?_take] at hz
    split at hz
    · rw [List.getElem?_drop] at hz
      exact hz
    · cases hz
  intro i hi
  match i, hi with
  | 0, _ => exact one 0 0 _ (by omega) rfl rfl (hf 0 _ rfl)
  | 1, _ => exact one 1 1 _ (by omega) rfl rfl (hf 1 _ rfl)
  | 2, _ => exact one 2 2 _ (by omega) rfl rfl (hf 2 _ rfl)
  | 3, _ => exact one 3 3 _ (by omega) rfl rfl (hf 3 _ rfl)
  | 4, _ => exact mid 0 (by omega)
  | 5, _ => exact mid 1 (by omega)
  | 6, _ => exact mid 2 (by omega)
  | 7, _ => exact mid 3 (by omega)
  | 8, _ => exact mid 4 (by omega)
  | 9, _ => exact mid 5 (by omega)
  | 10, _ => exact mid 6 (by omega)
  | 11, _ => exact mid 7 (by omega)
  | 12, _ => exact mid 8 (by omega)
  | 13, _ => exact one 13 5 _ (by omega) rfl rfl (hf 5 _ rfl)
  | 14, _ => exact one 14 6 _ (by omega) rfl rfl (hf 6 _ rfl)
theorem cells36 : Try.prog.cellsOf 36 = 15 := by kernel_rfl
def crow (p : S36) : List Value := [.int .i64 p.f0, .int .i64 p.f1, .int .i64 p.f2, .int .i64 p.f3, .int .i64 p.f4.f0, .int .i64 p.f4.f1, .int .i64 p.f4.f2, .int .i64 p.f4.f3, .int .i64 p.f4.f4, .int .i64 p.f4.f5, .int .i64 p.f4.f6, .int .i64 p.f4.f7, .int .i64 p.f4.f8, .int .i64 p.f5, .int .i64 p.f6]
/-- a list of messages that is read -/
theorem open_crosses (h : DataW.trod enc Try.prog w base spare held fuel 28 cs = some x) : ∃ A n c, cs = [.slice A n c] ∧ n ≤ maxLen ∧ ∃ l : List S36, Kd.C k36 w A n l := by
  rcases open_slice Try.underlying28 h with ⟨h0, _⟩ | ⟨a, len, cap, m, k, D, Pl, hcs, hb, hl, hm, hmm, _, hi⟩
  · exact ⟨none, 0, 0, h0, Nat.zero_le _, [], rfl, by simp, fun h => absurd h (by simp)⟩
  · have hnm : len ≤ m := by rw [hmm]; split <;> omega
    have get : ∀ i, i < len → ∃ p : S36, ∀ j, j < 15 → w.cell? (a.add (i * 15 + j)) = (crow p)[j]? := by
      intro i hin
      obtain ⟨cs', hc, ht⟩ := hi i (by omega)
      rw [cells36] at hc
      obtain ⟨_, hcl, hat⟩ := World.cells?_some hc
      have hz := trod_cross ht
      obtain ⟨z0, h0⟩ := hz 0 (by omega)
      obtain ⟨z1, h1⟩ := hz 1 (by omega)
      obtain ⟨z2, h2⟩ := hz 2 (by omega)
      obtain ⟨z3, h3⟩ := hz 3 (by omega)
      obtain ⟨z4, h4⟩ := hz 4 (by omega)
      obtain ⟨z5, h5⟩ := hz 5 (by omega)
      obtain ⟨z6, h6⟩ := hz 6 (by omega)
      obtain ⟨z7, h7⟩ := hz 7 (by omega)
      obtain ⟨z8, h8⟩ := hz 8 (by omega)
      obtain ⟨z9, h9⟩ := hz 9 (by omega)
      obtain ⟨z10, h10⟩ := hz 10 (by omega)
      obtain ⟨z11, h11⟩ := hz 11 (by omega)
      obtain ⟨z12, h12⟩ := hz 12 (by omega)
      obtain ⟨z13, h13⟩ := hz 13 (by omega)
      obtain ⟨z14, h14⟩ := hz 14 (by omega)
      refine ⟨⟨z0, z1, z2, z3, ⟨z4, z5, z6, z7, z8, z9, z10, z11, z12⟩, z13, z14⟩, fun j hj => ?_⟩
      have hcell := hat j hj
      rw [Go.Deep.add_add] at hcell
      rw [hcell]
      match j, hj with
      | 0, _ => exact h0
      | 1, _ => exact h1
      | 2, _ => exact h2
      | 3, _ => exact h3
      | 4, _ => exact h4
      | 5, _ => exact h5
      | 6, _ => exact h6
      | 7, _ => exact h7
      | 8, _ => exact h8
      | 9, _ => exact h9
      | 10, _ => exact h10
      | 11, _ => exact h11
      | 12, _ => exact h12
      | 13, _ => exact h13
      | 14, _ => exact h14
    refine ⟨some a, len, cap, hcs, by omega, (List.range len).map (fun i => if hin : i < len then Classical.choose (get i hin) else z36), by simp, by simp only [maxLen] at hm; omega, fun _ => ⟨_, rfl, fun j p hp => ⟨crow p, rfl, k36_mk w p, fun i u hu => ?_⟩⟩⟩
    have hj : j < len := by
      have := (List.getElem?_eq_some_iff.1 hp).1
      simpa using this
    have hi9 : i < 15 := (List.getElem?_eq_some_iff.1 hu).1
    rw [List.getElem?_map, List.getElem?_range hj] at hp
    simp only [Option.map_some, dif_pos hj, Option.some.injEq] at hp
    have hs := Classical.choose_spec (get j hj) i hi9
    rw [hp] at hs
    exact hs.trans hu
/-- one Out that is read -/
theorem open_out (h : DataW.trod enc Try.prog w base spare held fuel 30 cs = some x) : ∃ reg frm A n c, cs = [.int .i64 reg, .int .i64 frm, .slice A n c] ∧ n ≤ maxLen ∧ ∃ l : List S36, Kd.C k36 w A n l := by
  obtain ⟨ys, n, _, _, hcl, hlen, hf⟩ := DataW.trod_struct Try.underlying30 h
  have hlen3 : ys.length = 3 := hlen
  have hc3 : cs.length = 3 := hcl.trans (by kernel_rfl)
  have one : ∀ i (f : Field) (hi : i < 3) (ht : f.type = 3) (ho : f.offset = i) (hfi : DataW.trod enc Try.prog w base spare held n f.type ((cs.drop f.offset).take (Try.prog.cellsOf f.type)) = ys[i]?), ∃ z, cs[i]? = some (.int .i64 z) := by
    intro i f hi ht ho hfi
    rw [List.getElem?_eq_getElem (by omega), ht, ho] at hfi
    obtain ⟨z, hz⟩ := trod_i ⟨_, hfi⟩
    exact ⟨z, take_one hz⟩
  obtain ⟨reg, h0⟩ := one 0 _ (by omega) rfl rfl (hf 0 _ rfl)
  obtain ⟨frm, h1⟩ := one 1 _ (by omega) rfl rfl (hf 1 _ rfl)
  have h2 := hf 2 _ rfl
  rw [List.getElem?_eq_getElem (by omega)] at h2
  obtain ⟨A, len, c, e2, hn, l, HC⟩ := open_crosses h2
  have e2' := take_one e2
  refine ⟨reg, frm, A, len, c, ?_, hn, l, HC⟩
  match cs, hc3, h0, h1, e2' with
  | [a, b, d], _, h0, h1, h2 =>
    simp at h0 h1 h2
    rw [h0, h1, h2]
end
end Go.Proofs.Ytnenhlgpkfelcaa.Box
