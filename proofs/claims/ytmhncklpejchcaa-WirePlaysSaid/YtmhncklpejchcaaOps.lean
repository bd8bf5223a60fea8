/- A list of ops that is read: kind, two numbers, a byte and rows of bytes of each. -/
import Derived.Test.YtmhncklpejchcaaOpen
import Derived.Test.YtmhncklpejchcaaDouble
namespace Go.Proofs.Ytmhncklpejchcaa.Wir
open Go Go.RowKit Go.Deep Go.ChangeShapes Go.Proofs.Ytmhncklpejchcaa.PWirePlays Go.Proofs.YtmhncklpejchcaaW.PrintWords Go.Proofs.YtmhncklpejchcaaW.PrintLast Go.Proofs.YtmhncklpejchcaaW.PrintMore
set_option linter.unusedVariables false
/-- what is read at one op's five cells -/
def OpAt (w : World) (ad : Addr) (k i a b : Int) (A : Option Addr) (n c : Nat) (L : List (List Int)) : Prop := w.cell? ad = some (.int .i64 k) ∧ w.cell? (ad.add 1) = some (.int .i64 i) ∧ w.cell? (ad.add 2) = some (.int .i64 a) ∧ w.cell? (ad.add 3) = some (.int .u8 b) ∧ w.cell? (ad.add 4) = some (.slice A n c) ∧ (n ≤ maxLen ∧ n ≤ c) ∧ Kd.C kbs w A n L ∧ (∀ p ∈ L, p.length ≤ 140737488351232)
section
variable {H : Type} {enc : TypeId × Value → H} {w : World} {base : Nat} {spare : Nat → Bool} {held : Bool} {fuel : Nat} {cs : List Value} {x : DataW H × List MemPlace}
theorem take_one {cs : List Value} {i k : Nat} {v : Value} (h : (cs.drop i).take k = [v]) : cs[i]? = some v := by
  have h1 := congrArg (fun l => l[0]?) h
  simp only [List.getElem?_take, List.getElem?_drop, Nat.add_zero, List.getElem?_cons_zero] at h1
  split at h1
  · exact h1
  · cases h1
theorem cells40 : Try.prog.cellsOf 40 = 5 := by kernel_rfl
theorem open_op (h : DataW.trod enc Try.prog w base spare held fuel 40 cs = some x) (hw : ∀ m ∈ x.1.weights Try.prog 40, m ≤ reachBytes) : ∃ (k i a b : Int) (A : Option Addr) (n c : Nat) (L : List (List Int)), cs[0]? = some (.int .i64 k) ∧ cs[1]? = some (.int .i64 i) ∧ cs[2]? = some (.int .i64 a) ∧ cs[3]? = some (.int .u8 b) ∧ cs[4]? = some (.slice A n c) ∧ (n ≤ maxLen ∧ n ≤ c) ∧ Kd.C kbs w A n L ∧ (∀ p ∈ L, p.length ≤ 140737488351232) := by
  obtain ⟨ys, n, _, hxx, hcl, hlen, hf⟩ := DataW.trod_struct Try.underlying40 h
  have hlen5 : ys.length = 5 := hlen
  have h0 := hf 0 _ rfl
  rw [List.getElem?_eq_getElem (by omega)] at h0
  obtain ⟨k, hk, _, hwk⟩ := DataW.trod_int Try.underlying3 h0
  have h1 := hf 1 _ rfl
  rw [List.getElem?_eq_getElem (by omega)] at h1
  obtain ⟨i, hi, _, hwi⟩ := DataW.trod_int Try.underlying3 h1
  have h2 := hf 2 _ rfl
  rw [List.getElem?_eq_getElem (by omega)] at h2
  obtain ⟨a, ha, _, hwa⟩ := DataW.trod_int Try.underlying3 h2
  have h3 := hf 3 _ rfl
  rw [List.getElem?_eq_getElem (by omega)] at h3
  obtain ⟨b, hb, _, hwb⟩ := DataW.trod_int Try.underlying5 h3
  have h4 := hf 4 _ rfl
  rw [List.getElem?_eq_getElem (by omega)] at h4
  obtain ⟨A, len, c, e4, hn, hc, L, HC, hs, _⟩ := open_rows h4 (fun m hm => hw m (by
    rw [hxx]
    simp only [DataW.weights, Try.underlying40]
    exact DataW.weights_mem_each (j := 4) rfl (by rw [List.getElem?_map, List.getElem?_eq_getElem (by omega)]; rfl) m hm))
  exact ⟨k, i, a, b, A, len, c, L, take_one hk, take_one hi, take_one ha, take_one hb, take_one e4, ⟨hn, hc⟩, HC, hs⟩
/-- a list of ops that is read -/
theorem open_ops (h : DataW.trod enc Try.prog w base spare held fuel 38 cs = some x) (hw : ∀ m ∈ x.1.weights Try.prog 38, m ≤ reachBytes) : ∃ A n c, cs = [.slice A n c] ∧ n ≤ maxLen ∧ n ≤ c ∧ (0 < n → ∃ ad, A = some ad ∧ ∀ i, i < n → ∃ k i' a b A' n' c' L, OpAt w (ad.add (i * 5)) k i' a b A' n' c' L) := by
  rcases open_slice Try.underlying38 h with ⟨h0, _⟩ | ⟨a, len, cap, m, k, D, Pl, hcs, hb, hl, hm, hmm, hx, hi⟩
  · exact ⟨none, 0, 0, h0, Nat.zero_le _, Nat.le_refl _, fun h => absurd h (Nat.lt_irrefl _)⟩
  · have hnm : len ≤ m := by rw [hmm]; split <;> omega
    refine ⟨some a, len, cap, hcs, by simp only [maxLen] at hm ⊢; omega, by omega, fun _ => ⟨a, rfl, fun i hin => ?_⟩⟩
    obtain ⟨cs', hc, ht⟩ := hi i (by omega)
    rw [cells40] at hc
    obtain ⟨_, hcl, hat⟩ := World.cells?_some hc
    obtain ⟨k0, i', a', b', A, n, c, L, h0, h1, h2, h3, h4, hn, HC, hs⟩ := open_op ht (fun q hq => hw q (by
      rw [hx]
      simp only [DataW.weights, Try.underlying38, List.mem_cons, List.mem_append]
      exact .inr (.inl (weights_all (List.mem_map.2 ⟨i, List.mem_range.2 hin, rfl⟩) hq))))
    have g : ∀ j, j < 5 → w.cell? ((a.add (i * 5)).add j) = cs'[j]? := fun j hj => hat j hj
    refine ⟨k0, i', a', b', A, n, c, L, ?_, (g 1 (by omega)).trans h1, (g 2 (by omega)).trans h2, (g 3 (by omega)).trans h3, (g 4 (by omega)).trans h4, hn, HC, hs⟩
    have g0 := (g 0 (by omega)).trans h0
    simpa [Addr.add] using g0
end
theorem cell_later {w wx : World} {a : Addr} {v : Value} (hb : Below w.heap.size w wx) (h : w.cell? a = some v) : wx.cell? a = some v := (hb.cell (World.block_lt_of_cell? _ _ h)).trans h
theorem OpAt.below {w W : World} {ad : Addr} {k i a b : Int} {A : Option Addr} {n c : Nat} {L : List (List Int)} (h : OpAt w ad k i a b A n c L) (hb : Below w.heap.size w W) : OpAt W ad k i a b A n c L := by
  obtain ⟨h0, h1, h2, h3, h4, hn, HC, hs⟩ := h
  exact ⟨cell_later hb h0, cell_later hb h1, cell_later hb h2, cell_later hb h3, cell_later hb h4, hn, Kd.C_below HC hb, hs⟩
end Go.Proofs.Ytmhncklpejchcaa.Wir
