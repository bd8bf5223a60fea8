/- An argument that is a list of what regions emitted: its cells. -/
import Derived.Test.YtnenhlgpkfelcaaOpenOut
import Derived.Test.YtnenhlgpkfelcaaBxAdd
namespace Go.Proofs.Ytnenhlgpkfelcaa.Box2
open Go.Proofs.Ytnenhlgpkfelcaa.Box
open Go Go.RowKit Go.Maps Go.Deep Go.ChangeShapes Go.Proofs.Ytnenhlgpkfelcaa.POutboxPlays Go.Proofs.YtnenhlgpkfelcaaW.PrintWords Go.Proofs.YtnenhlgpkfelcaaW.PrintLast Go.Proofs.YtnenhlgpkfelcaaW.PrintMore
set_option linter.unusedVariables false
set_option linter.unusedSimpArgs false
/-- what is read at one element's three cells -/
def OutAt (w : World) (ad : Addr) : Prop := ∃ (r f : Int) (A : Option Addr) (n c : Nat) (l : List S36), w.cell? ad = some (.int .i64 r) ∧ w.cell? (ad.add 1) = some (.int .i64 f) ∧ w.cell? (ad.add 2) = some (.slice A n c) ∧ (-9223372036854775808 ≤ r ∧ r ≤ 9223372036854775807) ∧ (-9223372036854775808 ≤ f ∧ f ≤ 9223372036854775807) ∧ n ≤ maxLen ∧ Kd.C k36 w A n l
section
variable {H : Type} {enc : TypeId × Value → H} {w : World} {base : Nat} {spare : Nat → Bool} {held : Bool} {fuel : Nat} {cs : List Value} {x : DataW H × List MemPlace}
theorem cells30 : Try.prog.cellsOf 30 = 3 := by kernel_rfl
theorem open_one (h : DataW.trod enc Try.prog w base spare held fuel 30 cs = some x) : ∃ (k f : Int) (A : Option Addr) (n c : Nat) (l : List S36), cs[0]? = some (.int .i64 k) ∧ cs[1]? = some (.int .i64 f) ∧ cs[2]? = some (.slice A n c) ∧ (-9223372036854775808 ≤ k ∧ k ≤ 9223372036854775807) ∧ (-9223372036854775808 ≤ f ∧ f ≤ 9223372036854775807) ∧ n ≤ maxLen ∧ Kd.C k36 w A n l := by
  obtain ⟨ys, n, _, _, hcl, hlen, hf⟩ := DataW.trod_struct Try.underlying30 h
  have hlen3 : ys.length = 3 := hlen
  have h0 := hf 0 _ rfl
  rw [List.getElem?_eq_getElem (by omega)] at h0
  obtain ⟨k, hk, _, hwk⟩ := DataW.trod_int Try.underlying3 h0
  have h1 := hf 1 _ rfl
  rw [List.getElem?_eq_getElem (by omega)] at h1
  obtain ⟨f, hz, _, hwf⟩ := DataW.trod_int Try.underlying3 h1
  have h2 := hf 2 _ rfl
  rw [List.getElem?_eq_getElem (by omega)] at h2
  obtain ⟨A, len, c, e2, hn, l, HC⟩ := open_crosses h2
  exact ⟨k, f, A, len, c, l, take_one hk, take_one hz, take_one e2, bounds_i64 hwk, bounds_i64 hwf, hn, HC⟩
/-- a list that is read -/
theorem open_outs (h : DataW.trod enc Try.prog w base spare held fuel 40 cs = some x) : ∃ A n c, cs = [.slice A n c] ∧ n ≤ maxLen ∧ n ≤ c ∧ (0 < n → ∃ ad, A = some ad ∧ ∀ i, i < n → OutAt w (ad.add (i * 3))) := by
  rcases open_slice Try.underlying40 h with ⟨h0, _⟩ | ⟨a, len, cap, m, k, D, Pl, hcs, hb, hl, hm, hmm, _, hi⟩
  · exact ⟨none, 0, 0, h0, Nat.zero_le _, Nat.le_refl _, fun h => absurd h (Nat.lt_irrefl _)⟩
  · have hnm : len ≤ m := by rw [hmm]; split <;> omega
    refine ⟨some a, len, cap, hcs, by simp only [maxLen] at hm ⊢; omega, by omega, fun _ => ⟨a, rfl, fun i hin => ?_⟩⟩
    obtain ⟨cs', hc, ht⟩ := hi i (by omega)
    rw [cells30] at hc
    obtain ⟨_, hcl, hat⟩ := World.cells?_some hc
    obtain ⟨k0, f, A, n, c, l, h0, h1, h2, hk, hf, hn, HC⟩ := open_one ht
    have g : ∀ j, j < 3 → w.cell? ((a.add (i * 3)).add j) = cs'[j]? := fun j hj => hat j hj
    refine ⟨k0, f, A, n, c, l, ?_, (g 1 (by omega)).trans h1, (g 2 (by omega)).trans h2, hk, hf, hn, HC⟩
    have g0 := (g 0 (by omega)).trans h0
    simpa [Addr.add] using g0
end
theorem cell_later {w wx : World} {a : Addr} {v : Value} (hb : Below w.heap.size w wx) (h : w.cell? a = some v) : wx.cell? a = some v := (hb.cell (World.block_lt_of_cell? _ _ h)).trans h
end Go.Proofs.Ytnenhlgpkfelcaa.Box2
