/- Rows of entities and of bools in memory, and what meet makes of a list of entities, in plain words. -/
import Derived.Test.YtjgedonhfiifmaaHit3
namespace Go.Proofs.Ytjgedonhfiifmaa.Hit
open Go.RowKit Go.Proofs.Ytjgedonhfiifmaa.PHittingOnly Go.Proofs.YtjgedonhfiifmaaW.PrintWords Go.Proofs.YtjgedonhfiifmaaW.PrintLast Go.Proofs.YtjgedonhfiifmaaW.PrintMore
set_option linter.unusedVariables false

/-! ### plain words -/
/-- another health -/
def withH (p : S25) (h : Int) : S25 := { p with f6 := h }
def upd (turn : Int → Int) (l : List S25) (a : Nat) : List S25 := l.set a (withH (l.getD a z25) (turn (l.getD a z25).f6))
/-- one thing's turn -/
def stepM (P : S25 → S25 → Bool) (kind : Int) (turn : Int → Int) (s : List S25 × List Bool) (i : Nat) : List S25 × List Bool :=
  if (s.1.getD i z25).f1 = kind ∧ s.1.any (P (s.1.getD i z25)) = true then (upd turn s.1 (s.1.findIdx (P (s.1.getD i z25))), s.2.set i true) else s
def iterM (P : S25 → S25 → Bool) (kind : Int) (turn : Int → Int) (l : List S25) : Nat → List S25 × List Bool
  | 0 => (l, List.replicate l.length false)
  | k + 1 => stepM P kind turn (iterM P kind turn l k) k
/-- what is left -/
def leftOf (out : List S25) (gone : List Bool) : List S25 := ((out.zip gone).filter fun x => !x.2).map (·.1)
def meetF (P : S25 → S25 → Bool) (kind : Int) (turn : Int → Int) (l : List S25) : List S25 := leftOf (iterM P kind turn l l.length).1 (iterM P kind turn l l.length).2

theorem upd_length (turn : Int → Int) (l : List S25) (a : Nat) : (upd turn l a).length = l.length := by unfold upd; simp
theorem stepM_length (P : S25 → S25 → Bool) (kind : Int) (turn : Int → Int) (s : List S25 × List Bool) (i : Nat) : (stepM P kind turn s i).1.length = s.1.length ∧ (stepM P kind turn s i).2.length = s.2.length := by
  unfold stepM
  split
  · exact ⟨upd_length _ _ _, by simp⟩
  · exact ⟨rfl, rfl⟩
theorem iterM_length (P : S25 → S25 → Bool) (kind : Int) (turn : Int → Int) (l : List S25) (k : Nat) : (iterM P kind turn l k).1.length = l.length ∧ (iterM P kind turn l k).2.length = l.length := by
  induction k with
  | zero => exact ⟨rfl, by simp [iterM]⟩
  | succ k ih =>
    have := stepM_length P kind turn (iterM P kind turn l k) k
    exact ⟨this.1.trans ih.1, this.2.trans ih.2⟩

theorem leftOf_take (out : List S25) (gone : List Bool) (k : Nat) (h1 : k < out.length) (h2 : k < gone.length) :
    leftOf (out.take (k + 1)) (gone.take (k + 1)) = leftOf (out.take k) (gone.take k) ++ (if gone[k] = true then [] else [out[k]]) := by
  unfold leftOf
  rw [List.take_succ_eq_append_getElem h1, List.take_succ_eq_append_getElem h2, List.zip_append (by simp [List.length_take]; omega), List.filter_append, List.map_append]
  congr 1
  by_cases h : gone[k] = true
  · simp [h]
  · simp [h]
theorem leftOf_length (out : List S25) (gone : List Bool) : (leftOf out gone).length ≤ out.length := by
  unfold leftOf
  rw [List.length_map]
  refine Nat.le_trans (List.length_filter_le _ _) ?_
  rw [List.length_zip]
  omega

/-! ### rows -/
/-- a block of entities, those of l first -/
def Row (w : World) (g cap : Nat) (l : List S25) : Prop := ∃ cur : Array Value, w.heap[g]? = some (.cells cur 25 (0, 0)) ∧ cur.size = cap * 9 ∧ l.length ≤ cap ∧ cap ≤ maxLen ∧ ∀ i j, i < l.length → j < 9 → cur[i * 9 + j]? = (cells (l.getD i z25))[j]?

section
variable {w w' : World} {g cap : Nat} {l : List S25}
theorem Row.lt (h : Row w g cap l) : g < w.heap.size := by obtain ⟨cur, hb, _⟩ := h; exact (Array.getElem?_eq_some_iff.1 hb).1
theorem Row.f (h : Row w g cap l) (j : Nat) : w.frozen? ⟨g, j, none⟩ = false := by obtain ⟨cur, hb, _⟩ := h; simp [World.frozen?, hb]
theorem Row.cell (h : Row w g cap l) {i j : Nat} (hi : i < l.length) (hj : j < 9) : w.cell? ⟨g, i * 9 + j, none⟩ = (cells (l.getD i z25))[j]? := by
  obtain ⟨cur, hb, _, _, _, hc⟩ := h
  rw [cell_of_row w g _ cur 25 (0, 0) hb]
  exact hc i j hi hj
theorem Row.move (h : Row w g cap l) (hm : w'.heap[g]? = w.heap[g]?) : Row w' g cap l := by obtain ⟨cur, hb, r⟩ := h; exact ⟨cur, hm.trans hb, r⟩
theorem Row.below (h : Row w g cap l) (hb : Below w.heap.size w w') : Row w' g cap l := h.move (hb.block g h.lt)
theorem Row.drewN (h : Row w g cap l) (n : Nat) : Row (w.drewN n) g cap l := h
theorem Row.alloc (h : Row w g cap l) (o : Obj) : Row (w.alloc o) g cap l := h.move (Below.heap_alloc w o g h.lt)
theorem Row.far (h : Row w g cap l) {b : Nat} (hb : g ≠ b) (j : Nat) (u : Value) : Row (w.setCell ⟨b, j, none⟩ u) g cap l := h.move (Below.heap_setCell w ⟨b, j, none⟩ u g hb)
theorem Row.other (h : Row w g cap l) {row : Option Nat} (hg : w.grownBy w' row) (hne : some g ≠ row) : Row w' g cap l := h.move (hg.block g h.lt hne)
theorem Row.put (h : Row w g cap l) {i : Nat} (hi : i < l.length) (x : Int) : Row (w.setCell ⟨g, i * 9 + 6, none⟩ (.int .i64 x)) g cap (l.set i (withH (l.getD i z25) x)) := by
  obtain ⟨cur, hb, hs, hl, hm, hc⟩ := h
  refine ⟨cur.setIfInBounds (i * 9 + 6) (.int .i64 x), ?_, by simpa using hs, by simpa using hl, hm, fun a j ha hj => ?_⟩
  · simp [World.setCell, Array.getElem?_modify, hb]
  · rw [List.length_set] at ha
    by_cases hai : a = i
    · subst hai
      have hv : (l.set a (withH (l.getD a z25) x)).getD a z25 = withH (l.getD a z25) x := by simp [List.getD_eq_getElem?_getD, ha]
      rw [hv]
      by_cases hj6 : j = 6
      · subst hj6
        rw [Array.getElem?_setIfInBounds_self_of_lt (by omega)]
        rfl
      · rw [Array.getElem?_setIfInBounds_ne (by omega), hc a j ha hj]
        match j, hj with
        | 0, _ => rfl
        | 1, _ => rfl
        | 2, _ => rfl
        | 3, _ => rfl
        | 4, _ => rfl
        | 5, _ => rfl
        | 6, _ => exact absurd rfl hj6
        | 7, _ => rfl
        | 8, _ => rfl
    · have hv : (l.set i (withH (l.getD i z25) x)).getD a z25 = l.getD a z25 := by simp [List.getD_eq_getElem?_getD, Ne.symm hai]
      rw [hv, Array.getElem?_setIfInBounds_ne (by omega)]
      exact hc a j ha hj
theorem Row.reads (h : Row w g cap l) : Kd.C k25 w (some ⟨g, 0, none⟩) l.length l := by
  have hm : l.length ≤ 9223372036854775807 := by obtain ⟨cur, _, _, hl, hm, _⟩ := h; simp only [maxLen] at hm; omega
  refine ⟨rfl, hm, fun _ => ⟨_, rfl, fun j p hp => ⟨(cells p).toList, rfl, k25_mk w p, fun i u hu => ?_⟩⟩⟩
  have hj : j < l.length := (List.getElem?_eq_some_iff.1 hp).1
  have hi : i < 9 := (List.getElem?_eq_some_iff.1 hu).1
  have hpd : l.getD j z25 = p := by rw [List.getD_eq_getElem?_getD, hp]; rfl
  rw [add_plain]
  show w.cell? ⟨g, j * 9 + i, none⟩ = some u
  rw [h.cell hj hi, hpd, ← Array.getElem?_toList]
  exact hu
theorem Row.of_R {base : Nat} {ok : Nat → Prop} {g n cap : Nat} (h : Kd.R k25 25 w base ok (.slice (some ⟨g, 0, none⟩) n cap) l) : Row w g cap l := by
  obtain ⟨_, inner, hown, hr⟩ := h
  rcases hown.2 with ⟨h0, _⟩ | ⟨g', cap', cur, hv, hbg, hg, hnc, hcm, hcs, htake⟩
  · cases h0
  · cases hv
    refine ⟨cur, hg, hcs, hnc, hcm, fun i j hi hj => ?_⟩
    have hK := k25_openM (hr.2 i l[i] (List.getElem?_eq_getElem hi))
    have hpd : l.getD i z25 = l[i] := by simp [List.getD_eq_getElem?_getD, List.getElem?_eq_getElem hi]
    have h1 : ((inner.drop (i * 9)).take 9)[j]? = inner[i * 9 + j]? := by
      rw [List.getElem?_take, if_pos hj, List.getElem?_drop]
    have h2 : inner[i * 9 + j]? = cur[i * 9 + j]? := by
      rw [← htake, List.getElem?_take, if_pos (by show i * 9 + j < l.length * 9; omega), Array.getElem?_toList]
    rw [← h2, ← h1]
    show ((inner.drop (i * k25.sz)).take k25.sz)[j]? = _
    rw [hK, hpd]
    unfold cells
    simp
end

/-- a block of bools -/
def Bls (w : World) (g : Nat) (bs : List Bool) : Prop := w.heap[g]? = some (.cells (bs.map Value.bool).toArray 4 (0, 0))
section
variable {w w' : World} {g : Nat} {bs : List Bool}
theorem Bls.lt (h : Bls w g bs) : g < w.heap.size := (Array.getElem?_eq_some_iff.1 h).1
theorem Bls.f (h : Bls w g bs) (j : Nat) : w.frozen? ⟨g, j, none⟩ = false := by unfold Bls at h; simp [World.frozen?, h]
theorem Bls.cell (h : Bls w g bs) {i : Nat} (hi : i < bs.length) : w.cell? ⟨g, i, none⟩ = some (.bool bs[i]) := by
  rw [cell_of_row w g _ _ 4 (0, 0) h]
  simp [List.getElem?_eq_getElem hi]
theorem Bls.move (h : Bls w g bs) (hm : w'.heap[g]? = w.heap[g]?) : Bls w' g bs := hm.trans h
theorem Bls.below (h : Bls w g bs) (hb : Below w.heap.size w w') : Bls w' g bs := h.move (hb.block g h.lt)
theorem Bls.alloc (h : Bls w g bs) (o : Obj) : Bls (w.alloc o) g bs := h.move (Below.heap_alloc w o g h.lt)
theorem Bls.far (h : Bls w g bs) {b : Nat} (hb : g ≠ b) (j : Nat) (u : Value) : Bls (w.setCell ⟨b, j, none⟩ u) g bs := h.move (Below.heap_setCell w ⟨b, j, none⟩ u g hb)
theorem Bls.other (h : Bls w g bs) {row : Option Nat} (hg : w.grownBy w' row) (hne : some g ≠ row) : Bls w' g bs := h.move (hg.block g h.lt hne)
theorem Bls.put (h : Bls w g bs) (i : Nat) (b : Bool) : Bls (w.setCell ⟨g, i, none⟩ (.bool b)) g (bs.set i b) := by
  unfold Bls at h ⊢
  simp [World.setCell, Array.getElem?_modify, h, List.map_set]
theorem Bls.ne_row {cap : Nat} {g' : Nat} {l : List S25} (h : Bls w g bs) (hr : Row w g' cap l) : g ≠ g' := by
  rintro rfl
  obtain ⟨cur, hb, _⟩ := hr
  unfold Bls at h
  rw [h] at hb
  injection hb with hb
  injection hb with _ ht
  exact absurd ht (by decide)
end
end Go.Proofs.Ytjgedonhfiifmaa.Hit
