/- The contracts of awake, and of jousthelp.Plain at two lists that are alike. -/
import Derived.Test.YtjgedonhfiifmaaMeetGem
import Derived.Deep.RegionWith
import Derived.Deep.RegionHeld3
import Derived.Deep.DeepCutAuto
import Derived.Deep.CutBlock
namespace Go.Proofs.Ytjgedonhfiifmaa.Hit
open Go.RowKit Go.Proofs.Ytjgedonhfiifmaa.PHittingOnly Go.Proofs.YtjgedonhfiifmaaW.PrintWords Go.Proofs.YtjgedonhfiifmaaW.PrintLast Go.Proofs.YtjgedonhfiifmaaW.PrintMore
set_option linter.unusedVariables false

def flat : List S25 → List Value
  | [] => []
  | p :: l => (cells p).toList ++ flat l
theorem flat_get (l : List S25) : ∀ i j, i < l.length → j < 9 → (flat l)[i * 9 + j]? = (cells (l.getD i z25))[j]? := by
  induction l with
  | nil => intro i j h; simp at h
  | cons p l ih =>
    intro i j hi hj
    have hl : (cells p).toList.length = 9 := rfl
    rcases i with _ | i
    · unfold flat
      rw [List.getElem?_append_left (by omega), Array.getElem?_toList]
      simp
    · unfold flat
      rw [List.getElem?_append_right (by omega), hl, show (i + 1) * 9 + j - 9 = i * 9 + j by omega, ih i j (by simpa using hi) hj]
      simp
theorem flat_length (l : List S25) : (flat l).length = l.length * 9 := by
  induction l with
  | nil => rfl
  | cons p l ih =>
    unfold flat
    rw [List.length_append, ih]
    show 9 + l.length * 9 = (l.length + 1) * 9
    omega
theorem Row.lit (w : World) (l : List S25) (hl : l.length ≤ 1000) : Row (w.alloc (.cells (flat l).toArray 25)) w.heap.size l.length l :=
  ⟨(flat l).toArray, heap_alloc_new _ _, by simp [flat_length], Nat.le_refl _, by unfold maxLen; omega, fun i j hi hj => by rw [List.getElem?_toArray]; exact flat_get l i j hi hj⟩

def aw1 : S25 := ⟨1, 1, 0, 0, 0, 0, 50, 0, 0⟩
def aw2 : S25 := ⟨1000, 2, 0, 0, 0, 0, 0, 0, 2⟩
def aw3 : S25 := ⟨3, 1, 0, 0, 0, 0, 0, 0, 0⟩
theorem aw_shots : shotF [aw1, aw2] = [⟨1, 1, 0, 0, 0, 0, 30, 0, 0⟩] := by kernel_rfl
theorem aw_fallen : hitting_Fallen.f 5 [aw3] = some [3] := by kernel_rfl

set_option maxRecDepth 100000 in
set_option maxHeartbeats 4000000 in
theorem awake_c (w : World) : Calls Try.prog 8 #[] w fun e w' => e = .returned (.bool true) ∧ Below w.heap.size w w' := by
  have k1 := Aside0.mk (fun (W : World) (h : Kd.C k25 W (some ⟨w.heap.size, 0, none⟩) 2 [aw1, aw2]) => shots_c (some ⟨w.heap.size, 0, none⟩) 2 2 [aw1, aw2] W h (by omega))
  rw [aw_shots] at k1
  have k2 := Aside0.mk (fun (W : World) (h : Kd.C k25 (W.alloc (.cells (flat [aw3]).toArray 25)) (some ⟨W.heap.size, 0, none⟩) 1 [aw3]) => hitting_Fallen.calls 5 (some ⟨W.heap.size, 0, none⟩) 1 [aw3] [3] (W.alloc (.cells (flat [aw3]).toArray 25)) h (by decide) aw_fallen)
  have r1 := Aside0.mk (Row.lit w [aw1, aw2] (by decide))
  have r2 := Aside0.mk (fun (W : World) => Row.lit W [aw3] (by decide))
  have HB := Aside0.mk ((Below.refl w.heap.size w).alloc (Nat.le_refl _) (.cells (flat [aw1, aw2]).toArray 25))
  simp only [flat, cells, aw1, aw2, aw3, List.append_nil, List.cons_append, List.nil_append, List.length_cons, List.length_nil, Nat.zero_add, Nat.reduceAdd] at k1 k2 r1 r2 HB
  go_enter Try.func8, Try.ntmps8
  go_wp2_with (first
    | (go_at_call 7; (with_reducible refine (k1.out _ r1.out.reads).mono ?_); rintro e w1 ⟨⟨A', n', c', rfl, h1⟩, hb1⟩; obtain ⟨G, rfl, rfl, hGb, hrow⟩ := R_row h1 (by simp); clear h1; replace HB := Aside0.mk (below_then HB.out HB.out.size hb1); clear hb1; have x6 := hrow.cell (i := 0) (j := 6) (by simp) (by simp); simp [cells] at x6; replace hrow := Aside0.mk hrow)
    | (go_at_call 16; (with_reducible refine (k2.out _ (r2.out _).reads).mono ?_); rintro e w2 ⟨v0, rfl, h2, hb2⟩; obtain ⟨A2, c2, e2⟩ := Kd.R_slice h2; subst e2; clear h2; replace HB := Aside0.mk (below_then (HB.out.alloc HB.out.size _) (HB.out.alloc HB.out.size _).size hb2); clear hb2)
    | fail)
  go_ret
  exact ⟨rfl, HB.out⟩

theorem plain1_c (p : S25) (w : World) : Calls Try.prog 18 #[ent p, ent p] w fun e w' => e = .returned (.bool true) ∧ Below w.heap.size w w' := by
  unfold ent
  go_enter Try.func18, Try.ntmps18
  go_wp2
  go_ret
  exact ⟨by simp, ((Below.refl _ _).alloc (Nat.le_refl _) _).alloc (by simp) _⟩

set_option maxHeartbeats 1600000 in
theorem same_c (A B : Option Addr) (n c d : Nat) (l : List S25) (w : World) (HA : Kd.C k25 w A n l) (HB' : Kd.C k25 w B n l) :
    Calls Try.prog 17 #[.slice A n c, .slice B n d, .func (.func 18) #[] #[]] w fun e w' => e = .returned (.bool true) ∧ Below w.heap.size w w' := by
  have hl : l.length = n := HA.1
  have hm : n ≤ 9223372036854775807 := HA.2.1
  replace HA := Aside0.mk HA
  replace HB' := Aside0.mk HB'
  replace hl := Aside0.mk hl
  go_enter Try.func17, Try.ntmps17
  go_wp2_with fail
  go_loopw [7] (fun i wr => ∃ k : Nat, k ≤ n ∧ i = .int .i64 k ∧ Aside0 (Below w.heap.size w wr)) (fun i _ => n - (intOf i).toNat)
  case atStart => exact ⟨0, Nat.zero_le _, rfl, ⟨Below.refl _ _⟩⟩
  case round =>
    obtain ⟨k, hk, rfl, HB⟩ := hrel
    by_cases hlt : k < n
    · obtain ⟨ad, e1, x0, x1, x2, x3, x4, x5, x6, x7, x8⟩ := at_T25 (Kd.C_below HA.out HB.out) (k : Int) (by omega) (by omega)
      obtain ⟨bd, e2, y0, y1, y2, y3, y4, y5, y6, y7, y8⟩ := at_T25 (Kd.C_below HB'.out HB.out) (k : Int) (by omega) (by omega)
      rw [Int.toNat_natCast] at x0 x1 x2 x3 x4 x5 x6 x7 x8 y0 y1 y2 y3 y4 y5 y6 y7 y8
      subst e1 e2
      generalize rd_T25 l (k : Int) = p at *
      have k1 := plain1_c p
      unfold ent at k1
      replace k1 := Aside0.mk k1
      have b0 : (0 : Int) ≤ (k : Int) := by omega
      have b1 : (k : Int) < (n : Int) := by omega
      go_upto_region 6 with fail
      go_cut [29] (fun t wx => t = .bool false ∧ Aside0 (Below w.heap.size w wx))
      case first =>
        go_region_with (first | (go_at_call 18; refine (k1.out _).mono ?_; rintro e w3 ⟨rfl, hb3⟩; have HB3 := Aside0.mk (below_then (below_drew HB.out) (below_drew HB.out).size hb3); clear hb3))
        all_goals
          go_wp2_with fail
          go_meet
          exact ⟨rfl, HB3⟩
      case rest =>
      obtain ⟨rfl, HB3⟩ := hcut
      clear HB
      go_wp2_with fail
      go_roundw
      case rel => exact ⟨k + 1, by omega, by go_num, HB3⟩
      case measure => simp [intOf]; omega
    · go_wp2_with fail
      go_ret
      exact ⟨rfl, HB.out⟩

theorem plain_c (A B : Option Addr) (n c d : Nat) (l : List S25) (w : World) (HA : Kd.C k25 w A n l) (HB' : Kd.C k25 w B n l) :
    Calls Try.prog 9 #[.slice A n c, .slice B n d] w fun e w' => e = .returned (.bool true) ∧ Below w.heap.size w w' := by
  have k := Aside0.mk (same_c A B n c d l w HA HB')
  go_enter Try.func9, Try.ntmps9
  go_wp2_with (first | (go_at_call 17; (with_reducible refine k.out.mono ?_); rintro e w3 ⟨rfl, hb3⟩; replace hb3 := Aside0.mk hb3) | fail)
  go_ret
  exact ⟨rfl, hb3.out⟩
end Go.Proofs.Ytjgedonhfiifmaa.Hit
