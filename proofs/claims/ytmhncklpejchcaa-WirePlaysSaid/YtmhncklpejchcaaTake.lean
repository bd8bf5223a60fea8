/- The contracts of Take, Peek and Corrupt. -/
import Derived.Test.YtmhncklpejchcaaPush
namespace Go.Proofs.Ytmhncklpejchcaa.Wir
open Go Go.RowKit Go.Proofs.Ytmhncklpejchcaa.PWirePlays Go.Proofs.YtmhncklpejchcaaW.PrintWords Go.Proofs.YtmhncklpejchcaaW.PrintLast Go.Proofs.YtmhncklpejchcaaW.PrintMore
set_option linter.unusedVariables false
set_option linter.unusedSimpArgs false
theorem getAt (L : List (List Int)) (i : Nat) (hi : i < L.length) : rd_L1 L (i : Int) = L[i] := by simp [rd_L1, List.getD_eq_getElem?_getD, List.getElem?_eq_getElem hi]
theorem R_home {α : Type} {d : Kd α} {e n c base : Nat} {W : World} {ok : Nat → Prop} {xs : List α} {ad : Addr} (h : d.R e W base ok (.slice (some ad) n c) xs) : ∃ g, ad = ⟨g, 0, none⟩ := by
  obtain ⟨_, inner, hown, _⟩ := h
  rcases hown.2 with ⟨hv, _⟩ | ⟨g', cap', cur, hv, _⟩
  · cases hv
  · injection hv with ha _ _
    injection ha with ha
    exact ⟨g', ha⟩
theorem peekOut_c (i : Int) (B base : Nat) (v : Value) (L : List (List Int)) (w : World) (h : Wi w B base v L) (hi : i < 0 ∨ (L.length : Int) ≤ i) :
    Calls Try.prog 15 #[.pointer (some ⟨B, 0, none⟩), .int .i64 i] w fun e w' => e = .returned (.tuple #[.slice none 0 0, .bool false]) ∧ w' = w := by
  have ka := atOut_c i B base v L w h hi
  replace ka := Aside0.mk ka
  go_enter Try.func15, Try.ntmps15
  go_wp2_with (first | (go_at_call 18; (with_reducible refine ka.out.mono ?_); rintro e w' ⟨rfl, hw⟩; subst w') | fail)
  go_ret2
  exact ⟨rfl, rfl⟩
theorem takeOut_c (i : Int) (B base : Nat) (v : Value) (L : List (List Int)) (w : World) (h : Wi w B base v L) (hi : i < 0 ∨ (L.length : Int) ≤ i) :
    Calls Try.prog 11 #[.pointer (some ⟨B, 0, none⟩), .int .i64 i] w fun e w' => e = .returned (.tuple #[.slice none 0 0, .int .i64 8]) ∧ w' = w := by
  have ka := atOut_c i B base v L w h hi
  replace ka := Aside0.mk ka
  go_enter Try.func11, Try.ntmps11
  go_wp2_with (first | (go_at_call 18; (with_reducible refine ka.out.mono ?_); rintro e w' ⟨rfl, hw⟩; subst w') | fail)
  go_ret2
  exact ⟨rfl, rfl⟩
theorem corruptOut_c (i a by_ : Int) (B base : Nat) (v : Value) (L : List (List Int)) (w : World) (h : Wi w B base v L) (hi : i < 0 ∨ (L.length : Int) ≤ i) :
    Calls Try.prog 10 #[.pointer (some ⟨B, 0, none⟩), .int .i64 i, .int .i64 a, .int .u8 by_] w fun e w' => e = .returned (.int .i64 8) ∧ w' = w := by
  have ka := atOut_c i B base v L w h hi
  replace ka := Aside0.mk ka
  go_enter Try.func10, Try.ntmps10
  go_wp2_with (first | (go_at_call 18; (with_reducible refine ka.out.mono ?_); rintro e w' ⟨rfl, hw⟩; subst w') | fail)
  go_ret
  exact ⟨rfl, rfl⟩
set_option maxRecDepth 100000 in
set_option maxHeartbeats 4000000 in
theorem peek_c (i : Nat) (B base : Nat) (v : Value) (L : List (List Int)) (w : World) (h : Wi w B base v L) (hi : i < L.length) (hs : L[i].length ≤ 140737488351232) :
    Calls Try.prog 15 #[.pointer (some ⟨B, 0, none⟩), .int .i64 (i : Int)] w fun e w' => (∃ A' c', e = .returned (.tuple #[.slice A' L[i].length c', .bool true]) ∧ Kd.R kb 5 w' w.heap.size (fun _ => True) (.slice A' L[i].length c') L[i]) ∧ Below w.heap.size w w' := by
  have ka := atIn_c i B base v L w h hi
  obtain ⟨A, c, rfl, hl, hC⟩ := h.slice
  obtain ⟨ad, A1, c1, e1, hx, hx1, hx2⟩ := at_L1 hC (i : Int) (by omega) (by omega)
  rw [Int.toNat_natCast] at hx
  subst e1
  rw [getAt L i hi] at hx hx1 hx2
  generalize L[i] = xs at *
  have q0 := blk_cell' h.box 0
  simp at q0
  have hz : (0 : Int) ≤ (i : Int) := by omega
  have hz2 : (i : Int) < (L.length : Int) := by omega
  replace h := Aside0.mk h
  replace ka := Aside0.mk ka
  replace hx2 : Aside0 (Kd.C kb w A1 xs.length xs) := ⟨hx2⟩
  replace hs := Aside0.mk hs
  clear hC
  have kc := Aside0.mk (clone_c A1 xs.length c1 xs w hx2.out hs.out)
  go_enter Try.func15, Try.ntmps15
  go_wp2_with (first
    | (go_at_call 18; (with_reducible refine ka.out.mono ?_); rintro e w' ⟨rfl, hw⟩; subst w')
    | (go_at_call 17; (with_reducible refine kc.out.mono ?_); rintro e w3 ⟨⟨A', c', rfl, hR⟩, hb⟩; replace hR := Aside0.mk hR; replace hb := Aside0.mk hb)
    | fail)
  go_ret2
  exact ⟨⟨A', c', rfl, hR.out⟩, hb.out⟩
set_option maxRecDepth 100000 in
set_option maxHeartbeats 4000000 in
theorem take_c (i : Nat) (B base : Nat) (v : Value) (L : List (List Int)) (w0 w : World) (h : Wi w B base v L) (HB : Below base w0 w) (hbase : base ≤ w.heap.size) (hi : i < L.length) (hL : L.length ≤ 100000) (hs : L[i].length ≤ 140737488351232) :
    Calls Try.prog 11 #[.pointer (some ⟨B, 0, none⟩), .int .i64 (i : Int)] w fun e w' => (∃ A' c', e = .returned (.tuple #[.slice A' L[i].length c', .int .i64 0]) ∧ L[i].length ≤ c' ∧ Kd.C kb w' A' L[i].length L[i]) ∧ (∃ v', Wi w' B base v' (L.eraseIdx i) ∧ v'.ownBlock = v.ownBlock) ∧ Below base w0 w' ∧ Fr w w' B v ∧ w.heap.size ≤ w'.heap.size := by
  have ka := atIn_c i B base v L w h hi
  obtain ⟨A, c, rfl, hl, hC⟩ := h.slice
  obtain ⟨ad, A1, c1, e1, hx, hx1, hx2⟩ := at_L1 hC (i : Int) (by omega) (by omega)
  rw [Int.toNat_natCast] at hx
  subst e1
  obtain ⟨g, rfl⟩ := R_home h.row
  rw [Addr.add_lit, Nat.zero_add] at hx
  rw [getAt L i hi] at hx hx1 hx2
  generalize L[i] = xs at *
  have q0 := blk_cell' h.box 0
  simp at q0
  have hz : (0 : Int) ≤ (i : Int) := by omega
  have hz2 : (i : Int) < (L.length : Int) := by omega
  have hz3 : wrap64 ((i : Int) + 1) = (i : Int) + 1 := by unfold wrap64; omega
  replace h := Aside0.mk h
  replace ka := Aside0.mk ka
  replace hx2 : Aside0 (Kd.C kb w A1 xs.length xs) := ⟨hx2⟩
  replace hs := Aside0.mk hs
  replace HB := Aside0.mk HB
  clear hC
  have kc := Aside0.mk (clone_c A1 xs.length c1 xs w hx2.out hs.out)
  go_enter Try.func11, Try.ntmps11
  go_wp2_with (first
    | (go_at_call 18; (with_reducible refine ka.out.mono ?_); rintro e w' ⟨rfl, hw⟩; subst w')
    | (go_at_call 17; (with_reducible refine kc.out.mono ?_); rintro e w3 ⟨⟨A', c', rfl, hR⟩, hb⟩; have hx3 := Aside0.mk ((hb.block B (blk_lt' h.out.box)).trans h.out.box); have q3 := blk_cell' hx3.out 0; simp at q3; replace hR := Aside0.mk hR; replace hb := Aside0.mk hb)
    | (go_at_call 19; go_loud (refine (delete_c g L.length c i base (fun _ => True) L w0 w3 hi hL (Kd.R_below h.out.row hb.out) (below_then HB.out hbase hb.out) (Nat.le_trans hbase hb.out.size)).mono ?_); rintro e w4 ⟨rfl, hR4, hB4, hg4⟩; have hne := Aside0.mk h.out.ne; have hx4 := Aside0.mk ((hg4.block B (blk_lt' hx3.out) hne.out).trans hx3.out); have q4 := blk_cell' hx4.out 0; have f4 : w4.frozen? ⟨B, 0, none⟩ = false := (by simp [World.frozen?, hx4.out]); simp at q4; replace hR4 := Aside0.mk hR4; replace hB4 := Aside0.mk hB4; replace hg4 := Aside0.mk hg4)
    | fail)
  go_ret2
  have hs4 : w.heap.size ≤ w4.heap.size := Nat.le_trans hb.out.size hg4.out.size
  have hlb : L.length - 1 = (L.eraseIdx i).length := by rw [List.length_eraseIdx_of_lt hi]
  refine ⟨⟨A', c', rfl, (Kd.R_reads' hR.out).2.1, ?_⟩, ⟨.slice (some ⟨g, 0, none⟩) (L.length - 1) c, Wi.set hx4.out h.out.hb hR4.out, rfl⟩, hB4.out.setCell (p := ⟨B, 0, none⟩) h.out.hb _, fun b hb1 hb2 hb3 => ?_, by simp [World.setCell]; exact hs4⟩
  · have h1 : Kd.R kb 5 w4 w.heap.size (fun _ => True) (.slice A' xs.length c') xs := Kd.R_mono (Kd.R_grown (Kd.R_bound hR.out) hg4.out (fun k hk e => by
      injection e with e
      have := (Kd.R_bound h.out.row).1 g rfl
      omega)) (fun _ _ => trivial)
    have h2 : Kd.R kb 5 (w4.setCell ⟨B, 0, none⟩ (.slice (some ⟨g, 0, none⟩) (L.length - 1) c)) w.heap.size (fun _ => True) (.slice A' xs.length c') xs := Kd.R_mono (Kd.R_far (Kd.R_bound h1) (p := ⟨B, 0, none⟩) (fun k hk e => by
      have h3 := blk_lt' h.out.box
      have h4 := hk.2.1
      have h5 : k = B := e
      omega) _) (fun _ _ => trivial)
    exact (Kd.R_reads' h2).2.2
  · rw [Below.heap_setCell _ _ _ _ hb2, hg4.out.block b (Nat.lt_of_lt_of_le hb1 hb.out.size) hb3]
    exact hb.out.block b hb1
end Go.Proofs.Ytmhncklpejchcaa.Wir
