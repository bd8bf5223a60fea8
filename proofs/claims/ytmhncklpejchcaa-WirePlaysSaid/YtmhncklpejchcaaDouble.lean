/- The contracts of Double, and of Push over one row of bytes and over three. -/
import Derived.Test.YtmhncklpejchcaaFork
namespace Go.Proofs.Ytmhncklpejchcaa.Wir
open Go Go.RowKit Go.Proofs.Ytmhncklpejchcaa.PWirePlays Go.Proofs.YtmhncklpejchcaaW.PrintWords Go.Proofs.YtmhncklpejchcaaW.PrintLast Go.Proofs.YtmhncklpejchcaaW.PrintMore
set_option linter.unusedVariables false
set_option linter.unusedSimpArgs false
/-- a row inside a wire: it stays while the wire is worked on -/
theorem Wi.elem {w : World} {B base : Nat} {v : Value} {L : List (List Int)} (h : Wi w B base v L) (i : Nat) (hi : i < L.length) :
    ∃ g c A1 c1, v = .slice (some ⟨g, 0, none⟩) L.length c ∧ w.cell? ⟨g, i, none⟩ = some (.slice A1 L[i].length c1) ∧ L[i].length ≤ c1 ∧ ∀ W, w.heap.size ≤ W.heap.size → Fr w W B v → Kd.C kb W A1 L[i].length L[i] := by
  obtain ⟨A, c, rfl, hl, hrd⟩ := OwnRow.reads (R_types5 h.row).2
  obtain ⟨ad, cs, e1, hlen, hM, hcell⟩ := hrd.get_ ([] : List Int) (i : Int) (by omega) (by omega)
  subst e1
  obtain ⟨g, rfl⟩ := R_home h.row
  rw [Int.toNat_natCast] at hM hcell
  have hgd : L.getD i [] = L[i] := by rw [List.getD_eq_getElem?_getD, List.getElem?_eq_getElem hi]; rfl
  rw [hgd] at hM
  obtain ⟨vi, rfl, hRi⟩ := hM
  obtain ⟨A1, c1, rfl, hl1, _⟩ := Kd.R_reads hRi
  refine ⟨g, c, A1, c1, rfl, ?_, hl1, fun W hW hF => ?_⟩
  · have h0 := hcell 0 _ rfl
    have hsz : kbs.sz = 1 := rfl
    rw [hsz, Nat.mul_one, Nat.add_zero, Addr.add_lit, Nat.zero_add] at h0
    exact h0
  · have hR2 := Kd.R_step hRi (w1 := W) (fun k hk hlt => hF k hlt (fun e => ?_) hk.2)
    · exact (Kd.R_reads' hR2).2.2
    · subst e
      rcases hk.1.2.2.2 with h1 | ⟨cells, hc⟩
      · exact hk.2 h1.symm
      · rw [h.box] at hc
        injection hc with hc
        injection hc with _ hc
        cases hc
/-- a literal of one row -/
theorem push1_c (B base : Nat) (v : Value) (L : List (List Int)) (A : Option Addr) (n c : Nat) (p : List Int) (w0 w : World) (h : Wi w B base v L) (hL : L.length ≤ 4000) (HB : Below base w0 w) (hbase : base ≤ w.heap.size) (hn : n = p.length) (hc : n ≤ c) (hs : p.length ≤ 140737488351232)
    (hp : ∀ W, w.heap.size ≤ W.heap.size → Below base w0 W → Fr w W B v → Kd.C kb W A n p) :
    Calls Try.prog 9 #[.pointer (some ⟨B, 0, none⟩), .slice (some ⟨w.heap.size, 0, none⟩) 1 1] (w.alloc (.cells #[.slice A n c] 27)) fun e w' => e = .returned (.int .i64 ((min 1 (4000 - L.length) : Nat) : Int)) ∧ ∃ v', Wi w' B base v' (L ++ [p].take (min 1 (4000 - L.length))) ∧ (v'.ownBlock = v.ownBlock ∨ ∃ b, v'.ownBlock = some b ∧ w.heap.size ≤ b) ∧ Below base w0 w' ∧ Fr w w' B v ∧ w.heap.size ≤ w'.heap.size := by
  subst hn
  have hb1 : Below w.heap.size w (w.alloc (.cells #[.slice A p.length c] 27)) := (Below.refl _ _).alloc (Nat.le_refl _) _
  have hsz : (w.alloc (.cells #[.slice A p.length c] 27)).heap.size = w.heap.size + 1 := by simp
  have hfr : ∀ W, Fr (w.alloc (.cells #[.slice A p.length c] 27)) W B v → Fr w W B v := fun W hF b hb1' hb2 hb3 => (hF b (by omega) hb2 hb3).trans (hb1.block b hb1')
  refine (push_c B base v L [p] (some ⟨w.heap.size, 0, none⟩) 1 1 w0 _ (by omega) hL (h.below hb1) (below_then HB hbase hb1) (Nat.le_trans hbase hb1.size) (by omega) (fun W hW hB hF => ?_) (fun x hx => by simp at hx; subst hx; exact hs)).mono ?_
  · refine C_lit (Ls := [p]) ((hF _ (by omega) (fun e => ?_) (fun e => ?_)).trans (heap_alloc_new _ _)) (by simp) (fun j q hq => ?_)
    · have := blk_lt' h.box
      omega
    · have := ((Kd.R_bound h.row).1 _ e.symm).2.2.1
      omega
    · cases j with
      | zero =>
        simp at hq
        subst hq
        exact ⟨A, c, rfl, hc, hp W (by omega) hB (hfr W hF)⟩
      | succ j => simp at hq
  · rintro e w' ⟨he, v', hW', ho, hB', hF', hs'⟩
    refine ⟨he, v', hW', ?_, hB', hfr _ hF', by omega⟩
    rcases ho with ho | ⟨b, h1, h2⟩
    · exact .inl ho
    · exact .inr ⟨b, h1, by omega⟩
/-- a literal of three rows that are one -/
theorem push3_c (B base : Nat) (v : Value) (L : List (List Int)) (A : Option Addr) (n c : Nat) (p : List Int) (w0 w : World) (h : Wi w B base v L) (hL : L.length ≤ 4000) (HB : Below base w0 w) (hbase : base ≤ w.heap.size) (hn : n = p.length) (hc : n ≤ c) (hs : p.length ≤ 140737488351232)
    (hp : ∀ W, w.heap.size ≤ W.heap.size → Below base w0 W → Fr w W B v → Kd.C kb W A n p) :
    Calls Try.prog 9 #[.pointer (some ⟨B, 0, none⟩), .slice (some ⟨w.heap.size, 0, none⟩) 3 3] (w.alloc (.cells #[.slice A n c, .slice A n c, .slice A n c] 27)) fun e w' => e = .returned (.int .i64 ((min 3 (4000 - L.length) : Nat) : Int)) ∧ ∃ v', Wi w' B base v' (L ++ [p, p, p].take (min 3 (4000 - L.length))) ∧ (v'.ownBlock = v.ownBlock ∨ ∃ b, v'.ownBlock = some b ∧ w.heap.size ≤ b) ∧ Below base w0 w' ∧ Fr w w' B v ∧ w.heap.size ≤ w'.heap.size := by
  subst hn
  have hb1 : Below w.heap.size w (w.alloc (.cells #[.slice A p.length c, .slice A p.length c, .slice A p.length c] 27)) := (Below.refl _ _).alloc (Nat.le_refl _) _
  have hsz : (w.alloc (.cells #[.slice A p.length c, .slice A p.length c, .slice A p.length c] 27)).heap.size = w.heap.size + 1 := by simp
  have hfr : ∀ W, Fr (w.alloc (.cells #[.slice A p.length c, .slice A p.length c, .slice A p.length c] 27)) W B v → Fr w W B v := fun W hF b hb1' hb2 hb3 => (hF b (by omega) hb2 hb3).trans (hb1.block b hb1')
  refine (push_c B base v L [p, p, p] (some ⟨w.heap.size, 0, none⟩) 3 3 w0 _ (by omega) hL (h.below hb1) (below_then HB hbase hb1) (Nat.le_trans hbase hb1.size) (by omega) (fun W hW hB hF => ?_) (fun x hx => by simp at hx; subst hx; exact hs)).mono ?_
  · refine C_lit (Ls := [p, p, p]) ((hF _ (by omega) (fun e => ?_) (fun e => ?_)).trans (heap_alloc_new _ _)) (by simp) (fun j q hq => ?_)
    · have := blk_lt' h.box
      omega
    · have := ((Kd.R_bound h.row).1 _ e.symm).2.2.1
      omega
    · match j, hq with
      | 0, hq =>
        simp at hq
        subst hq
        exact ⟨A, c, rfl, hc, hp W (by omega) hB (hfr W hF)⟩
      | 1, hq =>
        simp at hq
        subst hq
        exact ⟨A, c, rfl, hc, hp W (by omega) hB (hfr W hF)⟩
      | 2, hq =>
        simp at hq
        subst hq
        exact ⟨A, c, rfl, hc, hp W (by omega) hB (hfr W hF)⟩
      | j + 3, hq => simp at hq
  · rintro e w' ⟨he, v', hW', ho, hB', hF', hs'⟩
    refine ⟨he, v', hW', ?_, hB', hfr _ hF', by omega⟩
    rcases ho with ho | ⟨b, h1, h2⟩
    · exact .inl ho
    · exact .inr ⟨b, h1, by omega⟩
theorem doubleOut_c (i : Int) (B base : Nat) (v : Value) (L : List (List Int)) (w : World) (h : Wi w B base v L) (hi : i < 0 ∨ (L.length : Int) ≤ i) :
    Calls Try.prog 16 #[.pointer (some ⟨B, 0, none⟩), .int .i64 i] w fun e w' => e = .returned (.int .i64 8) ∧ w' = w := by
  have ka := atOut_c i B base v L w h hi
  replace ka := Aside0.mk ka
  go_enter Try.func16, Try.ntmps16
  go_wp2_with (first | (go_at_call 18; (with_reducible refine ka.out.mono ?_); rintro e w' ⟨rfl, hw⟩; subst w') | fail)
  go_ret
  exact ⟨rfl, rfl⟩
/-- Double: q = 1 where there is room, else 0 -/
theorem double_c (i : Nat) (B base : Nat) (v : Value) (L : List (List Int)) (w0 w : World) (h : Wi w B base v L) (HB : Below base w0 w) (hbase : base ≤ w.heap.size) (hi : i < L.length) (hL : L.length ≤ 4000) (hs : L[i].length ≤ 140737488351232) :
    Calls Try.prog 16 #[.pointer (some ⟨B, 0, none⟩), .int .i64 (i : Int)] w fun e w' => e = .returned (.int .i64 (if L.length = 4000 then 7 else 0)) ∧ ∃ v', Wi w' B base v' (if L.length = 4000 then L else L ++ [L[i]]) ∧ (v'.ownBlock = v.ownBlock ∨ ∃ b, v'.ownBlock = some b ∧ w.heap.size ≤ b) ∧ Below base w0 w' ∧ Fr w w' B v ∧ w.heap.size ≤ w'.heap.size := by
  have ka := atIn_c i B base v L w h hi
  obtain ⟨g, c, A1, c1, rfl, hx, hx1, hC⟩ := h.elem i hi
  have q0 := blk_cell' h.box 0
  simp at q0
  have hz : (0 : Int) ≤ (i : Int) := by omega
  have hz2 : (i : Int) < (L.length : Int) := by omega
  have kp := push1_c B base (.slice (some ⟨g, 0, none⟩) L.length c) L A1 L[i].length c1 L[i] w0 w h hL HB hbase rfl hx1 hs (fun W hW _ hF => hC W hW hF)
  replace h := Aside0.mk h
  replace ka := Aside0.mk ka
  replace HB := Aside0.mk HB
  generalize L[i] = xs at *
  clear hC
  by_cases hf : L.length = 4000
  · rw [if_pos hf, if_pos hf]
    have e0 : min 1 (4000 - L.length) = 0 := by omega
    rw [e0, List.take_zero, List.append_nil] at kp
    simp only [show ((0 : Nat) : Int) = 0 from rfl] at kp
    replace kp := Aside0.mk kp
    replace hf := Aside0.mk hf
    clear e0
    go_enter Try.func16, Try.ntmps16
    go_wp2_with (first
      | (go_at_call 18; (with_reducible refine ka.out.mono ?_); rintro e w' ⟨rfl, hw⟩; subst w')
      | (go_at_call 9; (with_reducible refine kp.out.mono ?_); rintro e w3 ⟨rfl, v3, hW3, hv3, hB3, hF3, hs3⟩; replace hW3 := Aside0.mk hW3; replace hv3 := Aside0.mk hv3; replace hB3 := Aside0.mk hB3; replace hF3 := Aside0.mk hF3; replace hs3 := Aside0.mk hs3)
      | fail)
    go_ret
    exact ⟨rfl, v3, hW3.out, hv3.out, hB3.out, hF3.out, hs3.out⟩
  · rw [if_neg hf, if_neg hf]
    have e0 : min 1 (4000 - L.length) = 1 := by omega
    rw [e0, List.take_of_length_le (by simp)] at kp
    simp only [show ((1 : Nat) : Int) = 1 from rfl] at kp
    replace kp := Aside0.mk kp
    replace hf := Aside0.mk hf
    clear e0
    go_enter Try.func16, Try.ntmps16
    go_wp2_with (first
      | (go_at_call 18; (with_reducible refine ka.out.mono ?_); rintro e w' ⟨rfl, hw⟩; subst w')
      | (go_at_call 9; (with_reducible refine kp.out.mono ?_); rintro e w3 ⟨rfl, v3, hW3, hv3, hB3, hF3, hs3⟩; replace hW3 := Aside0.mk hW3; replace hv3 := Aside0.mk hv3; replace hB3 := Aside0.mk hB3; replace hF3 := Aside0.mk hF3; replace hs3 := Aside0.mk hs3)
      | fail)
    go_ret
    exact ⟨rfl, v3, hW3.out, hv3.out, hB3.out, hF3.out, hs3.out⟩
end Go.Proofs.Ytmhncklpejchcaa.Wir
