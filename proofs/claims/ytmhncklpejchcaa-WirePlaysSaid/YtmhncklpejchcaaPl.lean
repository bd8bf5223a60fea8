/- The wire beside the list of rows that the law keeps: neither is touched by what is done with the other. -/
import Derived.Test.YtmhncklpejchcaaOps
namespace Go.Proofs.Ytmhncklpejchcaa.Wir
open Go Go.RowKit Go.Proofs.Ytmhncklpejchcaa.PWirePlays Go.Proofs.YtmhncklpejchcaaW.PrintWords Go.Proofs.YtmhncklpejchcaaW.PrintLast Go.Proofs.YtmhncklpejchcaaW.PrintMore
set_option linter.unusedVariables false
structure Pl (base : Nat) (w : World) (B : Nat) (v lv : Value) (L Ll : List (List Int)) : Prop where
  wi : Wi w B base v L
  row : Kd.R kbs 27 w base (fun _ => True) lv Ll
  apart : ∀ k, lv.ownBlock = some k → some k ≠ v.ownBlock
theorem reads_take {α : Type} {R : α → List Value → Prop} {sz : Nat} {w : World} {A : Option Addr} {n m : Nat} {xs : List α} (h : ReadsRow R sz w A n xs) (hm : m ≤ n) : ReadsRow R sz w A m (xs.take m) := by
  have hl : xs.length = n := h.1
  refine ⟨by rw [List.length_take]; omega, Nat.le_trans hm h.2.1, fun hp => ?_⟩
  obtain ⟨ad, e, hc⟩ := h.2.2 (by omega)
  refine ⟨ad, e, fun j p hj => hc j p ?_⟩
  rw [List.getElem?_take] at hj
  split at hj
  · exact hj
  · cases hj
theorem reads_drop {α : Type} {R : α → List Value → Prop} {w : World} {g n m c : Nat} {xs : List α} (h : ReadsRow R 1 w (some ⟨g, 0, none⟩) n xs) (hm : m ≤ n) (hc : n ≤ c) : ReadsRow R 1 w (if c = m then some ⟨g, 0, none⟩ else some ⟨g, m, none⟩) (n - m) (xs.drop m) := by
  have hl : xs.length = n := h.1
  refine ⟨by rw [List.length_drop]; omega, by have := h.2.1; omega, fun hp => ?_⟩
  obtain ⟨ad, e, hcell⟩ := h.2.2 (by omega)
  injection e with e
  subst e
  rw [if_neg (by omega)]
  refine ⟨⟨g, m, none⟩, rfl, fun j p hj => ?_⟩
  rw [List.getElem?_drop] at hj
  obtain ⟨cs, h1, h2, h3⟩ := hcell (m + j) p hj
  refine ⟨cs, h1, h2, fun i u hu => ?_⟩
  have h4 := h3 i u hu
  rw [Addr.add_lit] at h4 ⊢
  rw [show m + (j * 1 + i) = 0 + ((m + j) * 1 + i) by omega]
  exact h4
section
variable {w w' : World} {B B' base : Nat} {v v' lv lv' : Value} {L L' Ll Ll' : List (List Int)}
theorem R_typed27 (h : Kd.R kbs 27 w base (fun _ => True) lv L) : ∀ k, lv.ownBlock = some k → ∃ cells, w.heap[k]? = some (.cells cells 27 (0, 0)) := fun k hk => by
  obtain ⟨_, inner, ho, _⟩ := h
  exact own_typed ho k hk
/-- a row stays while the wire is worked on -/
theorem row_keep (hr : Kd.R kbs 27 w base (fun _ => True) lv Ll) (h : Wi w B base v L) (hF : Fr w w' B v) (hap : ∀ k, lv.ownBlock = some k → some k ≠ v.ownBlock) : Kd.R kbs 27 w' base (fun _ => True) lv Ll := by
  have h27 := R_typed27 h.row
  refine Kd.R_mono (Kd.R_step (R_types5 hr) (fun k hk hlt => hF k hlt (fun e => ?_) (fun e => ?_))) (fun _ _ => trivial)
  · rcases hk.2.2.2 with h1 | ⟨cells, hc⟩
    · obtain ⟨cells, hc⟩ := R_typed27 hr k h1
      rw [e, h.box] at hc
      injection hc with hc
      injection hc with _ hc
      cases hc
    · rw [e, h.box] at hc
      injection hc with hc
      injection hc with _ hc
      cases hc
  · rcases hk.2.2.2 with h1 | ⟨cells, hc⟩
    · exact hap k h1 e
    · obtain ⟨cells', hc'⟩ := h27 k e.symm
      rw [hc] at hc'
      injection hc' with hc'
      injection hc' with _ hc'
      cases hc'
/-- the wire stays while a row is worked on -/
theorem wi_keep (h : Wi w B base v L) (hr : Kd.R kbs 27 w base (fun _ => True) lv Ll) (hg : w.grownBy w' lv.ownBlock) (hap : ∀ k, lv.ownBlock = some k → some k ≠ v.ownBlock) : Wi w' B base v L := by
  have h27 := R_typed27 hr
  refine ⟨(hg.block B (blk_lt' h.box) (fun e => ?_)).trans h.box, Kd.R_mono (Kd.R_step (R_types5 h.row) (fun k hk hlt => hg.block k hlt (fun e => ?_))) (fun _ _ => trivial), h.hb⟩
  · obtain ⟨cells, hc⟩ := h27 B e.symm
    rw [h.box] at hc
    injection hc with hc
    injection hc with _ hc
    cases hc
  · rcases hk.2.2.2 with h1 | ⟨cells, hc⟩
    · exact hap k e.symm h1.symm
    · obtain ⟨cells', hc'⟩ := h27 k e.symm
      rw [hc] at hc'
      injection hc' with hc'
      injection hc' with _ hc'
      cases hc'
theorem Pl.below (h : Pl base w B v lv L Ll) (hb : Below w.heap.size w w') : Pl base w' B v lv L Ll := ⟨h.wi.below hb, Kd.R_below h.row hb, h.apart⟩
theorem Pl.wire (h : Pl base w B v lv L Ll) (h' : Wi w' B base v' L') (hF : Fr w w' B v) (ho : v'.ownBlock = v.ownBlock ∨ ∃ b, v'.ownBlock = some b ∧ w.heap.size ≤ b) : Pl base w' B v' lv L' Ll := by
  refine ⟨h', row_keep h.row h.wi hF h.apart, fun k hk e => ?_⟩
  rcases ho with h1 | ⟨b, h1, h2⟩
  · exact h.apart k hk (e.trans h1)
  · have h3 := e.trans h1
    injection h3 with h3
    have h4 := (Kd.R_bound h.row).1 k hk
    omega
theorem Pl.list (h : Pl base w B v lv L Ll) (hr : Kd.R kbs 27 w' base (fun _ => True) lv' Ll') (hg : w.grownBy w' lv.ownBlock) (ho : lv'.ownBlock = lv.ownBlock ∨ ∃ b, lv'.ownBlock = some b ∧ w.heap.size ≤ b) : Pl base w' B v lv' L Ll' := by
  refine ⟨wi_keep h.wi h.row hg h.apart, hr, fun k hk e => ?_⟩
  rcases ho with h1 | ⟨b, h1, h2⟩
  · exact h.apart k (h1.symm.trans hk) e
  · have h3 := hk.symm.trans h1
    injection h3 with h3
    have h4 := (Kd.R_bound h.wi.row).1 k e.symm
    omega
/-- the list made anew: the wire stays -/
theorem Pl.anew (h : Pl base w B v lv L Ll) (hb : Below w.heap.size w w') (hr : Kd.R kbs 27 w' base (fun _ => True) lv' Ll') (ho : ∀ k, lv'.ownBlock = some k → w.heap.size ≤ k) : Pl base w' B v lv' L Ll' := by
  refine ⟨h.wi.below hb, hr, fun k hk e => ?_⟩
  have h3 := ho k hk
  have h4 := (Kd.R_bound h.wi.row).1 k e.symm
  omega
/-- a fork: then the elder wire is worked on -/
theorem Pl.fork {w1 w2 : World} (h : Pl base w B v lv L Ll) (hf : Wi w1 B' base v' L) (hb : Below w.heap.size w w1) (hB : w.heap.size ≤ B') (hv : ∀ k, v'.ownBlock = some k → w.heap.size ≤ k) (hF : Fr w1 w2 B v) : Pl base w2 B' v' lv L Ll := by
  have h1 := h.below hb
  have hlt := blk_lt' h.wi.box
  refine ⟨hf.keep h1.wi hF (by omega) (fun k hk e => ?_), row_keep h1.row h1.wi hF h1.apart, fun k hk e => ?_⟩
  · have h3 := hv k hk
    have h4 := (Kd.R_bound h.wi.row).1 k e.symm
    omega
  · have h3 := hv k e.symm
    have h4 := (Kd.R_bound h.row).1 k hk
    omega
/-- what was made a moment ago stays while the wire is worked on -/
theorem Pl.made {o : Obj} (h : Pl base w B v lv L Ll) (hF : Fr (w.alloc o) w' B v) : w'.heap[w.heap.size]? = some o := by
  have hlt := blk_lt' h.wi.box
  refine (hF _ (by simp) (by omega) (fun e => ?_)).trans (heap_alloc_new _ _)
  have h4 := (Kd.R_bound h.wi.row).1 _ e.symm
  omega
/-- a row inside the list -/
theorem row_elem (hr : Kd.R kbs 27 w base (fun _ => True) lv Ll) (i : Nat) (hi : i < Ll.length) :
    ∃ g c A1 c1, lv = .slice (some ⟨g, 0, none⟩) Ll.length c ∧ Ll.length ≤ c ∧ w.cell? ⟨g, i, none⟩ = some (.slice A1 Ll[i].length c1) ∧ Ll[i].length ≤ c1 ∧ Kd.C kb w A1 Ll[i].length Ll[i] := by
  obtain ⟨A, c, e, hl, hC⟩ := Kd.R_reads hr
  subst e
  obtain ⟨ad, A1, c1, e1, hx, hx1, hx2⟩ := at_L1 hC (i : Int) (by omega) (by omega)
  subst e1
  obtain ⟨g, rfl⟩ := R_home hr
  rw [Int.toNat_natCast, Addr.add_lit, Nat.zero_add] at hx
  rw [getAt Ll i hi] at hx hx1 hx2
  exact ⟨g, c, A1, c1, rfl, hl, hx, hx1, hx2⟩
/-- a row inside the list, with what it may be made of -/
theorem row_elemR (hr : Kd.R kbs 27 w base (fun _ => True) lv Ll) (i : Nat) (hi : i < Ll.length) :
    ∃ g c A1 c1, lv = .slice (some ⟨g, 0, none⟩) Ll.length c ∧ Ll.length ≤ c ∧ w.cell? ⟨g, i, none⟩ = some (.slice A1 Ll[i].length c1) ∧ Ll[i].length ≤ c1 ∧ Kd.R kb 5 w base (fun k => k < w.heap.size ∧ some k ≠ lv.ownBlock) (.slice A1 Ll[i].length c1) Ll[i] := by
  have hr2 : Kd.R kbs 27 w base (fun k => k < w.heap.size) lv Ll := Kd.R_mono (Kd.R_bound hr) (fun k hk => hk.2.2.1)
  obtain ⟨A, c, rfl, hl, hrd⟩ := OwnRow.reads hr2.2
  obtain ⟨ad, cs, e1, hlen, hM, hcell⟩ := hrd.get_ ([] : List Int) (i : Int) (by omega) (by omega)
  subst e1
  obtain ⟨g, rfl⟩ := R_home hr
  rw [Int.toNat_natCast] at hM hcell
  have hgd : Ll.getD i [] = Ll[i] := by rw [List.getD_eq_getElem?_getD, List.getElem?_eq_getElem hi]; rfl
  rw [hgd] at hM
  obtain ⟨vi, rfl, hRi⟩ := hM
  obtain ⟨A1, c1, rfl, hl1, _⟩ := Kd.R_reads hRi
  refine ⟨g, c, A1, c1, rfl, hl, ?_, hl1, hRi⟩
  have h0 := hcell 0 _ rfl
  have hsz : kbs.sz = 1 := rfl
  rw [hsz, Nat.mul_one, Nat.add_zero, Addr.add_lit, Nat.zero_add] at h0
  exact h0
end
end Go.Proofs.Ytmhncklpejchcaa.Wir
