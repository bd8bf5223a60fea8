/- The contracts of Fork, and of the nil wire; a wire that is not touched stays. -/
import Derived.Test.YtmhncklpejchcaaOrder
import Derived.Lib.Bytes
namespace Go.Proofs.Ytmhncklpejchcaa.Wir
open Go Go.RowKit Go.Proofs.Ytmhncklpejchcaa.PWirePlays Go.Proofs.YtmhncklpejchcaaW.PrintWords Go.Proofs.YtmhncklpejchcaaW.PrintLast Go.Proofs.YtmhncklpejchcaaW.PrintMore
set_option linter.unusedVariables false
set_option linter.unusedSimpArgs false
theorem R_types5 {w : World} {base : Nat} {ok : Nat → Prop} {v : Value} {L : List (List Int)} (h : Kd.R kbs 27 w base ok v L) : Kd.R kbs 27 w base (fun k => ok k ∧ base ≤ k ∧ k < w.heap.size ∧ (v.ownBlock = some k ∨ ∃ cells, w.heap[k]? = some (.cells cells 5 (0, 0)))) v L := by
  have hb := (Kd.R_bound h).1
  obtain ⟨h0, inner, ho, hr⟩ := h
  refine ⟨fun k hk => ⟨h0 k hk, (hb k hk).2.1, (hb k hk).2.2.1, .inl hk⟩, inner, ho, hr.imp_ (fun p c hp => kbs.M_mono (fun k hk => ?_) (kbs.M_bound hp))⟩
  obtain ⟨⟨h1, h2⟩, h3, h4, q, hq, cells, hc⟩ := hk
  have hq5 : q = 5 := by
    simp [kbs, kb, Kd.slice, Kd.int, Kd.scalar] at hq
    exact hq
  subst hq5
  exact ⟨⟨h1, h3, h4, .inr ⟨cells, hc⟩⟩, h2⟩
/-- a wire stays while another one is worked on -/
theorem Wi.keep {w w' : World} {B B' base : Nat} {v v' : Value} {L L' : List (List Int)} (h' : Wi w B' base v' L') (h : Wi w B base v L) (hF : Fr w w' B v) (hB : B' ≠ B) (hv : ∀ k, v'.ownBlock = some k → some k ≠ v.ownBlock) : Wi w' B' base v' L' := by
  have h27 : ∀ k, v.ownBlock = some k → ∃ cells, w.heap[k]? = some (.cells cells 27 (0, 0)) := fun k hk => by
    obtain ⟨_, inner, ho, _⟩ := h.row
    exact own_typed ho k hk
  refine ⟨(hF B' (blk_lt' h'.box) hB (fun e => ?_)).trans h'.box, Kd.R_mono (Kd.R_step (R_types5 h'.row) (fun k hk hlt => hF k hlt (fun e => ?_) (fun e => ?_))) (fun _ _ => trivial), h'.hb⟩
  · obtain ⟨cells, hc⟩ := h27 B' e.symm
    rw [h'.box] at hc
    injection hc with hc
    injection hc with _ hc
    cases hc
  · rcases hk.2.2.2 with h1 | ⟨cells, hc⟩
    · obtain ⟨_, inner, ho, _⟩ := h'.row
      obtain ⟨cells, hc⟩ := own_typed ho k h1
      rw [e, h.box] at hc
      injection hc with hc
      injection hc with _ hc
      cases hc
    · rw [e, h.box] at hc
      injection hc with hc
      injection hc with _ hc
      cases hc
  · rcases hk.2.2.2 with h1 | ⟨cells, hc⟩
    · exact hv k h1 e
    · obtain ⟨cells', hc'⟩ := h27 k e.symm
      rw [hc] at hc'
      injection hc' with hc'
      injection hc' with _ hc'
      cases hc'
theorem cloneRowsNil_c (c : Nat) (w : World) : Calls Try.prog 20 #[.slice none 0 c] w fun e w' => e = .returned (.slice none 0 0) ∧ w' = w := by
  have heq := fun W => Lib.run_eql_slice_nil (P := Try.prog) W 22 27 none 0 c 0 0 Try.underlying22
  go_enter Try.func20, Try.ntmps20
  go_wp2_with fail
  go_ret
  exact ⟨rfl, rfl⟩
theorem R_empty27 (w : World) (base : Nat) (hb : base ≤ w.heap.size) : Kd.R kbs 27 (w.alloc (.cells #[] 27)) base (fun _ => True) (.slice (some ⟨w.heap.size, 0, none⟩) 0 0) [] :=
  ⟨fun _ _ => trivial, [], World.ownsRow_lit w #[] 0 hb (by decide) rfl, Reps.none _ _⟩
set_option maxHeartbeats 800000 in
/-- slices.Clone of the outer row: the rows inside are shared -/
theorem cloneRows_c (A : Option Addr) (n c base : Nat) (L : List (List Int)) (w : World) (hR : Kd.R kbs 27 w base (fun _ => True) (.slice A n c) L) (hbase : base ≤ w.heap.size) (hn : n ≤ 100000) :
    Calls Try.prog 20 #[.slice A n c] w fun e w' => (∃ A' c', e = .returned (.slice A' L.length c') ∧ Kd.R kbs 27 w' base (fun _ => True) (.slice A' L.length c') L ∧ ∀ k, (Value.slice A' L.length c').ownBlock = some k → w.heap.size ≤ k) ∧ Below w.heap.size w w' := by
  obtain ⟨hl, hnc, hC⟩ := Kd.R_reads' hR
  rcases A with _ | ad
  · have h0 : n = 0 := by
      rcases Nat.eq_zero_or_pos n with h | h
      · exact h
      · obtain ⟨_, h, _⟩ := hC.2.2 (by omega); cases h
    subst h0
    have hx : L = [] := List.eq_nil_of_length_eq_zero hl.symm
    subst hx
    exact (cloneRowsNil_c c w).mono fun e w' h => ⟨⟨none, 0, h.1, Kd.R_nil _ _ _ _ _, fun k hk => by simp [Value.ownBlock] at hk⟩, by rw [h.2]; exact Below.refl _ _⟩
  · have heq := fun W => Lib.run_eql_slice_nil (P := Try.prog) W 22 27 (some ad) n c 0 0 Try.underlying22
    have HE := Aside0.mk (R_empty27 w base hbase)
    have hB := Aside0.mk ((Below.refl w.heap.size w).alloc (Nat.le_refl _) (.cells #[] 27))
    have hR2 : Kd.R kbs 27 (w.alloc (.cells #[] 27)) base (fun k => k < w.heap.size) (.slice (some ad) n c) L := Kd.R_below (Kd.R_mono (Kd.R_bound hR) (fun k hk => hk.2.2.1)) hB.out
    obtain ⟨A2, c2, e2, hl2, hrd⟩ := OwnRow.reads hR2.2
    injection e2 with ea en ec
    subst ea
    rw [← hl] at hrd
    clear en ec hl2
    replace hrd := Aside0.mk hrd
    replace hl := Aside0.mk hl
    clear hC hR2
    go_enter Try.func20, Try.ntmps20
    go_wp2_with (first
      | ((with_reducible refine gate_dst (N := 7) rfl ?_); go_loud (refine Kd.R_append_rows kbs (w0 := w) base rfl (.tmp 5) (.tmp 6) 22 27 _ 24 rfl Try.underlying22 info27 rfl (by decide) (by omega) (.slice (some ⟨w.heap.size, 0, none⟩) 0 0) [] L (some ad) n c (fun _ => True) (fun k => k < w.heap.size) rfl rfl HE.out hrd.out (fun _ _ h => kbs.M_mono (fun k hk => hk.1) h) (fun k hk => ⟨trivial, fun e => by have e2 : k = w.heap.size := by { injection e }; omega⟩) (fun _ _ => trivial) ((Below.refl base w).alloc hbase _) (Nat.le_trans hbase hB.out.size) (by simp; omega) ?_); intro v1 w1 ho1 hb1 hg1 hat1; rw [List.nil_append] at ho1; obtain ⟨A1, c1, e1⟩ := Kd.R_slice ho1; subst e1; replace ho1 := Aside0.mk ho1; replace hb1 := Aside0.mk hb1; replace hg1 := Aside0.mk hg1; replace hat1 := Aside0.mk hat1)
      | fail)
    go_ret
    refine ⟨⟨A1, c1, rfl, ho1.out, fun k hk => ?_⟩, hB.out.grown hg1.out hB.out.size (fun k hk => by have e2 : w.heap.size = k := (by simpa [Value.ownBlock] using hk); omega)⟩
    rcases hat1.out with h | ⟨b, h1, h2⟩
    · rw [hk] at h
      have e2 : k = w.heap.size := by simpa [Value.ownBlock] using h
      omega
    · rw [hk] at h1
      injection h1 with h1
      have h3 : w.heap.size ≤ (w.alloc (.cells #[] 27)).heap.size := hB.out.size
      omega
/-- Fork -/
theorem fork_c (B base : Nat) (v : Value) (L : List (List Int)) (w : World) (h : Wi w B base v L) (hbase : base ≤ w.heap.size) (hn : L.length ≤ 100000) :
    Calls Try.prog 14 #[.pointer (some ⟨B, 0, none⟩)] w fun e w' => (∃ B' v', e = .returned (.pointer (some ⟨B', 0, none⟩)) ∧ Wi w' B' base v' L ∧ w.heap.size ≤ B' ∧ ∀ k, v'.ownBlock = some k → w.heap.size ≤ k) ∧ Below w.heap.size w w' := by
  obtain ⟨A, c, rfl, hl, hC⟩ := h.slice
  have q0 := blk_cell' h.box 0
  simp at q0
  have kc := Aside0.mk (cloneRows_c A L.length c base L w h.row hbase hn)
  replace h := Aside0.mk h
  clear hC
  go_enter Try.func14, Try.ntmps14
  go_wp2_with (first
    | (go_at_call 20; (with_reducible refine kc.out.mono ?_); rintro e w1 ⟨⟨A', c', rfl, hR, hk⟩, hb⟩; replace hR := Aside0.mk hR; replace hb := Aside0.mk hb; replace hk := Aside0.mk hk)
    | fail)
  go_ret
  refine ⟨⟨w1.heap.size, .slice A' L.length c', rfl, ⟨heap_alloc_new _ _, Kd.R_below hR.out ((Below.refl _ _).alloc (Nat.le_refl _) _), Nat.le_trans hbase hb.out.size⟩, hb.out.size, hk.out⟩, hb.out.alloc hb.out.size _⟩
/-! the nil wire -/
theorem nilPush_c (A : Option Addr) (n c : Nat) (w : World) : Calls Try.prog 9 #[.pointer none, .slice A n c] w fun e w' => e = .returned (.int .i64 0) ∧ w' = w := by
  go_enter Try.func9, Try.ntmps9
  go_wp2_with fail
  go_ret
  exact ⟨rfl, rfl⟩
theorem nilAt_c (i : Int) (w : World) : Calls Try.prog 18 #[.pointer none, .int .i64 i] w fun e w' => e = .returned (.int .i64 2) ∧ w' = w := by
  go_enter Try.func18, Try.ntmps18
  go_wp2_with fail
  go_ret
  exact ⟨rfl, rfl⟩
theorem nilTake_c (i : Int) (w : World) : Calls Try.prog 11 #[.pointer none, .int .i64 i] w fun e w' => e = .returned (.tuple #[.slice none 0 0, .int .i64 2]) ∧ w' = w := by
  go_enter Try.func11, Try.ntmps11
  go_wp2_with (first | (go_at_call 18; (with_reducible refine (nilAt_c _ _).mono ?_); rintro e w' ⟨rfl, hw⟩; subst w') | fail)
  go_ret2
  exact ⟨rfl, rfl⟩
theorem nilPeek_c (i : Int) (w : World) : Calls Try.prog 15 #[.pointer none, .int .i64 i] w fun e w' => e = .returned (.tuple #[.slice none 0 0, .bool false]) ∧ w' = w := by
  go_enter Try.func15, Try.ntmps15
  go_wp2_with (first | (go_at_call 18; (with_reducible refine (nilAt_c _ _).mono ?_); rintro e w' ⟨rfl, hw⟩; subst w') | fail)
  go_ret2
  exact ⟨rfl, rfl⟩
theorem nilDouble_c (i : Int) (w : World) : Calls Try.prog 16 #[.pointer none, .int .i64 i] w fun e w' => e = .returned (.int .i64 2) ∧ w' = w := by
  go_enter Try.func16, Try.ntmps16
  go_wp2_with (first | (go_at_call 18; (with_reducible refine (nilAt_c _ _).mono ?_); rintro e w' ⟨rfl, hw⟩; subst w') | fail)
  go_ret
  exact ⟨rfl, rfl⟩
theorem nilCorrupt_c (i a b : Int) (w : World) : Calls Try.prog 10 #[.pointer none, .int .i64 i, .int .i64 a, .int .u8 b] w fun e w' => e = .returned (.int .i64 2) ∧ w' = w := by
  go_enter Try.func10, Try.ntmps10
  go_wp2_with (first | (go_at_call 18; (with_reducible refine (nilAt_c _ _).mono ?_); rintro e w' ⟨rfl, hw⟩; subst w') | fail)
  go_ret
  exact ⟨rfl, rfl⟩
theorem nilLen_c (w : World) : Calls Try.prog 13 #[.pointer none] w fun e w' => e = .returned (.int .i64 0) ∧ w' = w := by
  go_enter Try.func13, Try.ntmps13
  go_wp2_with fail
  go_ret
  exact ⟨rfl, rfl⟩
theorem nilFork_c (w : World) : Calls Try.prog 14 #[.pointer none] w fun e w' => e = .returned (.pointer none) ∧ w' = w := by
  go_enter Try.func14, Try.ntmps14
  go_wp2_with fail
  go_ret
  exact ⟨rfl, rfl⟩
/-! rows that are not alike -/
theorem or_odd (b : Int) : BitVec.ofInt 8 (bits .or .u8 b 1) ≠ 0#8 := by
  have e : bits .or .u8 b 1 = ((BitVec.ofInt 8 b ||| BitVec.ofInt 8 1).toNat : Int) := by
    show IntKind.u8.wrap ((BitVec.ofInt 8 b ||| BitVec.ofInt 8 1).toNat : Int) = _
    have h := (BitVec.ofInt 8 b ||| BitVec.ofInt 8 1).isLt
    rw [IntKind.wrap_u8]
    omega
  rw [e, BitVec.ofInt_natCast, BitVec.ofNat_toNat, BitVec.setWidth_eq]
  intro h
  have h2 := congrArg (fun v => v.getLsbD 0) h
  simp at h2
theorem xor_ne (x b : Int) (h0 : 0 ≤ x) (h1 : x < 256) : bits .xor .u8 x (bits .or .u8 b 1) ≠ x := by
  intro h
  have h2 := xor_bv x (bits .or .u8 b 1)
  rw [h] at h2
  have h3 := congrArg (fun v => BitVec.ofInt 8 x ^^^ v) h2
  simp only [BitVec.xor_self, ← BitVec.xor_assoc, BitVec.zero_xor] at h3
  exact or_odd b h3.symm
theorem bytes_ne (l : List Int) (r : Nat) (z : Int) (hr : r < l.length) (h0 : 0 ≤ l.getD r 0) (h1 : l.getD r 0 < 256) (z0 : 0 ≤ z) (z1 : z < 256) (hne : z ≠ l.getD r 0) : ((strOfNums (l.set r z)).toList == (strOfNums l).toList) = false := by
  rw [beq_eq_false_iff_ne]
  intro h
  rw [Lib.strOfNums_toList, Lib.strOfNums_toList] at h
  have h2 := congrArg (fun q => q[r]?) h
  simp only [Lib.bytesOf, List.getElem?_map, List.getElem?_set_self hr] at h2
  rw [List.getElem?_eq_getElem hr] at h2
  simp only [Option.map_some, Option.some.injEq] at h2
  have h3 := congrArg UInt8.toNat h2
  rw [List.getD_eq_getElem?_getD, List.getElem?_eq_getElem hr] at h0 h1 hne
  simp only [Option.getD_some] at h0 h1 hne
  simp only [UInt8.toNat_ofNat'] at h3
  omega
end Go.Proofs.Ytmhncklpejchcaa.Wir
