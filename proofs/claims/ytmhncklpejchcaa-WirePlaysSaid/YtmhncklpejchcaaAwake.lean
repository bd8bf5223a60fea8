/- The contract of awake; the bytes' xor. -/
import Derived.Test.YtmhncklpejchcaaCorrupt
namespace Go.Proofs.Ytmhncklpejchcaa.Wir
open Go Go.RowKit Go.Proofs.Ytmhncklpejchcaa.PWirePlays Go.Proofs.YtmhncklpejchcaaW.PrintWords Go.Proofs.YtmhncklpejchcaaW.PrintLast Go.Proofs.YtmhncklpejchcaaW.PrintMore
set_option linter.unusedVariables false
set_option linter.unusedSimpArgs false
theorem bv_of (x : Int) (h0 : 0 ≤ x) (h1 : x < 256) : ((BitVec.ofInt 8 x).toNat : Int) = x := by
  rw [BitVec.toNat_ofInt]
  omega
theorem xor_nat (x b : Int) : bits .xor .u8 x b = ((BitVec.ofInt 8 x ^^^ BitVec.ofInt 8 b).toNat : Int) := by
  show IntKind.u8.wrap ((BitVec.ofInt 8 x ^^^ BitVec.ofInt 8 b).toNat : Int) = _
  have h := (BitVec.ofInt 8 x ^^^ BitVec.ofInt 8 b).isLt
  rw [IntKind.wrap_u8]
  omega
theorem xor_range (x b : Int) : 0 ≤ bits .xor .u8 x b ∧ bits .xor .u8 x b < 256 := by
  rw [xor_nat]
  have h := (BitVec.ofInt 8 x ^^^ BitVec.ofInt 8 b).isLt
  omega
theorem xor_bv (x b : Int) : BitVec.ofInt 8 (bits .xor .u8 x b) = BitVec.ofInt 8 x ^^^ BitVec.ofInt 8 b := by
  rw [xor_nat, BitVec.ofInt_natCast, BitVec.ofNat_toNat, BitVec.setWidth_eq]
theorem xor_twice (x b : Int) (h0 : 0 ≤ x) (h1 : x < 256) : bits .xor .u8 (bits .xor .u8 x b) b = x := by
  rw [xor_nat, xor_bv, BitVec.xor_assoc, BitVec.xor_self, BitVec.xor_zero]
  exact bv_of x h0 h1
/-- a literal of rows that are read -/
theorem C_lit {W : World} {o : Nat} {vs : Array Value} {Ls : List (List Int)} (h : W.heap[o]? = some (.cells vs 27 (0, 0))) (hn : Ls.length ≤ 1000) (hK : ∀ (j : Nat) (p : List Int), Ls[j]? = some p → ∃ A c, vs[j]? = some (.slice A p.length c) ∧ p.length ≤ c ∧ Kd.C kb W A p.length p) : Kd.C kbs W (some ⟨o, 0, none⟩) Ls.length Ls := by
  refine ⟨rfl, by omega, fun _ => ⟨_, rfl, fun j p hp => ?_⟩⟩
  obtain ⟨A, c, h1, h2, h3⟩ := hK j p hp
  refine ⟨[.slice A p.length c], rfl, ⟨A, c, rfl, h2, h3⟩, fun i u hi => ?_⟩
  cases i with
  | zero =>
    simp at hi
    subst hi
    show W.cell? (Addr.add ⟨o, 0, none⟩ (j * 1 + 0)) = _
    rw [Nat.mul_one, Nat.add_zero, Addr.add_lit, Nat.zero_add, blk_cell' h]
    exact h1
  | succ i => simp at hi
theorem C_one {W : World} {o : Nat} {z : Int} (h : W.heap[o]? = some (.cells #[.int .u8 z] 5 (0, 0))) : Kd.C kb W (some ⟨o, 0, none⟩) 1 [z] := by
  refine ⟨rfl, by omega, fun _ => ⟨_, rfl, fun j p hp => ?_⟩⟩
  cases j with
  | zero =>
    simp at hp
    subst hp
    refine ⟨[.int .u8 z], rfl, rfl, fun i u hi => ?_⟩
    cases i with
    | zero =>
      simp at hi
      subst hi
      show W.cell? (Addr.add ⟨o, 0, none⟩ (0 * 1 + 0)) = _
      rw [Addr.add_lit, blk_cell' h]
      rfl
    | succ i => simp at hi
  | succ j => simp at hp
set_option maxRecDepth 100000 in
set_option maxHeartbeats 4000000 in
theorem awake_c (w : World) : Calls Try.prog 7 #[] w fun e w' => e = .returned (.bool true) ∧ Below w.heap.size w w' := by
  have kn := Aside0.mk (new_c w)
  have kpush : Aside0 (∀ w1 : World, Wi w1 w.heap.size w.heap.size (.slice none 0 0) [] → Below w.heap.size w w1 → Calls Try.prog 9 #[.pointer (some ⟨w.heap.size, 0, none⟩), .slice (some ⟨w1.heap.size + 1 + 1, 0, none⟩) 2 2] (((w1.alloc (.cells #[.int .u8 1] 5)).alloc (.cells #[.int .u8 2] 5)).alloc (.cells #[.slice (some ⟨w1.heap.size, 0, none⟩) 1 1, .slice (some ⟨w1.heap.size + 1, 0, none⟩) 1 1] 27)) fun e w' => e = .returned (.int .i64 2) ∧ ∃ v', Wi w' w.heap.size w.heap.size v' [[1], [2]] ∧ Below w.heap.size w w') := ⟨fun w1 hW hb => by
    have hlt := blk_lt' hW.box
    have hb3 : Below w1.heap.size w1 (((w1.alloc (.cells #[.int .u8 1] 5)).alloc (.cells #[.int .u8 2] 5)).alloc (.cells #[.slice (some ⟨w1.heap.size, 0, none⟩) 1 1, .slice (some ⟨w1.heap.size + 1, 0, none⟩) 1 1] 27)) := (((Below.refl _ _).alloc (Nat.le_refl _) _).alloc (by simp) _).alloc (by simp; omega) _
    have hbb := below_then hb hb.size hb3
    have e0 : (((w1.alloc (.cells #[.int .u8 1] 5)).alloc (.cells #[.int .u8 2] 5)).alloc (.cells #[.slice (some ⟨w1.heap.size, 0, none⟩) 1 1, .slice (some ⟨w1.heap.size + 1, 0, none⟩) 1 1] 27)).heap[w1.heap.size]? = some (.cells #[.int .u8 1] 5 (0, 0)) := (Below.heap_alloc _ _ _ (by simp; omega)).trans ((Below.heap_alloc _ _ _ (by simp)).trans (heap_alloc_new _ _))
    have e1 : (((w1.alloc (.cells #[.int .u8 1] 5)).alloc (.cells #[.int .u8 2] 5)).alloc (.cells #[.slice (some ⟨w1.heap.size, 0, none⟩) 1 1, .slice (some ⟨w1.heap.size + 1, 0, none⟩) 1 1] 27)).heap[w1.heap.size + 1]? = some (.cells #[.int .u8 2] 5 (0, 0)) := (Below.heap_alloc _ _ _ (by simp)).trans (by
      have h := heap_alloc_new (w1.alloc (.cells #[.int .u8 1] 5)) (.cells #[.int .u8 2] 5)
      rw [show (w1.alloc (.cells #[.int .u8 1] 5)).heap.size = w1.heap.size + 1 by simp] at h
      exact h)
    have e2 : (((w1.alloc (.cells #[.int .u8 1] 5)).alloc (.cells #[.int .u8 2] 5)).alloc (.cells #[.slice (some ⟨w1.heap.size, 0, none⟩) 1 1, .slice (some ⟨w1.heap.size + 1, 0, none⟩) 1 1] 27)).heap[w1.heap.size + 1 + 1]? = some (.cells #[.slice (some ⟨w1.heap.size, 0, none⟩) 1 1, .slice (some ⟨w1.heap.size + 1, 0, none⟩) 1 1] 27 (0, 0)) := by
      have h := heap_alloc_new ((w1.alloc (.cells #[.int .u8 1] 5)).alloc (.cells #[.int .u8 2] 5)) (.cells #[.slice (some ⟨w1.heap.size, 0, none⟩) 1 1, .slice (some ⟨w1.heap.size + 1, 0, none⟩) 1 1] 27)
      rw [show ((w1.alloc (.cells #[.int .u8 1] 5)).alloc (.cells #[.int .u8 2] 5)).heap.size = w1.heap.size + 1 + 1 by simp] at h
      exact h
    have hsz : (((w1.alloc (.cells #[.int .u8 1] 5)).alloc (.cells #[.int .u8 2] 5)).alloc (.cells #[.slice (some ⟨w1.heap.size, 0, none⟩) 1 1, .slice (some ⟨w1.heap.size + 1, 0, none⟩) 1 1] 27)).heap.size = w1.heap.size + 3 := by simp
    generalize (((w1.alloc (.cells #[.int .u8 1] 5)).alloc (.cells #[.int .u8 2] 5)).alloc (.cells #[.slice (some ⟨w1.heap.size, 0, none⟩) 1 1, .slice (some ⟨w1.heap.size + 1, 0, none⟩) 1 1] 27)) = W at *
    refine (push_c w.heap.size w.heap.size (.slice none 0 0) [] [[1], [2]] (some ⟨w1.heap.size + 1 + 1, 0, none⟩) 2 2 w W (by omega) (by simp) (hW.below hb3) hbb hbb.size (by omega) (fun W' hs hB hF => ?_) (by simp)).mono ?_
    · have hh : ∀ b, w1.heap.size ≤ b → b < w1.heap.size + 3 → W'.heap[b]? = W.heap[b]? := fun b h1 h2 => hF b (by omega) (by omega) (by simp [Value.ownBlock])
      refine C_lit (Ls := [[1], [2]]) ((hh _ (by omega) (by omega)).trans e2) (by simp) (fun j p hp => ?_)
      match j, hp with
      | 0, hp =>
        simp at hp
        subst hp
        exact ⟨_, 1, rfl, by simp, C_one ((hh _ (by omega) (by omega)).trans e0)⟩
      | 1, hp =>
        simp at hp
        subst hp
        exact ⟨_, 1, rfl, by simp, C_one ((hh _ (by omega) (by omega)).trans e1)⟩
      | j + 2, hp => simp at hp
    · rintro e w' ⟨he, v', hW', _, hB', _⟩
      exact ⟨he, v', hW', hB'⟩⟩
  have kcor : Aside0 (∀ (W : World) (v : Value), Wi W w.heap.size w.heap.size v [[1], [2]] → Below w.heap.size w W → Calls Try.prog 10 #[.pointer (some ⟨w.heap.size, 0, none⟩), .int .i64 0, .int .i64 0, .int .u8 4] W fun e w' => e = .returned (.int .i64 0) ∧ Below w.heap.size w w') := ⟨fun W v hW hB =>
    (corrupt_c 0 0 4 w.heap.size w.heap.size v [[1], [2]] w W hW hB hB.size (by simp) (by simp) (by simp) (by simp)).mono fun e w' h => ⟨h.1, h.2.2.1⟩⟩
  have klen : Aside0 (∀ (W : World) (v : Value), Wi W w.heap.size w.heap.size v [[1], [2]] → Calls Try.prog 13 #[.pointer (some ⟨w.heap.size, 0, none⟩)] W fun e w' => e = .returned (.int .i64 2) ∧ w' = W) := ⟨fun W v hW => len_c w.heap.size w.heap.size v [[1], [2]] W hW⟩
  go_enter Try.func7, Try.ntmps7
  go_wp2_with (first
    | (go_at_call 8; (with_reducible refine kn.out.mono ?_); rintro e w1 ⟨rfl, hW, hb⟩; replace hW := Aside0.mk hW; replace hb := Aside0.mk hb)
    | (go_at_call 9; (with_reducible refine (kpush.out w1 hW.out hb.out).mono ?_); rintro e w2 ⟨rfl, v2, hW2, hb2⟩; replace hW2 := Aside0.mk hW2; replace hb2 := Aside0.mk hb2)
    | (go_at_call 13; (with_reducible refine (klen.out w2 v2 hW2.out).mono ?_); rintro e w' ⟨rfl, hw⟩; subst w')
    | (go_at_call 10; (with_reducible refine (kcor.out w2 v2 hW2.out hb2.out).mono ?_); rintro e w4 ⟨rfl, hb4⟩; replace hb4 := Aside0.mk hb4)
    | fail)
  go_ret
  exact ⟨rfl, hb4.out⟩
end Go.Proofs.Ytmhncklpejchcaa.Wir
