/- The walk through WireFull: it returns true and what lay in memory stays; for every row of bytes that is read. -/
import Derived.Test.YtmhncklpejchcaaDouble
namespace Go.Proofs.Ytmhncklpejchcaa.Wir
open Go Go.RowKit Go.Proofs.Ytmhncklpejchcaa.PWirePlays Go.Proofs.YtmhncklpejchcaaW.PrintWords Go.Proofs.YtmhncklpejchcaaW.PrintLast Go.Proofs.YtmhncklpejchcaaW.PrintMore
set_option linter.unusedVariables false
set_option linter.unusedSimpArgs false
/-- k rows that are all one -/
def Al (p : List Int) (k : Nat) (L : List (List Int)) : Prop := L.length = k ∧ ∀ q ∈ L, q = p
theorem Al.zero (p : List Int) : Al p 0 [] := ⟨rfl, fun q hq => by simp at hq⟩
theorem Al.push {p : List Int} {k : Nat} {L : List (List Int)} (h : Al p k L) : Al p (k + 1) (L ++ [p]) := ⟨by rw [List.length_append, h.1]; rfl, fun q hq => by
  rcases List.mem_append.1 hq with hq | hq
  · exact h.2 q hq
  · simpa using hq⟩
theorem Al.head {p : List Int} {k : Nat} {L : List (List Int)} (h : Al p k L) (hlt : 0 < L.length) : L[0] = p := h.2 _ (List.getElem_mem hlt)
/-- a row of bytes outside stays while a wire is worked on -/
theorem keepY {W w' : World} {B base b0 : Nat} {v y : Value} {L : List (List Int)} {l : List Int} (hW : Wi W B base v L) (hF : Fr W w' B v) (hR : Kd.R kb 5 W b0 (fun _ => True) y l) : Kd.R kb 5 w' b0 (fun _ => True) y l := by
  refine Kd.R_mono (Kd.R_step (Kd.R_bound hR) (fun k hk hlt => hF k hlt (fun e => ?_) (fun e => ?_))) (fun _ _ => trivial)
  · obtain ⟨_, _, _, q, hq, cells, hc⟩ := hk
    have hq5 : q = 5 := by simpa [kb, Kd.int, Kd.scalar] using hq
    subst hq5
    rw [e, hW.box] at hc
    injection hc with hc
    injection hc with _ hc
    cases hc
  · obtain ⟨_, _, _, q, hq, cells, hc⟩ := hk
    have hq5 : q = 5 := by simpa [kb, Kd.int, Kd.scalar] using hq
    subst hq5
    obtain ⟨_, inner, ho, _⟩ := hW.row
    obtain ⟨cells', hc'⟩ := own_typed ho k e.symm
    rw [hc] at hc'
    injection hc' with hc'
    injection hc' with _ hc'
    cases hc'
set_option maxRecDepth 100000 in
set_option maxHeartbeats 8000000 in
theorem full_walk (A : Option Addr) (c : Nat) (p : List Int) (w : World) (HC : Kd.C kb w A p.length p) (hcap : p.length ≤ c) (hs : p.length ≤ 140737488351232) :
    Calls Try.prog 6 #[.slice A p.length c] w fun e w' => e = .returned (.bool true) ∧ Below w.heap.size w w' := by
  rcases (by omega : p.length = 0 ∨ 20 < p.length ∨ (1 ≤ p.length ∧ p.length ≤ 20)) with h0 | h20 | ⟨h1, h2⟩
  · rw [h0]
    clear HC hcap
    go_enter Try.func6, Try.ntmps6
    go_wp2_with (first
      | (go_at_call 7; (with_reducible refine (awake_c _).mono ?_); rintro e w2 ⟨rfl, hb2⟩; replace hb2 := Aside0.mk hb2)
      | fail)
    go_ret
    exact ⟨rfl, hb2.out⟩
  · have z1 : (20 : Int) < (p.length : Int) := by omega
    have z2 : ((p.length : Int) == 0) = false := beq_eq_false_iff_ne.2 (by omega)
    replace HC := Aside0.mk HC
    clear h20
    go_enter Try.func6, Try.ntmps6
    go_wp2_with (first
      | (go_at_call 7; (with_reducible refine (awake_c _).mono ?_); rintro e w2 ⟨rfl, hb2⟩; replace hb2 := Aside0.mk hb2)
      | fail)
    go_ret
    exact ⟨rfl, hb2.out⟩
  · have z1 : ¬ ((20 : Int) < (p.length : Int)) := by omega
    have z2 : ((p.length : Int) == 0) = false := beq_eq_false_iff_ne.2 (by omega)
    have z3 : (0 : Int) < (p.length : Int) := by omega
    have kn := Aside0.mk (new_c w)
    have kpush : Aside0 (∀ (W : World) (v : Value) (L : List (List Int)) (k : Nat), k ≤ 3999 → Al p k L → Wi W w.heap.size w.heap.size v L → Below w.heap.size w W → Calls Try.prog 9 #[.pointer (some ⟨w.heap.size, 0, none⟩), .slice (some ⟨W.heap.size, 0, none⟩) 1 1] (W.alloc (.cells #[.slice A p.length c] 27)) fun e w' => e = .returned (.int .i64 1) ∧ ∃ v' L', Al p (k + 1) L' ∧ Wi w' w.heap.size w.heap.size v' L' ∧ Below w.heap.size w w') := ⟨fun W v L k hk hA hW hB => by
      have h5 := push1_c w.heap.size w.heap.size v L A p.length c p w W hW (by rw [hA.1]; omega) hB hB.size rfl hcap hs (fun W' _ hB' _ => Kd.C_below HC hB')
      rw [show min 1 (4000 - L.length) = 1 by rw [hA.1]; omega, List.take_of_length_le (by simp)] at h5
      exact h5.mono fun e w' ⟨he, v', hW', _, hB', _⟩ => ⟨he, v', _, hA.push, hW', hB'⟩⟩
    have kpush3 : Aside0 (∀ (W : World) (v : Value) (L : List (List Int)), Al p 3999 L → Wi W w.heap.size w.heap.size v L → Below w.heap.size w W → Calls Try.prog 9 #[.pointer (some ⟨w.heap.size, 0, none⟩), .slice (some ⟨W.heap.size, 0, none⟩) 3 3] (W.alloc (.cells #[.slice A p.length c, .slice A p.length c, .slice A p.length c] 27)) fun e w' => e = .returned (.int .i64 1) ∧ ∃ v' L', Al p (3999 + 1) L' ∧ Wi w' w.heap.size w.heap.size v' L' ∧ Below w.heap.size w w' ∧ (∀ (b0 : Nat) (y : Value) (l : List Int), Kd.R kb 5 W b0 (fun _ => True) y l → Kd.R kb 5 w' b0 (fun _ => True) y l)) := ⟨fun W v L hA hW hB => by
      have h5 := push3_c w.heap.size w.heap.size v L A p.length c p w W hW (by rw [hA.1]; omega) hB hB.size rfl hcap hs (fun W' _ hB' _ => Kd.C_below HC hB')
      rw [show min 3 (4000 - L.length) = 1 by rw [hA.1]; omega, show [p, p, p].take 1 = [p] from rfl] at h5
      exact h5.mono fun e w' ⟨he, v', hW', _, hB', hF', _⟩ => ⟨he, v', _, hA.push, hW', hB', fun b0 y l hR => keepY hW hF' hR⟩⟩
    have kpush0 : Aside0 (∀ (W : World) (v : Value) (L : List (List Int)), Al p (3999 + 1) L → Wi W w.heap.size w.heap.size v L → Below w.heap.size w W → Calls Try.prog 9 #[.pointer (some ⟨w.heap.size, 0, none⟩), .slice (some ⟨W.heap.size, 0, none⟩) 1 1] (W.alloc (.cells #[.slice A p.length c] 27)) fun e w' => e = .returned (.int .i64 0) ∧ ∃ v', Wi w' w.heap.size w.heap.size v' L ∧ Below w.heap.size w w' ∧ (∀ (b0 : Nat) (y : Value) (l : List Int), Kd.R kb 5 W b0 (fun _ => True) y l → Kd.R kb 5 w' b0 (fun _ => True) y l)) := ⟨fun W v L hA hW hB => by
      have h5 := push1_c w.heap.size w.heap.size v L A p.length c p w W hW (by rw [hA.1]; omega) hB hB.size rfl hcap hs (fun W' _ hB' _ => Kd.C_below HC hB')
      rw [show min 1 (4000 - L.length) = 0 by rw [hA.1]; omega, List.take_zero, List.append_nil] at h5
      exact h5.mono fun e w' ⟨he, v', hW', _, hB', hF', _⟩ => ⟨he, v', hW', hB', fun b0 y l hR => keepY hW hF' hR⟩⟩
    have kdouble : Aside0 (∀ (W : World) (v : Value) (L : List (List Int)), Al p (3999 + 1) L → Wi W w.heap.size w.heap.size v L → Below w.heap.size w W → Calls Try.prog 16 #[.pointer (some ⟨w.heap.size, 0, none⟩), .int .i64 0] W fun e w' => e = .returned (.int .i64 7) ∧ Below w.heap.size w w' ∧ (∀ (b0 : Nat) (y : Value) (l : List Int), Kd.R kb 5 W b0 (fun _ => True) y l → Kd.R kb 5 w' b0 (fun _ => True) y l)) := ⟨fun W v L hA hW hB => by
      have hlt : 0 < L.length := by rw [hA.1]; omega
      have h5 := double_c 0 w.heap.size w.heap.size v L w W hW hB hB.size hlt (by rw [hA.1]; omega) (by rw [hA.head hlt]; exact hs)
      rw [if_pos hA.1, if_pos hA.1] at h5
      exact h5.mono fun e w' ⟨he, v', hW', _, hB', hF', _⟩ => ⟨he, hB', fun b0 y l hR => keepY hW hF' hR⟩⟩
    have kpeek : Aside0 (∀ (W : World) (v : Value) (L : List (List Int)), Al p 3999 L → Wi W w.heap.size w.heap.size v L → Calls Try.prog 15 #[.pointer (some ⟨w.heap.size, 0, none⟩), .int .i64 0] W fun e w' => (∃ g' c', e = .returned (.tuple #[.slice (some ⟨g', 0, none⟩) p.length c', .bool true]) ∧ W.heap.size ≤ g' ∧ p.length ≤ c' ∧ Kd.R kb 5 w' W.heap.size (fun _ => True) (.slice (some ⟨g', 0, none⟩) p.length c') p ∧ (∃ z, w'.cell? ⟨g', 0, none⟩ = some (.int .u8 z)) ∧ w'.frozen? ⟨g', 0, none⟩ = false) ∧ Below W.heap.size W w') := ⟨fun W v L hA hW => by
      have hlt : 0 < L.length := by rw [hA.1]; omega
      have h5 := peek_c 0 w.heap.size w.heap.size v L W hW hlt (by rw [hA.head hlt]; exact hs)
      rw [hA.head hlt] at h5
      simp only [show ((0 : Nat) : Int) = 0 from rfl] at h5
      refine h5.mono ?_
      rintro e w' ⟨⟨A', c', he, hR⟩, hb⟩
      obtain ⟨ad, hA, _⟩ := (Kd.R_reads' hR).2.2.2.2 (by omega)
      subst hA
      obtain ⟨g', rfl⟩ := R_home hR
      obtain ⟨q1, q2⟩ := Kd.R_celln (h1 := fun _ => rfl) (0 : Int) hR 0 (by omega) (by omega)
      exact ⟨⟨g', c', he, ((Kd.R_bound hR).1 g' rfl).2.1, (Kd.R_reads' hR).2.1, hR, ⟨_, q1⟩, q2⟩, hb⟩⟩
    have kbytes : Aside0 (∀ (W : World) (A' : Option Addr) (c' : Nat), p.length ≤ c' → Kd.C kb W A' p.length p → Below w.heap.size w W → Calls Try.prog 12 #[.slice A' p.length c', .slice A p.length c] W fun e w' => e = .returned (.bool true) ∧ Drawn0 W w') := ⟨fun W A' c' hc hC hB => by
      have h5 := bytes_c A' c' p A c p W hC hc (Kd.C_below HC hB) hcap
      rw [beq_self_eq_true] at h5
      exact h5⟩
    replace HC := Aside0.mk HC
    go_enter Try.func6, Try.ntmps6
    go_wp2_with (first
      | (go_at_call 8; (with_reducible refine kn.out.mono ?_); rintro e w1 ⟨rfl, hW, hb⟩; replace hW := Aside0.mk hW; replace hb := Aside0.mk hb)
      | fail)
    go_loopw [4] (fun i wr => ∃ (k : Nat) (v : Value) (L : List (List Int)), k ≤ 3999 ∧ i = .int .i64 k ∧ Aside0 (Al p k L) ∧ Aside0 (Wi wr w.heap.size w.heap.size v L) ∧ Aside0 (Below w.heap.size w wr)) (fun i _ => 3999 - (intOf i).toNat)
    case atStart => exact ⟨0, _, _, by omega, rfl, ⟨Al.zero p⟩, hW, hb⟩
    case round =>
      clear hW hb kn
      obtain ⟨k, v, L, hk, rfl, hA, hW, HB⟩ := hrel
      by_cases hkn : k < 3999
      · have b1 : (k : Int) < 3999 := by omega
        have hk2 : Aside0 (k ≤ 3999) := ⟨hk⟩
        go_wp2_with (first
          | (go_at_call 9; (with_reducible refine (kpush.out wr v L k hk2.out hA.out hW.out HB.out).mono ?_); rintro e w3 ⟨rfl, v3, L3, hA3, hW3, hb3⟩; replace hA3 := Aside0.mk hA3; replace hW3 := Aside0.mk hW3; replace hb3 := Aside0.mk hb3)
          | fail)
        go_roundw
        case rel => exact ⟨k + 1, v3, L3, by omega, by go_num, hA3, hW3, hb3⟩
        case measure => simp [intOf]; omega
      · have hkk : k = 3999 := by omega
        replace hA : Aside0 (Al p 3999 L) := ⟨hkk ▸ hA.out⟩
        have b1 : ¬ ((k : Int) < 3999) := by omega
        clear kpush hkk hkn hk
        go_wp2_with (first
          | (go_at_call 15; (with_reducible refine (kpeek.out wr v L hA.out hW.out).mono ?_); rintro e w3 ⟨⟨g3, c3, rfl, hg3, hc3, hC3, ⟨z, hz⟩, hf3⟩, hbb⟩; (have hW3 := Aside0.mk (hW.out.below (hbb.setCell (p := ⟨g3, 0, none⟩) hg3 (.int .u8 (bits .xor .u8 z 1))))); (have hb3 := Aside0.mk (below_then HB.out HB.out.size (hbb.setCell (p := ⟨g3, 0, none⟩) hg3 (.int .u8 (bits .xor .u8 z 1))))); clear hbb hg3 hC3 hW)
          | (go_at_call 15; (with_reducible refine (kpeek.out _ v L hA.out hW3.out).mono ?_); rintro e w5 ⟨⟨g5, c5, rfl, hg5, hc5, hR5, _⟩, hbb⟩; (have hW5 := Aside0.mk (hW3.out.below hbb)); (have hb5 := Aside0.mk (below_then hb3.out hb3.out.size hbb)); replace hR5 := Aside0.mk hR5; replace hc5 := Aside0.mk hc5; clear hbb hg5)
          | (go_at_call 11; (with_reducible refine (nilTake_c _ _).mono ?_); rintro e w' ⟨rfl, hw⟩; subst w')
          | (go_at_call 15; (with_reducible refine (nilPeek_c _ _).mono ?_); rintro e w' ⟨rfl, hw⟩; subst w')
          | (go_at_call 7; go_loud (with_reducible refine (awake_c _).mono ?_); rintro e w6 ⟨rfl, hbb⟩; (have hW6 := Aside0.mk (hW5.out.below hbb)); (have hb6 := Aside0.mk (below_then hb5.out hb5.out.size hbb)); (have hR6 := Aside0.mk (Kd.R_below hR5.out hbb)); clear hbb)
          | (go_at_call 9; (with_reducible refine (kpush3.out w6 v L hA.out hW6.out hb6.out).mono ?_); rintro e w7 ⟨rfl, v7, L7, hA7, hW7, hb7, hy7⟩; replace hA7 := Aside0.mk hA7; (have hR7 := Aside0.mk (hy7 _ _ _ hR6.out)); replace hW7 := Aside0.mk hW7; replace hb7 := Aside0.mk hb7; clear hy7)
          | (go_at_call 9; (with_reducible refine (kpush0.out w7 v7 L7 hA7.out hW7.out hb7.out).mono ?_); rintro e w8 ⟨rfl, v8, hW8, hb8, hy8⟩; (have hR8 := Aside0.mk (hy8 _ _ _ hR7.out)); replace hW8 := Aside0.mk hW8; replace hb8 := Aside0.mk hb8; clear hy8)
          | (go_at_call 16; (with_reducible refine (kdouble.out w8 v8 L7 hA7.out hW8.out hb8.out).mono ?_); rintro e w9 ⟨rfl, hb9, hy9⟩; (have hR9 := Aside0.mk (hy9 _ _ _ hR8.out)); replace hb9 := Aside0.mk hb9; clear hy9)
          | (go_at_call 12; (with_reducible refine (kbytes.out w9 (some ⟨g5, 0, none⟩) c5 hc5.out (Kd.R_reads' hR9.out).2.2 hb9.out).mono ?_); rintro e w10 ⟨rfl, hd⟩; (have hb10 := Aside0.mk (below_then hb9.out hb9.out.size hd.below)); (have hb11 := Aside0.mk ((below_then hb9.out hb9.out.size hd.below).alloc (below_then hb9.out hb9.out.size hd.below).size (.cells #[.slice A p.length c] 27))); clear hd)
          | (go_at_call 9; (with_reducible refine (nilPush_c _ _ _ _).mono ?_); rintro e w' ⟨rfl, hw⟩; subst w')
          | (go_at_call 16; (with_reducible refine (nilDouble_c _ _).mono ?_); rintro e w' ⟨rfl, hw⟩; subst w')
          | (go_at_call 10; (with_reducible refine (nilCorrupt_c _ _ _ _).mono ?_); rintro e w' ⟨rfl, hw⟩; subst w')
          | (go_at_call 13; (with_reducible refine (nilLen_c _).mono ?_); rintro e w' ⟨rfl, hw⟩; subst w')
          | (go_at_call 14; (with_reducible refine (nilFork_c _).mono ?_); rintro e w' ⟨rfl, hw⟩; subst w')
          | fail)
        go_ret
        exact ⟨rfl, hb11.out⟩
end Go.Proofs.Ytmhncklpejchcaa.Wir
