/- The walk through WireForks: it returns true and what lay in memory stays; for every list of rows of bytes that is read, every number and every byte. -/
import Derived.Test.YtmhncklpejchcaaFork
namespace Go.Proofs.Ytmhncklpejchcaa.Wir
open Go Go.RowKit Go.Proofs.Ytmhncklpejchcaa.PWirePlays Go.Proofs.YtmhncklpejchcaaW.PrintWords Go.Proofs.YtmhncklpejchcaaW.PrintLast Go.Proofs.YtmhncklpejchcaaW.PrintMore
set_option linter.unusedVariables false
set_option linter.unusedSimpArgs false
set_option maxRecDepth 100000 in
set_option maxHeartbeats 8000000 in
theorem forks_walk (A : Option Addr) (n cap : Nat) (L : List (List Int)) (at_ by_ : Int) (w : World) (HC : Kd.C kbs w A n L) (hn : n ≤ maxLen) (hcap : n ≤ cap) (hs : ∀ x ∈ L, x.length ≤ 140737488351232) (hr : ∀ x ∈ L, ∀ z ∈ x, 0 ≤ z ∧ z < 256) :
    Calls Try.prog 4 #[.slice A n cap, .int .i64 at_, .int .u8 by_] w fun e w' => e = .returned (.bool true) ∧ Below w.heap.size w w' := by
  unfold maxLen at hn
  have hl : L.length = n := HC.1
  rcases (by omega : n = 0 ∨ 20 < n ∨ (1 ≤ n ∧ n ≤ 20)) with h0 | h20 | ⟨h1, h2⟩
  · subst h0
    clear hs hr
    replace HC := Aside0.mk HC
    replace hl := Aside0.mk hl
    go_enter Try.func4, Try.ntmps4
    go_wp2_with (first
      | (go_at_call 7; (with_reducible refine (awake_c _).mono ?_); rintro e w2 ⟨rfl, hb2⟩; replace hb2 := Aside0.mk hb2)
      | fail)
    go_ret
    exact ⟨rfl, hb2.out⟩
  · have z1 : (20 : Int) < (n : Int) := by omega
    have z2 : ¬ ((n : Int) = 0) := by omega
    clear hs hr
    replace HC := Aside0.mk HC
    replace hl := Aside0.mk hl
    go_enter Try.func4, Try.ntmps4
    go_wp2_with (first
      | (go_at_call 7; (with_reducible refine (awake_c _).mono ?_); rintro e w2 ⟨rfl, hb2⟩; replace hb2 := Aside0.mk hb2)
      | fail)
    go_ret
    exact ⟨rfl, hb2.out⟩
  · obtain ⟨ad, A1, c1, e1, hx, hx1, hx2⟩ := at_L1 HC 0 (by omega) (by omega)
    subst e1
    have hx' : w.cell? (ad.add 0) = some (.slice A1 (rd_L1 L 0).length c1) := hx
    clear hx
    have hx := hx'
    clear hx'
    have hlk : 0 < L.length := by omega
    have hrd : rd_L1 L 0 = L.getD 0 [] := rfl
    have hgd : L.getD 0 [] = L[0] := by rw [List.getD_eq_getElem?_getD, List.getElem?_eq_getElem hlk]; rfl
    have hmem : L[0] ∈ L := List.getElem_mem hlk
    have hxs := hs _ hmem
    have hxr := hr _ hmem
    rw [hrd, hgd] at hx hx1 hx2
    have z1 : ¬ ((20 : Int) < (n : Int)) := by omega
    have z2 : ¬ ((n : Int) = 0) := by omega
    have z3 : (0 : Int) < (n : Int) := by omega
    have hadl : ad.block < w.heap.size := by
      rcases Nat.lt_or_ge ad.block w.heap.size with h | h
      · exact h
      · have h2 := hx
        unfold World.cell? at h2
        rw [add_block, Array.getElem?_eq_none h] at h2
        simp at h2
    have hcx : Aside0 (∀ W : World, Below w.heap.size w W → W.cell? (ad.add 0) = some (.slice A1 L[0].length c1)) := ⟨fun W hB => (World.cell?_of_block (by rw [add_block]; exact hB.block _ hadl)).trans hx⟩
    have hcx2 : Aside0 (∀ W : World, Below w.heap.size w W → W.cell? ad = some (.slice A1 L[0].length c1)) := ⟨fun W hB => hcx.out W hB⟩
    have hx0 : w.cell? ad = some (.slice A1 L[0].length c1) := hx
    replace hx2 : Aside0 (Kd.C kb w A1 L[0].length L[0]) := ⟨hx2⟩
    clear hrd hadl
    replace hgd := Aside0.mk hgd
    replace hxs := Aside0.mk hxs
    replace hxr := Aside0.mk hxr
    replace hmem := Aside0.mk hmem
    replace hs := Aside0.mk hs
    replace hr := Aside0.mk hr
    replace HC := Aside0.mk HC
    replace hl := Aside0.mk hl
    generalize hx00 : L[0] = x0 at *
    replace hx00 := Aside0.mk hx00
    rcases (by omega : x0.length = 0 ∨ 50 < x0.length ∨ (1 ≤ x0.length ∧ x0.length ≤ 50)) with h0 | h50 | ⟨h3, h4⟩
    · have z4 : (x0.length : Int) = 0 := by omega
      rw [h0] at hx hx0
      clear hcx hcx2
      go_enter Try.func4, Try.ntmps4
      go_wp2_with (first
        | (go_at_call 7; (with_reducible refine (awake_c _).mono ?_); rintro e w2 ⟨rfl, hb2⟩; replace hb2 := Aside0.mk hb2)
        | fail)
      go_ret
      exact ⟨rfl, hb2.out⟩
    · have z4 : (50 : Int) < (x0.length : Int) := by omega
      have z5 : ¬ ((x0.length : Int) = 0) := by omega
      have z6 : ¬ (x0.length = 0) := by omega
      go_enter Try.func4, Try.ntmps4
      go_wp2_with (first
        | (go_at_call 7; (with_reducible refine (awake_c _).mono ?_); rintro e w2 ⟨rfl, hb2⟩; replace hb2 := Aside0.mk hb2)
        | fail)
      go_ret
      exact ⟨rfl, hb2.out⟩
    · have z4 : ¬ ((50 : Int) < (x0.length : Int)) := by omega
      have z5 : ¬ ((x0.length : Int) = 0) := by omega
      have z6 : ¬ (x0.length = 0) := by omega
      have z7 : (0 : Int) < (x0.length : Int) := by omega
      obtain ⟨r, hr1, hr2, hr3⟩ := rem_u at_ (x0.length : Int) (by omega) (by omega)
      obtain ⟨t, ht⟩ : ∃ t, Aside0 (n = t + 1) := ⟨n - 1, ⟨by omega⟩⟩
      have ha : Aside0 (r < (L.getD 0 []).length) := ⟨by rw [hgd.out]; omega⟩
      have hz0 : Aside0 (0 ≤ (L.getD 0 []).getD r 0 ∧ (L.getD 0 []).getD r 0 < 256) := ⟨by
        rw [hgd.out]
        have hm2 : x0.getD r 0 ∈ x0 := by
          rw [List.getD_eq_getElem?_getD, List.getElem?_eq_getElem (show r < x0.length by omega)]
          exact List.getElem_mem _
        exact hxr.out _ hm2⟩
      have kn := Aside0.mk (new_c w)
      have kp1 : Aside0 (∀ W : World, Wi W w.heap.size w.heap.size (.slice none 0 0) [] → Below w.heap.size w W → Calls Try.prog 9 #[.pointer (some ⟨w.heap.size, 0, none⟩), .slice (some ad) n cap] W fun e w' => e = .returned (.int .i64 (n : Int)) ∧ ∃ v', Wi w' w.heap.size w.heap.size v' L ∧ Below w.heap.size w w') := ⟨fun W hW hB => by
        refine (push_c w.heap.size w.heap.size (.slice none 0 0) [] L (some ad) n cap w W (by omega) (by simp) hW hB hB.size hcap (fun W' _ hB' _ => Kd.C_below HC.out hB') hs.out).mono ?_
        rintro e w' ⟨he, v', hW', _, hB', _⟩
        rw [show min n (4000 - ([] : List (List Int)).length) = n by simp; omega] at he hW'
        rw [List.nil_append, List.take_of_length_le (by rw [hl.out]; exact Nat.le_refl _)] at hW'
        exact ⟨he, v', hW', hB'⟩⟩
      have kfork := Aside0.mk (fun (W : World) (v : Value) (h : Wi W w.heap.size w.heap.size v L) (hB : Below w.heap.size w W) => fork_c w.heap.size w.heap.size v L W h hB.size (by rw [hl.out]; omega))
      have klen : Aside0 (∀ (W : World) (Bf : Nat) (v : Value) (L' : List (List Int)) (q : Nat), L'.length = q → Wi W Bf w.heap.size v L' → Calls Try.prog 13 #[.pointer (some ⟨Bf, 0, none⟩)] W fun e w' => e = .returned (.int .i64 (q : Int)) ∧ w' = W) := ⟨fun W Bf v L' q hq h => hq ▸ len_c Bf w.heap.size v L' W h⟩
      have kcor := fun (W : World) (Bf : Nat) (v : Value) (h : Wi W Bf w.heap.size v L) (hB : Below w.heap.size w W) => cor_c 0 r (bits .or .u8 by_ 1) Bf w.heap.size v L w W h hB hB.size (by rw [hl.out]; omega) ha.out (by rw [hl.out]; omega) (by rw [hgd.out]; exact hxs.out)
      simp only [show ((0 : Nat) : Int) = 0 from rfl] at kcor
      replace kcor := Aside0.mk kcor
      have ktake := Aside0.mk (fun (W : World) (v : Value) (h : Wi W w.heap.size w.heap.size v L) (hB : Below w.heap.size w W) => take_c t w.heap.size w.heap.size v L w W h hB hB.size (by rw [hl.out]; have := ht.out; omega) (by rw [hl.out]; omega) (hs.out _ (List.getElem_mem (by rw [hl.out]; have := ht.out; omega))))
      have hmod : Aside0 ((turn L 0 r (bits .or .u8 by_ 1)).getD 0 [] = x0.set r (bits .xor .u8 (x0.getD r 0) (bits .or .u8 by_ 1))) := ⟨by rw [turn_at L 0 r _ (by rw [hl.out]; omega), hgd.out]⟩
      have kpeekF : Aside0 (∀ (W : World) (Bf : Nat) (v : Value), Wi W Bf w.heap.size v (turn L 0 r (bits .or .u8 by_ 1)) → Calls Try.prog 15 #[.pointer (some ⟨Bf, 0, none⟩), .int .i64 0] W fun e w' => (∃ A' c', e = .returned (.tuple #[.slice A' x0.length c', .bool true]) ∧ x0.length ≤ c' ∧ Kd.C kb w' A' x0.length (x0.set r (bits .xor .u8 (x0.getD r 0) (bits .or .u8 by_ 1)))) ∧ Below W.heap.size W w') := ⟨fun W Bf v h => by
        have hlt : 0 < (turn L 0 r (bits .or .u8 by_ 1)).length := by rw [turn_len, hl.out]; omega
        have hg : (turn L 0 r (bits .or .u8 by_ 1))[0] = x0.set r (bits .xor .u8 (x0.getD r 0) (bits .or .u8 by_ 1)) := by
          rw [← hmod.out, List.getD_eq_getElem?_getD, List.getElem?_eq_getElem hlt]; rfl
        refine (peek_c 0 Bf w.heap.size v _ W h hlt (by rw [hg, List.length_set]; exact hxs.out)).mono ?_
        rintro e w' ⟨⟨A', c', he, hR⟩, hb⟩
        rw [hg, List.length_set] at he
        rw [hg] at hR
        have h5 := Kd.R_reads' hR
        rw [List.length_set] at h5
        exact ⟨⟨A', c', he, h5.2.1, h5.2.2⟩, hb⟩⟩
      have hbne : Aside0 (((strOfNums (x0.set r (bits .xor .u8 (x0.getD r 0) (bits .or .u8 by_ 1)))).toList == (strOfNums x0).toList) = false) := ⟨by
        have h5 := hz0.out
        rw [hgd.out] at h5
        exact bytes_ne x0 r _ (by omega) h5.1 h5.2 (xor_range _ _).1 (xor_range _ _).2 (xor_ne _ _ h5.1 h5.2)⟩
      have kbytesF : Aside0 (∀ (W : World) (A' : Option Addr) (c' : Nat), x0.length ≤ c' → Kd.C kb W A' x0.length (x0.set r (bits .xor .u8 (x0.getD r 0) (bits .or .u8 by_ 1))) → Below w.heap.size w W → Calls Try.prog 12 #[.slice A' x0.length c', .slice A1 x0.length c1] W fun e w' => e = .returned (.bool false) ∧ Drawn0 W w') := ⟨fun W A' c' hc hC hB => by
        have h5 := bytes_c A' c' (x0.set r (bits .xor .u8 (x0.getD r 0) (bits .or .u8 by_ 1))) A1 c1 x0 W (by rw [List.length_set]; exact hC) (by rw [List.length_set]; exact hc) (Kd.C_below hx2.out hB) hx1
        rw [List.length_set, hbne.out] at h5
        exact h5⟩
      have hLf : Aside0 ((turn L 0 r (bits .or .u8 by_ 1)).length = n) := ⟨by rw [turn_len]; exact hl.out⟩
      generalize turn L 0 r (bits .or .u8 by_ 1) = Lf at *
      clear hmod hbne hz0
      have hq : (n : Int) - 1 = (t : Int) := by have := ht.out; omega
      have hq2 : wrap64 ((n : Int) - 1) = (t : Int) := by have := ht.out; unfold wrap64; omega
      rcases (by omega : n = 1 ∨ 2 ≤ n) with hn1 | hn2
      · subst hn1
        obtain rfl : t = 0 := by have := ht.out; omega
        have he0 : L.eraseIdx 0 = [] := List.eq_nil_of_length_eq_zero (by rw [List.length_eraseIdx_of_lt (by rw [hl.out]; omega), hl.out])
        rw [he0] at ktake
        have kpeekW : Aside0 (∀ (W : World) (v : Value), Wi W w.heap.size w.heap.size v [] → Calls Try.prog 15 #[.pointer (some ⟨w.heap.size, 0, none⟩), .int .i64 0] W fun e w' => e = .returned (.tuple #[.slice none 0 0, .bool false]) ∧ w' = W) := ⟨fun W v h => peekOut_c 0 w.heap.size w.heap.size v [] W h (.inr (by simp))⟩
        simp only [show ((1 : Nat) : Int) = 1 from rfl, show ((0 : Nat) : Int) = 0 from rfl] at kp1 ktake
        have klen1 : Aside0 (∀ (W : World) (Bf : Nat) (v : Value), Wi W Bf w.heap.size v L → Calls Try.prog 13 #[.pointer (some ⟨Bf, 0, none⟩)] W fun e w' => e = .returned (.int .i64 1) ∧ w' = W) := ⟨fun W Bf v h => klen.out W Bf v L 1 hl.out h⟩
        clear z1 z2 z3 hq hq2
        have hw0 : wrap64 0 = 0 := by unfold wrap64; omega
        have hw1 : wrap64 (1 - 1) = 0 := by unfold wrap64; omega
        replace he0 := Aside0.mk he0
        go_enter Try.func4, Try.ntmps4
        go_wp2_with (first
          | (go_at_call 8; (with_reducible refine kn.out.mono ?_); rintro e w1 ⟨rfl, hW1, hb1⟩; replace hW1 := Aside0.mk hW1; replace hb1 := Aside0.mk hb1)
          | (go_at_call 9; (with_reducible refine (kp1.out w1 hW1.out hb1.out).mono ?_); rintro e w2 ⟨rfl, v2, hW2, hb2⟩; replace hW2 := Aside0.mk hW2; replace hb2 := Aside0.mk hb2)
          | (go_at_call 14; (with_reducible refine (kfork.out w2 v2 hW2.out hb2.out).mono ?_); rintro e w3 ⟨⟨Bf, v3, rfl, hF3, hBf, hv3⟩, hbb⟩; (have hW3 := Aside0.mk (hW2.out.below hbb)); (have hb3 := Aside0.mk (below_then hb2.out hb2.out.size hbb)); have hx3 := hcx2.out w3 hb3.out; replace hF3 := Aside0.mk hF3; (have hne : Aside0 (w.heap.size ≠ Bf) := ⟨fun e => by have := blk_lt' hW2.out.box; omega⟩); (have hnv : Aside0 (∀ k, v2.ownBlock = some k → some k ≠ v3.ownBlock) := ⟨fun k hk e => by have h5 := hv3 k e.symm; have h6 := ((Kd.R_bound hW2.out.row).1 k hk).2.2.1; omega⟩); clear hbb hv3 hBf)
          | (go_at_call 13; (with_reducible refine (klen1.out w3 Bf v3 hF3.out).mono ?_); rintro e w' ⟨rfl, hw⟩; subst w')
          | (go_at_call 10; (with_reducible refine (kcor.out w3 Bf v3 hF3.out hb3.out).mono ?_); rintro e w4 ⟨rfl, ⟨v4, hF4, hv4⟩, hb4, hfr4, _⟩; (have hW4 := Aside0.mk (Wi.keep hW3.out hF3.out hfr4 hne.out hnv.out)); replace hF4 := Aside0.mk hF4; replace hb4 := Aside0.mk hb4; (have hnv4 : Aside0 (∀ k, v4.ownBlock = some k → some k ≠ v2.ownBlock) := ⟨fun k hk e => hnv.out k e.symm (by rw [← hv4]; exact hk.symm)⟩); clear hfr4 hW3 hF3)
          | (go_at_call 11; (with_reducible refine (ktake.out w4 v2 hW4.out hb4.out).mono ?_); rintro e w5 ⟨⟨A5, c5, rfl, _⟩, ⟨v5, hW5, hv5⟩, hb5, hfr5, _⟩; (have hF5 := Aside0.mk (Wi.keep hF4.out hW4.out hfr5 (fun e => hne.out e.symm) hnv4.out)); replace hW5 := Aside0.mk hW5; replace hb5 := Aside0.mk hb5; clear hfr5 hW4 hF4)
          | (go_at_call 15; (with_reducible refine (kpeekW.out w5 v5 hW5.out).mono ?_); rintro e w' ⟨rfl, hw⟩; subst w')
          | (go_at_call 15; (with_reducible refine (kpeekF.out w5 Bf v4 hF5.out).mono ?_); rintro e w7 ⟨⟨A7, c7, rfl, hc7, hC7⟩, hbb⟩; (have hb7 := Aside0.mk (below_then hb5.out hb5.out.size hbb)); replace hC7 := Aside0.mk hC7; replace hc7 := Aside0.mk hc7; clear hbb)
          | (go_at_call 7; go_loud (with_reducible refine (awake_c _).mono ?_); rintro e w8 ⟨rfl, hbb⟩; (have hb8 := Aside0.mk (below_then hb7.out hb7.out.size hbb)); (have hC8 := Aside0.mk (Kd.C_below hC7.out hbb)); (have hx8 := hcx.out w8 hb8.out); (have hx9 := hcx2.out w8 hb8.out); clear hbb)
          | (go_at_call 12; (with_reducible refine (kbytesF.out w8 A7 c7 hc7.out hC8.out hb8.out).mono ?_); rintro e w9 ⟨rfl, hd⟩; (have hb9 := Aside0.mk (below_then hb8.out hb8.out.size hd.below)))
          | fail)
        go_ret
        exact ⟨rfl, hb9.out⟩
      · have z8 : ¬ ((n : Int) = 1) := by omega
        have z9 : ((n : Int) == 1) = false := beq_eq_false_iff_ne.2 z8
        have z10 : ((n : Int) == 0) = false := beq_eq_false_iff_ne.2 z2
        clear z8 z2
        have ht1 : Aside0 (1 ≤ t) := ⟨by have := ht.out; omega⟩
        have hel : Aside0 ((L.eraseIdx t).length = t) := ⟨by have := ht.out; rw [List.length_eraseIdx_of_lt (by rw [hl.out]; omega), hl.out]; omega⟩
        have hE0 : Aside0 ((L.eraseIdx t)[0]? = some x0) := ⟨by
          rw [List.getElem?_eraseIdx_of_lt (show 0 < t from ht1.out), List.getElem?_eq_getElem hlk, hx00.out]⟩
        have kpeekW : Aside0 (∀ (W : World) (v : Value), Wi W w.heap.size w.heap.size v (L.eraseIdx t) → Calls Try.prog 15 #[.pointer (some ⟨w.heap.size, 0, none⟩), .int .i64 0] W fun e w' => (∃ A' c', e = .returned (.tuple #[.slice A' x0.length c', .bool true]) ∧ x0.length ≤ c' ∧ Kd.C kb w' A' x0.length x0) ∧ Below W.heap.size W w') := ⟨fun W v h => by
          have hlt : 0 < (L.eraseIdx t).length := by rw [hel.out]; exact ht1.out
          have hg : (L.eraseIdx t)[0] = x0 := by
            have h5 := hE0.out
            rw [List.getElem?_eq_getElem hlt] at h5
            injection h5
          refine (peek_c 0 w.heap.size w.heap.size v _ W h hlt (by rw [hg]; exact hxs.out)).mono ?_
          rintro e w' ⟨⟨A', c', he, hR⟩, hb⟩
          rw [hg] at he
          rw [hg] at hR
          have h5 := Kd.R_reads' hR
          exact ⟨⟨A', c', he, h5.2.1, h5.2.2⟩, hb⟩⟩
        have kbytesW : Aside0 (∀ (W : World) (A' : Option Addr) (c' : Nat), x0.length ≤ c' → Kd.C kb W A' x0.length x0 → Below w.heap.size w W → Calls Try.prog 12 #[.slice A' x0.length c', .slice A1 x0.length c1] W fun e w' => e = .returned (.bool true) ∧ Drawn0 W w') := ⟨fun W A' c' hc hC hB => by
          have h5 := bytes_c A' c' x0 A1 c1 x0 W hC hc (Kd.C_below hx2.out hB) hx1
          rw [beq_self_eq_true] at h5
          exact h5⟩
        go_enter Try.func4, Try.ntmps4
        go_wp2_with (first
          | (go_at_call 8; (with_reducible refine kn.out.mono ?_); rintro e w1 ⟨rfl, hW1, hb1⟩; replace hW1 := Aside0.mk hW1; replace hb1 := Aside0.mk hb1)
          | (go_at_call 9; (with_reducible refine (kp1.out w1 hW1.out hb1.out).mono ?_); rintro e w2 ⟨rfl, v2, hW2, hb2⟩; replace hW2 := Aside0.mk hW2; replace hb2 := Aside0.mk hb2)
          | (go_at_call 14; (with_reducible refine (kfork.out w2 v2 hW2.out hb2.out).mono ?_); rintro e w3 ⟨⟨Bf, v3, rfl, hF3, hBf, hv3⟩, hbb⟩; (have hW3 := Aside0.mk (hW2.out.below hbb)); (have hb3 := Aside0.mk (below_then hb2.out hb2.out.size hbb)); have hx3 := hcx2.out w3 hb3.out; replace hF3 := Aside0.mk hF3; (have hne : Aside0 (w.heap.size ≠ Bf) := ⟨fun e => by have := blk_lt' hW2.out.box; omega⟩); (have hnv : Aside0 (∀ k, v2.ownBlock = some k → some k ≠ v3.ownBlock) := ⟨fun k hk e => by have h5 := hv3 k e.symm; have h6 := ((Kd.R_bound hW2.out.row).1 k hk).2.2.1; omega⟩); clear hbb hv3 hBf)
          | (go_at_call 13; (with_reducible refine (klen.out w3 Bf v3 L n hl.out hF3.out).mono ?_); rintro e w' ⟨rfl, hw⟩; subst w')
          | (go_at_call 10; (with_reducible refine (kcor.out w3 Bf v3 hF3.out hb3.out).mono ?_); rintro e w4 ⟨rfl, ⟨v4, hF4, hv4⟩, hb4, hfr4, _⟩; (have hW4 := Aside0.mk (Wi.keep hW3.out hF3.out hfr4 hne.out hnv.out)); replace hF4 := Aside0.mk hF4; replace hb4 := Aside0.mk hb4; (have hnv4 : Aside0 (∀ k, v4.ownBlock = some k → some k ≠ v2.ownBlock) := ⟨fun k hk e => hnv.out k e.symm (by rw [← hv4]; exact hk.symm)⟩); clear hfr4 hW3 hF3)
          | (go_at_call 11; (with_reducible refine (ktake.out w4 v2 hW4.out hb4.out).mono ?_); rintro e w5 ⟨⟨A5, c5, rfl, _⟩, ⟨v5, hW5, hv5⟩, hb5, hfr5, _⟩; (have hF5 := Aside0.mk (Wi.keep hF4.out hW4.out hfr5 (fun e => hne.out e.symm) hnv4.out)); replace hW5 := Aside0.mk hW5; replace hb5 := Aside0.mk hb5; clear hfr5 hW4 hF4)
          | (go_at_call 15; (with_reducible refine (kpeekW.out w5 v5 hW5.out).mono ?_); rintro e w6 ⟨⟨A6, c6, rfl, hc6, hC6⟩, hbb⟩; (have hb6 := Aside0.mk (below_then hb5.out hb5.out.size hbb)); replace hC6 := Aside0.mk hC6; replace hc6 := Aside0.mk hc6; (have hW6 := Aside0.mk (hW5.out.below hbb)); (have hF6 := Aside0.mk (hF5.out.below hbb)); clear hbb)
          | (go_at_call 15; (with_reducible refine (kpeekF.out w6 Bf v4 hF6.out).mono ?_); rintro e w7 ⟨⟨A7, c7, rfl, hc7, hC7⟩, hbb⟩; (have hb7 := Aside0.mk (below_then hb6.out hb6.out.size hbb)); replace hC7 := Aside0.mk hC7; replace hc7 := Aside0.mk hc7; (have hW7 := Aside0.mk (hW6.out.below hbb)); (have hF7 := Aside0.mk (hF6.out.below hbb)); (have hD7 := Aside0.mk (Kd.C_below hC6.out hbb)); clear hbb)
          | (go_at_call 7; go_loud (with_reducible refine (awake_c _).mono ?_); rintro e w8 ⟨rfl, hbb⟩; (have hb8 := Aside0.mk (below_then hb7.out hb7.out.size hbb)); (have hC8 := Aside0.mk (Kd.C_below hC7.out hbb)); (have hD8 := Aside0.mk (Kd.C_below hD7.out hbb)); (have hW8 := Aside0.mk (hW7.out.below hbb)); (have hF8 := Aside0.mk (hF7.out.below hbb)); (have hx9 := hcx2.out w8 hb8.out); clear hbb)
          | (go_at_call 12; (with_reducible refine (kbytesW.out w8 A6 c6 hc6.out hD8.out hb8.out).mono ?_); rintro e w9 ⟨rfl, hd⟩; (have hb9 := Aside0.mk (below_then hb8.out hb8.out.size hd.below)); (have hC9 := Aside0.mk (Kd.C_below hC8.out hd.below)); (have hW9 := Aside0.mk (hW8.out.below hd.below)); (have hF9 := Aside0.mk (hF8.out.below hd.below)); (have hx10 := hcx2.out w9 hb9.out); clear hd)
          | (go_at_call 12; (with_reducible refine (kbytesF.out w9 A7 c7 hc7.out hC9.out hb9.out).mono ?_); rintro e w10 ⟨rfl, hd⟩; (have hb10 := Aside0.mk (below_then hb9.out hb9.out.size hd.below)); (have hW10 := Aside0.mk (hW9.out.below hd.below)); (have hF10 := Aside0.mk (hF9.out.below hd.below)); clear hd)
          | (go_at_call 13; (with_reducible refine (klen.out w10 Bf v4 Lf n hLf.out hF10.out).mono ?_); rintro e w' ⟨rfl, hw⟩; subst w')
          | (go_at_call 13; (with_reducible refine (klen.out w10 w.heap.size v5 (L.eraseIdx t) t hel.out hW10.out).mono ?_); rintro e w' ⟨rfl, hw⟩; subst w')
          | fail)
        go_ret
        exact ⟨rfl, hb10.out⟩
end Go.Proofs.Ytmhncklpejchcaa.Wir
