/- The walk through WireOrder: it returns true and what lay in memory stays; for every list of rows of bytes that is read, every number and every byte. -/
import Derived.Test.YtmhncklpejchcaaAwake
namespace Go.Proofs.Ytmhncklpejchcaa.Wir
open Go Go.RowKit Go.Proofs.Ytmhncklpejchcaa.PWirePlays Go.Proofs.YtmhncklpejchcaaW.PrintWords Go.Proofs.YtmhncklpejchcaaW.PrintLast Go.Proofs.YtmhncklpejchcaaW.PrintMore
set_option linter.unusedVariables false
set_option linter.unusedSimpArgs false
/-- a byte of a row is turned -/
def turn (L : List (List Int)) (i a : Nat) (by_ : Int) : List (List Int) := L.set i ((L.getD i []).set a (bits .xor .u8 ((L.getD i []).getD a 0) by_))
theorem turn_len (L : List (List Int)) (i a : Nat) (by_ : Int) : (turn L i a by_).length = L.length := by simp [turn]
theorem turn_at (L : List (List Int)) (i a : Nat) (by_ : Int) (hi : i < L.length) : (turn L i a by_).getD i [] = (L.getD i []).set a (bits .xor .u8 ((L.getD i []).getD a 0) by_) := by
  simp [turn, List.getD_eq_getElem?_getD, List.getElem?_set_self hi]
theorem turn_twice (L : List (List Int)) (i a : Nat) (by_ : Int) (hi : i < L.length) (ha : a < (L.getD i []).length) (h0 : 0 ≤ (L.getD i []).getD a 0) (h1 : (L.getD i []).getD a 0 < 256) : turn (turn L i a by_) i a by_ = L := by
  have hx : (turn L i a by_).getD i [] = (L.getD i []).set a (bits .xor .u8 ((L.getD i []).getD a 0) by_) := turn_at L i a by_ hi
  have hy : ((turn L i a by_).getD i []).getD a 0 = bits .xor .u8 ((L.getD i []).getD a 0) by_ := by
    rw [hx, List.getD_eq_getElem?_getD, List.getElem?_set_self ha]
    rfl
  show (turn L i a by_).set i (((turn L i a by_).getD i []).set a (bits .xor .u8 (((turn L i a by_).getD i []).getD a 0) by_)) = L
  rw [hy, hx, xor_twice _ _ h0 h1, List.set_set]
  unfold turn
  rw [List.set_set]
  have h2 : (L.getD i []).set a ((L.getD i []).getD a 0) = L.getD i [] := by
    rw [List.getD_eq_getElem?_getD (l := L.getD i []), List.getElem?_eq_getElem ha]
    exact List.set_getElem_self ha
  rw [h2, List.getD_eq_getElem?_getD, List.getElem?_eq_getElem hi]
  exact List.set_getElem_self hi
theorem cor_c (i a : Nat) (by_ : Int) (B base : Nat) (v : Value) (L : List (List Int)) (w0 w : World) (h : Wi w B base v L) (HB : Below base w0 w) (hbase : base ≤ w.heap.size) (hi : i < L.length) (ha : a < (L.getD i []).length) (hL : L.length ≤ 100000) (hs : (L.getD i []).length ≤ 140737488351232) :
    Calls Try.prog 10 #[.pointer (some ⟨B, 0, none⟩), .int .i64 (i : Int), .int .i64 (a : Int), .int .u8 by_] w fun e w' => e = .returned (.int .i64 0) ∧ (∃ v', Wi w' B base v' (turn L i a by_) ∧ v'.ownBlock = v.ownBlock) ∧ Below base w0 w' ∧ Fr w w' B v ∧ w.heap.size ≤ w'.heap.size := by
  have hg : L.getD i [] = L[i] := by rw [List.getD_eq_getElem?_getD, List.getElem?_eq_getElem hi]; rfl
  unfold turn
  rw [hg] at ha hs ⊢
  have hg2 : (L[i]).getD a 0 = L[i][a] := by rw [List.getD_eq_getElem?_getD, List.getElem?_eq_getElem ha]; rfl
  rw [hg2]
  exact corrupt_c i a by_ B base v L w0 w h HB hbase hi ha hL hs
theorem rem_u (a m : Int) (hm : 0 < m) (hm2 : m ≤ 1000000) : ∃ r : Nat, wrap64 ((IntKind.u64.wrap a).tmod (IntKind.u64.wrap m)) = (r : Int) ∧ wrap64 ((IntKind.u64.wrap a).tmod m) = (r : Int) ∧ (r : Int) < m := by
  have hu : 0 ≤ IntKind.u64.wrap a := by rw [IntKind.wrap_u64]; omega
  have hmm : IntKind.u64.wrap m = m := by rw [IntKind.wrap_u64]; omega
  have h0 : 0 ≤ (IntKind.u64.wrap a).tmod m := Int.tmod_nonneg m hu
  have h1 : (IntKind.u64.wrap a).tmod m < m := Int.tmod_lt_of_pos _ hm
  rw [hmm]
  have h2 : wrap64 ((IntKind.u64.wrap a).tmod m) = (IntKind.u64.wrap a).tmod m := by unfold wrap64; omega
  rw [h2]
  exact ⟨((IntKind.u64.wrap a).tmod m).toNat, by omega, by omega, by omega⟩
set_option maxRecDepth 100000 in
set_option maxHeartbeats 8000000 in
theorem order_walk (A : Option Addr) (n cap : Nat) (L : List (List Int)) (at_ by_ : Int) (w : World) (HC : Kd.C kbs w A n L) (hn : n ≤ maxLen) (hcap : n ≤ cap) (hs : ∀ x ∈ L, x.length ≤ 140737488351232) (hr : ∀ x ∈ L, ∀ z ∈ x, 0 ≤ z ∧ z < 256) :
    Calls Try.prog 3 #[.slice A n cap, .int .i64 at_, .int .u8 by_] w fun e w' => e = .returned (.bool true) ∧ Below w.heap.size w w' := by
  unfold maxLen at hn
  have hl : L.length = n := HC.1
  by_cases hbig : 30 < n
  · have h1 : (30 : Int) < (n : Int) := by omega
    clear hs hr
    replace HC := Aside0.mk HC
    replace hl := Aside0.mk hl
    go_enter Try.func3, Try.ntmps3
    go_wp2_with (first
      | (go_at_call 7; (with_reducible refine (awake_c _).mono ?_); rintro e w2 ⟨rfl, hb2⟩; replace hb2 := Aside0.mk hb2)
      | fail)
    go_ret
    exact ⟨rfl, hb2.out⟩
  · have h1 : (n : Int) ≤ 30 := by omega
    replace HC := Aside0.mk HC
    replace hl := Aside0.mk hl
    replace hs := Aside0.mk hs
    replace hr := Aside0.mk hr
    have kn := Aside0.mk (new_c w)
    have kp1 : Aside0 (∀ W : World, Wi W w.heap.size w.heap.size (.slice none 0 0) [] → Below w.heap.size w W → Calls Try.prog 9 #[.pointer (some ⟨w.heap.size, 0, none⟩), .slice A n cap] W fun e w' => e = .returned (.int .i64 (n : Int)) ∧ ∃ v', Wi w' w.heap.size w.heap.size v' L ∧ Below w.heap.size w w') := ⟨fun W hW hB => by
      refine (push_c w.heap.size w.heap.size (.slice none 0 0) [] L A n cap w W (by omega) (by simp) hW hB hB.size hcap (fun W' _ hB' _ => Kd.C_below HC.out hB') hs.out).mono ?_
      rintro e w' ⟨he, v', hW', _, hB', _⟩
      rw [show min n (4000 - ([] : List (List Int)).length) = n by simp; omega] at he hW'
      rw [List.nil_append, List.take_of_length_le (by rw [hl.out]; exact Nat.le_refl _)] at hW'
      exact ⟨he, v', hW', hB'⟩⟩
    have kp2 : Aside0 (∀ (W : World) (v : Value), Wi W w.heap.size w.heap.size v L → Below w.heap.size w W → Calls Try.prog 9 #[.pointer (some ⟨w.heap.size, 0, none⟩), .slice none 0 0] W fun e w' => e = .returned (.int .i64 0) ∧ ∃ v', Wi w' w.heap.size w.heap.size v' L ∧ Below w.heap.size w w') := ⟨fun W v hW hB => by
      refine (push_c w.heap.size w.heap.size v L [] none 0 0 w W (by omega) (by rw [hl.out]; omega) hW hB hB.size (by omega) (fun W' _ hB' _ => Kd.C_nil _ _) (fun x hx => by simp at hx)).mono ?_
      rintro e w' ⟨he, v', hW', _, hB', _⟩
      rw [show min 0 (4000 - L.length) = 0 by simp] at he hW'
      rw [List.take_nil, List.append_nil] at hW'
      exact ⟨he, v', hW', hB'⟩⟩
    go_enter Try.func3, Try.ntmps3
    go_wp2_with (first
      | (go_at_call 8; (with_reducible refine kn.out.mono ?_); rintro e w1 ⟨rfl, hW, hb⟩; replace hW := Aside0.mk hW; replace hb := Aside0.mk hb)
      | (go_at_call 7; go_loud (with_reducible refine (awake_c _).mono ?_); rintro e w2 ⟨rfl, hb2⟩; (have hW2 := Aside0.mk (hW.out.below hb2)); (have HB2 := Aside0.mk (below_then hb.out hb.out.size hb2)); clear hb2)
      | (go_at_call 9; (with_reducible refine (kp1.out w2 hW2.out HB2.out).mono ?_); rintro e w3 ⟨rfl, v3, hW3, hb3⟩; replace hW3 := Aside0.mk hW3; replace hb3 := Aside0.mk hb3)
      | (go_at_call 9; (with_reducible refine (kp2.out w3 v3 hW3.out hb3.out).mono ?_); rintro e w4 ⟨rfl, v4, hW4, hb4⟩; replace hW4 := Aside0.mk hW4; replace hb4 := Aside0.mk hb4)
      | fail)
    go_loopw [8] (fun i wr => ∃ (k : Nat) (v : Value), k ≤ n ∧ i = .int .i64 k ∧ Aside0 (Wi wr w.heap.size w.heap.size v L) ∧ Aside0 (Below w.heap.size w wr) ∧ Aside0 (∀ j, j < k → (L.getD j []).length ≤ 50)) (fun i _ => n - (intOf i).toNat)
    case atStart => exact ⟨0, v4, Nat.zero_le _, rfl, hW4, hb4, ⟨fun j hj => absurd hj (Nat.not_lt_zero _)⟩⟩
    case round =>
      clear hW4 hb4 kn kp1 kp2 hW hb hW2 HB2 hW3 hb3
      obtain ⟨k, v, hk, rfl, hW, HB, hsm⟩ := hrel
      by_cases hkn : k < n
      · obtain ⟨ad, A1, c1, e1, hx, hx1, hx2⟩ := at_L1 (Kd.C_below HC.out HB.out) (k : Int) (by omega) (by omega)
        rw [Int.toNat_natCast] at hx
        subst e1
        have hlk : k < L.length := by rw [hl.out]; exact hkn
        have hmem : L.getD k [] ∈ L := by
          rw [List.getD_eq_getElem?_getD, List.getElem?_eq_getElem hlk]
          exact List.getElem_mem hlk
        have hrd : rd_L1 L (k : Int) = L.getD k [] := by simp [rd_L1]
        rw [hrd] at hx hx1 hx2
        have hxs := hs.out _ hmem
        have hxr := hr.out _ hmem
        have b0 : (0 : Int) ≤ (k : Int) := by omega
        have b1 : (k : Int) < (n : Int) := by omega
        obtain ⟨m, hm⟩ : ∃ m, m = (L.getD k []).length := ⟨_, rfl⟩
        rw [← hm] at hx hx1
        clear hrd hmem hx1 hx2
        replace hlk := Aside0.mk hlk
        replace hxs := Aside0.mk hxs
        replace hxr := Aside0.mk hxr
        replace hm := Aside0.mk hm
        by_cases h50 : 50 < m
        · have z1 : (50 : Int) < (m : Int) := by omega
          go_wp2_with fail
          go_ret
          exact ⟨rfl, HB.out⟩
        · have z1 : (m : Int) ≤ 50 := by omega
          have hsm2 : Aside0 (∀ j, j < k + 1 → (L.getD j []).length ≤ 50) := ⟨fun j hj => by
            by_cases hjk : j = k
            · subst hjk
              have := hm.out
              omega
            · exact hsm.out j (by omega)⟩
          by_cases h0 : m = 0
          · subst h0
            go_wp2_with fail
            go_roundw
            case rel => exact ⟨k + 1, v, by omega, by go_num, hW, HB, hsm2⟩
            case measure => simp [intOf]; omega
          · have z2 : (0 : Int) < (m : Int) := by omega
            obtain ⟨r, hr1, hr2, hr3⟩ := rem_u at_ (m : Int) (by omega) (by omega)
            have ha : r < (L.getD k []).length := by rw [← hm.out]; omega
            have hg2 : (L.getD k []).getD r 0 ∈ L.getD k [] := by
              rw [List.getD_eq_getElem?_getD (l := L.getD k []), List.getElem?_eq_getElem ha]
              exact List.getElem_mem ha
            have kc1 := Aside0.mk (fun W vv (hh : Wi W w.heap.size w.heap.size vv L) hB => cor_c k r by_ w.heap.size w.heap.size vv L w W hh hB hB.size hlk.out ha (by rw [hl.out]; omega) hxs.out)
            have ha2 : r < ((turn L k r by_).getD k []).length := by
              rw [turn_at L k r by_ hlk.out, List.length_set]
              exact ha
            have kc2 := (fun W vv (hh : Wi W w.heap.size w.heap.size vv (turn L k r by_)) hB => cor_c k r by_ w.heap.size w.heap.size vv (turn L k r by_) w W hh hB hB.size (by rw [turn_len]; exact hlk.out) ha2 (by rw [turn_len, hl.out]; omega) (by rw [turn_at L k r by_ hlk.out, List.length_set]; exact hxs.out))
            rw [turn_twice L k r by_ hlk.out ha (hxr.out _ hg2).1 (hxr.out _ hg2).2] at kc2
            replace kc2 := Aside0.mk kc2
            replace ha := Aside0.mk ha
            replace ha2 := Aside0.mk ha2
            replace hg2 := Aside0.mk hg2
            have hz : Aside0 (L.length = n) := hl
            go_wp2_with (first
              | (go_at_call 10; (with_reducible refine (kc1.out wr v hW.out HB.out).mono ?_); rintro e w5 ⟨rfl, ⟨v5, hW5, _⟩, hb5, _⟩; replace hW5 := Aside0.mk hW5; replace hb5 := Aside0.mk hb5)
              | (go_at_call 10; (with_reducible refine (kc2.out w5 v5 hW5.out hb5.out).mono ?_); rintro e w6 ⟨rfl, ⟨v6, hW6, _⟩, hb6, _⟩; replace hW6 := Aside0.mk hW6; replace hb6 := Aside0.mk hb6)
              | fail)
            go_roundw
            case rel => exact ⟨k + 1, v6, by omega, by go_num, hW6, hb6, hsm2⟩
            case measure => simp [intOf]; omega
      · have hkk : k = n := by omega
        subst hkk
        go_wp2_with fail
        go_loopw [10] (fun i wr => ∃ (j : Nat) (v : Value), j ≤ k ∧ i = .int .i64 j ∧ Aside0 (Wi wr w.heap.size w.heap.size v (L.drop j)) ∧ Aside0 (Below w.heap.size w wr)) (fun i _ => k - (intOf i).toNat)
        case atStart => exact ⟨0, v, Nat.zero_le _, rfl, ⟨by rw [List.drop_zero]; exact hW.out⟩, HB⟩
        case round =>
          clear hW HB
          obtain ⟨j, v, hj, rfl, hW, HB⟩ := hrel
          by_cases hjk : j < k
          · obtain ⟨ad, A1, c1, e1, hx, hx1, hx2⟩ := at_L1 HC.out (j : Int) (by omega) (by omega)
            have hcell := fun (W : World) (hB : Below w.heap.size w W) => at_L1 (Kd.C_below HC.out hB) (j : Int) (by omega) (by omega)
            rw [Int.toNat_natCast] at hx
            subst e1
            have hlj : j < L.length := by rw [hl.out]; exact hjk
            have hgd : L.getD j [] = L[j] := by rw [List.getD_eq_getElem?_getD, List.getElem?_eq_getElem hlj]; rfl
            have hrd : rd_L1 L (j : Int) = L[j] := getAt L j hlj
            have hmem : L[j] ∈ L := List.getElem_mem hlj
            have hxs := hs.out _ hmem
            have hne : 0 < (L.drop j).length := by rw [List.length_drop]; omega
            have hd0 : (L.drop j)[0] = L[j] := by rw [List.getElem_drop]; simp
            have hde : (L.drop j).eraseIdx 0 = L.drop (j + 1) := by rw [List.eraseIdx_zero, List.tail_drop]
            have kt := fun W vv (hh : Wi W w.heap.size w.heap.size vv (L.drop j)) hB => take_c 0 w.heap.size w.heap.size vv (L.drop j) w W hh hB hB.size hne (by rw [List.length_drop, hl.out]; omega) (by rw [hd0]; exact hxs)
            simp only [hd0, hde, show ((0 : Nat) : Int) = 0 from rfl] at kt
            rw [hrd] at hx hx1 hx2
            simp only [hrd, Int.toNat_natCast] at hcell
            clear hrd hmem hgd hd0
            generalize L[j] = xs at *
            replace kt := Aside0.mk kt
            replace hxs := Aside0.mk hxs
            replace hcell := Aside0.mk hcell
            replace hx2 := Aside0.mk hx2
            replace hx1 := Aside0.mk hx1
            have b0 : (0 : Int) ≤ (j : Int) := by omega
            have b1 : (j : Int) < (k : Int) := by omega
            have hcx : Aside0 (∀ W : World, Below w.heap.size w W → W.cell? (ad.add j) = some (.slice A1 xs.length c1)) := ⟨fun W hB => by
              have hadl : ad.block < w.heap.size := by
                rcases Nat.lt_or_ge ad.block w.heap.size with h | h
                · exact h
                · have h2 := hx
                  unfold World.cell? at h2
                  rw [add_block] at h2
                  rw [Array.getElem?_eq_none h] at h2
                  simp at h2
              exact (World.cell?_of_block (by rw [add_block]; exact hB.block _ hadl)).trans hx⟩
            clear hne hlj
            go_wp2_with (first
              | (go_at_call 11; (with_reducible refine (kt.out wr v hW.out HB.out).mono ?_); rintro e w7 ⟨⟨A7, c7, rfl, hc7, hC7⟩, ⟨v7, hW7, _⟩, hb7, _⟩; have hx7 := hcx.out w7 hb7; replace hW7 := Aside0.mk hW7; replace hb7 := Aside0.mk hb7; replace hC7 := Aside0.mk hC7; replace hc7 := Aside0.mk hc7)
              | (go_at_call 12; go_loud (refine (bytes_c A7 c7 xs A1 c1 xs w7 hC7.out hc7.out (Kd.C_below hx2.out hb7.out) hx1.out).mono ?_); rw [beq_self_eq_true]; rintro e w8 ⟨rfl, ⟨q8, rfl⟩⟩; (have hW8 := Aside0.mk (hW7.out.below (pw_below_drewN (Below.refl _ _) q8))); (have hb8 := Aside0.mk (pw_below_drewN hb7.out q8)))
              | fail)
            go_roundw
            case rel => exact ⟨j + 1, v7, by omega, by go_num, hW8, hb8⟩
            case measure => simp [intOf]; omega
          · have hjk2 : j = k := by omega
            subst hjk2
            have hd : L.drop j = [] := List.drop_eq_nil_of_le (by rw [hl.out]; exact Nat.le_refl _)
            have hW9 := hW.out
            rw [hd] at hW9
            have kl : Calls Try.prog 13 #[.pointer (some ⟨w.heap.size, 0, none⟩)] wr fun e w' => e = .returned (.int .i64 0) ∧ w' = wr := len_c w.heap.size w.heap.size v [] wr hW9
            replace kl := Aside0.mk kl
            clear hd hW9
            go_wp2_with (first
              | (go_at_call 13; (with_reducible refine kl.out.mono ?_); rintro e w' ⟨rfl, hw⟩; subst w')
              | fail)
            go_ret
            exact ⟨rfl, HB.out⟩
end Go.Proofs.Ytmhncklpejchcaa.Wir
