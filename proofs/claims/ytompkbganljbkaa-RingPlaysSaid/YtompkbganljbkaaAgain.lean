/- The walk through RingAgain. -/
import Derived.Test.YtompkbganljbkaaPutIn
import Derived.Test.YtompkbganljbkaaFrames
import Derived.Test.YtompkbganljbkaaNils
namespace Go.Proofs.Ytompkbganljbkaa.Rin
open Go Go.RowKit Go.Proofs.Ytompkbganljbkaa.PRingPlays Go.Proofs.YtompkbganljbkaaW.PrintWords Go.Proofs.YtompkbganljbkaaW.PrintLast Go.Proofs.YtompkbganljbkaaW.PrintMore
set_option linter.unusedVariables false
set_option linter.unusedSimpArgs false
set_option maxRecDepth 100000 in
set_option maxHeartbeats 4000000 in
/-- none goes -/
theorem cut0_c (f : Int) (B S base size : Nat) (v : Value) (f0 : Int) (F : List S29) (w0 w : World) (h : Rg w B S base v size f0 F) (HB : Below base w0 w) (hbase : base ≤ w.heap.size) (hF : F.length ≤ 100000) (hlo : ∀ k : Nat, k < F.length → f0 + (k : Int) ≤ f) :
    Calls Try.prog 14 #[.pointer (some ⟨B, 0, none⟩), .int .i64 f] w fun e w' => e = .returned (.tuple #[]) ∧ Rg w' B S base v size f0 F ∧ Below base w0 w' := by
  have hBw := Aside0.mk ((Below.refl w.heap.size w).alloc (Nat.le_refl _) (.cells #[.int .i64 f] 3))
  have e0 := heap_alloc_new w (.cells #[.int .i64 f] 3)
  have h1 : Rg (w.alloc (.cells #[.int .i64 f] 3)) B S base v size f0 F := h.below hBw.out
  have k1 := Aside0.mk (has_c B S base size v f0 F _ h1)
  have hne := Aside0.mk h.ne
  obtain ⟨A, c, rfl, hl, hC⟩ := h1.slice
  have kd := Aside0.mk (delf0_c f A F.length c w.heap.size F (w.alloc (.cells #[.int .i64 f] 3)) hF hC e0
    (fun k hk => by rw [rd29 F k (by omega), h.con k F[k] (List.getElem?_eq_getElem _)]; exact hlo k hk))
  obtain ⟨q0, q1, q2⟩ := h1.cells
  have hst := Aside0.mk h1.st
  have hR1 := Aside0.mk h1
  replace HB := Aside0.mk (HB.alloc hbase (.cells #[.int .i64 f] 3))
  replace h := Aside0.mk h
  have hbs : Aside0 (base ≤ (w.alloc (.cells #[.int .i64 f] 3)).heap.size) := ⟨Nat.le_trans hbase hBw.out.size⟩
  clear h1 hC e0 hl hlo
  go_enter Try.func14, Try.ntmps14
  go_wp2_with (first
    | (go_at_call 26; (with_reducible refine k1.out.mono ?_); rintro e w' ⟨rfl, hw⟩; subst w')
    | (go_at_call 31; (with_reducible refine kd.out.mono ?_); rintro e w1 ⟨rfl, hb1⟩; have hR2 := hR1.out.below hb1; have r0 := hR2.cells.2.2; have g0 : w1.frozen? ⟨S, 0, none⟩ = false := (by simp [World.frozen?, hR2.st]); replace hR2 := Aside0.mk hR2; replace hb1 := Aside0.mk hb1)
    | fail)
  go_end0
  refine ⟨rfl, ⟨?_, ?_, Kd.R_set hR2.out.row hR2.out.st (fun q hq => (types52 q hq).2) 0 _, h.out.hb, h.out.hs, h.out.con⟩, (below_then HB.out hbs.out hb1.out).setCell (p := ⟨S, 0, none⟩) h.out.hs _⟩
  · exact blk_far hR2.out.box (p := ⟨S, 0, none⟩) hne.out.2.2 _
  · have := blk_set hR2.out.st 0 (.slice A F.length c)
    simpa using this
set_option maxRecDepth 100000 in
set_option maxHeartbeats 8000000 in
theorem again_walk (n0 at0 cut0 : Int) (A : Option Addr) (n c : Nat) (l : List S36) (w : World) (HC : Kd.C k36 w A n l) (hn : n ≤ maxLen) :
    Calls Try.prog 4 #[.int .i64 n0, .int .i64 at0, .int .i64 cut0, .slice A n c] w fun e w' => e = .returned (.bool true) ∧ Below w.heap.size w w' := by
  replace HC := Aside0.mk HC
  by_cases hbig : 20 < n
  · have z1 : (20 : Int) < (n : Int) := by omega
    go_enter Try.func4, Try.ntmps4
    go_wp2_with (first
      | (go_at_call 8; (with_reducible refine (awake_c _).mono ?_); rintro e w2 ⟨rfl, hb⟩; replace hb := Aside0.mk hb)
      | fail)
    go_ret
    exact ⟨rfl, hb.out⟩
  · have z1 : ¬ ((20 : Int) < (n : Int)) := by omega
    obtain ⟨q', hq, hq1⟩ := rest n0 20 (by omega) (by omega)
    obtain ⟨q, hqq⟩ : ∃ q, q = 2 + q' := ⟨_, rfl⟩
    have hq2 : wrap64 (2 + (q' : Int)) = (q : Int) := by unfold wrap64; omega
    have hu : IntKind.u64.wrap (q : Int) = (q : Int) := by rw [IntKind.wrap_u64]; omega
    obtain ⟨a, ha, ha1⟩ := rest at0 (q : Int) (by omega) (by omega)
    obtain ⟨u, hcu, hu1⟩ := rest cut0 (q : Int) (by omega) (by omega)
    have hqa : Aside0 (2 ≤ q ∧ q ≤ 21 ∧ a < q ∧ u < q) := ⟨by omega⟩
    clear hqq hq1 ha1 hu1
    have hz1 : ¬ ((q : Int) = 0) := by have := hqa.out; omega
    go_enter Try.func4, Try.ntmps4
    go_wp2_with fail
    go_quiet (fail)
    rw [ha, hcu]
    have hd := Aside0.mk (pw_below_drewN (Below.refl w.heap.size w) nq)
    have HC1 := Aside0.mk (Kd.C_below HC.out hd.out)
    clear ha hcu hu hq hq2 hz1 HC z1
    generalize w.drewN nq = W1 at *
    go_wp2_with (first
      | (go_at_call 7; (with_reducible refine (new_c 32 32 (by omega) _).mono ?_); rintro e w1 ⟨⟨B, S, rfl, hR⟩, hb⟩; have hR1 := Aside0.mk hR; have hb1 := Aside0.mk hb; clear hR hb)
      | fail)
    go_loopw [10] (fun i wr => ∃ (k : Nat) (v : Value) (F : List S29), k ≤ q ∧ i = .int .i64 k ∧ Aside0 (Rg wr B S W1.heap.size v 32 0 F) ∧ Aside0 (F.length = k ∧ ∀ x ∈ F, x.f1 = []) ∧ Aside0 (Below W1.heap.size W1 wr)) (fun i _ => q - (intOf i).toNat)
    case atStart => exact ⟨0, _, _, Nat.zero_le _, rfl, ⟨hR1.out _⟩, ⟨by simp, fun x hx => by simp at hx⟩, hb1⟩
    case round =>
      clear hR1 hb1
      obtain ⟨k, v, F, hk, rfl, hR, hF, hb⟩ := hrel
      by_cases hkq : k < q
      · have z2 : (k : Int) < (q : Int) := by omega
        have hq21 : q ≤ 21 := by have := hqa.out; omega
        have kp := put_c (k : Int) none 0 0 [] B S W1.heap.size 32 v 0 F W1 wr hR.out hb.out hb.out.size (by omega) (by omega) (by rw [hF.out.1]; have := hqa.out; omega) (by rw [hF.out.1]; omega) (fun W' _ _ => C_none W1 W') (by omega)
        have hl2 := nxt_len 32 F ⟨(k : Int), []⟩ (by rw [hF.out.1]; have := hqa.out; omega) (by omega)
        have ha2 := Aside0.mk (nxt_all 32 F ⟨(k : Int), []⟩ hF.out.2 rfl)
        have hf2 : nf0 32 0 F = 0 := by
          unfold nf0
          have h1 := hF.out.1
          have := hqa.out
          rw [if_neg (by omega)]
        rw [hf2] at kp
        replace hl2 : Aside0 ((nxt 32 F ⟨(k : Int), []⟩).length = k + 1) := ⟨by rw [hl2, hF.out.1]; have := hqa.out; omega⟩
        generalize nxt 32 F ⟨(k : Int), []⟩ = F2 at *
        replace kp := Aside0.mk kp
        clear hf2
        go_wp2_with (first
          | (go_at_call 9; (with_reducible refine kp.out.mono ?_); rintro e w3 ⟨rfl, ⟨v3, hR3, _⟩, hb3, _⟩; replace hR3 := Aside0.mk hR3; replace hb3 := Aside0.mk hb3)
          | fail)
        go_roundw
        case rel => exact ⟨k + 1, v3, F2, by omega, by go_num, hR3, ⟨hl2.out, ha2.out⟩, hb3⟩
        case measure => simp [intOf]; omega
      · have hkk : k = q := by omega
        subst hkk
        have z2 : ¬ ((k : Int) < (k : Int)) := by omega
        clear hkq hk
        have kpi : Aside0 (∀ w2, Below wr.heap.size wr w2 → Calls Try.prog 9 #[.pointer (some ⟨B, 0, none⟩), .agg #[.int .i64 (a : Int), .slice A n c]] w2 fun e w' => e = .returned (.bool true) ∧ ∃ v', Rg w' B S W1.heap.size v' 32 0 (F.set a ⟨(a : Int), l⟩) ∧ Below W1.heap.size W1 w') := ⟨fun w2 h2 => by
          have hb2 := below_then hb.out hb.out.size h2
          refine (putIn_c (a : Int) A n c l B S W1.heap.size 32 v 0 F W1 w2 (hR.out.below h2) hb2 hb2.size (by omega) (by rw [hF.out.1]; have := hqa.out; omega) a (by rw [hF.out.1]; have := hqa.out; omega) (by omega) (fun W' hs hFr => C36_move HC1.out (fun b hbl => ?_)) (by omega)).mono fun e w' ⟨he, ⟨v', h3, _⟩, h4, _⟩ => ⟨he, v', h3, h4⟩
          have hB := hR.out.hb
          have hS := hR.out.hs
          exact (hFr b (Nat.lt_of_lt_of_le hbl hb2.size) (by omega) (by omega) (fun e => by have := Kd.R_base hR.out.row b e.symm; omega)).trans (hb2.block b hbl)⟩
        have hF3 : Aside0 ((F.set a ⟨(a : Int), l⟩).length = k ∧ ∀ (j : Nat) (hj : j < (F.set a ⟨(a : Int), l⟩).length), (F.set a ⟨(a : Int), l⟩)[j].f1 = if j = a then l else []) := ⟨by
          refine ⟨by rw [List.length_set]; exact hF.out.1, fun j hj => ?_⟩
          rw [List.getElem_set]
          by_cases e : a = j
          · rw [if_pos e, if_pos e.symm]
          · rw [if_neg e, if_neg (fun h => e h.symm)]
            exact hF.out.2 _ (List.getElem_mem _)⟩
        generalize F.set a ⟨(a : Int), l⟩ = F3 at *
        go_wp2_with (first
          | (go_at_call 8; (with_reducible refine (awake_c _).mono ?_); rintro e w2 ⟨rfl, hb2⟩; replace hb2 := Aside0.mk hb2)
          | (go_at_call 9; (with_reducible refine (kpi.out _ hb2.out).mono ?_); rintro e w3 ⟨rfl, v3, hR3, hb3⟩; replace hR3 := Aside0.mk hR3; replace hb3 := Aside0.mk hb3)
          | fail)
        clear hR hb hb2 kpi hF
        have hl := Aside0.mk HC1.out.1
        go_loopw [11] (fun i wr => ∃ (j : Nat), j ≤ k ∧ i = .int .i64 j ∧ Aside0 (Rg wr B S W1.heap.size v3 32 0 F3) ∧ Aside0 (Below W1.heap.size W1 wr)) (fun i _ => k - (intOf i).toNat)
        case atStart => exact ⟨0, Nat.zero_le _, rfl, hR3, hb3⟩
        case round =>
          clear hR3 hb3
          obtain ⟨j, hj, rfl, hR, hb⟩ := hrel
          by_cases hjk : j < k
          · have hq21 : k ≤ 21 := by have := hqa.out; omega
            have z2 : (j : Int) < (k : Int) := by omega
            have hjl : j < F3.length := by rw [hF3.out.1]; exact hjk
            have hf1 := hF3.out.2 j hjl
            have kg := getIn_c (j : Int) B S W1.heap.size 32 v3 0 F3 wr hR.out (by omega) (by rw [hF3.out.1]; omega) j hjl (by omega) (by rw [hf1]; split; (rw [hl.out]; omega); simp)
            by_cases hja : j = a
            · subst hja
              rw [if_pos rfl] at hf1
              generalize F3[j].f1 = y at kg hf1
              subst hf1
              rw [hl.out] at kg
              replace kg := Aside0.mk kg
              have zc : ((j : Int) == (j : Int)) = true := by simp
              go_wp2_with (first
                | (go_at_call 10; (with_reducible refine kg.out.mono ?_); rintro e w4 ⟨⟨A', c', rfl, hY⟩, hbb⟩; (have hR4 := Aside0.mk (hR.out.below hbb)); (have hb4 := Aside0.mk (below_then hb.out hb.out.size hbb)); (have hC4 := Aside0.mk ((Kd.R_reads' hY).2.2)); clear hbb)
                | (go_at_call 13; (refine (plain_c A' A n c' c y _ (Kd.C_below (hl.out ▸ hC4.out) ((Below.refl _ _).alloc (Nat.le_refl _) _)) (Kd.C_below HC1.out (hb4.out.alloc hb4.out.size _)) (by omega)).mono ?_); rintro e w5 ⟨rfl, hbb⟩; (have hR5 := Aside0.mk (hR4.out.below (below_then ((Below.refl _ _).alloc (Nat.le_refl _) _) (by simp) hbb))); (have hb5 := Aside0.mk (below_then (hb4.out.alloc hb4.out.size _) (hb4.out.alloc hb4.out.size _).size hbb)); clear hbb)
                | fail)
              go_roundw
              case rel => exact ⟨j + 1, by omega, by go_num, hR5, hb5⟩
              case measure => simp [intOf]; omega
            · rw [if_neg hja] at hf1
              generalize F3[j].f1 = y at kg hf1
              subst hf1
              replace kg := Aside0.mk kg
              have zc : ((j : Int) == (a : Int)) = false := beq_eq_false_iff_ne.2 (by omega)
              go_wp2_with (first
                | (go_at_call 10; (with_reducible refine kg.out.mono ?_); rintro e w4 ⟨⟨A', c', rfl, hY⟩, hbb⟩; (have hR4 := Aside0.mk (hR.out.below hbb)); (have hb4 := Aside0.mk (below_then hb.out hb.out.size hbb)); clear hbb)
                | fail)
              go_roundw
              case rel => exact ⟨j + 1, by omega, by go_num, ⟨hR4.out.below ((Below.refl _ _).alloc (Nat.le_refl _) _)⟩, ⟨hb4.out.alloc hb4.out.size _⟩⟩
              case measure => simp [intOf]; omega
          · have hjk2 : j = k := by omega
            subst hjk2
            have z2 : ¬ ((j : Int) < (j : Int)) := by omega
            have hu : u < j ∧ j ≤ 21 := by have := hqa.out; omega
            have kc : Aside0 (Calls Try.prog 14 #[.pointer (some ⟨B, 0, none⟩), .int .i64 (u : Int)] wr fun e w' => e = .returned (.tuple #[]) ∧ ∃ v' F4, Rg w' B S W1.heap.size v' 32 0 F4 ∧ F4.length = u + 1 ∧ Below W1.heap.size W1 w') := ⟨by
              have h3 := hF3.out.1
              by_cases hc : u + 1 < j
              · exact (cut_c (u : Int) B S W1.heap.size 32 v3 0 F3 W1 wr hR.out hb.out hb.out.size (by omega) (u + 1) (by omega) (fun k' hk' => by omega) (by omega)).mono fun e w' ⟨he, ⟨v', h1, _⟩, h2, _⟩ => ⟨he, v', _, h1, by rw [List.length_take]; omega, h2⟩
              · exact (cut0_c (u : Int) B S W1.heap.size 32 v3 0 F3 W1 wr hR.out hb.out hb.out.size (by omega) (fun k' hk' => by omega)).mono fun e w' ⟨he, h1, h2⟩ => ⟨he, v3, F3, h1, by omega, h2⟩⟩
            have kg6 : Aside0 (∀ (W : World) (v : Value) (F : List S29), Rg W B S W1.heap.size v 32 0 F → F.length = u + 1 → Calls Try.prog 10 #[.pointer (some ⟨B, 0, none⟩), .int .i64 ((u : Int) + 1)] W fun e w' => e = .returned (.tuple #[.agg #[.int .i64 0, .slice none 0 0], .bool false]) ∧ Below W.heap.size W w') := ⟨fun W v F h hl4 =>
              getOut_c _ _ W (fun W' hB => atHigh_c _ B S W1.heap.size 32 v 0 F W' (h.below hB) (by omega) (by omega) (by omega) (by omega))⟩
            have kl6 : Aside0 (∀ (W : World) (v : Value) (F : List S29), Rg W B S W1.heap.size v 32 0 F → F.length = u + 1 → Calls Try.prog 11 #[.pointer (some ⟨B, 0, none⟩)] W fun e w' => e = .returned (.int .i64 (u : Int)) ∧ Drawn0 W w') := ⟨fun W v F h hl4 => by
              have h1 := last_c B S W1.heap.size 32 v 0 F W h (by omega) (by omega)
              have h2 : lst 0 F = (u : Int) := by unfold lst; rw [if_neg (by omega)]; omega
              rw [h2] at h1
              exact h1⟩
            have kf6 : Aside0 (∀ (W : World) (v : Value) (F : List S29), Rg W B S W1.heap.size v 32 0 F → F.length = u + 1 → Calls Try.prog 9 #[.pointer (some ⟨B, 0, none⟩), .agg #[.int .i64 ((u : Int) + 2), .slice none 0 0]] W fun e w' => e = .returned (.bool false) ∧ Below W.heap.size W w') := ⟨fun W v F h hl4 =>
              putFar_c _ none 0 0 B S W1.heap.size 32 v 0 F W h (by omega) (by omega) (by omega) (by omega) (by omega)⟩
            have kn6 : Aside0 (∀ (W : World) (v : Value) (F : List S29), Rg W B S W1.heap.size v 32 0 F → F.length = u + 1 → Below W1.heap.size W1 W → Calls Try.prog 9 #[.pointer (some ⟨B, 0, none⟩), .agg #[.int .i64 ((u : Int) + 1), .slice none 0 0]] W fun e w' => e = .returned (.bool true) ∧ Below W1.heap.size W1 w') := ⟨fun W v F h hl4 hB =>
              (put_c _ none 0 0 [] B S W1.heap.size 32 v 0 F W1 W h hB hB.size (by omega) (by omega) (by omega) (by omega) (fun W' _ _ => C_none W1 W') (by omega)).mono fun e w' ⟨he, _, h2, _⟩ => ⟨he, h2⟩⟩
            have zw1 : wrap64 ((u : Int) + 1) = (u : Int) + 1 := by unfold wrap64; omega
            have zw2 : wrap64 ((u : Int) + 2) = (u : Int) + 2 := by unfold wrap64; omega
            have zc : ((u : Int) == (u : Int)) = true := by simp
            clear hu
            go_wp2_with (first
              | (go_at_call 14; (with_reducible refine kc.out.mono ?_); rintro e w5 ⟨rfl, v5, F5, hR5, hl5, hb5⟩; replace hR5 := Aside0.mk hR5; replace hl5 := Aside0.mk hl5; replace hb5 := Aside0.mk hb5)
              | (go_at_call 10; (with_reducible refine (kg6.out _ _ _ hR5.out hl5.out).mono ?_); rintro e w6 ⟨rfl, hbb⟩; (have hR6 := Aside0.mk (hR5.out.below hbb)); (have hb6 := Aside0.mk (below_then hb5.out hb5.out.size hbb)); clear hbb; (have hR6b := Aside0.mk (hR6.out.below ((Below.refl w6.heap.size w6).alloc (Nat.le_refl _) (.cells #[.int .i64 0, .slice none 0 0] 29)))); (have hb6b := Aside0.mk (hb6.out.alloc hb6.out.size (.cells #[.int .i64 0, .slice none 0 0] 29))))
              | (go_at_call 11; (with_reducible refine (kl6.out _ _ _ hR6b.out hl5.out).mono ?_); rintro e w7 ⟨rfl, hd7⟩; (have hR7 := Aside0.mk (hR6b.out.below hd7.below)); (have hb7 := Aside0.mk (below_then hb6b.out hb6b.out.size hd7.below)); clear hd7)
              | (go_at_call 9; (with_reducible refine (kf6.out _ _ _ hR7.out hl5.out).mono ?_); rintro e w8 ⟨rfl, hbb⟩; (have hR8 := Aside0.mk (hR7.out.below hbb)); (have hb8 := Aside0.mk (below_then hb7.out hb7.out.size hbb)); clear hbb)
              | (go_at_call 9; (with_reducible refine (kn6.out _ _ _ hR8.out hl5.out hb8.out).mono ?_); rintro e w9 ⟨rfl, hb9⟩; replace hb9 := Aside0.mk hb9)
              | fail)
            go_ret
            exact ⟨rfl, below_then hd.out hd.out.size hb9.out⟩
end Go.Proofs.Ytompkbganljbkaa.Rin
