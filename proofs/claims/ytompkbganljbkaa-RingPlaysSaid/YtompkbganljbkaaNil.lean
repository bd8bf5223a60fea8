/- The walk through RingNil: it returns true and what lay in memory stays; for every region that is read. -/
import Derived.Test.YtompkbganljbkaaNils
import Derived.Test.YtompkbganljbkaaOne
import Derived.Test.YtompkbganljbkaaPutOne
namespace Go.Proofs.Ytompkbganljbkaa.Rin
open Go Go.RowKit Go.Proofs.Ytompkbganljbkaa.PRingPlays Go.Proofs.YtompkbganljbkaaW.PrintWords Go.Proofs.YtompkbganljbkaaW.PrintLast Go.Proofs.YtompkbganljbkaaW.PrintMore
set_option linter.unusedVariables false
set_option linter.unusedSimpArgs false
theorem C36_move {w W : World} {A : Option Addr} {n : Nat} {l : List S36} (HC : Kd.C k36 w A n l) (hm : ∀ b, b < w.heap.size → W.heap[b]? = w.heap[b]?) : Kd.C k36 W A n l := by
  obtain ⟨h1, h2, h3⟩ := HC
  refine ⟨h1, h2, fun h => ?_⟩
  obtain ⟨ad, e, hc⟩ := h3 h
  refine ⟨ad, e, fun j p hp => ?_⟩
  obtain ⟨cs, hl, hK, hcell⟩ := hc j p hp
  obtain rfl := k36_open hK
  refine ⟨_, hl, k36_mk W p, fun i u hu => ?_⟩
  have h4 := hcell i u hu
  have hlt : (ad.add (j * k36.sz + i)).block < w.heap.size := by
    rcases Nat.lt_or_ge (ad.add (j * k36.sz + i)).block w.heap.size with h | h
    · exact h
    · unfold World.cell? at h4
      rw [Array.getElem?_eq_none h] at h4
      simp at h4
  exact (World.cell?_of_block (hm _ hlt)).trans h4
set_option maxRecDepth 100000 in
set_option maxHeartbeats 8000000 in
theorem ringnil_walk (f : Int) (A : Option Addr) (n c : Nat) (l : List S36) (w : World) (HC : Kd.C k36 w A n l) (hw0 : -9223372036854775808 ≤ f) (hw1 : f ≤ 9223372036854775807) (hn : n ≤ maxLen) :
    Calls Try.prog 6 #[.agg #[.int .i64 f, .slice A n c]] w fun e w' => e = .returned (.bool true) ∧ Below w.heap.size w w' := by
  unfold maxLen at hn
  have hl : l.length = n := HC.1
  by_cases hbig : 20 < n
  · have h1 : (20 : Int) < (n : Int) := by omega
    replace HC := Aside0.mk HC
    replace hl := Aside0.mk hl
    go_enter Try.func6, Try.ntmps6
    go_wp2_with (first
      | (go_at_call 8; (with_reducible refine (awake_c _).mono ?_); rintro e w2 ⟨rfl, hb2⟩; replace hb2 := Aside0.mk hb2)
      | fail)
    go_ret
    exact ⟨rfl, below_then ((Below.refl w.heap.size w).alloc (Nat.le_refl _) _) (by simp) hb2.out⟩
  · have h1 : (n : Int) ≤ 20 := by omega
    have hB0 := Aside0.mk ((Below.refl w.heap.size w).alloc (Nat.le_refl _) (.cells #[.int .i64 f, .slice A n c] 29))
    have e0 := Aside0.mk (heap_alloc_new w (.cells #[.int .i64 f, .slice A n c] 29))
    obtain ⟨W0, hW0⟩ : ∃ W0, W0 = w.alloc (.cells #[.int .i64 f, .slice A n c] 29) := ⟨_, rfl⟩
    have kS : Aside0 (∀ W, Below W0.heap.size W0 W → W.cell? ⟨w.heap.size, 0, none⟩ = some (.int .i64 f) ∧ W.cell? ⟨w.heap.size, 1, none⟩ = some (.slice A n c) ∧ Kd.C k36 W A n l ∧ Below w.heap.size w W) := ⟨fun W hb => by
      subst hW0
      have hx := (hb.block _ (blk_lt' e0.out)).trans e0.out
      have hbb := below_then hB0.out hB0.out.size hb
      exact ⟨blk_cell' hx 0, blk_cell' hx 1, Kd.C_below HC hbb, hbb⟩⟩
    have HX : Aside0 (Below W0.heap.size W0 (w.alloc (.cells #[.int .i64 f, .slice A n c] 29))) := ⟨by rw [← hW0]; exact Below.refl _ _⟩
    replace hW0 := Aside0.mk hW0
    have kput : Aside0 (∀ (w3 W : World) (B S : Nat), Rg W B S w3.heap.size (.slice none 0 0) 3 f [] → Below w3.heap.size w3 W → (∀ W', W.heap.size ≤ W'.heap.size → Fr W W' B S (.slice none 0 0) → Kd.C k36 W' A n l) → Calls Try.prog 9 #[.pointer (some ⟨B, 0, none⟩), .agg #[.int .i64 f, .slice A n c]] W fun e w' => e = .returned (.bool true) ∧ ∃ v', Rg w' B S w3.heap.size v' 3 f [⟨f, l⟩] ∧ Below w3.heap.size w3 w') := ⟨fun w3 W B S h hB hC =>
      (putOne_c f A n c l B S w3.heap.size 3 (.slice none 0 0) f [] w3 W h hB hB.size (by omega) rfl (by simp) (by simp) hC (by omega)).mono fun e w' ⟨he, ⟨v', h1, _⟩, h2, _⟩ => ⟨he, v', h1, h2⟩⟩
    have kget := Aside0.mk (fun (W : World) (B S base : Nat) (v : Value) (h : Rg W B S base v 3 f [⟨f, l⟩]) => get1_c f B S base 3 v ⟨f, l⟩ W h hw0 hw1 (by show l.length ≤ 100000; omega))
    have hl2 : Aside0 (l.length = n) := ⟨hl⟩
    simp only [hl] at kget
    have kC : Aside0 (∀ (w3 w4 : World) (B S : Nat), Below w.heap.size w w3 → Below w.heap.size w w4 → Rg w4 B S w3.heap.size (.slice none 0 0) 3 f [] → ∀ W', w4.heap.size ≤ W'.heap.size → Fr w4 W' B S (.slice none 0 0) → Kd.C k36 W' A n l) := ⟨fun w3 w4 B S h3 h4 hR W' hs hF => C36_move HC (fun b hb => by
      have hB := hR.hb
      have hS := hR.hs
      have hz := h3.size
      have hz4 := h4.size
      exact (hF b (by omega) (by omega) (by omega) (by simp [Value.ownBlock])).trans (h4.block b hb))⟩
    replace HC := Aside0.mk HC
    replace hl := Aside0.mk hl
    replace hw0 := Aside0.mk hw0
    replace hw1 := Aside0.mk hw1
    go_enter Try.func6, Try.ntmps6
    go_wp2_with (first
      | (go_at_call 14; (with_reducible refine (nilCut_c _ _).mono ?_); rintro e w1 ⟨rfl, hb⟩; (have HX1 := Aside0.mk (below_then HX.out HX.out.size hb)); obtain ⟨p0, p1, _, _⟩ := kS.out _ HX1.out; clear hb)
      | (go_at_call 10; (with_reducible refine (nilGet_c _ _).mono ?_); rintro e w3 ⟨rfl, hb⟩; (have HX3 := Aside0.mk ((below_then HX1.out HX1.out.size hb).alloc (below_then HX1.out HX1.out.size hb).size (.cells #[.int .i64 0, .slice none 0 0] 29))); (have ex := Aside0.mk (heap_alloc_new w3 (.cells #[.int .i64 0, .slice none 0 0] 29))); (have kn := Aside0.mk (new_c 3 3 (by omega) (w3.alloc (.cells #[.int .i64 0, .slice none 0 0] 29)))); clear hb)
      | (go_at_call 7; (with_reducible refine kn.out.mono ?_); rintro e w4 ⟨⟨B, S, rfl, hR⟩, hb⟩; have hR4 := Aside0.mk (hR f); have hb4 := Aside0.mk hb; (have HX4 := Aside0.mk (below_then HX3.out HX3.out.size hb)); obtain ⟨p2, p3, _, _⟩ := kS.out _ HX4.out; clear hR hb)
      | (go_at_call 9; go_loud (refine (kput.out (w3.alloc (.cells #[.int .i64 0, .slice none 0 0] 29)) w4 B S hR4.out hb4.out (kC.out (w3.alloc (.cells #[.int .i64 0, .slice none 0 0] 29)) w4 B S (kS.out _ HX3.out).2.2.2 (kS.out _ HX4.out).2.2.2 hR4.out)).mono ?_); rintro e w5 ⟨rfl, v5, hR5, hb5⟩; replace hR5 := Aside0.mk hR5; (have HX5 := Aside0.mk (below_then HX3.out HX3.out.size hb5)); replace hb5 := Aside0.mk hb5; obtain ⟨p4, p5, _, _⟩ := kS.out _ HX5.out)
      | (go_at_call 10; (with_reducible refine (kget.out w5 B S _ v5 hR5.out).mono ?_); rintro e w6 ⟨⟨A6, c6, rfl, hY⟩, hb⟩; (have HX6 := Aside0.mk (below_then HX5.out HX5.out.size hb)); replace hY := Aside0.mk hY; (have hR6 := Aside0.mk (hR5.out.below hb)); (have hb6 := Aside0.mk (below_then hb5.out hb5.out.size hb)); (have hq6 := Aside0.mk hb); clear hb)
      | fail)
    have hY0 : Aside0 (0 < n → ∃ g cur, A6 = some ⟨g, 0, none⟩ ∧ g < w6.heap.size ∧ w5.heap.size ≤ g ∧ (w6.alloc (.cells #[.int .i64 f, .slice A6 n c6] 29)).heap[g]? = some (.cells cur 36 (0, 0)) ∧ n * 9 ≤ cur.size) := ⟨fun h0 => by
      have hy := hY.out
      have hbd := (Kd.R_bound hy).1
      obtain ⟨_, inner, hown, _⟩ := hy
      rcases hown.2 with ⟨hv, _⟩ | ⟨g, cap, cur, hv, hb, hh, hle, _, hcs, _⟩
      · injection hv with _ hn0 _
        omega
      · injection hv with ha _ _
        subst ha
        have hlt := blk_lt' hh
        have hle2 : n ≤ cap := by have := hl2.out; omega
        have hcs2 : cur.size = cap * 9 := hcs
        exact ⟨g, cur, rfl, hlt, hb, (Below.heap_alloc _ _ _ hlt).trans hh, by omega⟩⟩
    have hbx : Aside0 ((w6.alloc (.cells #[.int .i64 f, .slice A6 n c6] 29)).heap[w6.heap.size]? = some (.cells #[.int .i64 f, .slice A6 n c6] 29 (0, 0))) := ⟨heap_alloc_new _ _⟩
    have hq7 : Aside0 (Below w5.heap.size w5 (w6.alloc (.cells #[.int .i64 f, .slice A6 n c6] 29))) := ⟨hq6.out.alloc hq6.out.size _⟩
    go_loopw [40] (fun i wr => ∃ k : Nat, k ≤ n ∧ i = .int .i64 k ∧ Aside0 (Below w5.heap.size w5 wr) ∧ Aside0 (wr.heap[w6.heap.size]? = some (.cells #[.int .i64 f, .slice A6 n c6] 29 (0, 0))) ∧ Aside0 (0 < n → ∃ g cur, A6 = some ⟨g, 0, none⟩ ∧ g < w6.heap.size ∧ w5.heap.size ≤ g ∧ wr.heap[g]? = some (.cells cur 36 (0, 0)) ∧ n * 9 ≤ cur.size)) (fun i _ => n - (intOf i).toNat)
    case atStart => exact ⟨0, Nat.zero_le _, rfl, hq7, hbx, hY0⟩
    case round =>
      clear hY0 hbx hq7
      obtain ⟨k, hk, rfl, hq, hbx, hY⟩ := hrel
      by_cases hkn : k < n
      · obtain ⟨g, cur, eA, hg1, hg2, hcur, hsz⟩ := hY.out (by omega)
        subst eA
        have y1 := blk_cell' hbx.out 1
        simp at y1
        have y2 : wr.cell? ⟨g, k * 9, none⟩ = some cur[k * 9] := by rw [blk_cell' hcur]; exact Array.getElem?_eq_getElem (by omega)
        have y3 : ∀ j, wr.frozen? ⟨g, j, none⟩ = false := fun j => by simp [World.frozen?, hcur]
        have b0 : (0 : Int) ≤ (k : Int) := by omega
        have b1 : (k : Int) < (n : Int) := by omega
        generalize cur[k * 9] = cv at y2
        replace hcur := Aside0.mk hcur
        go_wp2_with fail
        go_roundw
        case rel =>
          exact ⟨k + 1, by omega, by go_num, ⟨hq.out.setCell (p := ⟨g, k * 9, none⟩) hg2 _⟩, ⟨blk_far hbx.out (p := ⟨g, k * 9, none⟩) (by show w6.heap.size ≠ g; omega) _⟩, ⟨fun _ => ⟨g, _, rfl, hg1, hg2, blk_set hcur.out (k * 9) _, by simpa using hsz⟩⟩⟩
        case measure => simp [intOf]; omega
      · have b1 : ¬ ((k : Int) < (n : Int)) := by omega
        have hRr := Aside0.mk (hR5.out.below hq.out)
        have HXr := Aside0.mk (below_then HX5.out HX5.out.size hq.out)
        have hbr := Aside0.mk (below_then hb5.out hb5.out.size hq.out)
        obtain ⟨r0, r1, _, _⟩ := kS.out _ HXr.out
        clear hY
        go_wp2_with (first
          | (go_at_call 10; (with_reducible refine (kget.out wr B S _ v5 hRr.out).mono ?_); rintro e w7 ⟨⟨A7, c7, rfl, hZ⟩, hb⟩; have kAll : Aside0 (∀ W, Below (w7.alloc (.cells #[.int .i64 f, .slice A7 n c7] 29)).heap.size (w7.alloc (.cells #[.int .i64 f, .slice A7 n c7] 29)) W → W.cell? ⟨w.heap.size, 0, none⟩ = some (.int .i64 f) ∧ W.cell? ⟨w.heap.size, 1, none⟩ = some (.slice A n c) ∧ W.cell? ⟨w3.heap.size, 0, none⟩ = some (.int .i64 0) ∧ W.cell? ⟨w3.heap.size, 1, none⟩ = some (.slice none 0 0) ∧ W.cell? ⟨w7.heap.size, 0, none⟩ = some (.int .i64 f) ∧ W.cell? ⟨w7.heap.size, 1, none⟩ = some (.slice A7 n c7) ∧ Kd.C k36 W A7 n l ∧ Kd.C k36 W A n l ∧ Below w.heap.size w W) := ⟨fun W hW => by
              have hZ7 : Below w7.heap.size w7 (w7.alloc (.cells #[.int .i64 f, .slice A7 n c7] 29)) := (Below.refl _ _).alloc (Nat.le_refl _) _
              have h7 := below_then hZ7 hZ7.size hW
              have hX := below_then (below_then hbr.out hbr.out.size hb) (below_then hbr.out hbr.out.size hb).size h7
              have hS := kS.out W (below_then (below_then HXr.out HXr.out.size hb) (below_then HXr.out HXr.out.size hb).size h7)
              have hxx := (hX.block _ (blk_lt' ex.out)).trans ex.out
              have hzz := (hW.block w7.heap.size (blk_lt' (heap_alloc_new w7 (.cells #[.int .i64 f, .slice A7 n c7] 29)))).trans (heap_alloc_new w7 _)
              have hCz := (Kd.R_reads' (Kd.R_below hZ h7)).2.2
              rw [hl2.out] at hCz
              exact ⟨hS.1, hS.2.1, blk_cell' hxx 0, blk_cell' hxx 1, blk_cell' hzz 0, blk_cell' hzz 1, hCz, hS.2.2.1, hS.2.2.2⟩⟩; (have HZ7 := Aside0.mk (Below.refl (w7.alloc (.cells #[.int .i64 f, .slice A7 n c7] 29)).heap.size (w7.alloc (.cells #[.int .i64 f, .slice A7 n c7] 29)))); clear hZ hb)
          | (go_at_call 8; (with_reducible refine (awake_c _).mono ?_); rintro e w8 ⟨rfl, hb⟩; (have HZ8 := Aside0.mk (below_then HZ7.out HZ7.out.size hb)); obtain ⟨s0, s1, t0, t1, u0, u1, _⟩ := kAll.out _ HZ8.out; clear hb)
          | (go_at_call 9; (with_reducible refine (nilPut_c _ _ _ _ _).mono ?_); rintro e w9 ⟨rfl, hb⟩; (have HZ9 := Aside0.mk (below_then HZ8.out HZ8.out.size hb)); obtain ⟨s2, s3, t2, t3, u2, u3, _⟩ := kAll.out _ HZ9.out; clear hb)
          | (go_at_call 22; (with_reducible refine (region_c 0 none none 0 0 0 [] _ (Kd.C_nil _ _) (Kd.C_nil _ _) (by omega)).mono ?_); rintro e w10 ⟨rfl, hb⟩; (have HZ10 := Aside0.mk (below_then HZ9.out HZ9.out.size hb)); obtain ⟨s4, s5, t4, t5, u4, u5, hcz, hcs, _⟩ := kAll.out _ HZ10.out; have hcz := Aside0.mk hcz; have hcs := Aside0.mk hcs; clear hb)
          | (go_at_call 12; (with_reducible refine (nilFirst_c _).mono ?_); rintro e w' ⟨rfl, hw⟩; subst w')
          | (go_at_call 11; (with_reducible refine (nilLast_c _).mono ?_); rintro e w' ⟨rfl, hw⟩; subst w')
          | (go_at_call 17; (with_reducible refine (nilFork_c _).mono ?_); rintro e w' ⟨rfl, hw⟩; subst w')
          | (go_at_call 22; (with_reducible refine (region_c f A7 A n c7 c l w10 hcz.out hcs.out (by omega)).mono ?_); rintro e w11 ⟨rfl, hb⟩; (have HZ11 := Aside0.mk ((kAll.out _ (below_then HZ10.out HZ10.out.size hb)).2.2.2.2.2.2.2.2)); clear hb)
          | fail)
        go_ret
        exact ⟨rfl, HZ11.out⟩
end Go.Proofs.Ytompkbganljbkaa.Rin
