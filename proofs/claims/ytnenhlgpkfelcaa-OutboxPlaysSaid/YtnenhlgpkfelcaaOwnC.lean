/- The contracts of Own and Kept over messages. -/
import Derived.Test.YtnenhlgpkfelcaaOwn
namespace Go.Proofs.Ytnenhlgpkfelcaa.Box2
open Go.Proofs.Ytnenhlgpkfelcaa.Box
open Go Go.RowKit Go.Maps Go.Proofs.Ytnenhlgpkfelcaa.POutboxPlays Go.Proofs.YtnenhlgpkfelcaaW.PrintWords Go.Proofs.YtnenhlgpkfelcaaW.PrintLast Go.Proofs.YtnenhlgpkfelcaaW.PrintMore
set_option linter.unusedVariables false
set_option linter.unusedSimpArgs false
theorem run_append_to {g n cap : Nat} {W : World} {base : Nat} {A : Option Addr} {c : Nat} {l : List S36} (h : Kd.R k36 36 W base (fun _ => True) (.slice (some ⟨g, 0, none⟩) 0 cap) []) (HC : Kd.C k36 W A n l) (hn : n ≤ cap) (ty : TypeId) :
    ∃ W', (Builtin.append_ #[28, 28] ty #[.slice (some ⟨g, 0, none⟩) 0 cap, .slice A n c]).run Try.prog W = .ok (.slice (some ⟨g, 0, none⟩) n cap) W' ∧ Kd.R k36 36 W' base (fun _ => True) (.slice (some ⟨g, 0, none⟩) n cap) l ∧ W.grownBy W' (some g) := by
  have hl : l.length = n := HC.1
  obtain ⟨i0, hi, hzz⟩ := Option.map_eq_some_iff.1 info36
  simp only [Prod.mk.injEq] at hzz
  obtain ⟨hz0, hz1, hz2⟩ := hzz
  rcases A with _ | ad
  · have h0 : n = 0 := by
      rcases Nat.eq_zero_or_pos n with h | h
      · exact h
      · obtain ⟨_, h, _⟩ := HC.2.2 h; cases h
    subst h0
    obtain rfl : l = [] := List.eq_nil_of_length_eq_zero hl
    exact ⟨W, by simp [Builtin.append_, run_underlying Try.underlying28, sizeOf, typeInfo, hi, Builtin.lenOf, Builtin.firstCells, storeCells], h, World.grownBy.refl W _⟩
  · obtain ⟨news, hnr, hnc⟩ := ReadsRow.inner_ HC
    have hnl : news.length = n * 15 := by rw [hnr.1, hl]; rfl
    have hone : ∀ u ∈ news, u.oneCell' = true := Kd.reps_one hnr (by decide) (fun p cs hp => k36.K_one hp)
    have hR := R_app (okp := fun _ => False) h news (hnr.imp_ (fun p cs hp => K_M36 hp)) (fun _ hk => hk.elim) (by rw [hl]; omega)
    obtain ⟨_, inner, hown, hr⟩ := h
    rcases hown.2 with ⟨hv, _⟩ | ⟨g', cap', cur, hv, hb, hh, hnc2, hcm, hcs, _⟩
    · cases hv
    injection hv with ha hn2 hc2
    injection ha with ha
    injection ha with hg'
    subst hg'; subst hc2
    have hcs2 : cur.size = cap * 15 := hcs
    have hrun := run_append_room_cells (P := Try.prog) W 28 ty 36 i0 Try.underlying28 hi g 0 0 cap ad n c news (by rw [hz1]; exact hnl) hnc hone (by omega) (fun j hj => by
      simp only [Nat.zero_mul, Nat.zero_add]; rw [blk_cell' hh, Array.getElem?_eq_getElem (by rw [hnl] at hj; have := Nat.mul_le_mul_right 15 hn; omega)]; rfl) (fun j hj => by simp [World.frozen?, hh])
    simp only [Nat.zero_add, Nat.zero_mul] at hrun
    simp only [hl, Nat.zero_add, Nat.zero_mul, List.nil_append] at hR
    exact ⟨_, hrun, hR.1, hR.2⟩
set_option maxRecDepth 100000 in
set_option maxHeartbeats 4000000 in
theorem own_c (A : Option Addr) (n c : Nat) (f : S36) (l : List S36) (w : World) (hn : n ≤ 1000) (HC : Kd.C k36 w A n l) :
    Calls Try.prog 14 #[.slice A n c, .agg #[.int .i64 f.f0, .int .i64 f.f1, .int .i64 f.f2, .int .i64 f.f3, .int .i64 f.f4.f0, .int .i64 f.f4.f1, .int .i64 f.f4.f2, .int .i64 f.f4.f3, .int .i64 f.f4.f4, .int .i64 f.f4.f5, .int .i64 f.f4.f6, .int .i64 f.f4.f7, .int .i64 f.f4.f8, .int .i64 f.f5, .int .i64 f.f6]] w fun e w' => (∃ g, e = .returned (.slice (some ⟨g, 0, none⟩) n (n + 3)) ∧ Kd.R k36 36 w' w.heap.size (fun _ => True) (.slice (some ⟨g, 0, none⟩) (n + 3) (n + 3)) (l ++ [f, f, f])) ∧ Below w.heap.size w w' := by
  have hl : l.length = n := HC.1
  obtain ⟨i0, hi, hzz⟩ := Option.map_eq_some_iff.1 info36
  simp only [Prod.mk.injEq] at hzz
  obtain ⟨hz0, hz1, hz2⟩ := hzz
  obtain ⟨w0, hw0⟩ : ∃ w0, w0 = w.alloc (.cells #[.int .i64 f.f0, .int .i64 f.f1, .int .i64 f.f2, .int .i64 f.f3, .int .i64 f.f4.f0, .int .i64 f.f4.f1, .int .i64 f.f4.f2, .int .i64 f.f4.f3, .int .i64 f.f4.f4, .int .i64 f.f4.f5, .int .i64 f.f4.f6, .int .i64 f.f4.f7, .int .i64 f.f4.f8, .int .i64 f.f5, .int .i64 f.f6] 36) := ⟨_, rfl⟩
  have hb0 : Below w.heap.size w w0 := by rw [hw0]; exact (Below.refl _ _).alloc (Nat.le_refl _) _
  have hx0 : w0.heap[w.heap.size]? = some (.cells #[.int .i64 f.f0, .int .i64 f.f1, .int .i64 f.f2, .int .i64 f.f3, .int .i64 f.f4.f0, .int .i64 f.f4.f1, .int .i64 f.f4.f2, .int .i64 f.f4.f3, .int .i64 f.f4.f4, .int .i64 f.f4.f5, .int .i64 f.f4.f6, .int .i64 f.f4.f7, .int .i64 f.f4.f8, .int .i64 f.f5, .int .i64 f.f6] 36 (0, 0)) := by rw [hw0]; exact heap_alloc_new w _
  obtain ⟨Z, hZ⟩ : ∃ Z : Array Value, Z = madeCells (Value.cells (.agg #[.int .i64 0, .int .i64 0, .int .i64 0, .int .i64 0, .int .i64 0, .int .i64 0, .int .i64 0, .int .i64 0, .int .i64 0, .int .i64 0, .int .i64 0, .int .i64 0, .int .i64 0, .int .i64 0, .int .i64 0])) ((n + 3) * 15) := ⟨_, rfl⟩
  have hZs : Z.size = (n + 3) * 15 := by rw [hZ]; simp [madeCells]
  have hmk : ∀ W : World, (Instr.makeSlice 28 (.int .i64 0) (.int .i64 ((n : Int) + 3))).run Try.prog W = .ok (.slice (some ⟨W.heap.size, 0, none⟩) 0 (n + 3)) (W.alloc (.cells Z 36)) := by
    intro W
    have h := run_make (P := Try.prog) W 28 36 i0 _ Try.underlying28 hi hz0 .i64 .i64 0 ((n : Int) + 3) (by omega) (by omega) (by rw [hz2]; omega) (by omega)
    have e : ((n : Int) + 3).toNat = n + 3 := by omega
    rw [e, hz1, ← hZ] at h
    simpa using h
  obtain ⟨w1, hw1⟩ : ∃ w1, w1 = w0.alloc (.cells Z 36) := ⟨_, rfl⟩
  have hg1 : w1.heap[w0.heap.size]? = some (.cells Z 36 (0, 0)) := by rw [hw1]; exact heap_alloc_new w0 _
  have hb1 : Below w.heap.size w w1 := by rw [hw1]; exact hb0.alloc hb0.size _
  have hb01 : Below w0.heap.size w0 w1 := by rw [hw1]; exact (Below.refl _ _).alloc (Nat.le_refl _) _
  have hR1 : Kd.R k36 36 w1 w0.heap.size (fun _ => True) (.slice (some ⟨w0.heap.size, 0, none⟩) 0 (n + 3)) [] := ⟨fun _ _ => trivial, [], ⟨rfl, .inr ⟨w0.heap.size, n + 3, Z, rfl, Nat.le_refl _, hg1, Nat.zero_le _, by simp only [maxLen]; omega, hZs, rfl⟩⟩, Reps.none _ _⟩
  obtain ⟨w2, hrun, hR2, hgr⟩ := run_append_to (c := c) hR1 (Kd.C_below HC hb1) (by omega) 28
  have hb2 : Below w0.heap.size w0 w2 := hb01.grown hgr hb01.size (fun k hk => by injection hk with hk; omega)
  have hlt0 := blk_lt' hx0
  have hx2 := (hb2.block _ hlt0).trans hx0
  have hbw : Aside0 (∀ W, Below w0.heap.size w0 W → Below w.heap.size w W) := ⟨fun W hW => below_then hb0 hb0.size hW⟩
  have hg0 : Aside0 (w.heap.size < w0.heap.size) := ⟨hlt0⟩
  have hs0 : w0.heap.size = w.heap.size + 1 := by rw [hw0]; simp
  rw [hs0] at hrun hR2 hb2 hbw hg0
  rw [hw1, hw0] at hrun
  rw [hw0] at hb2 hbw
  clear hgr hg1 hb1 hb01 hR1 HC hw1 hi hz0 hz1 hz2 hx0 hlt0 hb0 hZ hZs hw0 hs0
  replace hl := Aside0.mk hl
  replace hrun := Aside0.mk hrun
  replace hR2 := Aside0.mk hR2
  replace hb2 := Aside0.mk hb2
  replace hx2 := Aside0.mk hx2
  have z1 : wrap64 ((n : Int) + 3) = (n : Int) + 3 := by unfold wrap64; omega
  have z2 : (n : Int) + 3 ≤ ((n : Int) + 3) := by omega
  go_enter Try.func14, Try.ntmps14
  go_wp2_with (first
    | ((with_reducible refine gate_dst (N := 14) rfl ?_); refine wpList_append_run rfl (.tmp 12) (.tmp 13) 28 rfl rfl rfl hrun.out ?_)
    | fail)
  generalize hG : w.heap.size + 1 = G at *
  clear hrun hmk
  go_loopw [7] (fun i wr => ∃ q : Nat, n ≤ q ∧ q ≤ n + 3 ∧ i = .int .i64 (q : Int) ∧ Aside0 (Kd.R k36 36 wr G (fun _ => True) (.slice (some ⟨G, 0, none⟩) q (n + 3)) (l ++ List.replicate (q - n) f)) ∧ Aside0 (Below G (w.alloc (.cells #[.int .i64 f.f0, .int .i64 f.f1, .int .i64 f.f2, .int .i64 f.f3, .int .i64 f.f4.f0, .int .i64 f.f4.f1, .int .i64 f.f4.f2, .int .i64 f.f4.f3, .int .i64 f.f4.f4, .int .i64 f.f4.f5, .int .i64 f.f4.f6, .int .i64 f.f4.f7, .int .i64 f.f4.f8, .int .i64 f.f5, .int .i64 f.f6] 36)) wr) ∧ Aside0 (wr.heap[w.heap.size]? = some (.cells #[.int .i64 f.f0, .int .i64 f.f1, .int .i64 f.f2, .int .i64 f.f3, .int .i64 f.f4.f0, .int .i64 f.f4.f1, .int .i64 f.f4.f2, .int .i64 f.f4.f3, .int .i64 f.f4.f4, .int .i64 f.f4.f5, .int .i64 f.f4.f6, .int .i64 f.f4.f7, .int .i64 f.f4.f8, .int .i64 f.f5, .int .i64 f.f6] 36 (0, 0)))) (fun i _ => n + 3 - (intOf i).toNat)
  case atStart => exact ⟨n, Nat.le_refl _, by omega, rfl, ⟨by rw [Nat.sub_self, List.replicate_zero, List.append_nil]; exact hR2.out⟩, hb2, hx2⟩
  case round =>
    clear hR2 hb2 hx2
    obtain ⟨q, hq0, hq, rfl, hR, hb, hx⟩ := hrel
    by_cases hlt : q < n + 3
    · have b0 : (0 : Int) ≤ (q : Int) := by omega
      have b1 : (q : Int) < (n : Int) + 3 := by omega
      have hrun := Aside0.mk (store36 (q := f) hR.out (q * 15) (by omega))
      have hap := R_app (okp := fun _ => False) (ys := [f]) hR.out (crow f) (Reps.snoc (cs := []) (c := crow f) (Reps.none (k36.M wr G (fun _ => False)) 15) (k36_mkM wr G (fun _ => False) f) rfl) (fun _ h => h.elim) (by simp; omega)
      have hR3 : Aside0 (Kd.R k36 36 (wr.setCells G (q * 15) (crow f)) G (fun _ => True) (.slice (some ⟨G, 0, none⟩) (q + 1) (n + 3)) (l ++ List.replicate (q + 1 - n) f)) := ⟨by
        have h5 := hap.1
        rw [List.append_assoc, ← List.replicate_succ'] at h5
        rw [show q + 1 - n = q - n + 1 by omega]
        exact h5⟩
      have hg3 := hap.2
      have hb3 := Aside0.mk (hb.out.grown hg3 (by rw [← hG]; have := hb.out.size; simp at this; omega) (fun k hk => by injection hk with hk; omega))
      have hx3 := Aside0.mk ((hg3.block w.heap.size (blk_lt' hx.out) (fun e => by injection e with e; have := hg0.out; omega)).trans hx.out)
      have hxc := blk_cell' hx.out
      have w0 : wr.cell? ⟨w.heap.size, 0, none⟩ = some (.int .i64 f.f0) := hxc 0
      have w1 : wr.cell? ⟨w.heap.size, 1, none⟩ = some (.int .i64 f.f1) := hxc 1
      have w2 : wr.cell? ⟨w.heap.size, 2, none⟩ = some (.int .i64 f.f2) := hxc 2
      have w3 : wr.cell? ⟨w.heap.size, 3, none⟩ = some (.int .i64 f.f3) := hxc 3
      have w4 : wr.cell? ⟨w.heap.size, 4, none⟩ = some (.int .i64 f.f4.f0) := hxc 4
      have w5 : wr.cell? ⟨w.heap.size, 5, none⟩ = some (.int .i64 f.f4.f1) := hxc 5
      have w6 : wr.cell? ⟨w.heap.size, 6, none⟩ = some (.int .i64 f.f4.f2) := hxc 6
      have w7 : wr.cell? ⟨w.heap.size, 7, none⟩ = some (.int .i64 f.f4.f3) := hxc 7
      have w8 : wr.cell? ⟨w.heap.size, 8, none⟩ = some (.int .i64 f.f4.f4) := hxc 8
      have w9 : wr.cell? ⟨w.heap.size, 9, none⟩ = some (.int .i64 f.f4.f5) := hxc 9
      have w10 : wr.cell? ⟨w.heap.size, 10, none⟩ = some (.int .i64 f.f4.f6) := hxc 10
      have w11 : wr.cell? ⟨w.heap.size, 11, none⟩ = some (.int .i64 f.f4.f7) := hxc 11
      have w12 : wr.cell? ⟨w.heap.size, 12, none⟩ = some (.int .i64 f.f4.f8) := hxc 12
      have w13 : wr.cell? ⟨w.heap.size, 13, none⟩ = some (.int .i64 f.f5) := hxc 13
      have w14 : wr.cell? ⟨w.heap.size, 14, none⟩ = some (.int .i64 f.f6) := hxc 14
      clear hxc
      clear hap hg3
      go_wp2_with (first
        | ((with_reducible refine wpList_store_run (w' := wr.setCells G (q * 15) (crow f)) (q := .pointer (some ⟨G, q * 15, none⟩)) (u := .agg #[.int .i64 f.f0, .int .i64 f.f1, .int .i64 f.f2, .int .i64 f.f3, .int .i64 f.f4.f0, .int .i64 f.f4.f1, .int .i64 f.f4.f2, .int .i64 f.f4.f3, .int .i64 f.f4.f4, .int .i64 f.f4.f5, .int .i64 f.f4.f6, .int .i64 f.f4.f7, .int .i64 f.f4.f8, .int .i64 f.f5, .int .i64 f.f6]) rfl rfl 36 (.tmp 31) (.tmp 30) rfl ?_ ?_ hrun.out ?_); (show Value.pointer (some _) = _; simp [Addr.add_lit]); rfl)
        | fail)
      clear w0 w1 w2 w3 w4 w5 w6 w7 w8 w9 w10 w11 w12 w13 w14
      go_roundw
      case rel => exact ⟨q + 1, by omega, by omega, by go_num, hR3, hb3, hx3⟩
      case measure => simp [intOf]; omega
    · obtain rfl : q = n + 3 := by omega
      have hR4 : Aside0 (Kd.R k36 36 wr G (fun _ => True) (.slice (some ⟨G, 0, none⟩) (n + 3) (n + 3)) (l ++ [f, f, f])) := ⟨by have h5 := hR.out; rw [show n + 3 - n = 3 by omega] at h5; exact h5⟩
      go_wp2_with fail
      go_ret
      exact ⟨⟨G, rfl, Kd.R_lower hR4.out (by have := hg0.out; omega)⟩, hbw.out _ hb.out⟩
end Go.Proofs.Ytnenhlgpkfelcaa.Box2
