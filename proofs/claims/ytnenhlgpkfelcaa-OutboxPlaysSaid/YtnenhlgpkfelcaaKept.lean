/- The contract of Kept over messages. -/
import Derived.Test.YtnenhlgpkfelcaaOwn
namespace Go.Proofs.Ytnenhlgpkfelcaa.Box2
open Go.Proofs.Ytnenhlgpkfelcaa.Box
open Go Go.RowKit Go.Maps Go.Proofs.Ytnenhlgpkfelcaa.POutboxPlays Go.Proofs.YtnenhlgpkfelcaaW.PrintWords Go.Proofs.YtnenhlgpkfelcaaW.PrintLast Go.Proofs.YtnenhlgpkfelcaaW.PrintMore
set_option linter.unusedVariables false
set_option linter.unusedSimpArgs false
set_option maxRecDepth 100000 in
set_option maxHeartbeats 4000000 in
theorem kept_c (A : Option Addr) (g n c base : Nat) (f : S36) (l : List S36) (w : World) (hn : n ≤ 1000) (HC : Kd.C k36 w A n l) (HR : Kd.R k36 36 w base (fun _ => True) (.slice (some ⟨g, 0, none⟩) (n + 3) (n + 3)) (l ++ [f, f, f])) :
    Calls Try.prog 16 #[.slice (some ⟨g, 0, none⟩) n (n + 3), .slice A n c, .agg #[.int .i64 f.f0, .int .i64 f.f1, .int .i64 f.f2, .int .i64 f.f3, .int .i64 f.f4.f0, .int .i64 f.f4.f1, .int .i64 f.f4.f2, .int .i64 f.f4.f3, .int .i64 f.f4.f4, .int .i64 f.f4.f5, .int .i64 f.f4.f6, .int .i64 f.f4.f7, .int .i64 f.f4.f8, .int .i64 f.f5, .int .i64 f.f6]] w fun e w' => e = .returned (.bool true) ∧ Below w.heap.size w w' := by
  have hl : l.length = n := HC.1
  have hCR := (Kd.R_reads' HR).2.2
  have hlen : (l ++ [f, f, f]).length = n + 3 := by rw [List.length_append, hl]; rfl
  rw [hlen] at hCR
  have hC1 : Kd.C k36 w (some ⟨g, 0, none⟩) n l := by
    have h5 := Kd.C_take (m := n) (show Kd.C k36 w (some ⟨g, 0, none⟩) (l ++ [f, f, f]).length (l ++ [f, f, f]) by rw [hlen]; exact hCR) (by rw [hlen]; omega)
    rw [List.take_append_of_le_length (by omega), List.take_of_length_le (by omega), hl] at h5
    exact h5
  have hb0 : Below w.heap.size w (w.alloc (.cells #[.int .i64 f.f0, .int .i64 f.f1, .int .i64 f.f2, .int .i64 f.f3, .int .i64 f.f4.f0, .int .i64 f.f4.f1, .int .i64 f.f4.f2, .int .i64 f.f4.f3, .int .i64 f.f4.f4, .int .i64 f.f4.f5, .int .i64 f.f4.f6, .int .i64 f.f4.f7, .int .i64 f.f4.f8, .int .i64 f.f5, .int .i64 f.f6] 36)) := (Below.refl _ _).alloc (Nat.le_refl _) _
  have kp := Aside0.mk (plain_c (some ⟨g, 0, none⟩) A n (n + 3) c l (w.alloc (.cells #[.int .i64 f.f0, .int .i64 f.f1, .int .i64 f.f2, .int .i64 f.f3, .int .i64 f.f4.f0, .int .i64 f.f4.f1, .int .i64 f.f4.f2, .int .i64 f.f4.f3, .int .i64 f.f4.f4, .int .i64 f.f4.f5, .int .i64 f.f4.f6, .int .i64 f.f4.f7, .int .i64 f.f4.f8, .int .i64 f.f5, .int .i64 f.f6] 36)) (Kd.C_below hC1 hb0) (Kd.C_below HC hb0) (by omega))
  have hbw := Aside0.mk hb0
  have e0 := Aside0.mk (heap_alloc_new w (.cells #[.int .i64 f.f0, .int .i64 f.f1, .int .i64 f.f2, .int .i64 f.f3, .int .i64 f.f4.f0, .int .i64 f.f4.f1, .int .i64 f.f4.f2, .int .i64 f.f4.f3, .int .i64 f.f4.f4, .int .i64 f.f4.f5, .int .i64 f.f4.f6, .int .i64 f.f4.f7, .int .i64 f.f4.f8, .int .i64 f.f5, .int .i64 f.f6] 36))
  replace hCR := Aside0.mk hCR
  replace hl := Aside0.mk hl
  clear HC HR hC1 hb0 hlen
  have hns := neSelf f
  have z1 : wrap64 ((n : Int) + 3) = (n : Int) + 3 := by unfold wrap64; omega
  have z2 : ¬ ((n : Int) + 3 < (n : Int) + 3) := by omega
  go_enter Try.func16, Try.ntmps16
  go_wp2_with (first
    | (go_at_call 19; (with_reducible refine kp.out.mono ?_); rintro e w3 ⟨rfl, hb3⟩; have hx3 := Aside0.mk ((hb3.block _ (blk_lt' e0.out)).trans e0.out); have hb4 := Aside0.mk (below_then hbw.out hbw.out.size hb3); clear hb3)
    | fail)
  go_loopw [8] (fun i wr => ∃ q : Nat, n ≤ q ∧ q ≤ n + 3 ∧ i = .int .i64 (q : Int) ∧ Aside0 (Below w.heap.size w wr) ∧ Aside0 (wr.heap[w.heap.size]? = some (.cells #[.int .i64 f.f0, .int .i64 f.f1, .int .i64 f.f2, .int .i64 f.f3, .int .i64 f.f4.f0, .int .i64 f.f4.f1, .int .i64 f.f4.f2, .int .i64 f.f4.f3, .int .i64 f.f4.f4, .int .i64 f.f4.f5, .int .i64 f.f4.f6, .int .i64 f.f4.f7, .int .i64 f.f4.f8, .int .i64 f.f5, .int .i64 f.f6] 36 (0, 0)))) (fun i _ => n + 3 - (intOf i).toNat)
  case atStart => exact ⟨n, Nat.le_refl _, by omega, rfl, hb4, hx3⟩
  case round =>
    clear hx3 hb4 e0 hbw kp
    obtain ⟨q, hq0, hq, rfl, hb, hx⟩ := hrel
    by_cases hlt : q < n + 3
    · obtain ⟨ad, e1, x0, x1, x2, x3, x4, x5, x6, x7, x8, x9, x10, x11, x12, x13, x14⟩ := at_T36 (Kd.C_below hCR.out hb.out) (q : Int) (by omega) (by omega)
      injection e1 with e1
      subst e1
      have hrd : rd_T36 (l ++ [f, f, f]) (q : Int) = f := by
        simp only [rd_T36, Int.toNat_natCast, List.getD_eq_getElem?_getD]
        rw [List.getElem?_append_right (by rw [hl.out]; omega), hl.out]
        match hm : q - n, (by omega : q - n < 3) with
        | 0, _ => rfl
        | 1, _ => rfl
        | 2, _ => rfl
      rw [hrd, Int.toNat_natCast, Addr.add_lit, Nat.zero_add] at x0 x1 x2 x3 x4 x5 x6 x7 x8 x9 x10 x11 x12 x13 x14
      have b0 : (0 : Int) ≤ (q : Int) := by omega
      have b1 : (q : Int) < (n : Int) + 3 := by omega
      have hxc := blk_cell' hx.out
      have v0 : wr.cell? ⟨w.heap.size, 0, none⟩ = some (.int .i64 f.f0) := hxc 0
      have v1 : wr.cell? ⟨w.heap.size, 1, none⟩ = some (.int .i64 f.f1) := hxc 1
      have v2 : wr.cell? ⟨w.heap.size, 2, none⟩ = some (.int .i64 f.f2) := hxc 2
      have v3 : wr.cell? ⟨w.heap.size, 3, none⟩ = some (.int .i64 f.f3) := hxc 3
      have v4 : wr.cell? ⟨w.heap.size, 4, none⟩ = some (.int .i64 f.f4.f0) := hxc 4
      have v5 : wr.cell? ⟨w.heap.size, 5, none⟩ = some (.int .i64 f.f4.f1) := hxc 5
      have v6 : wr.cell? ⟨w.heap.size, 6, none⟩ = some (.int .i64 f.f4.f2) := hxc 6
      have v7 : wr.cell? ⟨w.heap.size, 7, none⟩ = some (.int .i64 f.f4.f3) := hxc 7
      have v8 : wr.cell? ⟨w.heap.size, 8, none⟩ = some (.int .i64 f.f4.f4) := hxc 8
      have v9 : wr.cell? ⟨w.heap.size, 9, none⟩ = some (.int .i64 f.f4.f5) := hxc 9
      have v10 : wr.cell? ⟨w.heap.size, 10, none⟩ = some (.int .i64 f.f4.f6) := hxc 10
      have v11 : wr.cell? ⟨w.heap.size, 11, none⟩ = some (.int .i64 f.f4.f7) := hxc 11
      have v12 : wr.cell? ⟨w.heap.size, 12, none⟩ = some (.int .i64 f.f4.f8) := hxc 12
      have v13 : wr.cell? ⟨w.heap.size, 13, none⟩ = some (.int .i64 f.f5) := hxc 13
      have v14 : wr.cell? ⟨w.heap.size, 14, none⟩ = some (.int .i64 f.f6) := hxc 14
      clear hxc
      clear hrd
      go_wp2_with fail
      go_quiet (fail)
      have hb2 := Aside0.mk (pw_below_drewN hb.out nq)
      have hx2 : Aside0 ((wr.drewN nq).heap[w.heap.size]? = some (.cells #[.int .i64 f.f0, .int .i64 f.f1, .int .i64 f.f2, .int .i64 f.f3, .int .i64 f.f4.f0, .int .i64 f.f4.f1, .int .i64 f.f4.f2, .int .i64 f.f4.f3, .int .i64 f.f4.f4, .int .i64 f.f4.f5, .int .i64 f.f4.f6, .int .i64 f.f4.f7, .int .i64 f.f4.f8, .int .i64 f.f5, .int .i64 f.f6] 36 (0, 0))) := ⟨hx.out⟩
      go_wp2_with fail
      go_roundw
      case rel => exact ⟨q + 1, by omega, by omega, by go_num, hb2, hx2⟩
      case measure => simp [intOf]; omega
    · obtain rfl : q = n + 3 := by omega
      go_wp2_with fail
      go_ret
      exact ⟨rfl, hb.out⟩
end Go.Proofs.Ytnenhlgpkfelcaa.Box2
