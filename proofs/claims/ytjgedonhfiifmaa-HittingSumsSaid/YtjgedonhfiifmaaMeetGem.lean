/- The contract of hitting's meet, gems in hand. -/
import Derived.Test.YtjgedonhfiifmaaMeetShot
namespace Go.Proofs.Ytjgedonhfiifmaa.Hit
open Go.RowKit Go.Proofs.Ytjgedonhfiifmaa.PHittingOnly Go.Proofs.YtjgedonhfiifmaaW.PrintWords Go.Proofs.YtjgedonhfiifmaaW.PrintLast Go.Proofs.YtjgedonhfiifmaaW.PrintMore
set_option linter.unusedVariables false

def Pgem (t p : S25) : Bool := p.f1 == 1 && true && nearB p t.f2 t.f3 32
def gemT (h : Int) : Int := heal h
def gemF (l : List S25) : List S25 := meetF Pgem 3 gemT l

set_option maxRecDepth 100000 in
set_option maxHeartbeats 4000000 in
theorem meet_gem_zero (A : Option Addr) (c : Nat) (w : World) (HC : Kd.C k25 w A 0 []) :
    Calls Try.prog 12 #[.slice A 0 c, .int .i64 3, .int .i64 32, .func (.func 19) #[] #[], .func (.func 20) #[] #[]] w fun e w' => e = .returned (.slice none 0 0) ∧ Below w.heap.size w w' := by
  have k1 := Aside0.mk (fun W (h : Kd.C k25 W A 0 []) => clone_c A 0 c [] W h (by omega))
  have HC2 := Aside0.mk (Kd.C_alloc (Kd.C_alloc HC (.cells #[.int .i64 32] 3)) (.cells #[.func (.func 19) #[] #[]] 38))
  have HB := Aside0.mk (((Below.refl w.heap.size w).alloc (Nat.le_refl _) (.cells #[.int .i64 32] 3)).alloc (by simp) (.cells #[.func (.func 19) #[] #[]] 38))
  have hmk : ∀ W : World, (Instr.makeSlice 46 (.int .i64 0) (.int .i64 0)).run Try.prog W = .ok (.slice (some ⟨W.heap.size, 0, none⟩) 0 0) (W.alloc (.cells #[] 4)) := fun W => mk_bools 0 (by omega) W
  replace HC := Aside0.mk HC
  go_enter Try.func12, Try.ntmps12
  go_wp2_with (first
    | (go_at_call 22; (with_reducible refine (k1.out _ HC2.out).mono ?_); rintro e w1 ⟨⟨A', c', rfl, h1⟩, hb1⟩; clear h1; replace HB := Aside0.mk (below_then HB.out HB.out.size hb1); clear hb1)
    | fail)
  refine wp_loop_rounds 1 ?_
  rw [rounds_succ]
  go_wp2_with fail
  refine wp_loop_rounds 1 ?_
  rw [rounds_succ]
  go_wp2_with fail
  go_ret
  exact ⟨rfl, HB.out.alloc HB.out.size _⟩

theorem idx_gem (G c' F Pt : Nat) (L : List S25) (n : Nat) (hL : L.length = n) (hn : n ≤ 1000) (p : S25) (v : Int) (W : World) (hv : idx (Pgem p) L = v) (hr : Row W G c' L)
    (hf : W.heap[F]? = some (.cells #[.int .i64 32] 3 (0, 0))) (ho : W.heap[F + 1]? = some (.cells #[.func (.func 19) #[] #[]] 38 (0, 0))) (hk : p.f1 = 3) (ht : W.heap[Pt]? = some (.cells #[.int .i64 p.f0, .int .i64 3, .int .i64 p.f2, .int .i64 p.f3, .int .i64 p.f4, .int .i64 p.f5, .int .i64 p.f6, .int .i64 p.f7, .int .i64 p.f8] 25 (0, 0))) :
    Calls Try.prog 24 #[.slice (some ⟨G, 0, none⟩) n c', .func (.func 25) #[] #[.pointer (some ⟨F + 1, 0, none⟩), .pointer (some ⟨Pt, 0, none⟩), .pointer (some ⟨F, 0, none⟩)]] W fun e w' => e = .returned (.int .i64 v) ∧ Below W.heap.size W w' := by
  subst hv hL
  replace ht : W.heap[Pt]? = some (.cells (cells p) 25 (0, 0)) := by unfold cells; rw [hk]; exact ht
  exact index_c _ _ c' L (F + 1) Pt F (Pgem p) W hr.reads (by omega) fun q W' hb =>
    pred_c (F + 1) Pt F 19 (fun _ _ => true) p q 32 W' ((hb.block _ (blk_lt' ho)).trans ho) ((hb.block _ (blk_lt' ht)).trans ht) ((hb.block _ (blk_lt' hf)).trans hf) (.inr ⟨rfl, rfl⟩)

set_option maxRecDepth 100000 in
set_option maxHeartbeats 8000000 in
theorem meet_gem_some (A : Option Addr) (n c : Nat) (l : List S25) (w : World) (HC : Kd.C k25 w A n l) (hn : n ≤ 1000) (h0 : 0 < n) :
    Calls Try.prog 12 #[.slice A n c, .int .i64 3, .int .i64 32, .func (.func 19) #[] #[], .func (.func 20) #[] #[]] w fun e w' => (∃ A' n' c', e = .returned (.slice A' n' c') ∧ Kd.R k25 25 w' w.heap.size (fun _ => True) (.slice A' n' c') (gemF l)) ∧ Below w.heap.size w w' := by
  have hl : l.length = n := HC.1
  have k1 := Aside0.mk (fun W (h : Kd.C k25 W A n l) => clone_c A n c l W h (by omega))
  have HC2 := Aside0.mk (Kd.C_alloc (Kd.C_alloc HC (.cells #[.int .i64 32] 3)) (.cells #[.func (.func 19) #[] #[]] 38))
  have HB := Aside0.mk (((Below.refl w.heap.size w).alloc (Nat.le_refl _) (.cells #[.int .i64 32] 3)).alloc (by simp) (.cells #[.func (.func 19) #[] #[]] 38))
  have hPf := Aside0.mk (show ((w.alloc (.cells #[.int .i64 32] 3)).alloc (.cells #[.func (.func 19) #[] #[]] 38)).heap[w.heap.size]? = some (.cells #[.int .i64 32] 3 (0, 0)) from heap_alloc2_old _ _ _)
  have hPo := Aside0.mk (show ((w.alloc (.cells #[.int .i64 32] 3)).alloc (.cells #[.func (.func 19) #[] #[]] 38)).heap[w.heap.size + 1]? = some (.cells #[.func (.func 19) #[] #[]] 38 (0, 0)) from heap_alloc2_new _ _ _)
  have hmk := mk_bools n (by omega)
  replace HC := Aside0.mk HC
  replace hl := Aside0.mk hl
  go_enter Try.func12, Try.ntmps12
  go_wp2_with (first
    | (go_at_call 22; (with_reducible refine (k1.out _ HC2.out).mono ?_); rintro e w1 ⟨⟨A', c', rfl, h1⟩, hb1⟩; obtain ⟨G, rfl, -, hGb, hrow⟩ := R_row h1 (by rw [hl.out]; exact h0); clear h1; have hHF := hb1.size; simp at hGb hHF; replace HB := Aside0.mk (below_then HB.out HB.out.size hb1); replace hPf := Aside0.mk ((hb1.block _ (blk_lt' hPf.out)).trans hPf.out); replace hPo := Aside0.mk ((hb1.block _ (blk_lt' hPo.out)).trans hPo.out); clear hb1; replace hrow := Aside0.mk hrow; rw [hl.out]; replace hrow := Aside0.mk (hrow.out.alloc (.cells (Array.replicate n (Value.bool false)) 4)); have hbls := Aside0.mk (Bls.made w1 n); replace hPf := Aside0.mk (blk_alloc hPf.out (.cells (Array.replicate n (Value.bool false)) 4)); replace hPo := Aside0.mk (blk_alloc hPo.out (.cells (Array.replicate n (Value.bool false)) 4)); replace HB := Aside0.mk (HB.out.alloc HB.out.size (.cells (Array.replicate n (Value.bool false)) 4)))
    | fail)
  go_loopw [26] (fun i wr => ∃ k : Nat, k ≤ n ∧ i = .int .i64 k ∧ Aside0 (Row wr G c' (iterM Pgem 3 gemT l k).1) ∧ Aside0 (Bls wr w1.heap.size (iterM Pgem 3 gemT l k).2) ∧ Aside0 (wr.heap[w.heap.size]? = some (.cells #[.int .i64 32] 3 (0, 0))) ∧ Aside0 (wr.heap[w.heap.size + 1]? = some (.cells #[.func (.func 19) #[] #[]] 38 (0, 0))) ∧ Aside0 (Below w.heap.size w wr)) (fun i _ => n - (intOf i).toNat)
  case atStart => exact ⟨0, Nat.zero_le _, rfl, hrow, ⟨by have := hbls.out; unfold iterM; rw [hl.out]; exact this⟩, hPf, hPo, HB⟩
  case round =>
    clear hrow hbls hPf hPo HB k1 HC2 hmk
    obtain ⟨k, hk, rfl, hrow, hbls, hPf, hPo, HB⟩ := hrel
    have hlen := iterM_length Pgem 3 gemT l k
    have hsucc : iterM Pgem 3 gemT l (k + 1) = stepM Pgem 3 gemT (iterM Pgem 3 gemT l k) k := rfl
    by_cases hlt : k < n
    · generalize iterM Pgem 3 gemT l k = L at *
      obtain ⟨L1, L2⟩ := L
      simp only at hrow hbls hlen
      rw [hl.out] at hlen
      obtain ⟨hl1, hl2⟩ := hlen
      have x0 := hrow.out.cell (i := k) (j := 0) (by omega) (by omega)
      have x1 := hrow.out.cell (i := k) (j := 1) (by omega) (by omega)
      have x2 := hrow.out.cell (i := k) (j := 2) (by omega) (by omega)
      have x3 := hrow.out.cell (i := k) (j := 3) (by omega) (by omega)
      have x4 := hrow.out.cell (i := k) (j := 4) (by omega) (by omega)
      have x5 := hrow.out.cell (i := k) (j := 5) (by omega) (by omega)
      have x6 := hrow.out.cell (i := k) (j := 6) (by omega) (by omega)
      have x7 := hrow.out.cell (i := k) (j := 7) (by omega) (by omega)
      have x8 := hrow.out.cell (i := k) (j := 8) (by omega) (by omega)
      unfold stepM at hsucc
      simp only at hsucc
      generalize hp : L1.getD k z25 = p at *
      replace hp := Aside0.mk hp
      simp [cells] at x0 x1 x2 x3 x4 x5 x6 x7 x8
      have hsz : w1.heap.size < wr.heap.size := hbls.out.lt
      have b0 : (0 : Int) ≤ (k : Int) := by omega
      have b1 : (k : Int) < (n : Int) := by omega
      by_cases hkd : p.f1 = 3
      · by_cases hany : L1.any (Pgem p) = true
        · rw [if_pos ⟨hkd, hany⟩] at hsucc
          obtain ⟨f, hf⟩ : ∃ f, L1.findIdx (Pgem p) = f := ⟨_, rfl⟩
          have hfl : f < n := by rw [← hf, ← hl1]; exact List.findIdx_lt_length.2 (List.any_eq_true.1 hany)
          have hidx : idx (Pgem p) L1 = (f : Int) := by unfold idx; rw [if_pos hany, hf]
          rw [hf] at hsucc
          have k2 := Aside0.mk (fun W => idx_gem G c' w.heap.size wr.heap.size L1 n hl1 hn p (f : Int) W hidx)
          clear hidx hany hf
          unfold upd at hsucc
          have hrow2 := Aside0.mk (hrow.out.alloc (.cells (cells p) 25))
          have hbls2 := Aside0.mk (hbls.out.alloc (.cells (cells p) 25))
          have hPf2 := Aside0.mk (blk_alloc hPf.out (.cells (cells p) 25))
          have hPo2 := Aside0.mk (blk_alloc hPo.out (.cells (cells p) 25))
          have hPt2 := Aside0.mk (show (wr.alloc (.cells (cells p) 25)).heap[wr.heap.size]? = some (.cells (cells p) 25 (0, 0)) from heap_alloc_new _ _)
          have HB2 := Aside0.mk (HB.out.alloc HB.out.size (.cells (cells p) 25))
          have y6 := fun (W : World) (h : Row W G c' L1) => h.cell (i := f) (j := 6) (by omega) (by omega)
          have hput := fun (W : World) (h : Row W G c' L1) => h.put (i := f) (by omega) (gemT (L1.getD f z25).f6)
          have k3 := gem_turn_c (L1.getD f z25).f6
          generalize hth : gemT (L1.getD f z25).f6 = th at *
          have k3 : ∀ W : World, Calls Try.prog 20 #[.int .i64 (L1.getD f z25).f6] W fun e w' => e = .returned (.int .i64 th) ∧ Below W.heap.size W w' := by subst hth; exact k3
          generalize L1.set f (withH (L1.getD f z25) th) = L3 at *
          generalize (L1.getD f z25) = q at *
          simp only [cells] at y6
          unfold cells at hrow2 hbls2 hPf2 hPo2 hPt2 HB2
          rw [hkd] at hrow2 hbls2 hPf2 hPo2 hPt2 HB2
          have f0 : (0 : Int) ≤ (f : Int) := by omega
          have f1 : (f : Int) < (n : Int) := by omega
          replace y6 := Aside0.mk y6
          replace hput := Aside0.mk hput
          replace k3 := Aside0.mk k3
          replace hsucc := Aside0.mk hsucc
          have hne : w1.heap.size ≠ G := hbls.out.ne_row hrow.out
          replace hl1 := Aside0.mk hl1
          replace hl2 := Aside0.mk hl2
          clear hrow hbls hPf hPo HB
          go_wp2_with (first
            | (go_at_call 24; (with_reducible refine (k2.out _ hrow2.out hPf2.out hPo2.out hkd hPt2.out).mono ?_); rintro e w2 ⟨rfl, hb2⟩; replace hrow2 := Aside0.mk (hrow2.out.below hb2); replace hbls2 := Aside0.mk (hbls2.out.below hb2); replace HB2 := Aside0.mk (below_then HB2.out HB2.out.size hb2); replace hPf2 := Aside0.mk ((hb2.block _ (blk_lt' hPf2.out)).trans hPf2.out); replace hPo2 := Aside0.mk ((hb2.block _ (blk_lt' hPo2.out)).trans hPo2.out); clear hb2 hPt2 k2; have g6 := y6.out _ hrow2.out; simp at g6; have hszG := hrow2.out.lt; have hszH := hbls2.out.lt)
            | (go_at_call 20; (with_reducible refine (k3.out _).mono ?_); rintro e w3 ⟨rfl, hb3⟩; replace hrow2 := Aside0.mk (hrow2.out.below hb3); replace hbls2 := Aside0.mk (hbls2.out.below hb3); replace HB2 := Aside0.mk (below_then HB2.out HB2.out.size hb3); replace hPf2 := Aside0.mk ((hb3.block _ (blk_lt' hPf2.out)).trans hPf2.out); replace hPo2 := Aside0.mk ((hb3.block _ (blk_lt' hPo2.out)).trans hPo2.out); clear hb3 hszG hszH; have g7 := y6.out _ hrow2.out; simp at g7; have hszG := hrow2.out.lt; have hszH := hbls2.out.lt; have fG := hrow2.out.f; have fH := hbls2.out.f; have gH := hbls2.out.cell (i := k) (by rw [hl2.out]; exact hlt); have gH2 := (hbls2.out.far hne (f * 9 + 6) (.int .i64 th)).cell (i := k) (by rw [hl2.out]; exact hlt); have fH2 := (hbls2.out.far hne (f * 9 + 6) (.int .i64 th)).f)
            | fail)
          go_roundw
          case rel => exact ⟨k + 1, by omega, by go_num, by rw [hsucc.out]; exact ⟨(hput.out _ hrow2.out).far hne.symm k _⟩, by rw [hsucc.out]; exact ⟨(hbls2.out.far hne (f * 9 + 6) _).put k true⟩, ⟨((Below.heap_setCell _ _ _ _ (by simp; omega)).trans (Below.heap_setCell _ _ _ _ (by simp; omega))).trans hPf2.out⟩, ⟨((Below.heap_setCell _ _ _ _ (by simp; omega)).trans (Below.heap_setCell _ _ _ _ (by simp; omega))).trans hPo2.out⟩, ⟨(HB2.out.setCell (by simp; omega) _).setCell (by simp; omega) _⟩⟩
          case measure => simp [intOf]; omega
        · rw [if_neg (fun h => hany h.2)] at hsucc
          have hidx : idx (Pgem p) L1 = -1 := by unfold idx; rw [if_neg hany]
          have k2 := Aside0.mk (fun W => idx_gem G c' w.heap.size wr.heap.size L1 n hl1 hn p (-1) W hidx)
          clear hidx hany
          have hrow2 := Aside0.mk (hrow.out.alloc (.cells (cells p) 25))
          have hbls2 := Aside0.mk (hbls.out.alloc (.cells (cells p) 25))
          have hPf2 := Aside0.mk (blk_alloc hPf.out (.cells (cells p) 25))
          have hPo2 := Aside0.mk (blk_alloc hPo.out (.cells (cells p) 25))
          have hPt2 := Aside0.mk (show (wr.alloc (.cells (cells p) 25)).heap[wr.heap.size]? = some (.cells (cells p) 25 (0, 0)) from heap_alloc_new _ _)
          have HB2 := Aside0.mk (HB.out.alloc HB.out.size (.cells (cells p) 25))
          unfold cells at hrow2 hbls2 hPf2 hPo2 hPt2 HB2
          rw [hkd] at hrow2 hbls2 hPf2 hPo2 hPt2 HB2
          replace hsucc := Aside0.mk hsucc
          clear hrow hbls hPf hPo HB
          go_wp2_with (first
            | (go_at_call 24; (with_reducible refine (k2.out _ hrow2.out hPf2.out hPo2.out hkd hPt2.out).mono ?_); rintro e w2 ⟨rfl, hb2⟩; replace hrow2 := Aside0.mk (hrow2.out.below hb2); replace hbls2 := Aside0.mk (hbls2.out.below hb2); replace HB2 := Aside0.mk (below_then HB2.out HB2.out.size hb2); replace hPf2 := Aside0.mk ((hb2.block _ (blk_lt' hPf2.out)).trans hPf2.out); replace hPo2 := Aside0.mk ((hb2.block _ (blk_lt' hPo2.out)).trans hPo2.out); clear hb2 hPt2 k2)
            | fail)
          go_roundw
          case rel => exact ⟨k + 1, by omega, by go_num, by rw [hsucc.out]; exact hrow2, by rw [hsucc.out]; exact hbls2, hPf2, hPo2, HB2⟩
          case measure => simp [intOf]; omega
      · rw [if_neg (fun h => hkd h.1)] at hsucc
        replace hsucc := Aside0.mk hsucc
        have hrow2 := Aside0.mk (hrow.out.alloc (.cells (cells p) 25))
        have hbls2 := Aside0.mk (hbls.out.alloc (.cells (cells p) 25))
        have hPf2 := Aside0.mk (blk_alloc hPf.out (.cells (cells p) 25))
        have hPo2 := Aside0.mk (blk_alloc hPo.out (.cells (cells p) 25))
        have HB2 := Aside0.mk (HB.out.alloc HB.out.size (.cells (cells p) 25))
        unfold cells at hrow2 hbls2 hPf2 hPo2 HB2
        go_wp2_with fail
        go_roundw
        case rel => exact ⟨k + 1, by omega, by go_num, by rw [hsucc.out]; exact hrow2, by rw [hsucc.out]; exact hbls2, hPf2, hPo2, HB2⟩
        case measure => simp [intOf]; omega
    · have hkn : k = n := by omega
      subst hkn
      have hfin : gemF l = leftOf (iterM Pgem 3 gemT l k).1 (iterM Pgem 3 gemT l k).2 := by unfold gemF meetF; rw [hl.out]
      generalize iterM Pgem 3 gemT l k = L at *
      obtain ⟨L1, L2⟩ := L
      simp only at hrow hbls hlen hfin
      rw [hl.out] at hlen
      obtain ⟨hl1, hl2⟩ := hlen
      have hend : leftOf L1 L2 = leftOf (L1.take k) (L2.take k) := by rw [List.take_of_length_le (by omega), List.take_of_length_le (by omega)]
      rw [hend] at hfin
      replace hfin := Aside0.mk hfin
      clear hPf hPo hend hsucc hGb hHF
      go_wp2_with fail
      go_loopw [57, 16] (fun i v wt => ∃ (m : Nat) (A1 : Option Addr) (c1 : Nat), m ≤ k ∧ i = .int .i64 m ∧ v = .slice A1 (leftOf (L1.take m) (L2.take m)).length c1 ∧ Aside0 (Kd.R k25 25 wt w.heap.size (fun g => g ≠ G ∧ g ≠ w1.heap.size) (.slice A1 (leftOf (L1.take m) (L2.take m)).length c1) (leftOf (L1.take m) (L2.take m))) ∧ Aside0 (Row wt G c' L1) ∧ Aside0 (Bls wt w1.heap.size L2) ∧ Aside0 (Below w.heap.size w wt)) (fun i _ _ => k - (intOf i).toNat)
      case atStart => exact ⟨0, none, 0, Nat.zero_le _, rfl, rfl, ⟨Kd.R_nil _ _ _ _ _⟩, hrow, hbls, HB⟩
      case round =>
        clear hrow hbls HB
        obtain ⟨m, A1, c1, hm, rfl, rfl, hR, hrow, hbls, HB⟩ := hrel
        by_cases hmt : m < k
        · have hll := leftOf_length (L1.take m) (L2.take m)
          rw [List.length_take] at hll
          have hst := leftOf_take L1 L2 m (by omega) (by omega)
          have hpd : L1.getD m z25 = L1[m] := by simp [List.getD_eq_getElem?_getD, List.getElem?_eq_getElem (show m < L1.length by omega)]
          have x0 := hrow.out.cell (i := m) (j := 0) (by omega) (by omega)
          have x1 := hrow.out.cell (i := m) (j := 1) (by omega) (by omega)
          have x2 := hrow.out.cell (i := m) (j := 2) (by omega) (by omega)
          have x3 := hrow.out.cell (i := m) (j := 3) (by omega) (by omega)
          have x4 := hrow.out.cell (i := m) (j := 4) (by omega) (by omega)
          have x5 := hrow.out.cell (i := m) (j := 5) (by omega) (by omega)
          have x6 := hrow.out.cell (i := m) (j := 6) (by omega) (by omega)
          have x7 := hrow.out.cell (i := m) (j := 7) (by omega) (by omega)
          have x8 := hrow.out.cell (i := m) (j := 8) (by omega) (by omega)
          have y := hbls.out.cell (i := m) (by omega)
          have hsz := hbls.out.lt
          rw [hpd] at x0 x1 x2 x3 x4 x5 x6 x7 x8
          clear hpd
          have b0 : (0 : Int) ≤ (m : Int) := by omega
          have b1 : (m : Int) < (k : Int) := by omega
          replace hl1 := Aside0.mk hl1
          replace hl2 := Aside0.mk hl2
          generalize L1[m] = q at *
          generalize L2[m] = gm at *
          simp [cells] at x0 x1 x2 x3 x4 x5 x6 x7 x8
          have hR2 := Aside0.mk (Kd.R_alloc hR.out (.cells (cells q) 25))
          have hrow2 := Aside0.mk (hrow.out.alloc (.cells (cells q) 25))
          have hbls2 := Aside0.mk (hbls.out.alloc (.cells (cells q) 25))
          have HB2 := Aside0.mk (HB.out.alloc HB.out.size (.cells (cells q) 25))
          unfold cells at hR2 hrow2 hbls2 HB2
          clear hR hrow hbls HB
          generalize hY : leftOf (L1.take m) (L2.take m) = Y at *
          generalize hZ : leftOf (L1.take (m + 1)) (L2.take (m + 1)) = Z at *
          replace hY := Aside0.mk hY
          replace hZ := Aside0.mk hZ
          have hYl : Y.length ≤ 1000 := by omega
          replace hll := Aside0.mk hll
          cases gm with
          | true =>
            rw [if_pos rfl, List.append_nil] at hst
            replace hst := Aside0.mk hst
            go_wp2_with fail
            go_roundw
            case rel => exact ⟨m + 1, A1, c1, by omega, by go_num, by rw [hZ.out, hst.out], by rw [hZ.out, hst.out]; exact hR2, hrow2, hbls2, HB2⟩
            case measure => simp [intOf]; omega
          | false =>
            rw [if_neg (by simp)] at hst
            have hzl : Z.length = Y.length + 1 := by rw [hst]; simp
            replace hst := Aside0.mk hst
            replace hzl := Aside0.mk hzl
            go_wp2_with (first
              | ((with_reducible refine gate_dst (N := 70) rfl ?_); (refine Kd.R_append k25 (w0 := w) w.heap.size rfl (.tmp 67) (.tmp 69) 23 25 _ 72 rfl Try.underlying23 info25 rfl (by decide) (by decide) _ Y q [.int .i64 q.f0, .int .i64 q.f1, .int .i64 q.f2, .int .i64 q.f3, .int .i64 q.f4, .int .i64 q.f5, .int .i64 q.f6, .int .i64 q.f7, .int .i64 q.f8] (fun g => g ≠ G ∧ g ≠ w1.heap.size) (fun _ => False) rfl (by first | rfl | (simp [Act.eval]; done) | go_simp) (k25_mkM _ _ _ q) (fun _ hk => hk.elim) (fun g hg => ⟨fun h => absurd (h ▸ hg) (Nat.not_le.2 hrow2.out.lt), fun h => absurd (h ▸ hg) (Nat.not_le.2 hbls2.out.lt)⟩) hR2.out HB2.out HB2.out.size (by omega) ?_); intro v4 w4 ho4 hb4 hg4 hat4; replace hrow2 := Aside0.mk (hrow2.out.other hg4 (fun h => (hR2.out.1 G h.symm).1 rfl)); replace hbls2 := Aside0.mk (hbls2.out.other hg4 (fun h => (hR2.out.1 _ h.symm).2 rfl)); rw [← hst.out] at ho4; obtain ⟨A4, c4, e4⟩ := Kd.R_slice ho4; subst e4; replace ho4 := Aside0.mk ho4; replace HB2 := Aside0.mk hb4; clear hg4 hat4 hR2 hb4)
              | fail)
            go_roundw
            case rel => exact ⟨m + 1, A4, c4, by omega, by go_num, by rw [hZ.out], by rw [hZ.out]; exact ho4, hrow2, hbls2, HB2⟩
            case measure => simp [intOf]; omega
        · have hmk : m = k := by omega
          subst hmk
          rw [← hfin.out] at hR
          rw [← hfin.out]
          go_wp2_with fail
          go_ret
          exact ⟨⟨A1, _, c1, rfl, Kd.R_mono hR.out (fun _ _ => trivial)⟩, HB.out⟩

theorem gemF_nil : gemF [] = [] := by unfold gemF meetF leftOf iterM; rfl
theorem meet_gem (A : Option Addr) (n c : Nat) (l : List S25) (w : World) (HC : Kd.C k25 w A n l) (hn : n ≤ 1000) :
    Calls Try.prog 12 #[.slice A n c, .int .i64 3, .int .i64 32, .func (.func 19) #[] #[], .func (.func 20) #[] #[]] w fun e w' => (∃ A' n' c', e = .returned (.slice A' n' c') ∧ Kd.R k25 25 w' w.heap.size (fun _ => True) (.slice A' n' c') (gemF l)) ∧ Below w.heap.size w w' := by
  rcases Nat.eq_zero_or_pos n with h0 | h0
  · have hx : l = [] := List.eq_nil_of_length_eq_zero (HC.1.trans h0)
    subst h0 hx
    exact (meet_gem_zero A c w HC).mono fun e w' h => ⟨⟨none, 0, 0, h.1, gemF_nil ▸ Kd.R_nil _ _ _ _ _⟩, h.2⟩
  · exact meet_gem_some A n c l w HC hn h0
/-- what the program calls it by -/
theorem gems_c (A : Option Addr) (n c : Nat) (l : List S25) (w : World) (HC : Kd.C k25 w A n l) (hn : n ≤ 1000) :
    Calls Try.prog 10 #[.slice A n c] w fun e w' => (∃ A' n' c', e = .returned (.slice A' n' c') ∧ Kd.R k25 25 w' w.heap.size (fun _ => True) (.slice A' n' c') (gemF l)) ∧ Below w.heap.size w w' := by
  have k := Aside0.mk (meet_gem A n c l w HC hn)
  generalize gemF l = r at *
  go_enter Try.func10, Try.ntmps10
  go_wp2_with (first
    | (go_at_call 12; (with_reducible refine k.out.mono ?_); rintro e w1 ⟨⟨A', n', c', rfl, h1⟩, hb1⟩; replace h1 := Aside0.mk h1; replace hb1 := Aside0.mk hb1)
    | fail)
  go_ret
  exact ⟨⟨A', n', c', rfl, h1.out⟩, hb1.out⟩
end Go.Proofs.Ytjgedonhfiifmaa.Hit
