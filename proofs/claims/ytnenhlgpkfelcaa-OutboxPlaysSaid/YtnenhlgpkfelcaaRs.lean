/- The reference's store: what stands there; NewStore, Get. -/
import Derived.Test.YtnenhlgpkfelcaaOwnC
import Derived.Test.YtnenhlgpkfelcaaKept
namespace Go.Proofs.Ytnenhlgpkfelcaa.Box2
open Go.Proofs.Ytnenhlgpkfelcaa.Box
open Go Go.RowKit Go.Maps Go.Proofs.Ytnenhlgpkfelcaa.POutboxPlays Go.Proofs.YtnenhlgpkfelcaaW.PrintWords Go.Proofs.YtnenhlgpkfelcaaW.PrintLast Go.Proofs.YtnenhlgpkfelcaaW.PrintMore
set_option linter.unusedVariables false
set_option linter.unusedSimpArgs false
structure Rs (w : World) (B R k base : Nat) (vs : Nat → Value) (LL : Nat → List S30) : Prop where
  box : w.heap[B]? = some (.cells #[.slice (some ⟨R, 0, none⟩) k k] 61 (0, 0))
  row : ∃ cur : Array Value, w.heap[R]? = some (.cells cur 40 (0, 0)) ∧ cur.size = k ∧ ∀ i, i < k → cur[i]? = some (vs i)
  rows : ∀ i, i < k → Kd.R k30 30 w base (fun _ => True) (vs i) (LL i)
  apart : ∀ i j, i < k → j < k → i ≠ j → ∀ b, (vs i).ownBlock = some b → some b ≠ (vs j).ownBlock
  hb : base ≤ B ∧ base ≤ R
section
variable {w w' : World} {B R k base : Nat} {vs : Nat → Value} {LL : Nat → List S30}
theorem Rs.lt (h : Rs w B R k base vs LL) : B < w.heap.size ∧ R < w.heap.size := by
  obtain ⟨cur, hr, _⟩ := h.row
  exact ⟨blk_lt' h.box, blk_lt' hr⟩
theorem Rs.cells (h : Rs w B R k base vs LL) : w.cell? ⟨B, 0, none⟩ = some (.slice (some ⟨R, 0, none⟩) k k) ∧ ∀ i, i < k → w.cell? ⟨R, i, none⟩ = some (vs i) := by
  obtain ⟨cur, hr, hc, hm⟩ := h.row
  exact ⟨blk_cell' h.box 0, fun i hi => (blk_cell' hr i).trans (hm i hi)⟩
theorem Rs.below (h : Rs w B R k base vs LL) (hb : Below w.heap.size w w') : Rs w' B R k base vs LL := by
  obtain ⟨cur, hr, hc, hm⟩ := h.row
  exact ⟨(hb.block B h.lt.1).trans h.box, ⟨cur, (hb.block R h.lt.2).trans hr, hc, hm⟩, fun i hi => Kd.R_below (h.rows i hi) hb, h.apart, h.hb⟩
end
/-- the list of a frame -/
def look (L : List S30) (f : Int) : Option (List S36) := (L.reverse.find? (fun o => o.f1 == f)).map (fun o => o.f2)
theorem look_nil (f : Int) : look [] f = none := rfl
theorem look_snoc (L : List S30) (o : S30) (f : Int) : look (L ++ [o]) f = if o.f1 = f then some o.f2 else look L f := by
  unfold look
  rw [List.reverse_append, List.reverse_singleton, List.singleton_append, List.find?_cons]
  by_cases h : o.f1 = f
  · rw [if_pos h, beq_iff_eq.2 h]
    rfl
  · rw [if_neg h, beq_eq_false_iff_ne.2 h]
theorem look_take (L : List S30) (j : Nat) (hj : j < L.length) (f : Int) : look (L.take (j + 1)) f = if L[j].f1 = f then some L[j].f2 else look (L.take j) f := by
  rw [List.take_succ_eq_append_getElem hj, look_snoc]
theorem look_all (L : List S30) (f : Int) : look (L.take L.length) f = look L f := by rw [List.take_length]
/-- a message list in a row of what was learned -/
theorem row30 {w : World} {base : Nat} {v : Value} {L : List S30} (h : Kd.R k30 30 w base (fun _ => True) v L) (i : Nat) (hi : i < L.length) :
    ∃ g c A1 c1, v = .slice (some ⟨g, 0, none⟩) L.length c ∧ w.cell? ⟨g, i * 3, none⟩ = some (.int .i64 L[i].f0) ∧ w.cell? ⟨g, i * 3 + 1, none⟩ = some (.int .i64 L[i].f1) ∧ w.cell? ⟨g, i * 3 + 2, none⟩ = some (.slice A1 L[i].f2.length c1) ∧ Kd.C k36 w A1 L[i].f2.length L[i].f2 := by
  obtain ⟨A, c, rfl, hl, hC⟩ := Kd.R_reads h
  obtain ⟨g, cap, e, _⟩ := Kd.R_form h (by omega)
  injection e with e1 e2 e3
  subst e1
  obtain ⟨ad, cs, e, hlen, hK, hcell⟩ := hC.get_ z30 (i : Int) (by omega) (by omega)
  injection e with e
  subst e
  rw [Int.toNat_natCast] at hK hcell
  have hgd : L.getD i z30 = L[i] := by rw [List.getD_eq_getElem?_getD, List.getElem?_eq_getElem hi]; rfl
  rw [hgd] at hK
  obtain ⟨A1, c1, rfl, hl1, hC1⟩ := k30_open hK
  have hz : k30.sz = 3 := rfl
  have h0 := hcell 0 _ rfl
  have h1 := hcell 1 _ rfl
  have h2 := hcell 2 _ rfl
  rw [hz, Addr.add_lit, Nat.zero_add] at h0 h1 h2
  exact ⟨g, c, A1, c1, rfl, h0, h1, h2, hC1⟩
/-- what Get tells -/
def Got (o : Option (List S36)) (w : World) (e : Ending) (w' : World) : Prop := (∃ A' c', e = .returned (.tuple #[.slice A' (o.getD []).length c', .bool o.isSome]) ∧ Kd.C k36 w' A' (o.getD []).length (o.getD [])) ∧ Below w.heap.size w w'
theorem Got.none (w : World) : Got none w (.returned (.tuple #[.slice none 0 0, .bool false])) w := ⟨⟨Option.none, 0, rfl, Kd.C_nil _ _⟩, Below.refl _ _⟩
theorem Got.some {w w' : World} {l : List S36} {A : Option Addr} {c : Nat} (hC : Kd.C k36 w' A l.length l) (hb : Below w.heap.size w w') : Got (some l) w (.returned (.tuple #[.slice A l.length c, .bool true])) w' := ⟨⟨A, c, rfl, hC⟩, hb⟩
set_option maxHeartbeats 2000000 in
theorem rgetOut_c (r f : Int) (B R k base : Nat) (vs : Nat → Value) (LL : Nat → List S30) (w : World) (h : Rs w B R k base vs LL) (hr : r < 0 ∨ (k : Int) ≤ r) :
    Calls Try.prog 18 #[.pointer (some ⟨B, 0, none⟩), .int .i64 r, .int .i64 f] w fun e w' => e = .returned (.tuple #[.slice none 0 0, .bool false]) ∧ w' = w := by
  obtain ⟨q0, _⟩ := h.cells
  replace h := Aside0.mk h
  rcases (by omega : r < 0 ∨ (0 ≤ r ∧ (k : Int) ≤ r)) with h0 | ⟨h0, h1⟩
  · clear hr
    go_enter Try.func18, Try.ntmps18
    go_wp2_with fail
    go_ret2
    exact ⟨rfl, rfl⟩
  · clear hr
    go_enter Try.func18, Try.ntmps18
    go_wp2_with fail
    go_ret2
    exact ⟨rfl, rfl⟩
set_option maxRecDepth 100000 in
set_option maxHeartbeats 4000000 in
theorem rget_c (r : Nat) (f : Int) (B R k base : Nat) (vs : Nat → Value) (LL : Nat → List S30) (w : World) (h : Rs w B R k base vs LL) (hr : r < k) (hn : (LL r).length ≤ 1000) (hs : ∀ o ∈ LL r, o.f2.length ≤ 1000) :
    Calls Try.prog 18 #[.pointer (some ⟨B, 0, none⟩), .int .i64 (r : Int), .int .i64 f] w fun e w' => Got (look (LL r) f) w e w' := by
  obtain ⟨q0, qm⟩ := h.cells
  have q1 := qm r hr
  have hR := h.rows r hr
  obtain ⟨L, hL⟩ : ∃ L, L = LL r := ⟨_, rfl⟩
  rw [← hL] at hR hn hs ⊢
  replace hL := Aside0.mk hL
  replace h := Aside0.mk h
  obtain ⟨A, c, hv⟩ := Kd.R_slice hR
  rw [hv] at q1 hR
  have b0 : (0 : Int) ≤ (r : Int) := by omega
  have b1 : (r : Int) < (k : Int) := by omega
  have hall := look_all L f
  replace hR := Aside0.mk hR
  replace hs := Aside0.mk hs
  replace hv := Aside0.mk hv
  clear qm
  go_enter Try.func18, Try.ntmps18
  go_wp2_with fail
  go_loopw [9] (fun i wr => ∃ j : Nat, j ≤ L.length ∧ i = .int .i64 ((j : Int) - 1) ∧ Aside0 (wr = w) ∧ Aside0 (look L f = look (L.take j) f)) (fun i _ => (intOf i + 1).toNat)
  case atStart => exact ⟨L.length, Nat.le_refl _, by go_num, ⟨rfl⟩, ⟨hall.symm⟩⟩
  case round =>
    clear hall
    obtain ⟨j, hj, rfl, hw, hlk⟩ := hrel
    obtain rfl := hw.out
    rcases Nat.eq_zero_or_pos j with h0 | h0
    · subst h0
      have hnone : look L f = none := by rw [hlk.out]; rfl
      replace hnone := Aside0.mk hnone
      go_wp2_with fail
      go_ret2
      rw [hnone.out]
      exact Got.none _
    · obtain ⟨i, rfl⟩ : ∃ i, j = i + 1 := ⟨j - 1, by omega⟩
      obtain ⟨g, c', A1, c1, e, x0, x1, x2, hC1⟩ := row30 hR.out i (by omega)
      injection e with e1 e2 e3
      subst e1
      have hst := look_take L i (by omega) f
      have hsi := hs.out L[i] (List.getElem_mem (by omega))
      have z0 : (0 : Int) ≤ (i : Int) := by omega
      have z1 : (i : Int) < (L.length : Int) := by omega
      have z2 : (((i + 1 : Nat) : Int) - 1) = (i : Int) := by omega
      rw [z2]
      generalize L[i] = o at *
      by_cases ho : o.f1 = f
      · rw [if_pos ho] at hst
        have hsome : look L f = some o.f2 := by rw [hlk.out]; exact hst
        replace hC1 := Aside0.mk hC1
        rw [ho] at x1
        replace hsome := Aside0.mk hsome
        replace hst := Aside0.mk hst
        clear x0 ho
        go_wp2_with (first
          | ((with_reducible refine gate_dst (N := 47) rfl ?_); go_loud (refine Kd.R_append_rows k36 (w0 := wr) wr.heap.size rfl (.const (.slice none 0 0)) (.tmp 46) 28 36 _ 120 rfl Try.underlying28 info36 rfl (by decide) (by omega) (.slice none 0 0) [] o.f2 A1 o.f2.length c1 (fun _ => True) (fun _ => False) rfl rfl (Kd.R_nil _ _ _ _ _) hC1.out (fun _ _ h => K_M36 h) (fun _ h => h.elim) (fun _ _ => trivial) (Below.refl _ _) (Nat.le_refl _) (by simp; omega) ?_); intro v9 w9 hR9 hb9 hg9 hat9; rw [List.nil_append] at hR9; obtain ⟨A9, c9, e9⟩ := Kd.R_slice hR9; subst e9; replace hR9 := Aside0.mk hR9; replace hb9 := Aside0.mk hb9; clear hg9 hat9)
          | fail)
        go_ret2
        rw [hsome.out]
        exact Got.some (Kd.R_reads' hR9.out).2.2 hb9.out
      · rw [if_neg ho] at hst
        have z3 : (o.f1 == f) = false := beq_eq_false_iff_ne.2 ho
        have hlk2 : Aside0 (look L f = look (L.take i) f) := ⟨hlk.out.trans hst⟩
        clear hst hC1 x0 x2
        go_wp2_with fail
        go_roundw
        case rel => exact ⟨i, by omega, by go_num, ⟨by first | rfl | trivial⟩, hlk2⟩
        case measure => first | (simp [intOf]; done) | (simp [intOf]; omega)
end Go.Proofs.Ytnenhlgpkfelcaa.Box2
