/- Contracts over lists of messages: Add's closure, slices.IndexFunc, ContainsFunc, Clone. -/
import Derived.Test.YtnenhlgpkfelcaaLaw
namespace Go.Proofs.Ytnenhlgpkfelcaa.Box
open Go Go.RowKit Go.Maps Go.Proofs.Ytnenhlgpkfelcaa.POutboxPlays Go.Proofs.YtnenhlgpkfelcaaW.PrintWords Go.Proofs.YtnenhlgpkfelcaaW.PrintLast Go.Proofs.YtnenhlgpkfelcaaW.PrintMore
set_option linter.unusedVariables false

def cr (p : S36) : Value := .agg #[.int .i64 p.f0, .int .i64 p.f1, .int .i64 p.f2, .int .i64 p.f3, .int .i64 p.f4.f0, .int .i64 p.f4.f1, .int .i64 p.f4.f2, .int .i64 p.f4.f3, .int .i64 p.f4.f4, .int .i64 p.f4.f5, .int .i64 p.f4.f6, .int .i64 p.f4.f7, .int .i64 p.f4.f8, .int .i64 p.f5, .int .i64 p.f6]
theorem blk_cell' {w : World} {B t : Nat} {cs : Array Value} (h : w.heap[B]? = some (.cells cs t (0, 0))) (j : Nat) : w.cell? ⟨B, j, none⟩ = cs[j]? := cell_of_row w B j cs t (0, 0) h
theorem blk_lt' {w : World} {B : Nat} {o : Obj} (h : w.heap[B]? = some o) : B < w.heap.size := (Array.getElem?_eq_some_iff.1 h).1

theorem pred_c (Po : Nat) (reg frm : Int) (sl : Value) (p : S36) (w : World) (ho : w.heap[Po]? = some (.cells #[.int .i64 reg, .int .i64 frm, sl] 30 (0, 0))) :
    Calls Try.prog 23 #[cr p, .pointer (some ⟨Po, 0, none⟩)] w fun e w' => e = .returned (.bool (p.f1 != reg || p.f3 != frm)) ∧ Below w.heap.size w w' := by
  have lo := blk_lt' ho
  have c0 := blk_cell' ho 0
  have c1 := blk_cell' ho 1
  simp at c0 c1
  replace ho := Aside0.mk ho
  unfold cr
  by_cases h1 : p.f1 = reg
  · have hb : (p.f1 != reg) = false := by simp [h1]
    rw [hb, Bool.false_or]
    by_cases h2 : p.f3 = frm
    · have hb2 : (p.f3 != frm) = false := by simp [h2]
      rw [hb2]
      go_enter Try.func23, Try.ntmps23
      go_wp2_with fail
      go_ret
      exact ⟨by simp [h1, h2], (Below.refl _ _).alloc (Nat.le_refl _) _⟩
    · have hb2 : (p.f3 != frm) = true := by simp [h2]
      rw [hb2]
      go_enter Try.func23, Try.ntmps23
      go_wp2_with fail
      go_ret
      exact ⟨by simp [h1], (Below.refl _ _).alloc (Nat.le_refl _) _⟩
  · have hb : (p.f1 != reg) = true := by simp [h1]
    rw [hb, Bool.true_or]
    go_enter Try.func23, Try.ntmps23
    go_wp2_with fail
    go_ret
    exact ⟨by simp, (Below.refl _ _).alloc (Nat.le_refl _) _⟩

/-- the place of the first of which it holds; -1 -/
def idx (P : S36 → Bool) (l : List S36) : Int := if l.any P = true then (l.findIdx P : Int) else -1
theorem idx_found (P : S36 → Bool) (l : List S36) (k : Nat) (hk : k < l.length) (hno : (l.take k).any P = false) (hyes : P l[k] = true) : idx P l = (k : Int) := by
  have ha : l.any P = true := List.any_eq_true.2 ⟨l[k], List.getElem_mem hk, hyes⟩
  unfold idx
  rw [if_pos ha, (List.findIdx_eq hk).2 ⟨hyes, fun j hj => ?_⟩]
  have hjl : j < (l.take k).length := by rw [List.length_take]; omega
  have hm : (l.take k)[j] ∈ l.take k := List.getElem_mem hjl
  have hf := List.any_eq_false.1 hno _ hm
  rw [List.getElem_take] at hf
  simpa using hf
theorem idx_none (P : S36 → Bool) (l : List S36) (h : l.any P = false) : idx P l = -1 := by
  unfold idx
  rw [if_neg (by rw [h]; simp)]

set_option maxRecDepth 100000 in
set_option maxHeartbeats 4000000 in
theorem index_c (A : Option Addr) (n c : Nat) (l : List S36) (Po : Nat) (P : S36 → Bool) (w : World) (HC : Kd.C k36 w A n l) (hn : n ≤ 100000)
    (hcl : ∀ (p : S36) (W : World), Below w.heap.size w W → Calls Try.prog 23 #[cr p, .pointer (some ⟨Po, 0, none⟩)] W fun e w' => e = .returned (.bool (P p)) ∧ Below W.heap.size W w') :
    Calls Try.prog 28 #[.slice A n c, .func (.func 23) #[] #[.pointer (some ⟨Po, 0, none⟩)]] w fun e w' => e = .returned (.int .i64 (idx P l)) ∧ Below w.heap.size w w' := by
  have hl : l.length = n := HC.1
  replace HC := Aside0.mk HC
  replace hl := Aside0.mk hl
  unfold cr at hcl
  replace hcl := Aside0.mk hcl
  go_enter Try.func28, Try.ntmps28
  go_wp2_with fail
  go_loopw [8] (fun i wr => ∃ k : Nat, k ≤ n ∧ i = .int .i64 k ∧ Aside0 ((l.take k).any P = false) ∧ Aside0 (Below w.heap.size w wr)) (fun i _ => n - (intOf i).toNat)
  case atStart => exact ⟨0, Nat.zero_le _, rfl, ⟨by simp⟩, ⟨Below.refl _ _⟩⟩
  case round =>
    obtain ⟨k, hk, rfl, hno, HB⟩ := hrel
    by_cases hlt : k < n
    · obtain ⟨ad, e1, x0, x1, x2, x3, x4, x5, x6, x7, x8, x9, x10, x11, x12, x13, x14⟩ := at_T36 (Kd.C_below HC.out HB.out) (k : Int) (by omega) (by omega)
      rw [Int.toNat_natCast] at x0 x1 x2 x3 x4 x5 x6 x7 x8 x9 x10 x11 x12 x13 x14
      subst e1
      have hlk : k < l.length := by rw [hl.out]; exact hlt
      have hrd : rd_T36 l (k : Int) = l[k] := by simp [rd_T36, List.getD_eq_getElem?_getD, List.getElem?_eq_getElem hlk]
      have htk : (l.take (k + 1)).any P = ((l.take k).any P || P l[k]) := by
        rw [List.take_succ_eq_append_getElem hlk, List.any_append]
        simp
      rw [hno.out, Bool.false_or] at htk
      have hf := idx_found P l k hlk hno.out
      rw [hrd] at x0 x1 x2 x3 x4 x5 x6 x7 x8 x9 x10 x11 x12 x13 x14
      clear hrd
      generalize l[k] = p at *
      have k1 := hcl.out p
      generalize hb : P p = b at *
      clear hb
      replace k1 := Aside0.mk k1
      replace htk := Aside0.mk htk
      replace hf := Aside0.mk hf
      have b0 : (0 : Int) ≤ (k : Int) := by omega
      have b1 : (k : Int) < (n : Int) := by omega
      clear hlk
      cases b with
      | true =>
        replace hf := Aside0.mk (hf.out rfl)
        go_wp2_with (first | (go_at_call 23; (with_reducible refine (k1.out _ HB.out).mono ?_); rintro e w3 ⟨rfl, hb3⟩; replace HB := Aside0.mk (below_then HB.out HB.out.size hb3); clear hb3) | fail)
        go_ret
        exact ⟨by rw [hf.out]; rfl, HB.out⟩
      | false =>
        clear hf
        go_wp2_with (first | (go_at_call 23; (with_reducible refine (k1.out _ HB.out).mono ?_); rintro e w3 ⟨rfl, hb3⟩; replace HB := Aside0.mk (below_then HB.out HB.out.size hb3); clear hb3) | fail)
        go_roundw
        case rel => exact ⟨k + 1, by omega, by go_num, htk, HB⟩
        case measure => simp [intOf]; omega
    · have hall : l.any P = false := by
        have := hno.out
        rwa [List.take_of_length_le (by rw [hl.out]; omega)] at this
      have hi := Aside0.mk (idx_none P l hall)
      clear hall
      go_wp2_with fail
      go_ret
      exact ⟨by rw [hi.out]; rfl, HB.out⟩
end Go.Proofs.Ytnenhlgpkfelcaa.Box
