/- The contract of slices.IndexFunc at entities, with meet's closure handed in. -/
import Derived.Test.YtjgedonhfiifmaaHit2
namespace Go.Proofs.Ytjgedonhfiifmaa.Hit
open Go.RowKit Go.Proofs.Ytjgedonhfiifmaa.PHittingOnly Go.Proofs.YtjgedonhfiifmaaW.PrintWords Go.Proofs.YtjgedonhfiifmaaW.PrintLast Go.Proofs.YtjgedonhfiifmaaW.PrintMore
open Go.Proofs.Ytjgedonhfiifmaa.Plain
set_option linter.unusedVariables false

/-- the place of the first of which it holds; -1 -/
def idx (P : S25 → Bool) (l : List S25) : Int := if l.any P = true then (l.findIdx P : Int) else -1

theorem idx_found (P : S25 → Bool) (l : List S25) (k : Nat) (hk : k < l.length) (hno : (l.take k).any P = false) (hyes : P l[k] = true) : idx P l = (k : Int) := by
  have ha : l.any P = true := List.any_eq_true.2 ⟨l[k], List.getElem_mem hk, hyes⟩
  unfold idx
  rw [if_pos ha, (List.findIdx_eq hk).2 ⟨hyes, fun j hj => ?_⟩]
  have hjl : j < (l.take k).length := by rw [List.length_take]; omega
  have hm : (l.take k)[j] ∈ l.take k := List.getElem_mem hjl
  have hf := List.any_eq_false.1 hno _ hm
  rw [List.getElem_take] at hf
  simpa using hf

theorem idx_none (P : S25 → Bool) (l : List S25) (h : l.any P = false) : idx P l = -1 := by
  unfold idx
  rw [if_neg (by rw [h]; simp)]

set_option maxHeartbeats 1600000 in
theorem index_c (A : Option Addr) (n c : Nat) (l : List S25) (Po Pt Pf : Nat) (P : S25 → Bool) (w : World) (HC : Kd.C k25 w A n l) (hn : n ≤ 100000)
    (hcl : ∀ (p : S25) (W : World), Below w.heap.size w W → Calls Try.prog 25 #[ent p, .pointer (some ⟨Po, 0, none⟩), .pointer (some ⟨Pt, 0, none⟩), .pointer (some ⟨Pf, 0, none⟩)] W fun e w' => e = .returned (.bool (P p)) ∧ Below W.heap.size W w') :
    Calls Try.prog 24 #[.slice A n c, .func (.func 25) #[] #[.pointer (some ⟨Po, 0, none⟩), .pointer (some ⟨Pt, 0, none⟩), .pointer (some ⟨Pf, 0, none⟩)]] w fun e w' => e = .returned (.int .i64 (idx P l)) ∧ Below w.heap.size w w' := by
  have hl : l.length = n := HC.1
  replace HC := Aside0.mk HC
  replace hl := Aside0.mk hl
  unfold ent at hcl
  replace hcl := Aside0.mk hcl
  go_enter Try.func24, Try.ntmps24
  go_wp2_with fail
  go_loopw [8] (fun i wr => ∃ k : Nat, k ≤ n ∧ i = .int .i64 k ∧ Aside0 ((l.take k).any P = false) ∧ Aside0 (Below w.heap.size w wr)) (fun i _ => n - (intOf i).toNat)
  case atStart => exact ⟨0, Nat.zero_le _, rfl, ⟨by simp⟩, ⟨Below.refl _ _⟩⟩
  case round =>
    obtain ⟨k, hk, rfl, hno, HB⟩ := hrel
    by_cases hlt : k < n
    · obtain ⟨ad, e1, x0, x1, x2, x3, x4, x5, x6, x7, x8⟩ := at_T25 (Kd.C_below HC.out HB.out) (k : Int) (by omega) (by omega)
      rw [Int.toNat_natCast] at x0 x1 x2 x3 x4 x5 x6 x7 x8
      subst e1
      have hlk : k < l.length := by rw [hl.out]; exact hlt
      have hrd : rd_T25 l (k : Int) = l[k] := by simp [rd_T25, List.getD_eq_getElem?_getD, List.getElem?_eq_getElem hlk]
      have htk : (l.take (k + 1)).any P = ((l.take k).any P || P l[k]) := by
        rw [List.take_succ_eq_append_getElem hlk, List.any_append]
        simp
      rw [hno.out, Bool.false_or] at htk
      have hf := idx_found P l k hlk hno.out
      rw [hrd] at x0 x1 x2 x3 x4 x5 x6 x7 x8
      clear hrd
      generalize l[k] = p at *
      have k1 := hcl.out p
      generalize hb : P p = b at *
      clear hb
      replace k1 := Aside0.mk k1
      replace htk := Aside0.mk htk
      replace hf := Aside0.mk hf
      have b0 : (0 : Int) ≤ (k : Int) := by omega
      have b1 : (k : Int) < (n : Int) := by omega
      clear hlk
      cases b with
      | true =>
        replace hf := Aside0.mk (hf.out rfl)
        go_wp2_with (first | (go_at_call 25; (with_reducible refine (k1.out _ HB.out).mono ?_); rintro e w3 ⟨rfl, hb3⟩; replace HB := Aside0.mk (below_then HB.out HB.out.size hb3); clear hb3) | fail)
        go_ret
        exact ⟨by rw [hf.out]; rfl, HB.out⟩
      | false =>
        clear hf
        go_wp2_with (first | (go_at_call 25; (with_reducible refine (k1.out _ HB.out).mono ?_); rintro e w3 ⟨rfl, hb3⟩; replace HB := Aside0.mk (below_then HB.out HB.out.size hb3); clear hb3) | fail)
        go_roundw
        case rel => exact ⟨k + 1, by omega, by go_num, htk, HB⟩
        case measure => simp [intOf]; omega
    · have hall : l.any P = false := by
        have := hno.out
        rwa [List.take_of_length_le (by rw [hl.out]; omega)] at this
      have hi := Aside0.mk (idx_none P l hall)
      clear hall
      go_wp2_with fail
      go_ret
      exact ⟨by rw [hi.out]; rfl, HB.out⟩
end Go.Proofs.Ytjgedonhfiifmaa.Hit
