/- The contract of Get. -/
import Derived.Test.YtnenhlgpkfelcaaAddL2
namespace Go.Proofs.Ytnenhlgpkfelcaa.Box2
open Go.Proofs.Ytnenhlgpkfelcaa.Box
open Go Go.RowKit Go.Maps Go.Proofs.Ytnenhlgpkfelcaa.POutboxPlays Go.Proofs.YtnenhlgpkfelcaaW.PrintWords Go.Proofs.YtnenhlgpkfelcaaW.PrintLast Go.Proofs.YtnenhlgpkfelcaaW.PrintMore
set_option linter.unusedVariables false
set_option linter.unusedSimpArgs false
theorem getOut_c (B R xc k N : Nat) (ms : Nat → Nat) (Fs : Nat → Int → Option Value) (r f : Int) (hit : isB k r = false) (w : World) (h : St w B R xc k N ms Fs) :
    Calls Try.prog 12 #[.pointer (some ⟨B, 0, none⟩), .int .i64 r, .int .i64 f] w fun e w' => e = .returned (.tuple #[.slice none 0 0, .bool false]) ∧ w' = w := by
  have hi := is_c B R xc k N ms Fs r w h
  rw [hit] at hi
  replace hi := Aside0.mk hi
  go_enter Try.func12, Try.ntmps12
  go_wp2_with (first | (go_at_call 21; (with_reducible refine hi.out.mono ?_); rintro e w' ⟨rfl, hw⟩; subst w') | fail)
  go_ret2
  exact ⟨rfl, rfl⟩
set_option maxRecDepth 100000 in
set_option maxHeartbeats 4000000 in
theorem get_c (B R xc k N : Nat) (ms : Nat → Nat) (Fs : Nat → Int → Option Value) (r : Nat) (hr : r < k) (hk : k ≤ 100) (f : Int) (hf : (Lit.int .i64 f).wf = true) (A : Option Addr) (n c : Nat) (l : List S36) (w : World) (h : St w B R xc k N ms Fs) (hv : (Fs r f).getD nilS = .slice A n c) (HC : Kd.C k36 w A n l) (hn : n ≤ 100000) :
    Calls Try.prog 12 #[.pointer (some ⟨B, 0, none⟩), .int .i64 (r : Int), .int .i64 f] w fun e w' => (∃ A' c', e = .returned (.tuple #[.slice A' l.length c', .bool (Fs r f).isSome]) ∧ Kd.R k36 36 w' w.heap.size (fun _ => True) (.slice A' l.length c') l) ∧ Below w.heap.size w w' := by
  have hi := is_c B R xc k N ms Fs (r : Int) w h
  have hit : isB k (r : Int) = true := by unfold isB; simp; omega
  rw [hit] at hi
  replace hi := Aside0.mk hi
  have b0 : (0 : Int) ≤ (r : Int) := by omega
  have b1 : (r : Int) < (k : Int) := by omega
  obtain ⟨c1, c2⟩ := h.cells
  have c3 := c2 r hr
  clear c2
  have hlk := (h.maps r hr).look (key := f) hf
  rw [hv] at hlk
  generalize hth : (Fs r f).isSome = th at *
  replace hth := Aside0.mk hth
  replace h := Aside0.mk h
  have hclone := Aside0.mk (fun W (hC : Kd.C k36 W A n l) => clone_c A n c l W hC hn)
  replace HC := Aside0.mk HC
  go_enter Try.func12, Try.ntmps12
  go_wp2_with (first
    | (go_at_call 21; (with_reducible refine hi.out.mono ?_); rintro e w' ⟨rfl, hw⟩; subst w')
    | (go_at_call 24; (with_reducible refine (hclone.out _ HC.out).mono ?_); rintro e w3 ⟨⟨A', c', rfl, hR⟩, hb⟩; replace hR := Aside0.mk hR; replace hb := Aside0.mk hb)
    | fail)
  go_ret2
  exact ⟨⟨A', c', rfl, hR.out⟩, hb.out⟩
end Go.Proofs.Ytnenhlgpkfelcaa.Box2
