/- The contract of awake. -/
import Derived.Test.YtnenhlgpkfelcaaStore
namespace Go.Proofs.Ytnenhlgpkfelcaa.Box
open Go Go.RowKit Go.Maps Go.Proofs.Ytnenhlgpkfelcaa.POutboxPlays Go.Proofs.YtnenhlgpkfelcaaW.PrintWords Go.Proofs.YtnenhlgpkfelcaaW.PrintLast Go.Proofs.YtnenhlgpkfelcaaW.PrintMore
set_option linter.unusedVariables false
theorem St.drew {w : World} {B R k N : Nat} {ms : Nat → Nat} {Fs : Nat → Int → Option Value} (h : St w B R k N ms Fs) : St w.drew B R k N ms Fs := h.move rfl rfl fun _ _ => rfl
def F0 : Nat → Int → Option Value := fun _ _ => none
def F1 : Nat → Int → Option Value := addF 0 0 F0
theorem aw1 (B R : Nat) (ms : Nat → Nat) (w : World) (h : St w B R 2 0 ms F0) : Calls Try.prog 10 #[.pointer (some ⟨B, 0, none⟩), .int .i64 0, .int .i64 0] w fun e w' => e = .returned (.int .i64 0) ∧ Drawn0 w w' :=
  missing_c B R 2 0 ms F0 0 (by omega) 0 0 (by omega) (by omega) rfl (fun j hj => absurd hj (Nat.not_lt_zero _)) (by omega) w h
theorem aw2 (B R : Nat) (ms : Nat → Nat) (w : World) (h : St w B R 2 0 ms F0) : Calls Try.prog 9 #[.pointer (some ⟨B, 0, none⟩), .agg #[.int .i64 0, .int .i64 0, .slice none 0 0]] w fun e w' => e = .returned (.bool true) ∧ St w' B R 2 1 ms F1 ∧ (∀ w0 : World, Below w0.heap.size w0 w → w0.heap.size ≤ ms 0 → Below w0.heap.size w0 w') :=
  (add_c B R 2 0 ms F0 0 (by omega) (by omega) 0 (by omega) (by omega) 0 (by omega) w h).mono fun e w' h => ⟨h.1, h.2.1, h.2.2.1⟩
theorem aw3 (B R : Nat) (ms : Nat → Nat) (w : World) (h : St w B R 2 1 ms F1) : Calls Try.prog 10 #[.pointer (some ⟨B, 0, none⟩), .int .i64 0, .int .i64 0] w fun e w' => e = .returned (.int .i64 1) ∧ Drawn0 w w' :=
  missing_c B R 2 1 ms F1 0 (by omega) 0 1 (by omega) (by omega) rfl (fun j hj => by obtain rfl : j = 0 := by omega
                                                                                     rfl) (by omega) w h
theorem aw4 (B R : Nat) (ms : Nat → Nat) (w : World) (h : St w B R 2 1 ms F1) : Calls Try.prog 9 #[.pointer (some ⟨B, 0, none⟩), .agg #[.int .i64 0, .int .i64 0, .slice none 0 0]] w fun e w' => e = .returned (.bool false) ∧ (∀ w0 : World, Below w0.heap.size w0 w → w0.heap.size ≤ ms 0 → Below w0.heap.size w0 w') :=
  (add_c B R 2 1 ms F1 0 (by omega) (by omega) 0 (by omega) (by omega) 0 (by omega) w h).mono fun e w' h => ⟨h.1, h.2.2.1⟩

set_option maxRecDepth 100000 in
set_option maxHeartbeats 4000000 in
theorem awake_c (w : World) : Calls Try.prog 8 #[] w fun e w' => e = .returned (.bool true) ∧ Below w.heap.size w w' := by
  have hnew := new_c 2 (by omega) (by omega) w
  rw [show ((2 : Nat) : Int) = 2 from rfl] at hnew
  replace hnew := Aside0.mk hnew
  go_enter Try.func8, Try.ntmps8
  go_wp2_with (first
    | (go_at_call 7; (with_reducible refine hnew.out.mono ?_); rintro e w1 ⟨⟨B, R, ms, rfl, hB, hR, hms, hS⟩, hb1⟩; replace hS := Aside0.mk hS; replace hb1 := Aside0.mk hb1)
    | (go_at_call 10; (with_reducible refine (aw1 _ _ _ _ hS.out).mono ?_); rintro e w' ⟨rfl, ⟨q1, rfl⟩⟩; replace hS := Aside0.mk (hS.out.drewN q1); replace hb1 := Aside0.mk (pw_below_drewN hb1.out q1))
    | (go_at_call 9; (with_reducible refine (aw2 _ _ _ _ hS.out).mono ?_); rintro e w2 ⟨rfl, hS2, hf⟩; replace hb1 := Aside0.mk (hf _ hb1.out (hms 0 (by omega))); clear hf hS; replace hS2 := Aside0.mk hS2)
    | (go_at_call 10; (with_reducible refine (aw3 _ _ _ _ hS2.out).mono ?_); rintro e w' ⟨rfl, ⟨q3, rfl⟩⟩; replace hS2 := Aside0.mk (hS2.out.drewN q3); replace hb1 := Aside0.mk (pw_below_drewN hb1.out q3))
    | (go_at_call 9; (with_reducible refine (aw4 _ _ _ _ hS2.out).mono ?_); rintro e w4 ⟨rfl, hf⟩; replace hb1 := Aside0.mk (hf _ hb1.out (hms 0 (by omega))); clear hf hS2)
    | fail)
  go_ret
  exact ⟨rfl, hb1.out⟩
end Go.Proofs.Ytnenhlgpkfelcaa.Box
