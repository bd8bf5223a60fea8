/- The store: Add refuses what is out of the bounds; Missing, from anywhere on. -/
import Derived.Test.YtnenhlgpkfelcaaRaddG
namespace Go.Proofs.Ytnenhlgpkfelcaa.Box2
open Go.Proofs.Ytnenhlgpkfelcaa.Box
open Go Go.RowKit Go.Maps Go.Proofs.Ytnenhlgpkfelcaa.POutboxPlays Go.Proofs.YtnenhlgpkfelcaaW.PrintWords Go.Proofs.YtnenhlgpkfelcaaW.PrintLast Go.Proofs.YtnenhlgpkfelcaaW.PrintMore
set_option linter.unusedVariables false
set_option linter.unusedSimpArgs false
set_option maxRecDepth 100000 in
set_option maxHeartbeats 4000000 in
theorem addOut_c (B R xc k N : Nat) (ms : Nat → Nat) (Fs : Nat → Int → Option Value) (r : Int) (hk : k ≤ 100) (f : Int) (hit : isB k r = false) (A : Option Addr) (n c : Nat) (w : World) (h : St w B R xc k N ms Fs) :
    Calls Try.prog 9 #[.pointer (some ⟨B, 0, none⟩), .agg #[.int .i64 r, .int .i64 f, .slice A n c]] w fun e w' => e = .returned (.bool false) ∧ Below w.heap.size w w' := by
  have hi := fun W (hh : St W B R xc k N ms Fs) => is_c B R xc k N ms Fs r W hh
  rw [hit] at hi
  replace hi := Aside0.mk hi
  replace h := Aside0.mk h
  have hbA := (Below.refl w.heap.size w).alloc (Nat.le_refl _) (.cells #[.int .i64 r, .int .i64 f, .slice A n c] 30)
  have h1 := h.out.below hbA
  have q0 : (w.alloc (.cells #[.int .i64 r, .int .i64 f, .slice A n c] 30)).cell? ⟨w.heap.size, 0, none⟩ = some (.int .i64 r) := World.cell?_alloc_new w _ _ _
  have q1 : (w.alloc (.cells #[.int .i64 r, .int .i64 f, .slice A n c] 30)).cell? ⟨w.heap.size, 1, none⟩ = some (.int .i64 f) := World.cell?_alloc_new w _ _ _
  have q2 : (w.alloc (.cells #[.int .i64 r, .int .i64 f, .slice A n c] 30)).cell? ⟨w.heap.size, 2, none⟩ = some (.slice A n c) := World.cell?_alloc_new w _ _ _
  have qb : (w.alloc (.cells #[.int .i64 r, .int .i64 f, .slice A n c] 30)).heap[w.heap.size]? = some (.cells #[.int .i64 r, .int .i64 f, .slice A n c] 30 (0, 0)) := heap_alloc_new _ _
  replace hbA := Aside0.mk hbA
  go_enter Try.func9, Try.ntmps9
  go_wp2_with fail
  generalize hW : w.alloc (.cells #[.int .i64 r, .int .i64 f, .slice A n c] 30) = W0 at *
  replace h1 := Aside0.mk h1
  replace qb := Aside0.mk qb
  go_still_tail 25, (by kernel_rfl)
  still_call (hi.out _ (by exact h1.out.drew))
  repeat still_step
  refine wpStill_nil ?_
  change wpList _ _ _ _ _ W0.drew
  go_wp2_with fail
  go_ret
  exact ⟨rfl, below_drew hbA.out⟩
set_option maxRecDepth 100000 in
set_option maxHeartbeats 4000000 in
theorem addLow_c (B R xc k N : Nat) (ms : Nat → Nat) (Fs : Nat → Int → Option Value) (r : Nat) (hk : k ≤ 100) (f : Int) (hr : r < k) (f0 : f < 0) (A : Option Addr) (n c : Nat) (w : World) (h : St w B R xc k N ms Fs) :
    Calls Try.prog 9 #[.pointer (some ⟨B, 0, none⟩), .agg #[.int .i64 (r : Int), .int .i64 f, .slice A n c]] w fun e w' => e = .returned (.bool false) ∧ Below w.heap.size w w' := by
  have hi := fun W (hh : St W B R xc k N ms Fs) => is_c B R xc k N ms Fs (r : Int) W hh
  have hit : isB k (r : Int) = true := by unfold isB; simp; omega
  rw [hit] at hi
  replace hi := Aside0.mk hi
  replace h := Aside0.mk h
  have b0 : (0 : Int) ≤ (r : Int) := by omega
  have b1 : (r : Int) < (k : Int) := by omega
  have hbA := (Below.refl w.heap.size w).alloc (Nat.le_refl _) (.cells #[.int .i64 (r : Int), .int .i64 f, .slice A n c] 30)
  have h1 := h.out.below hbA
  have q0 : (w.alloc (.cells #[.int .i64 (r : Int), .int .i64 f, .slice A n c] 30)).cell? ⟨w.heap.size, 0, none⟩ = some (.int .i64 (r : Int)) := World.cell?_alloc_new w _ _ _
  have q1 : (w.alloc (.cells #[.int .i64 (r : Int), .int .i64 f, .slice A n c] 30)).cell? ⟨w.heap.size, 1, none⟩ = some (.int .i64 f) := World.cell?_alloc_new w _ _ _
  have q2 : (w.alloc (.cells #[.int .i64 (r : Int), .int .i64 f, .slice A n c] 30)).cell? ⟨w.heap.size, 2, none⟩ = some (.slice A n c) := World.cell?_alloc_new w _ _ _
  have qb : (w.alloc (.cells #[.int .i64 (r : Int), .int .i64 f, .slice A n c] 30)).heap[w.heap.size]? = some (.cells #[.int .i64 (r : Int), .int .i64 f, .slice A n c] 30 (0, 0)) := heap_alloc_new _ _
  replace hbA := Aside0.mk hbA
  go_enter Try.func9, Try.ntmps9
  go_wp2_with fail
  generalize hW : w.alloc (.cells #[.int .i64 (r : Int), .int .i64 f, .slice A n c] 30) = W0 at *
  replace h1 := Aside0.mk h1
  replace qb := Aside0.mk qb
  go_still_tail 25, (by kernel_rfl)
  still_call (hi.out _ (by exact h1.out.drew))
  repeat still_step
  refine wpStill_nil ?_
  change wpList _ _ _ _ _ W0.drew
  go_wp2_with fail
  go_ret
  exact ⟨rfl, below_drew hbA.out⟩
set_option maxRecDepth 100000 in
set_option maxHeartbeats 4000000 in
theorem addBig_c (B R xc k N : Nat) (ms : Nat → Nat) (Fs : Nat → Int → Option Value) (r : Nat) (hk : k ≤ 100) (f : Int) (hr : r < k) (f0 : 10000 ≤ f) (A : Option Addr) (n c : Nat) (w : World) (h : St w B R xc k N ms Fs) :
    Calls Try.prog 9 #[.pointer (some ⟨B, 0, none⟩), .agg #[.int .i64 (r : Int), .int .i64 f, .slice A n c]] w fun e w' => e = .returned (.bool false) ∧ Below w.heap.size w w' := by
  have hi := fun W (hh : St W B R xc k N ms Fs) => is_c B R xc k N ms Fs (r : Int) W hh
  have hit : isB k (r : Int) = true := by unfold isB; simp; omega
  rw [hit] at hi
  replace hi := Aside0.mk hi
  replace h := Aside0.mk h
  have b0 : (0 : Int) ≤ (r : Int) := by omega
  have b1 : (r : Int) < (k : Int) := by omega
  have f00 : (0 : Int) ≤ f := by omega
  have hbA := (Below.refl w.heap.size w).alloc (Nat.le_refl _) (.cells #[.int .i64 (r : Int), .int .i64 f, .slice A n c] 30)
  have h1 := h.out.below hbA
  have q0 : (w.alloc (.cells #[.int .i64 (r : Int), .int .i64 f, .slice A n c] 30)).cell? ⟨w.heap.size, 0, none⟩ = some (.int .i64 (r : Int)) := World.cell?_alloc_new w _ _ _
  have q1 : (w.alloc (.cells #[.int .i64 (r : Int), .int .i64 f, .slice A n c] 30)).cell? ⟨w.heap.size, 1, none⟩ = some (.int .i64 f) := World.cell?_alloc_new w _ _ _
  have q2 : (w.alloc (.cells #[.int .i64 (r : Int), .int .i64 f, .slice A n c] 30)).cell? ⟨w.heap.size, 2, none⟩ = some (.slice A n c) := World.cell?_alloc_new w _ _ _
  have qb : (w.alloc (.cells #[.int .i64 (r : Int), .int .i64 f, .slice A n c] 30)).heap[w.heap.size]? = some (.cells #[.int .i64 (r : Int), .int .i64 f, .slice A n c] 30 (0, 0)) := heap_alloc_new _ _
  replace hbA := Aside0.mk hbA
  go_enter Try.func9, Try.ntmps9
  go_wp2_with fail
  generalize hW : w.alloc (.cells #[.int .i64 (r : Int), .int .i64 f, .slice A n c] 30) = W0 at *
  replace h1 := Aside0.mk h1
  replace qb := Aside0.mk qb
  go_still_tail 25, (by kernel_rfl)
  still_call (hi.out _ (by exact h1.out.drew))
  repeat still_step
  refine wpStill_nil ?_
  change wpList _ _ _ _ _ W0.drew
  go_wp2_with fail
  go_ret
  exact ⟨rfl, below_drew hbA.out⟩
set_option maxRecDepth 100000 in
set_option maxHeartbeats 4000000 in
theorem missingG_c (B R xc k N : Nat) (ms : Nat → Nat) (Fs : Nat → Int → Option Value) (r : Nat) (hr : r < k) (fr : Int) (t : Nat) (ht : t ≤ 1000000) (hfr : max fr 0 + t ≤ 9223372036854775807) (hno : (Fs r (max fr 0 + t)).isSome = false) (hyes : ∀ j : Nat, j < t → (Fs r (max fr 0 + j)).isSome = true) (hk : k ≤ 100) (w : World) (hSt : St w B R xc k N ms Fs) :
    Calls Try.prog 10 #[.pointer (some ⟨B, 0, none⟩), .int .i64 (r : Int), .int .i64 fr] w fun e w' => e = .returned (.int .i64 (max fr 0 + t)) ∧ Drawn0 w w' := by
  have hi := is_c B R xc k N ms Fs (r : Int) w hSt
  have hit : isB k (r : Int) = true := by unfold isB; simp; omega
  rw [hit] at hi
  replace hi := Aside0.mk hi
  replace hSt := Aside0.mk hSt
  have hm0 : 0 ≤ max fr 0 := by omega
  go_enter Try.func10, Try.ntmps10
  go_wp2_with (first | (go_at_call 21; (with_reducible refine hi.out.mono ?_); rintro e w' ⟨rfl, hw⟩; subst w') | fail)
  all_goals
    go_loopw [7] (fun v wr => ∃ j : Nat, j ≤ t ∧ v = .int .i64 (max fr 0 + j) ∧ Drawn0 w wr) (fun v _ => t + 1 - (intOf v - max fr 0).toNat)
    case atStart => exact ⟨0, Nat.zero_le _, by congr 1; omega, Drawn0.refl _⟩
    case round =>
      obtain ⟨j, hj, rfl, ⟨q, rfl⟩⟩ := hrel
      have hs := hSt.out.drewN q
      obtain ⟨c1, c2⟩ := hs.cells
      have c3 := c2 r hr
      have hlk := (hs.maps r hr).look (key := max fr 0 + j) (wf64 (by omega) (by omega))
      clear c2
      replace hs := Aside0.mk hs
      have b0 : (0 : Int) ≤ (r : Int) := by omega
      have b1 : (r : Int) < (k : Int) := by omega
      by_cases hjt : j < t
      · rw [hyes j hjt] at hlk
        generalize (Fs r (max fr 0 + j)).getD nilS = v at hlk
        generalize hgg : max fr 0 = g at *
        go_wp2_with fail
        go_roundw
        case rel => exact ⟨j + 1, by omega, by congr 1; omega, ⟨_, rfl⟩⟩
        case measure => simp [intOf]; omega
      · obtain rfl : j = t := by omega
        rw [hno] at hlk
        generalize (Fs r (max fr 0 + j)).getD nilS = v at hlk
        generalize hgg : max fr 0 = g at *
        go_wp2_with fail
        go_ret
        exact ⟨by rw [hgg]; rfl, ⟨_, rfl⟩⟩

end Go.Proofs.Ytnenhlgpkfelcaa.Box2
