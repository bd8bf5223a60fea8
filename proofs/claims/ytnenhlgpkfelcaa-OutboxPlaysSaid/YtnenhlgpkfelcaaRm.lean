/- The reference's store: NewStore, Missing; the store's New for any number. -/
import Derived.Test.YtnenhlgpkfelcaaRs
namespace Go.Proofs.Ytnenhlgpkfelcaa.Box2
open Go.Proofs.Ytnenhlgpkfelcaa.Box
open Go Go.RowKit Go.Maps Go.Proofs.Ytnenhlgpkfelcaa.POutboxPlays Go.Proofs.YtnenhlgpkfelcaaW.PrintWords Go.Proofs.YtnenhlgpkfelcaaW.PrintLast Go.Proofs.YtnenhlgpkfelcaaW.PrintMore
set_option linter.unusedVariables false
set_option linter.unusedSimpArgs false
theorem info40 : (Try.prog.info? 40).map (fun i => (i.zero, i.size, i.bytes)) = some (some (.slice none 0 0), 1, 24) := by kernel_rfl
theorem mk_outs (n : Nat) (hn : n ≤ 100) (W : World) : (Instr.makeSlice 59 (.int .i64 (n : Int)) (.int .i64 (n : Int))).run Try.prog W = .ok (.slice (some ⟨W.heap.size, 0, none⟩) n n) (W.alloc (.cells (Array.replicate n (Value.slice none 0 0)) 40)) := by
  obtain ⟨i0, hi, hzz⟩ := Option.map_eq_some_iff.1 info40
  simp only [Prod.mk.injEq] at hzz
  obtain ⟨hz0, hz1, hz2⟩ := hzz
  have h := run_make (P := Try.prog) W 59 40 i0 _ Try.underlying59 hi hz0 .i64 .i64 (n : Int) (n : Int) (by omega) (by omega) (by rw [hz2]; omega) (by omega)
  rw [Int.toNat_natCast, hz1, Nat.mul_one] at h
  rw [h]
  congr 3
  unfold madeCells
  apply Array.ext
  · simp
  · intro i h1 h2
    simp [Nat.mod_one, Value.cells]
theorem rnew_c (s : Int) (n : Nat) (hm : (n : Int) = max 1 (min s 16)) (w : World) : Calls Try.prog 13 #[.int .i64 s] w fun e w' => (∃ B R, e = .returned (.pointer (some ⟨B, 0, none⟩)) ∧ Rs w' B R n w.heap.size (fun _ => .slice none 0 0) (fun _ => [])) ∧ Below w.heap.size w w' := by
  have hmk := mk_outs n (by omega)
  have hfin : Rs ((w.alloc (.cells (Array.replicate n (Value.slice none 0 0)) 40)).alloc (.cells #[.slice (some ⟨w.heap.size, 0, none⟩) n n] 61)) (w.heap.size + 1) w.heap.size n w.heap.size (fun _ => .slice none 0 0) (fun _ => []) := by
    have hs : (w.alloc (.cells (Array.replicate n (Value.slice none 0 0)) 40)).heap.size = w.heap.size + 1 := by simp
    refine ⟨?_, ⟨_, (Below.heap_alloc _ _ _ (by simp)).trans (heap_alloc_new _ _), by simp, fun i hi => by simp [hi]⟩, fun i hi => Kd.R_nil _ _ _ _ _, fun i j _ _ _ b hb => by simp [Value.ownBlock] at hb, by omega⟩
    have h := heap_alloc_new (w.alloc (.cells (Array.replicate n (Value.slice none 0 0)) 40)) (.cells #[.slice (some ⟨w.heap.size, 0, none⟩) n n] 61)
    rw [hs] at h
    exact h
  have hbl : Below w.heap.size w ((w.alloc (.cells (Array.replicate n (Value.slice none 0 0)) 40)).alloc (.cells #[.slice (some ⟨w.heap.size, 0, none⟩) n n] 61)) := ((Below.refl _ _).alloc (Nat.le_refl _) _).alloc (by simp) _
  replace hfin := Aside0.mk hfin
  replace hbl := Aside0.mk hbl
  rcases (by omega : (s ≤ 1 ∧ n = 1) ∨ (1 < s ∧ s ≤ 16 ∧ s = (n : Int)) ∨ (16 < s ∧ n = 16)) with ⟨h1, h2⟩ | ⟨h1, h2, h3⟩ | ⟨h1, h2⟩
  · subst h2
    replace hmk : ∀ W : World, (Instr.makeSlice 59 (.int .i64 1) (.int .i64 1)).run Try.prog W = .ok (.slice (some ⟨W.heap.size, 0, none⟩) 1 1) (W.alloc (.cells (Array.replicate 1 (Value.slice none 0 0)) 40)) := hmk
    have z1 : s ≤ 16 := by omega
    clear hm
    go_enter Try.func13, Try.ntmps13
    go_wp2_with fail
    all_goals go_ret
    all_goals first | exact ⟨⟨_, _, rfl, hfin.out⟩, hbl.out⟩ | (exfalso; omega)
  · subst h3
    clear hm
    go_enter Try.func13, Try.ntmps13
    go_wp2_with fail
    all_goals first | (exfalso; omega) | skip
    all_goals go_ret
    all_goals exact ⟨⟨_, _, rfl, hfin.out⟩, hbl.out⟩
  · subst h2
    replace hmk : ∀ W : World, (Instr.makeSlice 59 (.int .i64 16) (.int .i64 16)).run Try.prog W = .ok (.slice (some ⟨W.heap.size, 0, none⟩) 16 16) (W.alloc (.cells (Array.replicate 16 (Value.slice none 0 0)) 40)) := hmk
    clear hm
    go_enter Try.func13, Try.ntmps13
    go_wp2_with fail
    all_goals go_ret
    all_goals first | exact ⟨⟨_, _, rfl, hfin.out⟩, hbl.out⟩ | (exfalso; omega)
set_option maxRecDepth 100000 in
set_option maxHeartbeats 4000000 in
theorem new1_c (s : Int) (hs : s < 1) (w : World) :
    Calls Try.prog 7 #[.int .i64 s] w fun e w' => (∃ B R ms, e = .returned (.pointer (some ⟨B, 0, none⟩)) ∧ w.heap.size ≤ B ∧ w.heap.size ≤ R ∧ (∀ i, i < 1 → w.heap.size ≤ ms i) ∧ St w' B R 0 1 0 ms (fun _ _ => none)) ∧ Below w.heap.size w w' := by
  have hmk : ∀ w : World, (Instr.makeSlice 49 (.int .i64 1) (.int .i64 1)).run Try.prog w = .ok (.slice (some ⟨w.heap.size, 0, none⟩) 1 1) (w.alloc (.cells (Array.replicate 1 (Value.map none)) 54)) := mk_maps 1 (by omega)
  have hmm := @run_makeMap Try.prog
  have hs16 : s ≤ 16 := by omega
  have hs1 : ¬ (1 ≤ s) := by omega
  have hs2 : s ≤ 1 := by omega
  go_enter Try.func7, Try.ntmps7
  go_wp2_with fail
  go_loopw [18] (fun i wr => ∃ k : Nat, k ≤ 1 ∧ i = .int .i64 k ∧ Aside0 (Pre w wr 1 k)) (fun i _ => 1 - (intOf i).toNat)
  case atStart => exact ⟨0, Nat.zero_le _, rfl, ⟨Pre.start w 1⟩⟩
  case round =>
    obtain ⟨k, hk, rfl, hP⟩ := hrel
    by_cases hlt : k < 1
    · have hst := Aside0.mk (hP.out.step hlt)
      obtain ⟨hs, hh, ⟨cur, hr, hcs, _, hcm⟩, _, _⟩ := hP.out
      have c1 := cell_of_row wr _ 0 _ 53 (0, 0) hh
      have c2 := cell_of_row wr _ k _ 54 (0, 0) hr
      rw [hcm k (Nat.le_refl _) hlt] at c2
      have f2 : ∀ j, wr.frozen? ⟨w.heap.size, j, none⟩ = false := fun j => by simp [World.frozen?, hr]
      simp at c1
      have z1 : w.heap.size < wr.heap.size := by omega
      have z2 : w.heap.size + 1 < wr.heap.size := by omega
      replace hh := Aside0.mk hh
      replace hr := Aside0.mk hr
      replace hcm := Aside0.mk hcm
      replace hs := Aside0.mk hs
      have d0 : (0 : Int) ≤ (k : Int) := by omega
      have d1 : (k : Int) < 1 := by omega
      go_wp2_with fail
      go_roundw
      case rel => exact ⟨k + 1, by omega, by go_num, hst⟩
      case measure => simp [intOf]; omega
    · go_wp2_with fail
      obtain rfl : k = 1 := by omega
      go_ret
      exact ⟨⟨_, w.heap.size, _, rfl, by omega, Nat.le_refl _, fun i _ => by omega, hP.out.done⟩, hP.out.below⟩
set_option maxRecDepth 100000 in
set_option maxHeartbeats 4000000 in
theorem new16_c (s : Int) (hs : 16 < s) (w : World) :
    Calls Try.prog 7 #[.int .i64 s] w fun e w' => (∃ B R ms, e = .returned (.pointer (some ⟨B, 0, none⟩)) ∧ w.heap.size ≤ B ∧ w.heap.size ≤ R ∧ (∀ i, i < 16 → w.heap.size ≤ ms i) ∧ St w' B R 0 16 0 ms (fun _ _ => none)) ∧ Below w.heap.size w w' := by
  have hmk : ∀ w : World, (Instr.makeSlice 49 (.int .i64 16) (.int .i64 16)).run Try.prog w = .ok (.slice (some ⟨w.heap.size, 0, none⟩) 16 16) (w.alloc (.cells (Array.replicate 16 (Value.map none)) 54)) := mk_maps 16 (by omega)
  have hmm := @run_makeMap Try.prog
  have hs1 : 1 ≤ s := by omega
  go_enter Try.func7, Try.ntmps7
  go_wp2_with fail
  go_loopw [18] (fun i wr => ∃ k : Nat, k ≤ 16 ∧ i = .int .i64 k ∧ Aside0 (Pre w wr 16 k)) (fun i _ => 16 - (intOf i).toNat)
  case atStart => exact ⟨0, Nat.zero_le _, rfl, ⟨Pre.start w 16⟩⟩
  case round =>
    obtain ⟨k, hk, rfl, hP⟩ := hrel
    by_cases hlt : k < 16
    · have hst := Aside0.mk (hP.out.step hlt)
      obtain ⟨hs, hh, ⟨cur, hr, hcs, _, hcm⟩, _, _⟩ := hP.out
      have c1 := cell_of_row wr _ 0 _ 53 (0, 0) hh
      have c2 := cell_of_row wr _ k _ 54 (0, 0) hr
      rw [hcm k (Nat.le_refl _) hlt] at c2
      have f2 : ∀ j, wr.frozen? ⟨w.heap.size, j, none⟩ = false := fun j => by simp [World.frozen?, hr]
      simp at c1
      have z1 : w.heap.size < wr.heap.size := by omega
      have z2 : w.heap.size + 1 < wr.heap.size := by omega
      replace hh := Aside0.mk hh
      replace hr := Aside0.mk hr
      replace hcm := Aside0.mk hcm
      replace hs := Aside0.mk hs
      have d0 : (0 : Int) ≤ (k : Int) := by omega
      have d1 : (k : Int) < 16 := by omega
      go_wp2_with fail
      go_roundw
      case rel => exact ⟨k + 1, by omega, by go_num, hst⟩
      case measure => simp [intOf]; omega
    · go_wp2_with fail
      obtain rfl : k = 16 := by omega
      go_ret
      exact ⟨⟨_, w.heap.size, _, rfl, by omega, Nat.le_refl _, fun i _ => by omega, hP.out.done⟩, hP.out.below⟩
theorem newG_c (s : Int) (n : Nat) (hm : (n : Int) = min (max s 1) 16) (w : World) :
    Calls Try.prog 7 #[.int .i64 s] w fun e w' => (∃ B R ms, e = .returned (.pointer (some ⟨B, 0, none⟩)) ∧ w.heap.size ≤ B ∧ w.heap.size ≤ R ∧ (∀ i, i < n → w.heap.size ≤ ms i) ∧ St w' B R 0 n 0 ms (fun _ _ => none)) ∧ Below w.heap.size w w' := by
  rcases (by omega : (s < 1 ∧ n = 1) ∨ (1 ≤ s ∧ s ≤ 16 ∧ s = (n : Int)) ∨ (16 < s ∧ n = 16)) with ⟨h1, h2⟩ | ⟨h1, h2, h3⟩ | ⟨h1, h2⟩
  · subst h2
    exact new1_c s h1 w
  · rw [h3]
    exact new_c n (by omega) (by omega) w
  · subst h2
    exact new16_c s h1 w
theorem rmissingOut_c (r f : Int) (B R k base : Nat) (vs : Nat → Value) (LL : Nat → List S30) (w : World) (h : Rs w B R k base vs LL) (hr : r < 0 ∨ (k : Int) ≤ r) :
    Calls Try.prog 20 #[.pointer (some ⟨B, 0, none⟩), .int .i64 r, .int .i64 f] w fun e w' => e = .returned (.int .i64 f) ∧ w' = w := by
  obtain ⟨q0, _⟩ := h.cells
  replace h := Aside0.mk h
  rcases (by omega : r < 0 ∨ (0 ≤ r ∧ (k : Int) ≤ r)) with h0 | ⟨h0, h1⟩
  · clear hr
    go_enter Try.func20, Try.ntmps20
    go_wp2_with fail
    go_ret
    exact ⟨rfl, rfl⟩
  · clear hr
    go_enter Try.func20, Try.ntmps20
    go_wp2_with fail
    go_ret
    exact ⟨rfl, rfl⟩
set_option maxRecDepth 100000 in
set_option maxHeartbeats 4000000 in
theorem rmissing_c (r : Nat) (f m : Int) (t : Nat) (B R k base : Nat) (vs : Nat → Value) (LL : Nat → List S30) (w : World) (h : Rs w B R k base vs LL) (hr : r < k) (hn : (LL r).length ≤ 1000) (hs : ∀ o ∈ LL r, o.f2.length ≤ 1000) (hm : max 0 f = m) (hmw : m + t ≤ 9223372036854775807) (hno : (look (LL r) (m + t)).isSome = false) (hyes : ∀ j : Nat, j < t → (look (LL r) (m + j)).isSome = true) :
    Calls Try.prog 20 #[.pointer (some ⟨B, 0, none⟩), .int .i64 (r : Int), .int .i64 f] w fun e w' => e = .returned (.int .i64 (m + t)) ∧ Below w.heap.size w w' := by
  obtain ⟨q0, _⟩ := h.cells
  have b0 : (0 : Int) ≤ (r : Int) := by omega
  have b1 : (r : Int) < (k : Int) := by omega
  have hm0 : 0 ≤ m := by omega
  have c1 : decide (k ≤ r) = false := decide_eq_false (by omega)
  have c2 : decide ((r : Int) < 0) = false := decide_eq_false (by omega)
  have c3 : ¬ (k ≤ r) := by omega
  have hrefl := Aside0.mk (Below.refl w.heap.size w)
  have kg := Aside0.mk (fun (x : Int) (W : World) (hW : Below w.heap.size w W) => rget_c r x B R k base vs LL W (h.below hW) hr hn hs)
  replace h := Aside0.mk h
  replace hs := Aside0.mk hs
  replace hyes := Aside0.mk hyes
  replace hno := Aside0.mk hno
  rcases (by omega : (f ≤ 0 ∧ m = 0) ∨ (0 < f ∧ m = f)) with ⟨h1, h2⟩ | ⟨h1, h2⟩
  · subst h2
    clear hm
    simp only [Int.zero_add] at hmw hno hyes kg ⊢
    go_enter Try.func20, Try.ntmps20
    go_wp2_with fail
    go_loopw [2] (fun i wr => ∃ j : Nat, j ≤ t ∧ i = .int .i64 (j : Int) ∧ Aside0 (Below w.heap.size w wr)) (fun i _ => ((t : Int) - intOf i).toNat)
    case atStart => exact ⟨0, Nat.zero_le _, by simp, hrefl⟩
    case round =>
      clear hrefl q0
      obtain ⟨j, hj, rfl, hb⟩ := hrel
      by_cases hjt : j < t
      · have hy := hyes.out j hjt
        have k1 := kg.out (j : Int) wr hb.out
        unfold Got at k1
        rw [hy] at k1
        replace k1 := Aside0.mk k1
        have z1 : wrap64 ((j : Int) + 1) = (j : Int) + 1 := by unfold wrap64; omega
        clear hy
        go_wp2_with (first
          | (go_at_call 18; (with_reducible refine k1.out.mono ?_); rintro e w3 ⟨⟨A3, c3, rfl, _⟩, hb3⟩; replace hb3 := Aside0.mk (below_then hb.out hb.out.size hb3))
          | fail)
        go_roundw
        case rel => exact ⟨j + 1, by omega, by go_num, hb3⟩
        case measure => simp [intOf]; omega
      · obtain rfl : j = t := by omega
        have k1 := kg.out (j : Int) wr hb.out
        unfold Got at k1
        rw [hno.out] at k1
        replace k1 := Aside0.mk k1
        go_wp2_with (first
          | (go_at_call 18; (with_reducible refine k1.out.mono ?_); rintro e w3 ⟨⟨A3, c3, rfl, _⟩, hb3⟩; replace hb3 := Aside0.mk (below_then hb.out hb.out.size hb3))
          | fail)
        go_ret
        exact ⟨rfl, hb3.out⟩
  · subst h2
    clear hm
    go_enter Try.func20, Try.ntmps20
    go_wp2_with fail
    go_loopw [2] (fun i wr => ∃ j : Nat, j ≤ t ∧ i = .int .i64 (m + j) ∧ Aside0 (Below w.heap.size w wr)) (fun i _ => (m + t - intOf i).toNat)
    case atStart => exact ⟨0, Nat.zero_le _, by simp, hrefl⟩
    case round =>
      clear hrefl q0
      obtain ⟨j, hj, rfl, hb⟩ := hrel
      by_cases hjt : j < t
      · have hy := hyes.out j hjt
        have k1 := kg.out (m + j) wr hb.out
        unfold Got at k1
        rw [hy] at k1
        replace k1 := Aside0.mk k1
        have z1 : wrap64 (m + (j : Int) + 1) = m + (j : Int) + 1 := by unfold wrap64; omega
        clear hy
        go_wp2_with (first
          | (go_at_call 18; (with_reducible refine k1.out.mono ?_); rintro e w3 ⟨⟨A3, c3, rfl, _⟩, hb3⟩; replace hb3 := Aside0.mk (below_then hb.out hb.out.size hb3))
          | fail)
        go_roundw
        case rel => exact ⟨j + 1, by omega, by go_num, hb3⟩
        case measure => simp [intOf]; omega
      · obtain rfl : j = t := by omega
        have k1 := kg.out (m + j) wr hb.out
        unfold Got at k1
        rw [hno.out] at k1
        replace k1 := Aside0.mk k1
        go_wp2_with (first
          | (go_at_call 18; (with_reducible refine k1.out.mono ?_); rintro e w3 ⟨⟨A3, c3, rfl, _⟩, hb3⟩; replace hb3 := Aside0.mk (below_then hb.out hb.out.size hb3))
          | fail)
        go_ret
        exact ⟨rfl, hb3.out⟩
end Go.Proofs.Ytnenhlgpkfelcaa.Box2
