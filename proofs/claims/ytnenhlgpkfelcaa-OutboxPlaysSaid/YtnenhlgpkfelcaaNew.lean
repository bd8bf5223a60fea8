/- The contract of outbox.New. -/
import Derived.Test.YtnenhlgpkfelcaaMap
import Derived.Laws.MakeOwn
namespace Go.Proofs.Ytnenhlgpkfelcaa.Box
open Go Go.RowKit Go.Maps Go.Proofs.Ytnenhlgpkfelcaa.POutboxPlays Go.Proofs.YtnenhlgpkfelcaaW.PrintWords Go.Proofs.YtnenhlgpkfelcaaW.PrintLast Go.Proofs.YtnenhlgpkfelcaaW.PrintMore
set_option linter.unusedVariables false

theorem info54 : (Try.prog.info? 54).map (fun i => (i.zero, i.size, i.bytes)) = some (some (.map none), 1, 8) := by kernel_rfl
theorem mk_maps (n : Nat) (hn : n ≤ 100) : ∀ w : World, (Instr.makeSlice 49 (.int .i64 (n : Int)) (.int .i64 (n : Int))).run Try.prog w = .ok (.slice (some ⟨w.heap.size, 0, none⟩) n n) (w.alloc (.cells (Array.replicate n (Value.map none)) 54)) := by
  intro w
  obtain ⟨i0, hi, hzz⟩ := Option.map_eq_some_iff.1 info54
  simp only [Prod.mk.injEq] at hzz
  obtain ⟨hz0, hz1, hz2⟩ := hzz
  have hr := run_make (P := Try.prog) w 49 54 i0 (.map none) Try.underlying49 hi hz0 .i64 .i64 (n : Int) (n : Int) (by omega) (by omega) (by rw [hz2]; omega) (by omega)
  simp only [Int.toNat_natCast] at hr
  rw [hr, hz1]
  congr 3
  unfold madeCells
  rw [Nat.mul_one]
  apply Array.ext
  · simp
  · intro i h1 h2
    simp [Nat.mod_one, Value.cells]

/-- the store at B: its slice at R, its maps at ms -/
structure St (w : World) (B R k N : Nat) (ms : Nat → Nat) (Fs : Nat → Int → Option Value) : Prop where
  head : w.heap[B]? = some (.cells #[.slice (some ⟨R, 0, none⟩) k k] 53 (0, 0))
  row : ∃ cur : Array Value, w.heap[R]? = some (.cells cur 54 (0, 0)) ∧ cur.size = k ∧ ∀ i, i < k → cur[i]? = some (.map (some (ms i)))
  maps : ∀ i, i < k → MapOf w (ms i) N (Fs i)
  apart : ∀ i j, i < k → j < k → i ≠ j → ms i ≠ ms j

/-- while the maps are being made -/
structure Pre (w wr : World) (n i : Nat) : Prop where
  size : wr.heap.size = w.heap.size + 2 + i
  head : wr.heap[w.heap.size + 1]? = some (.cells #[.slice (some ⟨w.heap.size, 0, none⟩) n n] 53 (0, 0))
  row : ∃ cur : Array Value, wr.heap[w.heap.size]? = some (.cells cur 54 (0, 0)) ∧ cur.size = n ∧ (∀ j, j < i → cur[j]? = some (.map (some (w.heap.size + 2 + j)))) ∧ ∀ j, i ≤ j → j < n → cur[j]? = some (.map none)
  maps : ∀ j, j < i → MapOf wr (w.heap.size + 2 + j) 0 (fun _ => none)
  below : Below w.heap.size w wr
theorem Pre.start (w : World) (n : Nat) : Pre w ((w.alloc (.cells (Array.replicate n (Value.map none)) 54)).alloc (.cells #[.slice (some ⟨w.heap.size, 0, none⟩) n n] 53)) n 0 where
  size := by simp
  head := heap_alloc2_new _ _ _
  row := ⟨_, heap_alloc2_old _ _ _, by simp, fun j hj => absurd hj (Nat.not_lt_zero _), fun j _ hj => by simp [hj]⟩
  maps := fun j hj => absurd hj (Nat.not_lt_zero _)
  below := ((Below.refl w.heap.size w).alloc (Nat.le_refl _) _).alloc (by simp) _
theorem Pre.step {w wr : World} {n i : Nat} (h : Pre w wr n i) (hi : i < n) : Pre w ((wr.setCell ⟨w.heap.size, i, none⟩ (.map (some wr.heap.size))).alloc (.map #[] 0)) n (i + 1) := by
  obtain ⟨h1, h2, ⟨cur, h3, h4, h5, h6⟩, h7, h8⟩ := h
  have hsz : (wr.setCell ⟨w.heap.size, i, none⟩ (.map (some wr.heap.size))).heap.size = wr.heap.size := by simp [World.setCell]
  have hr : (wr.setCell ⟨w.heap.size, i, none⟩ (.map (some wr.heap.size))).heap[w.heap.size]? = some (.cells (cur.setIfInBounds i (.map (some wr.heap.size))) 54 (0, 0)) := by simp [World.setCell, Array.getElem?_modify, h3]
  have h9 : Below w.heap.size w (wr.setCell ⟨w.heap.size, i, none⟩ (.map (some wr.heap.size))) := h8.setCell (Nat.le_refl _) _
  have hm0 : ∀ k, k ≠ w.heap.size → (wr.setCell ⟨w.heap.size, i, none⟩ (.map (some wr.heap.size))).heap[k]? = wr.heap[k]? := fun k hne => Below.heap_setCell _ ⟨w.heap.size, i, none⟩ _ k hne
  generalize hW : wr.setCell ⟨w.heap.size, i, none⟩ (.map (some wr.heap.size)) = W at *
  have hm : ∀ k, k < wr.heap.size → k ≠ w.heap.size → (W.alloc (.map #[] 0)).heap[k]? = wr.heap[k]? := fun k hk hne => (Below.heap_alloc _ _ k (by omega)).trans (hm0 k hne)
  refine ⟨by simp; omega, (hm _ (by omega) (by omega)).trans h2, ⟨cur.setIfInBounds i (.map (some wr.heap.size)), (Below.heap_alloc _ _ _ (by omega)).trans hr, by simpa using h4, fun j hj => ?_, fun j hj1 hj2 => ?_⟩, fun j hj => ?_, h9.alloc h9.size _⟩
  · by_cases hji : j = i
    · subst hji
      rw [Array.getElem?_setIfInBounds_self_of_lt (by omega), h1]
    · rw [Array.getElem?_setIfInBounds_ne (by omega)]
      exact h5 j (by omega)
  · rw [Array.getElem?_setIfInBounds_ne (by omega)]
    exact h6 j (by omega) hj2
  · by_cases hji : j = i
    · subst hji
      have hmade := MapOf.made W
      rw [hsz, h1] at hmade
      exact hmade
    · exact (h7 j (by omega)).move (hm _ (h7 j (by omega)).lt (by omega))
theorem Pre.done {w wr : World} {n : Nat} (h : Pre w wr n n) : St wr (w.heap.size + 1) w.heap.size n 0 (fun j => w.heap.size + 2 + j) (fun _ _ => none) where
  head := h.head
  row := by obtain ⟨cur, a, b, c, _⟩ := h.row; exact ⟨cur, a, b, c⟩
  maps := h.maps
  apart := fun i j _ _ hne => by omega

set_option maxRecDepth 100000 in
set_option maxHeartbeats 4000000 in
theorem new_c (n : Nat) (h1 : 1 ≤ n) (hn : n ≤ 16) (w : World) :
    Calls Try.prog 7 #[.int .i64 (n : Int)] w fun e w' => (∃ B R ms, e = .returned (.pointer (some ⟨B, 0, none⟩)) ∧ w.heap.size ≤ B ∧ w.heap.size ≤ R ∧ (∀ i, i < n → w.heap.size ≤ ms i) ∧ St w' B R n 0 ms (fun _ _ => none)) ∧ Below w.heap.size w w' := by
  have hmk := mk_maps n (by omega)
  have hmm := @run_makeMap Try.prog
  have b1 : (1 : Int) ≤ (n : Int) := by omega
  have b2 : (n : Int) ≤ 16 := by omega
  go_enter Try.func7, Try.ntmps7
  go_wp2_with fail
  go_loopw [18] (fun i wr => ∃ k : Nat, k ≤ n ∧ i = .int .i64 k ∧ Aside0 (Pre w wr n k)) (fun i _ => n - (intOf i).toNat)
  case atStart => exact ⟨0, Nat.zero_le _, rfl, ⟨Pre.start w n⟩⟩
  case round =>
    obtain ⟨k, hk, rfl, hP⟩ := hrel
    by_cases hlt : k < n
    · have hst := Aside0.mk (hP.out.step hlt)
      obtain ⟨hs, hh, ⟨cur, hr, hcs, _, hcm⟩, _, _⟩ := hP.out
      have c1 := cell_of_row wr _ 0 _ 53 (0, 0) hh
      have c2 := cell_of_row wr _ k _ 54 (0, 0) hr
      rw [hcm k (Nat.le_refl _) hlt] at c2
      have f2 : ∀ j, wr.frozen? ⟨w.heap.size, j, none⟩ = false := fun j => by simp [World.frozen?, hr]
      simp at c1
      have z1 : w.heap.size < wr.heap.size := by omega
      have z2 : w.heap.size + 1 < wr.heap.size := by omega
      replace hh := Aside0.mk hh
      replace hr := Aside0.mk hr
      replace hcm := Aside0.mk hcm
      replace hs := Aside0.mk hs
      have d0 : (0 : Int) ≤ (k : Int) := by omega
      have d1 : (k : Int) < (n : Int) := by omega
      go_wp2_with fail
      go_roundw
      case rel => exact ⟨k + 1, by omega, by go_num, hst⟩
      case measure => simp [intOf]; omega
    · go_wp2_with fail
      have hkn : k = n := by omega
      subst hkn
      go_ret
      exact ⟨⟨_, w.heap.size, _, rfl, by omega, Nat.le_refl _, fun i _ => by omega, hP.out.done⟩, hP.out.below⟩
end Go.Proofs.Ytnenhlgpkfelcaa.Box
