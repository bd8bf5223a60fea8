/- The store: what stays; the contracts of is and Missing. -/
import Derived.Test.YtnenhlgpkfelcaaNew
import Derived.Deep.RegionWith
import Derived.Deep.RegionHeld3
import Derived.Deep.DeepCutAuto
import Derived.Deep.CutBlock
import Derived.BigQuiet
import Derived.StillTailTactics
import Derived.Deep.QuietTactic
namespace Go.Proofs.Ytnenhlgpkfelcaa.Box
open Go Go.RowKit Go.Maps Go.Proofs.Ytnenhlgpkfelcaa.POutboxPlays Go.Proofs.YtnenhlgpkfelcaaW.PrintWords Go.Proofs.YtnenhlgpkfelcaaW.PrintLast Go.Proofs.YtnenhlgpkfelcaaW.PrintMore
set_option linter.unusedVariables false

section
variable {w w' : World} {B R k N : Nat} {ms : Nat → Nat} {Fs : Nat → Int → Option Value}
theorem St.lt (h : St w B R k N ms Fs) : B < w.heap.size ∧ R < w.heap.size := by
  obtain ⟨cur, hr, _⟩ := h.row
  exact ⟨(Array.getElem?_eq_some_iff.1 h.head).1, (Array.getElem?_eq_some_iff.1 hr).1⟩
theorem St.move (h : St w B R k N ms Fs) (hB : w'.heap[B]? = w.heap[B]?) (hR : w'.heap[R]? = w.heap[R]?) (hm : ∀ i, i < k → w'.heap[ms i]? = w.heap[ms i]?) : St w' B R k N ms Fs := by
  obtain ⟨h1, ⟨cur, h2, h3, h4⟩, h5, h6⟩ := h
  exact ⟨hB.trans h1, ⟨cur, hR.trans h2, h3, h4⟩, fun i hi => (h5 i hi).move (hm i hi), h6⟩
theorem St.below (h : St w B R k N ms Fs) (hb : Below w.heap.size w w') : St w' B R k N ms Fs := h.move (hb.block _ h.lt.1) (hb.block _ h.lt.2) fun i hi => hb.block _ (h.maps i hi).lt
theorem St.drewN (h : St w B R k N ms Fs) (n : Nat) : St (w.drewN n) B R k N ms Fs := h.move rfl rfl fun _ _ => rfl
theorem St.up (h : St w B R k N ms Fs) : St w B R k (N + 1) ms Fs := ⟨h.head, h.row, fun i hi => (h.maps i hi).mono (Nat.le_succ N), h.apart⟩
theorem MapOf.is {b n : Nat} {F : Int → Option Value} (h : MapOf w b n F) : ∃ es c, w.heap[b]? = some (.map es c) := by
  obtain ⟨D, ⟨es, clock, hb, _⟩, _⟩ := h
  exact ⟨es, clock, hb⟩
theorem St.ne (h : St w B R k N ms Fs) {i : Nat} (hi : i < k) : ms i ≠ B ∧ ms i ≠ R := by
  obtain ⟨es, c, hm⟩ := (h.maps i hi).is
  obtain ⟨cur, hr, _⟩ := h.row
  constructor
  · intro e
    rw [e, h.head] at hm
    cases hm
  · intro e
    rw [e, hr] at hm
    cases hm
/-- s.all[r][key] = v -/
theorem St.put (h : St w B R k N ms Fs) {r : Nat} (hr : r < k) {key : Int} (hk : (Lit.int .i64 key).wf = true) (hN : N < maxLen) (a : Option Addr) (l c : Nat) :
    ∃ w', (Instr.mapUpdate 54 (.map (some (ms r))) (.int .i64 key) (.slice a l c)).run Try.prog w = .ok () w' ∧
      St w' B R k (N + 1) ms (fun i => if i = r then (fun x => if x = key then some (.slice a l c) else Fs r x) else Fs i) ∧ w.grownBy w' (some (ms r)) := by
  obtain ⟨w', hrun, hm, hg⟩ := (h.maps r hr).put hk hN a l c
  have hne := h.ne hr
  refine ⟨w', hrun, ?_, hg⟩
  have hst : ∀ b, b < w.heap.size → b ≠ ms r → w'.heap[b]? = w.heap[b]? := fun b hb hn => hg.block b hb (fun e => hn (by injection e))
  obtain ⟨cur, h2, h3, h4⟩ := h.row
  refine ⟨(hst B h.lt.1 (Ne.symm hne.1)).trans h.head, ⟨cur, (hst R h.lt.2 (Ne.symm hne.2)).trans h2, h3, h4⟩, fun i hi => ?_, h.apart⟩
  by_cases hir : i = r
  · subst hir
    simp only [if_pos]
    exact hm
  · simp only [if_neg hir]
    exact ((h.maps i hi).mono (Nat.le_succ N)).move (hst _ (h.maps i hi).lt (h.apart i r hi hr hir))
/-- its cells, for a walk -/
theorem St.cells (h : St w B R k N ms Fs) : w.cell? ⟨B, 0, none⟩ = some (.slice (some ⟨R, 0, none⟩) k k) ∧ ∀ i, i < k → w.cell? ⟨R, i, none⟩ = some (.map (some (ms i))) := by
  obtain ⟨cur, hr, hc, hm⟩ := h.row
  refine ⟨cell_of_row w B 0 _ 53 (0, 0) h.head, fun i hi => ?_⟩
  rw [cell_of_row w R i cur 54 (0, 0) hr]
  exact hm i hi
end

theorem wf64 {a : Int} (h0 : -9223372036854775808 ≤ a) (h1 : a ≤ 9223372036854775807) : (Lit.int .i64 a).wf = true := by
  have e0 : IntKind.i64.min = -9223372036854775808 := rfl
  have e1 : IntKind.i64.max = 9223372036854775807 := rfl
  unfold Lit.wf
  simp
  omega

def isB (k : Nat) (r : Int) : Bool := decide (0 ≤ r) && decide (r < (k : Int))
theorem is_c (B R k N : Nat) (ms : Nat → Nat) (Fs : Nat → Int → Option Value) (r : Int) (w : World) (h : St w B R k N ms Fs) :
    Calls Try.prog 21 #[.pointer (some ⟨B, 0, none⟩), .int .i64 r] w fun e w' => e = .returned (.bool (isB k r)) ∧ w' = w := by
  have c := h.cells.1
  unfold isB
  replace h := Aside0.mk h
  by_cases h0 : 0 ≤ r
  · go_enter Try.func21, Try.ntmps21
    go_wp2_with fail
    go_ret
    exact ⟨by simp [h0], rfl⟩
  · have h0' : decide (0 ≤ r) = false := decide_eq_false h0
    go_enter Try.func21, Try.ntmps21
    go_wp2_with fail
    go_ret
    exact ⟨rfl, rfl⟩

set_option maxRecDepth 100000 in
set_option maxHeartbeats 4000000 in
theorem missing_c (B R k N : Nat) (ms : Nat → Nat) (Fs : Nat → Int → Option Value) (r : Nat) (hr : r < k) (fr : Int) (t : Nat) (ht : t ≤ 1000000) (hfr : fr ≤ 1000000) (hno : (Fs r (max fr 0 + t)).isSome = false) (hyes : ∀ j : Nat, j < t → (Fs r (max fr 0 + j)).isSome = true) (hk : k ≤ 100) (w : World) (hSt : St w B R k N ms Fs) :
    Calls Try.prog 10 #[.pointer (some ⟨B, 0, none⟩), .int .i64 (r : Int), .int .i64 fr] w fun e w' => e = .returned (.int .i64 (max fr 0 + t)) ∧ Drawn0 w w' := by
  have hi := is_c B R k N ms Fs (r : Int) w hSt
  have hit : isB k (r : Int) = true := by unfold isB; simp; omega
  rw [hit] at hi
  replace hi := Aside0.mk hi
  replace hSt := Aside0.mk hSt
  have hm0 : 0 ≤ max fr 0 := by omega
  have hm1 : max fr 0 ≤ 1000000 := by omega
  go_enter Try.func10, Try.ntmps10
  go_wp2_with (first | (go_at_call 21; (with_reducible refine hi.out.mono ?_); rintro e w' ⟨rfl, hw⟩; subst w') | fail)
  all_goals
    go_loopw [7] (fun v wr => ∃ j : Nat, j ≤ t ∧ v = .int .i64 (max fr 0 + j) ∧ Drawn0 w wr) (fun v _ => t + 1 - (intOf v - max fr 0).toNat)
    case atStart => exact ⟨0, Nat.zero_le _, by congr 1; omega, Drawn0.refl _⟩
    case round =>
      obtain ⟨j, hj, rfl, ⟨q, rfl⟩⟩ := hrel
      have hs := hSt.out.drewN q
      obtain ⟨c1, c2⟩ := hs.cells
      have c3 := c2 r hr
      have hlk := (hs.maps r hr).look (key := max fr 0 + j) (wf64 (by omega) (by omega))
      clear c2
      replace hs := Aside0.mk hs
      have b0 : (0 : Int) ≤ (r : Int) := by omega
      have b1 : (r : Int) < (k : Int) := by omega
      by_cases hjt : j < t
      · rw [hyes j hjt] at hlk
        generalize (Fs r (max fr 0 + j)).getD nilS = v at hlk
        generalize hgg : max fr 0 = g at *
        go_wp2_with fail
        go_roundw
        case rel => exact ⟨j + 1, by omega, by congr 1; omega, ⟨_, rfl⟩⟩
        case measure => simp [intOf]; omega
      · obtain rfl : j = t := by omega
        rw [hno] at hlk
        generalize (Fs r (max fr 0 + j)).getD nilS = v at hlk
        generalize hgg : max fr 0 = g at *
        go_wp2_with fail
        go_ret
        exact ⟨by rw [hgg]; rfl, ⟨_, rfl⟩⟩

/-- nothing in an empty list -/
theorem indexNil_c (c : Nat) (cl : Value) (w : World) : Calls Try.prog 28 #[.slice none 0 c, cl] w fun e w' => e = .returned (.int .i64 (-1)) ∧ w' = w := by
  go_enter Try.func28, Try.ntmps28
  go_wp2_with fail
  refine wp_loop_rounds 1 ?_
  rw [rounds_succ]
  go_wp2_with fail
  go_ret
  exact ⟨rfl, rfl⟩
theorem containsNil_c (c : Nat) (cl : Value) (w : World) : Calls Try.prog 22 #[.slice none 0 c, cl] w fun e w' => e = .returned (.bool false) ∧ w' = w := by
  have k := Aside0.mk (indexNil_c c cl w)
  go_enter Try.func22, Try.ntmps22
  go_wp2_with (first | (go_at_call 28; (with_reducible refine k.out.mono ?_); rintro e w' ⟨rfl, hw⟩; subst w') | fail)
  go_ret
  exact ⟨rfl, rfl⟩
theorem cloneNil_c (c : Nat) (w : World) : Calls Try.prog 24 #[.slice none 0 c] w fun e w' => e = .returned (.slice none 0 0) ∧ w' = w := by
  have heq := fun W => Lib.run_eql_slice_nil (P := Try.prog) W 28 36 none 0 c 0 0 Try.underlying28
  go_enter Try.func24, Try.ntmps24
  go_wp2_with fail
  go_ret
  exact ⟨rfl, rfl⟩

theorem bg {w W W' : World} {B : Nat} (h : Below w.heap.size w W) (hB : w.heap.size ≤ B) (hg : W.grownBy W' (some B)) : Below w.heap.size w W' :=
  h.grown hg h.size (fun k hk => by injection hk with hk; omega)
theorem quiet_at {P : Program} {f : FuncId} {args : Array Value} {w : World} {n : Nat} {v : Value}
    (h : Calls P f args (w.drewN n) fun e w' => e = .returned v ∧ w' = w.drewN n) : Calls P f args (w.drewN n) fun e w'' => e = .returned v ∧ ∃ m, w'' = w.drewN m :=
  h.mono fun _ _ ⟨he, hm⟩ => ⟨he, n, hm⟩

/-- what Add makes of the lists: another one is refused -/
def addF (r : Nat) (f : Int) (Fs : Nat → Int → Option Value) : Nat → Int → Option Value := if (Fs r f).isSome = true then Fs else fun i => if i = r then (fun x => if x = f then some nilS else Fs r x) else Fs i
set_option maxRecDepth 100000 in
set_option maxHeartbeats 4000000 in
theorem add_c (B R k N : Nat) (ms : Nat → Nat) (Fs : Nat → Int → Option Value) (r : Nat) (hr : r < k) (hk : k ≤ 100) (f : Int) (f0 : 0 ≤ f) (f1 : f < 10000) (c : Nat) (hN : N < 100000) (w : World) (h : St w B R k N ms Fs) :
    Calls Try.prog 9 #[.pointer (some ⟨B, 0, none⟩), .agg #[.int .i64 (r : Int), .int .i64 f, .slice none 0 0]] w fun e w' => e = .returned (.bool (!(Fs r f).isSome)) ∧ St w' B R k (N + 1) ms (addF r f Fs) ∧ (∀ w0 : World, Below w0.heap.size w0 w → w0.heap.size ≤ ms r → Below w0.heap.size w0 w') ∧ (∀ b, b < w.heap.size → b ≠ ms r → w'.heap[b]? = w.heap[b]?) := by
  have hi := fun W (hh : St W B R k N ms Fs) => is_c B R k N ms Fs (r : Int) W hh
  have hit : isB k (r : Int) = true := by unfold isB; simp; omega
  rw [hit] at hi
  replace hi := Aside0.mk hi
  replace h := Aside0.mk h
  have b0 : (0 : Int) ≤ (r : Int) := by omega
  have b1 : (r : Int) < (k : Int) := by omega
  have h1 := Aside0.mk (h.out.below ((Below.refl w.heap.size w).alloc (Nat.le_refl _) (.cells #[.int .i64 (r : Int), .int .i64 f, .slice none 0 0] 30)))
  go_enter Try.func9, Try.ntmps9
  go_wp2_with fail
  go_quiet ((first | (go_at_call 21; exact quiet_at (hi.out _ (by exact h1.out.drewN _))) | (go_at_call 22; exact quiet_at (containsNil_c _ _ _))))
  go_wp2_with fail
  have h2 := h1.out.drewN nq
  have q0 : ((w.alloc (.cells #[.int .i64 (r : Int), .int .i64 f, .slice none 0 0] 30)).drewN nq).cell? ⟨w.heap.size, 0, none⟩ = some (.int .i64 (r : Int)) := World.cell?_alloc_new w _ _ _
  have q1 : ((w.alloc (.cells #[.int .i64 (r : Int), .int .i64 f, .slice none 0 0] 30)).drewN nq).cell? ⟨w.heap.size, 1, none⟩ = some (.int .i64 f) := World.cell?_alloc_new w _ _ _
  have q2 : ((w.alloc (.cells #[.int .i64 (r : Int), .int .i64 f, .slice none 0 0] 30)).drewN nq).cell? ⟨w.heap.size, 2, none⟩ = some (.slice none 0 0) := World.cell?_alloc_new w _ _ _
  have hbW := Aside0.mk (fun (w0 : World) (hb : Below w0.heap.size w0 w) => (pw_below_drewN (hb.alloc hb.size (.cells #[.int .i64 (r : Int), .int .i64 f, .slice none 0 0] 30)) nq : Below w0.heap.size w0 _))
  have hfr : Aside0 (∀ b, b < w.heap.size → ((w.alloc (.cells #[.int .i64 (r : Int), .int .i64 f, .slice none 0 0] 30)).drewN nq).heap[b]? = w.heap[b]?) := ⟨fun b hb => Below.heap_alloc w _ b hb⟩
  have hsz0 : Aside0 (w.heap.size ≤ ((w.alloc (.cells #[.int .i64 (r : Int), .int .i64 f, .slice none 0 0] 30)).drewN nq).heap.size) := ⟨by show w.heap.size ≤ (w.alloc (.cells #[.int .i64 (r : Int), .int .i64 f, .slice none 0 0] 30)).heap.size; simp⟩
  clear h1
  generalize (w.alloc (.cells #[.int .i64 (r : Int), .int .i64 f, .slice none 0 0] 30)).drewN nq = W0 at *
  obtain ⟨c1, c2⟩ := h2.cells
  have c3 := c2 r hr
  clear c2
  have hlk := fun m => ((h2.drewN m).maps r hr).look (key := f) (wf64 (by omega) (by omega))
  replace h2 := Aside0.mk h2
  generalize hv : (Fs r f).getD nilS = v at hlk
  generalize hth : (Fs r f).isSome = th at *
  replace hv := Aside0.mk hv
  replace hth := Aside0.mk hth
  cases th with
  | true =>
    go_quiet (fail)
    go_wp2_with fail
    go_ret
    refine ⟨by rw [hth.out]; rfl, ?_, fun w0 hb hle => ?_, fun b hb _ => hfr.out b hb⟩
    · have e : addF r f Fs = Fs := by unfold addF; rw [if_pos hth.out]
      rw [e]
      exact (h2.out.drewN _).up
    · exact pw_below_drewN (hbW.out w0 hb) _
  | false =>
    go_quiet (fail)
    go_wp2_with fail
    have h3 := h2.out.drewN nq
    have hbW1 := Aside0.mk (fun (w0 : World) (hb : Below w0.heap.size w0 w) => pw_below_drewN (hbW.out w0 hb) nq)
    replace q0 : (W0.drewN nq).cell? _ = _ := q0
    replace q1 : (W0.drewN nq).cell? _ = _ := q1
    replace q2 : (W0.drewN nq).cell? _ = _ := q2
    replace c1 : (W0.drewN nq).cell? _ = _ := c1
    replace c3 : (W0.drewN nq).cell? _ = _ := c3
    have hfr1 : Aside0 (∀ b, b < w.heap.size → (W0.drewN nq).heap[b]? = w.heap[b]?) := ⟨fun b hb => hfr.out b hb⟩
    have hsz1 : Aside0 (w.heap.size ≤ (W0.drewN nq).heap.size) := ⟨hsz0.out⟩
    clear hlk h2 hbW hfr hsz0
    generalize W0.drewN nq = W1 at *
    replace h3 := Aside0.mk h3
    go_still_tail 14, (by kernel_rfl)
    still_call (cloneNil_c _ _)
    refine wpStill_nil ?_
    change wpList _ _ _ _ _ W1.drew
    have h4 : St W1.drew B R k N ms Fs := h3.out.move rfl rfl (fun _ _ => rfl)
    obtain ⟨w5, hrun, hS5, hg5⟩ := h4.put hr (key := f) (wf64 (by omega) (by omega)) (by unfold maxLen; omega) none 0 0
    have hbW2 := Aside0.mk (fun (w0 : World) (hb : Below w0.heap.size w0 w) (hle : w0.heap.size ≤ ms r) => bg (below_drew (hbW1.out w0 hb)) hle hg5)
    have hfr2 : Aside0 (∀ b, b < w.heap.size → b ≠ ms r → w5.heap[b]? = w.heap[b]?) := ⟨fun b hb hne => (hg5.block b (Nat.lt_of_lt_of_le hb hsz1.out) (fun e => hne (by injection e))).trans (hfr1.out b hb)⟩
    replace hS5 := Aside0.mk hS5
    clear hg5 h4
    go_wp2_with fail
    go_ret
    refine ⟨by rw [hth.out]; rfl, ?_, fun w0 hb hle => hbW2.out w0 hb hle, hfr2.out⟩
    have e : addF r f Fs = fun i => if i = r then (fun x => if x = f then some (.slice none 0 0) else Fs r x) else Fs i := by unfold addF; rw [if_neg (by rw [hth.out]; simp)]; rfl
    rw [e]
    exact hS5.out
end Go.Proofs.Ytnenhlgpkfelcaa.Box
