/- The contract of Add over any list of messages; what the store's lists hold. -/
import Derived.Test.YtnenhlgpkfelcaaStore2
import Derived.Deep.RegionLaw
namespace Go.Proofs.Ytnenhlgpkfelcaa.Box2
open Go.Proofs.Ytnenhlgpkfelcaa.Box
open Go Go.RowKit Go.Maps Go.Proofs.Ytnenhlgpkfelcaa.POutboxPlays Go.Proofs.YtnenhlgpkfelcaaW.PrintWords Go.Proofs.YtnenhlgpkfelcaaW.PrintLast Go.Proofs.YtnenhlgpkfelcaaW.PrintMore
set_option linter.unusedVariables false

/-- the lists that are there, read -/
def SL (w : World) (base : Nat) (Fs : Nat → Int → Option Value) (Ls : Nat → Int → Option (List S36)) : Prop :=
  ∀ i x, match Ls i x with
    | none => Fs i x = none
    | some cs => ∃ A c, Fs i x = some (.slice A cs.length c) ∧ Kd.R k36 36 w base (fun _ => True) (.slice A cs.length c) cs
theorem SL.zero (w : World) (base : Nat) : SL w base F0 (fun _ _ => none) := fun _ _ => rfl
theorem SL.move {w w' : World} {base : Nat} {Fs : Nat → Int → Option Value} {Ls : Nat → Int → Option (List S36)} (h : SL w base Fs Ls) (hm : ∀ (b : Nat) (cells : Array Value), w.heap[b]? = some (Obj.cells cells 36 (0, 0)) → w'.heap[b]? = w.heap[b]?) : SL w' base Fs Ls := fun i x => by
  have hx := h i x
  revert hx
  cases Ls i x with
  | none => exact id
  | some cs =>
    rintro ⟨A, c, h1, h2⟩
    refine ⟨A, c, h1, Kd.R_mono (Kd.R_step (Kd.R_bound h2) (fun b hb _ => ?_)) (fun _ _ => trivial)⟩
    obtain ⟨_, _, _, q, hq, cells, hc⟩ := hb
    have hq36 : q = 36 := by
      simp [k36, k34, Kd.iso, Kd.pair, Kd.int, Kd.scalar] at hq
      exact hq
    subst hq36
    exact hm b cells hc
theorem SL.below {w w' : World} {base : Nat} {Fs : Nat → Int → Option Value} {Ls : Nat → Int → Option (List S36)} (h : SL w base Fs Ls) (hb : Below w.heap.size w w') : SL w' base Fs Ls := SL.move h fun b cells hc => hb.block b (blk_lt' hc)

def badP (r : Nat) (f : Int) (p : S36) : Bool := p.f1 != (r : Int) || p.f3 != f
set_option maxRecDepth 100000 in
set_option maxHeartbeats 4000000 in
/-- a list that is of another region, or frame, is refused -/
theorem addBad_c (B R xc k N : Nat) (ms : Nat → Nat) (Fs : Nat → Int → Option Value) (r : Nat) (hr : r < k) (hk : k ≤ 100) (f : Int) (f0 : 0 ≤ f) (f1 : f < 10000) (A : Option Addr) (n c : Nat) (l : List S36) (hn : n ≤ 1000) (hbad : l.any (badP r f) = true) (w : World) (h : St w B R xc k N ms Fs) (HC : Kd.C k36 w A n l) :
    Calls Try.prog 9 #[.pointer (some ⟨B, 0, none⟩), .agg #[.int .i64 (r : Int), .int .i64 f, .slice A n c]] w fun e w' => e = .returned (.bool false) ∧ Below w.heap.size w w' := by
  have hi := fun W (hh : St W B R xc k N ms Fs) => is_c B R xc k N ms Fs (r : Int) W hh
  have hit : isB k (r : Int) = true := by unfold isB; simp; omega
  rw [hit] at hi
  replace hi := Aside0.mk hi
  replace h := Aside0.mk h
  have b0 : (0 : Int) ≤ (r : Int) := by omega
  have b1 : (r : Int) < (k : Int) := by omega
  have hbA := (Below.refl w.heap.size w).alloc (Nat.le_refl _) (.cells #[.int .i64 (r : Int), .int .i64 f, .slice A n c] 30)
  have h1 := h.out.below hbA
  have hC1 := Kd.C_alloc HC (.cells #[.int .i64 (r : Int), .int .i64 f, .slice A n c] 30)
  have q0 : (w.alloc (.cells #[.int .i64 (r : Int), .int .i64 f, .slice A n c] 30)).cell? ⟨w.heap.size, 0, none⟩ = some (.int .i64 (r : Int)) := World.cell?_alloc_new w _ _ _
  have q1 : (w.alloc (.cells #[.int .i64 (r : Int), .int .i64 f, .slice A n c] 30)).cell? ⟨w.heap.size, 1, none⟩ = some (.int .i64 f) := World.cell?_alloc_new w _ _ _
  have q2 : (w.alloc (.cells #[.int .i64 (r : Int), .int .i64 f, .slice A n c] 30)).cell? ⟨w.heap.size, 2, none⟩ = some (.slice A n c) := World.cell?_alloc_new w _ _ _
  have qb : (w.alloc (.cells #[.int .i64 (r : Int), .int .i64 f, .slice A n c] 30)).heap[w.heap.size]? = some (.cells #[.int .i64 (r : Int), .int .i64 f, .slice A n c] 30 (0, 0)) := heap_alloc_new _ _
  replace hbA := Aside0.mk hbA
  replace HC := Aside0.mk HC
  go_enter Try.func9, Try.ntmps9
  go_wp2_with fail
  generalize hW : w.alloc (.cells #[.int .i64 (r : Int), .int .i64 f, .slice A n c] 30) = W0 at *
  replace h1 := Aside0.mk h1
  replace hC1 := Aside0.mk hC1
  replace qb := Aside0.mk qb
  go_still_tail 25, (by kernel_rfl)
  still_call (hi.out _ (by exact h1.out.drew))
  repeat still_step
  refine wpStill_nil ?_
  change wpList _ _ _ _ _ W0.drew
  have kc := contains_c A n c l w.heap.size (badP r f) W0.drew (by exact hC1.out) (by omega) (fun p W' hb => pred_c w.heap.size (r : Int) f (.slice A n c) p W' ((hb.block _ (by exact blk_lt' qb.out)).trans qb.out))
  rw [hbad] at kc
  replace kc := Aside0.mk kc
  go_wp2_with (first
    | (go_at_call 22; (with_reducible refine kc.out.mono ?_); rintro e w2 ⟨rfl, hb2⟩; have HB := Aside0.mk (below_then (below_drew hbA.out) (below_drew hbA.out).size hb2))
    | fail)
  go_ret
  exact ⟨rfl, HB.out⟩
end Go.Proofs.Ytnenhlgpkfelcaa.Box2
