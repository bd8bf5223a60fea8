/- OutboxStays: what the store holds while lists of one message are added, and the contracts of Add, Get and Missing over it. -/
import Derived.Test.YtnenhlgpkfelcaaGet
namespace Go.Proofs.Ytnenhlgpkfelcaa.Box
open Go Go.RowKit Go.Maps Go.Proofs.Ytnenhlgpkfelcaa.POutboxPlays Go.Proofs.YtnenhlgpkfelcaaW.PrintWords Go.Proofs.YtnenhlgpkfelcaaW.PrintLast Go.Proofs.YtnenhlgpkfelcaaW.PrintMore
set_option linter.unusedVariables false
set_option linter.unusedSimpArgs false
/-- the message of a frame -/
def el (f x : Int) : S36 := ⟨0, 0, 0, f, ⟨0, 0, 0, 0, 0, 0, 0, 0, 0⟩, x, 0⟩
structure Inv (w : World) (B R : Nat) (ms : Nat → Nat) (N base : Nat) (x : Int) (tk : List Int) (Fs : Nat → Int → Option Value) : Prop where
  st : St w B R 1 N ms Fs
  no : ∀ v, tk.contains v = false → Fs 0 v = none
  yes : ∀ v, tk.contains v = true → ∃ A c, Fs 0 v = some (.slice A 1 c) ∧ Kd.R k36 36 w base (fun _ => True) (.slice A 1 c) [el v x]
theorem R36_move {w w' : World} {base : Nat} {v : Value} {l : List S36} (h : Kd.R k36 36 w base (fun _ => True) v l) (hm : ∀ (b : Nat) (cells : Array Value), w.heap[b]? = some (Obj.cells cells 36 (0, 0)) → w'.heap[b]? = w.heap[b]?) : Kd.R k36 36 w' base (fun _ => True) v l := by
  refine Kd.R_mono (Kd.R_step (Kd.R_bound h) (fun b hb _ => ?_)) (fun _ _ => trivial)
  obtain ⟨_, _, _, q, hq, cells, hc⟩ := hb
  have hq36 : q = 36 := by
    simp [k36, k34, Kd.iso, Kd.pair, Kd.int, Kd.scalar] at hq
    exact hq
  subst hq36
  exact hm b cells hc
section
variable {w w' : World} {B R N base : Nat} {ms : Nat → Nat} {x : Int} {tk : List Int} {Fs : Nat → Int → Option Value}
theorem Inv.below (h : Inv w B R ms N base x tk Fs) (hb : Below w.heap.size w w') : Inv w' B R ms N base x tk Fs :=
  ⟨h.st.below hb, h.no, fun v hv => by
    obtain ⟨A, c, h1, h2⟩ := h.yes v hv
    exact ⟨A, c, h1, Kd.R_below h2 hb⟩⟩
theorem Inv.other {row : Option Nat} (h : Inv w B R ms N base x tk Fs) (hg : w.grownBy w' row) (h1 : some B ≠ row) (h2 : some R ≠ row) (h3 : ∀ i, i < 1 → some (ms i) ≠ row) (h4 : ∀ k, row = some k → ∃ cells, w.heap[k]? = some (.cells cells 3 (0, 0))) : Inv w' B R ms N base x tk Fs :=
  ⟨h.st.other hg h1 h2 h3, h.no, fun v hv => by
    obtain ⟨A, c, e, hR⟩ := h.yes v hv
    refine ⟨A, c, e, R36_move hR fun b cells hc => hg.block b (blk_lt' hc) fun er => ?_⟩
    obtain ⟨cells', hc'⟩ := h4 b er.symm
    rw [hc] at hc'
    injection hc' with hc'
    injection hc' with _ hc'
    cases hc'⟩
end
theorem el_good (f y : Int) : [el f y].any (badP 0 f) = false := by simp [el, badP]
/-- the list of a frame is added: it is taken where none is there -/
theorem add1_c (B R N base : Nat) (ms : Nat → Nat) (x : Int) (tk : List Int) (Fs : Nat → Int → Option Value) (f : Int) (f0 : 0 ≤ f) (f1 : f < 10000) (hN : N < 100000) (A : Option Addr) (c : Nat) (w : World) (hb0 : base ≤ w.heap.size) (h : Inv w B R ms N base x tk Fs) (HC : Kd.C k36 w A 1 [el f x]) :
    Calls Try.prog 9 #[.pointer (some ⟨B, 0, none⟩), .agg #[.int .i64 0, .int .i64 f, .slice A 1 c]] w fun e w' => e = .returned (.bool (!tk.contains f)) ∧ (∃ Fs', Inv w' B R ms (N + 1) base x (tk ++ [f]) Fs') ∧ (∀ w0 : World, Below w0.heap.size w0 w → w0.heap.size ≤ ms 0 → Below w0.heap.size w0 w') ∧ (∀ b, b < w.heap.size → b ≠ ms 0 → w'.heap[b]? = w.heap[b]?) := by
  have hm := addL_c B R 1 N ms Fs 0 (by omega) (by omega) f f0 f1 A 1 c [el f x] (by omega) (el_good f x) hN w h.st HC
  rw [show ((0 : Nat) : Int) = 0 from rfl] at hm
  refine hm.mono ?_
  rintro e w' ⟨he, h1, h2, h3, h4⟩
  have hmv : ∀ (b : Nat) (cells : Array Value), w.heap[b]? = some (Obj.cells cells 36 (0, 0)) → w'.heap[b]? = w.heap[b]? := fun b cells hc => h4 b (blk_lt' hc) fun e => by
    obtain ⟨es, cc, hmm⟩ := (h.st.maps 0 (by omega)).is
    rw [← e, hc] at hmm
    cases hmm
  cases hc : tk.contains f with
  | true =>
    obtain ⟨A0, c0, e0, hR0⟩ := h.yes f hc
    have hs : (Fs 0 f).isSome = true := by rw [e0]; rfl
    rw [hs] at he
    refine ⟨he, ⟨Fs, (h1 hs).up, fun v hv => h.no v ?_, fun v hv => ?_⟩, h3, h4⟩
    · rw [contains_snoc] at hv
      simp only [Bool.or_eq_false_iff] at hv
      exact hv.1
    · have hv' : tk.contains v = true := by
        rw [contains_snoc] at hv
        simp only [Bool.or_eq_true] at hv
        rcases hv with hv | hv
        · exact hv
        · have : v = f := by simpa using hv
          rw [this]; exact hc
      obtain ⟨A1, c1, e1, hR1⟩ := h.yes v hv'
      exact ⟨A1, c1, e1, R36_move hR1 hmv⟩
  | false =>
    have hs : (Fs 0 f).isSome = false := by rw [h.no f hc]; rfl
    rw [hs] at he
    obtain ⟨A', c', hR', hS'⟩ := h2 hs
    refine ⟨he, ⟨_, hS', fun v hv => ?_, fun v hv => ?_⟩, h3, h4⟩
    · rw [contains_snoc] at hv
      simp only [Bool.or_eq_false_iff] at hv
      have hne : v ≠ f := by simpa using hv.2
      simp only [putF, if_pos, if_neg hne]
      exact h.no v hv.1
    · by_cases hvf : v = f
      · subst hvf
        refine ⟨A', c', by simp [putF], Kd.R_lower hR' hb0⟩
      · have hv' : tk.contains v = true := by
          rw [contains_snoc] at hv
          simp only [Bool.or_eq_true] at hv
          rcases hv with hv | hv
          · exact hv
          · exact absurd (by simpa using hv) hvf
        obtain ⟨A1, c1, e1, hR1⟩ := h.yes v hv'
        exact ⟨A1, c1, by simp only [putF, if_pos, if_neg hvf]; exact e1, R36_move hR1 hmv⟩
/-- another list of a frame that is there is refused -/
theorem add2_c (B R N base : Nat) (ms : Nat → Nat) (x : Int) (tk : List Int) (Fs : Nat → Int → Option Value) (f : Int) (f0 : 0 ≤ f) (f1 : f < 10000) (hN : N < 100000) (A : Option Addr) (c : Nat) (y : Int) (w : World) (h : Inv w B R ms N base x tk Fs) (hc : tk.contains f = true) (HC : Kd.C k36 w A 1 [el f y]) :
    Calls Try.prog 9 #[.pointer (some ⟨B, 0, none⟩), .agg #[.int .i64 0, .int .i64 f, .slice A 1 c]] w fun e w' => e = .returned (.bool false) ∧ Inv w' B R ms N base x tk Fs ∧ (∀ w0 : World, Below w0.heap.size w0 w → w0.heap.size ≤ ms 0 → Below w0.heap.size w0 w') ∧ (∀ b, b < w.heap.size → b ≠ ms 0 → w'.heap[b]? = w.heap[b]?) := by
  have hm := addL_c B R 1 N ms Fs 0 (by omega) (by omega) f f0 f1 A 1 c [el f y] (by omega) (el_good f y) hN w h.st HC
  rw [show ((0 : Nat) : Int) = 0 from rfl] at hm
  refine hm.mono ?_
  rintro e w' ⟨he, h1, h2, h3, h4⟩
  have hmv : ∀ (b : Nat) (cells : Array Value), w.heap[b]? = some (Obj.cells cells 36 (0, 0)) → w'.heap[b]? = w.heap[b]? := fun b cells hc => h4 b (blk_lt' hc) fun e => by
    obtain ⟨es, cc, hmm⟩ := (h.st.maps 0 (by omega)).is
    rw [← e, hc] at hmm
    cases hmm
  obtain ⟨A0, c0, e0, hR0⟩ := h.yes f hc
  have hs : (Fs 0 f).isSome = true := by rw [e0]; rfl
  rw [hs] at he
  refine ⟨he, ⟨h1 hs, h.no, fun v hv => ?_⟩, h3, h4⟩
  obtain ⟨A1, c1, e1, hR1⟩ := h.yes v hv
  exact ⟨A1, c1, e1, R36_move hR1 hmv⟩
theorem getS_c (B R N base : Nat) (ms : Nat → Nat) (x : Int) (tk : List Int) (Fs : Nat → Int → Option Value) (f : Int) (f0 : 0 ≤ f) (f1 : f < 10000) (w : World) (h : Inv w B R ms N base x tk Fs) (hc : tk.contains f = true) :
    Calls Try.prog 12 #[.pointer (some ⟨B, 0, none⟩), .int .i64 0, .int .i64 f] w fun e w' => (∃ A' c', e = .returned (.tuple #[.slice A' 1 c', .bool true]) ∧ Kd.C k36 w' A' 1 [el f x]) ∧ Below w.heap.size w w' := by
  obtain ⟨A0, c0, e0, hR0⟩ := h.yes f hc
  have hm := get_c B R 1 N ms Fs 0 (by omega) (by omega) f (wf64 (by omega) (by omega)) A0 1 c0 [el f x] w h.st (by rw [e0]; rfl) (Kd.R_reads' hR0).2.2 (by omega)
  rw [show ((0 : Nat) : Int) = 0 from rfl, e0] at hm
  exact hm.mono fun e w' ⟨⟨A', c', he, hR⟩, hb⟩ => ⟨⟨A', c', he, (Kd.R_reads' hR).2.2⟩, hb⟩
/-- the first number that is not there -/
theorem gap50 (tk : List Int) (hb : ∀ x ∈ tk, 0 ≤ x ∧ x < 50) : ∃ t : Nat, t ≤ 50 ∧ tk.contains (t : Int) = false ∧ ∀ j : Nat, j < t → tk.contains (j : Int) = true := by
  have hbig : ∀ y : Int, 50 ≤ y → tk.contains y = false := by
    intro y hy
    cases h : tk.contains y with
    | false => rfl
    | true =>
      have := hb y (by simpa using h)
      omega
  have key : ∀ d : Nat, ∀ t0 : Nat, t0 + d = 50 → (∀ j : Nat, j < t0 → tk.contains (j : Int) = true) → ∃ t : Nat, t ≤ 50 ∧ tk.contains (t : Int) = false ∧ ∀ j : Nat, j < t → tk.contains (j : Int) = true := by
    intro d
    induction d with
    | zero => exact fun t0 h1 h2 => ⟨t0, by omega, hbig _ (by omega), h2⟩
    | succ d ih =>
      intro t0 h1 h2
      cases h : tk.contains (t0 : Int) with
      | false => exact ⟨t0, by omega, h, h2⟩
      | true => exact ih (t0 + 1) (by omega) (fun j hj => by
          by_cases hjt : j = t0
          · subst hjt; exact h
          · exact h2 j (by omega))
  exact key 50 0 (by omega) (fun j hj => absurd hj (Nat.not_lt_zero _))
theorem missS_c (B R N base : Nat) (ms : Nat → Nat) (x : Int) (tk : List Int) (Fs : Nat → Int → Option Value) (t : Nat) (ht : t ≤ 50) (hno : tk.contains (t : Int) = false) (hyes : ∀ j : Nat, j < t → tk.contains (j : Int) = true) (w : World) (h : Inv w B R ms N base x tk Fs) :
    Calls Try.prog 10 #[.pointer (some ⟨B, 0, none⟩), .int .i64 0, .int .i64 (-5)] w fun e w' => e = .returned (.int .i64 (t : Int)) ∧ Drawn0 w w' := by
  have hm := missing_c B R 1 N ms Fs 0 (by omega) (-5) t (by omega) (by omega) (by rw [show max (-5 : Int) 0 + (t : Int) = t by omega, h.no _ hno]; rfl) (fun j hj => by
    obtain ⟨A, c, e, _⟩ := h.yes _ (hyes j hj)
    rw [show max (-5 : Int) 0 + (j : Int) = j by omega, e]; rfl) (by omega) w h.st
  rw [show ((0 : Nat) : Int) = 0 from rfl, show max (-5 : Int) 0 + (t : Int) = t by omega] at hm
  exact hm
end Go.Proofs.Ytnenhlgpkfelcaa.Box
