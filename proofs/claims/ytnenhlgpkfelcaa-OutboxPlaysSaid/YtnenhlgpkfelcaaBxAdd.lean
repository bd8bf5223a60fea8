/- A list added to the store and to its reference: the same answer, and both go on alike; a fork goes on in its place. -/
import Derived.Test.YtnenhlgpkfelcaaBx
namespace Go.Proofs.Ytnenhlgpkfelcaa.Box2
open Go.Proofs.Ytnenhlgpkfelcaa.Box
open Go Go.RowKit Go.Maps Go.Proofs.Ytnenhlgpkfelcaa.POutboxPlays Go.Proofs.YtnenhlgpkfelcaaW.PrintWords Go.Proofs.YtnenhlgpkfelcaaW.PrintLast Go.Proofs.YtnenhlgpkfelcaaW.PrintMore
set_option linter.unusedVariables false
set_option linter.unusedSimpArgs false
section
variable {w0 wr w : World} {B R xc k N Br Rr : Nat} {ms : Nat → Nat} {Fs : Nat → Int → Option Value} {vs : Nat → Value} {LL : Nat → List S30}
/-- behind an addition to both -/
def After (w0 wr w1 w2 : World) (B R xc k N : Nat) (ms : Nat → Nat) (Br Rr : Nat) : Prop :=
  Young wr.heap.size w1 w2 ∧ Below w0.heap.size w0 w2 ∧ ∃ Fs' vs' LL', Bx w0.heap.size w2 B R xc k (N + 1) ms Fs' Br Rr vs' LL'
def Adds (w0 wr w : World) (B R xc k N : Nat) (ms : Nat → Nat) (Br Rr : Nat) (r f : Int) (A : Option Addr) (n c : Nat) (A' : Option Addr) (c' : Nat) (ans : Bool) : Prop :=
  Calls Try.prog 9 #[.pointer (some ⟨B, 0, none⟩), .agg #[.int .i64 r, .int .i64 f, .slice A n c]] w fun e w1 => e = .returned (.bool ans) ∧ Young wr.heap.size w w1 ∧ Below w0.heap.size w0 w1 ∧
    Calls Try.prog 15 #[.pointer (some ⟨Br, 0, none⟩), .agg #[.int .i64 r, .int .i64 f, .slice A' n c']] w1 fun e w2 => e = .returned (.bool ans) ∧ After w0 wr w1 w2 B R xc k N ms Br Rr
theorem adds_no (hw : Bx w0.heap.size w B R xc k N ms Fs Br Rr vs LL) (HB : Below w0.heap.size w0 w) (r f : Int) (A : Option Addr) (n c : Nat) (A' : Option Addr) (c' : Nat)
    (K9 : Calls Try.prog 9 #[.pointer (some ⟨B, 0, none⟩), .agg #[.int .i64 r, .int .i64 f, .slice A n c]] w fun e w1 => e = .returned (.bool false) ∧ Below w.heap.size w w1)
    (K15 : ∀ W, Below w.heap.size w W → Calls Try.prog 15 #[.pointer (some ⟨Br, 0, none⟩), .agg #[.int .i64 r, .int .i64 f, .slice A' n c']] W fun e w2 => e = .returned (.bool false) ∧ Below W.heap.size W w2) :
    Adds w0 wr w B R xc k N ms Br Rr r f A n c A' c' false := by
  refine K9.mono ?_
  rintro e w1 ⟨he, hb1⟩
  refine ⟨he, Young.of hb1, below_then HB HB.size hb1, (K15 w1 hb1).mono ?_⟩
  rintro e w2 ⟨he2, hb2⟩
  have HB1 := below_then HB HB.size hb1
  exact ⟨he2, Young.of hb2, below_then HB1 HB1.size hb2, Fs, vs, LL, ((hw.below hb1).below hb2).up⟩
theorem SL.make {w : World} {base : Nat} {Fs : Nat → Int → Option Value} {Ls : Nat → Int → Option (List S36)} (h : ∀ i x, (Ls i x = none → Fs i x = none) ∧ ∀ cs, Ls i x = some cs → ∃ A c, Fs i x = some (.slice A cs.length c) ∧ Kd.R k36 36 w base (fun _ => True) (.slice A cs.length c) cs) : SL w base Fs Ls := fun i x => by
  obtain ⟨h1, h2⟩ := h i x
  cases hL : Ls i x with
  | none => exact h1 hL
  | some cs => exact h2 cs hL
theorem SL.put {w : World} {base : Nat} {Fs : Nat → Int → Option Value} {LL : Nat → List S30} (h : SL w base Fs (fun i x => look (LL i) x)) {r : Nat} {f : Int} {l : List S36} {A : Option Addr} {c : Nat} (hR : Kd.R k36 36 w base (fun _ => True) (.slice A l.length c) l) : SL w base (putF r f (.slice A l.length c) Fs) (fun i x => look (if i = r then LL r ++ [⟨(r : Int), f, l⟩] else LL i) x) := by
  refine SL.make fun i x => ?_
  unfold putF
  by_cases hir : i = r
  · subst hir
    simp only [if_pos, look_snoc]
    by_cases hxf : x = f
    · subst hxf
      simp only [if_pos]
      refine ⟨fun h => (by cases h), fun cs h => ?_⟩
      injection h with h
      subst h
      exact ⟨A, c, rfl, hR⟩
    · rw [if_neg hxf, if_neg (fun e : f = x => hxf e.symm)]
      exact ⟨fun hn => h.at_none hn, fun cs hn => h.at_some hn⟩
  · simp only [if_neg hir]
    exact ⟨fun hn => h.at_none hn, fun cs hn => h.at_some hn⟩
theorem size_of {w w1 : World} {m : Nat} (hF : ∀ b, b < w.heap.size → b ≠ m → w1.heap[b]? = w.heap[b]?) (hm : m < w1.heap.size) : w.heap.size ≤ w1.heap.size := by
  by_cases h0 : w.heap.size = 0
  · omega
  · by_cases h1 : w.heap.size - 1 = m
    · omega
    · have h2 := hF (w.heap.size - 1) (by omega) h1
      rw [Array.getElem?_eq_getElem (by omega : w.heap.size - 1 < w.heap.size)] at h2
      have := (Array.getElem?_eq_some_iff.1 h2).1
      omega
theorem bx_add (h : Bx w0.heap.size wr B R xc k N ms Fs Br Rr vs LL) (HB0 : Below w0.heap.size w0 wr) (Hr : Below wr.heap.size wr w) (hN : N < 1000) (r f : Int) (A : Option Addr) (n c : Nat) (A' : Option Addr) (c' : Nat) (l : List S36) (hn : n ≤ 20) (HC : Kd.C k36 w A n l) (HC' : ∀ W, Below w0.heap.size w0 W → Kd.C k36 W A' n l) :
    ∃ ans : Bool, Adds w0 wr w B R xc k N ms Br Rr r f A n c A' c' ans := by
  have hw := h.below Hr
  have HB := below_then HB0 HB0.size Hr
  have hkk := h.kk
  have hl : l.length = n := HC.1
  have hold := h.old
  have hLn : ∀ i, (LL i).length ≤ 1000 := fun i => by have := h.len i; omega
  have hLs : ∀ i, ∀ o ∈ LL i, o.f2.length ≤ 1000 := fun i o ho => by have := (h.ent i o ho).1; omega
  rcases (by omega : r < 0 ∨ (0 ≤ r ∧ (k : Int) ≤ r) ∨ (0 ≤ r ∧ r < (k : Int))) with hr | ⟨hr, hr2⟩ | ⟨hr0, hr1⟩
  · exact ⟨false, adds_no hw HB r f A n c A' c' (addOut_c B R xc k N ms Fs r (by omega) f (by unfold isB; simp; omega) A n c w hw.st) (fun W hW => raddlow_c r f A' n c' l Br Rr k w0.heap.size vs LL W (hw.rs.below hW) hr)⟩
  · exact ⟨false, adds_no hw HB r f A n c A' c' (addOut_c B R xc k N ms Fs r (by omega) f (by unfold isB; simp; omega) A n c w hw.st) (fun W hW => raddhigh_c r f A' n c' l Br Rr k w0.heap.size vs LL W (hw.rs.below hW) hr hr2)⟩
  · obtain ⟨r, rfl⟩ : ∃ r' : Nat, r = (r' : Int) := ⟨r.toNat, by omega⟩
    have hrk : r < k := by omega
    rcases (by omega : f < 0 ∨ 10000 ≤ f ∨ (0 ≤ f ∧ f < 10000)) with hf | hf | ⟨hf0, hf1⟩
    · exact ⟨false, adds_no hw HB r f A n c A' c' (addLow_c B R xc k N ms Fs r (by omega) f hrk hf A n c w hw.st) (fun W hW => raddNeg_c r f A' n c' l Br Rr k w0.heap.size vs LL W (hw.rs.below hW) hrk (hLn r) (hLs r) (by rw [h.far r f (.inl hf)]; rfl) hf)⟩
    · exact ⟨false, adds_no hw HB r f A n c A' c' (addBig_c B R xc k N ms Fs r (by omega) f hrk hf A n c w hw.st) (fun W hW => raddBig_c r f A' n c' l Br Rr k w0.heap.size vs LL W (hw.rs.below hW) hrk (hLn r) (hLs r) (by rw [h.far r f (.inr hf)]; rfl) hf)⟩
    · cases hbad : l.any (badP r f) with
      | true =>
        refine ⟨false, adds_no hw HB r f A n c A' c' (addBad_c B R xc k N ms Fs r hrk (by omega) f hf0 hf1 A n c l (by omega) hbad w hw.st HC) (fun W hW => ?_)⟩
        cases hlk : (look (LL r) f).isSome with
        | true => exact raddThere_c r f A' n c' l Br Rr k w0.heap.size vs LL W (hw.rs.below hW) hrk (hLn r) (hLs r) hlk
        | false => exact raddBad_c r f A' n c' l Br Rr k w0.heap.size vs LL W (hw.rs.below hW) hrk (hLn r) (hLs r) hlk hf0 hf1 (HC' W (below_then HB HB.size hW)) (by omega) hbad
      | false =>
        have K9 := addL_c B R xc k N ms Fs r hrk (by omega) f hf0 hf1 A n c l (by omega) hbad (by omega) w hw.st HC
        have his := SL.is h.sl r f
        cases hlk : (look (LL r) f).isSome with
        | true =>
          rw [hlk] at his
          refine ⟨false, K9.mono ?_⟩
          rintro e w1 ⟨he, hst, _, hB1, hF1⟩
          have hsz : w.heap.size ≤ w1.heap.size := size_of hF1 ((hst his).maps r hrk).lt
          have hcell : ∀ (b : Nat) (cells : Array Value) (t : TypeId), w.heap[b]? = some (Obj.cells cells t (0, 0)) → w1.heap[b]? = w.heap[b]? := fun b cells t hb => hF1 b (blk_lt' hb) (ne_map hb (hw.st.maps r hrk))
          have h1 : Bx w0.heap.size w1 B R xc k N ms Fs Br Rr vs LL := ⟨hst his, SL.move hw.sl fun b cells hb => hcell b cells 36 hb, Rs.keep hw.rs hcell, hw.lo, hw.len, hw.ent, hw.kk⟩
          have HB1 := hB1 w0 HB (h.lo.2.2 r hrk)
          refine ⟨by rw [he, his]; rfl, ⟨hsz, fun b hb hlt => hF1 b hlt (fun e => by have := hold.1 r hrk; omega)⟩, HB1, (raddThere_c r f A' n c' l Br Rr k w0.heap.size vs LL w1 h1.rs hrk (hLn r) (hLs r) hlk).mono ?_⟩
          rintro e w2 ⟨he2, hb2⟩
          exact ⟨he2, Young.of hb2, below_then HB1 HB1.size hb2, Fs, vs, LL, (h1.below hb2).up⟩
        | false =>
          rw [hlk] at his
          refine ⟨true, K9.mono ?_⟩
          rintro e w1 ⟨he, _, hnew, hB1, hF1⟩
          obtain ⟨A9, c9, hR9, hst⟩ := hnew his
          have hsz : w.heap.size ≤ w1.heap.size := size_of hF1 (hst.maps r hrk).lt
          have hcell : ∀ (b : Nat) (cells : Array Value) (t : TypeId), w.heap[b]? = some (Obj.cells cells t (0, 0)) → w1.heap[b]? = w.heap[b]? := fun b cells t hb => hF1 b (blk_lt' hb) (ne_map hb (hw.st.maps r hrk))
          have HB1 := hB1 w0 HB (h.lo.2.2 r hrk)
          have hrs1 := Rs.keep hw.rs hcell
          have hsl0 : SL w1 w0.heap.size Fs (fun i x => look (LL i) x) := SL.move hw.sl fun b cells hb => hcell b cells 36 hb
          have hsl1 : SL w1 w0.heap.size (putF r f (.slice A9 l.length c9) Fs) (fun i x => look (if i = r then LL r ++ [⟨(r : Int), f, l⟩] else LL i) x) := SL.put hsl0 (Kd.R_lower hR9 HB.size)
          refine ⟨by rw [he, his]; rfl, ⟨hsz, fun b hb hlt => hF1 b hlt (fun e => by have := hold.1 r hrk; omega)⟩, HB1, (raddGood_c r f A' n c' l Br Rr k w0.heap.size vs LL w1 hrs1 hrk (hLn r) (hLs r) hlk hf0 hf1 (HC' w1 HB1) (by omega) hbad w0 HB1 HB1.size).mono ?_⟩
          rintro e w2 ⟨he2, ⟨v', hrs2, hv'⟩, HB2, hF2, hsz2⟩
          refine ⟨he2, ⟨hsz2, fun b hb hlt => hF2 b hlt (fun e => by have := hold.2.1; omega) (fun e => by have := hold.2.2 r hrk b e.symm; omega)⟩, HB2, putF r f (.slice A9 l.length c9) Fs, _, _, ⟨st_keep hst hrs1 hrk hF2, sl_keep hsl1 hrs1 hrk hF2, hrs2, hw.lo, fun i => ?_, fun i o ho => ?_, hw.kk⟩⟩
          · by_cases hir : i = r
            · simp only [if_pos hir, List.length_append, List.length_singleton]
              have := h.len r
              omega
            · simp only [if_neg hir]
              have := h.len i
              omega
          · by_cases hir : i = r
            · simp only [if_pos hir, List.mem_append, List.mem_singleton] at ho
              rcases ho with ho | rfl
              · exact h.ent r o ho
              · exact ⟨by show l.length ≤ 20; omega, hf0, hf1⟩
            · simp only [if_neg hir] at ho
              exact h.ent i o ho
theorem bx_fork (h : Bx w0.heap.size w B R xc k N ms Fs Br Rr vs LL) (HB : Below w0.heap.size w0 w) (hN : N < 1000) :
    Calls Try.prog 17 #[.pointer (some ⟨B, 0, none⟩)] w fun e w1 => ∃ B', e = .returned (.pointer (some ⟨B', 0, none⟩)) ∧ Below w.heap.size w w1 ∧ Below w0.heap.size w0 w1 ∧
      Calls Try.prog 9 #[.pointer (some ⟨B, 0, none⟩), .agg #[.int .i64 0, .int .i64 9, .slice none 0 0]] w1 fun e w2 => (∃ v, e = .returned (.bool v)) ∧ Below w0.heap.size w0 w2 ∧ ∃ R' xc' ms', Bx w0.heap.size w2 B' R' xc' k N ms' Fs Br Rr vs LL := by
  have hkk := h.kk
  have hold := h.old
  refine (fork_c B R xc k N ms Fs (by omega) (by omega) w h.st).mono ?_
  rintro e w1 ⟨⟨B', R', xc', ms', he, hst', hB', hR', hms'⟩, hb⟩
  have HB1 := below_then HB HB.size hb
  have h1 := h.below hb
  refine ⟨B', he, hb, HB1, (add_c B R xc k N ms Fs 0 (by omega) (by omega) 9 (by omega) (by omega) 0 (by omega) w1 h1.st).mono ?_⟩
  rintro e w2 ⟨he2, _, hB2, hF2⟩
  have hm0 := hold.1 0 (by omega)
  have hcell : ∀ (b : Nat) (cells : Array Value) (t : TypeId), w1.heap[b]? = some (Obj.cells cells t (0, 0)) → w2.heap[b]? = w1.heap[b]? := fun b cells t hb => hF2 b (blk_lt' hb) (ne_map hb (h1.st.maps 0 (by omega)))
  have hlt := hst'.lt
  refine ⟨⟨_, he2⟩, hB2 w0 HB1 (h.lo.2.2 0 (by omega)), R', xc', ms', ⟨hst'.move (hF2 _ hlt.1 (by omega)) (hF2 _ hlt.2 (by omega)) (fun i hi => hF2 _ (hst'.maps i hi).lt (by have := hms' i hi; omega)), SL.move h1.sl fun b cells hb => hcell b cells 36 hb, Rs.keep h1.rs hcell, ⟨by have := HB.size; omega, by have := HB.size; omega, fun i hi => by have := HB.size; have := hms' i hi; omega⟩, h1.len, h1.ent, h1.kk⟩⟩
end
end Go.Proofs.Ytnenhlgpkfelcaa.Box2
