/- The store beside its reference: neither is touched by what is done with the other; both answer alike. -/
import Derived.Test.YtnenhlgpkfelcaaAddX
import Derived.Test.YtnenhlgpkfelcaaFork2
import Derived.Test.YtnenhlgpkfelcaaGet2
import Derived.Test.YtnenhlgpkfelcaaAddL2
namespace Go.Proofs.Ytnenhlgpkfelcaa.Box2
open Go.Proofs.Ytnenhlgpkfelcaa.Box
open Go Go.RowKit Go.Maps Go.Proofs.Ytnenhlgpkfelcaa.POutboxPlays Go.Proofs.YtnenhlgpkfelcaaW.PrintWords Go.Proofs.YtnenhlgpkfelcaaW.PrintLast Go.Proofs.YtnenhlgpkfelcaaW.PrintMore
set_option linter.unusedVariables false
set_option linter.unusedSimpArgs false
theorem ne_type {w : World} {a b : Nat} {ca cb : Array Value} {ta tb : TypeId} (ha : w.heap[a]? = some (.cells ca ta (0, 0))) (hb : w.heap[b]? = some (.cells cb tb (0, 0))) (h : ta ≠ tb) : a ≠ b := fun e => by
  subst e
  rw [ha] at hb
  injection hb with hb
  injection hb with _ hb
  exact h hb
theorem ne_map {w : World} {a b n : Nat} {ca : Array Value} {ta : TypeId} {F : Int → Option Value} (ha : w.heap[a]? = some (.cells ca ta (0, 0))) (hb : MapOf w b n F) : a ≠ b := fun e => by
  subst e
  obtain ⟨es, c, hm⟩ := hb.is
  rw [ha] at hm
  cases hm
/-- what is as new as s stays -/
def Young (s : Nat) (w w' : World) : Prop := w.heap.size ≤ w'.heap.size ∧ ∀ b, s ≤ b → b < w.heap.size → w'.heap[b]? = w.heap[b]?
theorem Young.refl (s : Nat) (w : World) : Young s w w := ⟨Nat.le_refl _, fun _ _ _ => rfl⟩
theorem Young.of {s : Nat} {w w' : World} (h : Below w.heap.size w w') : Young s w w' := ⟨h.size, fun b _ hb => h.block b hb⟩
theorem Young.row {α : Type} {d : Kd α} {e s : Nat} {w w' : World} {v : Value} {xs : List α} (h : Young s w w') (hR : d.R e w s (fun _ => True) v xs) : d.R e w' s (fun _ => True) v xs :=
  Kd.R_mono (Kd.R_step (Kd.R_bound hR) (fun k hk hlt => h.2 k hk.2.1 hlt)) (fun _ _ => trivial)
structure Bx (base : Nat) (w : World) (B R xc k N : Nat) (ms : Nat → Nat) (Fs : Nat → Int → Option Value) (Br Rr : Nat) (vs : Nat → Value) (LL : Nat → List S30) : Prop where
  st : St w B R xc k N ms Fs
  sl : SL w base Fs (fun i x => look (LL i) x)
  rs : Rs w Br Rr k base vs LL
  lo : base ≤ B ∧ base ≤ R ∧ ∀ i, i < k → base ≤ ms i
  len : ∀ i, (LL i).length ≤ N
  ent : ∀ i, ∀ o ∈ LL i, o.f2.length ≤ 20 ∧ 0 ≤ o.f1 ∧ o.f1 < 10000
  kk : 1 ≤ k ∧ k ≤ 16
section
variable {w w' : World} {base B R xc k N Br Rr : Nat} {ms : Nat → Nat} {Fs : Nat → Int → Option Value} {vs : Nat → Value} {LL : Nat → List S30} {Ls : Nat → Int → Option (List S36)}
theorem Bx.below (h : Bx base w B R xc k N ms Fs Br Rr vs LL) (hb : Below w.heap.size w w') : Bx base w' B R xc k N ms Fs Br Rr vs LL := ⟨h.st.below hb, h.sl.below hb, h.rs.below hb, h.lo, h.len, h.ent, h.kk⟩
theorem Bx.up (h : Bx base w B R xc k N ms Fs Br Rr vs LL) : Bx base w B R xc k (N + 1) ms Fs Br Rr vs LL := ⟨h.st.up, h.sl, h.rs, h.lo, fun i => Nat.le_succ_of_le (h.len i), h.ent, h.kk⟩
/-- the reference stays where all rows of cells stay -/
theorem Rs.keep (h : Rs w Br Rr k base vs LL) (hm : ∀ (b : Nat) (cells : Array Value) (t : TypeId), w.heap[b]? = some (Obj.cells cells t (0, 0)) → w'.heap[b]? = w.heap[b]?) : Rs w' Br Rr k base vs LL := by
  obtain ⟨cur, hr, hc, hmm⟩ := h.row
  refine ⟨(hm _ _ _ h.box).trans h.box, ⟨cur, (hm _ _ _ hr).trans hr, hc, hmm⟩, fun i hi => Kd.R_mono (Kd.R_step (Kd.R_bound (h.rows i hi)) (fun b hb _ => ?_)) (fun _ _ => trivial), h.apart, h.hb⟩
  obtain ⟨_, _, _, q, _, cells, hc⟩ := hb
  exact hm _ _ _ hc
/-- the store stays where all stays but the reference's rows -/
theorem st_keep (h : St w B R xc k N ms Fs) (hr : Rs w Br Rr k base vs LL) {r : Nat} (hrk : r < k) (hF : ∀ b, b < w.heap.size → b ≠ Rr → some b ≠ (vs r).ownBlock → w'.heap[b]? = w.heap[b]?) : St w' B R xc k N ms Fs := by
  obtain ⟨cur, hrr, _⟩ := hr.row
  have hty := Kd.R_typed (hr.rows r hrk)
  have h1 : ∀ (b : Nat) (cells : Array Value) (t : TypeId), w.heap[b]? = some (Obj.cells cells t (0, 0)) → t ≠ 40 → t ≠ 30 → w'.heap[b]? = w.heap[b]? := fun b cells t hb ht1 ht2 => hF b (blk_lt' hb) (ne_type hb hrr ht1) (fun e => by
    obtain ⟨cells', hc'⟩ := hty b e.symm
    exact ne_type hb hc' ht2 rfl)
  obtain ⟨cur2, hr2, _⟩ := h.row
  refine h.move (h1 _ _ _ h.head (by decide) (by decide)) (h1 _ _ _ hr2 (by decide) (by decide)) fun i hi => hF _ (h.maps i hi).lt (fun e => ne_map hrr (h.maps i hi) e.symm) (fun e => ?_)
  obtain ⟨cells', hc'⟩ := hty _ e.symm
  exact ne_map hc' (h.maps i hi) rfl
theorem sl_keep (h : SL w base Fs (fun i x => look (LL i) x)) {vs : Nat → Value} {LL' : Nat → List S30} (hr : Rs w Br Rr k base vs LL') {r : Nat} (hrk : r < k) (hF : ∀ b, b < w.heap.size → b ≠ Rr → some b ≠ (vs r).ownBlock → w'.heap[b]? = w.heap[b]?) : SL w' base Fs (fun i x => look (LL i) x) := by
  obtain ⟨cur, hrr, _⟩ := hr.row
  have hty := Kd.R_typed (hr.rows r hrk)
  exact SL.move h fun b cells hb => hF b (blk_lt' hb) (ne_type hb hrr (by decide)) (fun e => by
    obtain ⟨cells', hc'⟩ := hty b e.symm
    exact ne_type hb hc' (by decide) rfl)
theorem SL.is {Ls : Nat → Int → Option (List S36)} (h : SL w base Fs Ls) (i : Nat) (x : Int) : (Fs i x).isSome = (Ls i x).isSome := by
  have hx := h i x
  revert hx
  cases Ls i x with
  | none => intro hx; rw [hx]; rfl
  | some cs => rintro ⟨A, c, h1, _⟩; rw [h1]; rfl
theorem SL.at_none (h : SL w base Fs Ls) {i : Nat} {x : Int} (hn : Ls i x = none) : Fs i x = none := by
  have hx := h i x
  rw [hn] at hx
  exact hx
theorem SL.at_some (h : SL w base Fs Ls) {i : Nat} {x : Int} {cs : List S36} (hn : Ls i x = some cs) : ∃ A c, Fs i x = some (.slice A cs.length c) ∧ Kd.R k36 36 w base (fun _ => True) (.slice A cs.length c) cs := by
  have hx := h i x
  rw [hn] at hx
  exact hx
/-- all blocks that either works on are older than the world -/
theorem Bx.old (h : Bx base w B R xc k N ms Fs Br Rr vs LL) : (∀ i, i < k → ms i < w.heap.size) ∧ Rr < w.heap.size ∧ ∀ i, i < k → ∀ b, (vs i).ownBlock = some b → b < w.heap.size :=
  ⟨fun i hi => (h.st.maps i hi).lt, h.rs.lt.2, fun i hi b hb => ((Kd.R_bound (h.rs.rows i hi)).1 b hb).2.2.1⟩
/-- none of a frame that may not be -/
theorem Bx.far (h : Bx base w B R xc k N ms Fs Br Rr vs LL) (i : Nat) (f : Int) (hf : f < 0 ∨ 10000 ≤ f) : look (LL i) f = none := by
  unfold look
  rw [List.find?_eq_none.2 (fun o ho => by
    have := h.ent i o (List.mem_reverse.1 ho)
    simp
    omega)]
  rfl
theorem look_mem {L : List S30} {f : Int} {l : List S36} (h : look L f = some l) : ∃ o ∈ L, o.f2 = l := by
  unfold look at h
  obtain ⟨o, ho, rfl⟩ := Option.map_eq_some_iff.1 h
  exact ⟨o, List.mem_reverse.1 (List.mem_of_find?_eq_some ho), rfl⟩
theorem Bx.short (h : Bx base w B R xc k N ms Fs Br Rr vs LL) (i : Nat) (f : Int) : ((look (LL i) f).getD []).length ≤ 20 := by
  cases hl : look (LL i) f with
  | none => simp
  | some l =>
    obtain ⟨o, ho, rfl⟩ := look_mem hl
    exact (h.ent i o ho).1
/-- what is told of a frame: the same by both -/
theorem bx_get (h : Bx base w B R xc k N ms Fs Br Rr vs LL) (hN : N ≤ 1000) (r f : Int) (hf : -9223372036854775808 ≤ f ∧ f ≤ 9223372036854775807) :
    ∃ (l : List S36) (is : Bool), l.length ≤ 20 ∧
      Calls Try.prog 12 #[.pointer (some ⟨B, 0, none⟩), .int .i64 r, .int .i64 f] w (fun e w1 => (∃ A c, e = .returned (.tuple #[.slice A l.length c, .bool is]) ∧ Kd.C k36 w1 A l.length l) ∧ Below w.heap.size w w1) ∧
      ∀ W, Below w.heap.size w W → Calls Try.prog 18 #[.pointer (some ⟨Br, 0, none⟩), .int .i64 r, .int .i64 f] W (fun e w2 => (∃ A c, e = .returned (.tuple #[.slice A l.length c, .bool is]) ∧ Kd.C k36 w2 A l.length l) ∧ Below W.heap.size W w2) := by
  have hkk := h.kk
  rcases (by omega : (r < 0 ∨ (k : Int) ≤ r) ∨ (0 ≤ r ∧ r < (k : Int))) with hr | ⟨hr0, hr1⟩
  · have hit : isB k r = false := by unfold isB; simp; omega
    refine ⟨[], false, by simp, (getOut_c B R xc k N ms Fs r f hit w h.st).mono ?_, fun W hW => (rgetOut_c r f Br Rr k base vs LL W (h.rs.below hW) hr).mono ?_⟩
    · rintro e w1 ⟨he, rfl⟩
      exact ⟨⟨none, 0, he, Kd.C_nil _ _⟩, Below.refl _ _⟩
    · rintro e w1 ⟨he, rfl⟩
      exact ⟨⟨none, 0, he, Kd.C_nil _ _⟩, Below.refl _ _⟩
  · obtain ⟨r, rfl⟩ : ∃ r' : Nat, r = (r' : Int) := ⟨r.toNat, by omega⟩
    have hrk : r < k := by omega
    have hsh := h.short r f
    refine ⟨(look (LL r) f).getD [], (look (LL r) f).isSome, hsh, ?_, fun W hW => rget_c r f Br Rr k base vs LL W (h.rs.below hW) hrk (Nat.le_trans (h.len r) hN) (fun o ho => by have := (h.ent r o ho).1; omega)⟩
    cases hl : look (LL r) f with
    | none =>
      have hsl := h.sl.at_none hl
      have his : (Fs r f).isSome = false := by rw [hsl]; rfl
      refine (get_c B R xc k N ms Fs r hrk (by omega) f (wf64 hf.1 hf.2) none 0 0 [] w h.st (by rw [hsl]; rfl) (Kd.C_nil _ _) (by omega)).mono ?_
      rintro e w1 ⟨⟨A', c', he, hR⟩, hb⟩
      rw [his] at he
      exact ⟨⟨A', c', he, (Kd.R_reads' hR).2.2⟩, hb⟩
    | some l =>
      obtain ⟨A, c, h1, h2⟩ := h.sl.at_some hl
      have his : (Fs r f).isSome = true := by rw [h1]; rfl
      rw [hl] at hsh
      have hsh' : l.length ≤ 20 := hsh
      refine (get_c B R xc k N ms Fs r hrk (by omega) f (wf64 hf.1 hf.2) A l.length c l w h.st (by rw [h1]; rfl) (Kd.R_reads' h2).2.2 (by omega)).mono ?_
      rintro e w1 ⟨⟨A', c', he, hR⟩, hb⟩
      rw [his] at he
      exact ⟨⟨A', c', he, (Kd.R_reads' hR).2.2⟩, hb⟩
theorem first_t (P : Nat → Bool) : ∀ T : Nat, P T = false → ∃ t, t ≤ T ∧ P t = false ∧ ∀ j, j < t → P j = true
  | 0, h => ⟨0, Nat.le_refl _, h, fun j hj => absurd hj (Nat.not_lt_zero _)⟩
  | T + 1, h => by
    cases h0 : P 0 with
    | false => exact ⟨0, Nat.zero_le _, h0, fun j hj => absurd hj (Nat.not_lt_zero _)⟩
    | true =>
      obtain ⟨t, h1, h2, h3⟩ := first_t (fun n => P (n + 1)) T h
      refine ⟨t + 1, by omega, h2, fun j hj => ?_⟩
      cases j with
      | zero => exact h0
      | succ j => exact h3 j (by omega)
/-- what is missing: told alike -/
theorem bx_missing (h : Bx base w B R xc k N ms Fs Br Rr vs LL) (hN : N ≤ 1000) (r f : Int) (hf : -9223372036854775808 ≤ f ∧ f ≤ 9223372036854775807) :
    ∃ m : Int, Calls Try.prog 10 #[.pointer (some ⟨B, 0, none⟩), .int .i64 r, .int .i64 f] w (fun e w1 => e = .returned (.int .i64 m) ∧ Below w.heap.size w w1) ∧
      ∀ W, Below w.heap.size w W → Calls Try.prog 20 #[.pointer (some ⟨Br, 0, none⟩), .int .i64 r, .int .i64 f] W (fun e w2 => e = .returned (.int .i64 m) ∧ Below W.heap.size W w2) := by
  have hkk := h.kk
  rcases (by omega : (r < 0 ∨ (k : Int) ≤ r) ∨ (0 ≤ r ∧ r < (k : Int))) with hr | ⟨hr0, hr1⟩
  · have hit : isB k r = false := by unfold isB; simp; omega
    refine ⟨f, (missing_out_c B R xc k N ms Fs r f hit w h.st).mono ?_, fun W hW => (rmissingOut_c r f Br Rr k base vs LL W (h.rs.below hW) hr).mono ?_⟩
    · rintro e w1 ⟨he, rfl⟩
      exact ⟨he, Below.refl _ _⟩
    · rintro e w1 ⟨he, rfl⟩
      exact ⟨he, Below.refl _ _⟩
  · obtain ⟨r, rfl⟩ : ∃ r' : Nat, r = (r' : Int) := ⟨r.toNat, by omega⟩
    have hrk : r < k := by omega
    obtain ⟨m, hm⟩ : ∃ m, max 0 f = m := ⟨_, rfl⟩
    have hm' : max f 0 = m := by omega
    obtain ⟨t, ht, hno, hyes⟩ := first_t (fun j => (look (LL r) (m + (j : Int))).isSome) 10000 (by rw [h.far r (m + ((10000 : Nat) : Int)) (by omega)]; rfl)
    have hmw : m + (t : Int) ≤ 9223372036854775807 := by
      by_cases ht0 : t = 0
      · omega
      · have h1 := hyes (t - 1) (by omega)
        by_cases hb : 10000 ≤ m + ((t - 1 : Nat) : Int)
        · rw [h.far r _ (.inr hb)] at h1
          cases h1
        · omega
    have his := fun x => SL.is h.sl r x
    refine ⟨m + (t : Int), ?_, fun W hW => rmissing_c r f m t Br Rr k base vs LL W (h.rs.below hW) hrk (Nat.le_trans (h.len r) hN) (fun o ho => by have := (h.ent r o ho).1; omega) hm hmw hno hyes⟩
    refine (missingG_c B R xc k N ms Fs r hrk f t (by omega) (by omega) (by rw [hm', his]; exact hno) (fun j hj => by rw [hm', his]; exact hyes j hj) (by omega) w h.st).mono ?_
    rintro e w1 ⟨he, hd⟩
    rw [hm'] at he
    exact ⟨he, hd.below⟩
end
end Go.Proofs.Ytnenhlgpkfelcaa.Box2
