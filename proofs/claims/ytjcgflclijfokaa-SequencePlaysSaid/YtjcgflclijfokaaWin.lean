/- Contracts of sequence.Window: Seen, Take, Last, Fork, New, on a window that lies in one block. -/
import Derived.Test.YtjcgflclijfokaaPSequencePlaysx1
import Derived.WalkLawsBesides
import Derived.WalkSpells
import Derived.Outline
namespace Go.Proofs.Ytjcgflclijfokaa.Win
open Go.RowKit Go.Proofs.Ytjcgflclijfokaa.PSequencePlays Go.Proofs.YtjcgflclijfokaaW.PrintWords Go.Proofs.YtjcgflclijfokaaW.PrintLast Go.Proofs.YtjcgflclijfokaaW.PrintMore
set_option linter.unusedVariables false

/-- a window in memory -/
def At (w : World) (B : Nat) (last came : Int) : Prop := w.heap[B]? = some (.cells #[.int .i64 last, .int .u64 came] 40 (0, 0))

theorem At.c0 {w : World} {B : Nat} {last came : Int} (h : At w B last came) : w.cell? ⟨B, 0, none⟩ = some (.int .i64 last) := by rw [cell_of_row w B 0 _ 40 (0, 0) h]; rfl
theorem At.c1 {w : World} {B : Nat} {last came : Int} (h : At w B last came) : w.cell? ⟨B, 1, none⟩ = some (.int .u64 came) := by rw [cell_of_row w B 1 _ 40 (0, 0) h]; rfl
theorem At.f {w : World} {B : Nat} {last came : Int} (h : At w B last came) (j : Nat) : w.frozen? ⟨B, j, none⟩ = false := by unfold At at h; simp [World.frozen?, h]

theorem d0 (w : World) : Drawn0 w w := Drawn0.refl w
theorem dN (w : World) (n : Nat) : Drawn0 w (w.drewN n) := ⟨⟨n, rfl⟩⟩

/-- was it seen? -/
def seenB (last came seq : Int) : Bool := if seq < 1 ∨ last < seq then false else if seq ≤ last - 64 then true else bits BinOp.and IntKind.u64 (came / 2 ^ (last - seq).toNat) 1 == 1

theorem seen_c (B : Nat) (last came seq : Int) (w : World) (h : At w B last came) (h0 : 0 ≤ last) (h4 : last ≤ 2147483647) :
    Calls Try.prog 10 #[.pointer (some ⟨B, 0, none⟩), .int .i64 seq] w fun e w' => e = .returned (.bool (seenB last came seq)) ∧ Drawn0 w w' := by
  have c0 := h.c0
  have c1 := h.c1
  replace h := Aside0.mk h
  by_cases h1 : seq < 1
  · have e : seenB last came seq = false := by unfold seenB; rw [if_pos (.inl h1)]
    rw [e]
    clear e
    go_enter Try.func10, Try.ntmps10
    go_wp2
    go_ret
    exact ⟨rfl, d0 w⟩
  · by_cases h2 : last < seq
    · have e : seenB last came seq = false := by unfold seenB; rw [if_pos (.inr h2)]
      rw [e]
      clear e
      go_enter Try.func10, Try.ntmps10
      go_wp2
      go_ret
      exact ⟨rfl, d0 w⟩
    · by_cases h3 : seq ≤ last - 64
      · have e : seenB last came seq = true := by unfold seenB; rw [if_neg (by omega), if_pos h3]
        rw [e]
        clear e
        go_enter Try.func10, Try.ntmps10
        go_wp2
        go_ret
        exact ⟨rfl, d0 w⟩
      · have e : seenB last came seq = (bits BinOp.and IntKind.u64 (came / 2 ^ (last - seq).toNat) 1 == 1) := by unfold seenB; rw [if_neg (by omega), if_neg h3]
        rw [e]
        clear e
        have h3' : last - 64 < seq := by omega
        have h1' : 1 ≤ seq := by omega
        have h2' : seq ≤ last := by omega
        clear h1 h2 h3
        go_enter Try.func10, Try.ntmps10
        go_wp2
        go_quiet (fail)
        go_wp2
        go_ret
        exact ⟨rfl, dN w _⟩

theorem last_c (B : Nat) (last came : Int) (w : World) (h : At w B last came) :
    Calls Try.prog 11 #[.pointer (some ⟨B, 0, none⟩)] w fun e w' => e = .returned (.int .i64 last) ∧ Drawn0 w w' := by
  have c0 := h.c0
  replace h := Aside0.mk h
  go_enter Try.func11, Try.ntmps11
  go_wp2
  go_ret
  exact ⟨rfl, d0 w⟩

theorem take_no (B : Nat) (last came seq : Int) (w : World) (h : At w B last came) (h0 : 0 ≤ last) (h4 : last ≤ 2147483647) (hr : seq < 1 ∨ 2147483647 < seq ∨ seenB last came seq = true) :
    Calls Try.prog 9 #[.pointer (some ⟨B, 0, none⟩), .int .i64 seq] w fun e w' => e = .returned (.bool false) ∧ Drawn0 w w' := by
  replace h := Aside0.mk h
  by_cases h1 : seq < 1
  · clear hr
    go_enter Try.func9, Try.ntmps9
    go_wp2
    go_ret
    exact ⟨rfl, d0 w⟩
  · by_cases h2 : 2147483647 < seq
    · clear hr
      go_enter Try.func9, Try.ntmps9
      go_wp2
      go_ret
      exact ⟨rfl, d0 w⟩
    · have h3 : seenB last came seq = true := by
        rcases hr with h | h | h
        · exact absurd h h1
        · exact absurd h h2
        · exact h
      clear hr
      have hc := Aside0.mk (h3 ▸ seen_c B last came seq w h.out h0 h4)
      clear h3
      have h1' : 1 ≤ seq := by omega
      have h2' : seq ≤ 2147483647 := by omega
      clear h1 h2
      go_enter Try.func9, Try.ntmps9
      go_wp2_with (first | (go_at_call 10; (with_reducible refine hc.out.mono ?_); rintro e w' ⟨rfl, ⟨q, rfl⟩⟩))
      go_ret
      exact ⟨rfl, dN w _⟩

theorem only_drewN {a w : World} {row : Option Nat} (h : a.grownBy w row) (n : Nat) : a.grownBy (w.drewN n) row := ⟨h.os, h.tape, h.output, h.size, h.block⟩
theorem only_drew {a w : World} {row : Option Nat} (h : a.grownBy w row) : a.grownBy w.drew row := ⟨h.os, h.tape, h.output, h.size, h.block⟩
theorem only_set {a w : World} {g : Nat} (h : a.grownBy w (some g)) (j : Nat) (u : Value) : a.grownBy (w.setCell ⟨g, j, none⟩ u) (some g) :=
  ⟨h.os, h.tape, h.output, by simpa [World.setCell] using h.size, fun i hi hne => (Below.heap_setCell w ⟨g, j, none⟩ u i (fun e => hne (by rw [e]))).trans (h.block i hi hne)⟩

theorem At.set0 {w : World} {B : Nat} {last came : Int} (h : At w B last came) (x : Int) : At (w.setCell ⟨B, 0, none⟩ (.int .i64 x)) B x came := by
  unfold At at h ⊢
  simp [World.setCell, Array.getElem?_modify, h]
theorem At.set1 {w : World} {B : Nat} {last came : Int} (h : At w B last came) (x : Int) : At (w.setCell ⟨B, 1, none⟩ (.int .u64 x)) B last x := by
  unfold At at h ⊢
  simp [World.setCell, Array.getElem?_modify, h]
theorem At.drewN {w : World} {B : Nat} {last came : Int} (h : At w B last came) (n : Nat) : At (w.drewN n) B last came := h
theorem At.drew {w : World} {B : Nat} {last came : Int} (h : At w B last came) : At w.drew B last came := h
theorem At.lt {w : World} {B : Nat} {last came : Int} (h : At w B last came) : B < w.heap.size := (Array.getElem?_eq_some_iff.1 h).1
theorem At.below {w w' : World} {B : Nat} {last came : Int} (h : At w B last came) (hb : Below w.heap.size w w') : At w' B last came := (hb.block B h.lt).trans h
theorem At.alloc {w : World} {B : Nat} {last came : Int} (h : At w B last came) (o : Obj) : At (w.alloc o) B last came := (Below.heap_alloc w o B h.lt).trans h
theorem At.other {w w' : World} {B : Nat} {last came : Int} {row : Option Nat} (h : At w B last came) (hb : w.grownBy w' row) (hne : some B ≠ row) : At w' B last came := (hb.block B h.lt hne).trans h

/-- what has come, behind a number that is greater than all; behind one that is not -/
def newC (last came seq : Int) : Int := bits BinOp.or IntKind.u64 (IntKind.u64.wrap (came * 2 ^ min (seq - last).toNat 64)) 1
def oldC (last came seq : Int) : Int := bits BinOp.or IntKind.u64 came (IntKind.u64.wrap (2 ^ min (last - seq).toNat 64))
/-- is it taken? the last number, and what has come, then -/
def tookB (last came seq : Int) : Bool := decide (1 ≤ seq) && decide (seq ≤ 2147483647) && !seenB last came seq
def stL (last came seq : Int) : Int := if tookB last came seq = true then (if last < seq then seq else last) else last
def stC (last came seq : Int) : Int := if tookB last came seq = true then (if last < seq then newC last came seq else oldC last came seq) else came

theorem take_new (B : Nat) (last came seq : Int) (w : World) (h : At w B last came) (h0 : 0 ≤ last) (h4 : last ≤ 2147483647) (h1 : 1 ≤ seq) (h2 : seq ≤ 2147483647) (h3 : last < seq) :
    Calls Try.prog 9 #[.pointer (some ⟨B, 0, none⟩), .int .i64 seq] w fun e w' => e = .returned (.bool true) ∧ At w' B seq (newC last came seq) ∧ w.grownBy w' (some B) := by
  have hs : seenB last came seq = false := by unfold seenB; rw [if_pos (.inr h3)]
  have hc := Aside0.mk (hs ▸ seen_c B last came seq w h h0 h4)
  clear hs
  have c0 := h.c0
  have c1 := h.c1
  have f0 := h.f 0
  have f1 := h.f 1
  replace h := Aside0.mk h
  have hw1 : IntKind.i64.wrap (seq - last) = seq - last := by rw [IntKind.wrap_i64]; omega
  have hw2 : last ≤ seq := by omega
  go_enter Try.func9, Try.ntmps9
  go_wp2_with (first | (go_at_call 10; (with_reducible refine hc.out.mono ?_); rintro e w' ⟨rfl, ⟨q, rfl⟩⟩))
  go_region
  go_wp2
  go_region
  go_wp2
  go_ret
  exact ⟨rfl, ((((h.out.drewN _).set1 _).set0 _).set1 _).drew, only_drew (only_set (only_set (only_set (only_drewN (World.grownBy.refl _ _) _) _ _) _ _) _ _)⟩

theorem take_old (B : Nat) (last came seq : Int) (w : World) (h : At w B last came) (h0 : 0 ≤ last) (h4 : last ≤ 2147483647) (h1 : 1 ≤ seq) (h3 : seq ≤ last) (hs : seenB last came seq = false) :
    Calls Try.prog 9 #[.pointer (some ⟨B, 0, none⟩), .int .i64 seq] w fun e w' => e = .returned (.bool true) ∧ At w' B last (oldC last came seq) ∧ w.grownBy w' (some B) := by
  have hc := Aside0.mk (hs ▸ seen_c B last came seq w h h0 h4)
  clear hs
  have c0 := h.c0
  have c1 := h.c1
  have f0 := h.f 0
  have f1 := h.f 1
  replace h := Aside0.mk h
  have hw1 : IntKind.i64.wrap (last - seq) = last - seq := by rw [IntKind.wrap_i64]; omega
  have h2 : seq ≤ 2147483647 := by omega
  go_enter Try.func9, Try.ntmps9
  go_wp2_with (first | (go_at_call 10; (with_reducible refine hc.out.mono ?_); rintro e w' ⟨rfl, ⟨q, rfl⟩⟩))
  go_region
  go_wp2
  go_ret
  exact ⟨rfl, (h.out.drewN _).set1 _, only_set (only_drewN (World.grownBy.refl _ _) _) _ _⟩

theorem take_c (B : Nat) (last came seq : Int) (w : World) (h : At w B last came) (h0 : 0 ≤ last) (h4 : last ≤ 2147483647) :
    Calls Try.prog 9 #[.pointer (some ⟨B, 0, none⟩), .int .i64 seq] w fun e w' => e = .returned (.bool (tookB last came seq)) ∧ At w' B (stL last came seq) (stC last came seq) ∧ w.grownBy w' (some B) := by
  by_cases ht : tookB last came seq = true
  · have hh : (1 ≤ seq ∧ seq ≤ 2147483647) ∧ seenB last came seq = false := by simpa [tookB] using ht
    unfold stL stC
    rw [if_pos ht, if_pos ht, ht]
    by_cases hl : last < seq
    · rw [if_pos hl, if_pos hl]
      exact take_new B last came seq w h h0 h4 hh.1.1 hh.1.2 hl
    · rw [if_neg hl, if_neg hl]
      exact take_old B last came seq w h h0 h4 hh.1.1 (by omega) hh.2
  · unfold stL stC
    rw [if_neg ht, if_neg ht, Bool.eq_false_iff.2 ht]
    have hr : seq < 1 ∨ 2147483647 < seq ∨ seenB last came seq = true := by
      rcases Int.lt_or_le seq 1 with h1 | h1
      · exact .inl h1
      · rcases Int.lt_or_le 2147483647 seq with h2 | h2
        · exact .inr (.inl h2)
        · refine .inr (.inr ?_)
          cases hs : seenB last came seq with
          | true => rfl
          | false => exact absurd (by simp [tookB, h1, h2, hs]) ht
    refine (take_no B last came seq w h h0 h4 hr).mono fun e w' ⟨he, ⟨n, hn⟩⟩ => ⟨he, ?_, ?_⟩
    · rw [hn]; exact h
    · rw [hn]; exact only_drewN (World.grownBy.refl _ _) _

theorem new_c (w : World) : Calls Try.prog 7 #[] w fun e w' => e = .returned (.pointer (some ⟨w.heap.size, 0, none⟩)) ∧ At w' w.heap.size 0 0 ∧ Below w.heap.size w w' := by
  go_enter Try.func7, Try.ntmps7
  go_wp2
  go_ret
  exact ⟨rfl, heap_alloc_new w _, (Below.refl _ _).alloc (Nat.le_refl _) _⟩

theorem fork_c (B : Nat) (last came : Int) (w : World) (h : At w B last came) : Calls Try.prog 13 #[.pointer (some ⟨B, 0, none⟩)] w fun e w' => e = .returned (.pointer (some ⟨w.heap.size, 0, none⟩)) ∧ At w' w.heap.size last came ∧ Below w.heap.size w w' := by
  have c0 := h.c0
  have c1 := h.c1
  replace h := Aside0.mk h
  go_enter Try.func13, Try.ntmps13
  go_wp2
  go_ret
  exact ⟨rfl, heap_alloc_new w _, (Below.refl _ _).alloc (Nat.le_refl _) _⟩

theorem nil_take (seq : Int) (w : World) : Calls Try.prog 9 #[.pointer none, .int .i64 seq] w fun e w' => e = .returned (.bool false) ∧ w' = w := by
  go_enter Try.func9, Try.ntmps9
  go_wp2
  go_ret
  exact ⟨rfl, rfl⟩
theorem nil_seen (seq : Int) (w : World) : Calls Try.prog 10 #[.pointer none, .int .i64 seq] w fun e w' => e = .returned (.bool false) ∧ w' = w := by
  go_enter Try.func10, Try.ntmps10
  go_wp2
  go_ret
  exact ⟨rfl, rfl⟩
theorem nil_last (w : World) : Calls Try.prog 11 #[.pointer none] w fun e w' => e = .returned (.int .i64 0) ∧ w' = w := by
  go_enter Try.func11, Try.ntmps11
  go_wp2
  go_ret
  exact ⟨rfl, rfl⟩
theorem nil_fork (w : World) : Calls Try.prog 13 #[.pointer none] w fun e w' => e = .returned (.pointer none) ∧ w' = w := by
  go_enter Try.func13, Try.ntmps13
  go_wp2
  go_ret
  exact ⟨rfl, rfl⟩

theorem bg {w W W' : World} {B : Nat} (h : Below w.heap.size w W) (hB : w.heap.size ≤ B) (hg : W.grownBy W' (some B)) : Below w.heap.size w W' :=
  h.grown hg h.size (fun k hk => by injection hk with hk; omega)

theorem take_is {B : Nat} {last came seq l' c' : Int} {b : Bool} (h0 : 0 ≤ last) (h4 : last ≤ 2147483647) (hb : tookB last came seq = b) (hl : stL last came seq = l') (hc : stC last came seq = c') (w : World) (h : At w B last came) :
    Calls Try.prog 9 #[.pointer (some ⟨B, 0, none⟩), .int .i64 seq] w fun e w' => e = .returned (.bool b) ∧ At w' B l' c' ∧ w.grownBy w' (some B) := by
  have := take_c B last came seq w h h0 h4
  rw [hb, hl, hc] at this
  exact this

/-- awake is true -/
theorem awake_c (w : World) : Calls Try.prog 8 #[] w fun e w' => e = .returned (.bool true) ∧ Below w.heap.size w w' := by
  obtain ⟨B, hB⟩ : ∃ B, B = w.heap.size := ⟨_, rfl⟩
  have hBl : w.heap.size ≤ B := by omega
  have hn := new_c w
  rw [← hB] at hn
  have k1 := Aside0.mk (@take_is B 0 0 5 5 1 true (by omega) (by omega) (by decide +kernel) (by decide +kernel) (by decide +kernel))
  have k2 := Aside0.mk (@take_is B 5 1 5 5 1 false (by omega) (by omega) (by decide +kernel) (by decide +kernel) (by decide +kernel))
  have k3 := Aside0.mk (@take_is B 5 1 3 5 5 true (by omega) (by omega) (by decide +kernel) (by decide +kernel) (by decide +kernel))
  replace hn := Aside0.mk hn
  replace hB := Aside0.mk hB
  go_enter Try.func8, Try.ntmps8
  go_wp2_with (first
    | (go_at_call 7; (with_reducible refine hn.out.mono ?_); rintro e w1 ⟨rfl, h1, hb1⟩; replace h1 := Aside0.mk h1; have HB := Aside0.mk (by have := hb1; rw [hB.out] at this; exact this : Below w.heap.size w w1); clear hb1)
    | (go_at_call 9; (with_reducible refine (k1.out _ h1.out).mono ?_); rintro e w2 ⟨rfl, h2, hg⟩; replace h2 := Aside0.mk h2; clear h1; replace HB := Aside0.mk (bg HB.out hBl hg); clear hg)
    | (go_at_call 9; (with_reducible refine (k2.out _ h2.out).mono ?_); rintro e w3 ⟨rfl, h3, hg⟩; replace h3 := Aside0.mk h3; clear h2; replace HB := Aside0.mk (bg HB.out hBl hg); clear hg)
    | (go_at_call 9; (with_reducible refine (k3.out _ h3.out).mono ?_); rintro e w4 ⟨rfl, h4, hg⟩; replace h4 := Aside0.mk h4; clear h3; replace HB := Aside0.mk (bg HB.out hBl hg); clear hg)
    | (go_at_call 11; (with_reducible refine (last_c _ _ _ _ h4.out).mono ?_); rintro e w' ⟨rfl, ⟨q, rfl⟩⟩)
    | fail)
  go_ret
  exact ⟨rfl, pw_below_drewN HB.out _⟩
end Go.Proofs.Ytjcgflclijfokaa.Win
