/- The contract of Put at a frame that is refused, and of awake. -/
import Derived.Test.YtompkbganljbkaaPut
namespace Go.Proofs.Ytompkbganljbkaa.Rin
open Go Go.RowKit Go.Proofs.Ytompkbganljbkaa.PRingPlays Go.Proofs.YtompkbganljbkaaW.PrintWords Go.Proofs.YtompkbganljbkaaW.PrintLast Go.Proofs.YtompkbganljbkaaW.PrintMore
set_option linter.unusedVariables false
set_option linter.unusedSimpArgs false
set_option maxRecDepth 100000 in
set_option maxHeartbeats 8000000 in
/-- a frame that is too far ahead is refused -/
theorem putFar_c (f : Int) (A : Option Addr) (n c : Nat) (B S base size : Nat) (v : Value) (f0 : Int) (F : List S29) (w : World) (h : Rg w B S base v size f0 F) (hf0 : -1000000 ≤ f0 ∧ f0 ≤ 1000000) (h0 : 0 < F.length) (hF : F.length ≤ 1000) (hf : f0 + (F.length : Int) + 1 ≤ f) (hf2 : f ≤ 10000000) :
    Calls Try.prog 9 #[.pointer (some ⟨B, 0, none⟩), .agg #[.int .i64 f, .slice A n c]] w fun e w' => e = .returned (.bool false) ∧ Below w.heap.size w w' := by
  have hB1 := Aside0.mk ((Below.refl w.heap.size w).alloc (Nat.le_refl _) (.cells #[.int .i64 f, .slice A n c] 29))
  have e0 := Aside0.mk (heap_alloc_new w (.cells #[.int .i64 f, .slice A n c] 29))
  obtain ⟨q0, q1, q2⟩ := h.cells
  obtain ⟨A0, c0, rfl, hl, _⟩ := h.slice
  have hfr := Aside0.mk (fun W (hb : Below w.heap.size w W) => (⟨(World.cell?_of_block (hb.block B (blk_lt' h.box))).trans q0, (World.cell?_of_block (hb.block B (blk_lt' h.box))).trans q1, (World.cell?_of_block (hb.block S (blk_lt' h.st))).trans q2⟩ : W.cell? ⟨B, 0, none⟩ = some (.pointer (some ⟨S, 0, none⟩)) ∧ W.cell? ⟨B, 1, none⟩ = some (.int .i64 (size : Int)) ∧ W.cell? ⟨S, 0, none⟩ = some (.slice A0 F.length c0)))
  have hh := Aside0.mk h
  clear h
  clear q0 q1 q2
  obtain ⟨q0, q1, q2⟩ := hfr.out _ hB1.out
  have ka := Aside0.mk (atHigh_c f B S base size _ f0 F _ (hh.out.below hB1.out) h0 hf0 (by omega) (by omega))
  have z1 : (0 : Int) < (F.length : Int) := by omega
  obtain ⟨l, hl⟩ : ∃ l, l = f0 + (F.length : Int) - 1 := ⟨_, rfl⟩
  have kl := fun W (hR : Rg W B S base (.slice A0 F.length c0) size f0 F) => last_c B S base size _ f0 F W hR hf0 (by omega)
  have e2 : lst f0 F = l := by unfold lst; rw [if_neg (by omega), hl]
  rw [e2] at kl
  replace kl := Aside0.mk kl
  obtain ⟨g, hg⟩ : ∃ g, g = f - 1 := ⟨_, rfl⟩
  have z2 : ¬ (f ≤ l) := by omega
  have z3 : f - 1 = g := by omega
  have z4 : wrap64 (f - 1) = g := by unfold wrap64; omega
  have z5 : l < f := by omega
  have z6 : wrap64 g = g := by unfold wrap64; omega
  have z7 : (g != l) = true := by simp; omega
  have z8 : ¬ (g = l) := by omega
  have zb1 : decide ((0 : Int) < (F.length : Int)) = true := decide_eq_true z1
  have zb2 : decide (0 < F.length) = true := decide_eq_true (by omega)
  have zb3 : decide (f ≤ l) = false := decide_eq_false z2
  clear hf hl e2 hg
  go_enter Try.func9, Try.ntmps9
  go_wp2_with (first
    | (go_at_call 23; (with_reducible refine ka.out.mono ?_); rintro e w1 ⟨rfl, hd⟩; have hd1 := Aside0.mk (below_then hB1.out hB1.out.size hd.below); obtain ⟨p0, p1, p2⟩ := hfr.out w1 hd1.out; have e1 := Aside0.mk ((hd.below.block _ (blk_lt' e0.out)).trans e0.out); have p3 := blk_cell' e1.out 0; have p4 := blk_cell' e1.out 1; simp at p3 p4; clear hd)
    | fail)
  have hR1 := Aside0.mk (hh.out.below hd1.out)
  go_quiet ((go_at_call 11; exact quiet_dr (kl.out _ (hR1.out.drewN _))))
  go_wp2_with fail
  go_ret
  exact ⟨rfl, pw_below_drewN hd1.out _⟩
theorem C_none (w : World) (W : World) : Kd.C k36 W none 0 [] := Kd.C_nil _ _
set_option maxRecDepth 100000 in
set_option maxHeartbeats 8000000 in
theorem awake_c (w : World) : Calls Try.prog 8 #[] w fun e w' => e = .returned (.bool true) ∧ Below w.heap.size w w' := by
  have kn := Aside0.mk (new_c 2 2 (by omega) w)
  have kp1 : Aside0 (∀ (W : World) (B S : Nat) (v : Value), Rg W B S w.heap.size v 2 5 [] → Below w.heap.size w W → Calls Try.prog 9 #[.pointer (some ⟨B, 0, none⟩), .agg #[.int .i64 5, .slice none 0 0]] W fun e w' => e = .returned (.bool true) ∧ ∃ v', Rg w' B S w.heap.size v' 2 5 [⟨5, []⟩] ∧ Below w.heap.size w w') := ⟨fun W B S v h hB =>
    (put_c 5 none 0 0 [] B S w.heap.size 2 v 5 [] w W h hB hB.size (by omega) (by omega) (by simp) (by simp) (fun W' _ _ => C_none w W') (by omega)).mono fun e w' ⟨he, ⟨v', h1, _⟩, h2, _⟩ => ⟨he, v', h1, h2⟩⟩
  have kp2 : Aside0 (∀ (W : World) (B S : Nat) (v : Value), Rg W B S w.heap.size v 2 5 [⟨5, []⟩] → Below w.heap.size w W → Calls Try.prog 9 #[.pointer (some ⟨B, 0, none⟩), .agg #[.int .i64 6, .slice none 0 0]] W fun e w' => e = .returned (.bool true) ∧ ∃ v', Rg w' B S w.heap.size v' 2 5 [⟨5, []⟩, ⟨6, []⟩] ∧ Below w.heap.size w w') := ⟨fun W B S v h hB =>
    (put_c 6 none 0 0 [] B S w.heap.size 2 v 5 [⟨5, []⟩] w W h hB hB.size (by omega) (by omega) (by simp) (by simp) (fun W' _ _ => C_none w W') (by omega)).mono fun e w' ⟨he, ⟨v', h1, _⟩, h2, _⟩ => ⟨he, v', h1, h2⟩⟩
  have kp3 : Aside0 (∀ (W : World) (B S : Nat) (v : Value), Rg W B S w.heap.size v 2 5 [⟨5, []⟩, ⟨6, []⟩] → Below w.heap.size w W → Calls Try.prog 9 #[.pointer (some ⟨B, 0, none⟩), .agg #[.int .i64 7, .slice none 0 0]] W fun e w' => e = .returned (.bool true) ∧ ∃ v', Rg w' B S w.heap.size v' 2 6 [⟨6, []⟩, ⟨7, []⟩] ∧ Below w.heap.size w w') := ⟨fun W B S v h hB =>
    (put_c 7 none 0 0 [] B S w.heap.size 2 v 5 [⟨5, []⟩, ⟨6, []⟩] w W h hB hB.size (by omega) (by omega) (by simp) (by simp) (fun W' _ _ => C_none w W') (by omega)).mono fun e w' ⟨he, ⟨v', h1, _⟩, h2, _⟩ => ⟨he, v', h1, h2⟩⟩
  have kf : Aside0 (∀ (W : World) (B S : Nat) (v : Value), Rg W B S w.heap.size v 2 6 [⟨6, []⟩, ⟨7, []⟩] → Calls Try.prog 12 #[.pointer (some ⟨B, 0, none⟩)] W fun e w' => e = .returned (.int .i64 6) ∧ w' = W) := ⟨fun W B S v h => first_c B S w.heap.size 2 v 6 [⟨6, []⟩, ⟨7, []⟩] W h⟩
  have kl : Aside0 (∀ (W : World) (B S : Nat) (v : Value), Rg W B S w.heap.size v 2 6 [⟨6, []⟩, ⟨7, []⟩] → Calls Try.prog 11 #[.pointer (some ⟨B, 0, none⟩)] W fun e w' => e = .returned (.int .i64 7) ∧ Drawn0 W w') := ⟨fun W B S v h => last_c B S w.heap.size 2 v 6 [⟨6, []⟩, ⟨7, []⟩] W h (by omega) (by simp)⟩
  have kl0 : Aside0 (∀ (W : World) (B S : Nat) (v : Value), Rg W B S w.heap.size v 2 5 [] → Calls Try.prog 11 #[.pointer (some ⟨B, 0, none⟩)] W fun e w' => e = .returned (.int .i64 (-1)) ∧ Drawn0 W w') := ⟨fun W B S v h => last_c B S w.heap.size 2 v 5 [] W h (by omega) (by simp)⟩
  go_enter Try.func8, Try.ntmps8
  go_wp2_with (first
    | (go_at_call 7; (with_reducible refine kn.out.mono ?_); rintro e w1 ⟨⟨B, S, rfl, hR⟩, hb⟩; have hR1 := Aside0.mk (hR 5); have hb1 := Aside0.mk hb; clear hR hb)
    | (go_at_call 11; (with_reducible refine (kl0.out w1 B S _ hR1.out).mono ?_); rintro e w2 ⟨rfl, hd⟩; (have hR2 := Aside0.mk (hR1.out.drawn hd)); (have hb2 := Aside0.mk (below_then hb1.out hb1.out.size hd.below)); clear hd)
    | (go_at_call 9; (with_reducible refine (kp1.out w2 B S _ hR2.out hb2.out).mono ?_); rintro e w3 ⟨rfl, v3, hR3, hb3⟩; replace hR3 := Aside0.mk hR3; replace hb3 := Aside0.mk hb3)
    | (go_at_call 9; (with_reducible refine (kp2.out w3 B S _ hR3.out hb3.out).mono ?_); rintro e w4 ⟨rfl, v4, hR4, hb4⟩; replace hR4 := Aside0.mk hR4; replace hb4 := Aside0.mk hb4)
    | (go_at_call 9; (with_reducible refine (kp3.out w4 B S _ hR4.out hb4.out).mono ?_); rintro e w5 ⟨rfl, v5, hR5, hb5⟩; replace hR5 := Aside0.mk hR5; replace hb5 := Aside0.mk hb5)
    | (go_at_call 12; (with_reducible refine (kf.out w5 B S _ hR5.out).mono ?_); rintro e w' ⟨rfl, hw⟩; subst w')
    | (go_at_call 11; (with_reducible refine (kl.out w5 B S _ hR5.out).mono ?_); rintro e w6 ⟨rfl, hd⟩; (have hb6 := Aside0.mk (below_then hb5.out hb5.out.size hd.below)); clear hd)
    | fail)
  go_ret
  exact ⟨rfl, hb6.out⟩
end Go.Proofs.Ytompkbganljbkaa.Rin
