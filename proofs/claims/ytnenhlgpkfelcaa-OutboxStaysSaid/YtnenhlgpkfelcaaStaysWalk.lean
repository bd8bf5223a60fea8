/- The walk through OutboxStays: it returns true and what lay in memory stays; for every list of numbers that is read and every two numbers. -/
import Derived.Test.YtnenhlgpkfelcaaStays
namespace Go.Proofs.Ytnenhlgpkfelcaa.Box
open Go Go.RowKit Go.Maps Go.Proofs.Ytnenhlgpkfelcaa.POutboxPlays Go.Proofs.YtnenhlgpkfelcaaW.PrintWords Go.Proofs.YtnenhlgpkfelcaaW.PrintLast Go.Proofs.YtnenhlgpkfelcaaW.PrintMore
set_option linter.unusedVariables false
set_option linter.unusedSimpArgs false
def elRow (f x : Int) : Obj := .cells #[.int .i64 0, .int .i64 0, .int .i64 0, .int .i64 f, .int .i64 0, .int .i64 0, .int .i64 0, .int .i64 0, .int .i64 0, .int .i64 0, .int .i64 0, .int .i64 0, .int .i64 0, .int .i64 x, .int .i64 0] 36
theorem had_row {w : World} {base : Nat} {ok : Nat → Prop} {v : Value} {tk : List Int} (h : Kd.R (Kd.int .i64) 3 w base ok v tk) : ∀ k, v.ownBlock = some k → ∃ cells, w.heap[k]? = some (.cells cells 3 (0, 0)) := by
  intro k hk
  obtain ⟨_, _, _, q, hq, cells, hc⟩ := (Kd.R_bound h).1 k hk
  have hq3 : q = 3 := by
    simp [Kd.int, Kd.scalar] at hq
    exact hq
  subst hq3
  exact ⟨cells, hc⟩
theorem C_el (w : World) (f x : Int) : Kd.C k36 (w.alloc (elRow f x)) (some ⟨w.heap.size, 0, none⟩) 1 [el f x] := by
  have hR : Kd.R k36 36 (w.alloc (elRow f x)) w.heap.size (fun _ => True) (.slice (some ⟨w.heap.size, 0, none⟩) 1 1) [el f x] :=
    ⟨fun _ _ => trivial, [.int .i64 0, .int .i64 0, .int .i64 0, .int .i64 f, .int .i64 0, .int .i64 0, .int .i64 0, .int .i64 0, .int .i64 0, .int .i64 0, .int .i64 0, .int .i64 0, .int .i64 0, .int .i64 x, .int .i64 0], World.ownsRow_lit w _ 1 (Nat.le_refl _) (by decide) rfl, Reps.front (k36_mkM _ _ _ (el f x)) rfl (Reps.none _ _) rfl⟩
  exact (Kd.R_reads' hR).2.2
set_option maxRecDepth 100000 in
set_option maxHeartbeats 8000000 in
theorem stays_walk (A : Option Addr) (n cap : Nat) (l : List Int) (x y : Int) (w : World) (HC : Kd.C (Kd.int .i64) w A n l) (hn : n ≤ maxLen) :
    Calls Try.prog 4 #[.slice A n cap, .int .i64 x, .int .i64 y] w fun e w' => e = .returned (.bool true) ∧ Below w.heap.size w w' := by
  unfold maxLen at hn
  have hnew := new_c 1 (by omega) (by omega) w
  rw [show ((1 : Nat) : Int) = 1 from rfl] at hnew
  replace hnew := Aside0.mk hnew
  replace HC := Aside0.mk HC
  go_enter Try.func4, Try.ntmps4
  go_wp2_with (first
    | (go_at_call 7; (with_reducible refine hnew.out.mono ?_); rintro e w1 ⟨⟨B, R, ms, rfl, hB, hR, hms, hS⟩, hb1⟩; replace hS := Aside0.mk hS; replace hb1 := Aside0.mk hb1)
    | (go_at_call 8; (with_reducible refine (awake_c _).mono ?_); rintro e w2 ⟨rfl, hb2⟩; replace hS := Aside0.mk (hS.out.below hb2); replace hb1 := Aside0.mk (below_then hb1.out hb1.out.size hb2); clear hb2)
    | fail)
  have HB := hb1
  clear hb1
  have hmsA := Aside0.mk (hms 0 (by omega))
  clear hms
  go_loopw [9, 8] (fun i v wr => ∃ (k N : Nat) (tk : List Int) (Fs : Nat → Int → Option Value) (A1 : Option Addr) (c1 : Nat), k ≤ n ∧ k ≤ 40 ∧ tk.length ≤ k ∧ N ≤ k ∧ i = .int .i64 k ∧ v = .slice A1 tk.length c1 ∧ Aside0 (Kd.R (Kd.int .i64) 3 wr w.heap.size (fun b => b ≠ B ∧ b ≠ R ∧ b ≠ ms 0) (.slice A1 tk.length c1) tk) ∧ Aside0 (Inv wr B R ms N w.heap.size x tk Fs) ∧ Aside0 (∀ z ∈ tk, 0 ≤ z ∧ z < 50) ∧ Aside0 (Below w.heap.size w wr)) (fun i _ _ => n - (intOf i).toNat)
  case atStart => exact ⟨0, 0, [], _, none, 0, Nat.zero_le _, Nat.zero_le _, by simp, by omega, rfl, rfl, ⟨Kd.R_nil _ _ _ _ _⟩, ⟨⟨hS.out, fun _ _ => rfl, fun v hv => by simp at hv⟩⟩, ⟨fun z hz => by simp at hz⟩, HB⟩
  case round =>
    clear hS HB hnew
    obtain ⟨k, N, tk, Fs, A1, c1, hkn, hk40, htk, hNk, rfl, rfl, hR1, hI, hT, HB⟩ := hrel
    by_cases hgo : k < n ∧ k < 40
    · obtain ⟨hlt, h40⟩ := hgo
      obtain ⟨ad, e1, hc⟩ := Kd.at_int (Kd.C_below HC.out HB.out) (k : Int) (by omega) (by omega)
      rw [Int.toNat_natCast] at hc
      subst e1
      obtain ⟨f, hf, f0, f1⟩ := rest (rd l (k : Int)) 50 (by omega) (by omega)
      generalize rd l (k : Int) = a at hc hf
      have b0 : (0 : Int) ≤ (k : Int) := by omega
      have b1 : (k : Int) < (n : Int) := by omega
      have b2 : (k : Int) < 40 := by omega
      obtain ⟨tk2, hy⟩ : ∃ z, z = tk ++ [f] := ⟨_, rfl⟩
      have hyl : tk2.length = tk.length + 1 := by rw [hy]; simp
      have hyc : tk2.contains f = true := by rw [hy, contains_snoc]; simp
      have hT2 : ∀ z ∈ tk2, 0 ≤ z ∧ z < 50 := by
        intro z hz
        rw [hy] at hz
        simp only [List.mem_append, List.mem_singleton] at hz
        rcases hz with hz | rfl
        · exact hT.out z hz
        · exact ⟨f0, f1⟩
      have kin := in_c A1 tk.length c1 tk f
      have kadd := fun (W : World) (hW : w.heap.size ≤ W.heap.size) (h : Inv W B R ms N w.heap.size x tk Fs) => add1_c B R N w.heap.size ms x tk Fs f f0 (by omega) (by omega) (some ⟨W.heap.size, 0, none⟩) 1 (W.alloc (elRow f x)) (by simp; omega) (h.below ((Below.refl _ W).alloc (Nat.le_refl _) _)) (C_el W f x)
      rw [← hy] at kadd
      have kadd2 := fun (W : World) (Fs2 : Nat → Int → Option Value) (h : Inv W B R ms (N + 1) w.heap.size x tk2 Fs2) => add2_c B R (N + 1) w.heap.size ms x tk2 Fs2 f f0 (by omega) (by omega) (some ⟨W.heap.size, 0, none⟩) 1 y (W.alloc (elRow f y)) (h.below ((Below.refl _ W).alloc (Nat.le_refl _) _)) hyc (C_el W f y)
      have kget := fun (W : World) (Fs2 : Nat → Int → Option Value) (h : Inv W B R ms (N + 1) w.heap.size x tk2 Fs2) => getS_c B R (N + 1) w.heap.size ms x tk2 Fs2 f f0 (by omega) W h hyc
      generalize tk.contains f = cf at kin kadd
      unfold elRow at kadd kadd2
      replace kin := Aside0.mk kin
      replace kadd := Aside0.mk kadd
      replace kadd2 := Aside0.mk kadd2
      replace kget := Aside0.mk kget
      replace hy := Aside0.mk hy
      replace hyl := Aside0.mk hyl
      replace hyc := Aside0.mk hyc
      replace hT2 := Aside0.mk hT2
      go_wp2_with (first
        | (go_at_call 11; (with_reducible refine (kin.out _ (Kd.R_reads' hR1.out).2.2 (by omega)).mono ?_); rintro e w3 ⟨rfl, hd⟩; (have hR3 := Aside0.mk (Kd.R_below hR1.out hd.below)); (have hI3 := Aside0.mk (hI.out.below hd.below)); replace HB := Aside0.mk (below_then HB.out HB.out.size hd.below); clear hd hR1 hI)
        | (go_at_call 9; go_loud (refine (kadd.out _ HB.out.size hI3.out).mono ?_); rintro e w4 ⟨rfl, ⟨Fs4, hI4⟩, hf4, hfr4⟩; (have hR4 := Aside0.mk (Kd.R_step (Kd.R_below hR3.out ((Below.refl _ _).alloc (Nat.le_refl _) _)) (fun b hb hlt => hfr4 b hlt hb.2.2))); replace hI4 := Aside0.mk hI4; replace HB := Aside0.mk (hf4 _ (HB.out.alloc HB.out.size _) hmsA.out); clear hf4 hfr4 hR3 hI3)
        | (go_at_call 9; go_loud (refine (kadd2.out _ Fs4 hI4.out).mono ?_); rintro e w5 ⟨rfl, hI5, hf5, hfr5⟩; (have hR5 := Aside0.mk (Kd.R_step (Kd.R_below hR4.out ((Below.refl _ _).alloc (Nat.le_refl _) _)) (fun b hb hlt => hfr5 b hlt hb.2.2))); replace hI5 := Aside0.mk hI5; replace HB := Aside0.mk (hf5 _ (HB.out.alloc HB.out.size _) hmsA.out); clear hf5 hfr5 hR4 hI4)
        | ((with_reducible refine gate_dst (N := 67) rfl ?_); (refine Kd.R_append (Kd.int .i64) (w0 := w) w.heap.size rfl (.tmp 64) (.tmp 66) 22 3 (.int .i64 0) 8 rfl Try.underlying22 info3 rfl (by decide) (by omega) _ tk f [.int .i64 f] (fun b => b ≠ B ∧ b ≠ R ∧ b ≠ ms 0) (fun _ => False) rfl (by first | rfl | (simp [Act.eval]; done) | go_simp) rfl (fun _ hk => hk.elim) (fun b hb => ⟨fun h => absurd (h ▸ hb) (Nat.not_le.2 hI5.out.st.lt.1), fun h => absurd (h ▸ hb) (Nat.not_le.2 hI5.out.st.lt.2), fun h => absurd (h ▸ hb) (Nat.not_le.2 (hI5.out.st.maps 0 (by omega)).lt)⟩) hR5.out HB.out HB.out.size (by omega) ?_); intro v6 w6 ho6 hb6 hg6 hat6; have hI6 := Aside0.mk (hI5.out.other hg6 (fun e => (hR5.out.1 B e.symm).1 rfl) (fun e => (hR5.out.1 R e.symm).2.1 rfl) (fun i hi e => (hR5.out.1 _ e.symm).2.2 (congrArg ms (Nat.lt_one_iff.1 hi))) (had_row hR5.out)); rw [← hy.out] at ho6; obtain ⟨A6, c6, e6⟩ := Kd.R_slice ho6; subst e6; have hR6 := Aside0.mk ho6; replace HB := Aside0.mk hb6; clear hg6 hat6 hR5 hI5 hb6 ho6)
        | (go_at_call 12; go_loud (refine (kget.out _ Fs4 hI6.out).mono ?_); rintro e w7 ⟨⟨A7, c7, rfl, hC7⟩, hb7⟩; replace hC7 := Aside0.mk hC7; (have hR7 := Aside0.mk (Kd.R_below hR6.out hb7)); (have hI7 := Aside0.mk (hI6.out.below hb7)); replace HB := Aside0.mk (below_then HB.out HB.out.size hb7); obtain ⟨ad7, e7, x0, x1, x2, x3, x4, x5, x6, x7, x8, x9, x10, x11, x12, x13, x14⟩ := at_T36 hC7.out 0 (by omega) (by omega); subst e7; (have x13 : w7.cell? ⟨ad7.block, ad7.off + 13, none⟩ = some (.int .i64 x) := x13); clear hb7 hR6 hI6 x0 x1 x2 x3 x4 x5 x6 x7 x8 x9 x10 x11 x12 x14)
        | fail)
      go_roundw
      case rel => exact ⟨k + 1, N + 1, tk2, Fs4, A6, c6, by omega, by omega, by rw [hyl.out]; omega, by omega, by go_num, rfl, hR7, hI7, hT2, HB⟩
      case measure => simp [intOf]; omega
    --REST
    · obtain ⟨t, ht, hno, hyes⟩ := gap50 tk hT.out
      have k1 := fun W (h : Inv W B R ms N w.heap.size x tk Fs) => missS_c B R N w.heap.size ms x tk Fs t ht hno hyes W h
      have k4 := fun (W : World) (j : Nat) (hj : j < t) (h : Kd.C (Kd.int .i64) W A1 tk.length tk) => hyes j hj ▸ in_c A1 tk.length c1 tk (j : Int) W h (by omega)
      have k5 := fun (W : World) (h : Kd.C (Kd.int .i64) W A1 tk.length tk) => hno ▸ in_c A1 tk.length c1 tk (t : Int) W h (by omega)
      replace k1 := Aside0.mk k1
      replace k4 := Aside0.mk k4
      replace k5 := Aside0.mk k5
      clear hno hyes hT
      rcases (by omega : k = n ∨ (k < n ∧ k = 40)) with hx | ⟨hx, hx2⟩
      · have z1 : ¬ ((k : Int) < (n : Int)) := by omega
        clear hx hgo
        go_wp2_with (first
          | (go_at_call 10; (with_reducible refine (k1.out _ hI.out).mono ?_); rintro e w' ⟨rfl, ⟨q1, rfl⟩⟩; replace hR1 := Aside0.mk (Kd.R_drewN hR1.out q1); replace HB := Aside0.mk (pw_below_drewN HB.out q1))
          | fail)
        go_loopw [15] (fun v wr => ∃ j : Nat, j ≤ t ∧ v = .int .i64 j ∧ Aside0 (Kd.R (Kd.int .i64) 3 wr w.heap.size (fun b => b ≠ B ∧ b ≠ R ∧ b ≠ ms 0) (.slice A1 tk.length c1) tk) ∧ Aside0 (Below w.heap.size w wr)) (fun v _ => t - (intOf v).toNat)
        case atStart => exact ⟨0, Nat.zero_le _, rfl, hR1, HB⟩
        case round =>
          clear hR1 hI HB k1
          obtain ⟨j, hj, rfl, hR1, HB⟩ := hrel
          by_cases hjt : j < t
          · have k6 := Aside0.mk (fun W h => k4.out W j hjt h)
            have y1 : (j : Int) < (t : Int) := by omega
            go_wp2_with (first
              | (go_at_call 11; (with_reducible refine (k6.out _ (Kd.R_reads' hR1.out).2.2).mono ?_); rintro e w' ⟨rfl, ⟨q2, rfl⟩⟩; replace hR1 := Aside0.mk (Kd.R_drewN hR1.out q2); replace HB := Aside0.mk (pw_below_drewN HB.out q2))
              | fail)
            go_roundw
            case rel => exact ⟨j + 1, by omega, by go_num, hR1, HB⟩
            case measure => simp [intOf]; omega
          · have hjt2 : j = t := by omega
            subst hjt2
            have y1 : ¬ ((j : Int) < (j : Int)) := by omega
            go_wp2_with (first
              | (go_at_call 11; (with_reducible refine (k5.out _ (Kd.R_reads' hR1.out).2.2).mono ?_); rintro e w' ⟨rfl, ⟨q2, rfl⟩⟩; replace HB := Aside0.mk (pw_below_drewN HB.out q2); clear hR1)
              | fail)
            go_ret
            exact ⟨rfl, HB.out⟩
      · have z1 : (k : Int) < (n : Int) := by omega
        have z2 : ¬ ((k : Int) < 40) := by omega
        clear hx hx2 hgo
        go_wp2_with (first
          | (go_at_call 10; (with_reducible refine (k1.out _ hI.out).mono ?_); rintro e w' ⟨rfl, ⟨q1, rfl⟩⟩; replace hR1 := Aside0.mk (Kd.R_drewN hR1.out q1); replace HB := Aside0.mk (pw_below_drewN HB.out q1))
          | fail)
        go_loopw [15] (fun v wr => ∃ j : Nat, j ≤ t ∧ v = .int .i64 j ∧ Aside0 (Kd.R (Kd.int .i64) 3 wr w.heap.size (fun b => b ≠ B ∧ b ≠ R ∧ b ≠ ms 0) (.slice A1 tk.length c1) tk) ∧ Aside0 (Below w.heap.size w wr)) (fun v _ => t - (intOf v).toNat)
        case atStart => exact ⟨0, Nat.zero_le _, rfl, hR1, HB⟩
        case round =>
          clear hR1 hI HB k1
          obtain ⟨j, hj, rfl, hR1, HB⟩ := hrel
          by_cases hjt : j < t
          · have k6 := Aside0.mk (fun W h => k4.out W j hjt h)
            have y1 : (j : Int) < (t : Int) := by omega
            go_wp2_with (first
              | (go_at_call 11; (with_reducible refine (k6.out _ (Kd.R_reads' hR1.out).2.2).mono ?_); rintro e w' ⟨rfl, ⟨q2, rfl⟩⟩; replace hR1 := Aside0.mk (Kd.R_drewN hR1.out q2); replace HB := Aside0.mk (pw_below_drewN HB.out q2))
              | fail)
            go_roundw
            case rel => exact ⟨j + 1, by omega, by go_num, hR1, HB⟩
            case measure => simp [intOf]; omega
          · have hjt2 : j = t := by omega
            subst hjt2
            have y1 : ¬ ((j : Int) < (j : Int)) := by omega
            go_wp2_with (first
              | (go_at_call 11; (with_reducible refine (k5.out _ (Kd.R_reads' hR1.out).2.2).mono ?_); rintro e w' ⟨rfl, ⟨q2, rfl⟩⟩; replace HB := Aside0.mk (pw_below_drewN HB.out q2); clear hR1)
              | fail)
            go_ret
            exact ⟨rfl, HB.out⟩
theorem stays (A : Option Addr) (len cap : Nat) (zs : List Int) (x y : Int) (w : World)
    (hz : (A = none ∧ len = 0 ∧ cap = 0 ∧ zs = []) ∨ ∃ x, A = some x ∧ len ≤ cap ∧ cap ≤ maxLen ∧ zs.length = cap ∧ (∀ i, i < zs.length → w.cell? (x.add i) = some (.int .i64 (zs.getD i 0))) ∧ ∀ n ∈ zs, (Lit.int .i64 n).wf = true) :
    Calls Try.prog 4 #[.slice A len cap, .int .i64 x, .int .i64 y] w fun e w' => e = .returned (.bool true) ∧ Below w.heap.size w w' := by
  obtain ⟨l, rfl, hr, hm, hw, hc⟩ := ReadsInt.ofRowC hz
  exact stays_walk A l.length cap l x y w (Kd.C_of_reads (d := (0 : Int)) (h1 := fun _ => rfl) hr) hm
end Go.Proofs.Ytnenhlgpkfelcaa.Box
