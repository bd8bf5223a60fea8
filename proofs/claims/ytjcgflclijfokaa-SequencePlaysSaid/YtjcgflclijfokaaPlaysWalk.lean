/- The walk through SequencePlays: it returns true and what lay in memory stays; for every list that is read and every two numbers. -/
import Derived.Test.YtjcgflclijfokaaRef
import Derived.Deep.RegionWith
import Derived.Deep.RegionHeld3
import Derived.Deep.DeepCutAuto
import Derived.Deep.CutBlock
namespace Go.Proofs.Ytjcgflclijfokaa.Plays
open Go.RowKit Go.Proofs.Ytjcgflclijfokaa.PSequencePlays Go.Proofs.YtjcgflclijfokaaW.PrintWords Go.Proofs.YtjcgflclijfokaaW.PrintLast Go.Proofs.YtjcgflclijfokaaW.PrintMore
open Go.Proofs.Ytjcgflclijfokaa.Win Go.Proofs.Ytjcgflclijfokaa.Far Go.Proofs.Ytjcgflclijfokaa.Once Go.Proofs.Ytjcgflclijfokaa.Ref
set_option linter.unusedVariables false

theorem block_add (a : Addr) (n : Nat) : (a.add n).block = a.block := by unfold Addr.add; split <;> rfl

theorem undrew {w w' : World} {row : Option Nat} (h : w.drew.grownBy w' row) : w.grownBy w' row := ⟨h.os, h.tape, h.output, h.size, h.block⟩

theorem quiet_d {P : Program} {f : FuncId} {args : Array Value} {w : World} {a n : Nat} {v : Value}
    (h : Calls P f args (w.drewN (a + n)) fun e w' => e = .returned v ∧ Drawn0 (w.drewN (a + n)) w') : Calls P f args (w.drewN (a + n)) fun e w'' => e = .returned v ∧ ∃ m, w'' = w.drewN (a + m) :=
  h.mono fun _ _ ⟨he, ⟨m, hm⟩⟩ => ⟨he, n + m, by rw [hm, World.drewN_drewN, Nat.add_assoc]⟩

theorem took_is (x c : Int) (tk : List Int) (h : Inv x c tk) (seq : Int) : tookB x c seq = took x tk seq := h.took seq

set_option maxRecDepth 100000 in
set_option maxHeartbeats 4000000 in
theorem plays_walk (A : Option Addr) (n cap : Nat) (l : List Int) (fork ask : Int) (w : World) (HC : Kd.C (Kd.int .i64) w A n l) (hn : n ≤ maxLen) :
    Calls Try.prog 4 #[.slice A n cap, .int .i64 fork, .int .i64 ask] w fun e w' => e = .returned (.bool true) ∧ Below w.heap.size w w' := by
  unfold maxLen at hn
  obtain ⟨B0, hB⟩ : ∃ B, B = w.heap.size := ⟨_, rfl⟩
  have hBl : w.heap.size ≤ B0 := by omega
  have hnew := new_c w
  rw [← hB] at hnew
  replace hnew := Aside0.mk hnew
  replace hB := Aside0.mk hB
  replace HC := Aside0.mk HC
  go_enter Try.func4, Try.ntmps4
  go_wp2_with (first
    | (go_at_call 7; (with_reducible refine hnew.out.mono ?_); rintro e w1 ⟨rfl, h1, hb1⟩; replace h1 := Aside0.mk h1; have HB := Aside0.mk (by have := hb1; rw [hB.out] at this; exact this : Below w.heap.size w w1); clear hb1)
    | (go_at_call 8; (with_reducible refine (awake_c _).mono ?_); rintro e w2 ⟨rfl, hb2⟩; have hR2 := Aside0.mk (Ref.below (base := w.heap.size) (tk := []) ⟨heap_alloc_new w1 _, Kd.R_nil _ _ _ _ _⟩ hb2); have h2 := Aside0.mk ((h1.out.alloc _).below hb2); have hBR : Aside0 (B0 ≠ w1.heap.size) := ⟨Nat.ne_of_lt h1.out.lt⟩; have hRl := HB.out.size; replace HB := Aside0.mk (below_then (HB.out.alloc HB.out.size _) (HB.out.alloc HB.out.size _).size hb2); clear h1 hb2)
    | fail)
  generalize w1.heap.size = R at *
  have hadl : ∀ ad, A = some ad → 0 < n → ad.block < w.heap.size := by
    intro ad e h0
    obtain ⟨ad', e', hc⟩ := Kd.at_int HC.out 0 (by omega) (by omega)
    rw [e] at e'
    injection e' with e'
    subst e'
    have := World.block_lt_of_cell? w _ hc
    rwa [block_add] at this
  replace hadl := Aside0.mk hadl
  replace hBl := Aside0.mk hBl
  clear hnew hB
  go_loopw [7, 9] (fun p i wr => ∃ (k B : Nat) (x c : Int) (tk : List Int) (A1 : Option Addr) (c1 : Nat), k ≤ n ∧ k ≤ 150 ∧ tk.length ≤ k ∧ i = .int .i64 k ∧ p = .pointer (some ⟨B, 0, none⟩) ∧ Aside0 (w.heap.size ≤ B) ∧ Aside0 (B ≠ R) ∧ Aside0 (At wr B x c) ∧ Aside0 (Inv x c tk) ∧ Aside0 (Ref wr w.heap.size R x A1 c1 tk) ∧ Aside0 (Below w.heap.size w wr)) (fun _ i _ => n - (intOf i).toNat)
  case atStart => exact ⟨0, B0, 0, 0, [], none, 0, Nat.zero_le _, Nat.zero_le _, by simp, rfl, rfl, hBl, hBR, h2, ⟨Inv.zero⟩, hR2, HB⟩
  case round =>
    clear h2 HB hR2 hBR hBl
    obtain ⟨k, B, x, c, tk, A1, c1, hkn, hk60, htk, rfl, rfl, hBl, hBR, hat, hinv, hrf, HB⟩ := hrel
    by_cases hlt : k < n
    · by_cases h60 : k < 150
      · obtain ⟨ad, e1, hc⟩ := Kd.at_int (Kd.C_below HC.out HB.out) (k : Int) (by omega) (by omega)
        rw [Int.toNat_natCast] at hc
        have hab : (ad.add k).block < w.heap.size := by
          rw [block_add]
          exact hadl.out ad e1 (by omega)
        subst e1
        generalize rd l (k : Int) = a at hc
        have b0 : (0 : Int) ≤ (k : Int) := by omega
        have b1 : (k : Int) < (n : Int) := by omega
        have hx0 := hinv.out.h0
        have hx2 := hinv.out.h1
        have hinv' := hinv.out.step a
        have k1 := Aside0.mk (take_c B x c a)
        have hk := took_is x c tk hinv.out a
        have k2 := Aside0.mk (fun (W : World) (h : Ref W w.heap.size R x A1 c1 tk) (hs : w.heap.size ≤ W.heap.size) => rtake_c w.heap.size R x A1 c1 tk a W h hs hx0 hx2 (by omega))
        rw [← hk] at k2
        have hst : (if tookB x c a = true then (if x < a then a else x) else x) = stL x c a := rfl
        rw [hst] at k2
        generalize stL x c a = x' at *
        generalize stC x c a = c' at *
        generalize tookB x c a = is at *
        have htkl : Aside0 ((if is = true then tk ++ [a] else tk).length ≤ k + 1) := ⟨by by_cases h : is = true <;> simp [h] <;> omega⟩
        generalize (if is = true then tk ++ [a] else tk) = tk' at *
        clear hk hst
        replace hinv' := Aside0.mk hinv'
        replace hab := Aside0.mk hab
        go_upto_region 7 with fail
        go_cut [52] (fun t wx => t = .bool false ∧ Aside0 (At wx B x' c') ∧ Aside0 (∃ A4 c4, Ref wx w.heap.size R x' A4 c4 tk') ∧ Aside0 (Below w.heap.size w wx))
        case first =>
          go_region_with (first
            | (go_at_call 9; refine (k1.out _ (by exact hat.out) hx0 hx2).mono ?_; rintro e w3 ⟨rfl, hat3, hg⟩; replace hg := undrew hg; have hc3 := World.grownBy.cell hg (show World.cell? _ _ = _ from hc) (fun e => by have := hab.out; have := hBl.out; injection e; omega); have hrf3 := Aside0.mk (Ref.other (w' := w3) hrf.out hat.out (by decide) hBR.out (by exact hg)); replace hat3 := Aside0.mk hat3; have HB3 := Aside0.mk (bg (W' := w3) HB.out hBl.out (by exact hg)); clear hg)
            | (go_at_call 12; refine (k2.out _ (by exact hrf3.out) (by exact HB3.out.size)).mono ?_; rintro e w4 ⟨rfl, ⟨A4, c4, hrf4⟩, hg⟩; have hat4 := Aside0.mk (At.other (w' := w4) hat3.out (by exact hg) (fun e => hBR.out (by injection e))); have c40 := hrf4.c0; replace hrf4 := Aside0.mk hrf4; have HB4 := Aside0.mk (bg (W' := w4) HB3.out hRl (by exact hg)); clear hg)
            | (go_at_call 11; refine (last_c B x' c' _ (by exact hat4.out)).mono ?_; rintro e w' ⟨rfl, ⟨q, rfl⟩⟩))
          all_goals
            go_wp2_with fail
            go_meet
            exact ⟨rfl, ⟨hat4.out.drewN _⟩, ⟨⟨A4, c4, hrf4.out.drewN _⟩⟩, ⟨pw_below_drewN HB4.out _⟩⟩
        case rest =>
          obtain ⟨rfl, hat4, hrf4, HB4⟩ := hcut
          clear hat hrf HB k1 k2 hc
          have hx0' := hinv'.out.h0
          have hx2' := hinv'.out.h1
          obtain ⟨A4, c4, hrf4⟩ := hrf4.out
          have htk' : tk'.length ≤ k + 1 := htkl.out
          by_cases hf : (k : Int) = fork
          · have hfb : ((k : Int) == fork) = true := beq_iff_eq.2 hf
            obtain ⟨F, hF⟩ : ∃ F, F = wc.heap.size := ⟨_, rfl⟩
            have hFB : Aside0 (F ≠ B) := ⟨by have := hat4.out.lt; omega⟩
            have hFR : Aside0 (F ≠ R) := ⟨by have := hrf4.lt; omega⟩
            have hFl : Aside0 (w.heap.size ≤ F) := ⟨by have := HB4.out.size; omega⟩
            have hfk := fork_c B x' c' wc hat4.out
            rw [← hF] at hfk
            replace hfk := Aside0.mk hfk
            replace hF := Aside0.mk hF
            have k5 := Aside0.mk (take_c B x' c' (x' + 1))
            replace hrf4 := Aside0.mk hrf4
            clear hf
            go_wp2_with (first
              | (go_at_call 13; (with_reducible refine hfk.out.mono ?_); rintro e w5 ⟨rfl, hf5, hb5⟩; replace hb5 : Below wc.heap.size wc w5 := (by have := hb5; rw [hF.out] at this; exact this); have hat5 := Aside0.mk (hat4.out.below hb5); have hrf5 := Aside0.mk (hrf4.out.below hb5); have c50 := hrf5.out.c0; replace hf5 := Aside0.mk hf5; have HB5 := Aside0.mk (below_then HB4.out HB4.out.size hb5); clear hb5)
              | (go_at_call 9; (with_reducible refine (k5.out _ hat5.out hx0' hx2').mono ?_); rintro e w6 ⟨rfl, hat6, hg⟩; have hf6 := Aside0.mk (hf5.out.other hg (fun e => hFB.out (by injection e))); have hrf6 := Aside0.mk (hrf5.out.other hat5.out (by decide) hBR.out hg); have HB6 := Aside0.mk (bg HB5.out hBl.out hg); clear hg)
              | fail)
            go_roundw
            case rel => exact ⟨k + 1, F, x', c', tk', A4, c4, by omega, by omega, by omega, by go_num, rfl, hFl, hFR, hf6, hinv', hrf6, HB6⟩
            case measure => simp [intOf]; omega
          · have hfb : ((k : Int) == fork) = false := beq_eq_false_iff_ne.2 hf
            clear hf
            go_wp2_with fail
            go_roundw
            case rel => exact ⟨k + 1, B, x', c', tk', A4, c4, by omega, by omega, by omega, by go_num, rfl, hBl, hBR, hat4, hinv', ⟨hrf4⟩, HB4⟩
            case measure => simp [intOf]; omega
      · have hb2 := hinv.out.seen
        go_wp2_with fail
        go_loopw [11] (fun i w5 => ∃ j : Int, i = .int .i64 j ∧ -3 ≤ j ∧ j ≤ 140 ∧ Drawn0 wr w5) (fun i _ => (140 - intOf i).toNat)
        case atStart => exact ⟨-3, rfl, by omega, by omega, Drawn0.refl _⟩
        case round =>
          obtain ⟨j, rfl, hj0, hj1, ⟨q, rfl⟩⟩ := hrel
          have hx0 := hinv.out.h0
          have hx2 := hinv.out.h1
          by_cases hj : j < 140
          · have k3 := Aside0.mk (fun (W : World) (h : At W B x c) => seen_c B x c (x - j) W h hx0 hx2)
            have k4 := Aside0.mk (fun (W : World) (h : Ref W w.heap.size R x A1 c1 tk) => rseen_c w.heap.size R x A1 c1 tk (x - j) W h hx0 hx2 (by omega))
            rw [hb2] at k3
            generalize (decide (1 ≤ x - j) && (decide (x - j ≤ x - 64) || tk.contains (x - j))) = b at *
            have c0 := hrf.out.c0
            have hw1 : IntKind.i64.wrap (x - j) = x - j := by rw [IntKind.wrap_i64]; omega
            clear hb2
            go_wp2_with fail
            go_quiet ((first | (go_at_call 10; exact quiet_d (k3.out _ (by exact hat.out))) | (go_at_call 14; exact quiet_d (k4.out _ (by exact hrf.out.drewN _)))))
            clear hw1
            go_wp2_with fail
            go_roundw
            case rel => exact ⟨j + 1, by go_num, by omega, by omega, ⟨_, rfl⟩⟩
            case measure => simp [intOf]; omega
          · have k3 := Aside0.mk (fun (W : World) (h : At W B x c) => seen_c B x c ask W h hx0 hx2)
            have k4 := Aside0.mk (fun (W : World) (h : Ref W w.heap.size R x A1 c1 tk) => rseen_c w.heap.size R x A1 c1 tk ask W h hx0 hx2 (by omega))
            rw [hb2] at k3
            generalize (decide (1 ≤ ask) && (decide (ask ≤ x - 64) || tk.contains ask)) = b at *
            clear hb2
            go_wp2_with (first
              | (go_at_call 10; (with_reducible refine (k3.out _ (hat.out.drewN _)).mono ?_); rintro e w' ⟨rfl, ⟨q3, rfl⟩⟩)
              | (go_at_call 14; (with_reducible refine (k4.out _ (hrf.out.drewN _)).mono ?_); rintro e w' ⟨rfl, ⟨q4, rfl⟩⟩)
              | fail)
            go_ret
            exact ⟨by simp, pw_below_drewN HB.out _⟩
    · have hb2 := hinv.out.seen
      go_wp2_with fail
      go_loopw [11] (fun i w5 => ∃ j : Int, i = .int .i64 j ∧ -3 ≤ j ∧ j ≤ 140 ∧ Drawn0 wr w5) (fun i _ => (140 - intOf i).toNat)
      case atStart => exact ⟨-3, rfl, by omega, by omega, Drawn0.refl _⟩
      case round =>
        obtain ⟨j, rfl, hj0, hj1, ⟨q, rfl⟩⟩ := hrel
        have hx0 := hinv.out.h0
        have hx2 := hinv.out.h1
        by_cases hj : j < 140
        · have k3 := Aside0.mk (fun (W : World) (h : At W B x c) => seen_c B x c (x - j) W h hx0 hx2)
          have k4 := Aside0.mk (fun (W : World) (h : Ref W w.heap.size R x A1 c1 tk) => rseen_c w.heap.size R x A1 c1 tk (x - j) W h hx0 hx2 (by omega))
          rw [hb2] at k3
          generalize (decide (1 ≤ x - j) && (decide (x - j ≤ x - 64) || tk.contains (x - j))) = b at *
          have c0 := hrf.out.c0
          have hw1 : IntKind.i64.wrap (x - j) = x - j := by rw [IntKind.wrap_i64]; omega
          clear hb2
          go_wp2_with fail
          go_quiet ((first | (go_at_call 10; exact quiet_d (k3.out _ (by exact hat.out))) | (go_at_call 14; exact quiet_d (k4.out _ (by exact hrf.out.drewN _)))))
          clear hw1
          go_wp2_with fail
          go_roundw
          case rel => exact ⟨j + 1, by go_num, by omega, by omega, ⟨_, rfl⟩⟩
          case measure => simp [intOf]; omega
        · have k3 := Aside0.mk (fun (W : World) (h : At W B x c) => seen_c B x c ask W h hx0 hx2)
          have k4 := Aside0.mk (fun (W : World) (h : Ref W w.heap.size R x A1 c1 tk) => rseen_c w.heap.size R x A1 c1 tk ask W h hx0 hx2 (by omega))
          rw [hb2] at k3
          generalize (decide (1 ≤ ask) && (decide (ask ≤ x - 64) || tk.contains ask)) = b at *
          clear hb2
          go_wp2_with (first
            | (go_at_call 10; (with_reducible refine (k3.out _ (hat.out.drewN _)).mono ?_); rintro e w' ⟨rfl, ⟨q3, rfl⟩⟩)
            | (go_at_call 14; (with_reducible refine (k4.out _ (hrf.out.drewN _)).mono ?_); rintro e w' ⟨rfl, ⟨q4, rfl⟩⟩)
            | fail)
          go_ret
          exact ⟨by simp, pw_below_drewN HB.out _⟩

theorem plays (A : Option Addr) (len cap : Nat) (zs : List Int) (fork ask : Int) (w : World)
    (hz : (A = none ∧ len = 0 ∧ cap = 0 ∧ zs = []) ∨ ∃ x, A = some x ∧ len ≤ cap ∧ cap ≤ maxLen ∧ zs.length = cap ∧ (∀ i, i < zs.length → w.cell? (x.add i) = some (.int .i64 (zs.getD i 0))) ∧ ∀ n ∈ zs, (Lit.int .i64 n).wf = true) :
    Calls Try.prog 4 #[.slice A len cap, .int .i64 fork, .int .i64 ask] w fun e w' => e = .returned (.bool true) ∧ Below w.heap.size w w' := by
  obtain ⟨l, rfl, hr, hm, hw, hc⟩ := ReadsInt.ofRowC hz
  exact plays_walk A l.length cap l fork ask w (Kd.C_of_reads (d := (0 : Int)) (h1 := fun _ => rfl) hr) hm
end Go.Proofs.Ytjcgflclijfokaa.Plays
