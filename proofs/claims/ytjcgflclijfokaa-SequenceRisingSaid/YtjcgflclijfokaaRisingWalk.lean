/- The walk through SequenceRising: it returns true and what lay in memory stays; for every list that is read. -/
import Derived.Test.YtjcgflclijfokaaFarWalk
namespace Go.Proofs.Ytjcgflclijfokaa.Rising
open Go.RowKit Go.Proofs.Ytjcgflclijfokaa.PSequencePlays Go.Proofs.YtjcgflclijfokaaW.PrintWords Go.Proofs.YtjcgflclijfokaaW.PrintLast Go.Proofs.YtjcgflclijfokaaW.PrintMore
open Go.Proofs.Ytjcgflclijfokaa.Win Go.Proofs.Ytjcgflclijfokaa.Far
set_option linter.unusedVariables false

/-- a number above all is taken, and then known -/
theorem rise (t c t' : Int) (l : List Int) (h : Inv t c l) (h1 : t < t') (h2 : t' ≤ 2147483647) :
    ∃ c' l', tookB t c t' = true ∧ stL t c t' = t' ∧ stC t c t' = c' ∧ Inv t' c' l' ∧ tookB t' c' t' = false ∧ stL t' c' t' = t' ∧ stC t' c' t' = c' := by
  have h0 := h.h0
  have hn : l.contains t' = false := by
    cases hq : l.contains t' with
    | false => rfl
    | true => exact absurd (h.mem _ hq).2 (by omega)
  have hk : tookB t c t' = true := by
    rw [h.took, hn, decide_eq_true (show 1 ≤ t' by omega), decide_eq_true h2, decide_eq_false (show ¬ t' ≤ t - 64 by omega)]
    rfl
  have hl : stL t c t' = t' := by unfold stL; rw [if_pos hk, if_pos h1]
  have hi := h.step t'
  rw [hl, if_pos hk] at hi
  have hk2 : tookB t' (stC t c t') t' = false := by
    rw [hi.took, contains_snoc]
    simp
  generalize stC t c t' = c' at *
  refine ⟨c', _, hk, hl, rfl, hi, hk2, ?_, ?_⟩
  · unfold stL; rw [if_neg (by rw [hk2]; simp)]
  · unfold stC; rw [if_neg (by rw [hk2]; simp)]

set_option maxHeartbeats 1600000 in
theorem rising_walk (A : Option Addr) (n cap : Nat) (l : List Int) (w : World) (HC : Kd.C (Kd.int .i64) w A n l) (hn : n ≤ maxLen) :
    Calls Try.prog 6 #[.slice A n cap] w fun e w' => e = .returned (.bool true) ∧ Below w.heap.size w w' := by
  unfold maxLen at hn
  obtain ⟨B, hB⟩ : ∃ B, B = w.heap.size := ⟨_, rfl⟩
  have hBl : w.heap.size ≤ B := by omega
  have hnew := new_c w
  rw [← hB] at hnew
  replace hnew := Aside0.mk hnew
  replace hB := Aside0.mk hB
  replace HC := Aside0.mk HC
  go_enter Try.func6, Try.ntmps6
  go_wp2_with (first
    | (go_at_call 7; (with_reducible refine hnew.out.mono ?_); rintro e w1 ⟨rfl, h1, hb1⟩; replace h1 := Aside0.mk h1; have HB := Aside0.mk (by have := hb1; rw [hB.out] at this; exact this : Below w.heap.size w w1); clear hb1)
    | (go_at_call 8; (with_reducible refine (awake_c _).mono ?_); rintro e w2 ⟨rfl, hb2⟩; have h2 := Aside0.mk (h1.out.below hb2); clear h1; replace HB := Aside0.mk (below_then HB.out HB.out.size hb2); clear hb2)
    | fail)
  go_loopw [4, 5] (fun t i wr => ∃ (k : Nat) (x c : Int) (kn : List Int), k ≤ n ∧ k ≤ 60 ∧ i = .int .i64 k ∧ t = .int .i64 x ∧ 0 ≤ x ∧ x ≤ 5000 * (k : Int) ∧ Aside0 (At wr B x c) ∧ Aside0 (Inv x c kn) ∧ Aside0 (Below w.heap.size w wr)) (fun _ i _ => n - (intOf i).toNat)
  case atStart => exact ⟨0, 0, 0, [], Nat.zero_le _, Nat.zero_le _, rfl, rfl, by omega, by omega, h2, ⟨Inv.zero⟩, HB⟩
  case round =>
    clear h2 HB hnew
    obtain ⟨k, x, c, kn, hkn, hk60, rfl, rfl, hx0, hx1, hat, hinv, HB⟩ := hrel
    by_cases hlt : k < n
    · by_cases h60 : k < 60
      · obtain ⟨ad, e1, hc⟩ := Kd.at_int (Kd.C_below HC.out HB.out) (k : Int) (by omega) (by omega)
        rw [Int.toNat_natCast] at hc
        subst e1
        obtain ⟨r, hr, hr0, hr1⟩ := rest (rd l (k : Int)) 5000 (by omega) (by omega)
        generalize rd l (k : Int) = a at hc hr
        obtain ⟨c', kn', p1, p2, p3, hinv', q1, q2, q3⟩ := rise x c (x + 1 + r) kn hinv.out (by omega) (by omega)
        replace hinv' := Aside0.mk hinv'
        have hx2 : x ≤ 2147483647 := by omega
        have k1 := Aside0.mk (fun g => @take_is g x c (x + 1 + r) (x + 1 + r) c' true hx0 hx2 p1 p2 p3)
        have k2 := Aside0.mk (@take_is B (x + 1 + r) c' (x + 1 + r) (x + 1 + r) c' false (by omega) (by omega) q1 q2 q3)
        have b0 : (0 : Int) ≤ (k : Int) := by omega
        have b1 : (k : Int) < (n : Int) := by omega
        have hxx : x + 1 + r ≤ 5000 * ((k : Int) + 1) := by omega
        obtain ⟨F, hF⟩ : ∃ F, F = wr.heap.size := ⟨_, rfl⟩
        have hne : (some B : Option Nat) ≠ some F := by
          intro h
          injection h with h
          have := hat.out.lt
          omega
        have hFl : w.heap.size ≤ F := by have := HB.out.size; omega
        have hfk := fork_c B x c wr hat.out
        rw [← hF] at hfk
        replace hfk := Aside0.mk hfk
        replace hF := Aside0.mk hF
        replace hne := Aside0.mk hne
        clear p1 p2 p3 q1 q2 q3 hinv
        go_wp2_with (first
          | (go_at_call 13; (with_reducible refine hfk.out.mono ?_); rintro e w3 ⟨rfl, hf3, hb3⟩; replace hb3 : Below wr.heap.size wr w3 := (by have := hb3; rw [hF.out] at this; exact this); have hat3 := Aside0.mk (hat.out.below hb3); replace hf3 := Aside0.mk hf3; replace HB := Aside0.mk (below_then HB.out HB.out.size hb3); clear hb3 hat)
          | (go_at_call 9; (with_reducible refine (k1.out B _ hat3.out).mono ?_); rintro e w4 ⟨rfl, hat4, hg⟩; have hf4 := Aside0.mk (hf3.out.other hg (Ne.symm hne.out)); replace hat4 := Aside0.mk hat4; replace HB := Aside0.mk (bg HB.out hBl hg); clear hg hat3 hf3)
          | (go_at_call 11; (with_reducible refine (last_c _ _ _ _ hat4.out).mono ?_); rintro e w' ⟨rfl, ⟨q, rfl⟩⟩)
          | (go_at_call 9; (with_reducible refine (k2.out _ (hat4.out.drewN _)).mono ?_); rintro e w5 ⟨rfl, hat5, hg⟩; have hf5 := Aside0.mk ((hf4.out.drewN _).other hg (Ne.symm hne.out)); replace hat5 := Aside0.mk hat5; replace HB := Aside0.mk (bg (pw_below_drewN HB.out _) hBl hg); clear hg hat4 hf4)
          | (go_at_call 9; (with_reducible refine (k1.out F _ hf5.out).mono ?_); rintro e w6 ⟨rfl, hf6, hg⟩; have hat6 := Aside0.mk (hat5.out.other hg hne.out); replace HB := Aside0.mk (bg HB.out hFl hg); clear hg hat5 hf5 hf6)
          | fail)
        go_roundw
        case rel => exact ⟨k + 1, x + 1 + r, c', kn', by omega, by omega, by go_num, rfl, by omega, by omega, hat6, hinv', HB⟩
        case measure => simp [intOf]; omega
      · go_wp2_with fail
        go_ret
        exact ⟨rfl, HB.out⟩
    · go_wp2_with fail
      go_ret
      exact ⟨rfl, HB.out⟩

theorem rising (A : Option Addr) (len cap : Nat) (zs : List Int) (w : World)
    (hz : (A = none ∧ len = 0 ∧ cap = 0 ∧ zs = []) ∨ ∃ x, A = some x ∧ len ≤ cap ∧ cap ≤ maxLen ∧ zs.length = cap ∧ (∀ i, i < zs.length → w.cell? (x.add i) = some (.int .i64 (zs.getD i 0))) ∧ ∀ n ∈ zs, (Lit.int .i64 n).wf = true) :
    Calls Try.prog 6 #[.slice A len cap] w fun e w' => e = .returned (.bool true) ∧ Below w.heap.size w w' := by
  obtain ⟨l, rfl, hr, hm, hw, hc⟩ := ReadsInt.ofRowC hz
  exact rising_walk A l.length cap l w (Kd.C_of_reads (d := (0 : Int)) (h1 := fun _ => rfl) hr) hm
end Go.Proofs.Ytjcgflclijfokaa.Rising
