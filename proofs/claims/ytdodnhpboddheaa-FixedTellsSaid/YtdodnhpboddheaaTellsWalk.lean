/- The walk through FixedTells: it returns true and what lay in memory stays; for every list that is read and every three numbers of 64 bits. -/
import Derived.Test.YtdodnhpboddheaaOwnKept
import Derived.Test.YtdodnhpboddheaaFFixedTells
namespace Go.Proofs.Ytdodnhpboddheaa.Tells
open Go.RowKit Go.Proofs.Ytdodnhpboddheaa.PFixedTells Go.Proofs.YtdodnhpboddheaaW.PrintWords Go.Proofs.YtdodnhpboddheaaW.PrintLast Go.Proofs.YtdodnhpboddheaaW.PrintMore
open Go.Proofs.Ytdodnhpboddheaa.Plain Go.Proofs.Ytdodnhpboddheaa.FixedTellsFacts Go.Proofs.Ytdodnhpboddheaa.OwnKept
set_option linter.unusedVariables false

theorem chain0 {w w1 w2 : World} (h : Below w.heap.size w w1) (k : Below w1.heap.size w1 w2) : Below w.heap.size w w2 := below_then h h.size k
theorem low {P : Program} {f : FuncId} {args : Array Value} {w : World} {v : Value} (h : Calls P f args w fun e w' => e = .returned v ∧ Drawn0 w w') : Calls P f args w fun e w' => e = .returned v ∧ Below w.heap.size w w' :=
  h.mono fun _ _ ⟨h1, h2⟩ => ⟨h1, h2.below⟩

theorem r_held (a : Int) : joustref01_Held.f a = some (held a) := by
  unfold joustref01_Held.f held mx mn
  congr 1
  omega
theorem r_scale (a b d : Int) (h : d ≠ 0) : joustref01_Scale.f a b d = some (ptof a b d, 0) := by
  unfold joustref01_Scale.f
  rw [if_neg h]
  simp only [r_held, Option.bind_some]
  rw [if_neg (held_ne h), prod_in, quot_in]
  rfl
theorem r_scale0 (a b : Int) : joustref01_Scale.f a b 0 = some (0, 1) := by
  unfold joustref01_Scale.f
  rw [if_pos rfl]
theorem r_sub (a b : Int) : joustref01_Sub.f a b = some (sub a b) := by
  unfold joustref01_Sub.f
  simp only [r_held, Option.bind_some]
  rw [diff_in]
  rfl
theorem r_size {v : Int} (h0 : -2147483647 ≤ v) (h1 : v ≤ 2147483647) : joustref01_size.f v = some (size v) := by
  unfold joustref01_size.f size
  have e : wrap64 (-v) = -v := by unfold wrap64; omega
  rw [e, pc_mx]
theorem r_far (a b c d : Int) : joustref01_Far.f a b c d = some (far a b c d) := by
  unfold joustref01_Far.f
  simp only [r_sub, Option.bind_some]
  rw [r_size (sub_range _ _).1 (sub_range _ _).2]
  simp only [Option.bind_some]
  rw [r_size (sub_range _ _).1 (sub_range _ _).2]
  simp only [Option.bind_some]
  rw [pc_mx]
  rfl
theorem r_add_l (l : List Int) (hl : l.length ≤ 140737488355328) (d : Nat) : ∀ (k : Nat) (x : Int) (i : Nat), -2147483647 ≤ x → x ≤ 2147483647 → l.length - i = d → i ≤ l.length → d < k →
    joustref01_Add.l0 k l x (i : Int) = some ((l.drop i).foldl add x) := by
  induction d with
  | zero =>
    intro k x i _ _ hd hi hk
    obtain ⟨k, rfl⟩ : ∃ m, k = m + 1 := ⟨k - 1, by omega⟩
    simp only [joustref01_Add.l0]
    rw [if_neg (by omega), List.drop_of_length_le (by omega)]
    rfl
  | succ d ih =>
    intro k x i hx0 hx1 hd hi hk
    obtain ⟨k, rfl⟩ : ∃ m, k = m + 1 := ⟨k - 1, by omega⟩
    have hw : wrap64 ((i : Int) + 1) = ((i + 1 : Nat) : Int) := by unfold wrap64; omega
    have hlt : i < l.length := by omega
    have hrd : rd l (i : Int) = l[i] := by simp [rd, List.getD_eq_getElem?_getD, List.getElem?_eq_getElem hlt]
    simp only [joustref01_Add.l0]
    rw [if_pos (by omega), if_pos (by omega), r_held]
    simp only [Option.bind_some]
    rw [r_held]
    simp only [Option.bind_some]
    have hs : wrap64 (x + held (rd l (i : Int))) = x + held (rd l (i : Int)) := by
      have := held_range (rd l (i : Int))
      unfold wrap64
      omega
    rw [hs, hw, ih k _ (i + 1) (held_range _).1 (held_range _).2 (by omega) (by omega) (by omega), List.drop_eq_getElem_cons hlt, hrd]
    rfl
theorem r_add (k : Nat) (l : List Int) (hl : l.length ≤ 140737488355328) (hk : l.length < k) : joustref01_Add.f k l = some (l.foldl add 0) := by
  have h := r_add_l l hl l.length k 0 0 (by omega) (by omega) (by omega) (by omega) hk
  simpa [joustref01_Add.f] using h
theorem scale_any (a b d : Int) : ∃ x e, fixed_Scale.f a b d = some (x, e) ∧ joustref01_Scale.f a b d = some (x, e) := by
  by_cases h : d = 0
  · subst h; exact ⟨0, 1, pc_scale0 a b, r_scale0 a b⟩
  · exact ⟨_, _, pc_scale a b d h, r_scale a b d h⟩
theorem clamp_any (a b d : Int) : ∃ x, fixed_Clamp.f a b d = some x ∧ joustref01_Clamp.f a b d = some x := by
  unfold fixed_Clamp.f joustref01_Clamp.f
  by_cases h : a < b
  · exact ⟨b, by rw [if_pos h], by rw [if_pos h]⟩
  · rw [if_neg h]
    by_cases h2 : a > d
    · exact ⟨d, by rw [if_pos h2], by rw [if_pos h2]⟩
    · exact ⟨a, by rw [if_neg h2], by rw [if_neg h2]⟩

set_option maxHeartbeats 800000 in
theorem long_walk (a1 a2 a3 : Int) (A : Option Addr) (c n : Nat) (w : World) (hn : n ≤ maxLen) (hl : 100 < n) :
    Calls Try.prog 3 #[.slice A n c, .int .i64 a1, .int .i64 a2, .int .i64 a3] w fun e w' => e = .returned (.bool true) ∧ Below w.heap.size w w' := by
  unfold maxLen at hn
  have hlt : decide ((100 : Int) < (n : Int)) = true := by simp; omega
  go_enter Try.func3, Try.ntmps3
  go_wp2_with (first | (go_at_call 9; (with_reducible refine (joustlaw01_awake.calls 8 true _ pc_awake8).mono ?_); rintro e w' ⟨rfl, hb⟩))
  go_ret
  exact ⟨rfl, hb⟩

set_option maxRecDepth 100000 in
set_option maxHeartbeats 3200000 in
theorem short_walk (a1 a2 a3 : Int) (A : Option Addr) (c : Nat) (l : List Int) (w : World) (HC : Kd.C (Kd.int .i64) w A l.length l) (hc : l.length ≤ c) (hl : l.length ≤ 100) :
    Calls Try.prog 3 #[.slice A l.length c, .int .i64 a1, .int .i64 a2, .int .i64 a3] w fun e w' => e = .returned (.bool true) ∧ Below w.heap.size w w' := by
  have hlt : decide ((100 : Int) < (l.length : Int)) = false := by simp; omega
  obtain ⟨x, xe, C1, D1⟩ := scale_any a1 a2 a3
  obtain ⟨y, C2, D2⟩ := clamp_any a1 a2 a3
  have C3 := pc_held a1
  have D3 := r_held a1
  have C4 := pc_add 200 l (by omega) (by omega)
  have D4 := r_add 200 l (by omega) (by omega)
  have C5 := pc_sub a1 a2
  have D5 := r_sub a1 a2
  have C6 := pc_far a1 a2 a3 a1
  have D6 := r_far a1 a2 a3 a1
  generalize held a1 = h at *
  generalize List.foldl add 0 l = sm at *
  generalize sub a1 a2 = sb at *
  generalize far a1 a2 a3 a1 = f at *
  replace C1 := Aside0.mk C1
  replace C2 := Aside0.mk C2
  replace C3 := Aside0.mk C3
  replace C4 := Aside0.mk C4
  replace C5 := Aside0.mk C5
  replace C6 := Aside0.mk C6
  replace D1 := Aside0.mk D1
  replace D2 := Aside0.mk D2
  replace D3 := Aside0.mk D3
  replace D4 := Aside0.mk D4
  replace D5 := Aside0.mk D5
  replace D6 := Aside0.mk D6
  replace HC := Aside0.mk HC
  have hml : l.length ≤ 9223372036854775807 := by omega
  go_enter Try.func3, Try.ntmps3
  go_wp2_with (first
    | (go_at_call 10; (with_reducible refine (own_c A l.length c 71 l _ (by omega) HC.out).mono ?_); rintro e w1 ⟨rfl, hcp, hb1⟩; have HR := Aside0.mk (hcp.reads rfl hml); have HC1 := Aside0.mk (Kd.C_below HC.out hb1); replace hcp := Aside0.mk hcp; replace hb1 := Aside0.mk hb1; have HB := Aside0.mk (Below.refl w1.heap.size w1))
    | (go_at_call 11; (with_reducible refine (low (fixed_Scale.calls a1 a2 a3 x xe _ C1.out)).mono ?_); rintro e w' ⟨rfl, hb⟩; replace HB := Aside0.mk (chain0 HB.out hb); clear hb)
    | (go_at_call 12; (with_reducible refine (joustref01_Scale.calls a1 a2 a3 x xe _ D1.out).mono ?_); rintro e w' ⟨rfl, hb⟩; replace HB := Aside0.mk (chain0 HB.out hb); clear hb)
    | (go_at_call 9; (with_reducible refine (joustlaw01_awake.calls 8 true _ pc_awake8).mono ?_); rintro e w' ⟨rfl, hb⟩; replace HB := Aside0.mk (chain0 HB.out hb); clear hb)
    | (go_at_call 13; (with_reducible refine (low (fixed_Held.calls a1 h _ C3.out)).mono ?_); rintro e w' ⟨rfl, hb⟩; replace HB := Aside0.mk (chain0 HB.out hb); clear hb)
    | (go_at_call 14; (with_reducible refine (joustref01_Held.calls a1 h _ D3.out).mono ?_); rintro e w' ⟨rfl, hb⟩; replace HB := Aside0.mk (chain0 HB.out hb); clear hb)
    | (go_at_call 15; (with_reducible refine (low (fixed_Add.calls 200 _ _ l sm _ (Kd.C_below HR.out HB.out) (Nat.le_add_right _ _) C4.out)).mono ?_); rintro e w' ⟨rfl, hb⟩; replace HB := Aside0.mk (chain0 HB.out hb); clear hb)
    | (go_at_call 16; (with_reducible refine (joustref01_Add.calls 200 _ _ l sm _ (Kd.C_below HC1.out HB.out) hc D4.out).mono ?_); rintro e w' ⟨rfl, hb⟩; replace HB := Aside0.mk (chain0 HB.out hb); clear hb)
    | (go_at_call 17; (with_reducible refine (low (fixed_Sub.calls a1 a2 sb _ C5.out)).mono ?_); rintro e w' ⟨rfl, hb⟩; replace HB := Aside0.mk (chain0 HB.out hb); clear hb)
    | (go_at_call 18; (with_reducible refine (joustref01_Sub.calls a1 a2 sb _ D5.out).mono ?_); rintro e w' ⟨rfl, hb⟩; replace HB := Aside0.mk (chain0 HB.out hb); clear hb)
    | (go_at_call 19; (with_reducible refine (low (fixed_Clamp.calls a1 a2 a3 y _ C2.out)).mono ?_); rintro e w' ⟨rfl, hb⟩; replace HB := Aside0.mk (chain0 HB.out hb); clear hb)
    | (go_at_call 20; (with_reducible refine (low (joustref01_Clamp.calls a1 a2 a3 y _ D2.out)).mono ?_); rintro e w' ⟨rfl, hb⟩; replace HB := Aside0.mk (chain0 HB.out hb); clear hb)
    | (go_at_call 21; (with_reducible refine (fixed_Far.calls a1 a2 a3 a1 f _ C6.out).mono ?_); rintro e w' ⟨rfl, hb⟩; replace HB := Aside0.mk (chain0 HB.out hb); clear hb)
    | (go_at_call 22; (with_reducible refine (joustref01_Far.calls a1 a2 a3 a1 f _ D6.out).mono ?_); rintro e w' ⟨rfl, hb⟩; replace HB := Aside0.mk (chain0 HB.out hb); clear hb)
    | (go_at_call 23; (with_reducible refine (low (kept_c A _ l.length c 71 l _ (by omega) (Kd.C_below HC1.out HB.out) (hcp.out.below HB.out))).mono ?_); rintro e w' ⟨rfl, hb⟩; replace HB := Aside0.mk (chain0 HB.out hb); clear hb)
    | fail)
  go_ret
  exact ⟨rfl, chain0 hb1.out HB.out⟩

theorem tells_walk (a1 a2 a3 : Int) (A : Option Addr) (len cap : Nat) (zs : List Int) (w : World)
    (hz : (A = none ∧ len = 0 ∧ cap = 0 ∧ zs = []) ∨ ∃ x, A = some x ∧ len ≤ cap ∧ cap ≤ maxLen ∧ zs.length = cap ∧ (∀ i, i < zs.length → w.cell? (x.add i) = some (.int .i64 (zs.getD i 0))) ∧ ∀ n ∈ zs, (Lit.int .i64 n).wf = true) :
    Calls Try.prog 3 #[.slice A len cap, .int .i64 a1, .int .i64 a2, .int .i64 a3] w fun e w' => e = .returned (.bool true) ∧ Below w.heap.size w w' := by
  obtain ⟨l, rfl, hr, hm, hw, hc⟩ := ReadsInt.ofRowC hz
  by_cases h : l.length ≤ 100
  · exact short_walk a1 a2 a3 A cap l w (Kd.C_of_reads (d := (0 : Int)) (h1 := fun _ => rfl) hr) hc h
  · exact long_walk a1 a2 a3 A cap l.length w hm (by omega)
end Go.Proofs.Ytdodnhpboddheaa.Tells
