/- The walk through ChanceTells: it returns true and what lay in memory stays; for every two seeds, every n and every list that is read. -/
import Derived.Test.YtonlibdfakmgoaaOwnKept
import Derived.Test.YtonlibdfakmgoaaMix
namespace Go.Proofs.Ytonlibdfakmgoaa.Tells
open Go.RowKit Go.Proofs.Ytonlibdfakmgoaa.PChanceTells Go.Proofs.YtonlibdfakmgoaaW.PrintWords Go.Proofs.YtonlibdfakmgoaaW.PrintLast Go.Proofs.YtonlibdfakmgoaaW.PrintMore
open Go.Proofs.Ytonlibdfakmgoaa.Mixing Go.Proofs.Ytonlibdfakmgoaa.OwnKept
set_option linter.unusedVariables false

theorem te_mix (a : Int) : chance_Mix.f a = some (mix a) := rfl
theorem te_rmix (a : Int) : joustref01_Mix.f a = some (mix a) := rfl
theorem te_awake8 : joustlaw02_awake.f 8 = some true := by decide +kernel

/-- one number more -/
def one (x v : Int) : Int := mix (IntKind.u64.wrap (IntKind.u64.wrap (x + IntKind.u64.wrap v) + 11400714819323198485))
theorem one_range (l : List Int) : ∀ x : Int, 0 ≤ x → x < 18446744073709551616 → 0 ≤ l.foldl one x ∧ l.foldl one x < 18446744073709551616 := by
  induction l with
  | nil => exact fun x h0 h1 => ⟨h0, h1⟩
  | cons v l ih => exact fun x _ _ => ih _ mix_range.1 mix_range.2

theorem te_at (l : List Int) (hl : l.length ≤ 101) (d : Nat) : ∀ (k : Nat) (x : Int) (i : Nat), l.length - i = d → i ≤ l.length → d < k →
    chance_At.l0 k x l (l.length : Int) (i : Int) = some ((l.drop i).foldl one x) ∧ joustref01_At.l0 k l x (i : Int) = some ((l.drop i).foldl one x) := by
  induction d with
  | zero =>
    intro k x i hd hi hk
    obtain ⟨k, rfl⟩ : ∃ m, k = m + 1 := ⟨k - 1, by omega⟩
    simp only [chance_At.l0, joustref01_At.l0]
    have hp : ¬ (i : Int) < (l.length : Int) := by omega
    simp only [if_neg hp]
    rw [List.drop_of_length_le (by omega)]
    exact ⟨rfl, rfl⟩
  | succ d ih =>
    intro k x i hd hi hk
    obtain ⟨k, rfl⟩ : ∃ m, k = m + 1 := ⟨k - 1, by omega⟩
    have hw : wrap64 ((i : Int) + 1) = ((i + 1 : Nat) : Int) := by unfold wrap64; omega
    have hlt : i < l.length := by omega
    have hrd : rd l (i : Int) = l[i] := by simp [rd, List.getD_eq_getElem?_getD, List.getElem?_eq_getElem hlt]
    simp only [chance_At.l0, joustref01_At.l0]
    have hp : (i : Int) < (l.length : Int) := by omega
    have h0 : 0 ≤ (i : Int) := by omega
    simp only [if_pos hp, if_pos h0, te_mix, te_rmix, Option.bind_some]
    rw [hw, (ih k _ (i + 1) (by omega) (by omega) (by omega)).1, (ih k _ (i + 1) (by omega) (by omega) (by omega)).2, List.drop_eq_getElem_cons hlt, hrd]
    exact ⟨rfl, rfl⟩

theorem te_at_f (k : Nat) (seed : Int) (l : List Int) (hl : l.length ≤ 101) (hk : l.length < k) : chance_At.f k seed l = some (l.foldl one (mix seed)) ∧ joustref01_At.f k seed l = some (l.foldl one (mix seed)) := by
  unfold chance_At.f joustref01_At.f
  rw [te_mix, te_rmix]
  simp only [Option.bind_some]
  have := te_at l hl l.length k (mix seed) 0 (by omega) (by omega) hk
  simpa using this

theorem te_below (k : Nat) (n seed : Int) (l : List Int) (hl : l.length ≤ 101) (hk : l.length < k) (hn : n ≤ 9223372036854775807) :
    ∃ r, chance_Below.f k n seed l = some r ∧ joustref01_Below.f k n seed l = some r := by
  unfold chance_Below.f joustref01_Below.f
  rw [(te_at_f k seed l hl hk).1, (te_at_f k seed l hl hk).2]
  simp only [Option.bind_some]
  by_cases h : n < 1
  · exact ⟨0, by rw [if_pos h], by rw [if_pos h]⟩
  · have hw : IntKind.u64.wrap n = n := by rw [IntKind.wrap_u64]; omega
    rw [hw, if_neg h, if_neg (by omega)]
    exact ⟨_, rfl, rfl⟩

theorem chain0 {w w1 w2 : World} (h : Below w.heap.size w w1) (k : Below w1.heap.size w1 w2) : Below w.heap.size w w2 := below_then h h.size k

set_option maxHeartbeats 800000 in
theorem long_walk (a0 a1 a2 : Int) (A : Option Addr) (c n : Nat) (w : World) (hn : n ≤ maxLen) (hl : 100 < n) :
    Calls Try.prog 5 #[.int .u64 a0, .int .u64 a1, .int .i64 a2, .slice A n c] w fun e w' => e = .returned (.bool true) ∧ Below w.heap.size w w' := by
  unfold maxLen at hn
  have hlt : decide ((100 : Int) < (n : Int)) = true := by simp; omega
  go_enter Try.func5, Try.ntmps5
  go_wp2_with (first | (go_at_call 7; (with_reducible refine (joustlaw02_awake.calls 8 true _ te_awake8).mono ?_); rintro e w' ⟨rfl, hb⟩))
  go_ret
  exact ⟨rfl, hb⟩

set_option maxHeartbeats 1600000 in
theorem short_walk (a0 a1 a2 : Int) (A : Option Addr) (c : Nat) (l : List Int) (w : World) (HC : Kd.C (Kd.int .i64) w A l.length l) (hc : l.length ≤ c) (hl : l.length ≤ 100) (h2 : (Lit.int .i64 a2).wf = true) :
    Calls Try.prog 5 #[.int .u64 a0, .int .u64 a1, .int .i64 a2, .slice A l.length c] w fun e w' => e = .returned (.bool true) ∧ Below w.heap.size w w' := by
  have hlt : decide ((100 : Int) < (l.length : Int)) = false := by simp; omega
  have hn2 : -9223372036854775808 ≤ a2 ∧ a2 ≤ 9223372036854775807 := by simpa [Lit.wf, IntKind.min, IntKind.max, IntKind.signed, IntKind.bits] using h2
  obtain ⟨b, C5, C6⟩ := te_below 200 a2 a0 l (by omega) (by omega) hn2.2
  have C1 := te_mix a1
  have C2 := te_rmix a1
  obtain ⟨C3, C4⟩ := te_at_f 200 a0 l (by omega) (by omega)
  generalize l.foldl one (mix a0) = r at *
  generalize mix a1 = m at *
  clear hn2 h2
  replace C1 := Aside0.mk C1
  replace C2 := Aside0.mk C2
  replace C3 := Aside0.mk C3
  replace C4 := Aside0.mk C4
  replace C5 := Aside0.mk C5
  replace C6 := Aside0.mk C6
  replace HC := Aside0.mk HC
  have hml : l.length ≤ 9223372036854775807 := by omega
  go_enter Try.func5, Try.ntmps5
  go_wp2_with (first
    | (go_at_call 11; (with_reducible refine (own_c A l.length c 71 l _ (by omega) HC.out).mono ?_); rintro e w1 ⟨rfl, hcp, hb1⟩; have HR := Aside0.mk (hcp.reads rfl hml); replace hcp := Aside0.mk hcp; replace hb1 := Aside0.mk hb1)
    | (go_at_call 7; (with_reducible refine (joustlaw02_awake.calls 8 true _ te_awake8).mono ?_); rintro e w2 ⟨rfl, hb2⟩; have HR2 := Aside0.mk (Kd.C_below HR.out hb2); have hcp2 := Aside0.mk (hcp.out.below hb2); have HC2 := Aside0.mk (Kd.C_below HC.out (chain0 hb1.out hb2)); replace hb2 := Aside0.mk hb2)
    | (go_at_call 9; (with_reducible refine (chance_Mix.calls a1 m _ C1.out).mono ?_); rintro e w' ⟨rfl, ⟨n1, rfl⟩⟩)
    | (go_at_call 12; (with_reducible refine (joustref01_Mix.calls a1 m _ C2.out).mono ?_); rintro e w' ⟨rfl, ⟨n2, rfl⟩⟩)
    | (go_at_call 8; (with_reducible refine (chance_At.calls 200 a0 _ _ l r _ (Kd.C_drewN HR2.out _) (Nat.le_add_right _ _) C3.out).mono ?_); rintro e w' ⟨rfl, ⟨n3, rfl⟩⟩)
    | (go_at_call 13; (with_reducible refine (joustref01_At.calls 200 a0 _ _ l r _ (Kd.C_drewN HC2.out _) hc C4.out).mono ?_); rintro e w' ⟨rfl, ⟨n4, rfl⟩⟩)
    | (go_at_call 14; (with_reducible refine (chance_Below.calls 200 a2 a0 _ _ l b _ (Kd.C_drewN HR2.out _) (Nat.le_add_right _ _) C5.out).mono ?_); rintro e w' ⟨rfl, ⟨n5, rfl⟩⟩)
    | (go_at_call 15; (with_reducible refine (joustref01_Below.calls 200 a2 a0 _ _ l b _ (Kd.C_drewN HC2.out _) hc C6.out).mono ?_); rintro e w' ⟨rfl, ⟨n6, rfl⟩⟩)
    | (go_at_call 16; (with_reducible refine (kept_c A _ l.length c 71 l _ (by omega) (Kd.C_drewN HC2.out _) (hcp2.out.below (pw_below_drewN (Below.refl _ _) _))).mono ?_); rintro e w' ⟨rfl, ⟨n7, rfl⟩⟩)
    | fail)
  go_ret
  exact ⟨rfl, pw_below_drewN (chain0 hb1.out hb2.out) _⟩

theorem tells_walk (a0 a1 a2 : Int) (A : Option Addr) (len cap : Nat) (zs : List Int) (w : World) (h2 : (Lit.int .i64 a2).wf = true)
    (hz : (A = none ∧ len = 0 ∧ cap = 0 ∧ zs = []) ∨ ∃ x, A = some x ∧ len ≤ cap ∧ cap ≤ maxLen ∧ zs.length = cap ∧ (∀ i, i < zs.length → w.cell? (x.add i) = some (.int .i64 (zs.getD i 0))) ∧ ∀ n ∈ zs, (Lit.int .i64 n).wf = true) :
    Calls Try.prog 5 #[.int .u64 a0, .int .u64 a1, .int .i64 a2, .slice A len cap] w fun e w' => e = .returned (.bool true) ∧ Below w.heap.size w w' := by
  obtain ⟨l, rfl, hr, hm, hw, hc⟩ := ReadsInt.ofRowC hz
  by_cases h : l.length ≤ 100
  · exact short_walk a0 a1 a2 A cap l w (Kd.C_of_reads (d := (0 : Int)) (h1 := fun _ => rfl) hr) hc h h2
  · exact long_walk a0 a1 a2 A cap l.length w hm (by omega)
end Go.Proofs.Ytonlibdfakmgoaa.Tells
