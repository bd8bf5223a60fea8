/- DeleteFunc over the frames behind one; Cut. -/
import Derived.Test.YtompkbganljbkaaCut
namespace Go.Proofs.Ytompkbganljbkaa.Rin
open Go Go.RowKit Go.Proofs.Ytompkbganljbkaa.PRingPlays Go.Proofs.YtompkbganljbkaaW.PrintWords Go.Proofs.YtompkbganljbkaaW.PrintLast Go.Proofs.YtompkbganljbkaaW.PrintMore
set_option linter.unusedVariables false
set_option linter.unusedSimpArgs false
theorem R_take {α : Type} {d : Kd α} {e g n c base : Nat} {W : World} {ok : Nat → Prop} {xs : List α} (h : d.R e W base ok (.slice (some ⟨g, 0, none⟩) n c) xs) (m : Nat) (hm : m ≤ n) :
    d.R e W base ok (.slice (some ⟨g, 0, none⟩) m c) (xs.take m) := by
  obtain ⟨hn, hnc0, _⟩ := Kd.R_reads' h
  obtain ⟨hok, inner, hown, hr⟩ := h
  have hin : inner.length = n * d.sz := by rw [hr.1, hn]
  have hle : m * d.sz ≤ n * d.sz := Nat.mul_le_mul_right _ hm
  have hml : (xs.take m).length = m := by rw [List.length_take]; omega
  rcases hown.2 with ⟨hv, _⟩ | ⟨g', cap', cur, hv, hb, hh, hnc, hcm, hcs, htake⟩
  · cases hv
  injection hv with ha hn2 hc
  injection ha with ha
  injection ha with hg
  subst hg; subst hc
  refine ⟨hok, inner.take (m * d.sz), ⟨?_, .inr ⟨g, c, cur, by rw [hml], hb, hh, by rw [hml]; omega, hcm, hcs, ?_⟩⟩, ⟨?_, fun j p hp => ?_⟩⟩
  · rw [List.length_take, hin, hml]; omega
  · rw [hml, ← htake, List.take_take, ← hn, Nat.min_eq_left hle]
  · rw [List.length_take, hin, hml]; omega
  · rw [List.getElem?_take] at hp
    split at hp
    · rename_i hj
      have h5 := hr.2 j p hp
      have h6 : ((inner.take (m * d.sz)).drop (j * d.sz)).take d.sz = (inner.drop (j * d.sz)).take d.sz := by
        rw [List.drop_take, List.take_take]
        congr 1
        have h7 : (j + 1) * d.sz ≤ m * d.sz := Nat.mul_le_mul_right _ hj
        rw [Nat.succ_mul] at h7
        omega
      rw [h6]
      exact h5
    · cases hp
theorem clearN (w : World) (ty : TypeId) (b o n c : Nat) (hn : 0 < n) (hc : ∀ j, j < n * 2 → (w.cell? ⟨b, o + j, none⟩).isSome = true) (hf : ∀ j, w.frozen? ⟨b, j, none⟩ = false) :
    ∃ vs : List Value, vs.length = n * 2 ∧ (Builtin.clear_ #[48] ty #[.slice (some ⟨b, o, none⟩) n c]).run Try.prog w = .ok (.tuple #[]) (w.setCells b o vs) := by
  refine ⟨(Builtin.zeroCells (Value.agg #[.int .i64 0, .slice none 0 0]).cells n).toList, by simp [Builtin.zeroCells]; rfl, ?_⟩
  have hst := run_storeCells_cells (P := Try.prog) b o (Builtin.zeroCells (Value.agg #[.int .i64 0, .slice none 0 0]).cells n).toList 0 w (fun j hj => hc j (by simpa [Builtin.zeroCells, Value.cells] using hj)) (fun j _ => hf _) (by
    intro v hv
    simp [Builtin.zeroCells] at hv
    obtain ⟨j, hj, rfl⟩ := hv
    have h2 : j % 2 = 0 ∨ j % 2 = 1 := by omega
    rcases h2 with h2 | h2 <;> simp [Value.cells, h2] <;> rfl)
  simp only [Nat.add_zero] at hst
  obtain ⟨n', rfl⟩ : ∃ n', n = n' + 1 := ⟨n - 1, by omega⟩
  simp [Builtin.clear_, run_underlying Try.underlying48, zero29, hst]
set_option maxRecDepth 100000 in
set_option maxHeartbeats 4000000 in
/-- the frames behind f go: the first i0 stay -/
theorem delf_c (f : Int) (g n c base q : Nat) (ok : Nat → Prop) (L : List S29) (i0 : Nat) (w0 w : World) (hi : i0 < n) (hn : n ≤ 100000) (HO : Kd.R k29 29 w base ok (.slice (some ⟨g, 0, none⟩) n c) L) (HB : Below base w0 w) (hbase : base ≤ w.heap.size)
    (hq : w.heap[q]? = some (.cells #[.int .i64 f] 3 (0, 0)))
    (hlo : ∀ k : Nat, k < i0 → (rd_T29 L (k : Int)).f0 ≤ f) (hhi : ∀ k : Nat, i0 ≤ k → k < n → f < (rd_T29 L (k : Int)).f0) :
    Calls Try.prog 31 #[.slice (some ⟨g, 0, none⟩) n c, .func (.func 32) #[] #[.pointer (some ⟨q, 0, none⟩)]] w fun e w' => e = .returned (.slice (some ⟨g, 0, none⟩) i0 c) ∧ Kd.R k29 29 w' base ok (.slice (some ⟨g, 0, none⟩) i0 c) (L.take i0) ∧ Below base w0 w' ∧ w.grownBy w' (some g) := by
  obtain ⟨hl, hnc, HC⟩ := Kd.R_reads' HO
  rw [← hl] at HC
  replace hl := Aside0.mk hl
  have ki := idx_c f (some ⟨g, 0, none⟩) n c q L i0 w HC hn hq (by omega) hlo (fun h => hhi i0 (Nat.le_refl _) h)
  rw [if_pos hi] at ki
  replace ki := Aside0.mk ki
  have z1 : ((i0 : Int) == -1) = false := beq_eq_false_iff_ne.2 (by omega)
  replace HO := Aside0.mk HO
  replace HB := Aside0.mk HB
  replace HC := Aside0.mk HC
  replace hq := Aside0.mk hq
  replace hlo := Aside0.mk hlo
  replace hhi := Aside0.mk hhi
  go_enter Try.func31, Try.ntmps31
  go_wp2_with (first | (go_at_call 36; (with_reducible refine ki.out.mono ?_); rintro e w1 ⟨rfl, hb1⟩; replace hb1 := Aside0.mk hb1) | fail)
  go_loopw [5, 6] (fun i j wr => ∃ k : Nat, i0 + 1 ≤ k ∧ k ≤ n ∧ i = .int .i64 i0 ∧ j = .int .i64 k ∧ Aside0 (Below w.heap.size w wr)) (fun i j _ => n - (intOf j).toNat)
  case atStart => exact ⟨i0 + 1, Nat.le_refl _, by omega, rfl, by go_num, hb1⟩
  case round =>
    obtain ⟨k, hk0, hk, rfl, rfl, HBw⟩ := hrel
    by_cases hlt : k < n
    · obtain ⟨ad, A1, c1, e1, x0, x1, _⟩ := at_T29 (Kd.C_below HC.out HBw.out) (k : Int) (by omega) (by omega)
      rw [Int.toNat_natCast] at x0 x1
      injection e1 with e1
      subst e1
      simp only [Addr.add_lit, Nat.zero_add] at x0 x1
      have hf := hhi.out k (by omega) hlt
      generalize rd_T29 L (k : Int) = x at *
      have b0 : (0 : Int) ≤ (k : Int) := by omega
      have b1 : (k : Int) < (n : Int) := by omega
      have kc := fun W hW => clos32_c f q x.f0 (.slice A1 x.f1.length c1) W hW
      rw [decide_eq_true (show f < x.f0 by omega)] at kc
      replace kc := Aside0.mk kc
      have HBw1 := Aside0.mk (HBw.out.alloc HBw.out.size (.cells #[.int .i64 x.f0, .slice A1 x.f1.length c1] 29))
      go_wp2_with (first
          | (go_at_call 32; (with_reducible refine (kc.out _ (HBw1.out.block _ (blk_lt' hq.out) |>.trans hq.out)).mono ?_); rintro e w3 ⟨rfl, hb3⟩; replace HBw := Aside0.mk (below_then HBw1.out HBw1.out.size hb3); clear hb3)
          | fail)
      go_roundw
      case rel => exact ⟨k + 1, by omega, by omega, rfl, by go_num, HBw⟩
      case measure => simp [intOf]; omega
    · have b1 : ¬ ((k : Int) < (n : Int)) := by omega
      go_wp2_with fail
      have b2 : (0 : Int) ≤ (i0 : Int) := by omega
      have b3 : (i0 : Int) ≤ (n : Int) := by omega
      have b4 : (i0 : Int) ≤ (c : Int) := by omega
      have b5 : (n : Int) ≤ (c : Int) := by omega
      have b6 : ¬ (c = i0) := by omega
      have hcl : ∃ vs : List Value, Aside0 (vs.length = (n - i0) * 2 ∧ (Builtin.clear_ #[48] 0 #[.slice (some ⟨g, i0 * 2, none⟩) (n - i0) (c - i0)]).run Try.prog wr = .ok (.tuple #[]) (wr.setCells g (i0 * 2) vs)) := by
        have hrow := Kd.R_below HO.out HBw.out
        obtain ⟨_, inner, hown, hr⟩ := hrow
        rcases hown.2 with ⟨hv, _⟩ | ⟨g', cap', cur, hv, hb, hh, hnc, hcm2, hcs, htake⟩
        · cases hv
        · injection hv with ha hn2 hc
          injection ha with ha
          injection ha with hg
          subst hg; subst hc
          have hcell := blk_cell' hh
          have hsz : cur.size = c * 2 := hcs
          obtain ⟨vs, h1, h2⟩ := clearN wr 0 g (i0 * 2) (n - i0) (c - i0) (by omega) (fun j hj => by rw [hcell, Array.getElem?_eq_getElem (by omega)]; rfl) (fun j => by simp [World.frozen?, hh])
          exact ⟨vs, ⟨h1, h2⟩⟩
      obtain ⟨vs, hcl⟩ := hcl
      go_wp2_with (simp only [hcl.out.2])
      go_ret
      obtain ⟨k1, k2⟩ := R_spare (R_take (Kd.R_below HO.out HBw.out) i0 (by omega)) vs (i0 * 2) (Nat.le_refl _) (by rw [hcl.out.1]; show i0 * 2 + (n - i0) * 2 ≤ c * 2; omega)
      have k3 := gtrans (grown_of_below HBw.out (some g)) k2
      exact ⟨rfl, k1, HB.out.grown k3 hbase (fun k hk => by injection hk with hk; subst hk; exact Kd.R_base HO.out _ rfl), k3⟩
set_option maxRecDepth 100000 in
/-- all stay -/
theorem delf0_c (f : Int) (A : Option Addr) (n c q : Nat) (L : List S29) (w : World) (hn : n ≤ 100000) (HC : Kd.C k29 w A n L)
    (hq : w.heap[q]? = some (.cells #[.int .i64 f] 3 (0, 0)))
    (hlo : ∀ k : Nat, k < n → (rd_T29 L (k : Int)).f0 ≤ f) :
    Calls Try.prog 31 #[.slice A n c, .func (.func 32) #[] #[.pointer (some ⟨q, 0, none⟩)]] w fun e w' => e = .returned (.slice A n c) ∧ Below w.heap.size w w' := by
  have ki := idx_c f A n c q L n w HC hn hq (by omega) hlo (fun h => by omega)
  rw [if_neg (Nat.lt_irrefl _)] at ki
  replace ki := Aside0.mk ki
  clear HC hq hlo
  go_enter Try.func31, Try.ntmps31
  go_wp2_with (first | (go_at_call 36; (with_reducible refine ki.out.mono ?_); rintro e w1 ⟨rfl, hb1⟩; replace hb1 := Aside0.mk hb1) | fail)
  go_ret
  exact ⟨rfl, hb1.out⟩
end Go.Proofs.Ytompkbganljbkaa.Rin
