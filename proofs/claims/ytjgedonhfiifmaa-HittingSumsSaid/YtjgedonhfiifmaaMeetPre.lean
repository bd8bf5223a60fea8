/- What meet's walk lays ahead of it: make([]bool, n), an owned row as a Row. -/
import Derived.Test.YtjgedonhfiifmaaRow
import Derived.Laws.MakeOwn
namespace Go.Proofs.Ytjgedonhfiifmaa.Hit
open Go.RowKit Go.Proofs.Ytjgedonhfiifmaa.PHittingOnly Go.Proofs.YtjgedonhfiifmaaW.PrintWords Go.Proofs.YtjgedonhfiifmaaW.PrintLast Go.Proofs.YtjgedonhfiifmaaW.PrintMore
set_option linter.unusedVariables false

theorem info4 : (Try.prog.info? 4).map (fun i => (i.zero, i.size, i.bytes)) = some (some (.bool false), 1, 1) := by kernel_rfl
theorem mk_bools (n : Nat) (hn : n ≤ 100000) : ∀ w : World, (Instr.makeSlice 46 (.int .i64 (n : Int)) (.int .i64 (n : Int))).run Try.prog w = .ok (.slice (some ⟨w.heap.size, 0, none⟩) n n) (w.alloc (.cells (Array.replicate n (Value.bool false)) 4)) := by
  intro w
  obtain ⟨i0, hi, hzz⟩ := Option.map_eq_some_iff.1 info4
  simp only [Prod.mk.injEq] at hzz
  obtain ⟨hz0, hz1, hz2⟩ := hzz
  have hr := run_make (P := Try.prog) w 46 4 i0 (.bool false) Try.underlying46 hi hz0 .i64 .i64 (n : Int) (n : Int) (by omega) (by omega) (by rw [hz2]; omega) (by omega)
  simp only [Int.toNat_natCast] at hr
  rw [hr, hz1]
  congr 3
  unfold madeCells
  rw [Nat.mul_one]
  apply Array.ext
  · simp
  · intro i h1 h2
    simp [Nat.mod_one, Value.cells]

theorem Bls.made (w : World) (n : Nat) : Bls (w.alloc (.cells (Array.replicate n (Value.bool false)) 4)) w.heap.size (List.replicate n false) := by
  unfold Bls
  rw [heap_alloc_new]
  simp

theorem R_row {w : World} {base : Nat} {ok : Nat → Prop} {A : Option Addr} {n c : Nat} {l : List S25} (h : Kd.R k25 25 w base ok (.slice A n c) l) (h0 : 0 < l.length) : ∃ g, A = some ⟨g, 0, none⟩ ∧ n = l.length ∧ base ≤ g ∧ Row w g c l := by
  have hh := h
  obtain ⟨_, inner, hown, hr⟩ := h
  rcases hown.2 with ⟨h1, hx⟩ | ⟨g', cap', cur, hv, hbg, hg, hnc, hcm, hcs, htake⟩
  · injection h1 with _ h2 _
    omega
  · cases hv
    exact ⟨g', rfl, rfl, hbg, Row.of_R hh⟩
end Go.Proofs.Ytjgedonhfiifmaa.Hit
