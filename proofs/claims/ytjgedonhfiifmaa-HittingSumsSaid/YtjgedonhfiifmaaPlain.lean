/- The plain arithmetic of held numbers: a number is held within 2^31 - 1 both ways; products, quotients and sums of held numbers do not go round; for all whole numbers. -/
import Derived.RowKit
import Derived.WalkKit
namespace Go.Proofs.Ytjgedonhfiifmaa.Plain
open Go Go.RowKit

/-- held within the bounds -/
def held (v : Int) : Int := if v < -2147483647 then -2147483647 else if 2147483647 < v then 2147483647 else v

theorem held_range (v : Int) : -2147483647 ≤ held v ∧ held v ≤ 2147483647 := by unfold held; omega
theorem held_in {v : Int} (h0 : -2147483647 ≤ v) (h1 : v ≤ 2147483647) : held v = v := by unfold held; omega
theorem held_ne {v : Int} (h : v ≠ 0) : held v ≠ 0 := by unfold held; omega

theorem mul_range {x y : Int} {m : Nat} (hx0 : -(m : Int) ≤ x) (hx1 : x ≤ m) (hy0 : -(m : Int) ≤ y) (hy1 : y ≤ m) : -((m * m : Nat) : Int) ≤ x * y ∧ x * y ≤ ((m * m : Nat) : Int) := by
  have h1 : x.natAbs ≤ m := by omega
  have h2 : y.natAbs ≤ m := by omega
  have h3 : (x * y).natAbs ≤ m * m := by rw [Int.natAbs_mul]; exact Nat.mul_le_mul h1 h2
  omega

theorem tdiv_range (x y : Int) (b : Nat) (h0 : -(b : Int) ≤ x) (h1 : x ≤ b) : -(b : Int) ≤ x.tdiv y ∧ x.tdiv y ≤ b := by
  have h2 : x.natAbs ≤ b := by omega
  have h3 : (x.tdiv y).natAbs ≤ b := by
    rw [Int.natAbs_tdiv]
    exact Nat.le_trans (Nat.div_le_self _ _) h2
  omega

theorem prod_in (a b : Int) : wrap64 (held a * held b) = held a * held b := by
  have ha := held_range a
  have hb := held_range b
  have h := mul_range (m := 2147483647) (by omega) (by omega : held a ≤ _) (by omega) (by omega : held b ≤ _)
  unfold wrap64
  omega

theorem quot_in (a b d : Int) : wrap64 ((held a * held b).tdiv d) = (held a * held b).tdiv d := by
  have ha := held_range a
  have hb := held_range b
  have h := mul_range (m := 2147483647) (by omega) (by omega : held a ≤ _) (by omega) (by omega : held b ≤ _)
  have h2 := tdiv_range (held a * held b) d (2147483647 * 2147483647) (by omega) (by omega)
  unfold wrap64
  omega

theorem diff_in (a b : Int) : wrap64 (held a - held b) = held a - held b := by
  have ha := held_range a
  have hb := held_range b
  unfold wrap64
  omega
theorem sum_in (a b : Int) : wrap64 (held a + held b) = held a + held b := by
  have ha := held_range a
  have hb := held_range b
  unfold wrap64
  omega

/-- a sum held at each step -/
def add (x v : Int) : Int := held (x + held v)
/-- a difference, held -/
def sub (a b : Int) : Int := held (held a - held b)
/-- without its sign -/
def size (v : Int) : Int := max v (-v)
/-- how far two places are apart -/
def far (ax ay bx by_ : Int) : Int := max (size (sub ax bx)) (size (sub ay by_))
/-- a ptof of a number, for a divisor other than 0 -/
def ptof (a b d : Int) : Int := held ((held a * held b).tdiv (held d))

theorem sub_range (a b : Int) : -2147483647 ≤ sub a b ∧ sub a b ≤ 2147483647 := held_range _
theorem add_range (a b : Int) : -2147483647 ≤ add a b ∧ add a b ≤ 2147483647 := held_range _
end Go.Proofs.Ytjgedonhfiifmaa.Plain
