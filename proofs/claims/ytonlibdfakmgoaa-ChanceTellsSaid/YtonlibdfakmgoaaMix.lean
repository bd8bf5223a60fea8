/- The plain arithmetic of Mix: it can be gone back, so no two numbers below 2^64 have one; holds for whole numbers from 0 up, below 2^64. -/
import Derived.Laws.BitsAllLaws
namespace Go.Proofs.Ytonlibdfakmgoaa.Mixing
open Go

/-- a number and itself, thirty-three places lower, held against each other bit by bit -/
def sh (a : Int) : Int := Go.bits .xor .u64 a (a / 8589934592)
/-- a product that goes round -/
def ml (a c : Int) : Int := IntKind.u64.wrap (a * c)
def mix (a : Int) : Int := sh (ml (sh (ml (sh a) 18397679294719823053)) 14181476777654086739)

theorem sh_nat (n : Nat) (h : n < 18446744073709551616) : sh (n : Int) = ((n ^^^ (n >>> 33) : Nat) : Int) := by
  have h1 : ((n : Int) / 8589934592) = ((n / 8589934592 : Nat) : Int) := by omega
  unfold sh
  rw [h1, u64_xor_nat n (n / 8589934592) h (by omega), Nat.shiftRight_eq_div_pow]

theorem sh_lt (n : Nat) (h : n < 18446744073709551616) : n ^^^ (n >>> 33) < 18446744073709551616 := by
  have h2 : n >>> 33 < 2 ^ 64 := by rw [Nat.shiftRight_eq_div_pow]; omega
  exact Nat.xor_lt_two_pow (n := 64) (by omega) h2

theorem sh_range {a : Int} (h0 : 0 ≤ a) (h : a < 18446744073709551616) : 0 ≤ sh a ∧ sh a < 18446744073709551616 := by
  obtain ⟨n, rfl⟩ := Int.eq_ofNat_of_zero_le h0
  rw [sh_nat n (by omega)]
  have := sh_lt n (by omega)
  omega

theorem sh_sh {a : Int} (h0 : 0 ≤ a) (h : a < 18446744073709551616) : sh (sh a) = a := by
  obtain ⟨n, rfl⟩ := Int.eq_ofNat_of_zero_le h0
  have hn : n < 18446744073709551616 := by omega
  rw [sh_nat n hn, sh_nat _ (sh_lt n hn), Nat.shiftRight_xor_distrib, ← Nat.shiftRight_add]
  have hz : n >>> (33 + 33) = 0 := by rw [Nat.shiftRight_eq_div_pow]; omega
  rw [hz, Nat.xor_zero, Nat.xor_assoc, Nat.xor_self, Nat.xor_zero]

theorem ml_range (a c : Int) : 0 ≤ ml a c ∧ ml a c < 18446744073709551616 := by
  unfold ml
  rw [IntKind.wrap_u64]
  omega

theorem ml_back {a c d : Int} (hcd : (c * d) % 18446744073709551616 = 1) (h0 : 0 ≤ a) (h : a < 18446744073709551616) : ml (ml a c) d = a := by
  unfold ml
  rw [IntKind.wrap_u64, IntKind.wrap_u64, Int.mul_emod, Int.emod_emod, ← Int.mul_emod, Int.mul_assoc, Int.mul_emod, hcd, Int.mul_one, Int.emod_emod]
  omega

theorem mix_range {a : Int} : 0 ≤ mix a ∧ mix a < 18446744073709551616 := by
  unfold mix
  exact sh_range (ml_range _ _).1 (ml_range _ _).2

/-- what Mix made, gone back -/
def back (y : Int) : Int := sh (ml (sh (ml (sh y) 11291846944257947611)) 5725274745694666757)

theorem back_mix {a : Int} (h0 : 0 ≤ a) (h : a < 18446744073709551616) : back (mix a) = a := by
  unfold back mix
  rw [sh_sh (ml_range _ _).1 (ml_range _ _).2]
  have h1 := sh_range h0 h
  have h2 := ml_range (sh a) 18397679294719823053
  have h3 := sh_range h2.1 h2.2
  rw [ml_back (by decide) h3.1 h3.2, sh_sh h2.1 h2.2, ml_back (by decide) h1.1 h1.2, sh_sh h0 h]

theorem mix_inj {a b : Int} (ha0 : 0 ≤ a) (ha : a < 18446744073709551616) (hb0 : 0 ≤ b) (hb : b < 18446744073709551616) (e : mix a = mix b) : a = b := by
  rw [← back_mix ha0 ha, ← back_mix hb0 hb, e]

theorem mix_zero : mix 0 = 0 := by decide +kernel
end Go.Proofs.Ytonlibdfakmgoaa.Mixing
