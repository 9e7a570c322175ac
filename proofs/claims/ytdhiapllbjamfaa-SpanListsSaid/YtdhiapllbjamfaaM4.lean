/- Plain laws of Knuth's division of two words by one. No program in sight. -/
import Derived.Test.YtdhiapllbjamfaaM3
import Derived.Lib.BitFns
import Derived.Lib.ItoaNum
set_option linter.unusedVariables false
set_option linter.unusedSimpArgs false
namespace Ul
open Go Go.RowKit

/-- The shift that brings a divisor to the top. -/
theorem top_shift (y : Int) (h0 : 0 < y) (h1 : y ≤ 18446744073709551615) :
    ∃ s : Nat, s ≤ 63 ∧ 64 - (Lib.bitLen y.toNat : Int) = (s : Int) ∧ 9223372036854775808 ≤ y * 2 ^ s ∧ y * 2 ^ s < 18446744073709551616 := by
  obtain ⟨b1, b2, b3⟩ := Lib.bitLenAux_bounds 64 y.toNat (by omega) (by omega)
  have b4 : Lib.bitLen y.toNat ≤ 64 := Lib.bitLen_le _ 64 (by omega) (by omega)
  have e : Lib.bitLenAux 64 y.toNat = Lib.bitLen y.toNat := rfl
  rw [e] at b1 b2 b3
  generalize Lib.bitLen y.toNat = L at *
  refine ⟨64 - L, by omega, by omega, ?_, ?_⟩
  · have h := Nat.mul_le_mul_right (2 ^ (64 - L)) b2
    rw [← Nat.pow_add, show L - 1 + (64 - L) = 63 by omega] at h
    have : ((y.toNat * 2 ^ (64 - L) : Nat) : Int) = y * 2 ^ (64 - L) := by rw [Int.natCast_mul, Int.natCast_pow, Int.toNat_of_nonneg (by omega)]; rfl
    omega
  · have h := Nat.mul_lt_mul_of_pos_right b3 (Nat.two_pow_pos (64 - L))
    rw [← Nat.pow_add, show L + (64 - L) = 64 by omega] at h
    have : ((y.toNat * 2 ^ (64 - L) : Nat) : Int) = y * 2 ^ (64 - L) := by rw [Int.natCast_mul, Int.natCast_pow, Int.toNat_of_nonneg (by omega)]; rfl
    omega
/-- The words of a number, shifted. -/
theorem shift_words (h l : Int) (s : Nat) (hs : s ≤ 63) (h0 : 0 ≤ h) (hk : h * 2 ^ s < 18446744073709551616) (l0 : 0 ≤ l) (l1 : l ≤ 18446744073709551615) :
    0 ≤ h * 2 ^ s ∧ 0 ≤ l / 2 ^ (64 - s) ∧ l / 2 ^ (64 - s) < 2 ^ s ∧
      (h * 18446744073709551616 + l) * 2 ^ s = (h * 2 ^ s + l / 2 ^ (64 - s)) * 18446744073709551616 + (l * 2 ^ s) % 18446744073709551616 ∧ h * 2 ^ s + l / 2 ^ (64 - s) < 18446744073709551616 + 2 ^ s := by
  have p1 := pow2_pos s
  have p2 := pow2_pos (64 - s)
  have e : (2 : Int) ^ s * 2 ^ (64 - s) = 18446744073709551616 := by rw [← Int.pow_add, show s + (64 - s) = 64 by omega]; decide
  have q0 : 0 ≤ l / 2 ^ (64 - s) := Int.ediv_nonneg l0 (by omega)
  have q1 : l / 2 ^ (64 - s) < 2 ^ s := by rw [Int.ediv_lt_iff_lt_mul p2]; omega
  refine ⟨Int.mul_nonneg h0 (by omega), q0, q1, ?_, by omega⟩
  have d : l * 2 ^ s / 18446744073709551616 = l / 2 ^ (64 - s) := by
    rw [← e, Int.mul_comm (2 ^ s)]
    exact Int.mul_ediv_mul_of_pos_left _ _ p1
  have m := Int.mul_ediv_add_emod (l * 2 ^ s) 18446744073709551616
  rw [d] at m
  rw [Int.add_mul, Int.add_mul]
  have c : h * 18446744073709551616 * 2 ^ s = h * 2 ^ s * 18446744073709551616 := by grind
  omega
/-- The digits make the quotient and the rest. -/
theorem div64_fin (h l y u d1 d0 q1 q0 : Int) (s : Nat) (hy : 0 < y) (hs : (h * 18446744073709551616 + l) * 2 ^ s = u * 18446744073709551616 + (d1 * 4294967296 + d0))
    (hq1 : q1 = (u * 4294967296 + d1) / (y * 2 ^ s)) (hq0 : q0 = ((u * 4294967296 + d1) % (y * 2 ^ s) * 4294967296 + d0) / (y * 2 ^ s)) :
    q1 * 4294967296 + q0 = (h * 18446744073709551616 + l) / y ∧ ((u * 4294967296 + d1) % (y * 2 ^ s) * 4294967296 + d0) % (y * 2 ^ s) / 2 ^ s = (h * 18446744073709551616 + l) % y := by
  have p1 := pow2_pos s
  have hp : 0 < y * 2 ^ s := Int.mul_pos hy p1
  have t := two_digits u d1 d0 (y * 2 ^ s) hp
  have sc := scaled (h * 18446744073709551616 + l) y (2 ^ s) p1 hy
  have e : (u * 4294967296 + d1) * 4294967296 + d0 = (h * 18446744073709551616 + l) * 2 ^ s := by rw [hs]; omega
  rw [e, sc.1] at t
  refine ⟨by rw [hq1, hq0]; exact t.1.symm, ?_⟩
  rw [← t.2]; exact sc.2
/-- Bits that do not meet: or is the sum. -/
theorem or_add (a b : Int) (s : Nat) (hs : s ≤ 63) (x : Int) (ha : a = x * 2 ^ s) (hx : 0 ≤ x) (hb : 0 ≤ b) (hb1 : b < 2 ^ s) (hab : a + b < 18446744073709551616) : bits .or .u64 a b = a + b := by
  obtain ⟨n, rfl⟩ := Int.eq_ofNat_of_zero_le hx
  obtain ⟨m, rfl⟩ := Int.eq_ofNat_of_zero_le hb
  have e : a = ((n * 2 ^ s : Nat) : Int) := by rw [ha, Int.natCast_mul, Int.natCast_pow]; rfl
  have hm : m < 2 ^ s := by
    have : ((2 ^ s : Nat) : Int) = 2 ^ s := by rw [Int.natCast_pow]; rfl
    omega
  have o : n * 2 ^ s ||| m = n * 2 ^ s + m := by
    have := Nat.two_pow_add_eq_or_of_lt hm n
    rw [Nat.mul_comm]; exact this.symm
  have t1 : (BitVec.ofInt 64 a).toNat = n * 2 ^ s := by
    have := ofInt_toNat a
    omega
  have t2 : (BitVec.ofInt 64 (m : Int)).toNat = m := by
    have := ofInt_toNat (m : Int)
    omega
  show IntKind.u64.wrap ((BitVec.ofInt 64 a ||| BitVec.ofInt 64 (m : Int)).toNat : Int) = _
  rw [BitVec.toNat_or, t1, t2, o, u64_eq]
  omega
end Ul
