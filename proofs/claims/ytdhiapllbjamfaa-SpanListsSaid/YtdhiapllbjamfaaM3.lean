/- Plain laws of long division; numbers with a sign and two words. No program in sight. -/
import Derived.Test.YtdhiapllbjamfaaWide
import Derived.Test.YtdhiapllbjamfaaPlain
set_option linter.unusedVariables false
set_option linter.unusedSimpArgs false
namespace Ul
open Go Go.RowKit
theorem bit01 (a : Int) (k : Nat) : a / 2 ^ k % 2 = 0 ∨ a / 2 ^ k % 2 = 1 := by omega
theorem lt_pow_of_bit (a : Int) (k : Nat) (h0 : 0 ≤ a) (h : a < 2 ^ (k + 1)) (hb : ¬ a / 2 ^ k % 2 = 1) : a < 2 ^ k := by
  have hp := pow2_pos k
  rw [pow2_succ] at h
  have h1 : a / 2 ^ k < 2 := by rw [Int.ediv_lt_iff_lt_mul hp]; omega
  have h2 : 0 ≤ a / 2 ^ k := Int.ediv_nonneg h0 (by omega)
  have h3 : a / 2 ^ k = 0 := by omega
  have := Int.emod_lt_of_pos a hp
  have h4 := Int.mul_ediv_add_emod a (2 ^ k)
  rw [h3] at h4; omega
theorem quo_le (a y : Int) (j : Nat) (h0 : 0 ≤ a) (hy : 0 < y) : 0 ≤ a / 2 ^ j / y ∧ a / 2 ^ j / y ≤ a / 2 ^ j ∧ 0 ≤ a / 2 ^ j ∧ a / 2 ^ j ≤ a ∧ 0 ≤ a / 2 ^ j % y ∧ a / 2 ^ j % y < y := by
  have h1 := shr_bd a j a h0 (Int.le_refl _)
  exact ⟨Int.ediv_nonneg h1.1 (by omega), Int.ediv_le_self _ h1.1, h1.1, h1.2, Int.emod_nonneg _ (by omega), Int.emod_lt_of_pos _ hy⟩

/-- Bounds and values of a quotient of a negative number. -/
theorem quo_neg (a y : Int) (h0 : -170141183460469231731687303715884105728 < a) (hn : a < 0) (y0 : 0 < y) :
    0 ≤ -a / y ∧ -a / y ≤ -a ∧ (¬ -a % y = 0 → -a / y + 1 ≤ -a) := by
  refine ⟨Int.ediv_nonneg (by omega) (by omega), Int.ediv_le_self _ (by omega), fun hr => ?_⟩
  have h1 : -a / y * y ≤ -a := Int.ediv_mul_le _ (by omega)
  have h3 := Int.mul_ediv_add_emod (-a) y
  have h4 := Int.emod_nonneg (-a) (show y ≠ 0 by omega)
  have h2 : 0 ≤ -a / y := Int.ediv_nonneg (by omega) (by omega)
  have h5 : -a / y * 1 ≤ -a / y * y := Int.mul_le_mul_of_nonneg_left (by omega) h2
  rw [Int.mul_comm] at h3
  omega
theorem quo_neg_val (a y : Int) (y0 : 0 < y) : ce a y = -(-a / y) ∧ fl a y = if -a % y = 0 then -(-a / y) else -(-a / y + 1) := by
  refine ⟨rfl, ?_⟩
  unfold fl
  have h3 := Int.mul_ediv_add_emod (-a) y
  have h4 := Int.emod_nonneg (-a) (show y ≠ 0 by omega)
  have h5 := Int.emod_lt_of_pos (-a) y0
  split
  · rename_i h
    have e : a = y * (-(-a / y)) := by rw [Int.mul_neg]; omega
    calc a / y = (y * (-(-a / y))) / y := by rw [← e]
      _ = _ := Int.mul_ediv_cancel_left _ (by omega)
  · rename_i h
    have e : a = (y - -a % y) + y * (-(-a / y + 1)) := by rw [Int.mul_neg, Int.mul_add]; omega
    calc a / y = ((y - -a % y) + y * (-(-a / y + 1))) / y := by rw [← e]
      _ = _ := by rw [Int.add_mul_ediv_left _ _ (by omega), Int.ediv_eq_zero_of_lt (by omega) (by omega)]; omega
theorem quo_pos_val (a y : Int) (h0 : 0 ≤ a) (y0 : 0 < y) : fl a y = a / y ∧ ce a y = if a % y = 0 then a / y else a / y + 1 := by
  refine ⟨rfl, ?_⟩
  unfold ce
  have h3 := Int.mul_ediv_add_emod a y
  have h4 := Int.emod_nonneg a (show y ≠ 0 by omega)
  have h5 := Int.emod_lt_of_pos a y0
  split
  · rename_i h
    have e : -a = y * (-(a / y)) := by rw [Int.mul_neg]; omega
    rw [e, Int.mul_ediv_cancel_left _ (by omega)]; omega
  · rename_i h
    have e : -a = (y - a % y) + y * (-(a / y + 1)) := by rw [Int.mul_neg, Int.mul_add]; omega
    rw [e, Int.add_mul_ediv_left _ _ (by omega), Int.ediv_eq_zero_of_lt (by omega) (by omega)]; omega
theorem quo_pos (a y : Int) (h0 : 0 ≤ a) (y0 : 0 < y) : 0 ≤ a / y ∧ a / y ≤ a ∧ (¬ a % y = 0 → a / y + 1 ≤ a + 1) := by
  refine ⟨Int.ediv_nonneg h0 (by omega), Int.ediv_le_self _ h0, fun hr => ?_⟩
  have := Int.ediv_le_self y h0
  omega

/-- A sign and a size. -/
def sv (n : Bool) (m : Int) : Int := if n then -m else m
abbrev VB (n : Bool) (m : Int) : Value := .agg #[.bool n, .int .u64 (hiW m), .int .u64 (loW m)]
/-- What two words hold. -/
def P128 (m : Int) : Prop := 0 ≤ m ∧ m < 340282366920938463463374607431768211456
theorem hi_u (m : Int) (h : P128 m) : 0 ≤ hiW m ∧ hiW m ≤ 18446744073709551615 := by obtain ⟨h1, h2⟩ := h; unfold hiW; omega
theorem sv_abs (n : Int) : sv (decide (n < 0)) (absI n) = n := by unfold sv absI; by_cases h : n < 0 <;> simp [h]
theorem sv_mul (a b : Int) : sv (decide (a < 0) != decide (b < 0)) (absI a * absI b) = a * b := by
  rw [absI_mul]; unfold sv
  by_cases ha : a < 0 <;> by_cases hb : b < 0 <;> simp [ha, hb]
theorem agg3 {b : Bool} {k l : IntKind} {x x' y y' : Int} (h : x = x') (h' : y = y') : Value.agg #[.bool b, .int k x, .int l y] = .agg #[.bool b, .int k x', .int l y'] := by rw [h, h']
theorem agg2 {k l : IntKind} {a a' b b' : Int} (h : a = a') (h' : b = b') : Value.agg #[.int k a, .int l b] = .agg #[.int k a', .int l b'] := by rw [h, h']
theorem VW_eq {u v : Int} (h : u = v) : VW u = VW v := by rw [h]
end Ul
