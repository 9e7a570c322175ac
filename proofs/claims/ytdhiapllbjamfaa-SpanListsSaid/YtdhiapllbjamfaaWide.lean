/- Numbers of 128 bits in two words: plain arithmetic. No program in sight. -/
import Derived.Test.YtdhiapllbjamfaaMath1
import Derived.Test.YtdhiapllbjamfaaMath2
import Derived.WalkKit
set_option linter.unusedVariables false
set_option linter.unusedSimpArgs false
namespace Ul
open Go Go.RowKit

/-- The number of two words; the words of a number. -/
def val (h l : Int) : Int := h * 18446744073709551616 + l
def hiW (v : Int) : Int := v / 18446744073709551616
def loW (v : Int) : Int := v % 18446744073709551616
/-- A number that two words hold. -/
def P127 (v : Int) : Prop := -170141183460469231731687303715884105728 ≤ v ∧ v < 170141183460469231731687303715884105728

theorem val_W (v : Int) : val (hiW v) (loW v) = v := by unfold val hiW loW; omega
theorem lo_bd (v : Int) : 0 ≤ loW v ∧ loW v ≤ 18446744073709551615 := by unfold loW; omega
theorem hi_bd (v : Int) (h : P127 v) : -9223372036854775808 ≤ hiW v ∧ hiW v ≤ 9223372036854775807 := by
  obtain ⟨h1, h2⟩ := h; unfold hiW; omega
theorem W_hi (h l : Int) (h0 : 0 ≤ l) (h1 : l ≤ 18446744073709551615) : hiW (val h l) = h := by unfold val hiW; omega
theorem W_lo (h l : Int) (h0 : 0 ≤ l) (h1 : l ≤ 18446744073709551615) : loW (val h l) = l := by unfold val loW; omega
theorem hiW_0 : hiW 0 = 0 := rfl
theorem loW_0 : loW 0 = 0 := rfl
theorem hiW_1 : hiW 1 = 0 := rfl
theorem loW_1 : loW 1 = 1 := rfl
theorem hiW_small (v : Int) (h0 : 0 ≤ v) (h1 : v ≤ 18446744073709551615) : hiW v = 0 ∧ loW v = v := by unfold hiW loW; omega
theorem hiW_neg (v : Int) (h0 : -18446744073709551616 ≤ v) (h1 : v < 0) : hiW v = -1 ∧ loW v = v + 18446744073709551616 := by unfold hiW loW; omega

/-- W{H, L}: a number as a value. -/
abbrev VW (v : Int) : Value := .agg #[.int .i64 (hiW v), .int .u64 (loW v)]

theorem wrap64_eq (x : Int) : wrap64 x = (x + 9223372036854775808) % 18446744073709551616 - 9223372036854775808 := by
  unfold wrap64; rfl
theorem i64_eq (x : Int) : IntKind.i64.wrap x = (x + 9223372036854775808) % 18446744073709551616 - 9223372036854775808 := IntKind.wrap_i64 x
theorem u64_eq (x : Int) : IntKind.u64.wrap x = x % 18446744073709551616 := by
  simp [IntKind.wrap, IntKind.bits, IntKind.signed]
theorem ofInt_toNat (x : Int) : ((BitVec.ofInt 64 x).toNat : Int) = x % 18446744073709551616 := by
  rw [BitVec.toNat_ofInt]; simp; omega
theorem i64_not (x : Int) (h0 : -9223372036854775808 ≤ x) (h1 : x ≤ 9223372036854775807) : bits .xor .i64 (-1) x = -x - 1 := by
  show IntKind.i64.wrap ((BitVec.ofInt 64 (-1) ^^^ BitVec.ofInt 64 x).toNat : Int) = _
  have e : BitVec.ofInt 64 (-1) = BitVec.allOnes 64 := by decide
  rw [e, BitVec.allOnes_xor, BitVec.toNat_not, IntKind.wrap_i64]
  have := ofInt_toNat x
  have h2 := (BitVec.ofInt 64 x).isLt
  omega
theorem u64_not (x : Int) (h0 : 0 ≤ x) (h1 : x ≤ 18446744073709551615) : bits .xor .u64 IntKind.u64.max x = 18446744073709551615 - x := by
  have e : IntKind.u64.max = 18446744073709551615 := by decide
  rw [e]
  show IntKind.u64.wrap ((BitVec.ofInt 64 18446744073709551615 ^^^ BitVec.ofInt 64 x).toNat : Int) = _
  have e : BitVec.ofInt 64 18446744073709551615 = BitVec.allOnes 64 := by decide
  rw [e, BitVec.allOnes_xor, BitVec.toNat_not, IntKind.wrap_u64]
  have := ofInt_toNat x
  have h2 := (BitVec.ofInt 64 x).isLt
  omega
theorem tdiv_facts (x k : Int) (hk : 0 < k) : x = k * x.tdiv k + x.tmod k ∧ (0 ≤ x → 0 ≤ x.tmod k ∧ x.tmod k < k) ∧ (x < 0 → -k < x.tmod k ∧ x.tmod k ≤ 0) := by
  refine ⟨by have := Int.mul_tdiv_add_tmod x k; omega, fun h => ?_, fun h => ?_⟩
  · exact ⟨Int.tmod_nonneg _ h, Int.tmod_lt_of_pos _ hk⟩
  · have e : x = -(-x) := by omega
    rw [e, Int.neg_tmod]
    have h1 := Int.tmod_nonneg k (show 0 ≤ -x by omega)
    have h2 := Int.tmod_lt_of_pos (-x) hk
    omega
theorem and1_u64 (x : Int) (h0 : 0 ≤ x) (h1 : x ≤ 18446744073709551615) : bits .and .u64 x 1 = x % 2 := by
  rw [u64_and x 1 h0 (by omega) (by omega) (by omega)]
  show (((x.toNat &&& 1 : Nat)) : Int) = _
  rw [nat_mask1]; omega
theorem and1_i64 (x : Int) (h0 : 0 ≤ x) (h1 : x ≤ 9223372036854775807) : bits .and .i64 x 1 = x % 2 := by
  show IntKind.i64.wrap ((BitVec.ofInt 64 x &&& BitVec.ofInt 64 1).toNat : Int) = _
  have e1 := ofInt_toNat x
  rw [BitVec.toNat_and, IntKind.wrap_i64, show (BitVec.ofInt 64 1).toNat = 1 by decide, nat_mask1]
  omega
theorem shr_bd (x : Int) (k : Nat) (M : Int) (h0 : 0 ≤ x) (h1 : x ≤ M) : 0 ≤ x / 2 ^ k ∧ x / 2 ^ k ≤ M :=
  ⟨Int.ediv_nonneg h0 (Int.le_of_lt (pow2_pos k)), Int.le_trans (Int.ediv_le_self _ h0) h1⟩

/-- An int64 without its sign. -/
def absI (n : Int) : Int := if n < 0 then -n else n
theorem absI_bd (n : Int) (h : -9223372036854775808 ≤ n) (h' : n ≤ 9223372036854775807) : 0 ≤ absI n ∧ absI n ≤ 9223372036854775808 := by unfold absI; split <;> omega
theorem absI_mul (a b : Int) : absI a * absI b = if (decide (a < 0)) == (decide (b < 0)) then a * b else -(a * b) := by
  unfold absI
  by_cases ha : a < 0 <;> by_cases hb : b < 0 <;> simp [ha, hb, Int.neg_mul, Int.mul_neg]
end Ul
