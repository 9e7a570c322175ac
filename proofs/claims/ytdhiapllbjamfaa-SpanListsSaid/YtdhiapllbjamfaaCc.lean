/- Contracts: the reference's product, division, quotients. -/
import Derived.Test.YtdhiapllbjamfaaCb
set_option linter.unusedVariables false
set_option linter.unusedSimpArgs false
namespace Go.Proofs.Ytdhiapllbjamfaa
open Go Go.RowKit Ul Vc
attribute [local irreducible] Go.Calls

set_option maxHeartbeats 1000000 in
theorem times_raw (a b : Int) (w : World) (ha : -9223372036854775808 ≤ a) (ha' : a ≤ 9223372036854775807) (hb : -9223372036854775808 ≤ b) (hb' : b ≤ 9223372036854775807) :
    Calls Try.prog 90 #[.int .i64 a, .int .i64 b] w (Vc.Ret (VW (a * b)) w) := by
  have xa := absI_bd a ha ha'
  have xb := absI_bd b hb hb'
  have p0 := mul_le_of (absI a % 4294967296) (absI b % 4294967296) 4294967295 4294967295 (by omega) (by omega) (by omega) (by omega)
  have p1 := mul_le_of (absI a / 4294967296) (absI b % 4294967296) 2147483648 4294967295 (by omega) (by omega) (by omega) (by omega)
  have p2 := mul_le_of (absI a % 4294967296) (absI b / 4294967296) 4294967295 2147483648 (by omega) (by omega) (by omega) (by omega)
  have p3 := mul_le_of (absI a / 4294967296) (absI b / 4294967296) 2147483648 2147483648 (by omega) (by omega) (by omega) (by omega)
  have E1 := halves (absI a) (absI b)
  have E2 := absI_mul a b
  have ta := Int.tmod_eq_emod_of_nonneg (b := 4294967296) xa.1
  have tb := Int.tmod_eq_emod_of_nonneg (b := 4294967296) xb.1
  have da := Int.tdiv_eq_ediv_of_nonneg (b := 4294967296) xa.1
  have db := Int.tdiv_eq_ediv_of_nonneg (b := 4294967296) xb.1
  have wa : IntKind.u64.wrap (absI a / 4294967296) = absI a / 4294967296 := by rw [Ul.u64_eq]; omega
  have wb : IntKind.u64.wrap (absI b / 4294967296) = absI b / 4294967296 := by rw [Ul.u64_eq]; omega
  refine vc_ullageref01_Times a b w _ ?_
  (repeat apply Exists.intro); refine And.intro (fun _ _ => rsize_any _ _ ha ha') ?_
  (repeat apply Exists.intro); refine And.intro (fun _ _ => rsize_any _ _ hb hb') ?_
  rw [ta, tb, da, db, wa, wb]
  rintro x4 rfl x5 rfl x6 h6 x7 rfl x8 rfl x9 h9 x10 rfl x11 rfl x12 h12 x13 h13 x14 h14 x15 h15 x16 h16 x17 h17
  generalize absI a % 4294967296 * (absI b % 4294967296) = p00 at *
  generalize absI a / 4294967296 * (absI b % 4294967296) = p10 at *
  generalize absI a % 4294967296 * (absI b / 4294967296) = p01 at *
  have q : 0 ≤ x13 := by rw [Ul.u64_eq] at h13; omega
  rw [Int.tdiv_eq_ediv_of_nonneg q] at h14
  rw [Int.tmod_eq_emod_of_nonneg q] at h16
  simp only [Ul.i64_eq, Ul.u64_eq] at h6 h9 h12 h13 h14 h15 h16 h17
  (repeat apply Exists.intro); refine And.intro (fun _ _ => plus_raw _ _ _ _ _ (by omega) (by omega) (by omega) (by omega)) ?_
  rintro x20 rfl x21 rfl x22 h22 x23 h23 x24 h24
  generalize absI a / 4294967296 * (absI b / 4294967296) = p11 at *
  simp only [Ul.i64_eq, Ul.u64_eq] at h22 h23 h24
  rw [E1] at E2
  clear E1 xa xb ta tb da db wa wb
  refine iteI (fun h => ?_) (fun h => ?_)
  · have e : (decide (a < 0) == decide (b < 0)) = true := by simp only [beq_iff_eq, decide_eq_decide]; exact h
    rw [e] at E2; clear e h
    generalize a * b = ab at *
    simp only [if_true] at E2
    refine agg2 ?_ ?_ <;> (try unfold hiW) <;> (try unfold loW) <;> omega
  · have e : (decide (a < 0) == decide (b < 0)) = false := by simp only [beq_eq_false_iff_ne, ne_eq, decide_eq_decide]; exact h
    rw [e] at E2; clear e h
    generalize a * b = ab at *
    simp only [Bool.false_eq_true, if_false] at E2
    (repeat apply Exists.intro); refine And.intro (fun _ _ => minus_raw _ _ _ (by omega) (by omega) (by omega) (by omega)) ?_
    refine VW_eq ?_
    unfold val; omega

theorem bit_W (a : Int) (k : Nat) (w : World) (hk : k < 128) (h0 : 0 ≤ a) (h1 : a < 170141183460469231731687303715884105728) :
    Calls Try.prog 141 #[VW a, .int .i64 (k : Int)] w (Vc.Ret (.bool (decide (a / 2 ^ k % 2 = 1))) w) := by
  have hl := lo_bd a
  have hh : 0 ≤ hiW a ∧ hiW a ≤ 9223372036854775807 := by unfold hiW; omega
  have ea : a = hiW a * 18446744073709551616 + loW a := (val_W a).symm
  refine vc_ullageref01_bit _ _ _ w _ ?_
  refine iteI (fun h => ?_) (fun h => ?_)
  · obtain ⟨j, rfl⟩ : ∃ j, k = j + 64 := ⟨k - 64, by omega⟩
    have hb := shr_bd (hiW a) j _ hh.1 hh.2
    rintro _ rfl
    have e : IntKind.i64.wrap (((j + 64 : Nat) : Int) - 64) = (j : Int) := by rw [Ul.i64_eq]; omega
    rw [e]
    refine ⟨by omega, ?_⟩
    rintro _ rfl _ rfl
    rw [show Nat.min (Int.toNat (j : Int)) 64 = j from Nat.min_eq_left (by omega), Int.fdiv_eq_ediv_of_nonneg _ (Int.le_of_lt (pow2_pos j)), and1_i64 _ hb.1 hb.2]
    refine bool1 ?_
    have := bit_high (hiW a) (loW a) j hl.1 (by omega)
    rw [← ea] at this
    rw [this]; rfl
  · have hb := shr_bd (loW a) k _ hl.1 hl.2
    refine ⟨by omega, ?_⟩
    rintro _ rfl _ rfl
    rw [show Nat.min (Int.toNat (k : Int)) 64 = k from Nat.min_eq_left (by omega), Int.fdiv_eq_ediv_of_nonneg _ (Int.le_of_lt (pow2_pos k)), and1_u64 _ hb.1 hb.2]
    refine bool1 ?_
    have := bit_low (hiW a) (loW a) k (by omega)
    rw [← ea] at this
    rw [this]; rfl
end Go.Proofs.Ytdhiapllbjamfaa
