/- Contracts: the program's division by two words. -/
import Derived.Test.YtdhiapllbjamfaaCi
set_option linter.unusedVariables false
set_option linter.unusedSimpArgs false
namespace Go.Proofs.Ytdhiapllbjamfaa
open Go Go.RowKit Ul Vc
attribute [local irreducible] Go.Calls

theorem up1_raw (n : Bool) (h l : Int) (w : World) (h0 : 0 ≤ h) (h1 : h < 9223372036854775808) (l0 : 0 ≤ l) (l1 : l ≤ 18446744073709551615) :
    Calls Try.prog 93 #[.agg #[.bool n, .int .u64 h, .int .u64 l], .int .u64 1] w (Vc.Ret (.agg #[.bool n, .int .u64 (h * 2 + l / 9223372036854775808), .int .u64 (l * 2 % 18446744073709551616)]) w) := by
  refine vc__span_big__up_1 _ _ _ w _ ?_
  rintro x2 h2 x3 h3 x4 h4 x5 h5
  have e2 : x2 = h * 2 ^ 1 := by rw [h2, Ul.u64_eq]; omega
  have e4 : x4 = x2 + x3 := by rw [h4]; exact or_add _ _ 1 (by decide) h e2 h0 (by omega) (by omega) (by omega)
  refine agg3' rfl ?_ ?_
  · rw [e4, e2, h3]; omega
  · rw [h5, Ul.u64_eq]
theorem up1_B (n : Bool) (m : Int) (w : World) (h0 : 0 ≤ m) (h1 : m < 170141183460469231731687303715884105728) : Calls Try.prog 93 #[VB n m, .int .u64 1] w (Vc.Ret (VB n (m * 2)) w) := by
  refine Vc.Ret.as (up1_raw n _ _ w (by unfold hiW; omega) (by unfold hiW; omega) (lo_bd m).1 (lo_bd m).2) (agg3' rfl ?_ ?_) <;> (try unfold hiW) <;> (try unfold loW) <;> omega
/-- The last bit, laid or taken. -/
theorem or_bit (x b : Int) (h0 : 0 ≤ x) (h1 : x ≤ 18446744073709551614) (he : x % 2 = 0) (hb : b = 0 ∨ b = 1) : bits .or .u64 x b = x + b :=
  or_add x b 1 (by decide) (x / 2) (by omega) (by omega) (by omega) (by omega) (by omega)

/-- The state of the slow division: bits from j on are done. -/
def SlowI (a y : Int) (l : List Vc.Vl) : Prop := ∃ j : Nat, j ≤ 128 ∧ l = [.i ((j : Int) - 1), .b false, .i (hiW (a / 2 ^ j % y)), .i (loW (a / 2 ^ j % y)), .b false, .i (hiW (a / 2 ^ j / y)), .i (loW (a / 2 ^ j / y))]
theorem SlowI.next {a y : Int} {m : Nat} {x Q R r1 r2 q1 q2 : Int} (hm : m < 128) (hx : x = IntKind.i64.wrap ((m : Int) - 1)) (hR : a / 2 ^ m % y = R) (hQ : a / 2 ^ m / y = Q)
    (e1 : r1 = hiW R) (e2 : r2 = loW R) (e3 : q1 = hiW Q) (e4 : q2 = loW Q) (z0 : Int) (l : List Vc.Vl) (hz : z0 = (m : Int)) :
    SlowI a y [.i x, .b false, .i r1, .i r2, .b false, .i q1, .i q2] ∧ measI [.i x, .b false, .i r1, .i r2, .b false, .i q1, .i q2] < measI (.i z0 :: l) := by
  subst hR hQ hz e1 e2 e3 e4
  have e : x = (m : Int) - 1 := by rw [hx, Ul.i64_eq]; omega
  refine ⟨⟨m, by omega, by rw [e]⟩, ?_⟩
  simp only [measI]; omega
theorem slow_any (n k : Bool) (a y : Int) (w : World) (h0 : 0 ≤ a) (h1 : a < 340282366920938463463374607431768211456) (y0 : 18446744073709551616 ≤ y) (y1 : y < 85070591730234615865843651857942052864) :
    Calls Try.prog 132 #[VB n a, VB k y] w (Vc.Ret (.tuple #[VB false (a / y), VB false (a % y)]) w) := by
  have hla := lo_bd a
  have hly := lo_bd y
  have hha := hi_u a ⟨h0, h1⟩
  refine vc_span_slow _ _ _ _ _ _ w _ ?_
  refine ⟨SlowI a y, measI, ⟨128, by omega, ?_⟩, ?_⟩
  · have ez : a / 2 ^ 128 = 0 := Int.ediv_eq_zero_of_lt h0 (by omega)
    rw [ez, Int.zero_emod, Int.zero_ediv]; rfl
  · rintro x4 b2 x5 x6 b3 x7 x8 ⟨j, hj, hl⟩
    simp only [List.cons.injEq, Vc.Vl.i.injEq, Vc.Vl.b.injEq, and_true] at hl
    obtain ⟨e4, rfl, rfl, rfl, rfl, rfl, rfl⟩ := hl
    refine iteI (fun h => ?_) (fun h => ?_)
    · obtain ⟨m, rfl⟩ : ∃ m, j = m + 1 := ⟨j - 1, by omega⟩
      obtain rfl : x4 = (m : Int) := by omega
      have hst := bit_step a m
      have hld := longdiv (a / 2 ^ (m + 1)) (a / 2 ^ m % 2) y (by omega) (by omega) (by omega)
      rw [← hst] at hld
      have hQ := quo_le a y (m + 1) h0 (by omega)
      have hb := bit01 a m
      have hm : m < 128 := by omega
      have hQle : a / 2 ^ (m + 1) / y ≤ 18446744073709551616 := by
        have h7 := Int.ediv_le_ediv (c := y) (by omega) hQ.2.2.2.1
        have h8 : a / y ≤ 18446744073709551616 := Int.le_of_lt_add_one (by rw [Int.ediv_lt_iff_lt_mul (by omega)]; omega)
        omega
      have ev : hiW a * 18446744073709551616 + loW a = a := val_W a
      have hBlo : m < 64 → loW a / 2 ^ m % 2 = a / 2 ^ m % 2 := by
        intro hm
        have := bit_low (hiW a) (loW a) m hm
        rw [ev] at this; exact this.symm
      have hBhi : ∀ j : Nat, m = j + 64 → hiW a / 2 ^ j % 2 = a / 2 ^ m % 2 := by
        intro j hj
        have := bit_high (hiW a) (loW a) j hla.1 (by omega)
        subst hj
        rw [ev] at this; exact this.symm
      have hhy0 : 0 ≤ hiW y := by unfold hiW; omega
      have hhy1 : hiW y ≤ 18446744073709551615 := by unfold hiW; omega
      generalize a / 2 ^ (m + 1) / y = Q at *
      generalize a / 2 ^ (m + 1) % y = R at *
      obtain ⟨B, hB⟩ : ∃ B, B = a / 2 ^ m % 2 := ⟨_, rfl⟩
      rw [← hB] at hld hb hBlo hBhi
      obtain ⟨T, hT⟩ : ∃ T, T = R * 2 + B := ⟨_, rfl⟩
      have eT1 : hiW (R * 2) = hiW T := by unfold hiW; omega
      have eT2 : loW (R * 2) + B = loW T := by unfold loW; omega
      have hT0 : 0 ≤ hiW T := by unfold hiW; omega
      have tle : y ≤ T ↔ (hiW y < hiW T ∨ (hiW T = hiW y ∧ loW y ≤ loW T)) := by unfold hiW loW; omega
      clear hst
      intro x9 h9 x10 h10
      rw [Int.tmod_eq_emod_of_nonneg h] at h9
      have e10 : x10 = ((m % 64 : Nat) : Int) := by rw [h10, h9, Ul.u64_eq]; omega
      subst e10
      refine ⟨by omega, ?_⟩
      rw [show Nat.min (Int.toNat ((m % 64 : Nat) : Int)) 64 = m % 64 from Nat.min_eq_left (by omega), Int.fdiv_eq_ediv_of_nonneg _ (Int.le_of_lt (pow2_pos _))]
      rintro _ rfl
      have sb := shr_bd (loW a) (m % 64) _ hla.1 hla.2
      rw [and1_u64 _ sb.1 sb.2]
      intro x12 h12
      refine iteI (fun hc => ?_) (fun hc => ?_)
      · intro x13 h13 x14 h14
        have e14 : x14 = ((m - 64 : Nat) : Int) := by rw [h14, h13]; simp only [Ul.i64_eq, Ul.u64_eq]; omega
        subst e14
        refine ⟨by omega, ?_⟩
        rw [show Nat.min (Int.toNat ((m - 64 : Nat) : Int)) 64 = m - 64 from Nat.min_eq_left (by omega), Int.fdiv_eq_ediv_of_nonneg _ (Int.le_of_lt (pow2_pos _))]
        rintro _ rfl
        have sb := shr_bd (hiW a) (m - 64) _ hha.1 hha.2
        rw [and1_u64 _ sb.1 sb.2, hBhi (m - 64) (by omega)]
        intro x16 h16
        rw [h16]
        (repeat apply Exists.intro); refine And.intro (fun _ _ => up1_B _ _ _ hQ.2.2.2.2.1 (by omega)) ?_
        rw [or_bit _ B (lo_bd _).1 (by unfold loW; omega) (by unfold loW; omega) hb]
        rintro _ rfl
        rw [eT1, eT2]
        (repeat apply Exists.intro); refine And.intro (fun _ _ => up1_B _ _ _ hQ.1 (by omega)) ?_
        refine iteI (fun c1 => ?_) (fun c1 => iteI (fun c2 => iteI (fun c3 => ?_) (fun c3 => ?_)) (fun c2 => ?_))
        · refine ⟨_, _, ⟨rfl, sub64_0 _ _ (lo_bd T).1 hly.1 hly.2⟩, _, _, ⟨rfl, sub64 _ _ _ hT0 hhy0 hhy1 (bor_bd _ _).1 (bor_bd _ _).2⟩, ?_⟩
          intro o ho x hx
          rw [or_bit _ 1 (lo_bd _).1 (by unfold loW; omega) (by unfold loW; omega) (.inr rfl)] at ho
          have hyT : y ≤ T := by rw [tle]; omega
          exact SlowI.next hm hx (R := T - y) (Q := 2 * Q + 1) (by rw [hld.2, if_pos (by omega)]; omega) (by rw [hld.1, if_pos (by omega)])
            (by unfold bor hiW loW at *; split <;> omega) (by unfold loW at *; omega) (by unfold hiW; omega) (by rw [ho]; unfold loW; omega) _ _ rfl
        · refine ⟨_, _, ⟨rfl, sub64_0 _ _ (lo_bd T).1 hly.1 hly.2⟩, _, _, ⟨rfl, sub64 _ _ _ hT0 hhy0 hhy1 (bor_bd _ _).1 (bor_bd _ _).2⟩, ?_⟩
          intro o ho x hx
          rw [or_bit _ 1 (lo_bd _).1 (by unfold loW; omega) (by unfold loW; omega) (.inr rfl)] at ho
          have hyT : y ≤ T := by rw [tle]; omega
          exact SlowI.next hm hx (R := T - y) (Q := 2 * Q + 1) (by rw [hld.2, if_pos (by omega)]; omega) (by rw [hld.1, if_pos (by omega)])
            (by unfold bor hiW loW at *; split <;> omega) (by unfold loW at *; omega) (by unfold hiW; omega) (by rw [ho]; unfold loW; omega) _ _ rfl
        · intro x hx
          have hyT : ¬ y ≤ T := by rw [tle]; omega
          exact SlowI.next hm hx (R := T) (Q := 2 * Q) (by rw [hld.2, if_neg (by omega)]; omega) (by rw [hld.1, if_neg (by omega)]; omega)
            rfl rfl (by rw [Int.mul_comm]) (by rw [Int.mul_comm]) _ _ rfl
        · intro x hx
          have hyT : ¬ y ≤ T := by rw [tle]; omega
          exact SlowI.next hm hx (R := T) (Q := 2 * Q) (by rw [hld.2, if_neg (by omega)]; omega) (by rw [hld.1, if_neg (by omega)]; omega)
            rfl rfl (by rw [Int.mul_comm]) (by rw [Int.mul_comm]) _ _ rfl
      · have e12 : x12 = B := by rw [h12, Nat.mod_eq_of_lt (by omega)]; exact hBlo (by omega)
        rw [e12]
        (repeat apply Exists.intro); refine And.intro (fun _ _ => up1_B _ _ _ hQ.2.2.2.2.1 (by omega)) ?_
        rw [or_bit _ B (lo_bd _).1 (by unfold loW; omega) (by unfold loW; omega) hb]
        rintro _ rfl
        rw [eT1, eT2]
        (repeat apply Exists.intro); refine And.intro (fun _ _ => up1_B _ _ _ hQ.1 (by omega)) ?_
        refine iteI (fun c1 => ?_) (fun c1 => iteI (fun c2 => iteI (fun c3 => ?_) (fun c3 => ?_)) (fun c2 => ?_))
        · refine ⟨_, _, ⟨rfl, sub64_0 _ _ (lo_bd T).1 hly.1 hly.2⟩, _, _, ⟨rfl, sub64 _ _ _ hT0 hhy0 hhy1 (bor_bd _ _).1 (bor_bd _ _).2⟩, ?_⟩
          intro o ho x hx
          rw [or_bit _ 1 (lo_bd _).1 (by unfold loW; omega) (by unfold loW; omega) (.inr rfl)] at ho
          have hyT : y ≤ T := by rw [tle]; omega
          exact SlowI.next hm hx (R := T - y) (Q := 2 * Q + 1) (by rw [hld.2, if_pos (by omega)]; omega) (by rw [hld.1, if_pos (by omega)])
            (by unfold bor hiW loW at *; split <;> omega) (by unfold loW at *; omega) (by unfold hiW; omega) (by rw [ho]; unfold loW; omega) _ _ rfl
        · refine ⟨_, _, ⟨rfl, sub64_0 _ _ (lo_bd T).1 hly.1 hly.2⟩, _, _, ⟨rfl, sub64 _ _ _ hT0 hhy0 hhy1 (bor_bd _ _).1 (bor_bd _ _).2⟩, ?_⟩
          intro o ho x hx
          rw [or_bit _ 1 (lo_bd _).1 (by unfold loW; omega) (by unfold loW; omega) (.inr rfl)] at ho
          have hyT : y ≤ T := by rw [tle]; omega
          exact SlowI.next hm hx (R := T - y) (Q := 2 * Q + 1) (by rw [hld.2, if_pos (by omega)]; omega) (by rw [hld.1, if_pos (by omega)])
            (by unfold bor hiW loW at *; split <;> omega) (by unfold loW at *; omega) (by unfold hiW; omega) (by rw [ho]; unfold loW; omega) _ _ rfl
        · intro x hx
          have hyT : ¬ y ≤ T := by rw [tle]; omega
          exact SlowI.next hm hx (R := T) (Q := 2 * Q) (by rw [hld.2, if_neg (by omega)]; omega) (by rw [hld.1, if_neg (by omega)]; omega)
            rfl rfl (by rw [Int.mul_comm]) (by rw [Int.mul_comm]) _ _ rfl
        · intro x hx
          have hyT : ¬ y ≤ T := by rw [tle]; omega
          exact SlowI.next hm hx (R := T) (Q := 2 * Q) (by rw [hld.2, if_neg (by omega)]; omega) (by rw [hld.1, if_neg (by omega)]; omega)
            rfl rfl (by rw [Int.mul_comm]) (by rw [Int.mul_comm]) _ _ rfl
    · obtain rfl : j = 0 := by omega
      simp only [Int.pow_zero, Int.ediv_one]
end Go.Proofs.Ytdhiapllbjamfaa
