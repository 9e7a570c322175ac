/- The numbers next to a quantity: the program's and the document's. -/
import Derived.Test.YtogfcodccbcncaaGreatDoorQa
set_option linter.unusedVariables false
set_option linter.unusedSimpArgs false
namespace Go.Proofs.YtogfcodccbcncaaGreatDoor
open Go Go.RowKit Vc
attribute [local irreducible] Go.Calls
theorem fdiv_eq {x d k : Int} (hd : 0 < d) (h1 : d * k ≤ x) (h2 : x < d * k + d) : x / d = k := by
  have a1 : k ≤ x / d := (Int.le_ediv_iff_mul_le hd).2 (by rw [Int.mul_comm]; exact h1)
  have a2 : x / d < k + 1 := (Int.ediv_lt_iff_lt_mul hd).2 (by rw [Int.mul_comm, Int.mul_add]; omega)
  omega
/-- The greatest number that is not above a quantity, and the error. -/
def lowQ (n d : Int) : Int × Int := if -9223372036854775807 ≤ n * 4294967296 / d ∧ n * 4294967296 / d ≤ 9223372036854775807 then (n * 4294967296 / d, 0) else (0, 4)
def lowR (n d k s t : Int) : Int × Int := if ckQ n d k s t = true then lowQ n d else (0, 2)
theorem low_no {n d k s t : Int} (hc : ckQ n d k s t = true) (h : ¬ (-9223372036854775807 ≤ n * 4294967296 / d ∧ n * 4294967296 / d ≤ 9223372036854775807)) : lowR n d k s t = (0, 4) := by
  unfold lowR lowQ; rw [if_pos hc, if_neg h]
theorem low_yes {n d k s t : Int} (hc : ckQ n d k s t = true) (h1 : -9223372036854775807 ≤ n * 4294967296 / d) (h2 : n * 4294967296 / d ≤ 9223372036854775807) : lowR n d k s t = (n * 4294967296 / d, 0) := by
  unfold lowR lowQ; rw [if_pos hc, if_pos ⟨h1, h2⟩]
theorem low_bad {n d k s t : Int} (hc : ¬ ckQ n d k s t = true) : lowR n d k s t = (0, 2) := by
  unfold lowR; rw [if_neg hc]
theorem ck_bd {n d k s t : Int} (hc : ckQ n d k s t = true) : Bd n ∧ 1 ≤ d ∧ d ≤ 4611686018427387904 ∧ Int.gcd n d = 1 := by
  simp only [ckQ, Bool.and_eq_true, decide_eq_true_eq] at hc
  obtain ⟨⟨⟨⟨⟨h1, h2⟩, h3⟩, h4⟩, h5⟩, _⟩ := hc
  exact ⟨⟨h1, h2⟩, h3, h4, h5⟩
abbrev NE (r : Int × Int) : Value := .tuple #[.int .i64 r.1, .int .i64 r.2]
abbrev QV (n d k s t : Int) : Value := .agg #[.int .i64 n, .int .i64 d, .int .i64 k, .int .i64 s, .int .i64 t]
theorem plow_any (n d k s t : Int) (w : World) : Calls Tryz.prog 20 #[QV n d k s t] w (Vc.Ret (NE (lowR n d k s t)) w) := by
  refine vc_vehicle_Lower n d k s t w _ ⟨_, fun w' _ => pck_any n d k s t w', ?_⟩
  refine iteI (fun hc => ?_) (fun hc => by rw [low_bad hc])
  obtain ⟨⟨n1, n2⟩, d1, d2, _⟩ := ck_bd hc
  have hd0 : 0 < d := by omega
  obtain ⟨A, hA⟩ : ∃ A : Int, A = if IntKind.i64.wrap (0 - n) > n then IntKind.i64.wrap (0 - n) else n := ⟨_, rfl⟩
  have hw0 : IntKind.i64.wrap (0 - n) = -n := by rw [i64_id (by omega)]; omega
  have hA2 : (0 ≤ n ∧ A = n) ∨ (n < 0 ∧ A = -n) := by rw [hw0] at hA; split at hA <;> omega
  rintro x5 hx5 x6 hx6 x7 hx7 x8 hx8 x9 hx9 x10 hx10
  rw [hx5] at hx6
  rw [← hA] at hx6
  replace hx6 := hx6.symm
  subst hx6
  rw [u64_id (by omega)] at hx7
  replace hx7 := hx7.symm
  subst hx7
  rw [u64_id (by omega)] at hx10
  replace hx10 := hx10.symm
  subst hx10
  have hx9' : x9 = (A * 4294967296) % 18446744073709551616 := by rw [hx9, Ul.u64_eq]
  refine iteI (fun hh => ?_) (fun hh => ?_)
  · rw [low_no hc]
    have hAd : d * 4294967296 ≤ A := by omega
    rcases hA2 with ⟨h0, e⟩ | ⟨h0, e⟩
    · have : 18446744073709551616 ≤ n * 4294967296 / d := (Int.le_ediv_iff_mul_le hd0).2 (by omega)
      omega
    · have : n * 4294967296 / d < -9223372036854775807 := (Int.ediv_lt_iff_lt_mul hd0).2 (by omega)
      omega
  · rintro x11 hx11
    rw [u64_id (by omega)] at hx11
    replace hx11 := hx11.symm
    subst hx11
    have hT : x8 * 18446744073709551616 + x9 = A * 4294967296 := by omega
    obtain ⟨q, hq⟩ : ∃ q, q = A * 4294967296 / d := ⟨_, rfl⟩
    obtain ⟨r, hr⟩ : ∃ r, r = A * 4294967296 % d := ⟨_, rfl⟩
    have h3 : d * q + r = A * 4294967296 := by rw [hq, hr]; exact Int.mul_ediv_add_emod _ _
    have r0 : 0 ≤ r := by rw [hr]; exact Int.emod_nonneg _ (by omega)
    have r1 : r < d := by rw [hr]; exact Int.emod_lt_of_pos _ hd0
    have q0 : 0 ≤ q := by rw [hq]; exact Int.ediv_nonneg (by omega) (by omega)
    have q1 : q < 18446744073709551616 := by rw [hq]; exact (Int.ediv_lt_iff_lt_mul hd0).2 (by omega)
    refine ⟨q, r, fun w' _ => (div64_any x8 x9 d w' (by omega) (by omega) (by omega) (by omega) (by omega)).mono ?_, ?_⟩
    · rintro e w2 he
      rw [hT, ← hq, ← hr] at he
      exact he
    have em : d * (-q) = -(d * q) := Int.mul_neg d q
    have em1 : d * (-(q + 1)) = -(d * q) - d := by rw [Int.mul_neg, Int.mul_add]; omega
    refine iteI (fun h0 => ?_) (fun h0 => ?_)
    · refine iteI (fun hr0 => ?_) (fun hr0 => ?_)
      · have hq1 : q + 1 < 18446744073709551616 := by
          by_cases h : q + 1 < 18446744073709551616
          · exact h
          · have : q = 18446744073709551615 := by omega
            subst this
            omega
        have hF : n * 4294967296 / d = -(q + 1) := fdiv_eq hd0 (by rw [em1]; omega) (by rw [em1]; omega)
        rintro x14 hx14
        rw [u64_id (by omega)] at hx14
        replace hx14 := hx14.symm
        subst hx14
        refine iteI (fun hb => ?_) (fun hb => iteI (fun _ => ?_) fun h => absurd h0 h)
        · rw [low_no hc (by rw [hF]; omega)]
        · rintro x15 hx15 x16 hx16
          rw [i64_id (by omega)] at hx15
          rw [hx15, i64_id (by omega)] at hx16
          rw [low_yes hc (by rw [hF]; omega) (by rw [hF]; omega), hF, hx16]
          simp
      · have hF : n * 4294967296 / d = -q := fdiv_eq hd0 (by rw [em]; omega) (by rw [em]; omega)
        refine iteI (fun hb => ?_) (fun hb => iteI (fun _ => ?_) fun h => absurd h0 h)
        · rw [low_no hc (by rw [hF]; omega)]
        · rintro x15 hx15 x16 hx16
          rw [i64_id (by omega)] at hx15
          rw [hx15, i64_id (by omega)] at hx16
          rw [low_yes hc (by rw [hF]; omega) (by rw [hF]; omega), hF, hx16]
          simp
    · have hF : n * 4294967296 / d = q := fdiv_eq hd0 (by omega) (by omega)
      refine iteI (fun hb => ?_) (fun hb => iteI (fun h => absurd h h0) fun _ => ?_)
      · rw [low_no hc (by rw [hF]; omega)]
      · rintro x15 hx15
        rw [i64_id (by omega)] at hx15
        rw [low_yes hc (by rw [hF]; omega) (by rw [hF]; omega), hF, hx15]
def InvL (n d : Int) (l : List Vc.Vl) : Prop := ∃ (j : Nat) (v r : Int), l = [.i v, .i r, .i j] ∧ j ≤ 32 ∧ -(2147483648 * 2 ^ j) ≤ v ∧ v + 1 ≤ 2147483648 * 2 ^ j ∧ d * v + r = n * 2 ^ j ∧ 0 ≤ r ∧ r < d
def msL (l : List Vc.Vl) : Nat := match l with
  | [.i _, .i _, .i j] => (32 - j).toNat
  | _ => 0
theorem rlow_any (n d k s t : Int) (w : World) : Calls Tryz.prog 21 #[QV n d k s t] w (Vc.Ret (NE (lowR n d k s t)) w) := by
  refine vc_ullageref02_Lower n d k s t w _ ⟨_, fun w' _ => rck_any n d k s t w', ?_⟩
  refine iteI (fun hc => ?_) (fun hc => by rw [low_bad hc])
  obtain ⟨⟨n1, n2⟩, d1, d2, _⟩ := ck_bd hc
  have hd0 : 0 < d := by omega
  refine ⟨by omega, ?_⟩
  rintro x5 hx5
  refine ⟨by omega, ?_⟩
  rintro x6 hx6
  have h1 := Int.mul_tdiv_add_tmod n d
  have h2 : (n.tmod d).natAbs = n.natAbs % d.natAbs := Int.natAbs_tmod n d
  have h3 : n.natAbs % d.natAbs < d.natAbs := Nat.mod_lt _ (by omega)
  have h4 : (n.tdiv d).natAbs ≤ n.natAbs := by rw [Int.natAbs_tdiv]; exact Nat.div_le_self _ _
  rw [i64_id (by omega)] at hx5
  rw [← hx5, ← hx6] at h1
  rw [← hx5] at h4
  rw [← hx6] at h2
  clear hx5 hx6
  have out : ∀ v r : Int, d * v + r = n → 0 ≤ r → r < d → ¬ (-2147483648 ≤ v ∧ v ≤ 2147483647) → lowR n d k s t = (0, 4) := by
    intro v r e1 e2 e3 e4
    refine low_no hc fun e5 => ?_
    by_cases hv : 2147483648 ≤ v
    · have : d * 2147483648 ≤ d * v := Int.mul_le_mul_of_nonneg_left hv (by omega)
      have : 9223372036854775808 ≤ n * 4294967296 / d := (Int.le_ediv_iff_mul_le hd0).2 (by omega)
      omega
    · have : d * v ≤ d * (-2147483649) := Int.mul_le_mul_of_nonneg_left (by omega) (by omega)
      have : n * 4294967296 / d < -9223372036854775807 := (Int.ediv_lt_iff_lt_mul hd0).2 (by omega)
      omega
  refine iteI (fun hneg => ?_) (fun hneg => ?_)
  · rintro x7 hx7 x8 hx8
    rw [i64_id (by omega)] at hx7
    rw [i64_id (by omega)] at hx8
    have e7 : d * x7 + x8 = n := by rw [hx7, hx8, Int.mul_sub]; omega
    have b7 : 0 ≤ x8 ∧ x8 < d := by omega
    clear hx7 hx8
    refine iteI (fun g1 => iteI (fun g2 => ?_) fun g => ?_) fun g => ?_
    · refine ⟨InvL n d, msL, ⟨0, _, _, rfl, by omega, by omega, by omega, by omega, by omega, by omega⟩, ?_⟩
      rintro x9 x10 x11 ⟨j, y9, y10, hxy, j1, j2, j3, j4, j5, j6⟩
      simp only [List.cons.injEq, Vc.Vl.i.injEq, and_true] at hxy
      obtain ⟨rfl, rfl, rfl⟩ := hxy
      have pj : (2 : Int) ^ (j + 1) = 2 * 2 ^ j := by rw [Int.pow_succ]; omega
      have hpj : n * (2 : Int) ^ (j + 1) = 2 * (n * 2 ^ j) := by rw [pj, ← Int.mul_assoc, Int.mul_comm n 2, Int.mul_assoc]
      refine iteI (fun hl => ?_) (fun hl => ?_)
      · have pb : (2 : Int) ^ j ≤ 2147483648 := by
          have h31 : j ≤ 31 := by omega
          have := Nat.pow_le_pow_right (n := 2) (by omega) h31
          have hc : ((2 ^ j : Nat) : Int) = (2 : Int) ^ j := Int.natCast_pow 2 j
          rw [← hc]; exact Int.ofNat_le.2 this
        rintro _ rfl _ rfl
        rw [i64_id (x := 2 * x9) (by omega), i64_id (x := 2 * x10) (by omega)]
        have e1 : d * (2 * x9 + 1) = 2 * (d * x9) + d := by rw [Int.mul_add, ← Int.mul_assoc, Int.mul_comm d 2, Int.mul_assoc]; omega
        have e2 : d * (2 * x9) = 2 * (d * x9) := by rw [← Int.mul_assoc, Int.mul_comm d 2, Int.mul_assoc]
        refine iteI (fun hr => ?_) (fun hr => ?_)
        · rintro _ rfl _ rfl _ rfl
          rw [i64_id (x := 2 * x9 + 1) (by omega), i64_id (x := 2 * x10 - d) (by omega), i64_id (x := (j : Int) + 1) (by omega)]
          refine ⟨⟨j + 1, _, _, rfl, by omega, by omega, by omega, by rw [e1]; omega, by omega, by omega⟩, ?_⟩
          simp only [msL]; omega
        · rintro _ rfl
          rw [i64_id (x := (j : Int) + 1) (by omega)]
          refine ⟨⟨j + 1, _, _, rfl, by omega, by omega, by omega, by rw [e2]; omega, by omega, by omega⟩, ?_⟩
          simp only [msL]; omega
      · have hj : j = 32 := by omega
        subst hj
        have hF : n * 4294967296 / d = x9 := fdiv_eq hd0 (by omega) (by omega)
        refine iteI (fun hz => ?_) (fun hz => ?_)
        · rw [low_no hc (by rw [hF]; omega)]
        · rw [low_yes hc (by rw [hF]; omega) (by rw [hF]; omega), hF]
    · rw [out x7 x8 e7 b7.1 b7.2 (by omega)]
    · rw [out x7 x8 e7 b7.1 b7.2 (by omega)]
  · have b7 : 0 ≤ x6 ∧ x6 < d := by omega
    refine iteI (fun g1 => iteI (fun g2 => ?_) fun g => ?_) fun g => ?_
    · refine ⟨InvL n d, msL, ⟨0, _, _, rfl, by omega, by omega, by omega, by omega, by omega, by omega⟩, ?_⟩
      rintro x9 x10 x11 ⟨j, y9, y10, hxy, j1, j2, j3, j4, j5, j6⟩
      simp only [List.cons.injEq, Vc.Vl.i.injEq, and_true] at hxy
      obtain ⟨rfl, rfl, rfl⟩ := hxy
      have pj : (2 : Int) ^ (j + 1) = 2 * 2 ^ j := by rw [Int.pow_succ]; omega
      have hpj : n * (2 : Int) ^ (j + 1) = 2 * (n * 2 ^ j) := by rw [pj, ← Int.mul_assoc, Int.mul_comm n 2, Int.mul_assoc]
      refine iteI (fun hl => ?_) (fun hl => ?_)
      · have pb : (2 : Int) ^ j ≤ 2147483648 := by
          have h31 : j ≤ 31 := by omega
          have := Nat.pow_le_pow_right (n := 2) (by omega) h31
          have hc : ((2 ^ j : Nat) : Int) = (2 : Int) ^ j := Int.natCast_pow 2 j
          rw [← hc]; exact Int.ofNat_le.2 this
        rintro _ rfl _ rfl
        rw [i64_id (x := 2 * x9) (by omega), i64_id (x := 2 * x10) (by omega)]
        have e1 : d * (2 * x9 + 1) = 2 * (d * x9) + d := by rw [Int.mul_add, ← Int.mul_assoc, Int.mul_comm d 2, Int.mul_assoc]; omega
        have e2 : d * (2 * x9) = 2 * (d * x9) := by rw [← Int.mul_assoc, Int.mul_comm d 2, Int.mul_assoc]
        refine iteI (fun hr => ?_) (fun hr => ?_)
        · rintro _ rfl _ rfl _ rfl
          rw [i64_id (x := 2 * x9 + 1) (by omega), i64_id (x := 2 * x10 - d) (by omega), i64_id (x := (j : Int) + 1) (by omega)]
          refine ⟨⟨j + 1, _, _, rfl, by omega, by omega, by omega, by rw [e1]; omega, by omega, by omega⟩, ?_⟩
          simp only [msL]; omega
        · rintro _ rfl
          rw [i64_id (x := (j : Int) + 1) (by omega)]
          refine ⟨⟨j + 1, _, _, rfl, by omega, by omega, by omega, by rw [e2]; omega, by omega, by omega⟩, ?_⟩
          simp only [msL]; omega
      · have hj : j = 32 := by omega
        subst hj
        have hF : n * 4294967296 / d = x9 := fdiv_eq hd0 (by omega) (by omega)
        refine iteI (fun hz => ?_) (fun hz => ?_)
        · rw [low_no hc (by rw [hF]; omega)]
        · rw [low_yes hc (by rw [hF]; omega) (by rw [hF]; omega), hF]
    · rw [out x5 x6 h1 b7.1 b7.2 (by omega)]
    · rw [out x5 x6 h1 b7.1 b7.2 (by omega)]
end Go.Proofs.YtogfcodccbcncaaGreatDoor
