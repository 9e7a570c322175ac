/- Sums, differences, products and quotients of quantities: the program's and the document's. -/
import Derived.Test.YtogfcodccbcncaaGreatDoorGq
import Derived.Test.YtogfcodccbcncaaGreatDoorQa
set_option linter.unusedVariables false
set_option linter.unusedSimpArgs false
namespace Go.Proofs.YtogfcodccbcncaaGreatDoor
open Go Go.RowKit Vc
attribute [local irreducible] Go.Calls
/-- A quantity and an error. -/
structure Qr where
  (n d k s t e : Int)
abbrev QE (r : Qr) : Value := .tuple #[QV r.n r.d r.k r.s r.t, .int .i64 r.e]
def badQ (e : Int) : Qr := ⟨0, 0, 0, 0, 0, e⟩
abbrev PB (x : Int) (b : Bool) : Value := .tuple #[.int .i64 x, .bool b]
theorem tdiv_bd {a b : Int} (ha : Bd a) : Bd (a.tdiv b) := by
  have h1 : (a.tdiv b).natAbs = a.natAbs / b.natAbs := Int.natAbs_tdiv a b
  have h2 : a.natAbs / b.natAbs ≤ a.natAbs := Nat.div_le_self _ _
  exact ⟨by omega, by omega⟩
theorem wr_tdiv {a b : Int} (ha : Bd a) : IntKind.i64.wrap (a.tdiv b) = a.tdiv b := by
  have := tdiv_bd (b := b) ha
  exact i64_id (by omega)
theorem wr_bd {a : Int} (ha : Bd a) : IntKind.i64.wrap a = a := i64_id (by omega)
/-- The program's test whether a product is too great. -/
theorem prod_yes {a b : Int} (ha : Bd a) (hb : Bd b) (h0 : b ≠ 0) (hw : Bd (IntKind.i64.wrap (a * b))) (h : IntKind.i64.wrap ((IntKind.i64.wrap (a * b)).tdiv b) = a) : Bd (a * b) := by
  obtain ⟨x, hx⟩ : ∃ x, x = IntKind.i64.wrap (a * b) := ⟨_, rfl⟩
  rw [← hx] at h hw
  rw [wr_tdiv hw] at h
  have h1 := Int.mul_tdiv_add_tmod x b
  rw [h] at h1
  have h2 : (x.tmod b).natAbs = x.natAbs % b.natAbs := Int.natAbs_tmod x b
  have h3 : x.natAbs % b.natAbs < b.natAbs := Nat.mod_lt _ (by omega)
  rw [Int.mul_comm b a] at h1
  rw [Ul.i64_eq] at hx
  omega
theorem prod_no {a b : Int} (ha : Bd a) (h0 : b ≠ 0) (hp : Bd (a * b)) : IntKind.i64.wrap ((IntKind.i64.wrap (a * b)).tdiv b) = a := by
  rw [wr_bd hp, Int.mul_tdiv_cancel _ h0, wr_bd ha]
theorem pprod_any (a b : Int) (w : World) (ha : Bd a) (hb : Bd b) : Calls Tryz.prog 65 #[.int .i64 a, .int .i64 b] w (Vc.Ret (PB (IntKind.i64.wrap (a * b)) (decide (Bd (a * b)))) w) := by
  refine vc_vehicle_product a b w _ ?_
  rintro x2 rfl
  refine iteI (fun h0 => ?_) (fun h0 => ?_)
  · subst h0
    rw [Int.mul_zero]
    exact iteI (fun _ => rfl) fun h => absurd (by decide) h
  · refine ⟨h0, ?_⟩
    rintro x3 rfl
    refine iteI (fun h => iteI (fun h1 => ?_) fun h1 => ?_) fun h => ?_
    · by_cases h2 : IntKind.i64.wrap (a * b) ≤ 4611686018427387904
      · rw [decide_eq_true h2, decide_eq_true (prod_yes ha hb h0 ⟨h1, h2⟩ h)]
      · rw [decide_eq_false h2, decide_eq_false (fun hp => h2 (by rw [wr_bd hp]; exact hp.2))]
    · rw [decide_eq_false (fun hp => h1 (by rw [wr_bd hp]; exact hp.1))]
    · rw [decide_eq_false (fun hp => h (prod_no ha h0 hp))]
theorem max_abs {a : Int} (ha : Bd a) : (if IntKind.i64.wrap (0 - a) > a then IntKind.i64.wrap (0 - a) else a) = ((a.natAbs : Nat) : Int) := by
  have hw : IntKind.i64.wrap (0 - a) = -a := by rw [i64_id (by omega)]; omega
  rw [hw]
  split <;> omega
theorem bd_abs (x : Int) : Bd x ↔ x.natAbs ≤ 4611686018427387904 := by
  unfold Bd; omega
/-- A quantity of parts, in lowest terms. -/
def madeR (n d k s t : Int) : Qr := if ckQ (n.tdiv (Int.gcd n d : Nat)) (d.tdiv (Int.gcd n d : Nat)) k s t = true then ⟨n.tdiv (Int.gcd n d : Nat), d.tdiv (Int.gcd n d : Nat), k, s, t, 0⟩ else badQ 4
theorem gcd_ne {n d : Int} (h : d ≠ 0) : ((Int.gcd n d : Nat) : Int) ≠ 0 := by
  intro h1
  have h2 : Int.gcd n d = 0 := by omega
  exact h (Int.gcd_eq_zero_iff.1 h2).2
theorem pmade_any (n d k s t : Int) (w : World) (hn : Bd n) (hd : Bd d) (h0 : d ≠ 0) : Calls Tryz.prog 67 #[.int .i64 n, .int .i64 d, .agg #[.int .i64 k, .int .i64 s, .int .i64 t]] w (Vc.Ret (QE (madeR n d k s t)) w) := by
  refine vc_vehicle_made n d k s t w _ ⟨_, fun w' _ => pgcd_any n d w' hn hd, gcd_ne h0, ?_⟩
  rintro x6 hx6
  rw [wr_tdiv hn] at hx6
  refine ⟨gcd_ne h0, ?_⟩
  rintro x7 hx7
  rw [wr_tdiv hd] at hx7
  subst hx6 hx7
  refine ⟨_, fun w' _ => pck_any _ _ k s t w', ?_⟩
  unfold madeR
  exact iteI (fun h => by rw [if_pos h]) fun h => by rw [if_neg h]; rfl
/-- The sum. -/
def plusR (n1 d1 k1 s1 t1 n2 d2 k2 s2 t2 : Int) : Qr :=
  if ckQ n1 d1 k1 s1 t1 = true ∧ ckQ n2 d2 k2 s2 t2 = true then
    if k1 = k2 ∧ s1 = s2 ∧ t1 = t2 then
      if Bd (n1 * d2.tdiv (Int.gcd d1 d2 : Nat)) ∧ Bd (n2 * d1.tdiv (Int.gcd d1 d2 : Nat)) ∧ Bd (d1.tdiv (Int.gcd d1 d2 : Nat) * d2) ∧ Bd (n1 * d2.tdiv (Int.gcd d1 d2 : Nat) + n2 * d1.tdiv (Int.gcd d1 d2 : Nat)) then
        madeR (n1 * d2.tdiv (Int.gcd d1 d2 : Nat) + n2 * d1.tdiv (Int.gcd d1 d2 : Nat)) (d1.tdiv (Int.gcd d1 d2 : Nat) * d2) k1 s1 t1
      else badQ 4
    else badQ 20
  else badQ 2
theorem tdiv_pos {d g : Int} (hd : 0 < d) (hg : 0 ≤ g) (h : g ∣ d) : 0 < d.tdiv g := by
  obtain ⟨c, hc⟩ := h
  have g0 : g ≠ 0 := by rintro rfl; omega
  rw [hc, Int.mul_tdiv_cancel_left _ g0]
  have g1 : 0 < g := by omega
  rw [hc] at hd
  exact Int.pos_of_mul_pos_right hd (by omega)
theorem dvd_l (a b : Int) : ((Int.gcd a b : Nat) : Int) ∣ a := Int.gcd_dvd_left a b
theorem dvd_r (a b : Int) : ((Int.gcd a b : Nat) : Int) ∣ b := Int.gcd_dvd_right a b
section
variable {n1 d1 k1 s1 t1 n2 d2 k2 s2 t2 : Int}
theorem plus_bad (h : ¬ (ckQ n1 d1 k1 s1 t1 = true ∧ ckQ n2 d2 k2 s2 t2 = true)) : plusR n1 d1 k1 s1 t1 n2 d2 k2 s2 t2 = badQ 2 := by
  unfold plusR; rw [if_neg h]
theorem plus_unit (h : ckQ n1 d1 k1 s1 t1 = true ∧ ckQ n2 d2 k2 s2 t2 = true) (hd : ¬ (k1 = k2 ∧ s1 = s2 ∧ t1 = t2)) : plusR n1 d1 k1 s1 t1 n2 d2 k2 s2 t2 = badQ 20 := by
  unfold plusR; rw [if_pos h, if_neg hd]
theorem plus_range (h : ckQ n1 d1 k1 s1 t1 = true ∧ ckQ n2 d2 k2 s2 t2 = true) (hd : k1 = k2 ∧ s1 = s2 ∧ t1 = t2) (hb : ¬ (Bd (n1 * d2.tdiv (Int.gcd d1 d2 : Nat)) ∧ Bd (n2 * d1.tdiv (Int.gcd d1 d2 : Nat)) ∧ Bd (d1.tdiv (Int.gcd d1 d2 : Nat) * d2) ∧ Bd (n1 * d2.tdiv (Int.gcd d1 d2 : Nat) + n2 * d1.tdiv (Int.gcd d1 d2 : Nat)))) : plusR n1 d1 k1 s1 t1 n2 d2 k2 s2 t2 = badQ 4 := by
  unfold plusR; rw [if_pos h, if_pos hd, if_neg hb]
theorem plus_made (h : ckQ n1 d1 k1 s1 t1 = true ∧ ckQ n2 d2 k2 s2 t2 = true) (hd : k1 = k2 ∧ s1 = s2 ∧ t1 = t2) (hb : Bd (n1 * d2.tdiv (Int.gcd d1 d2 : Nat)) ∧ Bd (n2 * d1.tdiv (Int.gcd d1 d2 : Nat)) ∧ Bd (d1.tdiv (Int.gcd d1 d2 : Nat) * d2) ∧ Bd (n1 * d2.tdiv (Int.gcd d1 d2 : Nat) + n2 * d1.tdiv (Int.gcd d1 d2 : Nat))) : plusR n1 d1 k1 s1 t1 n2 d2 k2 s2 t2 = madeR (n1 * d2.tdiv (Int.gcd d1 d2 : Nat) + n2 * d1.tdiv (Int.gcd d1 d2 : Nat)) (d1.tdiv (Int.gcd d1 d2 : Nat) * d2) k1 s1 t1 := by
  unfold plusR; rw [if_pos h, if_pos hd, if_pos hb]
theorem den_ne (h1 : 1 ≤ d1) (h2 : 1 ≤ d2) : d1.tdiv (Int.gcd d1 d2 : Nat) * d2 ≠ 0 := by
  have h3 := tdiv_pos (by omega : 0 < d1) (by omega) (dvd_l d1 d2)
  have := Int.mul_pos h3 (by omega : 0 < d2)
  omega
end
theorem pplus_any (n1 d1 k1 s1 t1 n2 d2 k2 s2 t2 : Int) (w : World) : Calls Tryz.prog 15 #[QV n1 d1 k1 s1 t1, QV n2 d2 k2 s2 t2] w (Vc.Ret (QE (plusR n1 d1 k1 s1 t1 n2 d2 k2 s2 t2)) w) := by
  refine vc_vehicle_Plus n1 d1 k1 s1 t1 n2 d2 k2 s2 t2 w _ ⟨_, fun w' _ => pck_any n1 d1 k1 s1 t1 w', ?_⟩
  refine iteI (fun hc1 => ?_) (fun hc => congrArg QE (plus_bad (fun h => hc h.1)).symm)
  refine ⟨_, fun w' _ => pck_any n2 d2 k2 s2 t2 w', ?_⟩
  refine iteI (fun hc2 => ?_) (fun hc => congrArg QE (plus_bad (fun h => hc h.2)).symm)
  refine iteI (fun hd => ?_) (fun hd => congrArg QE (plus_unit ⟨hc1, hc2⟩ hd).symm)
  obtain ⟨b1, l1, u1, _⟩ := ck_bd hc1
  obtain ⟨b2, l2, u2, _⟩ := ck_bd hc2
  have g0 : ((Int.gcd d1 d2 : Nat) : Int) ≠ 0 := gcd_ne (by omega)
  refine ⟨_, fun w' _ => pgcd_any d1 d2 w' ⟨by omega, u1⟩ ⟨by omega, u2⟩, g0, ?_⟩
  rintro x11 hx11
  rw [wr_tdiv ⟨by omega, u2⟩] at hx11
  refine ⟨_, _, fun w' _ => pprod_any n1 x11 w' b1 (by rw [hx11]; exact tdiv_bd ⟨by omega, u2⟩), g0, ?_⟩
  rintro x13 hx13
  rw [wr_tdiv ⟨by omega, u1⟩] at hx13
  refine ⟨_, _, fun w' _ => pprod_any n2 x13 w' b2 (by rw [hx13]; exact tdiv_bd ⟨by omega, u1⟩), g0, ?_⟩
  rintro x15 hx15
  rw [wr_tdiv ⟨by omega, u1⟩] at hx15
  refine ⟨_, _, fun w' _ => pprod_any x15 d2 w' (by rw [hx15]; exact tdiv_bd ⟨by omega, u1⟩) ⟨by omega, u2⟩, ?_⟩
  subst hx11 hx13 hx15
  have ran := plus_range ⟨hc1, hc2⟩ hd
  have mad := plus_made ⟨hc1, hc2⟩ hd
  have dn := den_ne l1 l2
  rintro x17 hx17
  refine iteI (fun p1 => ?_) (fun p => congrArg QE (ran fun h => p (decide_eq_true h.1)).symm)
  refine iteI (fun p2 => ?_) (fun p => congrArg QE (ran fun h => p (decide_eq_true h.2.1)).symm)
  refine iteI (fun p3 => ?_) (fun p => congrArg QE (ran fun h => p (decide_eq_true h.2.2.1)).symm)
  replace p1 := of_decide_eq_true p1
  replace p2 := of_decide_eq_true p2
  replace p3 := of_decide_eq_true p3
  rw [wr_bd p1, wr_bd p2] at hx17
  rw [wr_bd p3]
  have hw : Bd x17 → Bd (n1 * d2.tdiv (Int.gcd d1 d2 : Nat) + n2 * d1.tdiv (Int.gcd d1 d2 : Nat)) ∧ x17 = n1 * d2.tdiv (Int.gcd d1 d2 : Nat) + n2 * d1.tdiv (Int.gcd d1 d2 : Nat) := by
    intro hx
    rw [Ul.i64_eq] at hx17
    omega
  have hw2 : Bd (n1 * d2.tdiv (Int.gcd d1 d2 : Nat) + n2 * d1.tdiv (Int.gcd d1 d2 : Nat)) → Bd x17 := by
    intro hx
    rw [wr_bd hx] at hx17
    rw [hx17]; exact hx
  refine iteI (fun q1 => iteI (fun q2 => ?_) fun q => ?_) fun q => ?_
  · obtain ⟨e1, e2⟩ := hw ⟨q1, q2⟩
    refine ⟨_, _, _, _, _, _, fun w' _ => pmade_any x17 _ k1 s1 t1 w' ⟨q1, q2⟩ p3 dn, ?_⟩
    rw [e2]
    exact congrArg QE (mad ⟨p1, p2, p3, e1⟩).symm
  · exact congrArg QE (ran fun h => q (hw2 h.2.2.2).2).symm
  · exact congrArg QE (ran fun h => q (hw2 h.2.2.2).1).symm
/-- The difference. -/
def minusR (n1 d1 k1 s1 t1 n2 d2 k2 s2 t2 : Int) : Qr := if ckQ n2 d2 k2 s2 t2 = true then plusR n1 d1 k1 s1 t1 (-n2) d2 k2 s2 t2 else badQ 2
theorem pminus_any (n1 d1 k1 s1 t1 n2 d2 k2 s2 t2 : Int) (w : World) : Calls Tryz.prog 17 #[QV n1 d1 k1 s1 t1, QV n2 d2 k2 s2 t2] w (Vc.Ret (QE (minusR n1 d1 k1 s1 t1 n2 d2 k2 s2 t2)) w) := by
  refine vc_vehicle_Minus n1 d1 k1 s1 t1 n2 d2 k2 s2 t2 w _ ⟨_, fun w' _ => pck_any n2 d2 k2 s2 t2 w', ?_⟩
  unfold minusR
  refine iteI (fun hc => ?_) (fun hc => by rw [if_neg hc]; rfl)
  rw [if_pos hc]
  have hb := (ck_bd hc).1
  rintro x10 hx10
  rw [i64_id (by omega), Int.zero_sub] at hx10
  subst hx10
  exact ⟨_, _, _, _, _, _, fun w' _ => pplus_any _ _ _ _ _ _ _ _ _ _ w', rfl⟩
/-- The product. -/
def timesN (n1 d1 n2 d2 : Int) : Int := n1.tdiv (Int.gcd n1 d2 : Nat) * n2.tdiv (Int.gcd n2 d1 : Nat)
def timesD (n1 d1 n2 d2 : Int) : Int := d1.tdiv (Int.gcd n2 d1 : Nat) * d2.tdiv (Int.gcd n1 d2 : Nat)
def timesR (n1 d1 k1 s1 t1 n2 d2 k2 s2 t2 : Int) : Qr :=
  if ckQ n1 d1 k1 s1 t1 = true ∧ ckQ n2 d2 k2 s2 t2 = true then
    if Bd (timesN n1 d1 n2 d2) ∧ Bd (timesD n1 d1 n2 d2) then madeR (timesN n1 d1 n2 d2) (timesD n1 d1 n2 d2) (k1 + k2) (s1 + s2) (t1 + t2)
    else badQ 4
  else badQ 2
section
variable {n1 d1 k1 s1 t1 n2 d2 k2 s2 t2 : Int}
theorem times_bad (h : ¬ (ckQ n1 d1 k1 s1 t1 = true ∧ ckQ n2 d2 k2 s2 t2 = true)) : timesR n1 d1 k1 s1 t1 n2 d2 k2 s2 t2 = badQ 2 := by
  unfold timesR; rw [if_neg h]
theorem times_range (h : ckQ n1 d1 k1 s1 t1 = true ∧ ckQ n2 d2 k2 s2 t2 = true) (hb : ¬ (Bd (timesN n1 d1 n2 d2) ∧ Bd (timesD n1 d1 n2 d2))) : timesR n1 d1 k1 s1 t1 n2 d2 k2 s2 t2 = badQ 4 := by
  unfold timesR; rw [if_pos h, if_neg hb]
theorem times_made (h : ckQ n1 d1 k1 s1 t1 = true ∧ ckQ n2 d2 k2 s2 t2 = true) (hb : Bd (timesN n1 d1 n2 d2) ∧ Bd (timesD n1 d1 n2 d2)) : timesR n1 d1 k1 s1 t1 n2 d2 k2 s2 t2 = madeR (timesN n1 d1 n2 d2) (timesD n1 d1 n2 d2) (k1 + k2) (s1 + s2) (t1 + t2) := by
  unfold timesR; rw [if_pos h, if_pos hb]
theorem timesD_ne (h1 : 1 ≤ d1) (h2 : 1 ≤ d2) : timesD n1 d1 n2 d2 ≠ 0 := by
  have h3 := tdiv_pos (by omega : 0 < d1) (by omega) (dvd_r n2 d1)
  have h4 := tdiv_pos (by omega : 0 < d2) (by omega) (dvd_r n1 d2)
  have := Int.mul_pos h3 h4
  unfold timesD
  omega
end
theorem qe_congr {x y x' y' k s t : Int} (h1 : x = x') (h2 : y = y') : QE (madeR x y k s t) = QE (madeR x' y' k s t) := by rw [h1, h2]
theorem ptimes_any (n1 d1 k1 s1 t1 n2 d2 k2 s2 t2 : Int) (w : World) : Calls Tryz.prog 16 #[QV n1 d1 k1 s1 t1, QV n2 d2 k2 s2 t2] w (Vc.Ret (QE (timesR n1 d1 k1 s1 t1 n2 d2 k2 s2 t2)) w) := by
  refine vc_vehicle_Times n1 d1 k1 s1 t1 n2 d2 k2 s2 t2 w _ ⟨_, fun w' _ => pck_any n1 d1 k1 s1 t1 w', ?_⟩
  refine iteI (fun hc1 => ?_) (fun hc => congrArg QE (times_bad (fun h => hc h.1)).symm)
  refine ⟨_, fun w' _ => pck_any n2 d2 k2 s2 t2 w', ?_⟩
  refine iteI (fun hc2 => ?_) (fun hc => congrArg QE (times_bad (fun h => hc h.2)).symm)
  obtain ⟨b1, l1, u1, _⟩ := ck_bd hc1
  obtain ⟨b2, l2, u2, _⟩ := ck_bd hc2
  have m1 := ck_dm hc1
  have m2 := ck_dm hc2
  have g0 : ((Int.gcd n1 d2 : Nat) : Int) ≠ 0 := gcd_ne (by omega)
  have h0 : ((Int.gcd n2 d1 : Nat) : Int) ≠ 0 := gcd_ne (by omega)
  refine ⟨_, fun w' _ => pgcd_any n1 d2 w' b1 ⟨by omega, u2⟩, _, fun w' _ => pgcd_any n2 d1 w' b2 ⟨by omega, u1⟩, g0, ?_⟩
  rintro x12 hx12
  rw [wr_tdiv b1] at hx12
  refine ⟨h0, ?_⟩
  rintro x13 hx13
  rw [wr_tdiv b2] at hx13
  refine ⟨_, _, fun w' _ => pprod_any x12 x13 w' (by rw [hx12]; exact tdiv_bd b1) (by rw [hx13]; exact tdiv_bd b2), h0, ?_⟩
  rintro x15 hx15
  rw [wr_tdiv ⟨by omega, u1⟩] at hx15
  refine ⟨g0, ?_⟩
  rintro x16 hx16
  rw [wr_tdiv ⟨by omega, u2⟩] at hx16
  refine ⟨_, _, fun w' _ => pprod_any x15 x16 w' (by rw [hx15]; exact tdiv_bd ⟨by omega, u1⟩) (by rw [hx16]; exact tdiv_bd ⟨by omega, u2⟩), ?_⟩
  subst hx12 hx13 hx15 hx16
  have ran := times_range ⟨hc1, hc2⟩
  have mad := times_made ⟨hc1, hc2⟩
  have dn := timesD_ne (n1 := n1) (n2 := n2) l1 l2
  refine iteI (fun p1 => ?_) (fun p => congrArg QE (ran fun h => p (decide_eq_true h.1)).symm)
  refine iteI (fun p2 => ?_) (fun p => congrArg QE (ran fun h => p (decide_eq_true h.2)).symm)
  replace p1 : Bd (timesN n1 d1 n2 d2) := of_decide_eq_true p1
  replace p2 : Bd (timesD n1 d1 n2 d2) := of_decide_eq_true p2
  rintro x18 hx18 x19 hx19 x20 hx20
  rw [i64_id (by omega)] at hx18 hx19 hx20
  subst hx18 hx19 hx20
  refine ⟨_, _, _, _, _, _, fun w' _ => pmade_any _ _ _ _ _ w' ?_ ?_ ?_, ?_⟩
  · exact (congrArg Bd (wr_bd p1)).mpr p1
  · exact (congrArg Bd (wr_bd p2)).mpr p2
  · exact fun h => dn ((wr_bd p2).symm.trans h)
  · rw [mad ⟨p1, p2⟩]
    exact qe_congr (wr_bd p1) (wr_bd p2)
/-- The quotient. -/
def overR (n1 d1 k1 s1 t1 n2 d2 k2 s2 t2 : Int) : Qr :=
  if ckQ n1 d1 k1 s1 t1 = true ∧ ckQ n2 d2 k2 s2 t2 = true ∧ n2 ≠ 0 then
    if n2 < 0 then timesR n1 d1 k1 s1 t1 (-d2) (-n2) (-k2) (-s2) (-t2) else timesR n1 d1 k1 s1 t1 d2 n2 (-k2) (-s2) (-t2)
  else badQ 2
theorem over_bad {n1 d1 k1 s1 t1 n2 d2 k2 s2 t2 : Int} (h : ¬ (ckQ n1 d1 k1 s1 t1 = true ∧ ckQ n2 d2 k2 s2 t2 = true ∧ n2 ≠ 0)) : overR n1 d1 k1 s1 t1 n2 d2 k2 s2 t2 = badQ 2 := by
  unfold overR; rw [if_neg h]
theorem over_neg {n1 d1 k1 s1 t1 n2 d2 k2 s2 t2 : Int} (h : ckQ n1 d1 k1 s1 t1 = true ∧ ckQ n2 d2 k2 s2 t2 = true ∧ n2 ≠ 0) (h2 : n2 < 0) : overR n1 d1 k1 s1 t1 n2 d2 k2 s2 t2 = timesR n1 d1 k1 s1 t1 (-d2) (-n2) (-k2) (-s2) (-t2) := by
  unfold overR; rw [if_pos h, if_pos h2]
theorem over_pos {n1 d1 k1 s1 t1 n2 d2 k2 s2 t2 : Int} (h : ckQ n1 d1 k1 s1 t1 = true ∧ ckQ n2 d2 k2 s2 t2 = true ∧ n2 ≠ 0) (h2 : ¬ n2 < 0) : overR n1 d1 k1 s1 t1 n2 d2 k2 s2 t2 = timesR n1 d1 k1 s1 t1 d2 n2 (-k2) (-s2) (-t2) := by
  unfold overR; rw [if_pos h, if_neg h2]
theorem pover_any (n1 d1 k1 s1 t1 n2 d2 k2 s2 t2 : Int) (w : World) : Calls Tryz.prog 18 #[QV n1 d1 k1 s1 t1, QV n2 d2 k2 s2 t2] w (Vc.Ret (QE (overR n1 d1 k1 s1 t1 n2 d2 k2 s2 t2)) w) := by
  refine vc_vehicle_Over n1 d1 k1 s1 t1 n2 d2 k2 s2 t2 w _ ⟨_, fun w' _ => pck_any n1 d1 k1 s1 t1 w', ?_⟩
  refine iteI (fun hc1 => ?_) (fun hc => congrArg QE (over_bad (fun h => hc h.1)).symm)
  refine ⟨_, fun w' _ => pck_any n2 d2 k2 s2 t2 w', ?_⟩
  refine iteI (fun hc2 => ?_) (fun hc => congrArg QE (over_bad (fun h => hc h.2.1)).symm)
  refine iteI (fun hz => congrArg QE (over_bad (fun h => h.2.2 hz)).symm) (fun hz => ?_)
  obtain ⟨b2, l2, u2, _⟩ := ck_bd hc2
  have m2 := ck_dm hc2
  refine iteI (fun hn => ?_) (fun hn => ?_)
  · rintro x10 hx10 x11 hx11 x12 hx12 x13 hx13 x14 hx14
    rw [i64_id (by omega)] at hx10 hx11 hx12 hx13 hx14
    obtain rfl : x10 = -d2 := by omega
    obtain rfl : x11 = -n2 := by omega
    obtain rfl : x12 = -k2 := by omega
    obtain rfl : x13 = -s2 := by omega
    obtain rfl : x14 = -t2 := by omega
    exact ⟨_, _, _, _, _, _, fun w' _ => ptimes_any _ _ _ _ _ _ _ _ _ _ w', congrArg QE (over_neg ⟨hc1, hc2, hz⟩ hn).symm⟩
  · rintro x10 hx10 x11 hx11 x12 hx12 x13 hx13 x14 hx14
    rw [i64_id (by omega)] at hx10 hx11 hx12 hx13 hx14
    obtain rfl : x10 = d2 := by omega
    obtain rfl : x11 = n2 := by omega
    obtain rfl : x12 = -k2 := by omega
    obtain rfl : x13 = -s2 := by omega
    obtain rfl : x14 = -t2 := by omega
    exact ⟨_, _, _, _, _, _, fun w' _ => ptimes_any _ _ _ _ _ _ _ _ _ _ w', congrArg QE (over_pos ⟨hc1, hc2, hz⟩ hn).symm⟩
end Go.Proofs.YtogfcodccbcncaaGreatDoor
