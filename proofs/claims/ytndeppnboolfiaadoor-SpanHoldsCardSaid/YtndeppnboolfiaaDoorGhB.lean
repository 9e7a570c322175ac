/- Contracts of the layer, as far as they are wanted (written by program out of the templates). -/
import Derived.Test.YtndeppnboolfiaaDoorGhA
import Derived.Test.YtndeppnboolfiaaDoorGhG3
import Derived.Test.YtndeppnboolfiaaDoorTx
import Derived.WalkKit
import Derived.ProofKit
import Derived.OpenShut
import Derived.Lib.SmallJoins

set_option linter.unusedVariables false
set_option linter.unusedSimpArgs false
namespace Go.Proofs.YtndeppnboolfiaaDoor
open Go Go.RowKit Ul Vc
attribute [local irreducible] Go.Calls
abbrev Sp := Int × Int
/-- The place with a number, taken round. -/
def sp (l : List Sp) (i : Nat) : Sp := l.getD (i % l.length) (0, 0)
end Go.Proofs.YtndeppnboolfiaaDoor
set_option linter.unusedVariables false
namespace Go.Proofs.YtndeppnboolfiaaDoor
open Go Go.RowKit Ul
def rin (x : Rat) (p : Int × Int) : Prop := (p.1 : Rat) ≤ x ∧ x ≤ (p.2 : Rat)
abbrev lohi (r : R) : Int × Int := (r.1, r.2.1)
theorem rle {a b : Int} (h : a ≤ b) : (a : Rat) ≤ b := Rat.intCast_le_intCast.2 h
theorem rin_le {x : Rat} {p : Int × Int} (h : rin x p) : p.1 ≤ p.2 := Rat.intCast_le_intCast.1 (by unfold rin at h; grind)
theorem fit_ok {a b : Int} (h : (fit a b).2.2 = 0) : fit a b = (a, b, 0) ∧ (-9223372036854775807 ≤ a ∧ a ≤ 9223372036854775807) ∧ -9223372036854775807 ≤ b ∧ b ≤ 9223372036854775807 := by
  unfold fit at h ⊢
  split at h
  · rename_i g; rw [if_pos g]; exact ⟨rfl, by omega, by omega⟩
  · cases h
theorem add_rin {a b : Int × Int} {x y : Rat} (hx : rin x a) (hy : rin y b) (h : (add a.1 a.2 b.1 b.2).2.2 = 0) : rin (x + y) (lohi (add a.1 a.2 b.1 b.2)) := by
  unfold add at h ⊢
  split at h
  · rename_i g
    rw [if_pos g, (fit_ok h).1]
    unfold rin lohi at *
    simp only [Rat.intCast_add]
    grind
  · cases h
theorem sub_rin {a b : Int × Int} {x y : Rat} (hx : rin x a) (hy : rin y b) (h : (sub a.1 a.2 b.1 b.2).2.2 = 0) : rin (x - y) (lohi (sub a.1 a.2 b.1 b.2)) := by
  unfold sub at h ⊢
  split at h
  · rename_i g
    rw [if_pos g]
    have hn : rin (-y) (-b.2, -b.1) := by
      unfold rin at *
      simp only [Rat.intCast_neg]
      grind
    have := add_rin (b := (-b.2, -b.1)) hx hn h
    rwa [show x - y = x + -y by grind]
  · cases h
/-- A product is not below all products of the bounds, and not above all. -/
theorem corner {a b c d x y : Rat} (hx : a ≤ x ∧ x ≤ b) (hy : c ≤ y ∧ y ≤ d) :
    (a * c ≤ x * y ∨ a * d ≤ x * y ∨ b * c ≤ x * y ∨ b * d ≤ x * y) ∧ (x * y ≤ a * c ∨ x * y ≤ a * d ∨ x * y ≤ b * c ∨ x * y ≤ b * d) := by
  have key : ∀ {u v w z : Rat}, u ≤ v → 0 ≤ w → u * w ≤ v * w := fun h hw => Rat.mul_le_mul_of_nonneg_right h hw
  have l : ∀ {u v w : Rat}, u ≤ v → 0 ≤ w → w * u ≤ w * v := fun h hw => Rat.mul_le_mul_of_nonneg_left h hw
  have ln : ∀ {u v w : Rat}, u ≤ v → w ≤ 0 → w * v ≤ w * u := fun {u v w} h hw => by
    have := l (w := -w) h (by grind)
    grind
  have hlow : a * y ≤ x * y ∨ b * y ≤ x * y := by
    by_cases h : 0 ≤ y
    · have := l hx.1 h; grind
    · have := ln hx.2 (w := y) (by grind); grind
  have hhigh : x * y ≤ a * y ∨ x * y ≤ b * y := by
    by_cases h : 0 ≤ y
    · have := l hx.2 h; grind
    · have := ln hx.1 (w := y) (by grind); grind
  have la : ∀ w : Rat, (w * c ≤ w * y ∨ w * d ≤ w * y) ∧ (w * y ≤ w * c ∨ w * y ≤ w * d) := fun w => by
    by_cases h : 0 ≤ w
    · exact ⟨.inl (l hy.1 h), .inr (l hy.2 h)⟩
    · exact ⟨.inr (ln hy.2 (by grind)), .inl (ln hy.1 (by grind))⟩
  have h1 := la a
  have h2 := la b
  grind
theorem fl_rat {x y : Int} (h : 0 < y) : ((fl x y : Int) : Rat) * y ≤ x := by
  rw [← Rat.intCast_mul]
  exact rle (Int.ediv_mul_le x (by omega))
theorem ce_rat {x y : Int} (h : 0 < y) : (x : Rat) ≤ ((ce x y : Int) : Rat) * y := by
  rw [← Rat.intCast_mul]
  refine rle ?_
  unfold ce
  have := Int.ediv_mul_le (-x) (show y ≠ 0 by omega)
  rw [Int.neg_mul]
  omega
theorem min4_le (a b c d : Int) : min4 a b c d ≤ a ∧ min4 a b c d ≤ b ∧ min4 a b c d ≤ c ∧ min4 a b c d ≤ d := by unfold min4; omega
theorem max4_ge (a b c d : Int) : a ≤ max4 a b c d ∧ b ≤ max4 a b c d ∧ c ≤ max4 a b c d ∧ d ≤ max4 a b c d := by unfold max4; omega
theorem mul_rin {a b : Int × Int} {x y : Rat} (hx : rin x a) (hy : rin y b) (h : (mul a.1 a.2 b.1 b.2).2.2 = 0) : rin (x * y / 4294967296) (lohi (mul a.1 a.2 b.1 b.2)) := by
  unfold mul at h ⊢
  split at h
  · rename_i g
    rw [if_pos g, (fit_ok h).1]
    have hc := corner hx hy
    have m := min4_le (a.1 * b.1) (a.1 * b.2) (a.2 * b.1) (a.2 * b.2)
    have M := max4_ge (a.1 * b.1) (a.1 * b.2) (a.2 * b.1) (a.2 * b.2)
    have f := fl_rat (x := min4 (a.1 * b.1) (a.1 * b.2) (a.2 * b.1) (a.2 * b.2)) (y := 4294967296) (by omega)
    have c := ce_rat (x := max4 (a.1 * b.1) (a.1 * b.2) (a.2 * b.1) (a.2 * b.2)) (y := 4294967296) (by omega)
    generalize min4 (a.1 * b.1) (a.1 * b.2) (a.2 * b.1) (a.2 * b.2) = m4 at *
    generalize max4 (a.1 * b.1) (a.1 * b.2) (a.2 * b.1) (a.2 * b.2) = M4 at *
    have m' := (fun h => rle h : m4 ≤ a.1 * b.1 → _) m.1
    have m1 := rle m.2.1
    have m2 := rle m.2.2.1
    have m3 := rle m.2.2.2
    have M0 := rle M.1
    have M1 := rle M.2.1
    have M2 := rle M.2.2.1
    have M3 := rle M.2.2.2
    simp only [Rat.intCast_mul] at m' m1 m2 m3 M0 M1 M2 M3
    unfold rin lohi at *
    simp only
    have e : ((4294967296 : Int) : Rat) = 4294967296 := by rfl
    rw [e] at f c
    generalize ((fl m4 4294967296 : Int) : Rat) = F at *
    generalize ((ce M4 4294967296 : Int) : Rat) = C at *
    constructor <;> grind
  · cases h
theorem le_quo {F M X : Rat} (h : F * M ≤ X) (hM : 0 < M) : F ≤ X / M := by
  have hi : 0 < M⁻¹ := by exact Rat.inv_pos.2 hM
  have := Rat.mul_le_mul_of_nonneg_right h (Rat.le_of_lt hi)
  have e : F * M * M⁻¹ = F := by grind
  rwa [e, ← Rat.div_def] at this
theorem quo_le {F M X : Rat} (h : X ≤ F * M) (hM : 0 < M) : X / M ≤ F := by
  have hi : 0 < M⁻¹ := by exact Rat.inv_pos.2 hM
  have := Rat.mul_le_mul_of_nonneg_right h (Rat.le_of_lt hi)
  have e : F * M * M⁻¹ = F := by grind
  rwa [e, ← Rat.div_def] at this
theorem inv_le {c y : Rat} (hc : 0 < c) (h : c ≤ y) : y⁻¹ ≤ c⁻¹ := by
  have h1 : 0 < c⁻¹ := Rat.inv_pos.2 hc
  have h2 : 0 < y⁻¹ := Rat.inv_pos.2 (by grind)
  have := Rat.mul_le_mul_of_nonneg_right h (Rat.le_of_lt (Rat.mul_pos h1 h2))
  have e1 : c * (c⁻¹ * y⁻¹) = y⁻¹ := by grind
  have e2 : y * (c⁻¹ * y⁻¹) = c⁻¹ := by grind
  rwa [e1, e2] at this
theorem inv_leN {c y : Rat} (hc : y < 0) (h : c ≤ y) : y⁻¹ ≤ c⁻¹ := by
  have := inv_le (c := -y) (y := -c) (by grind) (by grind)
  have e1 : (-c)⁻¹ = -(c⁻¹) := by grind
  have e2 : (-y)⁻¹ = -(y⁻¹) := by grind
  rw [e1, e2] at this
  grind
theorem rdn_rat {n m : Int} (h : m ≠ 0) : ((rdn n m : Int) : Rat) ≤ (n : Rat) * 4294967296 / m := by
  have e : ((4294967296 : Int) : Rat) = 4294967296 := by rfl
  unfold rdn
  split
  · have f := fl_rat (x := -(n * 4294967296)) (y := -m) (by omega)
    have q := le_quo f (by have := Rat.intCast_lt_intCast.2 (show (0 : Int) < -m by omega); simpa using this)
    have hm : (m : Rat) ≠ 0 := fun h' => h (Rat.intCast_eq_zero_iff.1 h')
    rw [Rat.intCast_neg, Rat.intCast_neg, Rat.intCast_mul, e] at q
    have e2 : -((n : Rat) * 4294967296) / -(m : Rat) = (n : Rat) * 4294967296 / m := by grind
    rwa [e2] at q
  · have f := fl_rat (x := n * 4294967296) (y := m) (by omega)
    have q := le_quo f (by have := Rat.intCast_lt_intCast.2 (show (0 : Int) < m by omega); simpa using this)
    rwa [Rat.intCast_mul, e] at q
theorem rup_rat {n m : Int} (h : m ≠ 0) : (n : Rat) * 4294967296 / m ≤ ((rup n m : Int) : Rat) := by
  have e : ((4294967296 : Int) : Rat) = 4294967296 := by rfl
  unfold rup
  split
  · have f := ce_rat (x := -(n * 4294967296)) (y := -m) (by omega)
    have q := quo_le f (by have := Rat.intCast_lt_intCast.2 (show (0 : Int) < -m by omega); simpa using this)
    have hm : (m : Rat) ≠ 0 := fun h' => h (Rat.intCast_eq_zero_iff.1 h')
    rw [Rat.intCast_neg, Rat.intCast_neg, Rat.intCast_mul, e] at q
    have e2 : -((n : Rat) * 4294967296) / -(m : Rat) = (n : Rat) * 4294967296 / m := by grind
    rwa [e2] at q
  · have f := ce_rat (x := n * 4294967296) (y := m) (by omega)
    have q := quo_le f (by have := Rat.intCast_lt_intCast.2 (show (0 : Int) < m by omega); simpa using this)
    rwa [Rat.intCast_mul, e] at q
theorem div_rin {a b : Int × Int} {x y : Rat} (hx : rin x a) (hy : rin y b) (h : (div a.1 a.2 b.1 b.2).2.2 = 0) : y ≠ 0 ∧ rin (x * 4294967296 / y) (lohi (div a.1 a.2 b.1 b.2)) := by
  unfold div at h ⊢
  split at h
  · rename_i g
    split at h
    · cases h
    · rename_i g2
      rw [if_pos g, if_neg g2, (fit_ok h).1]
      have z0 : ∀ m : Int, ((0 : Int) : Rat) = 0 := fun _ => rfl
      have hinv : y ≠ 0 ∧ (b.2 : Rat)⁻¹ ≤ y⁻¹ ∧ y⁻¹ ≤ (b.1 : Rat)⁻¹ := by
        have hbb := rin_le hy
        by_cases hc : 0 < b.1
        · have h1 : (0 : Rat) < b.1 := by have := Rat.intCast_lt_intCast.2 hc; simpa using this
          unfold rin at hy
          exact ⟨by grind, inv_le (by grind) hy.2, inv_le h1 hy.1⟩
        · have hd : b.2 < 0 := by omega
          have h1 : (b.2 : Rat) < 0 := by have := Rat.intCast_lt_intCast.2 hd; simpa using this
          unfold rin at hy
          exact ⟨by grind, inv_leN h1 hy.2, inv_leN (by grind) hy.1⟩
      obtain ⟨hy0, hi⟩ := hinv
      refine ⟨hy0, ?_⟩
      have n1 : b.1 ≠ 0 := fun h => by have := rin_le hy; omega
      have n2 : b.2 ≠ 0 := fun h => by have := rin_le hy; omega
      have hc := corner hx hi
      have m := min4_le (rdn a.1 b.1) (rdn a.1 b.2) (rdn a.2 b.1) (rdn a.2 b.2)
      have M := max4_ge (rup a.1 b.1) (rup a.1 b.2) (rup a.2 b.1) (rup a.2 b.2)
      have e : ∀ n w : Rat, n * 4294967296 / w = n * w⁻¹ * 4294967296 := fun n w => by rw [Rat.div_def]; grind
      have d1 := rdn_rat (n := a.1) n1
      have d2 := rdn_rat (n := a.1) n2
      have d3 := rdn_rat (n := a.2) n1
      have d4 := rdn_rat (n := a.2) n2
      have u1 := rup_rat (n := a.1) n1
      have u2 := rup_rat (n := a.1) n2
      have u3 := rup_rat (n := a.2) n1
      have u4 := rup_rat (n := a.2) n2
      rw [e] at d1 d2 d3 d4 u1 u2 u3 u4
      have m0 := rle m.1
      have m1 := rle m.2.1
      have m2 := rle m.2.2.1
      have m3 := rle m.2.2.2
      have M0 := rle M.1
      have M1 := rle M.2.1
      have M2 := rle M.2.2.1
      have M3 := rle M.2.2.2
      unfold rin lohi
      simp only
      rw [e]
      generalize ((min4 (rdn a.1 b.1) (rdn a.1 b.2) (rdn a.2 b.1) (rdn a.2 b.2) : Int) : Rat) = F at *
      generalize ((max4 (rup a.1 b.1) (rup a.1 b.2) (rup a.2 b.1) (rup a.2 b.2) : Int) : Rat) = C at *
      clear h g g2 hx hy z0 m M hi
      generalize (a.1 : Rat) * (b.1 : Rat)⁻¹ = q1 at *
      generalize (a.1 : Rat) * (b.2 : Rat)⁻¹ = q2 at *
      generalize (a.2 : Rat) * (b.1 : Rat)⁻¹ = q3 at *
      generalize (a.2 : Rat) * (b.2 : Rat)⁻¹ = q4 at *
      generalize x * y⁻¹ = q at *
      constructor <;> grind
  · cases h
end Go.Proofs.YtndeppnboolfiaaDoor
set_option linter.unusedVariables false
set_option maxRecDepth 100000
namespace Go.Proofs.YtndeppnboolfiaaDoor
open Go Go.RowKit Go.Proofs Vc Ul
theorem of_any (a b : Int) (x : Int) (y : Int) (hx : IntKind.i64.wrap (a * 4294967296) = x) (hy : IntKind.i64.wrap (b * 4294967296) = y) (w : World) : Calls Tryd.prog 47 #[.int .i64 a, .int .i64 b] w (Vc.Ret (Vc.S x y) w) := by
  refine vc_ullagelaw01_of a b w _ ?_
  rintro _ rfl _ rfl
  rw [hx, hy]
theorem text_q (w : World) : Calls Tryd.prog 44 #[.int .i64 (-1073741824)] w (Vc.Ret (.string ⟨([45, 48, 46, 50, 53] : List UInt8).toArray⟩) w) :=
  (text_quarter w).mono fun e w' h => h
theorem alive_any (w : World) : Calls Tryd.prog 11 #[] w (Vc.Ret (.bool true) w) := by
  refine vc_ullagelaw01_alive w _ ?_
  refine ⟨-17179869184, 34359738368, 0, fun w' hw => Ret.mono (pmul_any (-4294967296) 8589934592 12884901888 17179869184 w' (by unfold I64; decide) (by unfold I64; decide) (by unfold I64; decide) (by unfold I64; decide)) (by rw [show mul (-4294967296) 8589934592 12884901888 17179869184 = (-17179869184, 34359738368, 0) by decide +kernel]), ?_⟩
  refine ⟨1431655765, 1431655766, 0, fun w' hw => Ret.mono (pRatio_any 1 3 w' (by unfold I64; decide) (by unfold I64; decide)) (by rw [show ratio 1 3 = (1431655765, 1431655766, 0) by decide +kernel]), ?_⟩
  refine ⟨0, 8589934592, 0, fun w' hw => Ret.mono (pRoot_any (-38654705664) 17179869184 w' (by unfold I64; decide) (by unfold I64; decide)) (by rw [show root (-38654705664) 17179869184 = (0, 8589934592, 0) by decide +kernel]), ?_⟩
  refine iteI (fun _ => ?_) (fun h => absurd rfl h)
  refine ⟨-17179869184, 34359738368, fun w' hw => of_any (-4) 8 _ _ (by decide +kernel) (by decide +kernel) w', ?_⟩
  refine iteI (fun _ => ?_) (fun h => absurd ⟨rfl, rfl⟩ h)
  refine iteI (fun _ => ?_) (fun h => absurd rfl h)
  refine iteI (fun _ => ?_) (fun h => absurd ⟨rfl, rfl⟩ h)
  refine iteI (fun _ => ?_) (fun h => absurd rfl h)
  refine ⟨0, 8589934592, fun w' hw => of_any 0 2 _ _ (by decide +kernel) (by decide +kernel) w', ?_⟩
  refine iteI (fun _ => ?_) (fun h => absurd ⟨rfl, rfl⟩ h)
  exact ⟨_, fun w' hw => text_q w', rfl⟩
end Go.Proofs.YtndeppnboolfiaaDoor
set_option linter.unusedVariables false
set_option maxRecDepth 100000
namespace Go.Proofs.YtndeppnboolfiaaDoor
open Go Go.RowKit Go.Proofs Vc Ul
theorem wfI64 {n : Int} (h : (Lit.int .i64 n).wf = true) : I64 n := by
  simp [Lit.wf, IntKind.min, IntKind.max, IntKind.signed, IntKind.bits] at h; unfold I64; omega
theorem ok_3 {a b : Int} (h : ok a b = true) : -9223372036854775807 ≤ a ∧ -9223372036854775807 ≤ b ∧ a ≤ b := by
  unfold ok at h; simp at h; omega
end Go.Proofs.YtndeppnboolfiaaDoor
set_option linter.unusedVariables false
set_option maxRecDepth 100000
namespace Go.Proofs.YtndeppnboolfiaaDoor
open Go Go.RowKit Go.Proofs Vc Ul
theorem isq_to (k : Nat) : ∀ r x : Int, 0 ≤ r → r * r ≤ x → x < (r + 2 ^ k) * (r + 2 ^ k) →
    rootTo k r x * rootTo k r x ≤ x ∧ x < (rootTo k r x + 1) * (rootTo k r x + 1) := by
  induction k with
  | zero => intro r x h0 h1 h2; simp only [rootTo]; exact ⟨h1, by simpa using h2⟩
  | succ k ih =>
    intro r x h0 h1 h2
    have hp : (0 : Int) < 2 ^ k := Int.pow_pos (by decide)
    rw [Int.pow_succ] at h2
    simp only [rootTo]
    split
    · rename_i hc
      exact ih (r + 2 ^ k) x (by omega) hc (by rw [show r + 2 ^ k + 2 ^ k = r + 2 ^ k * 2 from by omega]; exact h2)
    · rename_i hc
      exact ih r x h0 h1 (by omega)
theorem isq_at {x : Int} (h0 : 0 ≤ x) (h : x < 316912650057057350374175801344) : isqrt x * isqrt x ≤ x ∧ x < (isqrt x + 1) * (isqrt x + 1) :=
  isq_to 49 0 x (by decide) (by omega) (by have e : ((0 : Int) + 2 ^ 49) * (0 + 2 ^ 49) = 316912650057057350374175801344 := by decide +kernel
                                           rw [e]; exact h)
theorem rootUp_at {x : Int} (h0 : 0 ≤ x) (h : x < 316912650057057350374175801344) : x ≤ rootUp x * rootUp x ∧ (rootUp x = 0 ∨ (rootUp x - 1) * (rootUp x - 1) < x) ∧ 0 ≤ rootUp x ∧ rootUp x ≤ 562949953421312 := by
  obtain ⟨a, b⟩ := isq_at h0 h
  obtain ⟨c, d⟩ := isqrt_bd x
  unfold rootUp
  split
  · rename_i hc
    refine ⟨by omega, ?_, by omega, by omega⟩
    by_cases hz : isqrt x = 0
    · exact .inl hz
    · right
      have e : (isqrt x - 1) * (isqrt x - 1) = isqrt x * isqrt x - 2 * isqrt x + 1 := by rw [Int.sub_mul, Int.mul_sub]; omega
      omega
  · rename_i hc
    refine ⟨by omega, .inr ?_, by omega, by omega⟩
    rw [show isqrt x + 1 - 1 = isqrt x by omega]; omega
end Go.Proofs.YtndeppnboolfiaaDoor
set_option linter.unusedVariables false
set_option maxRecDepth 100000
namespace Go.Proofs.YtndeppnboolfiaaDoor
open Go Go.RowKit Go.Proofs Vc Ul
theorem abs_in {a b : Int} {x : Rat} (h : ok a b = true) (hx : rin x (a, b)) : ∃ y : Rat, y * y = x * x ∧ 0 ≤ y ∧ (y = x ∨ y = -x) ∧ rin y (lohi (absS a b)) := by
  unfold absS lohi
  rw [if_pos h]
  obtain ⟨h1, h2⟩ := hx
  simp only at h1 h2
  split
  · rename_i c
    have := rle c
    exact ⟨x, rfl, by grind, .inl rfl, h1, h2⟩
  · split
    · rename_i c
      have := rle c
      refine ⟨-x, by grind, by grind, .inr rfl, ?_, ?_⟩ <;> simp only [Rat.intCast_neg] <;> grind
    · have m1 := rle (show -a ≤ max (-a) b by omega)
      have m2 := rle (show b ≤ max (-a) b by omega)
      rw [Rat.intCast_neg] at m1
      by_cases hc : 0 ≤ x
      · refine ⟨x, rfl, hc, .inl rfl, ?_, ?_⟩ <;> simp only <;> grind
      · refine ⟨-x, by grind, by grind, .inr rfl, ?_, ?_⟩ <;> simp only <;> grind
theorem square_rin {a b : Int} {x : Rat} (hx : rin x (a, b)) (h : (square a b).2.2 = 0) : rin (x * x / 4294967296) (lohi (square a b)) := by
  unfold square at h ⊢
  split at h
  · rename_i g
    rw [if_pos g]
    obtain ⟨y, e, _, _, hy⟩ := abs_in g hx
    have := mul_rin hy hy h
    rwa [e] at this
  · cases h
end Go.Proofs.YtndeppnboolfiaaDoor
set_option linter.unusedVariables false
set_option maxRecDepth 4000
namespace Go.Proofs.YtndeppnboolfiaaDoor
open Go Go.RowKit Go.ChangeShapes Go.WideShapes Go.ChangeAt Go.Joins Ul Vc
theorem wfu64 {n : Int} (h : (Lit.int .u64 n).wf = true) : 0 ≤ n := by
  simp only [Lit.wf, Bool.and_eq_true, decide_eq_true_eq] at h
  exact h.1
theorem okWide_arr {P : Program} {w : World} {r : Reach} {base n : Nat} {t e : TypeId} {v : Value} (ht : P.underlying t = some (.array n e)) (h : Value.okWide P w r base t v) : ∃ cs, v = .agg cs := by
  simp only [Value.okWide, ht] at h
  obtain ⟨cs, h1, _⟩ := h
  exact ⟨cs, h1⟩
section
variable {H : Type} {enc : TypeId × Value → H} {w : World} {base : Nat} {sp : Nat → Bool} {held : Bool}
theorem two64_cells {fuel : Nat} {cs : List Value} {x : DataW H × List MemPlace} (h : DataW.trod enc Tryd.prog w base sp held fuel 53 cs = some x) : ∃ a b : Int, cs = [.int .u64 a, .int .u64 b] ∧ 0 ≤ a ∧ 0 ≤ b := by
  obtain ⟨xs, m, _, _, hl, hlen, hf⟩ := DataW.trod_array Tryd.underlying53 h
  have e1 : Tryd.prog.cellsOf 30 = 1 := by kernel_rfl
  have e2 : Tryd.prog.cellsOf 53 = 2 := by kernel_rfl
  rw [e2] at hl
  simp only [e1] at hf
  match cs, hl with
  | [c0, c1], _ =>
    match xs, hlen with
    | [y0, y1], _ =>
      have h0 := hf 0 (by omega)
      have h1 := hf 1 (by omega)
      simp only [List.getElem?_cons_zero, List.getElem?_cons_succ] at h0 h1
      obtain ⟨a, ha, _, wa⟩ := DataW.trod_int Tryd.underlying30 h0
      obtain ⟨b, hb, _, wb⟩ := DataW.trod_int Tryd.underlying30 h1
      simp at ha hb
      exact ⟨a, b, by rw [ha, hb], wfu64 wa, wfu64 wb⟩
theorem open_two64 {P : Program} (hP : P = Tryd.prog) {r : Reach} {b0 : Nat} {v : Value} {d : DataW H} {ps : List MemPlace} (hval : Value.okWide P w r b0 53 v) (hd : DataW.Trod enc P w base sp held 53 v d ps) :
    ∃ m : Int × Int, v = .agg #[.int .u64 m.1, .int .u64 m.2] ∧ 0 ≤ m.1 ∧ 0 ≤ m.2 := by
  have hu : P.underlying 53 = some (.array 2 30) := by rw [hP]; exact Tryd.underlying53
  have hz : ∀ fuel cs x, DataW.trod enc P w base sp held fuel 53 cs = some x → ∃ a b : Int, cs = [.int .u64 a, .int .u64 b] ∧ 0 ≤ a ∧ 0 ≤ b := fun fuel cs x h => by rw [hP] at h; exact two64_cells h
  clear hP
  obtain ⟨cs, rfl⟩ := okWide_arr hu hval
  obtain ⟨fuel, hf⟩ := hd
  obtain ⟨a, b, h1, h2⟩ := hz _ _ _ hf
  refine ⟨(a, b), ?_, h2⟩
  have : cs = #[.int .u64 a, .int .u64 b] := by
    apply Array.ext'
    exact h1
  rw [this]
end
end Go.Proofs.YtndeppnboolfiaaDoor
set_option linter.unusedVariables false
set_option maxRecDepth 100000
namespace Go.Proofs.YtndeppnboolfiaaDoor
open Go Go.RowKit Go.Proofs Vc Ul
theorem pick_any (a b n : Int) (h : ok a b = true) (hn : 0 ≤ n) (hb : b ≤ 9223372036854775807) : ∃ x, a ≤ x ∧ x ≤ b ∧ ∀ w : World, Calls Tryd.prog 28 #[Vc.S a b, .int .u64 n] w (Vc.Ret (.int .i64 x) w) := by
  obtain ⟨a1, a2, a3⟩ := ok_3 h
  have hm : Int.tmod n (b - a + 1) = n % (b - a + 1) := Int.tmod_eq_emod_of_nonneg hn
  have m1 := Int.emod_nonneg n (show b - a + 1 ≠ 0 by omega)
  have m2 := Int.emod_lt_of_pos n (show 0 < b - a + 1 by omega)
  refine ⟨a + n % (b - a + 1), by omega, by omega, fun w => ?_⟩
  refine vc_ullagelaw01_pick a b n w _ ?_
  intro x3 h3 x4 h4 x5 h5
  have e5 : x5 = b - a := by rw [h5, h3, h4]; simp only [Ul.u64_eq]; omega
  refine iteI (fun h => by omega) (fun _ => ?_)
  intro x6 h6 x7 h7
  have e7 : x7 = b - a + 1 := by rw [h7, e5]; simp only [Ul.u64_eq]; omega
  refine ⟨by omega, ?_⟩
  intro x8 h8 x9 h9 x10 h10
  rw [e7, hm] at h8
  have : x10 = a + n % (b - a + 1) := by rw [h10, h9, h6, h8]; generalize n % (b - a + 1) = r at *; simp only [Ul.u64_eq, Ul.i64_eq]; omega
  rw [this]
theorem between_t (v n m k : Int) (w : World) (h : n * k ≤ v ∧ v ≤ m * k) (hn : I64 n) (hm : I64 m) (hk : I64 k) : Calls Tryd.prog 33 #[VW v, .int .i64 n, .int .i64 m, .int .i64 k] w (Vc.Ret (.bool true) w) := by
  refine vc_ullagelaw01_between _ _ n m k w _ ?_
  refine ⟨_, _, fun w' hw => times_raw n k w' hn.1 hn.2 hk.1 hk.2, _, fun w' hw => less_W v (n * k) w', ?_⟩
  refine ⟨_, _, fun w' hw => times_raw m k w' hm.1 hm.2 hk.1 hk.2, _, fun w' hw => less_W (m * k) v w', ?_⟩
  refine iteI (fun g => ?_) (fun g => ?_)
  · have := of_decide_eq_true g; omega
  · rw [decide_eq_false (by omega)]; rfl
theorem back {L H X : Int} (h : rin ((X : Rat) / 4294967296) (L, H)) : L * 4294967296 ≤ X ∧ X ≤ H * 4294967296 := by
  obtain ⟨h1, h2⟩ := h
  simp only at h1 h2
  have e : ((4294967296 : Int) : Rat) = 4294967296 := by rfl
  constructor
  · refine Rat.intCast_le_intCast.1 ?_
    rw [Rat.intCast_mul, e]; grind
  · refine Rat.intCast_le_intCast.1 ?_
    rw [Rat.intCast_mul, e]; grind
theorem rin_of {a b x : Int} (h1 : a ≤ x) (h2 : x ≤ b) : rin (x : Rat) (a, b) := ⟨rle h1, rle h2⟩
theorem fit_i {a b : Int} (h : (fit a b).2.2 = 0) : I64 (fit a b).1 ∧ I64 (fit a b).2.1 ∧ I64 (-(fit a b).1) ∧ I64 (-(fit a b).2.1) := by
  obtain ⟨h1, h2, h3⟩ := fit_ok h
  rw [h1]; unfold I64; dsimp only; omega
theorem add_i {a b c d : Int} (h : (add a b c d).2.2 = 0) : I64 (add a b c d).1 ∧ I64 (add a b c d).2.1 := by
  unfold add at h ⊢
  split at h
  · rename_i g; rw [if_pos g]; exact ⟨(fit_i h).1, (fit_i h).2.1⟩
  · cases h
theorem sub_i {a b c d : Int} (h : (sub a b c d).2.2 = 0) : I64 (sub a b c d).1 ∧ I64 (sub a b c d).2.1 := by
  unfold sub at h ⊢
  split at h
  · rename_i g; rw [if_pos g]; exact add_i h
  · cases h
theorem mul_i {a b c d : Int} (h : (mul a b c d).2.2 = 0) : I64 (mul a b c d).1 ∧ I64 (mul a b c d).2.1 := by
  unfold mul at h ⊢
  split at h
  · rename_i g; rw [if_pos g]; exact ⟨(fit_i h).1, (fit_i h).2.1⟩
  · cases h
theorem square_i {a b : Int} (h : (square a b).2.2 = 0) : I64 (square a b).1 ∧ I64 (square a b).2.1 := by
  unfold square at h ⊢
  split at h
  · rename_i g; rw [if_pos g]; exact mul_i h
  · cases h
theorem div_i {a b c d : Int} (h : (div a b c d).2.2 = 0) : I64 (div a b c d).1 ∧ I64 (div a b c d).2.1 ∧ I64 (-(div a b c d).1) ∧ I64 (-(div a b c d).2.1) := by
  unfold div at h ⊢
  split at h
  · rename_i g
    rw [if_pos g]
    split at h
    · cases h
    · rename_i g2; rw [if_neg g2]; exact fit_i h
  · cases h
theorem back_div {L H X Y : Int} (hy : Y ≠ 0) (h : rin ((X : Rat) * 4294967296 / Y) (L, H)) : (Y < 0 → (-H) * (-Y) ≤ X * 4294967296 ∧ X * 4294967296 ≤ (-L) * (-Y)) ∧ (¬ Y < 0 → L * Y ≤ X * 4294967296 ∧ X * 4294967296 ≤ H * Y) := by
  obtain ⟨h1, h2⟩ := h
  simp only at h1 h2
  have e : ((4294967296 : Int) : Rat) = 4294967296 := by rfl
  have hY : (Y : Rat) ≠ 0 := fun h => hy (Rat.intCast_eq_zero_iff.1 h)
  have q : (X : Rat) * 4294967296 / Y * Y = (X : Rat) * 4294967296 := by grind
  constructor
  · intro g
    have hp : (0 : Rat) ≤ ((-Y : Int) : Rat) := rle (show 0 ≤ -Y by omega)
    have a := Rat.mul_le_mul_of_nonneg_right h1 hp
    have b := Rat.mul_le_mul_of_nonneg_right h2 hp
    rw [Rat.intCast_neg] at a b
    constructor
    · refine Rat.intCast_le_intCast.1 ?_
      rw [Int.neg_mul_neg, Rat.intCast_mul, Rat.intCast_mul, e]; grind
    · refine Rat.intCast_le_intCast.1 ?_
      rw [Int.neg_mul_neg, Rat.intCast_mul, Rat.intCast_mul, e]; grind
  · intro g
    have hp : (0 : Rat) ≤ (Y : Rat) := rle (show 0 ≤ Y by omega)
    have a := Rat.mul_le_mul_of_nonneg_right h1 hp
    have b := Rat.mul_le_mul_of_nonneg_right h2 hp
    constructor
    · refine Rat.intCast_le_intCast.1 ?_
      rw [Rat.intCast_mul, Rat.intCast_mul, e]; grind
    · refine Rat.intCast_le_intCast.1 ?_
      rw [Rat.intCast_mul, Rat.intCast_mul, e]; grind
theorem root_in {a b x : Int} (h : (root a b).2.2 = 0) (hb : b ≤ 9223372036854775807) (h1 : a ≤ x) (h2 : x ≤ b) (h0 : 0 ≤ x) : (root a b).1 * (root a b).1 ≤ x * 4294967296 ∧ x * 4294967296 ≤ (root a b).2.1 * (root a b).2.1 ∧ I64 (root a b).1 ∧ I64 (root a b).2.1 := by
  unfold root at h ⊢
  split at h
  · rename_i g
    rw [if_pos g]
    rw [if_neg (by omega)]
    dsimp only
    obtain ⟨m1, m2⟩ := isq_at (x := max a 0 * 4294967296) (by omega) (by omega)
    obtain ⟨n1, n2, n3, n4⟩ := rootUp_at (x := b * 4294967296) (by omega) (by omega)
    obtain ⟨q1, q2⟩ := isqrt_bd (max a 0 * 4294967296)
    generalize isqrt (max a 0 * 4294967296) = R1 at *
    generalize rootUp (b * 4294967296) = R2 at *
    unfold I64
    omega
  · cases h
def HoldsR (x rl rh re : Int) (w : World) : Prop :=
  ((re = 0) → (
  ((x < 0) → (
  (.bool true : Value) = (.bool true))) ∧ (¬ (x < 0) → (
  ∃ (x52 : Int), ∃ (x53 : Int), (∀ w' : World, Below w.heap.size w w' → Calls Tryd.prog 15 #[.int .i64 x] w' (Vc.Ret (.agg #[.int .i64 x52, .int .u64 x53]) w')) ∧
  ∃ (x54 : Int), ∃ (x55 : Int), (∀ w' : World, Below w.heap.size w w' → Calls Tryd.prog 18 #[.agg #[.int .i64 x52, .int .u64 x53], .int .i64 32] w' (Vc.Ret (.agg #[.int .i64 x54, .int .u64 x55]) w')) ∧
  ∃ (x56 : Int), ∃ (x57 : Int), (∀ w' : World, Below w.heap.size w w' → Calls Tryd.prog 13 #[.int .i64 rl, .int .i64 rl] w' (Vc.Ret (.agg #[.int .i64 x56, .int .u64 x57]) w')) ∧
  ∃ (b6 : Bool), (∀ w' : World, Below w.heap.size w w' → Calls Tryd.prog 16 #[.agg #[.int .i64 x54, .int .u64 x55], .agg #[.int .i64 x56, .int .u64 x57]] w' (Vc.Ret (.bool b6) w')) ∧
  ∃ (x58 : Int), ∃ (x59 : Int), (∀ w' : World, Below w.heap.size w w' → Calls Tryd.prog 13 #[.int .i64 rh, .int .i64 rh] w' (Vc.Ret (.agg #[.int .i64 x58, .int .u64 x59]) w')) ∧
  ∃ (b7 : Bool), (∀ w' : World, Below w.heap.size w w' → Calls Tryd.prog 16 #[.agg #[.int .i64 x58, .int .u64 x59], .agg #[.int .i64 x54, .int .u64 x55]] w' (Vc.Ret (.bool b7) w')) ∧
  ((true = true) → (
  ((b6 = true) → (
  (.bool false : Value) = (.bool true))) ∧ (¬ (b6 = true) → (
  (.bool (!b7) : Value) = (.bool true))))) ∧ (¬ (true = true) → (
  (.bool false : Value) = (.bool true))))))) ∧ (¬ (re = 0) → (
  (.bool true : Value) = (.bool true)))
def HoldsD (x y dl dh de rl rh re : Int) (w : World) : Prop :=
  ((de = 0) → (
  ∃ (x45 : Int), ∃ (x46 : Int), (∀ w' : World, Below w.heap.size w w' → Calls Tryd.prog 15 #[.int .i64 x] w' (Vc.Ret (.agg #[.int .i64 x45, .int .u64 x46]) w')) ∧
  ∃ (x47 : Int), ∃ (x48 : Int), (∀ w' : World, Below w.heap.size w w' → Calls Tryd.prog 18 #[.agg #[.int .i64 x45, .int .u64 x46], .int .i64 32] w' (Vc.Ret (.agg #[.int .i64 x47, .int .u64 x48]) w')) ∧
  ((y < 0) → (
  ∀ x49 : Int, x49 = IntKind.i64.wrap (0 - dh) →
  ∀ x50 : Int, x50 = IntKind.i64.wrap (0 - dl) →
  ∀ x51 : Int, x51 = IntKind.i64.wrap (0 - y) →
  ∃ (b5 : Bool), (∀ w' : World, Below w.heap.size w w' → Calls Tryd.prog 33 #[.agg #[.int .i64 x47, .int .u64 x48], .int .i64 x49, .int .i64 x50, .int .i64 x51] w' (Vc.Ret (.bool b5) w')) ∧
  ((b5 = true) → (
  ((re = 0) → (
  ((x < 0) → (
  (.bool true : Value) = (.bool true))) ∧ (¬ (x < 0) → (
  ∃ (x52 : Int), ∃ (x53 : Int), (∀ w' : World, Below w.heap.size w w' → Calls Tryd.prog 15 #[.int .i64 x] w' (Vc.Ret (.agg #[.int .i64 x52, .int .u64 x53]) w')) ∧
  ∃ (x54 : Int), ∃ (x55 : Int), (∀ w' : World, Below w.heap.size w w' → Calls Tryd.prog 18 #[.agg #[.int .i64 x52, .int .u64 x53], .int .i64 32] w' (Vc.Ret (.agg #[.int .i64 x54, .int .u64 x55]) w')) ∧
  ∃ (x56 : Int), ∃ (x57 : Int), (∀ w' : World, Below w.heap.size w w' → Calls Tryd.prog 13 #[.int .i64 rl, .int .i64 rl] w' (Vc.Ret (.agg #[.int .i64 x56, .int .u64 x57]) w')) ∧
  ∃ (b6 : Bool), (∀ w' : World, Below w.heap.size w w' → Calls Tryd.prog 16 #[.agg #[.int .i64 x54, .int .u64 x55], .agg #[.int .i64 x56, .int .u64 x57]] w' (Vc.Ret (.bool b6) w')) ∧
  ∃ (x58 : Int), ∃ (x59 : Int), (∀ w' : World, Below w.heap.size w w' → Calls Tryd.prog 13 #[.int .i64 rh, .int .i64 rh] w' (Vc.Ret (.agg #[.int .i64 x58, .int .u64 x59]) w')) ∧
  ∃ (b7 : Bool), (∀ w' : World, Below w.heap.size w w' → Calls Tryd.prog 16 #[.agg #[.int .i64 x58, .int .u64 x59], .agg #[.int .i64 x54, .int .u64 x55]] w' (Vc.Ret (.bool b7) w')) ∧
  ((true = true) → (
  ((b6 = true) → (
  (.bool false : Value) = (.bool true))) ∧ (¬ (b6 = true) → (
  (.bool (!b7) : Value) = (.bool true))))) ∧ (¬ (true = true) → (
  (.bool false : Value) = (.bool true))))))) ∧ (¬ (re = 0) → (
  (.bool true : Value) = (.bool true))))) ∧ (¬ (b5 = true) → (
  (.bool false : Value) = (.bool true))))) ∧ (¬ (y < 0) → (
  ∃ (b5 : Bool), (∀ w' : World, Below w.heap.size w w' → Calls Tryd.prog 33 #[.agg #[.int .i64 x47, .int .u64 x48], .int .i64 dl, .int .i64 dh, .int .i64 y] w' (Vc.Ret (.bool b5) w')) ∧
  ((b5 = true) → (
  ((re = 0) → (
  ((x < 0) → (
  (.bool true : Value) = (.bool true))) ∧ (¬ (x < 0) → (
  ∃ (x49 : Int), ∃ (x50 : Int), (∀ w' : World, Below w.heap.size w w' → Calls Tryd.prog 15 #[.int .i64 x] w' (Vc.Ret (.agg #[.int .i64 x49, .int .u64 x50]) w')) ∧
  ∃ (x51 : Int), ∃ (x52 : Int), (∀ w' : World, Below w.heap.size w w' → Calls Tryd.prog 18 #[.agg #[.int .i64 x49, .int .u64 x50], .int .i64 32] w' (Vc.Ret (.agg #[.int .i64 x51, .int .u64 x52]) w')) ∧
  ∃ (x53 : Int), ∃ (x54 : Int), (∀ w' : World, Below w.heap.size w w' → Calls Tryd.prog 13 #[.int .i64 rl, .int .i64 rl] w' (Vc.Ret (.agg #[.int .i64 x53, .int .u64 x54]) w')) ∧
  ∃ (b6 : Bool), (∀ w' : World, Below w.heap.size w w' → Calls Tryd.prog 16 #[.agg #[.int .i64 x51, .int .u64 x52], .agg #[.int .i64 x53, .int .u64 x54]] w' (Vc.Ret (.bool b6) w')) ∧
  ∃ (x55 : Int), ∃ (x56 : Int), (∀ w' : World, Below w.heap.size w w' → Calls Tryd.prog 13 #[.int .i64 rh, .int .i64 rh] w' (Vc.Ret (.agg #[.int .i64 x55, .int .u64 x56]) w')) ∧
  ∃ (b7 : Bool), (∀ w' : World, Below w.heap.size w w' → Calls Tryd.prog 16 #[.agg #[.int .i64 x55, .int .u64 x56], .agg #[.int .i64 x51, .int .u64 x52]] w' (Vc.Ret (.bool b7) w')) ∧
  ((true = true) → (
  ((b6 = true) → (
  (.bool false : Value) = (.bool true))) ∧ (¬ (b6 = true) → (
  (.bool (!b7) : Value) = (.bool true))))) ∧ (¬ (true = true) → (
  (.bool false : Value) = (.bool true))))))) ∧ (¬ (re = 0) → (
  (.bool true : Value) = (.bool true))))) ∧ (¬ (b5 = true) → (
  (.bool false : Value) = (.bool true))))))) ∧ (¬ (de = 0) → (
  ((re = 0) → (
  ((x < 0) → (
  (.bool true : Value) = (.bool true))) ∧ (¬ (x < 0) → (
  ∃ (x45 : Int), ∃ (x46 : Int), (∀ w' : World, Below w.heap.size w w' → Calls Tryd.prog 15 #[.int .i64 x] w' (Vc.Ret (.agg #[.int .i64 x45, .int .u64 x46]) w')) ∧
  ∃ (x47 : Int), ∃ (x48 : Int), (∀ w' : World, Below w.heap.size w w' → Calls Tryd.prog 18 #[.agg #[.int .i64 x45, .int .u64 x46], .int .i64 32] w' (Vc.Ret (.agg #[.int .i64 x47, .int .u64 x48]) w')) ∧
  ∃ (x49 : Int), ∃ (x50 : Int), (∀ w' : World, Below w.heap.size w w' → Calls Tryd.prog 13 #[.int .i64 rl, .int .i64 rl] w' (Vc.Ret (.agg #[.int .i64 x49, .int .u64 x50]) w')) ∧
  ∃ (b5 : Bool), (∀ w' : World, Below w.heap.size w w' → Calls Tryd.prog 16 #[.agg #[.int .i64 x47, .int .u64 x48], .agg #[.int .i64 x49, .int .u64 x50]] w' (Vc.Ret (.bool b5) w')) ∧
  ∃ (x51 : Int), ∃ (x52 : Int), (∀ w' : World, Below w.heap.size w w' → Calls Tryd.prog 13 #[.int .i64 rh, .int .i64 rh] w' (Vc.Ret (.agg #[.int .i64 x51, .int .u64 x52]) w')) ∧
  ∃ (b6 : Bool), (∀ w' : World, Below w.heap.size w w' → Calls Tryd.prog 16 #[.agg #[.int .i64 x51, .int .u64 x52], .agg #[.int .i64 x47, .int .u64 x48]] w' (Vc.Ret (.bool b6) w')) ∧
  ((true = true) → (
  ((b5 = true) → (
  (.bool false : Value) = (.bool true))) ∧ (¬ (b5 = true) → (
  (.bool (!b6) : Value) = (.bool true))))) ∧ (¬ (true = true) → (
  (.bool false : Value) = (.bool true))))))) ∧ (¬ (re = 0) → (
  (.bool true : Value) = (.bool true)))))
def FR (x rl rh re : Int) : Prop := re = 0 → 0 ≤ x → rl * rl ≤ x * 4294967296 ∧ x * 4294967296 ≤ rh * rh ∧ I64 rl ∧ I64 rh
theorem holdsR {x rl rh re : Int} {w : World} (hx : I64 x) (f : FR x rl rh re) : HoldsR x rl rh re w := by
  unfold HoldsR
  refine iteI (fun h => ?_) (fun _ => rfl)
  refine iteI (fun _ => rfl) (fun h0 => ?_)
  obtain ⟨g1, g2, ⟨g3, g4⟩, g5, g6⟩ := f h (by omega)
  obtain ⟨x1, x2⟩ := hx
  refine ⟨_, _, fun w' hw => of_W x w' x1 x2, ?_⟩
  refine ⟨_, _, fun w' hw => up32_W x w' (by omega) (by omega), ?_⟩
  refine ⟨_, _, fun w' hw => times_raw rl rl w' g3 g4 g3 g4, ?_⟩
  refine ⟨_, fun w' hw => less_W _ _ w', ?_⟩
  refine ⟨_, _, fun w' hw => times_raw rh rh w' g5 g6 g5 g6, ?_⟩
  refine ⟨_, fun w' hw => less_W _ _ w', ?_⟩
  refine iteI (fun _ => ?_) (fun h => absurd rfl h)
  refine iteI (fun h => ?_) (fun _ => ?_)
  · have := of_decide_eq_true h; omega
  · rw [decide_eq_false (by omega)]; rfl
def FD (x y dl dh de : Int) : Prop := de = 0 → ((y < 0 → (-dh) * (-y) ≤ x * 4294967296 ∧ x * 4294967296 ≤ (-dl) * (-y)) ∧ (¬ y < 0 → dl * y ≤ x * 4294967296 ∧ x * 4294967296 ≤ dh * y)) ∧ I64 dl ∧ I64 dh ∧ I64 (-dl) ∧ I64 (-dh)
theorem wrap_neg {x : Int} (h : I64 (-x)) : IntKind.i64.wrap (0 - x) = -x := by
  obtain ⟨h1, h2⟩ := h; simp only [Ul.i64_eq]; omega
theorem holdsD {x y dl dh de rl rh re : Int} {w : World} (hx : I64 x) (hy : I64 y) (hy' : I64 (-y)) (f : FD x y dl dh de) (g : FR x rl rh re) : HoldsD x y dl dh de rl rh re w := by
  have r := @holdsR x rl rh re w hx g
  obtain ⟨x1, x2⟩ := id hx
  unfold HoldsD
  refine iteI (fun h => ?_) (fun _ => r)
  obtain ⟨⟨f1, f2⟩, i1, i2, i3, i4⟩ := f h
  refine ⟨_, _, fun w' hw => of_W x w' x1 x2, ?_⟩
  refine ⟨_, _, fun w' hw => up32_W x w' (by omega) (by omega), ?_⟩
  refine iteI (fun hn => ?_) (fun hn => ?_)
  · intro z1 h1 z2 h2 z3 h3
    rw [wrap_neg i4] at h1
    rw [wrap_neg i3] at h2
    rw [wrap_neg hy'] at h3
    subst h1 h2 h3
    refine ⟨true, fun w' hw => between_t (x * 4294967296) (-dh) (-dl) (-y) w' (f1 hn) i4 i3 hy', ?_⟩
    exact iteI (fun _ => r) (fun h => absurd rfl h)
  · refine ⟨true, fun w' hw => between_t (x * 4294967296) dl dh y w' (f2 hn) i1 i2 hy, ?_⟩
    exact iteI (fun _ => r) (fun h => absurd rfl h)
set_option maxHeartbeats 16000000 in
theorem holds_walk {w : World} (a : Int) (ha : (Lit.int .i64 a).wf = true) (b : Int) (hb : (Lit.int .i64 b).wf = true) (c : Int) (hc : (Lit.int .i64 c).wf = true) (d : Int) (hd : (Lit.int .i64 d).wf = true) (n : Int) (hn : 0 ≤ n) (m : Int) (hm : 0 ≤ m) :
    Calls Tryd.prog 6 #[Vc.S a b, Vc.S c d, .agg #[.int .u64 n, .int .u64 m]] w (Vc.Ret (.bool true) w) := by
  replace ha := wfI64 ha; replace hb := wfI64 hb; replace hc := wfI64 hc; replace hd := wfI64 hd
  refine vc_ullagelaw01_SpanHolds a b c d n m w _ ?_
  refine ⟨true, fun w' hw => alive_any w', _, fun w' hw => check_any a b w', ?_⟩
  refine iteI (fun h1 => ?_) (fun _ => rfl)
  refine ⟨_, fun w' hw => check_any c d w', ?_⟩
  refine iteI (fun h2 => ?_) (fun _ => rfl)
  refine iteI (fun _ => ?_) (fun h => absurd rfl h)
  have k1 := chk_ok h1; have k2 := chk_ok h2
  obtain ⟨a1, a2, a3⟩ := ok_3 k1
  obtain ⟨c1, c2, c3⟩ := ok_3 k2
  clear h1 h2
  obtain ⟨x, x1, x2, px⟩ := pick_any a b n k1 hn hb.2
  obtain ⟨y, y1, y2, py⟩ := pick_any c d m k2 hm hd.2
  refine ⟨x, fun w' hw => px w', y, fun w' hw => py w', ?_⟩
  have rx : rin (x : Rat) (a, b) := rin_of x1 x2
  have ry : rin (y : Rat) (c, d) := rin_of y1 y2
  have hx : I64 x := by unfold I64 at *; omega
  have hy : I64 y := by unfold I64 at *; omega
  have i1 : I64 1 := by unfold I64; decide
  have i2 : I64 4294967296 := by unfold I64; decide
  have fA : (add a b c d).2.2 = 0 → ((add a b c d).1 * 1 ≤ x + y ∧ x + y ≤ (add a b c d).2.1 * 1) ∧ I64 (add a b c d).1 ∧ I64 (add a b c d).2.1 := fun h => by
    obtain ⟨h1, h2⟩ := add_rin (a := (a, b)) (b := (c, d)) rx ry h
    rw [← Rat.intCast_add] at h1 h2
    exact ⟨⟨by rw [Int.mul_one]; exact Rat.intCast_le_intCast.1 h1, by rw [Int.mul_one]; exact Rat.intCast_le_intCast.1 h2⟩, add_i h⟩
  have fS : (sub a b c d).2.2 = 0 → ((sub a b c d).1 * 1 ≤ x + -y ∧ x + -y ≤ (sub a b c d).2.1 * 1) ∧ I64 (sub a b c d).1 ∧ I64 (sub a b c d).2.1 := fun h => by
    obtain ⟨h1, h2⟩ := sub_rin (a := (a, b)) (b := (c, d)) rx ry h
    rw [← Rat.intCast_sub, Int.sub_eq_add_neg] at h1 h2
    exact ⟨⟨by rw [Int.mul_one]; exact Rat.intCast_le_intCast.1 h1, by rw [Int.mul_one]; exact Rat.intCast_le_intCast.1 h2⟩, sub_i h⟩
  have fM : (mul a b c d).2.2 = 0 → ((mul a b c d).1 * 4294967296 ≤ x * y ∧ x * y ≤ (mul a b c d).2.1 * 4294967296) ∧ I64 (mul a b c d).1 ∧ I64 (mul a b c d).2.1 := fun h => by
    have h1 := mul_rin (a := (a, b)) (b := (c, d)) rx ry h
    rw [← Rat.intCast_mul] at h1
    exact ⟨back h1, mul_i h⟩
  have fQ : (square a b).2.2 = 0 → ((square a b).1 * 4294967296 ≤ x * x ∧ x * x ≤ (square a b).2.1 * 4294967296) ∧ I64 (square a b).1 ∧ I64 (square a b).2.1 := fun h => by
    have h1 := square_rin rx h
    rw [← Rat.intCast_mul] at h1
    exact ⟨back h1, square_i h⟩
  have fD : FD x y (div a b c d).1 (div a b c d).2.1 (div a b c d).2.2 := fun h => by
    obtain ⟨h0, h1⟩ := div_rin (a := (a, b)) (b := (c, d)) rx ry h
    exact ⟨back_div (fun e => h0 (by rw [e]; rfl)) h1, div_i h⟩
  have fR : FR x (root a b).1 (root a b).2.1 (root a b).2.2 := fun h h0 => root_in h hb.2 x1 x2 h0
  refine ⟨_, _, _, fun w' hw => padd_any a b c d w' ha hb hc hd, ?_⟩
  refine ⟨_, _, _, fun w' hw => psub_any a b c d w' ha hb hc hd, ?_⟩
  refine ⟨_, _, _, fun w' hw => pmul_any a b c d w' ha hb hc hd, ?_⟩
  refine ⟨_, _, _, fun w' hw => pdiv_any a b c d w' ha hb hc hd, ?_⟩
  refine ⟨_, _, _, fun w' hw => psquare_any a b w' ha hb, ?_⟩
  refine ⟨_, _, _, fun w' hw => pRoot_any a b w' ha hb, ?_⟩
  generalize (add a b c d).1 = al at *
  generalize (add a b c d).2.1 = ah at *
  generalize (add a b c d).2.2 = ae at *
  generalize (sub a b c d).1 = sl at *
  generalize (sub a b c d).2.1 = sh at *
  generalize (sub a b c d).2.2 = se at *
  generalize (mul a b c d).1 = ml at *
  generalize (mul a b c d).2.1 = mh at *
  generalize (mul a b c d).2.2 = me at *
  generalize (square a b).1 = ql at *
  generalize (square a b).2.1 = qh at *
  generalize (square a b).2.2 = qe at *
  generalize (div a b c d).1 = dl at *
  generalize (div a b c d).2.1 = dh at *
  generalize (div a b c d).2.2 = de at *
  generalize (root a b).1 = rl at *
  generalize (root a b).2.1 = rh at *
  generalize (root a b).2.2 = re at *
  have wy : IntKind.i64.wrap (0 - y) = -y := by simp only [Ul.i64_eq]; unfold I64 at *; omega
  have iy : I64 (-y) := by unfold I64 at *; omega
  have px' : P127 (x + y) := by unfold P127; unfold I64 at *; omega
  have px'' : P127 (x + -y) := by unfold P127; unfold I64 at *; omega
  clear px py rx ry
  have wy : IntKind.i64.wrap (0 - y) = -y := wrap_neg iy
  have tD := @holdsD x y dl dh de rl rh re w hx hy iy fD fR
  have qQ : ∀ P : Prop, P → (((qe = 0) → (∃ (x1 : Int), ∃ (x2 : Int), (∀ w' : World, Below w.heap.size w w' → Calls Tryd.prog 13 #[.int .i64 x, .int .i64 x] w' (Vc.Ret (.agg #[.int .i64 x1, .int .u64 x2]) w')) ∧
      ∃ (b : Bool), (∀ w' : World, Below w.heap.size w w' → Calls Tryd.prog 33 #[.agg #[.int .i64 x1, .int .u64 x2], .int .i64 ql, .int .i64 qh, .int .i64 4294967296] w' (Vc.Ret (.bool b) w')) ∧
      (((b = true) → P) ∧ (¬ (b = true) → (.bool false : Value) = .bool true)))) ∧ (¬ (qe = 0) → P)) := fun P hp =>
    iteI (fun h => ⟨_, _, fun w' hw => times_raw x x w' hx.1 hx.2 hx.1 hx.2, true, fun w' hw => between_t (x * x) ql qh 4294967296 w' (fQ h).1 (fQ h).2.1 (fQ h).2.2 i2, iteI (fun _ => hp) (fun h => absurd rfl h)⟩) (fun _ => hp)
  have qM := fun P hp => (show ∀ P : Prop, P → (((me = 0) → (∃ (x1 : Int), ∃ (x2 : Int), (∀ w' : World, Below w.heap.size w w' → Calls Tryd.prog 13 #[.int .i64 x, .int .i64 y] w' (Vc.Ret (.agg #[.int .i64 x1, .int .u64 x2]) w')) ∧
      ∃ (b : Bool), (∀ w' : World, Below w.heap.size w w' → Calls Tryd.prog 33 #[.agg #[.int .i64 x1, .int .u64 x2], .int .i64 ml, .int .i64 mh, .int .i64 4294967296] w' (Vc.Ret (.bool b) w')) ∧
      (((b = true) → P) ∧ (¬ (b = true) → (.bool false : Value) = .bool true)))) ∧ (¬ (me = 0) → P)) from fun P hp =>
    iteI (fun h => ⟨_, _, fun w' hw => times_raw x y w' hx.1 hx.2 hy.1 hy.2, true, fun w' hw => between_t (x * y) ml mh 4294967296 w' (fM h).1 (fM h).2.1 (fM h).2.2 i2, iteI (fun _ => hp) (fun h => absurd rfl h)⟩) (fun _ => hp)) P hp
  have qMQ := qM _ (qQ _ tD)
  refine iteI (fun h => ?_) (fun h => ?_)
  · refine ⟨_, _, fun w' hw => of_W x w' hx.1 hx.2, ?_⟩
    refine ⟨_, _, fun w' hw => of_W y w' hy.1 hy.2, ?_⟩
    refine ⟨_, _, fun w' hw => plus_W x y w' px', ?_⟩
    refine ⟨true, fun w' hw => between_t (x + y) al ah 1 w' (fA h).1 (fA h).2.1 (fA h).2.2 i1, ?_⟩
    refine iteI (fun _ => ?_) (fun h => absurd rfl h)
    refine iteI (fun h => ?_) (fun h => qMQ)
    refine ⟨_, _, fun w' hw => of_W x w' hx.1 hx.2, ?_⟩
    intro z hz; rw [wy] at hz; subst hz
    refine ⟨_, _, fun w' hw => of_W (-y) w' iy.1 iy.2, ?_⟩
    refine ⟨_, _, fun w' hw => plus_W x (-y) w' px'', ?_⟩
    refine ⟨true, fun w' hw => between_t (x + -y) sl sh 1 w' (fS h).1 (fS h).2.1 (fS h).2.2 i1, ?_⟩
    exact iteI (fun _ => qMQ) (fun h => absurd rfl h)
  · refine iteI (fun h => ?_) (fun h => qMQ)
    refine ⟨_, _, fun w' hw => of_W x w' hx.1 hx.2, ?_⟩
    intro z hz; rw [wy] at hz; subst hz
    refine ⟨_, _, fun w' hw => of_W (-y) w' iy.1 iy.2, ?_⟩
    refine ⟨_, _, fun w' hw => plus_W x (-y) w' px'', ?_⟩
    refine ⟨true, fun w' hw => between_t (x + -y) sl sh 1 w' (fS h).1 (fS h).2.1 (fS h).2.2 i1, ?_⟩
    exact iteI (fun _ => qMQ) (fun h => absurd rfl h)
theorem walk_spanHolds {w : World} (a : Int) (ha : (Lit.int .i64 a).wf = true) (b : Int) (hb : (Lit.int .i64 b).wf = true) (c : Int) (hc : (Lit.int .i64 c).wf = true) (d : Int) (hd : (Lit.int .i64 d).wf = true) (m : Int × Int) (hm : 0 ≤ m.1 ∧ 0 ≤ m.2) :
    Calls Tryd.prog 6 #[Vc.S a b, Vc.S c d, .agg #[.int .u64 m.1, .int .u64 m.2]] w (Vc.Ret (.bool true) w) :=
  holds_walk a ha b hb c hc d hd m.1 hm.1 m.2 hm.2
end Go.Proofs.YtndeppnboolfiaaDoor
