/- Contracts of the layer, as far as they are wanted (written by program out of the templates). -/
import Derived.Test.YtndeppnboolfiaaDoorGiA
import Derived.Test.YtndeppnboolfiaaDoorGiG3
import Derived.Test.YtndeppnboolfiaaDoorTx
import Derived.WalkKit
import Derived.ProofKit
import Derived.OpenShut
import Derived.Lib.SmallJoins

set_option linter.unusedVariables false
set_option linter.unusedSimpArgs false
namespace Go.Proofs.YtndeppnboolfiaaDoor
open Go Go.RowKit Ul Vc
attribute [local irreducible] Go.Calls
abbrev Sp := Int × Int
/-- The place with a number, taken round. -/
def sp (l : List Sp) (i : Nat) : Sp := l.getD (i % l.length) (0, 0)
end Go.Proofs.YtndeppnboolfiaaDoor
set_option linter.unusedVariables false
namespace Go.Proofs.YtndeppnboolfiaaDoor
open Go Go.RowKit Ul
def rin (x : Rat) (p : Int × Int) : Prop := (p.1 : Rat) ≤ x ∧ x ≤ (p.2 : Rat)
abbrev lohi (r : R) : Int × Int := (r.1, r.2.1)
theorem rle {a b : Int} (h : a ≤ b) : (a : Rat) ≤ b := Rat.intCast_le_intCast.2 h
theorem rin_le {x : Rat} {p : Int × Int} (h : rin x p) : p.1 ≤ p.2 := Rat.intCast_le_intCast.1 (by unfold rin at h; grind)
theorem fit_ok {a b : Int} (h : (fit a b).2.2 = 0) : fit a b = (a, b, 0) ∧ (-9223372036854775807 ≤ a ∧ a ≤ 9223372036854775807) ∧ -9223372036854775807 ≤ b ∧ b ≤ 9223372036854775807 := by
  unfold fit at h ⊢
  split at h
  · rename_i g; rw [if_pos g]; exact ⟨rfl, by omega, by omega⟩
  · cases h
/-- A product is not below all products of the bounds, and not above all. -/
theorem corner {a b c d x y : Rat} (hx : a ≤ x ∧ x ≤ b) (hy : c ≤ y ∧ y ≤ d) :
    (a * c ≤ x * y ∨ a * d ≤ x * y ∨ b * c ≤ x * y ∨ b * d ≤ x * y) ∧ (x * y ≤ a * c ∨ x * y ≤ a * d ∨ x * y ≤ b * c ∨ x * y ≤ b * d) := by
  have key : ∀ {u v w z : Rat}, u ≤ v → 0 ≤ w → u * w ≤ v * w := fun h hw => Rat.mul_le_mul_of_nonneg_right h hw
  have l : ∀ {u v w : Rat}, u ≤ v → 0 ≤ w → w * u ≤ w * v := fun h hw => Rat.mul_le_mul_of_nonneg_left h hw
  have ln : ∀ {u v w : Rat}, u ≤ v → w ≤ 0 → w * v ≤ w * u := fun {u v w} h hw => by
    have := l (w := -w) h (by grind)
    grind
  have hlow : a * y ≤ x * y ∨ b * y ≤ x * y := by
    by_cases h : 0 ≤ y
    · have := l hx.1 h; grind
    · have := ln hx.2 (w := y) (by grind); grind
  have hhigh : x * y ≤ a * y ∨ x * y ≤ b * y := by
    by_cases h : 0 ≤ y
    · have := l hx.2 h; grind
    · have := ln hx.1 (w := y) (by grind); grind
  have la : ∀ w : Rat, (w * c ≤ w * y ∨ w * d ≤ w * y) ∧ (w * y ≤ w * c ∨ w * y ≤ w * d) := fun w => by
    by_cases h : 0 ≤ w
    · exact ⟨.inl (l hy.1 h), .inr (l hy.2 h)⟩
    · exact ⟨.inr (ln hy.2 (by grind)), .inl (ln hy.1 (by grind))⟩
  have h1 := la a
  have h2 := la b
  grind
theorem fl_rat {x y : Int} (h : 0 < y) : ((fl x y : Int) : Rat) * y ≤ x := by
  rw [← Rat.intCast_mul]
  exact rle (Int.ediv_mul_le x (by omega))
theorem ce_rat {x y : Int} (h : 0 < y) : (x : Rat) ≤ ((ce x y : Int) : Rat) * y := by
  rw [← Rat.intCast_mul]
  refine rle ?_
  unfold ce
  have := Int.ediv_mul_le (-x) (show y ≠ 0 by omega)
  rw [Int.neg_mul]
  omega
theorem min4_le (a b c d : Int) : min4 a b c d ≤ a ∧ min4 a b c d ≤ b ∧ min4 a b c d ≤ c ∧ min4 a b c d ≤ d := by unfold min4; omega
theorem max4_ge (a b c d : Int) : a ≤ max4 a b c d ∧ b ≤ max4 a b c d ∧ c ≤ max4 a b c d ∧ d ≤ max4 a b c d := by unfold max4; omega
theorem mul_rin {a b : Int × Int} {x y : Rat} (hx : rin x a) (hy : rin y b) (h : (mul a.1 a.2 b.1 b.2).2.2 = 0) : rin (x * y / 4294967296) (lohi (mul a.1 a.2 b.1 b.2)) := by
  unfold mul at h ⊢
  split at h
  · rename_i g
    rw [if_pos g, (fit_ok h).1]
    have hc := corner hx hy
    have m := min4_le (a.1 * b.1) (a.1 * b.2) (a.2 * b.1) (a.2 * b.2)
    have M := max4_ge (a.1 * b.1) (a.1 * b.2) (a.2 * b.1) (a.2 * b.2)
    have f := fl_rat (x := min4 (a.1 * b.1) (a.1 * b.2) (a.2 * b.1) (a.2 * b.2)) (y := 4294967296) (by omega)
    have c := ce_rat (x := max4 (a.1 * b.1) (a.1 * b.2) (a.2 * b.1) (a.2 * b.2)) (y := 4294967296) (by omega)
    generalize min4 (a.1 * b.1) (a.1 * b.2) (a.2 * b.1) (a.2 * b.2) = m4 at *
    generalize max4 (a.1 * b.1) (a.1 * b.2) (a.2 * b.1) (a.2 * b.2) = M4 at *
    have m' := (fun h => rle h : m4 ≤ a.1 * b.1 → _) m.1
    have m1 := rle m.2.1
    have m2 := rle m.2.2.1
    have m3 := rle m.2.2.2
    have M0 := rle M.1
    have M1 := rle M.2.1
    have M2 := rle M.2.2.1
    have M3 := rle M.2.2.2
    simp only [Rat.intCast_mul] at m' m1 m2 m3 M0 M1 M2 M3
    unfold rin lohi at *
    simp only
    have e : ((4294967296 : Int) : Rat) = 4294967296 := by rfl
    rw [e] at f c
    generalize ((fl m4 4294967296 : Int) : Rat) = F at *
    generalize ((ce M4 4294967296 : Int) : Rat) = C at *
    constructor <;> grind
  · cases h
theorem le_quo {F M X : Rat} (h : F * M ≤ X) (hM : 0 < M) : F ≤ X / M := by
  have hi : 0 < M⁻¹ := by exact Rat.inv_pos.2 hM
  have := Rat.mul_le_mul_of_nonneg_right h (Rat.le_of_lt hi)
  have e : F * M * M⁻¹ = F := by grind
  rwa [e, ← Rat.div_def] at this
theorem quo_le {F M X : Rat} (h : X ≤ F * M) (hM : 0 < M) : X / M ≤ F := by
  have hi : 0 < M⁻¹ := by exact Rat.inv_pos.2 hM
  have := Rat.mul_le_mul_of_nonneg_right h (Rat.le_of_lt hi)
  have e : F * M * M⁻¹ = F := by grind
  rwa [e, ← Rat.div_def] at this
theorem inv_le {c y : Rat} (hc : 0 < c) (h : c ≤ y) : y⁻¹ ≤ c⁻¹ := by
  have h1 : 0 < c⁻¹ := Rat.inv_pos.2 hc
  have h2 : 0 < y⁻¹ := Rat.inv_pos.2 (by grind)
  have := Rat.mul_le_mul_of_nonneg_right h (Rat.le_of_lt (Rat.mul_pos h1 h2))
  have e1 : c * (c⁻¹ * y⁻¹) = y⁻¹ := by grind
  have e2 : y * (c⁻¹ * y⁻¹) = c⁻¹ := by grind
  rwa [e1, e2] at this
theorem inv_leN {c y : Rat} (hc : y < 0) (h : c ≤ y) : y⁻¹ ≤ c⁻¹ := by
  have := inv_le (c := -y) (y := -c) (by grind) (by grind)
  have e1 : (-c)⁻¹ = -(c⁻¹) := by grind
  have e2 : (-y)⁻¹ = -(y⁻¹) := by grind
  rw [e1, e2] at this
  grind
theorem rdn_rat {n m : Int} (h : m ≠ 0) : ((rdn n m : Int) : Rat) ≤ (n : Rat) * 4294967296 / m := by
  have e : ((4294967296 : Int) : Rat) = 4294967296 := by rfl
  unfold rdn
  split
  · have f := fl_rat (x := -(n * 4294967296)) (y := -m) (by omega)
    have q := le_quo f (by have := Rat.intCast_lt_intCast.2 (show (0 : Int) < -m by omega); simpa using this)
    have hm : (m : Rat) ≠ 0 := fun h' => h (Rat.intCast_eq_zero_iff.1 h')
    rw [Rat.intCast_neg, Rat.intCast_neg, Rat.intCast_mul, e] at q
    have e2 : -((n : Rat) * 4294967296) / -(m : Rat) = (n : Rat) * 4294967296 / m := by grind
    rwa [e2] at q
  · have f := fl_rat (x := n * 4294967296) (y := m) (by omega)
    have q := le_quo f (by have := Rat.intCast_lt_intCast.2 (show (0 : Int) < m by omega); simpa using this)
    rwa [Rat.intCast_mul, e] at q
theorem rup_rat {n m : Int} (h : m ≠ 0) : (n : Rat) * 4294967296 / m ≤ ((rup n m : Int) : Rat) := by
  have e : ((4294967296 : Int) : Rat) = 4294967296 := by rfl
  unfold rup
  split
  · have f := ce_rat (x := -(n * 4294967296)) (y := -m) (by omega)
    have q := quo_le f (by have := Rat.intCast_lt_intCast.2 (show (0 : Int) < -m by omega); simpa using this)
    have hm : (m : Rat) ≠ 0 := fun h' => h (Rat.intCast_eq_zero_iff.1 h')
    rw [Rat.intCast_neg, Rat.intCast_neg, Rat.intCast_mul, e] at q
    have e2 : -((n : Rat) * 4294967296) / -(m : Rat) = (n : Rat) * 4294967296 / m := by grind
    rwa [e2] at q
  · have f := ce_rat (x := n * 4294967296) (y := m) (by omega)
    have q := quo_le f (by have := Rat.intCast_lt_intCast.2 (show (0 : Int) < m by omega); simpa using this)
    rwa [Rat.intCast_mul, e] at q
theorem div_rin {a b : Int × Int} {x y : Rat} (hx : rin x a) (hy : rin y b) (h : (div a.1 a.2 b.1 b.2).2.2 = 0) : y ≠ 0 ∧ rin (x * 4294967296 / y) (lohi (div a.1 a.2 b.1 b.2)) := by
  unfold div at h ⊢
  split at h
  · rename_i g
    split at h
    · cases h
    · rename_i g2
      rw [if_pos g, if_neg g2, (fit_ok h).1]
      have z0 : ∀ m : Int, ((0 : Int) : Rat) = 0 := fun _ => rfl
      have hinv : y ≠ 0 ∧ (b.2 : Rat)⁻¹ ≤ y⁻¹ ∧ y⁻¹ ≤ (b.1 : Rat)⁻¹ := by
        have hbb := rin_le hy
        by_cases hc : 0 < b.1
        · have h1 : (0 : Rat) < b.1 := by have := Rat.intCast_lt_intCast.2 hc; simpa using this
          unfold rin at hy
          exact ⟨by grind, inv_le (by grind) hy.2, inv_le h1 hy.1⟩
        · have hd : b.2 < 0 := by omega
          have h1 : (b.2 : Rat) < 0 := by have := Rat.intCast_lt_intCast.2 hd; simpa using this
          unfold rin at hy
          exact ⟨by grind, inv_leN h1 hy.2, inv_leN (by grind) hy.1⟩
      obtain ⟨hy0, hi⟩ := hinv
      refine ⟨hy0, ?_⟩
      have n1 : b.1 ≠ 0 := fun h => by have := rin_le hy; omega
      have n2 : b.2 ≠ 0 := fun h => by have := rin_le hy; omega
      have hc := corner hx hi
      have m := min4_le (rdn a.1 b.1) (rdn a.1 b.2) (rdn a.2 b.1) (rdn a.2 b.2)
      have M := max4_ge (rup a.1 b.1) (rup a.1 b.2) (rup a.2 b.1) (rup a.2 b.2)
      have e : ∀ n w : Rat, n * 4294967296 / w = n * w⁻¹ * 4294967296 := fun n w => by rw [Rat.div_def]; grind
      have d1 := rdn_rat (n := a.1) n1
      have d2 := rdn_rat (n := a.1) n2
      have d3 := rdn_rat (n := a.2) n1
      have d4 := rdn_rat (n := a.2) n2
      have u1 := rup_rat (n := a.1) n1
      have u2 := rup_rat (n := a.1) n2
      have u3 := rup_rat (n := a.2) n1
      have u4 := rup_rat (n := a.2) n2
      rw [e] at d1 d2 d3 d4 u1 u2 u3 u4
      have m0 := rle m.1
      have m1 := rle m.2.1
      have m2 := rle m.2.2.1
      have m3 := rle m.2.2.2
      have M0 := rle M.1
      have M1 := rle M.2.1
      have M2 := rle M.2.2.1
      have M3 := rle M.2.2.2
      unfold rin lohi
      simp only
      rw [e]
      generalize ((min4 (rdn a.1 b.1) (rdn a.1 b.2) (rdn a.2 b.1) (rdn a.2 b.2) : Int) : Rat) = F at *
      generalize ((max4 (rup a.1 b.1) (rup a.1 b.2) (rup a.2 b.1) (rup a.2 b.2) : Int) : Rat) = C at *
      clear h g g2 hx hy z0 m M hi
      generalize (a.1 : Rat) * (b.1 : Rat)⁻¹ = q1 at *
      generalize (a.1 : Rat) * (b.2 : Rat)⁻¹ = q2 at *
      generalize (a.2 : Rat) * (b.1 : Rat)⁻¹ = q3 at *
      generalize (a.2 : Rat) * (b.2 : Rat)⁻¹ = q4 at *
      generalize x * y⁻¹ = q at *
      constructor <;> grind
  · cases h
end Go.Proofs.YtndeppnboolfiaaDoor
set_option linter.unusedVariables false
set_option maxRecDepth 100000
namespace Go.Proofs.YtndeppnboolfiaaDoor
open Go Go.RowKit Go.Proofs Vc Ul
theorem of_any (a b : Int) (x : Int) (y : Int) (hx : IntKind.i64.wrap (a * 4294967296) = x) (hy : IntKind.i64.wrap (b * 4294967296) = y) (w : World) : Calls Tryd.prog 47 #[.int .i64 a, .int .i64 b] w (Vc.Ret (Vc.S x y) w) := by
  refine vc_ullagelaw01_of a b w _ ?_
  rintro _ rfl _ rfl
  rw [hx, hy]
theorem text_q (w : World) : Calls Tryd.prog 44 #[.int .i64 (-1073741824)] w (Vc.Ret (.string ⟨([45, 48, 46, 50, 53] : List UInt8).toArray⟩) w) :=
  (text_quarter w).mono fun e w' h => h
theorem alive_any (w : World) : Calls Tryd.prog 11 #[] w (Vc.Ret (.bool true) w) := by
  refine vc_ullagelaw01_alive w _ ?_
  refine ⟨-17179869184, 34359738368, 0, fun w' hw => Ret.mono (pmul_any (-4294967296) 8589934592 12884901888 17179869184 w' (by unfold I64; decide) (by unfold I64; decide) (by unfold I64; decide) (by unfold I64; decide)) (by rw [show mul (-4294967296) 8589934592 12884901888 17179869184 = (-17179869184, 34359738368, 0) by decide +kernel]), ?_⟩
  refine ⟨1431655765, 1431655766, 0, fun w' hw => Ret.mono (pRatio_any 1 3 w' (by unfold I64; decide) (by unfold I64; decide)) (by rw [show ratio 1 3 = (1431655765, 1431655766, 0) by decide +kernel]), ?_⟩
  refine ⟨0, 8589934592, 0, fun w' hw => Ret.mono (pRoot_any (-38654705664) 17179869184 w' (by unfold I64; decide) (by unfold I64; decide)) (by rw [show root (-38654705664) 17179869184 = (0, 8589934592, 0) by decide +kernel]), ?_⟩
  refine iteI (fun _ => ?_) (fun h => absurd rfl h)
  refine ⟨-17179869184, 34359738368, fun w' hw => of_any (-4) 8 _ _ (by decide +kernel) (by decide +kernel) w', ?_⟩
  refine iteI (fun _ => ?_) (fun h => absurd ⟨rfl, rfl⟩ h)
  refine iteI (fun _ => ?_) (fun h => absurd rfl h)
  refine iteI (fun _ => ?_) (fun h => absurd ⟨rfl, rfl⟩ h)
  refine iteI (fun _ => ?_) (fun h => absurd rfl h)
  refine ⟨0, 8589934592, fun w' hw => of_any 0 2 _ _ (by decide +kernel) (by decide +kernel) w', ?_⟩
  refine iteI (fun _ => ?_) (fun h => absurd ⟨rfl, rfl⟩ h)
  exact ⟨_, fun w' hw => text_q w', rfl⟩
end Go.Proofs.YtndeppnboolfiaaDoor
set_option linter.unusedVariables false
set_option maxRecDepth 100000
namespace Go.Proofs.YtndeppnboolfiaaDoor
open Go Go.RowKit Go.Proofs Vc Ul
theorem wfI64 {n : Int} (h : (Lit.int .i64 n).wf = true) : I64 n := by
  simp [Lit.wf, IntKind.min, IntKind.max, IntKind.signed, IntKind.bits] at h; unfold I64; omega
theorem ok_3 {a b : Int} (h : ok a b = true) : -9223372036854775807 ≤ a ∧ -9223372036854775807 ≤ b ∧ a ≤ b := by
  unfold ok at h; simp at h; omega
theorem ok_of {a b : Int} (h1 : -9223372036854775807 ≤ a) (h2 : -9223372036854775807 ≤ b) (h3 : a ≤ b) : ok a b = true := by
  unfold ok; simp; omega
theorem within_ok {a b c d : Int} (h1 : ok a b = true) (h2 : ok c d = true) (h3 : c ≤ a) (h4 : b ≤ d) : within a b c d = true := by
  unfold within; simp [h1, h2, h3, h4]
end Go.Proofs.YtndeppnboolfiaaDoor
set_option linter.unusedVariables false
set_option maxRecDepth 100000
namespace Go.Proofs.YtndeppnboolfiaaDoor
open Go Go.RowKit Go.Proofs Vc Ul
theorem mul_0 {a b c d : Int} (h : (mul a b c d).2.2 = 0) : ok a b = true ∧ ok c d = true ∧ ∃ L H, mul a b c d = (L, H, 0) ∧ (-9223372036854775807 ≤ L ∧ L ≤ 9223372036854775807) ∧ (-9223372036854775807 ≤ H ∧ H ≤ 9223372036854775807) ∧
    L = fl (min4 (a * c) (a * d) (b * c) (b * d)) 4294967296 ∧ H = ce (max4 (a * c) (a * d) (b * c) (b * d)) 4294967296 := by
  unfold mul at h ⊢
  by_cases h1 : (ok a b && ok c d) = true
  · rw [if_pos h1] at h ⊢
    obtain ⟨h2, h3⟩ : ok a b = true ∧ ok c d = true := by simpa using h1
    unfold fit at h ⊢
    split at h
    · rename_i g
      rw [if_pos g]
      exact ⟨h2, h3, _, _, rfl, ⟨g.1, g.2.1⟩, ⟨g.2.2.1, g.2.2.2⟩, rfl, rfl⟩
    · cases h
  · rw [if_neg h1] at h; cases h
end Go.Proofs.YtndeppnboolfiaaDoor
set_option linter.unusedVariables false
set_option maxRecDepth 100000
namespace Go.Proofs.YtndeppnboolfiaaDoor
open Go Go.RowKit Go.Proofs Vc Ul
theorem abs_small {a b : Int} (h : ok a b = true) (h1 : -4294967296 ≤ a) (h2 : b ≤ 4294967296) : 0 ≤ (absS a b).1 ∧ (absS a b).1 ≤ (absS a b).2.1 ∧ (absS a b).2.1 ≤ 4294967296 := by
  obtain ⟨_, _, h3⟩ := ok_3 h
  unfold absS
  rw [if_pos h]
  split
  · dsimp only; omega
  · split <;> dsimp only <;> omega
theorem fl_le {x y z : Int} (h : 0 < y) (h1 : z * y ≤ x) : z ≤ fl x y := (Int.le_ediv_iff_mul_le h).2 h1
theorem fl_ce {x y : Int} (h : 0 < y) : fl x y ≤ ce x y := by
  unfold fl ce
  have a := Int.ediv_mul_le x (show y ≠ 0 by omega)
  have b := Int.ediv_mul_le (-x) (show y ≠ 0 by omega)
  have : x / y * y + (-x) / y * y ≤ 0 * y := by omega
  rw [← Int.add_mul] at this
  have := Int.le_of_mul_le_mul_right this h
  omega
theorem ce_le {x y z : Int} (h : 0 < y) (h1 : x ≤ z * y) : ce x y ≤ z := by
  unfold ce
  have : -z ≤ (-x) / y := (Int.le_ediv_iff_mul_le h).2 (by rw [Int.neg_mul]; omega)
  omega
theorem ts_bd {x : Int} (h : One1 x) : -4294967296 * td x ≤ ts x ∧ ts x ≤ 4294967296 * td x := by
  unfold td ts
  have e1 : (4294967296 - x) * (4294967296 - x) = 18446744073709551616 - 8589934592 * x + x * x := by rw [Int.sub_mul, Int.mul_sub, Int.mul_sub]; omega
  have e2 : (4294967296 + x) * (4294967296 + x) = 18446744073709551616 + 8589934592 * x + x * x := by rw [Int.add_mul, Int.mul_add, Int.mul_add]; omega
  obtain ⟨h1, h2⟩ := h
  have a1 := Int.mul_nonneg (show 0 ≤ 4294967296 - x by omega) (show 0 ≤ 4294967296 - x by omega)
  have a2 := Int.mul_nonneg (show 0 ≤ 4294967296 + x by omega) (show 0 ≤ 4294967296 + x by omega)
  omega
theorem tc_bd {x : Int} (h : One1 x) : 0 * td x ≤ tc x ∧ tc x ≤ 4294967296 * td x := by
  have := sq_bd h
  unfold td tc; omega
end Go.Proofs.YtndeppnboolfiaaDoor
set_option linter.unusedVariables false
set_option maxRecDepth 4000
namespace Go.Proofs.YtndeppnboolfiaaDoor
open Go Go.RowKit Go.ChangeShapes Go.WideShapes Go.ChangeAt Go.Joins Ul Vc
theorem wfu64 {n : Int} (h : (Lit.int .u64 n).wf = true) : 0 ≤ n := by
  simp only [Lit.wf, Bool.and_eq_true, decide_eq_true_eq] at h
  exact h.1
theorem okWide_arr {P : Program} {w : World} {r : Reach} {base n : Nat} {t e : TypeId} {v : Value} (ht : P.underlying t = some (.array n e)) (h : Value.okWide P w r base t v) : ∃ cs, v = .agg cs := by
  simp only [Value.okWide, ht] at h
  obtain ⟨cs, h1, _⟩ := h
  exact ⟨cs, h1⟩
section
variable {H : Type} {enc : TypeId × Value → H} {w : World} {base : Nat} {sp : Nat → Bool} {held : Bool}
theorem four64_cells {fuel : Nat} {cs : List Value} {x : DataW H × List MemPlace} (h : DataW.trod enc Tryd.prog w base sp held fuel 58 cs = some x) : ∃ a b c d : Int, cs = [.int .u64 a, .int .u64 b, .int .u64 c, .int .u64 d] ∧ 0 ≤ a ∧ 0 ≤ b ∧ 0 ≤ c ∧ 0 ≤ d := by
  obtain ⟨xs, m, _, _, hl, hlen, hf⟩ := DataW.trod_array Tryd.underlying58 h
  have e1 : Tryd.prog.cellsOf 30 = 1 := by kernel_rfl
  have e2 : Tryd.prog.cellsOf 58 = 4 := by kernel_rfl
  rw [e2] at hl
  simp only [e1] at hf
  match cs, hl with
  | [c0, c1, c2, c3], _ =>
    match xs, hlen with
    | [y0, y1, y2, y3], _ =>
      have h0 := hf 0 (by omega)
      have h1 := hf 1 (by omega)
      have h2 := hf 2 (by omega)
      have h3 := hf 3 (by omega)
      simp only [List.getElem?_cons_zero, List.getElem?_cons_succ] at h0 h1 h2 h3
      obtain ⟨a, ha, _, wa⟩ := DataW.trod_int Tryd.underlying30 h0
      obtain ⟨b, hb, _, wb⟩ := DataW.trod_int Tryd.underlying30 h1
      obtain ⟨c, hc, _, wc⟩ := DataW.trod_int Tryd.underlying30 h2
      obtain ⟨d, hd, _, wd⟩ := DataW.trod_int Tryd.underlying30 h3
      simp at ha hb hc hd
      exact ⟨a, b, c, d, by rw [ha, hb, hc, hd], wfu64 wa, wfu64 wb, wfu64 wc, wfu64 wd⟩
theorem open_four64 {P : Program} (hP : P = Tryd.prog) {r : Reach} {b0 : Nat} {v : Value} {d : DataW H} {ps : List MemPlace} (hval : Value.okWide P w r b0 58 v) (hd : DataW.Trod enc P w base sp held 58 v d ps) :
    ∃ m : (Int × Int) × (Int × Int), v = .agg #[.int .u64 m.1.1, .int .u64 m.1.2, .int .u64 m.2.1, .int .u64 m.2.2] ∧ 0 ≤ m.1.1 ∧ 0 ≤ m.1.2 ∧ 0 ≤ m.2.1 ∧ 0 ≤ m.2.2 := by
  have hu : P.underlying 58 = some (.array 4 30) := by rw [hP]; exact Tryd.underlying58
  have hz : ∀ fuel cs x, DataW.trod enc P w base sp held fuel 58 cs = some x → ∃ a b c d : Int, cs = [.int .u64 a, .int .u64 b, .int .u64 c, .int .u64 d] ∧ 0 ≤ a ∧ 0 ≤ b ∧ 0 ≤ c ∧ 0 ≤ d := fun fuel cs x h => by rw [hP] at h; exact four64_cells h
  clear hP
  obtain ⟨cs, rfl⟩ := okWide_arr hu hval
  obtain ⟨fuel, hf⟩ := hd
  obtain ⟨a, b, c, d', h1, h2⟩ := hz _ _ _ hf
  refine ⟨((a, b), (c, d')), ?_, h2⟩
  have : cs = #[.int .u64 a, .int .u64 b, .int .u64 c, .int .u64 d'] := by
    apply Array.ext'
    exact h1
  rw [this]
end
end Go.Proofs.YtndeppnboolfiaaDoor
set_option linter.unusedVariables false
set_option maxRecDepth 100000
namespace Go.Proofs.YtndeppnboolfiaaDoor
open Go Go.RowKit Go.Proofs Vc Ul
theorem pick_any (a b n : Int) (h : ok a b = true) (hn : 0 ≤ n) (hb : b ≤ 9223372036854775807) : ∃ x, a ≤ x ∧ x ≤ b ∧ ∀ w : World, Calls Tryd.prog 28 #[Vc.S a b, .int .u64 n] w (Vc.Ret (.int .i64 x) w) := by
  obtain ⟨a1, a2, a3⟩ := ok_3 h
  have hm : Int.tmod n (b - a + 1) = n % (b - a + 1) := Int.tmod_eq_emod_of_nonneg hn
  have m1 := Int.emod_nonneg n (show b - a + 1 ≠ 0 by omega)
  have m2 := Int.emod_lt_of_pos n (show 0 < b - a + 1 by omega)
  refine ⟨a + n % (b - a + 1), by omega, by omega, fun w => ?_⟩
  refine vc_ullagelaw01_pick a b n w _ ?_
  intro x3 h3 x4 h4 x5 h5
  have e5 : x5 = b - a := by rw [h5, h3, h4]; simp only [Ul.u64_eq]; omega
  refine iteI (fun h => by omega) (fun _ => ?_)
  intro x6 h6 x7 h7
  have e7 : x7 = b - a + 1 := by rw [h7, e5]; simp only [Ul.u64_eq]; omega
  refine ⟨by omega, ?_⟩
  intro x8 h8 x9 h9 x10 h10
  rw [e7, hm] at h8
  have : x10 = a + n % (b - a + 1) := by rw [h10, h9, h6, h8]; generalize n % (b - a + 1) = r at *; simp only [Ul.u64_eq, Ul.i64_eq]; omega
  rw [this]
theorem back {L H X : Int} (h : rin ((X : Rat) / 4294967296) (L, H)) : L * 4294967296 ≤ X ∧ X ≤ H * 4294967296 := by
  obtain ⟨h1, h2⟩ := h
  simp only at h1 h2
  have e : ((4294967296 : Int) : Rat) = 4294967296 := by rfl
  constructor
  · refine Rat.intCast_le_intCast.1 ?_
    rw [Rat.intCast_mul, e]; grind
  · refine Rat.intCast_le_intCast.1 ?_
    rw [Rat.intCast_mul, e]; grind
theorem rin_of {a b x : Int} (h1 : a ≤ x) (h2 : x ≤ b) : rin (x : Rat) (a, b) := ⟨rle h1, rle h2⟩
theorem fit_i {a b : Int} (h : (fit a b).2.2 = 0) : I64 (fit a b).1 ∧ I64 (fit a b).2.1 ∧ I64 (-(fit a b).1) ∧ I64 (-(fit a b).2.1) := by
  obtain ⟨h1, h2, h3⟩ := fit_ok h
  rw [h1]; unfold I64; dsimp only; omega
theorem mul_i {a b c d : Int} (h : (mul a b c d).2.2 = 0) : I64 (mul a b c d).1 ∧ I64 (mul a b c d).2.1 := by
  unfold mul at h ⊢
  split at h
  · rename_i g; rw [if_pos g]; exact ⟨(fit_i h).1, (fit_i h).2.1⟩
  · cases h
theorem back_div {L H X Y : Int} (hy : Y ≠ 0) (h : rin ((X : Rat) * 4294967296 / Y) (L, H)) : (Y < 0 → (-H) * (-Y) ≤ X * 4294967296 ∧ X * 4294967296 ≤ (-L) * (-Y)) ∧ (¬ Y < 0 → L * Y ≤ X * 4294967296 ∧ X * 4294967296 ≤ H * Y) := by
  obtain ⟨h1, h2⟩ := h
  simp only at h1 h2
  have e : ((4294967296 : Int) : Rat) = 4294967296 := by rfl
  have hY : (Y : Rat) ≠ 0 := fun h => hy (Rat.intCast_eq_zero_iff.1 h)
  have q : (X : Rat) * 4294967296 / Y * Y = (X : Rat) * 4294967296 := by grind
  constructor
  · intro g
    have hp : (0 : Rat) ≤ ((-Y : Int) : Rat) := rle (show 0 ≤ -Y by omega)
    have a := Rat.mul_le_mul_of_nonneg_right h1 hp
    have b := Rat.mul_le_mul_of_nonneg_right h2 hp
    rw [Rat.intCast_neg] at a b
    constructor
    · refine Rat.intCast_le_intCast.1 ?_
      rw [Int.neg_mul_neg, Rat.intCast_mul, Rat.intCast_mul, e]; grind
    · refine Rat.intCast_le_intCast.1 ?_
      rw [Int.neg_mul_neg, Rat.intCast_mul, Rat.intCast_mul, e]; grind
  · intro g
    have hp : (0 : Rat) ≤ (Y : Rat) := rle (show 0 ≤ Y by omega)
    have a := Rat.mul_le_mul_of_nonneg_right h1 hp
    have b := Rat.mul_le_mul_of_nonneg_right h2 hp
    constructor
    · refine Rat.intCast_le_intCast.1 ?_
      rw [Rat.intCast_mul, Rat.intCast_mul, e]; grind
    · refine Rat.intCast_le_intCast.1 ?_
      rw [Rat.intCast_mul, Rat.intCast_mul, e]; grind
end Go.Proofs.YtndeppnboolfiaaDoor
set_option linter.unusedVariables false
set_option maxRecDepth 100000
namespace Go.Proofs.YtndeppnboolfiaaDoor
open Go Go.RowKit Go.Proofs Vc Ul
/-- A result within another one, if that has no error. -/
def Inc (r s : R) : Prop := s.2.2 = 0 → r.2.2 = 0 ∧ Ul.within r.1 r.2.1 s.1 s.2.1 = true
theorem inc_of {l h L H : Int} (h0 : -9223372036854775807 ≤ L) (h1 : L ≤ l) (h2 : l ≤ h) (h3 : h ≤ H) : Inc (l, h, 0) (L, H, 0) :=
  fun _ => ⟨rfl, show Ul.within l h L H = true from within_ok (ok_of (by omega) (by omega) h2) (ok_of h0 (by omega) (by omega)) h1 h3⟩
theorem inc_fit {l h L H : Int} (h1 : L ≤ l) (h2 : l ≤ h) (h3 : h ≤ H) : Inc (fit l h) (fit L H) := by
  intro e
  obtain ⟨e1, e2, e3⟩ := fit_ok e
  have e4 : fit l h = (l, h, 0) := by unfold fit; rw [if_pos (by omega)]
  rw [e1, e4]
  exact inc_of (by omega) h1 h2 h3 rfl
structure Wi (p q a b : Int) : Prop where
  n : ok p q = true
  w : ok a b = true
  lo : a ≤ p
  hi : q ≤ b
theorem inc_add {p q a b r s c d : Int} (h : Wi p q a b) (k : Wi r s c d) : Inc (add p q r s) (add a b c d) := by
  have := h.lo; have := h.hi; have := k.lo; have := k.hi
  have := ok_3 h.n; have := ok_3 k.n
  unfold add
  rw [h.n, h.w, k.n, k.w]
  exact inc_fit (by omega) (by omega) (by omega)
theorem inc_sub {p q a b r s c d : Int} (h : Wi p q a b) (k : Wi r s c d) : Inc (sub p q r s) (sub a b c d) := by
  have := k.lo; have := k.hi
  have := ok_3 k.n; have := ok_3 k.w
  unfold sub
  rw [if_pos k.n, if_pos k.w]
  by_cases g : s ≤ 9223372036854775807 ∧ d ≤ 9223372036854775807
  · exact inc_add h ⟨ok_of (by omega) (by omega) (by omega), ok_of (by omega) (by omega) (by omega), by omega, by omega⟩
  · intro e
    exfalso
    unfold add at e
    rw [h.w, show ok (-d) (-c) = false by unfold ok; simp; omega] at e
    cases e
theorem inc_neg {p q a b : Int} (h : Wi p q a b) (hb : b ≤ 9223372036854775807) : Inc (neg p q) (neg a b) := by
  have := h.lo; have := h.hi
  have := ok_3 h.n; have := ok_3 h.w
  unfold neg
  rw [if_pos h.n, if_pos h.w]
  exact inc_of (by omega) (by omega) (by omega) (by omega)
theorem inc_most {p q a b r s c d : Int} (h : Wi p q a b) (k : Wi r s c d) : Inc (most p q r s) (most a b c d) := by
  have := h.lo; have := h.hi; have := k.lo; have := k.hi
  have := ok_3 h.n; have := ok_3 k.n; have := ok_3 h.w; have := ok_3 k.w
  unfold most
  rw [h.n, h.w, k.n, k.w, if_pos (by rfl), if_pos (by rfl)]
  exact inc_of (by omega) (by omega) (by omega) (by omega)
theorem inc_least {p q a b r s c d : Int} (h : Wi p q a b) (k : Wi r s c d) : Inc (least p q r s) (least a b c d) := by
  have := h.lo; have := h.hi; have := k.lo; have := k.hi
  have := ok_3 h.n; have := ok_3 k.n; have := ok_3 h.w; have := ok_3 k.w
  unfold least
  rw [h.n, h.w, k.n, k.w, if_pos (by rfl), if_pos (by rfl)]
  exact inc_of (by omega) (by omega) (by omega) (by omega)
theorem inc_hull {p q a b r s c d : Int} (h : Wi p q a b) (k : Wi r s c d) : Inc (hull p q r s) (hull a b c d) := by
  have := h.lo; have := h.hi; have := k.lo; have := k.hi
  have := ok_3 h.n; have := ok_3 k.n; have := ok_3 h.w; have := ok_3 k.w
  unfold hull
  rw [h.n, h.w, k.n, k.w, if_pos (by rfl), if_pos (by rfl)]
  exact inc_of (by omega) (by omega) (by omega) (by omega)
theorem wi_abs {p q a b : Int} (h : Wi p q a b) (hb : b ≤ 9223372036854775807) : Wi (absS p q).1 (absS p q).2.1 (absS a b).1 (absS a b).2.1 ∧ (absS p q).2.2 = 0 := by
  have := h.lo; have := h.hi
  have := ok_3 h.n; have := ok_3 h.w
  have e1 : (absS p q).2.2 = 0 ∧ (absS p q).1 = max 0 (max p (-q)) ∧ (absS p q).2.1 = max (-p) q := by
    unfold absS; rw [if_pos h.n]
    split
    · dsimp only; omega
    · split <;> dsimp only <;> omega
  have e2 : (absS a b).1 = max 0 (max a (-b)) ∧ (absS a b).2.1 = max (-a) b := by
    unfold absS; rw [if_pos h.w]
    split
    · dsimp only; omega
    · split <;> dsimp only <;> omega
  rw [e1.2.1, e1.2.2, e2.1, e2.2]
  exact ⟨⟨ok_of (by omega) (by omega) (by omega), ok_of (by omega) (by omega) (by omega), by omega, by omega⟩, e1.1⟩
theorem inc_abs {p q a b : Int} (h : Wi p q a b) (hb : b ≤ 9223372036854775807) : Inc (absS p q) (absS a b) := by
  obtain ⟨k, e⟩ := wi_abs h hb
  exact fun _ => ⟨e, within_ok k.n k.w k.lo k.hi⟩
theorem inc_mul {p q a b r s c d : Int} (h : Wi p q a b) (k : Wi r s c d) : Inc (mul p q r s) (mul a b c d) := by
  intro e
  obtain ⟨_, _, L, H, e0, _⟩ := mul_0 e
  have n1 := ok_3 h.n; have n2 := ok_3 k.n
  have h1 := h.lo; have h2 := h.hi; have k1 := k.lo; have k2 := k.hi
  have at' : ∀ x y, a ≤ x → x ≤ b → c ≤ y → y ≤ d → L * 4294967296 ≤ x * y ∧ x * y ≤ H * 4294967296 := fun x y x1 x2 y1 y2 => by
    have := mul_rin (a := (a, b)) (b := (c, d)) (rin_of x1 x2) (rin_of y1 y2) e
    rw [← Rat.intCast_mul] at this
    have := back this
    rw [e0] at this
    exact this
  have a1 := at' p r (by omega) (by omega) (by omega) (by omega)
  have a2 := at' p s (by omega) (by omega) (by omega) (by omega)
  have a3 := at' q r (by omega) (by omega) (by omega) (by omega)
  have a4 := at' q s (by omega) (by omega) (by omega) (by omega)
  have i := mul_i e
  rw [e0] at i ⊢
  unfold I64 at i
  obtain ⟨_, _, _, _, _, i1, i2, _⟩ := mul_0 e
  unfold mul
  rw [h.n, k.n]
  have b1 : L ≤ fl (min4 (p * r) (p * s) (q * r) (q * s)) 4294967296 := fl_le (by decide) (by unfold min4; omega)
  have b2 : ce (max4 (p * r) (p * s) (q * r) (q * s)) 4294967296 ≤ H := ce_le (by decide) (by unfold max4; omega)
  have b3 : fl (min4 (p * r) (p * s) (q * r) (q * s)) 4294967296 ≤ ce (max4 (p * r) (p * s) (q * r) (q * s)) 4294967296 := by unfold fl ce min4 max4; omega
  have ef : fit L H = (L, H, 0) := by
    have := mul_0 e
    obtain ⟨_, _, L', H', e0', hl, hh, _⟩ := this
    rw [e0] at e0'
    simp only [Prod.mk.injEq, and_true] at e0'
    obtain ⟨rfl, rfl⟩ := e0'
    unfold fit; rw [if_pos (by omega)]
  have := inc_fit b1 b3 b2
  rw [ef] at this
  exact this rfl
theorem inc_square {p q a b : Int} (h : Wi p q a b) (hb : b ≤ 9223372036854775807) : Inc (square p q) (square a b) := by
  unfold square
  rw [if_pos h.n, if_pos h.w]
  obtain ⟨k, _⟩ := wi_abs h hb
  exact inc_mul k k
theorem quo_bd {L H X Y : Int} (hy : Y ≠ 0) (h : (Y < 0 → (-H) * (-Y) ≤ X * 4294967296 ∧ X * 4294967296 ≤ (-L) * (-Y)) ∧ (¬ Y < 0 → L * Y ≤ X * 4294967296 ∧ X * 4294967296 ≤ H * Y)) : L ≤ rdn X Y ∧ rdn X Y ≤ rup X Y ∧ rup X Y ≤ H := by
  unfold rdn rup
  by_cases g : Y < 0
  · rw [if_pos g, if_pos g]
    obtain ⟨h1, h2⟩ := h.1 g
    rw [Int.neg_mul] at h1 h2
    exact ⟨fl_le (by omega) (by omega), fl_ce (by omega), ce_le (by omega) (by omega)⟩
  · rw [if_neg g, if_neg g]
    obtain ⟨h1, h2⟩ := h.2 g
    exact ⟨fl_le (by omega) h1, fl_ce (by omega), ce_le (by omega) h2⟩
theorem inc_div {p q a b r s c d : Int} (h : Wi p q a b) (k : Wi r s c d) : Inc (div p q r s) (div a b c d) := by
  intro e
  have n1 := ok_3 h.n; have n2 := ok_3 k.n
  have h1 := h.lo; have h2 := h.hi; have k1 := k.lo; have k2 := k.hi
  have at' : ∀ x y, a ≤ x → x ≤ b → c ≤ y → y ≤ d → (div a b c d).1 ≤ rdn x y ∧ rdn x y ≤ rup x y ∧ rup x y ≤ (div a b c d).2.1 := fun x y x1 x2 y1 y2 => by
    obtain ⟨y0, hr⟩ := div_rin (a := (a, b)) (b := (c, d)) (rin_of x1 x2) (rin_of y1 y2) e
    have y0' : y ≠ 0 := fun e => y0 (by rw [e]; rfl)
    exact quo_bd y0' (back_div y0' hr)
  have a1 := at' p r (by omega) (by omega) (by omega) (by omega)
  have a2 := at' p s (by omega) (by omega) (by omega) (by omega)
  have a3 := at' q r (by omega) (by omega) (by omega) (by omega)
  have a4 := at' q s (by omega) (by omega) (by omega) (by omega)
  have z : ¬ (c ≤ 0 ∧ 0 ≤ d) := by
    intro g
    unfold div at e
    rw [h.w, k.w, if_pos (by rfl), if_pos g] at e
    cases e
  have ef : fit (div a b c d).1 (div a b c d).2.1 = div a b c d := by
    unfold div at e ⊢
    rw [h.w, k.w, if_pos (by rfl), if_neg z] at e ⊢
    rw [(fit_ok e).1]
    dsimp only
    rw [(fit_ok e).1]
  have en : div p q r s = fit (min4 (rdn p r) (rdn p s) (rdn q r) (rdn q s)) (max4 (rup p r) (rup p s) (rup q r) (rup q s)) := by
    unfold div
    rw [h.n, k.n, if_pos (by rfl), if_neg (by omega)]
  have := inc_fit (L := (div a b c d).1) (H := (div a b c d).2.1) (l := min4 (rdn p r) (rdn p s) (rdn q r) (rdn q s)) (h := max4 (rup p r) (rup p s) (rup q r) (rup q s)) (by unfold min4; omega) (by unfold min4 max4; omega) (by unfold max4; omega)
  rw [ef, ← en] at this
  exact this e
theorem frac_fl {n d n' d' : Int} (hd : 0 < d) (hd' : 0 < d') (h : n * d' ≤ n' * d) : fl n d ≤ fl n' d' := by
  refine fl_le hd' ?_
  have a : fl n d * d ≤ n := Int.ediv_mul_le n (by omega)
  have b := Int.mul_le_mul_of_nonneg_right a (show 0 ≤ d' by omega)
  have e : fl n d * d * d' = fl n d * d' * d := by rw [Int.mul_assoc, Int.mul_comm d d', ← Int.mul_assoc]
  exact Int.le_of_mul_le_mul_right (show fl n d * d' * d ≤ n' * d by omega) hd
theorem frac_ce {n d n' d' : Int} (hd : 0 < d) (hd' : 0 < d') (h : n * d' ≤ n' * d) : ce n d ≤ ce n' d' := by
  have := frac_fl (n := -n') (d := d') (n' := -n) (d' := d) hd' hd (by rw [Int.neg_mul, Int.neg_mul]; omega)
  unfold fl at this
  unfold ce; omega
theorem sq_le {x y : Int} (h0 : 0 ≤ x) (h : x ≤ y) : x * x ≤ y * y := Int.mul_le_mul h h h0 (by omega)
theorem tc_cross {x y : Int} (h0 : 0 ≤ x) (h : x ≤ y) : tc y * td x ≤ tc x * td y := by
  have := sq_le h0 h
  have e : tc x * td y - tc y * td x = 158456325028528675187087900672 * (y * y - x * x) := by unfold tc td; grind
  omega
theorem ts_cross {x y : Int} (hx : One1 x) (hy : One1 y) (h : x ≤ y) : ts x * td y ≤ ts y * td x := by
  have a := sq_bd hx
  have b := sq_bd hy
  have c := Int.mul_nonneg (show 0 ≤ y - x by omega) (show 0 ≤ y - x by omega)
  have e0 : (y - x) * (y - x) = y * y + x * x - 2 * (x * y) := by grind
  have d := Int.mul_nonneg (show 0 ≤ y - x by omega) (show 0 ≤ 18446744073709551616 - x * y by omega)
  have e : ts y * td x - ts x * td y = 36893488147419103232 * ((y - x) * (18446744073709551616 - x * y)) := by unfold ts td; grind
  omega
theorem inc_turn {p q a b : Int} (h : Wi p q a b) (e : (turn a b).2.2 = 0) : (turn p q).2.2 = 0 ∧ Ul.within (turn p q).1.1 (turn p q).1.2.1 (turn a b).1.1 (turn a b).1.2.1 = true ∧ Ul.within (turn p q).2.1.1 (turn p q).2.1.2.1 (turn a b).2.1.1 (turn a b).2.1.2.1 = true := by
  have h1 := h.lo; have h2 := h.hi; have n1 := ok_3 h.n
  have g : -4294967296 ≤ a ∧ b ≤ 4294967296 := by
    unfold turn at e
    rw [if_pos h.w] at e
    split at e
    · assumption
    · cases e
  obtain ⟨k, _⟩ := wi_abs h (by omega)
  obtain ⟨p0, pq, q1⟩ := abs_small h.n (by omega) (by omega)
  obtain ⟨a0, ab, b1⟩ := abs_small h.w (by omega) (by omega)
  have ea : turn a b = (fit (fl (tc (absS a b).2.1) (td (absS a b).2.1)) (ce (tc (absS a b).1) (td (absS a b).1)), fit (fl (ts a) (td a)) (ce (ts b) (td b)), 0) := by
    unfold turn; rw [if_pos h.w, if_pos g]
  have ep : turn p q = (fit (fl (tc (absS p q).2.1) (td (absS p q).2.1)) (ce (tc (absS p q).1) (td (absS p q).1)), fit (fl (ts p) (td p)) (ce (ts q) (td q)), 0) := by
    unfold turn; rw [if_pos h.n, if_pos (by omega)]
  have k1 := k.lo; have k2 := k.hi
  generalize (absS a b).1 = a' at *
  generalize (absS a b).2.1 = b' at *
  generalize (absS p q).1 = p' at *
  generalize (absS p q).2.1 = q' at *
  have oa : One1 a := ⟨by omega, by omega⟩
  have ob : One1 b := ⟨by omega, by omega⟩
  have op : One1 p := ⟨by omega, by omega⟩
  have oq : One1 q := ⟨by omega, by omega⟩
  have oa' : One1 a' := ⟨by omega, by omega⟩
  have ob' : One1 b' := ⟨by omega, by omega⟩
  have op' : One1 p' := ⟨by omega, by omega⟩
  have oq' : One1 q' := ⟨by omega, by omega⟩
  have c1 := frac_fl (tc_td ob').2 (tc_td oq').2 (tc_cross (by omega) k2)
  have c2 := frac_fl (tc_td oq').2 (tc_td op').2 (tc_cross p0 pq)
  have c3 := fl_ce (x := tc p') (tc_td op').2
  have c4 := frac_ce (tc_td op').2 (tc_td oa').2 (tc_cross a0 k1)
  have c5 := fl_le (z := 0) (tc_td ob').2 (tc_bd ob').1
  have c6 := ce_le (z := 4294967296) (tc_td oa').2 (tc_bd oa').2
  have s1 := frac_fl (tc_td oa).2 (tc_td op).2 (ts_cross oa op h1)
  have s2 := frac_fl (tc_td op).2 (tc_td oq).2 (ts_cross op oq n1.2.2)
  have s3 := fl_ce (x := ts q) (tc_td oq).2
  have s4 := frac_ce (tc_td oq).2 (tc_td ob).2 (ts_cross oq ob h2)
  have s5 := fl_le (z := -4294967296) (tc_td oa).2 (ts_bd oa).1
  have s6 := ce_le (z := 4294967296) (tc_td ob).2 (ts_bd ob).2
  rw [ea, ep]
  have f1 := inc_fit c1 (show fl (tc q') (td q') ≤ ce (tc p') (td p') by omega) c4
  have f2 := inc_fit s1 (show fl (ts p) (td p) ≤ ce (ts q) (td q) by omega) s4
  exact ⟨rfl, (f1 (by unfold fit; rw [if_pos (by omega)])).2, (f2 (by unfold fit; rw [if_pos (by omega)])).2⟩
theorem inner_any {a b n m : Int} (h : ok a b = true) (hn : 0 ≤ n) (hm : 0 ≤ m) (hb : b ≤ 9223372036854775807) : ∃ p q, Wi p q a b ∧ ∀ w : World, Calls Tryd.prog 37 #[Vc.S a b, .agg #[.int .u64 n, .int .u64 m]] w (Vc.Ret (Vc.S p q) w) := by
  obtain ⟨x, x1, x2, px⟩ := pick_any a b n h hn hb
  obtain ⟨y, y1, y2, py⟩ := pick_any a b m h hm hb
  have := ok_3 h
  refine ⟨if y < x then y else x, if y > x then y else x, ⟨ok_of (by split <;> omega) (by split <;> omega) (by split <;> split <;> omega), h, by split <;> omega, by split <;> omega⟩, fun w => ?_⟩
  refine vc_ullagelaw01_inner a b n m w _ ?_
  refine ⟨x, fun w' hw => px w', y, fun w' hw => py w', ?_⟩
  rintro _ rfl _ rfl
  rfl
theorem within_t {r s : R} (h : Inc r s) (w : World) : Calls Tryd.prog 40 #[Vc.S r.1 r.2.1, .int .i64 r.2.2, Vc.S s.1 s.2.1, .int .i64 s.2.2] w (Vc.Ret (.bool true) w) := by
  refine vc_ullagelaw01_within r.1 r.2.1 r.2.2 s.1 s.2.1 s.2.2 w _ ?_
  refine iteI (fun g => iteI (fun _ => ⟨_, fun w' hw => within_any r.1 r.2.1 s.1 s.2.1 w', by rw [(h g).2]⟩) (fun g' => absurd (h g).1 g')) (fun _ => rfl)
theorem wi_i64 {p q a b : Int} (h : Wi p q a b) (hb : b ≤ 9223372036854775807) : I64 p ∧ I64 q := by
  have := ok_3 h.n; have := h.hi
  unfold I64; omega
set_option maxHeartbeats 4000000 in
theorem walk_spanInside {w : World} (a : Int) (ha : (Lit.int .i64 a).wf = true) (b : Int) (hb : (Lit.int .i64 b).wf = true) (c : Int) (hc : (Lit.int .i64 c).wf = true) (d : Int) (hd : (Lit.int .i64 d).wf = true) (m : (Int × Int) × (Int × Int)) (hm : 0 ≤ m.1.1 ∧ 0 ≤ m.1.2 ∧ 0 ≤ m.2.1 ∧ 0 ≤ m.2.2) :
    Calls Tryd.prog 8 #[Vc.S a b, Vc.S c d, .agg #[.int .u64 m.1.1, .int .u64 m.1.2, .int .u64 m.2.1, .int .u64 m.2.2]] w (Vc.Ret (.bool true) w) := by
  replace ha := wfI64 ha; replace hb := wfI64 hb; replace hc := wfI64 hc; replace hd := wfI64 hd
  refine vc_ullagelaw01_SpanInside a b c d m.1.1 m.1.2 m.2.1 m.2.2 w _ ?_
  refine ⟨true, fun w' hw => alive_any w', _, fun w' hw => check_any a b w', ?_⟩
  refine iteI (fun h1 => ?_) (fun _ => rfl)
  refine ⟨_, fun w' hw => check_any c d w', ?_⟩
  refine iteI (fun h2 => ?_) (fun _ => rfl)
  refine iteI (fun _ => ?_) (fun h => absurd rfl h)
  have k1 := chk_ok h1; have k2 := chk_ok h2
  clear h1 h2
  obtain ⟨p, q, hp, cp⟩ := inner_any k1 hm.1 hm.2.1 hb.2
  obtain ⟨r, s, hr, cr⟩ := inner_any k2 hm.2.2.1 hm.2.2.2 hd.2
  obtain ⟨ip, iq⟩ := wi_i64 hp hb.2
  obtain ⟨ir, is⟩ := wi_i64 hr hd.2
  refine ⟨p, q, fun w' hw => cp w', r, s, fun w' hw => cr w', ?_⟩
  refine ⟨_, _, _, fun w' hw => padd_any p q r s w' ip iq ir is, _, _, _, fun w' hw => padd_any a b c d w' ha hb hc hd, true, fun w' hw => within_t (inc_add hp hr) w', iteI (fun _ => ?_) (fun h => absurd rfl h)⟩
  refine ⟨_, _, _, fun w' hw => psub_any p q r s w' ip iq ir is, _, _, _, fun w' hw => psub_any a b c d w' ha hb hc hd, true, fun w' hw => within_t (inc_sub hp hr) w', iteI (fun _ => ?_) (fun h => absurd rfl h)⟩
  refine ⟨_, _, _, fun w' hw => pmul_any p q r s w' ip iq ir is, _, _, _, fun w' hw => pmul_any a b c d w' ha hb hc hd, true, fun w' hw => within_t (inc_mul hp hr) w', iteI (fun _ => ?_) (fun h => absurd rfl h)⟩
  refine ⟨_, _, _, fun w' hw => pdiv_any p q r s w' ip iq ir is, _, _, _, fun w' hw => pdiv_any a b c d w' ha hb hc hd, true, fun w' hw => within_t (inc_div hp hr) w', iteI (fun _ => ?_) (fun h => absurd rfl h)⟩
  refine ⟨_, _, _, fun w' hw => pmost_any p q r s w', _, _, _, fun w' hw => pmost_any a b c d w', true, fun w' hw => within_t (inc_most hp hr) w', iteI (fun _ => ?_) (fun h => absurd rfl h)⟩
  refine ⟨_, _, _, fun w' hw => pleast_any p q r s w', _, _, _, fun w' hw => pleast_any a b c d w', true, fun w' hw => within_t (inc_least hp hr) w', iteI (fun _ => ?_) (fun h => absurd rfl h)⟩
  refine ⟨_, _, _, fun w' hw => phull_any p q r s w', _, _, _, fun w' hw => phull_any a b c d w', true, fun w' hw => within_t (inc_hull hp hr) w', iteI (fun _ => ?_) (fun h => absurd rfl h)⟩
  refine ⟨_, _, _, fun w' hw => pneg_any p q w' ip iq, _, _, _, fun w' hw => pneg_any a b w' ha hb, true, fun w' hw => within_t (inc_neg hp hb.2) w', iteI (fun _ => ?_) (fun h => absurd rfl h)⟩
  refine ⟨_, _, _, fun w' hw => psquare_any p q w' ip iq, _, _, _, fun w' hw => psquare_any a b w' ha hb, true, fun w' hw => within_t (inc_square hp hb.2) w', iteI (fun _ => ?_) (fun h => absurd rfl h)⟩
  refine ⟨_, _, _, fun w' hw => pabs_any p q w' ip iq, _, _, _, fun w' hw => pabs_any a b w' ha hb, true, fun w' hw => within_t (inc_abs hp hb.2) w', iteI (fun _ => ?_) (fun h => absurd rfl h)⟩
  refine ⟨_, _, _, _, _, fun w' hw => pturn_any p q w' ip iq, _, _, _, _, _, fun w' hw => pturn_any a b w' ha hb, ?_⟩
  refine iteI (fun _ => ?_) (fun h => absurd rfl h)
  refine ⟨true, fun w' hw => within_t (r := ((turn p q).1.1, (turn p q).1.2.1, (turn p q).2.2)) (s := ((turn a b).1.1, (turn a b).1.2.1, (turn a b).2.2)) (fun e => ⟨(inc_turn hp e).1, (inc_turn hp e).2.1⟩) w', iteI (fun _ => ?_) (fun h => absurd rfl h)⟩
  exact ⟨true, fun w' hw => within_t (r := ((turn p q).2.1.1, (turn p q).2.1.2.1, (turn p q).2.2)) (s := ((turn a b).2.1.1, (turn a b).2.1.2.1, (turn a b).2.2)) (fun e => ⟨(inc_turn hp e).1, (inc_turn hp e).2.2⟩) w', rfl⟩
end Go.Proofs.YtndeppnboolfiaaDoor
