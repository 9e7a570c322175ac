/- Numbers of spans, exact: sums, products and quotients lie in the results (plain). -/
import Derived.Test.YtcoakpdafpclpaaDoorTtB
set_option linter.unusedVariables false
set_option linter.unusedSimpArgs false
namespace Go.Proofs.YtcoakpdafpclpaaDoor
open Go Go.RowKit Ul
def rin (x : Rat) (p : Int × Int) : Prop := (p.1 : Rat) ≤ x ∧ x ≤ (p.2 : Rat)
abbrev lohi (r : R) : Int × Int := (r.1, r.2.1)
theorem rle {a b : Int} (h : a ≤ b) : (a : Rat) ≤ b := Rat.intCast_le_intCast.2 h
theorem rin_le {x : Rat} {p : Int × Int} (h : rin x p) : p.1 ≤ p.2 := Rat.intCast_le_intCast.1 (by unfold rin at h; grind)
theorem rin_lo {p : Int × Int} (h : p.1 ≤ p.2) : rin p.1 p := ⟨by grind, rle h⟩
theorem rin_hi {p : Int × Int} (h : p.1 ≤ p.2) : rin p.2 p := ⟨rle h, by grind⟩
theorem fit_ok {a b : Int} (h : (fit a b).2.2 = 0) : fit a b = (a, b, 0) ∧ (-9223372036854775807 ≤ a ∧ a ≤ 9223372036854775807) ∧ -9223372036854775807 ≤ b ∧ b ≤ 9223372036854775807 := by
  unfold fit at h ⊢
  split at h
  · rename_i g; rw [if_pos g]; exact ⟨rfl, by omega, by omega⟩
  · cases h
theorem add_rin {a b : Int × Int} {x y : Rat} (hx : rin x a) (hy : rin y b) (h : (add a.1 a.2 b.1 b.2).2.2 = 0) : rin (x + y) (lohi (add a.1 a.2 b.1 b.2)) := by
  unfold add at h ⊢
  split at h
  · rename_i g
    rw [if_pos g, (fit_ok h).1]
    unfold rin lohi at *
    simp only [Rat.intCast_add]
    grind
  · cases h
theorem neg_rin {a : Int × Int} {x : Rat} (hx : rin x a) (h : (neg a.1 a.2).2.2 = 0) : rin (-x) (lohi (neg a.1 a.2)) := by
  unfold neg at h ⊢
  split at h
  · rename_i g
    rw [if_pos g]
    unfold rin lohi at *
    simp only [Rat.intCast_neg]
    grind
  · cases h
theorem sub_rin {a b : Int × Int} {x y : Rat} (hx : rin x a) (hy : rin y b) (h : (sub a.1 a.2 b.1 b.2).2.2 = 0) : rin (x - y) (lohi (sub a.1 a.2 b.1 b.2)) := by
  unfold sub at h ⊢
  split at h
  · rename_i g
    rw [if_pos g]
    have hn : rin (-y) (-b.2, -b.1) := by
      unfold rin at *
      simp only [Rat.intCast_neg]
      grind
    have := add_rin (b := (-b.2, -b.1)) hx hn h
    rwa [show x - y = x + -y by grind]
  · cases h
/-- A product is not below all products of the bounds, and not above all. -/
theorem corner {a b c d x y : Rat} (hx : a ≤ x ∧ x ≤ b) (hy : c ≤ y ∧ y ≤ d) :
    (a * c ≤ x * y ∨ a * d ≤ x * y ∨ b * c ≤ x * y ∨ b * d ≤ x * y) ∧ (x * y ≤ a * c ∨ x * y ≤ a * d ∨ x * y ≤ b * c ∨ x * y ≤ b * d) := by
  have key : ∀ {u v w z : Rat}, u ≤ v → 0 ≤ w → u * w ≤ v * w := fun h hw => Rat.mul_le_mul_of_nonneg_right h hw
  have l : ∀ {u v w : Rat}, u ≤ v → 0 ≤ w → w * u ≤ w * v := fun h hw => Rat.mul_le_mul_of_nonneg_left h hw
  have ln : ∀ {u v w : Rat}, u ≤ v → w ≤ 0 → w * v ≤ w * u := fun {u v w} h hw => by
    have := l (w := -w) h (by grind)
    grind
  have hlow : a * y ≤ x * y ∨ b * y ≤ x * y := by
    by_cases h : 0 ≤ y
    · have := l hx.1 h; grind
    · have := ln hx.2 (w := y) (by grind); grind
  have hhigh : x * y ≤ a * y ∨ x * y ≤ b * y := by
    by_cases h : 0 ≤ y
    · have := l hx.2 h; grind
    · have := ln hx.1 (w := y) (by grind); grind
  have la : ∀ w : Rat, (w * c ≤ w * y ∨ w * d ≤ w * y) ∧ (w * y ≤ w * c ∨ w * y ≤ w * d) := fun w => by
    by_cases h : 0 ≤ w
    · exact ⟨.inl (l hy.1 h), .inr (l hy.2 h)⟩
    · exact ⟨.inr (ln hy.2 (by grind)), .inl (ln hy.1 (by grind))⟩
  have h1 := la a
  have h2 := la b
  grind
theorem fl_rat {x y : Int} (h : 0 < y) : ((fl x y : Int) : Rat) * y ≤ x := by
  rw [← Rat.intCast_mul]
  exact rle (Int.ediv_mul_le x (by omega))
theorem ce_rat {x y : Int} (h : 0 < y) : (x : Rat) ≤ ((ce x y : Int) : Rat) * y := by
  rw [← Rat.intCast_mul]
  refine rle ?_
  unfold ce
  have := Int.ediv_mul_le (-x) (show y ≠ 0 by omega)
  rw [Int.neg_mul]
  omega
theorem min4_le (a b c d : Int) : min4 a b c d ≤ a ∧ min4 a b c d ≤ b ∧ min4 a b c d ≤ c ∧ min4 a b c d ≤ d := by unfold min4; omega
theorem max4_ge (a b c d : Int) : a ≤ max4 a b c d ∧ b ≤ max4 a b c d ∧ c ≤ max4 a b c d ∧ d ≤ max4 a b c d := by unfold max4; omega
theorem mul_rin {a b : Int × Int} {x y : Rat} (hx : rin x a) (hy : rin y b) (h : (mul a.1 a.2 b.1 b.2).2.2 = 0) : rin (x * y / 4294967296) (lohi (mul a.1 a.2 b.1 b.2)) := by
  unfold mul at h ⊢
  split at h
  · rename_i g
    rw [if_pos g, (fit_ok h).1]
    have hc := corner hx hy
    have m := min4_le (a.1 * b.1) (a.1 * b.2) (a.2 * b.1) (a.2 * b.2)
    have M := max4_ge (a.1 * b.1) (a.1 * b.2) (a.2 * b.1) (a.2 * b.2)
    have f := fl_rat (x := min4 (a.1 * b.1) (a.1 * b.2) (a.2 * b.1) (a.2 * b.2)) (y := 4294967296) (by omega)
    have c := ce_rat (x := max4 (a.1 * b.1) (a.1 * b.2) (a.2 * b.1) (a.2 * b.2)) (y := 4294967296) (by omega)
    generalize min4 (a.1 * b.1) (a.1 * b.2) (a.2 * b.1) (a.2 * b.2) = m4 at *
    generalize max4 (a.1 * b.1) (a.1 * b.2) (a.2 * b.1) (a.2 * b.2) = M4 at *
    have m' := (fun h => rle h : m4 ≤ a.1 * b.1 → _) m.1
    have m1 := rle m.2.1
    have m2 := rle m.2.2.1
    have m3 := rle m.2.2.2
    have M0 := rle M.1
    have M1 := rle M.2.1
    have M2 := rle M.2.2.1
    have M3 := rle M.2.2.2
    simp only [Rat.intCast_mul] at m' m1 m2 m3 M0 M1 M2 M3
    unfold rin lohi at *
    simp only
    have e : ((4294967296 : Int) : Rat) = 4294967296 := by rfl
    rw [e] at f c
    generalize ((fl m4 4294967296 : Int) : Rat) = F at *
    generalize ((ce M4 4294967296 : Int) : Rat) = C at *
    constructor <;> grind
  · cases h
theorem le_quo {F M X : Rat} (h : F * M ≤ X) (hM : 0 < M) : F ≤ X / M := by
  have hi : 0 < M⁻¹ := by exact Rat.inv_pos.2 hM
  have := Rat.mul_le_mul_of_nonneg_right h (Rat.le_of_lt hi)
  have e : F * M * M⁻¹ = F := by grind
  rwa [e, ← Rat.div_def] at this
theorem quo_le {F M X : Rat} (h : X ≤ F * M) (hM : 0 < M) : X / M ≤ F := by
  have hi : 0 < M⁻¹ := by exact Rat.inv_pos.2 hM
  have := Rat.mul_le_mul_of_nonneg_right h (Rat.le_of_lt hi)
  have e : F * M * M⁻¹ = F := by grind
  rwa [e, ← Rat.div_def] at this
theorem inv_le {c y : Rat} (hc : 0 < c) (h : c ≤ y) : y⁻¹ ≤ c⁻¹ := by
  have h1 : 0 < c⁻¹ := Rat.inv_pos.2 hc
  have h2 : 0 < y⁻¹ := Rat.inv_pos.2 (by grind)
  have := Rat.mul_le_mul_of_nonneg_right h (Rat.le_of_lt (Rat.mul_pos h1 h2))
  have e1 : c * (c⁻¹ * y⁻¹) = y⁻¹ := by grind
  have e2 : y * (c⁻¹ * y⁻¹) = c⁻¹ := by grind
  rwa [e1, e2] at this
theorem inv_leN {c y : Rat} (hc : y < 0) (h : c ≤ y) : y⁻¹ ≤ c⁻¹ := by
  have := inv_le (c := -y) (y := -c) (by grind) (by grind)
  have e1 : (-c)⁻¹ = -(c⁻¹) := by grind
  have e2 : (-y)⁻¹ = -(y⁻¹) := by grind
  rw [e1, e2] at this
  grind
theorem rdn_rat {n m : Int} (h : m ≠ 0) : ((rdn n m : Int) : Rat) ≤ (n : Rat) * 4294967296 / m := by
  have e : ((4294967296 : Int) : Rat) = 4294967296 := by rfl
  unfold rdn
  split
  · have f := fl_rat (x := -(n * 4294967296)) (y := -m) (by omega)
    have q := le_quo f (by have := Rat.intCast_lt_intCast.2 (show (0 : Int) < -m by omega); simpa using this)
    have hm : (m : Rat) ≠ 0 := fun h' => h (Rat.intCast_eq_zero_iff.1 h')
    rw [Rat.intCast_neg, Rat.intCast_neg, Rat.intCast_mul, e] at q
    have e2 : -((n : Rat) * 4294967296) / -(m : Rat) = (n : Rat) * 4294967296 / m := by grind
    rwa [e2] at q
  · have f := fl_rat (x := n * 4294967296) (y := m) (by omega)
    have q := le_quo f (by have := Rat.intCast_lt_intCast.2 (show (0 : Int) < m by omega); simpa using this)
    rwa [Rat.intCast_mul, e] at q
theorem rup_rat {n m : Int} (h : m ≠ 0) : (n : Rat) * 4294967296 / m ≤ ((rup n m : Int) : Rat) := by
  have e : ((4294967296 : Int) : Rat) = 4294967296 := by rfl
  unfold rup
  split
  · have f := ce_rat (x := -(n * 4294967296)) (y := -m) (by omega)
    have q := quo_le f (by have := Rat.intCast_lt_intCast.2 (show (0 : Int) < -m by omega); simpa using this)
    have hm : (m : Rat) ≠ 0 := fun h' => h (Rat.intCast_eq_zero_iff.1 h')
    rw [Rat.intCast_neg, Rat.intCast_neg, Rat.intCast_mul, e] at q
    have e2 : -((n : Rat) * 4294967296) / -(m : Rat) = (n : Rat) * 4294967296 / m := by grind
    rwa [e2] at q
  · have f := ce_rat (x := n * 4294967296) (y := m) (by omega)
    have q := quo_le f (by have := Rat.intCast_lt_intCast.2 (show (0 : Int) < m by omega); simpa using this)
    rwa [Rat.intCast_mul, e] at q
theorem div_rin {a b : Int × Int} {x y : Rat} (hx : rin x a) (hy : rin y b) (h : (div a.1 a.2 b.1 b.2).2.2 = 0) : y ≠ 0 ∧ rin (x * 4294967296 / y) (lohi (div a.1 a.2 b.1 b.2)) := by
  unfold div at h ⊢
  split at h
  · rename_i g
    split at h
    · cases h
    · rename_i g2
      rw [if_pos g, if_neg g2, (fit_ok h).1]
      have z0 : ∀ m : Int, ((0 : Int) : Rat) = 0 := fun _ => rfl
      have hinv : y ≠ 0 ∧ (b.2 : Rat)⁻¹ ≤ y⁻¹ ∧ y⁻¹ ≤ (b.1 : Rat)⁻¹ := by
        have hbb := rin_le hy
        by_cases hc : 0 < b.1
        · have h1 : (0 : Rat) < b.1 := by have := Rat.intCast_lt_intCast.2 hc; simpa using this
          unfold rin at hy
          exact ⟨by grind, inv_le (by grind) hy.2, inv_le h1 hy.1⟩
        · have hd : b.2 < 0 := by omega
          have h1 : (b.2 : Rat) < 0 := by have := Rat.intCast_lt_intCast.2 hd; simpa using this
          unfold rin at hy
          exact ⟨by grind, inv_leN h1 hy.2, inv_leN (by grind) hy.1⟩
      obtain ⟨hy0, hi⟩ := hinv
      refine ⟨hy0, ?_⟩
      have n1 : b.1 ≠ 0 := fun h => by have := rin_le hy; omega
      have n2 : b.2 ≠ 0 := fun h => by have := rin_le hy; omega
      have hc := corner hx hi
      have m := min4_le (rdn a.1 b.1) (rdn a.1 b.2) (rdn a.2 b.1) (rdn a.2 b.2)
      have M := max4_ge (rup a.1 b.1) (rup a.1 b.2) (rup a.2 b.1) (rup a.2 b.2)
      have e : ∀ n w : Rat, n * 4294967296 / w = n * w⁻¹ * 4294967296 := fun n w => by rw [Rat.div_def]; grind
      have d1 := rdn_rat (n := a.1) n1
      have d2 := rdn_rat (n := a.1) n2
      have d3 := rdn_rat (n := a.2) n1
      have d4 := rdn_rat (n := a.2) n2
      have u1 := rup_rat (n := a.1) n1
      have u2 := rup_rat (n := a.1) n2
      have u3 := rup_rat (n := a.2) n1
      have u4 := rup_rat (n := a.2) n2
      rw [e] at d1 d2 d3 d4 u1 u2 u3 u4
      have m0 := rle m.1
      have m1 := rle m.2.1
      have m2 := rle m.2.2.1
      have m3 := rle m.2.2.2
      have M0 := rle M.1
      have M1 := rle M.2.1
      have M2 := rle M.2.2.1
      have M3 := rle M.2.2.2
      unfold rin lohi
      simp only
      rw [e]
      generalize ((min4 (rdn a.1 b.1) (rdn a.1 b.2) (rdn a.2 b.1) (rdn a.2 b.2) : Int) : Rat) = F at *
      generalize ((max4 (rup a.1 b.1) (rup a.1 b.2) (rup a.2 b.1) (rup a.2 b.2) : Int) : Rat) = C at *
      clear h g g2 hx hy z0 m M hi
      generalize (a.1 : Rat) * (b.1 : Rat)⁻¹ = q1 at *
      generalize (a.1 : Rat) * (b.2 : Rat)⁻¹ = q2 at *
      generalize (a.2 : Rat) * (b.1 : Rat)⁻¹ = q3 at *
      generalize (a.2 : Rat) * (b.2 : Rat)⁻¹ = q4 at *
      generalize x * y⁻¹ = q at *
      constructor <;> grind
  · cases h
end Go.Proofs.YtcoakpdafpclpaaDoor
