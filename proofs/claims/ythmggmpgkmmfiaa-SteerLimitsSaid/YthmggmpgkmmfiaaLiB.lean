/- Contracts of the layer, as far as they are wanted (written by program out of the templates). -/
import Derived.Test.YthmggmpgkmmfiaaLiA
import Derived.Test.YthmggmpgkmmfiaaLiG3
import Derived.WalkKit
import Derived.ProofKit
import Derived.OpenShut
import Derived.Lib.SmallJoins
import Derived.Deep.Strs
set_option linter.unusedVariables false
set_option linter.unusedSimpArgs false
namespace Go.Proofs.Ythmggmpgkmmfiaa
open Go Go.RowKit Ul Vc
attribute [local irreducible] Go.Calls
theorem wrap_up (i : Nat) (h : i < 1000000) : IntKind.i64.wrap ((i : Int) + 1) = ((i + 1 : Nat) : Int) := by rw [Vc.i64_id (by omega)]; omega
/-- The k-th of a loop's variables counts up. -/
def upK (k : Nat) (n : Int) (l : List Vc.Vl) : Nat :=
  match l[k]? with
  | some (.i x) => (n - x).toNat
  | _ => 0
abbrev Sp := Int × Int
def spc (p : Sp) : List Value := [.int .i64 p.1, .int .i64 p.2]
theorem spc_len (p : Sp) : (spc p).length = 2 := rfl
/-- A list of places, at a slice. -/
def Sps (w : World) (v : Value) (l : List Sp) : Prop := SlAt w v 2 (l.flatMap spc)
/-- The place with a number, taken round. -/
def sp (l : List Sp) (i : Nat) : Sp := l.getD (i % l.length) (0, 0)
theorem sps_form {w : World} {v : Value} {l : List Sp} (h : Sps w v l) : ∃ (b0 : Bool) (p0 : Nat × Nat) (x1 : Int), v = (if b0 = true then .slice none 0 0 else .slice (some (Vc.qad p0 (Int.toNat (l.length : Int)) (Int.toNat x1))) (Int.toNat (l.length : Int)) (Int.toNat x1)) ∧ (b0 = true → l.length = 0) ∧
    (∀ (i : Nat) (p : Sp), l[i]? = some p → w.cell? ⟨p0.1, p0.2 + i * 2 + 0, none⟩ = some (.int .i64 p.1) ∧ w.cell? ⟨p0.1, p0.2 + i * 2 + 1, none⟩ = some (.int .i64 p.2)) := by
  obtain ⟨b0, p0, x1, h1, h2, h3⟩ := sl_form h (by decide) (flat_len spc_len l)
  refine ⟨b0, p0, x1, h1, h2, fun i p hp => ?_⟩
  simp only [Nat.add_assoc]
  exact ⟨h3 (i * 2 + 0) _ (flat_at spc_len hp (by decide)), h3 (i * 2 + 1) _ (flat_at spc_len hp (by decide))⟩
theorem sps_nb {b0 : Bool} {n : Nat} (h : b0 = true → n = 0) : (¬ (b0 = true)) ∨ ((n : Int) = 0) := by
  by_cases hb0 : b0 = true
  · right; have := h hb0; omega
  · left; exact hb0
theorem sps_nb0 {b0 : Bool} {n : Nat} (h : b0 = true → n = 0) (hn : 0 < n) : ¬ (b0 = true) := fun hb => by have := h hb; omega
theorem sps_below {v : Value} {l : List Sp} {w w' : World} (hb : Below w.heap.size w w') (h : Sps w v l) : Sps w' v l := sl_below hb h
end Go.Proofs.Ythmggmpgkmmfiaa
set_option linter.unusedVariables false
set_option maxRecDepth 4000
namespace Go.Proofs.Ythmggmpgkmmfiaa
open Go Go.RowKit Ul Vc
attribute [local irreducible] Go.Calls
def clip (n : Int) : Int := if (if 536870912 < n then 536870912 else n) > (-536870912) then (if 536870912 < n then 536870912 else n) else (-536870912)
theorem sl_heap {w : World} {k t n c : Nat} {L : List Value} {xs : Array Value} (h : w.heap[k]? = some (.cells xs t)) (hx : xs.toList = L) (hn : L.length = n * c) : SlAt w (.slice (some ⟨k, 0, none⟩) n n) c L := by
  refine .inr (.inr ⟨k, 0, _, _, rfl, hn, fun j u hj => ?_⟩)
  rw [Nat.zero_add, cell_of_heap h, ← Array.getElem?_toList, hx]
  exact hj
theorem own_sps {lo b code n base : Nat} {l : List Sp} {t : TypeId} {w : World} {xs : List Value} (h : RowOk lo b code n base xs 2 t w) (hx : xs = l.flatMap spc) : Sps w (ownV b code n base) l := by
  subst hx
  exact own_sl h
end Go.Proofs.Ythmggmpgkmmfiaa
set_option linter.unusedVariables false
namespace Go.Proofs.Ythmggmpgkmmfiaa
open Go Go.RowKit Ul
def rin (x : Rat) (p : Int × Int) : Prop := (p.1 : Rat) ≤ x ∧ x ≤ (p.2 : Rat)
abbrev lohi (r : R) : Int × Int := (r.1, r.2.1)
theorem rle {a b : Int} (h : a ≤ b) : (a : Rat) ≤ b := Rat.intCast_le_intCast.2 h
theorem rin_le {x : Rat} {p : Int × Int} (h : rin x p) : p.1 ≤ p.2 := Rat.intCast_le_intCast.1 (by unfold rin at h; grind)
theorem rin_lo {p : Int × Int} (h : p.1 ≤ p.2) : rin p.1 p := ⟨by grind, rle h⟩
theorem fit_ok {a b : Int} (h : (fit a b).2.2 = 0) : fit a b = (a, b, 0) ∧ (-9223372036854775807 ≤ a ∧ a ≤ 9223372036854775807) ∧ -9223372036854775807 ≤ b ∧ b ≤ 9223372036854775807 := by
  unfold fit at h ⊢
  split at h
  · rename_i g; rw [if_pos g]; exact ⟨rfl, by omega, by omega⟩
  · cases h
theorem add_rin {a b : Int × Int} {x y : Rat} (hx : rin x a) (hy : rin y b) (h : (add a.1 a.2 b.1 b.2).2.2 = 0) : rin (x + y) (lohi (add a.1 a.2 b.1 b.2)) := by
  unfold add at h ⊢
  split at h
  · rename_i g
    rw [if_pos g, (fit_ok h).1]
    unfold rin lohi at *
    simp only [Rat.intCast_add]
    grind
  · cases h
theorem sub_rin {a b : Int × Int} {x y : Rat} (hx : rin x a) (hy : rin y b) (h : (sub a.1 a.2 b.1 b.2).2.2 = 0) : rin (x - y) (lohi (sub a.1 a.2 b.1 b.2)) := by
  unfold sub at h ⊢
  split at h
  · rename_i g
    rw [if_pos g]
    have hn : rin (-y) (-b.2, -b.1) := by
      unfold rin at *
      simp only [Rat.intCast_neg]
      grind
    have := add_rin (b := (-b.2, -b.1)) hx hn h
    rwa [show x - y = x + -y by grind]
  · cases h
/-- A product is not below all products of the bounds, and not above all. -/
theorem corner {a b c d x y : Rat} (hx : a ≤ x ∧ x ≤ b) (hy : c ≤ y ∧ y ≤ d) :
    (a * c ≤ x * y ∨ a * d ≤ x * y ∨ b * c ≤ x * y ∨ b * d ≤ x * y) ∧ (x * y ≤ a * c ∨ x * y ≤ a * d ∨ x * y ≤ b * c ∨ x * y ≤ b * d) := by
  have key : ∀ {u v w z : Rat}, u ≤ v → 0 ≤ w → u * w ≤ v * w := fun h hw => Rat.mul_le_mul_of_nonneg_right h hw
  have l : ∀ {u v w : Rat}, u ≤ v → 0 ≤ w → w * u ≤ w * v := fun h hw => Rat.mul_le_mul_of_nonneg_left h hw
  have ln : ∀ {u v w : Rat}, u ≤ v → w ≤ 0 → w * v ≤ w * u := fun {u v w} h hw => by
    have := l (w := -w) h (by grind)
    grind
  have hlow : a * y ≤ x * y ∨ b * y ≤ x * y := by
    by_cases h : 0 ≤ y
    · have := l hx.1 h; grind
    · have := ln hx.2 (w := y) (by grind); grind
  have hhigh : x * y ≤ a * y ∨ x * y ≤ b * y := by
    by_cases h : 0 ≤ y
    · have := l hx.2 h; grind
    · have := ln hx.1 (w := y) (by grind); grind
  have la : ∀ w : Rat, (w * c ≤ w * y ∨ w * d ≤ w * y) ∧ (w * y ≤ w * c ∨ w * y ≤ w * d) := fun w => by
    by_cases h : 0 ≤ w
    · exact ⟨.inl (l hy.1 h), .inr (l hy.2 h)⟩
    · exact ⟨.inr (ln hy.2 (by grind)), .inl (ln hy.1 (by grind))⟩
  have h1 := la a
  have h2 := la b
  grind
theorem fl_rat {x y : Int} (h : 0 < y) : ((fl x y : Int) : Rat) * y ≤ x := by
  rw [← Rat.intCast_mul]
  exact rle (Int.ediv_mul_le x (by omega))
theorem ce_rat {x y : Int} (h : 0 < y) : (x : Rat) ≤ ((ce x y : Int) : Rat) * y := by
  rw [← Rat.intCast_mul]
  refine rle ?_
  unfold ce
  have := Int.ediv_mul_le (-x) (show y ≠ 0 by omega)
  rw [Int.neg_mul]
  omega
theorem min4_le (a b c d : Int) : min4 a b c d ≤ a ∧ min4 a b c d ≤ b ∧ min4 a b c d ≤ c ∧ min4 a b c d ≤ d := by unfold min4; omega
theorem max4_ge (a b c d : Int) : a ≤ max4 a b c d ∧ b ≤ max4 a b c d ∧ c ≤ max4 a b c d ∧ d ≤ max4 a b c d := by unfold max4; omega
theorem mul_rin {a b : Int × Int} {x y : Rat} (hx : rin x a) (hy : rin y b) (h : (mul a.1 a.2 b.1 b.2).2.2 = 0) : rin (x * y / 4294967296) (lohi (mul a.1 a.2 b.1 b.2)) := by
  unfold mul at h ⊢
  split at h
  · rename_i g
    rw [if_pos g, (fit_ok h).1]
    have hc := corner hx hy
    have m := min4_le (a.1 * b.1) (a.1 * b.2) (a.2 * b.1) (a.2 * b.2)
    have M := max4_ge (a.1 * b.1) (a.1 * b.2) (a.2 * b.1) (a.2 * b.2)
    have f := fl_rat (x := min4 (a.1 * b.1) (a.1 * b.2) (a.2 * b.1) (a.2 * b.2)) (y := 4294967296) (by omega)
    have c := ce_rat (x := max4 (a.1 * b.1) (a.1 * b.2) (a.2 * b.1) (a.2 * b.2)) (y := 4294967296) (by omega)
    generalize min4 (a.1 * b.1) (a.1 * b.2) (a.2 * b.1) (a.2 * b.2) = m4 at *
    generalize max4 (a.1 * b.1) (a.1 * b.2) (a.2 * b.1) (a.2 * b.2) = M4 at *
    have m' := (fun h => rle h : m4 ≤ a.1 * b.1 → _) m.1
    have m1 := rle m.2.1
    have m2 := rle m.2.2.1
    have m3 := rle m.2.2.2
    have M0 := rle M.1
    have M1 := rle M.2.1
    have M2 := rle M.2.2.1
    have M3 := rle M.2.2.2
    simp only [Rat.intCast_mul] at m' m1 m2 m3 M0 M1 M2 M3
    unfold rin lohi at *
    simp only
    have e : ((4294967296 : Int) : Rat) = 4294967296 := by rfl
    rw [e] at f c
    generalize ((fl m4 4294967296 : Int) : Rat) = F at *
    generalize ((ce M4 4294967296 : Int) : Rat) = C at *
    constructor <;> grind
  · cases h
theorem le_quo {F M X : Rat} (h : F * M ≤ X) (hM : 0 < M) : F ≤ X / M := by
  have hi : 0 < M⁻¹ := by exact Rat.inv_pos.2 hM
  have := Rat.mul_le_mul_of_nonneg_right h (Rat.le_of_lt hi)
  have e : F * M * M⁻¹ = F := by grind
  rwa [e, ← Rat.div_def] at this
theorem quo_le {F M X : Rat} (h : X ≤ F * M) (hM : 0 < M) : X / M ≤ F := by
  have hi : 0 < M⁻¹ := by exact Rat.inv_pos.2 hM
  have := Rat.mul_le_mul_of_nonneg_right h (Rat.le_of_lt hi)
  have e : F * M * M⁻¹ = F := by grind
  rwa [e, ← Rat.div_def] at this
theorem inv_le {c y : Rat} (hc : 0 < c) (h : c ≤ y) : y⁻¹ ≤ c⁻¹ := by
  have h1 : 0 < c⁻¹ := Rat.inv_pos.2 hc
  have h2 : 0 < y⁻¹ := Rat.inv_pos.2 (by grind)
  have := Rat.mul_le_mul_of_nonneg_right h (Rat.le_of_lt (Rat.mul_pos h1 h2))
  have e1 : c * (c⁻¹ * y⁻¹) = y⁻¹ := by grind
  have e2 : y * (c⁻¹ * y⁻¹) = c⁻¹ := by grind
  rwa [e1, e2] at this
theorem inv_leN {c y : Rat} (hc : y < 0) (h : c ≤ y) : y⁻¹ ≤ c⁻¹ := by
  have := inv_le (c := -y) (y := -c) (by grind) (by grind)
  have e1 : (-c)⁻¹ = -(c⁻¹) := by grind
  have e2 : (-y)⁻¹ = -(y⁻¹) := by grind
  rw [e1, e2] at this
  grind
theorem rdn_rat {n m : Int} (h : m ≠ 0) : ((rdn n m : Int) : Rat) ≤ (n : Rat) * 4294967296 / m := by
  have e : ((4294967296 : Int) : Rat) = 4294967296 := by rfl
  unfold rdn
  split
  · have f := fl_rat (x := -(n * 4294967296)) (y := -m) (by omega)
    have q := le_quo f (by have := Rat.intCast_lt_intCast.2 (show (0 : Int) < -m by omega); simpa using this)
    have hm : (m : Rat) ≠ 0 := fun h' => h (Rat.intCast_eq_zero_iff.1 h')
    rw [Rat.intCast_neg, Rat.intCast_neg, Rat.intCast_mul, e] at q
    have e2 : -((n : Rat) * 4294967296) / -(m : Rat) = (n : Rat) * 4294967296 / m := by grind
    rwa [e2] at q
  · have f := fl_rat (x := n * 4294967296) (y := m) (by omega)
    have q := le_quo f (by have := Rat.intCast_lt_intCast.2 (show (0 : Int) < m by omega); simpa using this)
    rwa [Rat.intCast_mul, e] at q
theorem rup_rat {n m : Int} (h : m ≠ 0) : (n : Rat) * 4294967296 / m ≤ ((rup n m : Int) : Rat) := by
  have e : ((4294967296 : Int) : Rat) = 4294967296 := by rfl
  unfold rup
  split
  · have f := ce_rat (x := -(n * 4294967296)) (y := -m) (by omega)
    have q := quo_le f (by have := Rat.intCast_lt_intCast.2 (show (0 : Int) < -m by omega); simpa using this)
    have hm : (m : Rat) ≠ 0 := fun h' => h (Rat.intCast_eq_zero_iff.1 h')
    rw [Rat.intCast_neg, Rat.intCast_neg, Rat.intCast_mul, e] at q
    have e2 : -((n : Rat) * 4294967296) / -(m : Rat) = (n : Rat) * 4294967296 / m := by grind
    rwa [e2] at q
  · have f := ce_rat (x := n * 4294967296) (y := m) (by omega)
    have q := quo_le f (by have := Rat.intCast_lt_intCast.2 (show (0 : Int) < m by omega); simpa using this)
    rwa [Rat.intCast_mul, e] at q
theorem div_rin {a b : Int × Int} {x y : Rat} (hx : rin x a) (hy : rin y b) (h : (div a.1 a.2 b.1 b.2).2.2 = 0) : y ≠ 0 ∧ rin (x * 4294967296 / y) (lohi (div a.1 a.2 b.1 b.2)) := by
  unfold div at h ⊢
  split at h
  · rename_i g
    split at h
    · cases h
    · rename_i g2
      rw [if_pos g, if_neg g2, (fit_ok h).1]
      have z0 : ∀ m : Int, ((0 : Int) : Rat) = 0 := fun _ => rfl
      have hinv : y ≠ 0 ∧ (b.2 : Rat)⁻¹ ≤ y⁻¹ ∧ y⁻¹ ≤ (b.1 : Rat)⁻¹ := by
        have hbb := rin_le hy
        by_cases hc : 0 < b.1
        · have h1 : (0 : Rat) < b.1 := by have := Rat.intCast_lt_intCast.2 hc; simpa using this
          unfold rin at hy
          exact ⟨by grind, inv_le (by grind) hy.2, inv_le h1 hy.1⟩
        · have hd : b.2 < 0 := by omega
          have h1 : (b.2 : Rat) < 0 := by have := Rat.intCast_lt_intCast.2 hd; simpa using this
          unfold rin at hy
          exact ⟨by grind, inv_leN h1 hy.2, inv_leN (by grind) hy.1⟩
      obtain ⟨hy0, hi⟩ := hinv
      refine ⟨hy0, ?_⟩
      have n1 : b.1 ≠ 0 := fun h => by have := rin_le hy; omega
      have n2 : b.2 ≠ 0 := fun h => by have := rin_le hy; omega
      have hc := corner hx hi
      have m := min4_le (rdn a.1 b.1) (rdn a.1 b.2) (rdn a.2 b.1) (rdn a.2 b.2)
      have M := max4_ge (rup a.1 b.1) (rup a.1 b.2) (rup a.2 b.1) (rup a.2 b.2)
      have e : ∀ n w : Rat, n * 4294967296 / w = n * w⁻¹ * 4294967296 := fun n w => by rw [Rat.div_def]; grind
      have d1 := rdn_rat (n := a.1) n1
      have d2 := rdn_rat (n := a.1) n2
      have d3 := rdn_rat (n := a.2) n1
      have d4 := rdn_rat (n := a.2) n2
      have u1 := rup_rat (n := a.1) n1
      have u2 := rup_rat (n := a.1) n2
      have u3 := rup_rat (n := a.2) n1
      have u4 := rup_rat (n := a.2) n2
      rw [e] at d1 d2 d3 d4 u1 u2 u3 u4
      have m0 := rle m.1
      have m1 := rle m.2.1
      have m2 := rle m.2.2.1
      have m3 := rle m.2.2.2
      have M0 := rle M.1
      have M1 := rle M.2.1
      have M2 := rle M.2.2.1
      have M3 := rle M.2.2.2
      unfold rin lohi
      simp only
      rw [e]
      generalize ((min4 (rdn a.1 b.1) (rdn a.1 b.2) (rdn a.2 b.1) (rdn a.2 b.2) : Int) : Rat) = F at *
      generalize ((max4 (rup a.1 b.1) (rup a.1 b.2) (rup a.2 b.1) (rup a.2 b.2) : Int) : Rat) = C at *
      clear h g g2 hx hy z0 m M hi
      generalize (a.1 : Rat) * (b.1 : Rat)⁻¹ = q1 at *
      generalize (a.1 : Rat) * (b.2 : Rat)⁻¹ = q2 at *
      generalize (a.2 : Rat) * (b.1 : Rat)⁻¹ = q3 at *
      generalize (a.2 : Rat) * (b.2 : Rat)⁻¹ = q4 at *
      generalize x * y⁻¹ = q at *
      constructor <;> grind
  · cases h
end Go.Proofs.Ythmggmpgkmmfiaa
set_option linter.unusedVariables false
set_option maxRecDepth 4000
namespace Go.Proofs.Ythmggmpgkmmfiaa
open Go Go.RowKit Ul Vc
attribute [local irreducible] Go.Calls
def SpI (p : Sp) : Prop := I64 p.1 ∧ I64 p.2
def N63 (n : Int) : Prop := -9223372036854775807 ≤ n ∧ n ≤ 9223372036854775807
def SpN (p : Sp) : Prop := N63 p.1 ∧ N63 p.2
theorem SpN.I {p : Sp} (h : SpN p) : SpI p := by unfold SpN N63 at h; unfold SpI I64; omega
instance (n : Int) : Decidable (N63 n) := inferInstanceAs (Decidable (_ ∧ _))
instance (p : Sp) : Decidable (SpN p) := inferInstanceAs (Decidable (_ ∧ _))
def R64 (r : R) : Prop := N63 r.1 ∧ N63 r.2.1
theorem fit_64 (x y : Int) : R64 (fit x y) := by
  unfold fit R64 N63
  split
  · simp only; omega
  · simp only; omega
theorem no_64 (e : Int) : R64 (0, 0, e) := by unfold R64 N63; simp only; omega
theorem add_64 (a b c d : Int) : R64 (add a b c d) := by
  unfold add; split
  · exact fit_64 _ _
  · exact no_64 _
theorem sub_64 (a b c d : Int) : R64 (sub a b c d) := by
  unfold sub; split
  · exact add_64 _ _ _ _
  · exact no_64 _
theorem mul_64 (a b c d : Int) : R64 (mul a b c d) := by
  unfold mul; split
  · exact fit_64 _ _
  · exact no_64 _
theorem div_64 (a b c d : Int) : R64 (div a b c d) := by
  unfold div; split
  · split
    · exact no_64 _
    · exact fit_64 _ _
  · exact no_64 _
/-- The result of an operation that is done unless there was an error. -/
def cop (e : Int) (r : R) : R := if e = 0 then r else (0, 0, e)
theorem cop_64 {e : Int} {r : R} (h : R64 r) : R64 (cop e r) := by
  unfold cop; split
  · exact h
  · exact no_64 _
theorem cop_ok {e : Int} {r : R} (h : (cop e r).2.2 = 0) : e = 0 ∧ r.2.2 = 0 ∧ cop e r = r := by
  unfold cop at *
  split at h
  · rename_i g; exact ⟨g, h, by rw [if_pos g]⟩
  · rename_i g; exact absurd h g
/-- What a method does to a row of operations. -/
def Op (f : FuncId) (e : Int) (a b : Sp) (r : R) : Prop := ∀ (w : World) (xl : Nat), w.heap[xl]? = some (.cells #[.int .i64 e] 83) →
  Calls Try.prog f #[Vc.ptr xl 0, Vc.S a.1 a.2, Vc.S b.1 b.2] w (Vc.Eff (Vc.S r.1 r.2.1) xl #[.int .i64 r.2.2] 83 w)
theorem op_add (e : Int) {a b : Sp} (ha : SpI a) (hb : SpI b) : Op 39 e a b (cop e (add a.1 a.2 b.1 b.2)) := by
  intro w xl hx
  refine vc___steer_calc__add e a.1 a.2 b.1 b.2 xl w _ _ hx ?_
  refine iteI (fun h => ⟨_, _, _, fun w' hw => padd_any _ _ _ _ w' ha.1 ha.2 hb.1 hb.2, ?_⟩) (fun h => ?_)
  · unfold cop; rw [if_pos h]
  · unfold cop; rw [if_neg h]
theorem op_sub (e : Int) {a b : Sp} (ha : SpI a) (hb : SpI b) : Op 35 e a b (cop e (sub a.1 a.2 b.1 b.2)) := by
  intro w xl hx
  refine vc___steer_calc__sub e a.1 a.2 b.1 b.2 xl w _ _ hx ?_
  refine iteI (fun h => ⟨_, _, _, fun w' hw => psub_any _ _ _ _ w' ha.1 ha.2 hb.1 hb.2, ?_⟩) (fun h => ?_)
  · unfold cop; rw [if_pos h]
  · unfold cop; rw [if_neg h]
theorem op_mul (e : Int) {a b : Sp} (ha : SpI a) (hb : SpI b) : Op 36 e a b (cop e (mul a.1 a.2 b.1 b.2)) := by
  intro w xl hx
  refine vc___steer_calc__mul e a.1 a.2 b.1 b.2 xl w _ _ hx ?_
  refine iteI (fun h => ⟨_, _, _, fun w' hw => pmul_any _ _ _ _ w' ha.1 ha.2 hb.1 hb.2, ?_⟩) (fun h => ?_)
  · unfold cop; rw [if_pos h]
  · unfold cop; rw [if_neg h]
theorem op_div (e : Int) {a b : Sp} (ha : SpI a) (hb : SpI b) : Op 34 e a b (cop e (div a.1 a.2 b.1 b.2)) := by
  intro w xl hx
  refine vc___steer_calc__div e a.1 a.2 b.1 b.2 xl w _ _ hx ?_
  refine iteI (fun h => ⟨_, _, _, fun w' hw => pdiv_any _ _ _ _ w' ha.1 ha.2 hb.1 hb.2, ?_⟩) (fun h => ?_)
  · unfold cop; rw [if_pos h]
  · unfold cop; rw [if_neg h]
theorem spoint (n : Int) (w : World) : Calls Try.prog 33 #[.int .i64 n] w (Vc.Ret (Vc.S n n) w) := vc_steer_point n w _ rfl
theorem svalid (n : Int) (w : World) : Calls Try.prog 43 #[.int .i64 n] w (Vc.Ret (.bool (decide (n ≥ -9223372036854775807))) w) := vc_steer_valid n w _ rfl
theorem ptwo {e : Int} (a b : Sp) {w : World} {xl : Nat} (hx : w.heap[xl]? = some (.cells #[.int .i64 e] 83)) :
    Calls Try.prog 37 #[Vc.ptr xl 0, Vc.S a.1 a.2, Vc.S b.1 b.2] w (Vc.Ret (if e = 0 then .tuple #[Vc.S a.1 a.2, Vc.S b.1 b.2, .int .i64 0] else .tuple #[Vc.S 0 0, Vc.S 0 0, .int .i64 e]) w) := by
  have hc : w.cell? ⟨xl, 0, none⟩ = some (.int .i64 e) := by rw [cell_of_heap hx]; rfl
  refine vc___steer_calc__two (xl, 0) a.1 a.2 b.1 b.2 w _ ?_
  refine ⟨e, hc, ?_⟩
  refine iteI (fun h => ?_) (fun h => ⟨e, hc, ?_⟩)
  · rw [if_pos h]
  · rw [if_neg h]
def okL (l : List Sp) : Bool := decide (∀ p ∈ l, ok p.1 p.2 = true)
theorem sall1 (p : Sp) (w : World) : Calls Try.prog 59 #[Vc.S p.1 p.2] w (Vc.Ret (.bool (!(ok p.1 p.2))) w) := by
  refine vc_steer_all_1 _ _ w _ ?_
  refine ⟨_, fun w' hw => check_any _ _ w', ?_⟩
  unfold chk
  cases ok p.1 p.2 <;> rfl
theorem sall {w : World} {v : Value} {l : List Sp} (h : Sps w v l) (hn : l.length < 1000000) : Calls Try.prog 32 #[v] w (Vc.Ret (.bool (okL l)) w) := by
  obtain ⟨b0, p0, x1, rfl, hb, hc⟩ := sps_form h
  refine vc_steer_all p0 (l.length : Int) x1 b0 w _ ?_
  refine ⟨by omega, sps_nb hb, ?_⟩
  refine ⟨fun y => ∃ i : Nat, i ≤ l.length ∧ (∀ p ∈ l.take i, ok p.1 p.2 = true) ∧ y = [.i 0, .i (i : Int)], upK 1 (l.length : Int), ⟨0, by omega, by simp, rfl⟩, ?_⟩
  rintro x2 x3 ⟨i, hi, ho, hy⟩
  simp only [List.cons.injEq, Vc.Vl.i.injEq, and_true] at hy
  obtain ⟨rfl, rfl⟩ := hy
  refine iteI (fun hlt => ?_) (fun hge => ?_)
  · have hq := List.getElem?_eq_getElem (show i < l.length by omega)
    generalize l[i] = p at hq
    obtain ⟨c0, c1⟩ := hc i p hq
    refine ⟨sps_nb0 hb (by omega), by omega, hlt, _, c0, _, c1, _, fun w' hw => sall1 p w', ?_⟩
    refine iteI (fun hf => ?_) (fun hf => ?_)
    · rw [decide_eq_true (show (i : Int) ≥ 0 by omega)]
      have : okL l = false := decide_eq_false fun hall => by
        have := hall p (List.mem_of_getElem? hq)
        rw [this] at hf
        cases hf
      rw [this]; rfl
    · rintro x6 e6
      rw [wrap_up i (by omega)] at e6
      subst e6
      refine ⟨⟨i + 1, by omega, fun q hq' => ?_, rfl⟩, by simp only [upK, List.getElem?_cons_succ, List.getElem?_cons_zero]; omega⟩
      have et : l.take (i + 1) = l.take i ++ [p] := by rw [List.take_add_one, hq]; rfl
      rw [et] at hq'
      rcases List.mem_append.1 hq' with h | h
      · exact ho q h
      · simp only [List.mem_cons, List.not_mem_nil, or_false] at h
        subst h
        cases hk : ok q.1 q.2
        · rw [hk] at hf; exact absurd rfl hf
        · rfl
  · obtain rfl : i = l.length := by omega
    rw [List.take_of_length_le (Nat.le_refl _)] at ho
    rw [show okL l = true from decide_eq_true ho]
end Go.Proofs.Ythmggmpgkmmfiaa
set_option linter.unusedVariables false
set_option maxRecDepth 4000
namespace Go.Proofs.Ythmggmpgkmmfiaa
open Go Go.RowKit Ul Vc
attribute [local irreducible] Go.Calls
theorem rin_pt (t : Int) : rin t (t, t) := ⟨by grind, by grind⟩
end Go.Proofs.Ythmggmpgkmmfiaa
set_option linter.unusedVariables false
set_option maxRecDepth 4000
namespace Go.Proofs.Ythmggmpgkmmfiaa
open Go Go.RowKit Ul Vc
attribute [local irreducible] Go.Calls
abbrev V3 := Int × Int × Int
def v3c (v : V3) : List Value := [.int .i64 v.1, .int .i64 v.2.1, .int .i64 v.2.2]
theorem v3c_len (v : V3) : (v3c v).length = 3 := rfl
abbrev VV (v : V3) : Value := .agg #[.int .i64 v.1, .int .i64 v.2.1, .int .i64 v.2.2]
def V3s (w : World) (v : Value) (l : List V3) : Prop := SlAt w v 3 (l.flatMap v3c)
theorem v3_cells {w : World} {p0 : Nat × Nat} {l : List V3} (h3 : ∀ j u, (l.flatMap v3c)[j]? = some u → w.cell? ⟨p0.1, p0.2 + j, none⟩ = some u) : ∀ (i : Nat) (p : V3), l[i]? = some p → w.cell? ⟨p0.1, p0.2 + i * 3 + 0, none⟩ = some (.int .i64 p.1) ∧ w.cell? ⟨p0.1, p0.2 + i * 3 + 1, none⟩ = some (.int .i64 p.2.1) ∧ w.cell? ⟨p0.1, p0.2 + i * 3 + 2, none⟩ = some (.int .i64 p.2.2) := by
  intro i p hp
  simp only [Nat.add_assoc]
  exact ⟨h3 (i * 3 + 0) _ (flat_at v3c_len hp (by decide)), h3 (i * 3 + 1) _ (flat_at v3c_len hp (by decide)), h3 (i * 3 + 2) _ (flat_at v3c_len hp (by decide))⟩
theorem v3_form {w : World} {v : Value} {l : List V3} (h : V3s w v l) : ∃ (b0 : Bool) (p0 : Nat × Nat) (x1 : Int), v = (if b0 = true then .slice none 0 0 else .slice (some (Vc.qad p0 (Int.toNat (l.length : Int)) (Int.toNat x1))) (Int.toNat (l.length : Int)) (Int.toNat x1)) ∧ (b0 = true → l.length = 0) ∧
    (∀ (i : Nat) (p : V3), l[i]? = some p → w.cell? ⟨p0.1, p0.2 + i * 3 + 0, none⟩ = some (.int .i64 p.1) ∧ w.cell? ⟨p0.1, p0.2 + i * 3 + 1, none⟩ = some (.int .i64 p.2.1) ∧ w.cell? ⟨p0.1, p0.2 + i * 3 + 2, none⟩ = some (.int .i64 p.2.2)) := by
  obtain ⟨b0, p0, x1, h1, h2, h3⟩ := sl_form h (by decide) (flat_len v3c_len l)
  exact ⟨b0, p0, x1, h1, h2, v3_cells h3⟩
/-- A row of the call's own: its room is not less than its length. -/
theorem v3_row {lo b code n base : Nat} {l : List V3} {t : TypeId} {w : World} {xs : List Value} (h : RowOk lo b code n base xs 3 t w) (hx : xs = l.flatMap v3c) : ∃ (b0 : Bool) (p0 : Nat × Nat) (x1 : Int), ownV b code n base = (if b0 = true then .slice none 0 0 else .slice (some (Vc.qad p0 (Int.toNat (l.length : Int)) (Int.toNat x1))) (Int.toNat (l.length : Int)) (Int.toNat x1)) ∧ (b0 = true → l.length = 0) ∧
    (0 < l.length → (l.length : Int) ≤ x1) ∧
    (∀ (i : Nat) (p : V3), l[i]? = some p → w.cell? ⟨p0.1, p0.2 + i * 3 + 0, none⟩ = some (.int .i64 p.1) ∧ w.cell? ⟨p0.1, p0.2 + i * 3 + 1, none⟩ = some (.int .i64 p.2.1) ∧ w.cell? ⟨p0.1, p0.2 + i * 3 + 2, none⟩ = some (.int .i64 p.2.2)) := by
  subst hx
  by_cases h0 : l.length = 0
  · obtain ⟨b0, p0, x1, h1, h2, h3⟩ := v3_form (own_sl h : V3s w _ l)
    exact ⟨b0, p0, x1, h1, h2, fun h => by omega, h3⟩
  · obtain ⟨m, e1, e2, e3⟩ := row_at h (flat_len v3c_len l) (by omega)
    refine ⟨false, (b, 0), (m : Int), ?_, fun h => (by cases h), fun _ => by omega, v3_cells fun j u hj => by rw [Nat.zero_add]; exact e3 j u hj⟩
    rw [e1, if_neg (by decide), qad_plain (by omega)]
    rfl
def Bd (n x : Int) : Prop := -n ≤ x ∧ x ≤ n
theorem mul_bd {a b A B : Int} (ha : Bd A a) (hb : Bd B b) : Bd (A * B) (a * b) := by
  have hA : 0 ≤ A := by unfold Bd at ha; omega
  have hB : 0 ≤ B := by unfold Bd at hb; omega
  have h1 : (a.natAbs : Int) ≤ A := by unfold Bd at ha; omega
  have h2 : (b.natAbs : Int) ≤ B := by unfold Bd at hb; omega
  have h3 : ((a * b).natAbs : Int) ≤ A * B := by
    rw [Int.natAbs_mul]
    exact_mod_cast Int.mul_le_mul h1 h2 (by omega) hA
  unfold Bd; omega
def V3B (n : Int) (v : V3) : Prop := Bd n v.1 ∧ Bd n v.2.1 ∧ Bd n v.2.2
instance (n x : Int) : Decidable (Bd n x) := inferInstanceAs (Decidable (_ ∧ _))
instance (n : Int) (v : V3) : Decidable (V3B n v) := inferInstanceAs (Decidable (_ ∧ _ ∧ _))
def dot (a b : V3) : Int := a.1 * b.1 + a.2.1 * b.2.1 + a.2.2 * b.2.2
def crs (a b : V3) : V3 := (a.2.1 * b.2.2 - a.2.2 * b.2.1, a.2.2 * b.1 - a.1 * b.2.2, a.1 * b.2.1 - a.2.1 * b.1)
theorem pdot {a b : V3} {A B : Int} (ha : V3B A a) (hb : V3B B b) (h : A * B * 3 ≤ 9223372036854775807) (w : World) : Calls Try.prog 29 #[VV a, VV b] w (Vc.Ret (.int .i64 (dot a b)) w) := by
  have m1 := mul_bd ha.1 hb.1
  have m2 := mul_bd ha.2.1 hb.2.1
  have m3 := mul_bd ha.2.2 hb.2.2
  unfold Bd at m1 m2 m3
  refine vc__steer_vector__dot _ _ _ _ _ _ w _ ?_
  rintro _ rfl _ rfl _ rfl _ rfl _ rfl
  rw [Vc.i64_id (x := a.1 * b.1) (by omega), Vc.i64_id (x := a.2.1 * b.2.1) (by omega), Vc.i64_id (x := a.2.2 * b.2.2) (by omega), Vc.i64_id (x := a.1 * b.1 + a.2.1 * b.2.1) (by omega), Vc.i64_id (by omega)]
  rfl
theorem crs_bd {a b : V3} (ha : V3B 1048576 a) (hb : V3B 1048576 b) : V3B 2199023255552 (crs a b) := by
  have m1 := mul_bd ha.2.1 hb.2.2
  have m2 := mul_bd ha.2.2 hb.2.1
  have m3 := mul_bd ha.2.2 hb.1
  have m4 := mul_bd ha.1 hb.2.2
  have m5 := mul_bd ha.1 hb.2.1
  have m6 := mul_bd ha.2.1 hb.1
  unfold V3B crs Bd at *
  simp only
  omega
theorem pcrs {a b : V3} (ha : V3B 1048576 a) (hb : V3B 1048576 b) (w : World) : Calls Try.prog 56 #[VV a, VV b] w (Vc.Ret (VV (crs a b)) w) := by
  have m1 := mul_bd ha.2.1 hb.2.2
  have m2 := mul_bd ha.2.2 hb.2.1
  have m3 := mul_bd ha.2.2 hb.1
  have m4 := mul_bd ha.1 hb.2.2
  have m5 := mul_bd ha.1 hb.2.1
  have m6 := mul_bd ha.2.1 hb.1
  unfold Bd at *
  refine vc__steer_vector__cross _ _ _ _ _ _ w _ ?_
  rintro _ rfl _ rfl _ rfl _ rfl _ rfl _ rfl _ rfl _ rfl _ rfl
  rw [Vc.i64_id (x := a.2.1 * b.2.2) (by omega), Vc.i64_id (x := a.2.2 * b.2.1) (by omega), Vc.i64_id (x := a.2.2 * b.1) (by omega), Vc.i64_id (x := a.1 * b.2.2) (by omega), Vc.i64_id (x := a.1 * b.2.1) (by omega), Vc.i64_id (x := a.2.1 * b.1) (by omega), Vc.i64_id (by omega), Vc.i64_id (by omega), Vc.i64_id (by omega)]
  rfl
def ckV (l : List V3) (f : Int) : Int := if 12 < l.length then 3 else if ∀ v ∈ l, V3B 1048576 v then (if 0 ≤ f ∧ f < 2 ^ l.length then 0 else 2) else 2
theorem pow_le12 {n : Nat} (h : n ≤ 12) : (2 : Int) ^ n ≤ 4096 := by
  have : ∀ k : Nat, k ≤ 12 → (2 : Int) ^ k ≤ 4096 := by decide
  exact this n h
theorem pow_pos2 (n : Nat) : (0 : Int) < 2 ^ n := Int.pow_pos (by decide)
theorem pcheck {w : World} {v : Value} {l : List V3} (h : V3s w v l) (f : Int) (hf : I64 f) : Calls Try.prog 26 #[v, .int .i64 f] w (Vc.Ret (.int .i64 (ckV l f)) w) := by
  obtain ⟨b0, p0, x1, rfl, hb, hc⟩ := v3_form h
  have nb := sps_nb hb
  refine vc_steer_check p0 (l.length : Int) x1 f b0 w _ ?_
  refine ⟨by omega, nb, ?_⟩
  refine iteI (fun g => ?_) (fun g => ⟨by omega, nb, ?_⟩)
  · unfold ckV; rw [if_pos (by omega)]
  refine ⟨fun y => ∃ i : Nat, i ≤ l.length ∧ (∀ p ∈ l.take i, V3B 1048576 p) ∧ y = [.i 0, .i (i : Int)], upK 1 (l.length : Int), ⟨0, by omega, by simp, rfl⟩, ?_⟩
  rintro x3 x4 ⟨i, hi, ho, hy⟩
  simp only [List.cons.injEq, Vc.Vl.i.injEq, and_true] at hy
  obtain ⟨rfl, rfl⟩ := hy
  refine iteI (fun hlt => ?_) (fun hge => ?_)
  · have hq := List.getElem?_eq_getElem (show i < l.length by omega)
    generalize l[i] = p at hq
    obtain ⟨c0, c1, c2⟩ := hc i p hq
    have bad : ¬ V3B 1048576 p → (2 : Int) = ckV l f := fun hn => by
      unfold ckV
      rw [if_neg (by omega), if_neg fun hall => hn (hall p (List.mem_of_getElem? hq))]
    refine ⟨sps_nb0 hb (by omega), by omega, hlt, _, c0, _, c1, _, c2, ?_⟩
    refine iteI (fun k => ?_) (fun k1 => iteI (fun k => ?_) (fun k2 => iteI (fun k => ?_) (fun k3 => iteI (fun k => ?_) (fun k4 => iteI (fun k => ?_) (fun k5 => iteI (fun k => ?_) (fun k6 => ?_))))))
    · rw [← bad (by unfold V3B Bd; omega)]
    · rw [← bad (by unfold V3B Bd; omega)]
    · rw [← bad (by unfold V3B Bd; omega)]
    · rw [← bad (by unfold V3B Bd; omega)]
    · rw [← bad (by unfold V3B Bd; omega)]
    · rw [← bad (by unfold V3B Bd; omega)]
    rintro x8 e8
    rw [wrap_up i (by omega)] at e8
    subst e8
    refine ⟨⟨i + 1, by omega, fun q hq' => ?_, rfl⟩, by simp only [upK, List.getElem?_cons_succ, List.getElem?_cons_zero]; omega⟩
    have et : l.take (i + 1) = l.take i ++ [p] := by rw [List.take_add_one, hq]; rfl
    rw [et] at hq'
    rcases List.mem_append.1 hq' with h | h
    · exact ho q h
    · simp only [List.mem_cons, List.not_mem_nil, or_false] at h
      subst h
      unfold V3B Bd; omega
  · obtain rfl : i = l.length := by omega
    rw [List.take_of_length_le (Nat.le_refl _)] at ho
    have e : ckV l f = if 0 ≤ f ∧ f < 2 ^ l.length then 0 else 2 := by unfold ckV; rw [if_neg (by omega), if_pos ho]
    refine iteI (fun k => ?_) (fun k => ⟨by omega, nb, by omega, ?_⟩)
    · rw [e, if_neg (by omega)]
    rintro x5 e5
    have hp := pow_le12 (n := l.length) (by omega)
    have hp0 := pow_pos2 l.length
    rw [show Nat.min (Int.toNat (l.length : Int)) 64 = l.length from Nat.min_eq_left (by omega), Int.one_mul, Vc.i64_id (by omega)] at e5
    subst e5
    refine iteI (fun k2 => ?_) (fun k2 => ?_)
    · rw [e, if_neg (by omega)]
    · rw [e, if_pos (by omega)]
def abv (l : List V3) (n : V3) : Bool := decide (∃ v ∈ l, 0 < dot v n)
def blw (l : List V3) (n : V3) : Bool := decide (∃ v ∈ l, dot v n < 0)
theorem abv_snoc (l : List V3) (p n : V3) : abv (l ++ [p]) n = (abv l n || decide (0 < dot p n)) := by
  unfold abv
  rw [Bool.eq_iff_iff]
  simp [or_and_right, exists_or]
theorem blw_snoc (l : List V3) (p n : V3) : blw (l ++ [p]) n = (blw l n || decide (dot p n < 0)) := by
  unfold blw
  rw [Bool.eq_iff_iff]
  simp [or_and_right, exists_or]
theorem psides {w : World} {v : Value} {l : List V3} (h : V3s w v l) (n : V3) (hl : ∀ p ∈ l, V3B 1048576 p) (hn : V3B 2199023255552 n) (hlen : l.length ≤ 1000) : Calls Try.prog 57 #[v, VV n] w (Vc.Ret (.tuple #[.bool (abv l n), .bool (blw l n)]) w) := by
  obtain ⟨b0, p0, x1, rfl, hb, hc⟩ := v3_form h
  refine vc_steer_sides p0 (l.length : Int) x1 n.1 n.2.1 n.2.2 b0 w _ ?_
  refine ⟨by omega, sps_nb hb, ?_⟩
  refine ⟨fun y => ∃ i : Nat, i ≤ l.length ∧ y = [.b (abv (l.take i) n), .b (blw (l.take i) n), .i (i : Int)], upK 2 (l.length : Int), ⟨0, by omega, rfl⟩, ?_⟩
  rintro b1 b2 x5 ⟨i, hi, hy⟩
  simp only [List.cons.injEq, Vc.Vl.i.injEq, Vc.Vl.b.injEq, and_true] at hy
  obtain ⟨e1, e2, rfl⟩ := hy
  refine iteI (fun hlt => ?_) (fun hge => ?_)
  · have hq := List.getElem?_eq_getElem (show i < l.length by omega)
    have hm : l[i] ∈ l := List.getElem_mem (by omega)
    generalize l[i] = p at hq hm
    obtain ⟨c0, c1, c2⟩ := hc i p hq
    have et : l.take (i + 1) = l.take i ++ [p] := by rw [List.take_add_one, hq]; rfl
    have next : ∀ (x : Int) (c d : Bool), x = IntKind.i64.wrap ((i : Int) + 1) → c = (b1 || decide (0 < dot p n)) → d = (b2 || decide (dot p n < 0)) →
        (∃ i : Nat, i ≤ l.length ∧ [Vc.Vl.b c, .b d, .i x] = [.b (abv (l.take i) n), .b (blw (l.take i) n), .i (i : Int)]) ∧ upK 2 (l.length : Int) [.b c, .b d, .i x] < upK 2 (l.length : Int) [.b b1, .b b2, .i (i : Int)] := by
      rintro x c d ex rfl rfl
      rw [wrap_up i (by omega)] at ex
      subst ex
      refine ⟨⟨i + 1, by omega, ?_⟩, by simp only [upK, List.getElem?_cons_succ, List.getElem?_cons_zero]; omega⟩
      rw [et, abv_snoc, blw_snoc, ← e1, ← e2]
    refine ⟨sps_nb0 hb (by omega), by omega, hlt, _, c0, _, c1, _, c2, _, fun w' hw => pdot (a := p) (b := n) (hl p hm) hn (by omega) w', ?_⟩
    refine iteI (fun g1 => iteI (fun g2 => ?_) (fun g2 => ?_)) (fun g1 => iteI (fun g2 => ?_) (fun g2 => ?_))
    · rintro x10 e10; exact next _ _ _ e10 (by rw [g1]; rfl) (by rw [g2]; rfl)
    · rintro x10 e10; exact next _ _ _ e10 (by rw [g1]; rfl) (by simp [g2])
    · rintro x10 e10; exact next _ _ _ e10 (by simp [g1]) (by rw [g2]; rfl)
    · rintro x10 e10; exact next _ _ _ e10 (by simp [g1]) (by simp [g2])
  · obtain rfl : i = l.length := by omega
    rw [List.take_of_length_le (Nat.le_refl _)] at e1 e2
    rw [e1, e2]
/-- On both sides of each plane that two of the first ones make. -/
def at3 (l : List V3) (i : Nat) : V3 := l.getD i (0, 0, 0)
def pairOk (l : List V3) (i j : Nat) : Prop := crs (at3 l i) (at3 l j) ≠ (0, 0, 0) → abv l (crs (at3 l i) (at3 l j)) = true ∧ blw l (crs (at3 l i) (at3 l j)) = true
instance (l : List V3) (i j : Nat) : Decidable (pairOk l i j) := inferInstanceAs (Decidable (_ → _))
def Span3 (l : List V3) : Prop := (∀ i, i < l.length → ∀ j, j < i → pairOk l i j) ∧ ∃ i, i < l.length ∧ ∃ j, j < i ∧ crs (at3 l i) (at3 l j) ≠ (0, 0, 0)
def span3B (l : List V3) : Bool := decide (∀ i, i < l.length → ∀ j, j < i → pairOk l i j) && (List.range l.length).any fun i => (List.range i).any fun j => decide (crs (at3 l i) (at3 l j) ≠ (0, 0, 0))
theorem span3B_iff {l : List V3} : span3B l = true ↔ Span3 l := by
  unfold span3B Span3
  simp [List.any_eq_true]
theorem at3_eq {l : List V3} {i : Nat} {p : V3} (h : l[i]? = some p) : at3 l i = p := by
  unfold at3; rw [List.getD_eq_getElem?_getD, h]; rfl
theorem ne3 {v : V3} : v ≠ (0, 0, 0) ↔ ¬ (v.1 = 0 ∧ (v.2.1 = 0 ∧ v.2.2 = 0)) := by
  obtain ⟨a, b, c⟩ := v
  simp
theorem pspan3 {w : World} {v : Value} {l : List V3} {b0 : Bool} {p0 : Nat × Nat} {x1 : Int} (hv : v = (if b0 = true then .slice none 0 0 else .slice (some (Vc.qad p0 (Int.toNat (l.length : Int)) (Int.toNat x1))) (Int.toNat (l.length : Int)) (Int.toNat x1))) (hb : b0 = true → l.length = 0)
    (hcap : 0 < l.length → (l.length : Int) ≤ x1)
    (hc : ∀ (i : Nat) (p : V3), l[i]? = some p → w.cell? ⟨p0.1, p0.2 + i * 3 + 0, none⟩ = some (.int .i64 p.1) ∧ w.cell? ⟨p0.1, p0.2 + i * 3 + 1, none⟩ = some (.int .i64 p.2.1) ∧ w.cell? ⟨p0.1, p0.2 + i * 3 + 2, none⟩ = some (.int .i64 p.2.2))
    (h : V3s w v l) (hl : ∀ p ∈ l, V3B 1048576 p) (hlen : l.length ≤ 100) : Calls Try.prog 27 #[v] w (Vc.Ret (.bool (span3B l)) w) := by
  subst hv
  refine vc_steer_span3 p0 (l.length : Int) x1 b0 w _ ?_
  refine ⟨by omega, sps_nb hb, ?_⟩
  refine ⟨fun y => ∃ (i : Nat) (m : Int), i ≤ l.length ∧ (∀ k, k < i → ∀ j, j < k → pairOk l k j) ∧ (0 ≤ m ∧ m ≤ 100 * (i : Int)) ∧ (0 < m ↔ ∃ k, k < i ∧ ∃ j, j < k ∧ crs (at3 l k) (at3 l j) ≠ (0, 0, 0)) ∧ y = [.i m, .b false, .i (i : Int)], upK 2 (l.length : Int), ⟨0, 0, by omega, by omega, by omega, by simp, rfl⟩, ?_⟩
  rintro x2 b1 x3 ⟨i, m, hi, ho, hm, hmi, hy⟩
  simp only [List.cons.injEq, Vc.Vl.i.injEq, Vc.Vl.b.injEq, and_true] at hy
  obtain ⟨rfl, rfl, rfl⟩ := hy
  refine iteI (fun hlt => ?_) (fun hge => ?_)
  · have hq := List.getElem?_eq_getElem (show i < l.length by omega)
    have hmem : l[i] ∈ l := List.getElem_mem (by omega)
    generalize l[i] = p at hq hmem
    obtain ⟨c0, c1, c2⟩ := hc i p hq
    have hcp := hcap (by omega)
    refine ⟨sps_nb0 hb (by omega), by omega, hlt, _, c0, _, c1, _, c2, sps_nb0 hb (by omega), by omega, by omega, by omega, by omega, by omega, by omega, ?_⟩
    refine ⟨fun y => ∃ (j : Nat) (m : Int), j ≤ i ∧ (∀ k, k < j → pairOk l i k) ∧ (0 ≤ m ∧ m ≤ 100 * (i : Int) + (j : Int)) ∧ (0 < m ↔ (∃ k, k < i ∧ ∃ j, j < k ∧ crs (at3 l k) (at3 l j) ≠ (0, 0, 0)) ∨ ∃ k, k < j ∧ crs (at3 l i) (at3 l k) ≠ (0, 0, 0)) ∧ y = [.i m, .b false, .i (j : Int)], upK 2 (i : Int), ⟨0, x2, by omega, by omega, by omega, by simpa using hmi, rfl⟩, ?_⟩
    rintro x7 b2 x8 ⟨j, m, hj, hoj, hmj, hmij, hy⟩
    simp only [List.cons.injEq, Vc.Vl.i.injEq, Vc.Vl.b.injEq, and_true] at hy
    obtain ⟨rfl, rfl, rfl⟩ := hy
    refine iteI (fun hlt2 => ?_) (fun hge2 => ?_)
    · have hq2 := List.getElem?_eq_getElem (show j < l.length by omega)
      have hmem2 : l[j] ∈ l := List.getElem_mem (by omega)
      generalize l[j] = q at hq2 hmem2
      obtain ⟨d0, d1, d2⟩ := hc j q hq2
      have e1 := at3_eq hq
      have e2 := at3_eq hq2
      have hn := crs_bd (hl p hmem) (hl q hmem2)
      refine ⟨by omega, by omega, _, d0, _, d1, _, d2, ?_⟩
      refine ⟨_, _, _, fun w' hw => pcrs (a := p) (b := q) (hl p hmem) (hl q hmem2) w', ?_⟩
      refine iteI (fun hz => ?_) (fun hz => ?_)
      · rintro x15 e15
        rw [wrap_up j (by omega)] at e15
        subst e15
        have hzz : ¬ crs (at3 l i) (at3 l j) ≠ (0, 0, 0) := by rw [e1, e2, ne3]; exact fun h => h hz
        refine ⟨⟨j + 1, x7, by omega, fun k hk => ?_, by omega, ?_, rfl⟩, by simp only [upK, List.getElem?_cons_succ, List.getElem?_cons_zero]; omega⟩
        · by_cases hkj : k = j
          · subst hkj; exact fun h => absurd h hzz
          · exact hoj k (by omega)
        · rw [hmij]
          constructor
          · rintro (h | ⟨k, hk, h⟩)
            · exact .inl h
            · exact .inr ⟨k, by omega, h⟩
          · rintro (h | ⟨k, hk, h⟩)
            · exact .inl h
            · by_cases hkj : k = j
              · subst hkj; exact absurd h hzz
              · exact .inr ⟨k, by omega, h⟩
      · have hnz : crs (at3 l i) (at3 l j) ≠ (0, 0, 0) := by rw [e1, e2, ne3]; exact hz
        have hnz' := hnz
        rw [e1, e2] at hnz'
        have no : ¬ (abv l (crs p q) = true ∧ blw l (crs p q) = true) → (Value.bool false : Value) = .bool (span3B l) := fun hx => by
          have : span3B l = false := by
            rw [Bool.eq_false_iff, ne_eq, span3B_iff]
            intro hs
            have := hs.1 i (by omega) j (by omega) hnz
            rw [e1, e2] at this
            exact hx this
          rw [this]
        rintro x15 e15
        rw [Vc.i64_id (by omega)] at e15
        subst e15
        refine ⟨_, _, fun w' hw => psides (sl_below hw h) (crs p q) hl hn (by omega), ?_⟩
        refine iteI (fun ha => iteI (fun hbw => ?_) (fun hbw => no fun h => hbw h.2)) (fun ha => no fun h => ha h.1)
        rintro x16 e16
        rw [wrap_up j (by omega)] at e16
        subst e16
        refine ⟨⟨j + 1, x7 + 1, by omega, fun k hk => ?_, by omega, ?_, rfl⟩, by simp only [upK, List.getElem?_cons_succ, List.getElem?_cons_zero]; omega⟩
        · by_cases hkj : k = j
          · subst hkj; intro _; rw [e1, e2]; exact ⟨ha, hbw⟩
          · exact hoj k (by omega)
        · constructor
          · intro _; exact .inr ⟨j, by omega, hnz⟩
          · intro _; omega
    · obtain rfl : j = i := by omega
      rintro x9 e9
      rw [wrap_up j (by omega)] at e9
      subst e9
      refine ⟨⟨j + 1, x7, by omega, fun k hk => ?_, by omega, ?_, rfl⟩, by simp only [upK, List.getElem?_cons_succ, List.getElem?_cons_zero]; omega⟩
      · by_cases hkj : k = j
        · subst hkj; exact hoj
        · exact ho k (by omega)
      · rw [hmij]
        constructor
        · rintro (⟨k, hk, h⟩ | h)
          · exact ⟨k, by omega, h⟩
          · exact ⟨j, by omega, h⟩
        · rintro ⟨k, hk, h⟩
          by_cases hkj : k = j
          · subst hkj; exact .inr h
          · exact .inl ⟨k, by omega, h⟩
  · obtain rfl : i = l.length := by omega
    congr 1
    rw [Bool.eq_iff_iff, span3B_iff, decide_eq_true_eq]
    unfold Span3
    constructor
    · intro h; exact ⟨ho, hmi.1 h⟩
    · intro h; exact hmi.2 h.2
end Go.Proofs.Ythmggmpgkmmfiaa
set_option linter.unusedVariables false
set_option maxRecDepth 4000
namespace Go.Proofs.Ythmggmpgkmmfiaa
open Go Go.RowKit Ul Vc
attribute [local irreducible] Go.Calls
def wHi (a b : Int) : Int :=
  if b < 0 then IntKind.u64.wrap ((if a < 0 then IntKind.u64.wrap (hiW (IntKind.u64.wrap a * IntKind.u64.wrap b) - IntKind.u64.wrap b) else hiW (IntKind.u64.wrap a * IntKind.u64.wrap b)) - IntKind.u64.wrap a)
  else (if a < 0 then IntKind.u64.wrap (hiW (IntKind.u64.wrap a * IntKind.u64.wrap b) - IntKind.u64.wrap b) else hiW (IntKind.u64.wrap a * IntKind.u64.wrap b))
def wLo (a b : Int) : Int := loW (IntKind.u64.wrap a * IntKind.u64.wrap b)
def wplus (hi lo a b : Int) (m : Bool) : Int × Int :=
  if m = true then (IntKind.i64.wrap (hi - IntKind.i64.wrap (IntKind.i64.wrap (wHi a b) + IntKind.i64.wrap (bor lo (wLo a b)))), (lo - wLo a b) % 18446744073709551616)
  else (IntKind.i64.wrap (hi + IntKind.i64.wrap (IntKind.i64.wrap (wHi a b) + IntKind.i64.wrap ((lo + wLo a b) / 18446744073709551616))), (lo + wLo a b) % 18446744073709551616)
theorem u64_bd (x : Int) : 0 ≤ IntKind.u64.wrap x ∧ IntKind.u64.wrap x ≤ 18446744073709551615 := by
  rw [IntKind.wrap_u64]; omega
theorem lo_bd (x : Int) : 0 ≤ loW x ∧ loW x ≤ 18446744073709551615 := by unfold loW; omega
theorem pplus (hi lo a b : Int) (m : Bool) (hlo : 0 ≤ lo) (ha : I64 a) (hb : I64 b) (w : World) : Calls Try.prog 68 #[.agg #[.int .i64 hi, .int .u64 lo], .int .i64 a, .int .i64 b, .bool m] w (Vc.Ret (.agg #[.int .i64 (wplus hi lo a b m).1, .int .u64 (wplus hi lo a b m).2]) w) := by
  have ua := u64_bd a
  have ub := u64_bd b
  have ul : 0 ≤ wLo a b ∧ wLo a b ≤ 18446744073709551615 := lo_bd _
  refine vc__steer_wide__plus hi lo a b m w _ ?_
  rintro _ rfl _ rfl
  refine ⟨_, _, fun w' hw => mul64_any _ _ w' ua.1 ua.2 ub.1 ub.2, ?_⟩
  refine iteI (fun h1 => ?_) (fun h1 => ?_)
  · rintro _ rfl _ rfl
    refine iteI (fun h2 => ?_) (fun h2 => ?_)
    · rintro _ rfl _ rfl
      refine iteI (fun h3 => ?_) (fun h3 => ?_)
      · refine ⟨_, _, ⟨rfl, fun w' => sub64_0 lo (wLo a b) hlo ul.1 ul.2 w'⟩, ?_⟩
        rintro _ rfl _ rfl _ rfl _ rfl
        simp only [wplus, wHi, h1, h2, h3, if_true]
      · refine ⟨_, _, ⟨rfl, fun w' => add64_0 lo (wLo a b) hlo ul.1 w'⟩, ?_⟩
        rintro _ rfl _ rfl _ rfl _ rfl
        simp only [wplus, wHi, h1, h2, if_true, if_neg h3]
    · refine iteI (fun h3 => ?_) (fun h3 => ?_)
      · refine ⟨_, _, ⟨rfl, fun w' => sub64_0 lo (wLo a b) hlo ul.1 ul.2 w'⟩, ?_⟩
        rintro _ rfl _ rfl _ rfl _ rfl
        simp only [wplus, wHi, h1, h3, if_true, if_neg h2]
      · refine ⟨_, _, ⟨rfl, fun w' => add64_0 lo (wLo a b) hlo ul.1 w'⟩, ?_⟩
        rintro _ rfl _ rfl _ rfl _ rfl
        simp only [wplus, wHi, h1, if_true, if_neg h2, if_neg h3]
  · refine iteI (fun h2 => ?_) (fun h2 => ?_)
    · rintro _ rfl _ rfl
      refine iteI (fun h3 => ?_) (fun h3 => ?_)
      · refine ⟨_, _, ⟨rfl, fun w' => sub64_0 lo (wLo a b) hlo ul.1 ul.2 w'⟩, ?_⟩
        rintro _ rfl _ rfl _ rfl _ rfl
        simp only [wplus, wHi, h2, h3, if_true, if_neg h1]
      · refine ⟨_, _, ⟨rfl, fun w' => add64_0 lo (wLo a b) hlo ul.1 w'⟩, ?_⟩
        rintro _ rfl _ rfl _ rfl _ rfl
        simp only [wplus, wHi, h2, if_true, if_neg h1, if_neg h3]
    · refine iteI (fun h3 => ?_) (fun h3 => ?_)
      · refine ⟨_, _, ⟨rfl, fun w' => sub64_0 lo (wLo a b) hlo ul.1 ul.2 w'⟩, ?_⟩
        rintro _ rfl _ rfl _ rfl _ rfl
        simp only [wplus, wHi, h3, if_true, if_neg h1, if_neg h2]
      · refine ⟨_, _, ⟨rfl, fun w' => add64_0 lo (wLo a b) hlo ul.1 w'⟩, ?_⟩
        rintro _ rfl _ rfl _ rfl _ rfl
        simp only [wplus, wHi, if_neg h1, if_neg h2, if_neg h3]
def downN (hi lo : Int) : Int := bits .or .i64 (IntKind.i64.wrap (hi * 4294967296)) (IntKind.i64.wrap (lo / 4294967296))
def downV (hi lo : Int) : Int × Bool := if hi / 2147483648 = downN hi lo / 9223372036854775808 then (downN hi lo, decide (downN hi lo ≥ -9223372036854775807)) else (downN hi lo, false)
theorem pdown (hi lo : Int) (w : World) : Calls Try.prog 69 #[.agg #[.int .i64 hi, .int .u64 lo]] w (Vc.Ret (.tuple #[.int .i64 (downV hi lo).1, .bool (downV hi lo).2]) w) := by
  refine vc__steer_wide__down hi lo w _ ?_
  rintro x2 e2 x3 e3 x4 e4 x5 e5 x6 e6 x7 e7
  subst e2 e3 e4
  have h5 : x5 = downN hi lo := e5
  subst h5 e6 e7
  refine iteI (fun h => ⟨_, fun w' hw => svalid _ w', ?_⟩) (fun h => ?_)
  · unfold downV; rw [if_pos h]
  · unfold downV; rw [if_neg h]
/-- The jets that work. -/
def bt (f : Int) (i : Nat) : Int := bits .and .i64 (Int.fdiv f (2 ^ (Nat.min i 64))) 1
def wkT (l : List V3) (f : Int) : Nat → List V3
  | 0 => []
  | n + 1 => if bt f n = 0 then wkT l f n ++ [at3 l n] else wkT l f n
def wk (l : List V3) (f : Int) : List V3 := wkT l f l.length
theorem wkT_yes {l : List V3} {f : Int} {n : Nat} (h : bt f n = 0) : wkT l f (n + 1) = wkT l f n ++ [at3 l n] := if_pos h
theorem wkT_no {l : List V3} {f : Int} {n : Nat} (h : ¬ bt f n = 0) : wkT l f (n + 1) = wkT l f n := if_neg h
theorem wkT_len (l : List V3) (f : Int) : ∀ n, (wkT l f n).length ≤ n
  | 0 => by simp [wkT]
  | n + 1 => by
    unfold wkT
    have := wkT_len l f n
    split
    · rw [List.length_append, List.length_singleton]; omega
    · omega
theorem wkT_mem {l : List V3} {f : Int} {v : V3} : ∀ {n : Nat}, v ∈ wkT l f n ↔ ∃ i, i < n ∧ bt f i = 0 ∧ v = at3 l i
  | 0 => by simp [wkT]
  | n + 1 => by
    unfold wkT
    have ih := wkT_mem (l := l) (f := f) (v := v) (n := n)
    split
    · rename_i h
      rw [List.mem_append, ih, List.mem_singleton]
      constructor
      · rintro (⟨i, hi, h1⟩ | rfl)
        · exact ⟨i, by omega, h1⟩
        · exact ⟨n, by omega, h, rfl⟩
      · rintro ⟨i, hi, h1, h2⟩
        by_cases hin : i = n
        · subst hin; exact .inr h2
        · exact .inl ⟨i, by omega, h1, h2⟩
    · rename_i h
      rw [ih]
      constructor
      · rintro ⟨i, hi, h1⟩; exact ⟨i, by omega, h1⟩
      · rintro ⟨i, hi, h1, h2⟩
        refine ⟨i, ?_, h1, h2⟩
        by_cases hin : i = n
        · subst hin; exact absurd h1 h
        · omega
theorem at3_mem {l : List V3} {i : Nat} (h : i < l.length) : at3 l i ∈ l := by
  rw [at3_eq (List.getElem?_eq_getElem h)]; exact List.getElem_mem h
theorem wk_bd {l : List V3} {f : Int} (hl : ∀ p ∈ l, V3B 1048576 p) : ∀ p ∈ wk l f, V3B 1048576 p := by
  intro p hp
  obtain ⟨i, hi, _, rfl⟩ := wkT_mem.1 hp
  exact hl _ (at3_mem hi)
theorem ck_ok {l : List V3} {f : Int} (h : ckV l f = 0) : l.length ≤ 12 ∧ (∀ v ∈ l, V3B 1048576 v) ∧ 0 ≤ f ∧ f < 2 ^ l.length := by
  unfold ckV at h
  split at h
  · cases h
  · split at h
    · split at h
      · exact ⟨by omega, by assumption, by omega, by omega⟩
      · cases h
    · cases h
def spansV (l : List V3) (f : Int) : Bool × Int := if ckV l f = 0 then (span3B (wk l f), 0) else (false, ckV l f)
theorem span_row {lo b code n base : Nat} {l : List V3} {t : TypeId} {w : World} {xs : List Value} (h : RowOk lo b code n base xs 3 t w) (hx : xs = l.flatMap v3c) (hl : ∀ p ∈ l, V3B 1048576 p) (hlen : l.length ≤ 100) :
    Calls Try.prog 27 #[ownV b code n base] w (Vc.Ret (.bool (span3B l)) w) := by
  obtain ⟨b0, p0, x1, h1, h2, h3, h4⟩ := v3_row h hx
  refine pspan3 h1 h2 h3 h4 ?_ hl hlen
  subst hx
  exact own_sl h
theorem pSpans {w : World} {v : Value} {l : List V3} (h : V3s w v l) (f : Int) (hf : I64 f) : Calls Try.prog 9 #[v, .int .i64 f] w (Vc.Ret (.tuple #[.bool (spansV l f).1, .int .i64 (spansV l f).2]) w) := by
  have h0 := h
  obtain ⟨b0, p0, x1, rfl, hb, hc⟩ := v3_form h
  refine vc_steer_Spans p0 (l.length : Int) x1 f b0 w _ ?_
  refine ⟨_, fun w' hw => pcheck (sl_below hw h0) f hf, ?_⟩
  refine iteI (fun g => ?_) (fun g => ?_)
  rotate_left
  · unfold spansV; rw [if_neg g]
  obtain ⟨k1, k2, k3, k4⟩ := ck_ok g
  refine ⟨by omega, sps_nb hb, ?_⟩
  refine ⟨fun y => ∃ i : Nat, i ≤ l.length ∧ y = [.l ((wkT l f i).flatMap v3c), .i (i : Int)], upK 1 (l.length : Int), ⟨0, by omega, rfl⟩, ?_⟩
  rintro l0 x4 ⟨i, hi, hy⟩
  simp only [List.cons.injEq, Vc.Vl.i.injEq, Vc.Vl.l.injEq, and_true] at hy
  obtain ⟨e1, rfl⟩ := hy
  rw [List.append_nil] at e1
  have le1 : l0.length = (wkT l f i).length * 3 := by
    have := congrArg List.length e1
    rwa [List.length_map, flat_len v3c_len] at this
  have lw := wkT_len l f i
  refine iteI (fun hlt => ?_) (fun hge => ?_)
  · have hq := List.getElem?_eq_getElem (show i < l.length by omega)
    generalize l[i] = p at hq
    obtain ⟨c0, c1, c2⟩ := hc i p hq
    have ep := at3_eq hq
    refine ⟨sps_nb0 hb (by omega), by omega, hlt, _, c0, _, c1, _, c2, by omega, ?_⟩
    rintro x8 e8 x9 e9
    have hbt : x9 = bt f i := by rw [e9, e8]; rfl
    refine iteI (fun h9 => ?_) (fun h9 => ?_)
    · rintro x10 e10
      refine ⟨by omega, ?_⟩
      rintro x11 e11
      rw [wrap_up i (by omega)] at e11
      subst e11
      refine ⟨⟨i + 1, by omega, ?_⟩, by simp only [upK, List.getElem?_cons_succ, List.getElem?_cons_zero]; omega⟩
      rw [e1, wkT_yes (by rw [← hbt]; exact h9), List.flatMap_append, ep]
      rfl
    · rintro x10 e10
      rw [wrap_up i (by omega)] at e10
      subst e10
      refine ⟨⟨i + 1, by omega, ?_⟩, by simp only [upK, List.getElem?_cons_succ, List.getElem?_cons_zero]; omega⟩
      rw [e1, List.append_nil, wkT_no (by rw [← hbt]; exact h9)]
  · obtain rfl : i = l.length := by omega
    refine ⟨_, fun β w' hw hm => span_row (l := wk l f) hm.1 (by rw [e1, List.append_nil]; rfl) (wk_bd k2) (by unfold wk; omega), ?_⟩
    unfold spansV; rw [if_pos g]
def polyB (l : List Sp) : Bool := decide (2 ≤ l.length ∧ l.length ≤ 9) && okL l && decide (sign (l.getD 0 (0, 0)).1 (l.getD 0 (0, 0)).2 > 0)
theorem ppoly {w : World} {v : Value} {l : List Sp} (h : Sps w v l) (hlen : l.length ≤ 1000) : Calls Try.prog 54 #[v] w (Vc.Ret (.bool (polyB l)) w) := by
  have h0 := h
  obtain ⟨b0, p0, x1, rfl, hb, hc⟩ := sps_form h
  refine vc_steer_polynomial p0 (l.length : Int) x1 b0 w _ ?_
  refine ⟨by omega, sps_nb hb, ?_⟩
  refine iteI (fun h1 => ⟨by omega, sps_nb hb, iteI (fun h2 => ?_) (fun h2 => ?_)⟩) (fun h1 => ?_)
  · refine ⟨_, fun w' hw => sall (sps_below hw h0) (by omega), ?_⟩
    refine iteI (fun h3 => ?_) (fun h3 => ?_)
    · have hq := List.getElem?_eq_getElem (show 0 < l.length by omega)
      obtain ⟨c0, c1⟩ := hc 0 _ hq
      refine ⟨sps_nb0 hb (by omega), by omega, _, c0, _, c1, _, fun w' hw => sign_any _ _ w', ?_⟩
      unfold polyB
      rw [decide_eq_true (show 2 ≤ l.length ∧ l.length ≤ 9 by omega), h3, List.getD_eq_getElem?_getD, hq]
      rfl
    · unfold polyB
      rw [show okL l = false by simpa using h3]
      simp
  · unfold polyB
    rw [decide_eq_false (show ¬ (2 ≤ l.length ∧ l.length ≤ 9) by omega)]
    rfl
  · unfold polyB
    rw [decide_eq_false (show ¬ (2 ≤ l.length ∧ l.length ≤ 9) by omega)]
    rfl
theorem pelem {w : World} {v : Value} {l : List Sp} (h : Sps w v l) (i : Int) (hi : 0 ≤ i) : Calls Try.prog 88 #[v, .int .i64 i] w (Vc.Ret (Vc.S (l.getD i.toNat (0, 0)).1 (l.getD i.toNat (0, 0)).2) w) := by
  obtain ⟨b0, p0, x1, rfl, hb, hc⟩ := sps_form h
  refine vc_steer_element p0 (l.length : Int) x1 i b0 w _ ?_
  refine ⟨by omega, sps_nb hb, ?_⟩
  refine iteI (fun h1 => ?_) (fun h1 => ?_)
  · rw [List.getD_eq_getElem?_getD, List.getElem?_eq_none (by omega)]; rfl
  · have hq := List.getElem?_eq_getElem (show i.toNat < l.length by omega)
    obtain ⟨c0, c1⟩ := hc _ _ hq
    refine ⟨sps_nb0 hb (by omega), by omega, by omega, _, c0, _, c1, ?_⟩
    rw [List.getD_eq_getElem?_getD, hq]; rfl
theorem Eff.mono {w : World} {f : FuncId} {args : Array Value} {v v' : Value} {x : Nat} {cs cs' : Array Value} {t : TypeId} (h : Calls Try.prog f args w (Vc.Eff v x cs t w)) (e : (v, cs) = (v', cs')) : Calls Try.prog f args w (Vc.Eff v' x cs' t w) := by
  cases e; exact h
theorem routhA {lo bk code n base : Nat} {t : TypeId} {w : World} {xs : List Value} (h : RowOk lo bk code n base xs 2 t w) (hx : xs = ([(4294967296, 4294967296), (12884901888, 12884901888), (8589934592, 8589934592)] : List Sp).flatMap spc) :
    Calls Try.prog 24 #[ownV bk code n base] w (Vc.Ret (.tuple #[.int .i64 (1), .int .i64 0]) w) := by
  have hs : Sps w (ownV bk code n base) [(4294967296, 4294967296), (12884901888, 12884901888), (8589934592, 8589934592)] := own_sps h hx
  obtain ⟨m, e1, e2, e3⟩ := row_at (k := 3) h (by rw [hx]; rfl) (by omega)
  rw [e1] at hs ⊢
  have c := fun j u hj => e3 j u (by rw [hx]; exact hj)
  refine vc_steer_Routh (bk, 0) (m : Int) w _ ?_
  refine ⟨true, fun w' hw => Ret.mono (ppoly (sps_below hw hs) (by decide)) (by rw [show polyB [(4294967296, 4294967296), (12884901888, 12884901888), (8589934592, 8589934592)] = true by decide +kernel]), ?_⟩
  refine iteI (fun _ => ?_) (fun h => absurd rfl h)
  refine ⟨_, c 0 _ rfl, _, c 1 _ rfl, _, c 2 _ rfl, _, c 3 _ rfl, _, c 4 _ rfl, _, c 5 _ rfl, ?_⟩
  refine ⟨1, fun w' hw => Ret.mono (sign_any _ _ w') (by rw [show sign 12884901888 12884901888 = 1 by decide +kernel]), ?_⟩
  refine iteI (fun _ => ?_) (fun h => absurd rfl h)
  refine ⟨25769803776, 25769803776, 0, fun β w' hw hm => Eff.mono (op_mul 0 (a := (12884901888, 12884901888)) (b := (8589934592, 8589934592)) (show SpI (12884901888, 12884901888) by unfold SpI I64; decide) (show SpI (8589934592, 8589934592) by unfold SpI I64; decide) w' _ hm.1.2) (by rw [show cop 0 (mul 12884901888 12884901888 8589934592 8589934592) = (25769803776, 25769803776, 0) by decide +kernel]), ?_⟩
  refine ⟨0, 0, fun β w' hw hm => Ret.mono (pelem (l := [(12884901888, 12884901888)]) (own_sps hm.1 rfl) 1 (by decide)) rfl, ?_⟩
  refine ⟨0, 0, 0, fun β w' hw hm => Eff.mono (op_mul 0 (a := (4294967296, 4294967296)) (b := (0, 0)) (show SpI (4294967296, 4294967296) by unfold SpI I64; decide) (show SpI (0, 0) by unfold SpI I64; decide) w' _ hm.1.2) (by rw [show cop 0 (mul 4294967296 4294967296 0 0) = (0, 0, 0) by decide +kernel]), ?_⟩
  refine ⟨25769803776, 25769803776, 0, fun β w' hw hm => Eff.mono (op_sub 0 (a := (25769803776, 25769803776)) (b := (0, 0)) (show SpI (25769803776, 25769803776) by unfold SpI I64; decide) (show SpI (0, 0) by unfold SpI I64; decide) w' _ hm.1.2) (by rw [show cop 0 (sub 25769803776 25769803776 0 0) = (25769803776, 25769803776, 0) by decide +kernel]), ?_⟩
  refine ⟨8589934592, 8589934592, 0, fun β w' hw hm => Eff.mono (op_div 0 (a := (25769803776, 25769803776)) (b := (12884901888, 12884901888)) (show SpI (25769803776, 25769803776) by unfold SpI I64; decide) (show SpI (12884901888, 12884901888) by unfold SpI I64; decide) w' _ hm.1.2) (by rw [show cop 0 (div 25769803776 25769803776 12884901888 12884901888) = (8589934592, 8589934592, 0) by decide +kernel]), ?_⟩
  refine iteI (fun _ => ?_) (fun h => absurd rfl h)
  refine ⟨1, fun w' hw => Ret.mono (sign_any _ _ w') (by rw [show sign 8589934592 8589934592 = 1 by decide +kernel]), ?_⟩
  exact iteI (fun _ => rfl) (fun h => absurd rfl h)
theorem routhB {lo bk code n base : Nat} {t : TypeId} {w : World} {xs : List Value} (h : RowOk lo bk code n base xs 2 t w) (hx : xs = ([(4294967296, 4294967296), ((-12884901888), (-12884901888)), (8589934592, 8589934592)] : List Sp).flatMap spc) :
    Calls Try.prog 24 #[ownV bk code n base] w (Vc.Ret (.tuple #[.int .i64 (-1), .int .i64 0]) w) := by
  have hs : Sps w (ownV bk code n base) [(4294967296, 4294967296), ((-12884901888), (-12884901888)), (8589934592, 8589934592)] := own_sps h hx
  obtain ⟨m, e1, e2, e3⟩ := row_at (k := 3) h (by rw [hx]; rfl) (by omega)
  rw [e1] at hs ⊢
  have c := fun j u hj => e3 j u (by rw [hx]; exact hj)
  refine vc_steer_Routh (bk, 0) (m : Int) w _ ?_
  refine ⟨true, fun w' hw => Ret.mono (ppoly (sps_below hw hs) (by decide)) (by rw [show polyB [(4294967296, 4294967296), ((-12884901888), (-12884901888)), (8589934592, 8589934592)] = true by decide +kernel]), ?_⟩
  refine iteI (fun _ => ?_) (fun h => absurd rfl h)
  refine ⟨_, c 0 _ rfl, _, c 1 _ rfl, _, c 2 _ rfl, _, c 3 _ rfl, _, c 4 _ rfl, _, c 5 _ rfl, ?_⟩
  refine ⟨-1, fun w' hw => Ret.mono (sign_any _ _ w') (by rw [show sign (-12884901888) (-12884901888) = -1 by decide +kernel]), ?_⟩
  exact iteI (fun h => absurd h (by decide)) (fun _ => rfl)
def six : List V3 := [(1, 0, 0), (-1, 0, 0), (0, 1, 0), (0, -1, 0), (0, 0, 1), (0, 0, -1)]
theorem alive_any (w : World) : Calls Try.prog 8 #[] w (Vc.Ret (.bool true) w) := by
  refine vc_ullagelaw05_alive w _ ?_
  refine ⟨0, 9223372036854775808, fun w' hw => Ret.mono (pplus 0 0 2147483648 4294967296 false (by omega) (by unfold I64; omega) (by unfold I64; omega) w') (by rw [show wplus 0 0 2147483648 4294967296 false = (0, 9223372036854775808) by decide +kernel]), ?_⟩
  refine ⟨0, 9223372036854775808, fun w' hw => Ret.mono (pplus 0 9223372036854775808 0 0 false (by omega) (by unfold I64; omega) (by unfold I64; omega) w') (by rw [show wplus 0 9223372036854775808 0 0 false = (0, 9223372036854775808) by decide +kernel]), ?_⟩
  refine ⟨0, 9223372036854775808, fun w' hw => Ret.mono (pplus 0 9223372036854775808 0 0 false (by omega) (by unfold I64; omega) (by unfold I64; omega) w') (by rw [show wplus 0 9223372036854775808 0 0 false = (0, 9223372036854775808) by decide +kernel]), ?_⟩
  refine ⟨0, 9223372036854775808, fun w' hw => Ret.mono (pplus 0 9223372036854775808 (-2147483648) 0 true (by omega) (by unfold I64; omega) (by unfold I64; omega) w') (by rw [show wplus 0 9223372036854775808 (-2147483648) 0 true = (0, 9223372036854775808) by decide +kernel]), ?_⟩
  refine ⟨0, 9223372036854775808, fun w' hw => Ret.mono (pplus 0 9223372036854775808 0 0 true (by omega) (by unfold I64; omega) (by unfold I64; omega) w') (by rw [show wplus 0 9223372036854775808 0 0 true = (0, 9223372036854775808) by decide +kernel]), ?_⟩
  refine ⟨2147483648, true, fun w' hw => Ret.mono (pdown 0 9223372036854775808 w') (by rw [show downV 0 9223372036854775808 = (2147483648, true) by decide +kernel]), ?_⟩
  refine iteI (fun _ => ?_) (fun h => absurd rfl h)
  refine ⟨0, 9223372036854775808, fun w' hw => Ret.mono (pplus 0 0 2147483648 4294967296 false (by omega) (by unfold I64; omega) (by unfold I64; omega) w') (by rw [show wplus 0 0 2147483648 4294967296 false = (0, 9223372036854775808) by decide +kernel]), ?_⟩
  refine ⟨0, 9223372036854775808, fun w' hw => Ret.mono (pplus 0 9223372036854775808 0 4294967296 false (by omega) (by unfold I64; omega) (by unfold I64; omega) w') (by rw [show wplus 0 9223372036854775808 0 4294967296 false = (0, 9223372036854775808) by decide +kernel]), ?_⟩
  refine ⟨0, 9223372036854775808, fun w' hw => Ret.mono (pplus 0 9223372036854775808 0 0 false (by omega) (by unfold I64; omega) (by unfold I64; omega) w') (by rw [show wplus 0 9223372036854775808 0 0 false = (0, 9223372036854775808) by decide +kernel]), ?_⟩
  refine ⟨0, 13835058055282163712, fun w' hw => Ret.mono (pplus 0 9223372036854775808 (-2147483648) 2147483648 true (by omega) (by unfold I64; omega) (by unfold I64; omega) w') (by rw [show wplus 0 9223372036854775808 (-2147483648) 2147483648 true = (0, 13835058055282163712) by decide +kernel]), ?_⟩
  refine ⟨0, 13835058055282163712, fun w' hw => Ret.mono (pplus 0 13835058055282163712 0 0 true (by omega) (by unfold I64; omega) (by unfold I64; omega) w') (by rw [show wplus 0 13835058055282163712 0 0 true = (0, 13835058055282163712) by decide +kernel]), ?_⟩
  refine ⟨3221225472, true, fun w' hw => Ret.mono (pdown 0 13835058055282163712 w') (by rw [show downV 0 13835058055282163712 = (3221225472, true) by decide +kernel]), ?_⟩
  refine iteI (fun _ => ?_) (fun h => absurd rfl h)
  refine ⟨0, 9223372036854775808, fun w' hw => Ret.mono (pplus 0 0 2147483648 4294967296 false (by omega) (by unfold I64; omega) (by unfold I64; omega) w') (by rw [show wplus 0 0 2147483648 4294967296 false = (0, 9223372036854775808) by decide +kernel]), ?_⟩
  refine ⟨0, 9223372036854775808, fun w' hw => Ret.mono (pplus 0 9223372036854775808 0 4294967296 false (by omega) (by unfold I64; omega) (by unfold I64; omega) w') (by rw [show wplus 0 9223372036854775808 0 4294967296 false = (0, 9223372036854775808) by decide +kernel]), ?_⟩
  refine ⟨0, 9223372036854775808, fun w' hw => Ret.mono (pplus 0 9223372036854775808 0 4294967296 false (by omega) (by unfold I64; omega) (by unfold I64; omega) w') (by rw [show wplus 0 9223372036854775808 0 4294967296 false = (0, 9223372036854775808) by decide +kernel]), ?_⟩
  refine ⟨0, 16140901064495857664, fun w' hw => Ret.mono (pplus 0 9223372036854775808 (-2147483648) 3221225472 true (by omega) (by unfold I64; omega) (by unfold I64; omega) w') (by rw [show wplus 0 9223372036854775808 (-2147483648) 3221225472 true = (0, 16140901064495857664) by decide +kernel]), ?_⟩
  refine ⟨0, 16140901064495857664, fun w' hw => Ret.mono (pplus 0 16140901064495857664 0 2147483648 true (by omega) (by unfold I64; omega) (by unfold I64; omega) w') (by rw [show wplus 0 16140901064495857664 0 2147483648 true = (0, 16140901064495857664) by decide +kernel]), ?_⟩
  refine ⟨3758096384, true, fun w' hw => Ret.mono (pdown 0 16140901064495857664 w') (by rw [show downV 0 16140901064495857664 = (3758096384, true) by decide +kernel]), ?_⟩
  refine iteI (fun _ => ?_) (fun h => absurd rfl h)
  refine ⟨1, 0, fun β w' hw hm => routhA hm.1 rfl, ?_⟩
  refine ⟨-1, 0, fun β w' hw hm => routhB hm.1 rfl, ?_⟩
  refine ⟨true, 0, fun β w' hw hm => Ret.mono (pSpans (l := six) (sl_heap hm.1.2 rfl rfl) 0 (by unfold I64; omega)) (by rw [show spansV six 0 = (true, 0) by decide +kernel]), ?_⟩
  refine iteI (fun _ => ?_) (fun h => absurd rfl h)
  refine iteI (fun _ => ?_) (fun h => absurd rfl h)
  refine iteI (fun _ => ?_) (fun h => absurd rfl h)
  refine iteI (fun _ => ?_) (fun h => absurd rfl h)
  refine iteI (fun _ => ?_) (fun h => absurd rfl h)
  refine iteI (fun _ => ?_) (fun h => absurd rfl h)
  exact iteI (fun _ => rfl) (fun h => absurd rfl h)
end Go.Proofs.Ythmggmpgkmmfiaa
set_option linter.unusedVariables false
set_option maxRecDepth 4000
namespace Go.Proofs.Ythmggmpgkmmfiaa
open Go Go.RowKit Go.ChangeShapes Go.WideShapes Go.ChangeAt Go.Joins Go.Deep Ul Vc
theorem wf64i {n : Int} (h : (Lit.int .i64 n).wf = true) : I64 n := by
  simp only [Lit.wf, Bool.and_eq_true, decide_eq_true_eq] at h
  exact h
section
variable {H : Type} {enc : TypeId × Value → H} {w : World} {base : Nat} {sp : Nat → Bool} {held : Bool}
theorem span_cells' {fuel : Nat} {cs : List Value} {x : DataW H × List MemPlace} (h : DataW.trod enc Try.prog w base sp held fuel 42 cs = some x) : ∃ p : Sp, cs = spc p ∧ SpI p := by
  obtain ⟨y0, y1, n, _, hl, h0, h1⟩ := trod_struct2 Try.underlying42 h
  have e1 : Try.prog.cellsOf 40 = 1 := by kernel_rfl
  have e2 : Try.prog.cellsOf 42 = 2 := by kernel_rfl
  rw [e2] at hl
  simp only [e1] at h0 h1
  match cs, hl with
  | [c0, c1], _ =>
    obtain ⟨a, ha, _, wa⟩ := DataW.trod_int Try.underlying40 h0
    obtain ⟨b, hb, _, wb⟩ := DataW.trod_int Try.underlying40 h1
    simp at ha hb
    exact ⟨(a, b), by rw [ha, hb]; rfl, wf64i wa, wf64i wb⟩
end
end Go.Proofs.Ythmggmpgkmmfiaa
set_option linter.unusedVariables false
set_option maxRecDepth 4000
namespace Go.Proofs.Ythmggmpgkmmfiaa
open Go Go.RowKit Ul Vc
attribute [local irreducible] Go.Calls
def clipV (n lim : Int) : Int := if (if n < lim then n else lim) > -lim then (if n < lim then n else lim) else -lim
theorem clip_bd {n lim : Int} (h : 0 ≤ lim) : -lim ≤ clipV n lim ∧ clipV n lim ≤ lim := by
  unfold clipV; repeat' split
  all_goals omega
theorem sclip (n lim : Int) (h : 0 ≤ lim ∧ lim ≤ 9223372036854775807) (w : World) : Calls Try.prog 44 #[.int .i64 n, .int .i64 lim] w (Vc.Ret (.int .i64 (clipV n lim)) w) := by
  refine vc_steer_clip n lim w _ ?_
  rintro x2 e2
  rw [Vc.i64_id (by omega)] at e2
  rintro x3 rfl x4 rfl
  rw [show x2 = -lim by omega]
  rfl
def sat (l : List Sp) (i : Nat) : Sp := l.getD i (0, 0)
theorem sat_eq {l : List Sp} {i : Nat} {p : Sp} (h : l[i]? = some p) : sat l i = p := by
  unfold sat; rw [List.getD_eq_getElem?_getD, h]; rfl
/-- The sum of what works. -/
def swS (l : List Sp) (f : Int) : Nat → R
  | 0 => (0, 0, 0)
  | n + 1 => if bt f n = 0 then cop (swS l f n).2.2 (add (swS l f n).1 (swS l f n).2.1 (sat l n).1 (sat l n).2) else swS l f n
theorem swS_yes {l : List Sp} {f : Int} {n : Nat} (h : bt f n = 0) : swS l f (n + 1) = cop (swS l f n).2.2 (add (swS l f n).1 (swS l f n).2.1 (sat l n).1 (sat l n).2) := if_pos h
theorem swS_no {l : List Sp} {f : Int} {n : Nat} (h : ¬ bt f n = 0) : swS l f (n + 1) = swS l f n := if_neg h
theorem swS_64 (l : List Sp) (f : Int) : ∀ n, R64 (swS l f n)
  | 0 => no_64 0
  | n + 1 => by
    unfold swS
    split
    · exact cop_64 (add_64 _ _ _ _)
    · exact swS_64 l f n
def sw1 (s : R) (want : Int) : R := cop s.2.2 (div want want s.1 s.2.1)
def sw2 (s : R) (arm : Sp) (want : Int) : R := cop (sw1 s want).2.2 (div (sw1 s want).1 (sw1 s want).2.1 arm.1 arm.2)
def swA (s : R) (arm : Sp) (lim want : Int) : Sp := (clipV (sw2 s arm want).1 lim, clipV (sw2 s arm want).2.1 lim)
def sw3 (s : R) (arm : Sp) (want : Int) : R := cop (sw2 s arm want).2.2 (mul s.1 s.2.1 arm.1 arm.2)
def sw4 (s : R) (arm : Sp) (lim want : Int) : R := cop (sw3 s arm want).2.2 (mul (sw3 s arm want).1 (sw3 s arm want).2.1 (swA s arm lim want).1 (swA s arm lim want).2)
def sw5 (s : R) (arm : Sp) (lim want : Int) : R := cop (sw4 s arm lim want).2.2 (sub want want (sw4 s arm lim want).1 (sw4 s arm lim want).2.1)
def SwOk (l : List Sp) (f : Int) (arm : Sp) (lim want : Int) : Prop :=
  l.length ≤ 12 ∧ okL l = true ∧ 0 < sign arm.1 arm.2 ∧ -9223372036854775807 ≤ want ∧ 0 ≤ lim ∧ (0 ≤ f ∧ f < 2 ^ l.length) ∧ ∀ p ∈ l, 0 ≤ p.1
instance (l : List Sp) (f : Int) (arm : Sp) (lim want : Int) : Decidable (SwOk l f arm lim want) := inferInstanceAs (Decidable (_ ∧ _ ∧ _ ∧ _ ∧ _ ∧ _ ∧ _))
def swV (l : List Sp) (f : Int) (arm : Sp) (lim want : Int) : Sp × Sp × Int :=
  if SwOk l f arm lim want then
    if (swS l f l.length).2.2 = 0 ∧ (swS l f l.length).1 = 0 then ((0, 0), (0, 0), 10)
    else if (sw5 (swS l f l.length) arm lim want).2.2 = 0 then (swA (swS l f l.length) arm lim want, lohi (sw5 (swS l f l.length) arm lim want), 0)
    else ((0, 0), (0, 0), (sw5 (swS l f l.length) arm lim want).2.2)
  else ((0, 0), (0, 0), if 12 < l.length then 3 else 2)
abbrev SSV (r : Sp × Sp × Int) : Value := .tuple #[Vc.S r.1.1 r.1.2, Vc.S r.2.1.1 r.2.1.2, .int .i64 r.2.2]
theorem ssv {a b : Sp} {e : Int} {r : Sp × Sp × Int} (h : (a, b, e) = r) : (.tuple #[Vc.S a.1 a.2, Vc.S b.1 b.2, .int .i64 e] : Value) = SSV r := by rw [← h]
theorem pSwivel {w : World} {v : Value} {l : List Sp} (h : Sps w v l) (hl : ∀ p ∈ l, SpI p) (f : Int) (hf : I64 f) (arm : Sp) (harm : SpI arm) (lim want : Int) (hlim : I64 lim) (hw64 : I64 want) :
    Calls Try.prog 17 #[v, .int .i64 f, Vc.S arm.1 arm.2, .int .i64 lim, .int .i64 want] w (Vc.Ret (SSV (swV l f arm lim want)) w) := by
  have h0 := h
  obtain ⟨b0, p0, x1, rfl, hb, hc⟩ := sps_form h
  have nb := sps_nb hb
  have bad : ¬ SwOk l f arm lim want → ¬ 12 < l.length → (.tuple #[Vc.S 0 0, Vc.S 0 0, .int .i64 2] : Value) = SSV (swV l f arm lim want) := fun hn h12 => by
    refine ssv (a := (0, 0)) (b := (0, 0)) ?_
    unfold swV
    rw [if_neg hn, if_neg h12]
  refine vc_steer_Swivel p0 (l.length : Int) x1 f arm.1 arm.2 lim want b0 w _ ?_
  refine ⟨by omega, nb, ?_⟩
  refine iteI (fun g1 => ?_) (fun g1 => ?_)
  · refine ssv (a := (0, 0)) (b := (0, 0)) ?_
    unfold swV
    rw [if_neg fun h => by have := h.1; omega, if_pos (by omega)]
  have g1' : ¬ 12 < l.length := by omega
  refine ⟨_, fun w' hw => sall (sps_below hw h0) (by omega), ?_⟩
  refine iteI (fun g2 => ?_) (fun g2 => bad (fun h => g2 h.2.1) g1')
  refine ⟨_, fun w' hw => sign_any _ _ w', ?_⟩
  refine iteI (fun g3 => bad (fun h => by have := h.2.2.1; omega) g1') (fun g3 => ?_)
  refine ⟨_, fun w' hw => svalid _ w', ?_⟩
  refine iteI (fun g4 => ?_) (fun g4 => bad (fun h => g4 (decide_eq_true h.2.2.2.1)) g1')
  have g4 := of_decide_eq_true g4
  refine iteI (fun g5 => bad (fun h => by have := h.2.2.2.2.1; omega) g1') (fun g5 => ?_)
  have g5 : 0 ≤ lim := by omega
  refine iteI (fun g6 => bad (fun h => by have := h.2.2.2.2.2.1; omega) g1') (fun g6 => ?_)
  refine ⟨by omega, nb, by omega, ?_⟩
  rintro x8 e8
  have hp := pow_le12 (n := l.length) (by omega)
  have hp0 := pow_pos2 l.length
  rw [show Nat.min (Int.toNat (l.length : Int)) 64 = l.length from Nat.min_eq_left (by omega), Int.one_mul, Vc.i64_id (by omega)] at e8
  subst e8
  refine iteI (fun g7 => bad (fun h => by have := h.2.2.2.2.2.1; omega) g1') (fun g7 => ?_)
  refine ⟨by omega, nb, ?_⟩
  refine ⟨fun y => ∃ i : Nat, i ≤ l.length ∧ (∀ p ∈ l.take i, 0 ≤ p.1) ∧ y = [.i 0, .i (i : Int), .i (swS l f i).2.2, .i 0, .i 0, .i 0, .i 0, .i (swS l f i).1, .i (swS l f i).2.1], upK 1 (l.length : Int), ⟨0, by omega, by simp, rfl⟩, ?_⟩
  rintro x9 x10 x11 x12 x13 x14 x15 x16 x17 ⟨i, hi, ho, hy⟩
  simp only [List.cons.injEq, Vc.Vl.i.injEq, and_true] at hy
  obtain ⟨rfl, rfl, rfl, rfl, rfl, rfl, rfl, rfl, rfl⟩ := hy
  refine iteI (fun hlt => ?_) (fun hge => ?_)
  · have hq := List.getElem?_eq_getElem (show i < l.length by omega)
    have hmem : l[i] ∈ l := List.getElem_mem (by omega)
    generalize l[i] = p at hq hmem
    obtain ⟨c0, c1⟩ := hc i p hq
    have ep := sat_eq hq
    have et : l.take (i + 1) = l.take i ++ [p] := by rw [List.take_add_one, hq]; rfl
    refine ⟨sps_nb0 hb (by omega), by omega, hlt, _, c0, _, c1, ?_⟩
    refine iteI (fun k1 => bad (fun h => by have := h.2.2.2.2.2.2 p hmem; omega) g1') (fun k1 => ⟨by omega, ?_⟩)
    have ho' : ∀ q ∈ l.take (i + 1), 0 ≤ q.1 := by
      intro q hq'
      rw [et] at hq'
      rcases List.mem_append.1 hq' with h | h
      · exact ho q h
      · simp only [List.mem_cons, List.not_mem_nil, or_false] at h
        subst h; omega
    rintro x20 e20 x21 e21
    have hbt : x21 = bt f i := by rw [e21, e20]; rfl
    subst hbt
    refine iteI (fun hz => ?_) (fun hz => ?_)
    · refine ⟨_, _, _, fun β w' hw hm => op_add (swS l f i).2.2 (a := lohi (swS l f i)) (b := p) (show SpN (lohi (swS l f i)) from swS_64 l f i).I (hl p hmem) w' _ hm.1.2, ?_⟩
      rintro x25 e25
      rw [wrap_up i (by omega)] at e25
      subst e25
      refine ⟨⟨i + 1, by omega, ho', ?_⟩, by simp only [upK, List.getElem?_cons_succ, List.getElem?_cons_zero]; omega⟩
      rw [swS_yes hz, ep]
    · rintro x22 e22
      rw [wrap_up i (by omega)] at e22
      subst e22
      refine ⟨⟨i + 1, by omega, ho', ?_⟩, by simp only [upK, List.getElem?_cons_succ, List.getElem?_cons_zero]; omega⟩
      rw [swS_no hz]
  · obtain rfl : i = l.length := by omega
    rw [List.take_of_length_le (Nat.le_refl _)] at ho
    have hok : SwOk l f arm lim want := ⟨by omega, g2, by omega, g4, g5, ⟨by omega, by omega⟩, ho⟩
    refine iteI (fun he => iteI (fun hz => ?_) (fun hz => ?_)) (fun he => ?_)
    · refine ssv (a := (0, 0)) (b := (0, 0)) ?_
      unfold swV
      rw [if_pos hok, if_pos ⟨he, hz⟩]
    · have hz : ¬ ((swS l f l.length).2.2 = 0 ∧ (swS l f l.length).1 = 0) := fun h => hz h.2
      have hS := swS_64 l f l.length
      have hSI : SpI (lohi (swS l f l.length)) := (show SpN (lohi (swS l f l.length)) from hS).I
      generalize hs : swS l f l.length = s at hS hSI hz
      have hwI : SpI (want, want) := ⟨hw64, hw64⟩
      have h1 : SpN (lohi (sw1 s want)) := cop_64 (div_64 _ _ _ _)
      have h2 : SpN (lohi (sw2 s arm want)) := cop_64 (div_64 _ _ _ _)
      have hA : SpI (swA s arm lim want) := by
        have c1 := clip_bd (n := (sw2 s arm want).1) g5
        have c2 := clip_bd (n := (sw2 s arm want).2.1) g5
        have hl := hlim.2
        unfold SpI I64 swA; simp only; omega
      have h3 : SpN (lohi (sw3 s arm want)) := cop_64 (mul_64 _ _ _ _)
      have h4 : SpN (lohi (sw4 s arm lim want)) := cop_64 (mul_64 _ _ _ _)
      have hv : swV l f arm lim want = if (sw5 s arm lim want).2.2 = 0 then (swA s arm lim want, lohi (sw5 s arm lim want), 0) else ((0, 0), (0, 0), (sw5 s arm lim want).2.2) := by
        unfold swV; rw [if_pos hok, hs, if_neg hz]
      refine ⟨_, _, fun w' hw => spoint want w', ?_⟩
      refine ⟨_, _, _, fun β w' hw hm => op_div s.2.2 (a := (want, want)) (b := lohi s) hwI hSI w' _ hm.1.2, ?_⟩
      refine ⟨_, _, _, fun β w' hw hm => op_div (sw1 s want).2.2 (a := lohi (sw1 s want)) (b := arm) h1.I harm w' _ hm.1.2, ?_⟩
      refine ⟨_, fun w' hw => sclip (sw2 s arm want).1 lim ⟨g5, hlim.2⟩ w', ?_⟩
      refine ⟨_, fun w' hw => sclip (sw2 s arm want).2.1 lim ⟨g5, hlim.2⟩ w', ?_⟩
      refine ⟨_, _, fun w' hw => spoint want w', ?_⟩
      refine ⟨_, _, _, fun β w' hw hm => op_mul (sw2 s arm want).2.2 (a := lohi s) (b := arm) hSI harm w' _ hm.1.2, ?_⟩
      refine ⟨_, _, _, fun β w' hw hm => op_mul (sw3 s arm want).2.2 (a := lohi (sw3 s arm want)) (b := swA s arm lim want) h3.I hA w' _ hm.1.2, ?_⟩
      refine ⟨_, _, _, fun β w' hw hm => op_sub (sw4 s arm lim want).2.2 (a := (want, want)) (b := lohi (sw4 s arm lim want)) hwI h4.I w' _ hm.1.2, ?_⟩
      rw [hv]
      by_cases he : (sw5 s arm lim want).2.2 = 0
      · refine ⟨_, _, _, _, _, fun β w' hw hm => Ret.mono (ptwo (swA s arm lim want) (lohi (sw5 s arm lim want)) hm.1.2) (if_pos he), ?_⟩
        rw [if_pos he]
      · refine ⟨_, _, _, _, _, fun β w' hw hm => Ret.mono (ptwo (swA s arm lim want) (lohi (sw5 s arm lim want)) hm.1.2) (if_neg he), ?_⟩
        rw [if_neg he]
        rfl
    · have hz : ¬ ((swS l f l.length).2.2 = 0 ∧ (swS l f l.length).1 = 0) := fun h => he h.1
      have hS := swS_64 l f l.length
      have hSI : SpI (lohi (swS l f l.length)) := (show SpN (lohi (swS l f l.length)) from hS).I
      generalize hs : swS l f l.length = s at hS hSI hz
      have hwI : SpI (want, want) := ⟨hw64, hw64⟩
      have h1 : SpN (lohi (sw1 s want)) := cop_64 (div_64 _ _ _ _)
      have h2 : SpN (lohi (sw2 s arm want)) := cop_64 (div_64 _ _ _ _)
      have hA : SpI (swA s arm lim want) := by
        have c1 := clip_bd (n := (sw2 s arm want).1) g5
        have c2 := clip_bd (n := (sw2 s arm want).2.1) g5
        have hl := hlim.2
        unfold SpI I64 swA; simp only; omega
      have h3 : SpN (lohi (sw3 s arm want)) := cop_64 (mul_64 _ _ _ _)
      have h4 : SpN (lohi (sw4 s arm lim want)) := cop_64 (mul_64 _ _ _ _)
      have hv : swV l f arm lim want = if (sw5 s arm lim want).2.2 = 0 then (swA s arm lim want, lohi (sw5 s arm lim want), 0) else ((0, 0), (0, 0), (sw5 s arm lim want).2.2) := by
        unfold swV; rw [if_pos hok, hs, if_neg hz]
      refine ⟨_, _, fun w' hw => spoint want w', ?_⟩
      refine ⟨_, _, _, fun β w' hw hm => op_div s.2.2 (a := (want, want)) (b := lohi s) hwI hSI w' _ hm.1.2, ?_⟩
      refine ⟨_, _, _, fun β w' hw hm => op_div (sw1 s want).2.2 (a := lohi (sw1 s want)) (b := arm) h1.I harm w' _ hm.1.2, ?_⟩
      refine ⟨_, fun w' hw => sclip (sw2 s arm want).1 lim ⟨g5, hlim.2⟩ w', ?_⟩
      refine ⟨_, fun w' hw => sclip (sw2 s arm want).2.1 lim ⟨g5, hlim.2⟩ w', ?_⟩
      refine ⟨_, _, fun w' hw => spoint want w', ?_⟩
      refine ⟨_, _, _, fun β w' hw hm => op_mul (sw2 s arm want).2.2 (a := lohi s) (b := arm) hSI harm w' _ hm.1.2, ?_⟩
      refine ⟨_, _, _, fun β w' hw hm => op_mul (sw3 s arm want).2.2 (a := lohi (sw3 s arm want)) (b := swA s arm lim want) h3.I hA w' _ hm.1.2, ?_⟩
      refine ⟨_, _, _, fun β w' hw hm => op_sub (sw4 s arm lim want).2.2 (a := (want, want)) (b := lohi (sw4 s arm lim want)) hwI h4.I w' _ hm.1.2, ?_⟩
      rw [hv]
      by_cases he : (sw5 s arm lim want).2.2 = 0
      · refine ⟨_, _, _, _, _, fun β w' hw hm => Ret.mono (ptwo (swA s arm lim want) (lohi (sw5 s arm lim want)) hm.1.2) (if_pos he), ?_⟩
        rw [if_pos he]
      · refine ⟨_, _, _, _, _, fun β w' hw hm => Ret.mono (ptwo (swA s arm lim want) (lohi (sw5 s arm lim want)) hm.1.2) (if_neg he), ?_⟩
        rw [if_neg he]
        rfl
end Go.Proofs.Ythmggmpgkmmfiaa
set_option linter.unusedVariables false
set_option maxRecDepth 4000
namespace Go.Proofs.Ythmggmpgkmmfiaa
open Go Go.RowKit Ul Vc
attribute [local irreducible] Go.Calls
theorem fit_err (x y : Int) : (fit x y).2.2 = 0 ∨ (fit x y).2.2 = 4 := by unfold fit; split <;> simp
theorem add_err {a b : Sp} (ha : ok a.1 a.2 = true) (hb : ok b.1 b.2 = true) : (add a.1 a.2 b.1 b.2).2.2 = 0 ∨ (add a.1 a.2 b.1 b.2).2.2 = 4 := by
  unfold add; rw [ha, hb]; exact fit_err _ _
theorem mul_err {a b : Sp} (ha : ok a.1 a.2 = true) (hb : ok b.1 b.2 = true) : (mul a.1 a.2 b.1 b.2).2.2 = 0 ∨ (mul a.1 a.2 b.1 b.2).2.2 = 4 := by
  unfold mul; rw [ha, hb]; exact fit_err _ _
theorem neg_ok {a : Sp} (ha : ok a.1 a.2 = true) (h : a.2 ≤ 9223372036854775807) : ok (-a.2) (-a.1) = true := by
  have := ok_true.1 ha
  exact ok_true.2 (by omega)
theorem sub_err {a b : Sp} (ha : ok a.1 a.2 = true) (hb : ok b.1 b.2 = true) (h : b.2 ≤ 9223372036854775807) : (sub a.1 a.2 b.1 b.2).2.2 = 0 ∨ (sub a.1 a.2 b.1 b.2).2.2 = 4 := by
  unfold sub; rw [if_pos hb]
  exact add_err (b := (-b.2, -b.1)) ha (neg_ok hb h)
theorem div_err {a b : Sp} (ha : ok a.1 a.2 = true) (hb : ok b.1 b.2 = true) (h : 0 < b.1) : (div a.1 a.2 b.1 b.2).2.2 = 0 ∨ (div a.1 a.2 b.1 b.2).2.2 = 4 := by
  unfold div; rw [ha, hb, if_pos (by rfl), if_neg (by omega)]; exact fit_err _ _
theorem ok_r {r : R} (h : R64 r) (hl : r.1 ≤ r.2.1) : ok r.1 r.2.1 = true := by
  unfold R64 N63 at h
  exact ok_true.2 (by omega)
theorem ok_lh {a : Sp} (ha : ok a.1 a.2 = true) : a.1 ≤ a.2 := (ok_true.1 ha).2.2
theorem add_okr {a b : Sp} (ha : ok a.1 a.2 = true) (hb : ok b.1 b.2 = true) (h : (add a.1 a.2 b.1 b.2).2.2 = 0) : ok (add a.1 a.2 b.1 b.2).1 (add a.1 a.2 b.1 b.2).2.1 = true :=
  ok_r (add_64 _ _ _ _) (rin_le (add_rin (rin_lo (ok_lh ha)) (rin_lo (ok_lh hb)) h))
theorem mul_okr {a b : Sp} (ha : ok a.1 a.2 = true) (hb : ok b.1 b.2 = true) (h : (mul a.1 a.2 b.1 b.2).2.2 = 0) : ok (mul a.1 a.2 b.1 b.2).1 (mul a.1 a.2 b.1 b.2).2.1 = true :=
  ok_r (mul_64 _ _ _ _) (rin_le (mul_rin (rin_lo (ok_lh ha)) (rin_lo (ok_lh hb)) h))
theorem div_okr {a b : Sp} (ha : ok a.1 a.2 = true) (hb : ok b.1 b.2 = true) (h : (div a.1 a.2 b.1 b.2).2.2 = 0) : ok (div a.1 a.2 b.1 b.2).1 (div a.1 a.2 b.1 b.2).2.1 = true :=
  ok_r (div_64 _ _ _ _) (rin_le (div_rin (rin_lo (ok_lh ha)) (rin_lo (ok_lh hb)) h).2)
theorem add_eq {a b : Sp} (h : (add a.1 a.2 b.1 b.2).2.2 = 0) : (add a.1 a.2 b.1 b.2).1 = a.1 + b.1 := by
  unfold add at h ⊢
  split at h
  · rename_i g; rw [if_pos g, (fit_ok h).1]
  · cases h
theorem cop_err {e : Int} {r : R} (he : e = 0 ∨ e = 4) (hr : e = 0 → r.2.2 = 0 ∨ r.2.2 = 4) : (cop e r).2.2 = 0 ∨ (cop e r).2.2 = 4 := by
  unfold cop
  split
  · rename_i h; exact hr h
  · exact he
theorem ce_mono {x x' y : Int} (h : x ≤ x') (hy : 0 < y) : ce x y ≤ ce x' y := by
  unfold ce
  have := Int.ediv_le_ediv hy (show -x' ≤ -x by omega)
  omega
theorem ce_anti {x y y' : Int} (hx : 0 ≤ x) (hy : 0 < y) (h : y ≤ y') : ce x y' ≤ ce x y := by
  unfold ce
  have h1 := Int.ediv_mul_le (-x) (show y ≠ 0 by omega)
  have h0 : (-x) / y ≤ 0 := by
    have := Int.ediv_le_ediv hy (show -x ≤ 0 by omega)
    simpa using this
  have h2 : (-x) / y * y' ≤ (-x) / y * y := by
    have := Int.mul_le_mul_of_nonneg_left h (show 0 ≤ -((-x) / y) by omega)
    have e1 : -((-x) / y) * y = -((-x) / y * y) := by grind
    have e2 : -((-x) / y) * y' = -((-x) / y * y') := by grind
    omega
  have : (-x) / y ≤ (-x) / y' := (Int.le_ediv_iff_mul_le (by omega)).2 (by omega)
  omega
theorem rup_mono {x x' y : Int} (h : x ≤ x') (hy : 0 < y) : rup x y ≤ rup x' y := by
  unfold rup; rw [if_neg (by omega), if_neg (by omega)]
  exact ce_mono (by omega) hy
theorem rup_anti {x y y' : Int} (hx : 0 ≤ x) (hy : 0 < y) (h : y ≤ y') : rup x y' ≤ rup x y := by
  unfold rup; rw [if_neg (by omega), if_neg (by omega)]
  exact ce_anti (by omega) hy h
theorem rdn_nn {x y : Int} (hx : 0 ≤ x) (hy : 0 < y) : 0 ≤ rdn x y := by
  unfold rdn fl; rw [if_neg (by omega)]
  exact Int.ediv_nonneg (by omega) (by omega)
theorem div_hi {a b : Sp} (ha : 0 ≤ a.1) (hab : a.1 ≤ a.2) (hc : 0 < b.1) (hcd : b.1 ≤ b.2) (h : (div a.1 a.2 b.1 b.2).2.2 = 0) : (div a.1 a.2 b.1 b.2).2.1 = rup a.2 b.1 ∧ 0 ≤ (div a.1 a.2 b.1 b.2).1 := by
  unfold div at h ⊢
  split at h
  · rename_i g
    rw [if_neg (by omega)] at h
    rw [if_pos g, if_neg (by omega), (fit_ok h).1]
    have m1 := rup_mono hab hc
    have m2 := rup_mono hab (show 0 < b.2 by omega)
    have m3 := rup_anti (show 0 ≤ a.2 by omega) hc hcd
    have n1 := rdn_nn ha hc
    have n2 := rdn_nn ha (show 0 < b.2 by omega)
    have n3 := rdn_nn (show 0 ≤ a.2 by omega) hc
    have n4 := rdn_nn (show 0 ≤ a.2 by omega) (show 0 < b.2 by omega)
    refine ⟨?_, ?_⟩
    · simp only [max4]; omega
    · simp only [min4]; omega
  · cases h
theorem sum_facts {l : List Sp} (hl : ∀ p ∈ l, ok p.1 p.2 = true ∧ 0 ≤ p.1) (f : Int) : ∀ n, n ≤ l.length → ((swS l f n).2.2 = 0 ∨ (swS l f n).2.2 = 4) ∧ ((swS l f n).2.2 = 0 → 0 ≤ (swS l f n).1 ∧ ok (swS l f n).1 (swS l f n).2.1 = true)
  | 0, _ => ⟨.inl rfl, fun _ => ⟨Int.le_refl _, (by decide : ok 0 0 = true)⟩⟩
  | n + 1, hn => by
    obtain ⟨h1, h2⟩ := sum_facts hl f n (by omega)
    have hp : sat l n ∈ l := by rw [sat_eq (List.getElem?_eq_getElem (show n < l.length by omega))]; exact List.getElem_mem _
    obtain ⟨p1, p2⟩ := hl _ hp
    by_cases hb : bt f n = 0
    · rw [swS_yes hb]
      refine ⟨cop_err h1 fun h => add_err (a := lohi (swS l f n)) (h2 h).2 p1, fun h => ?_⟩
      obtain ⟨e0, e1, e2⟩ := cop_ok h
      rw [e2]
      refine ⟨?_, add_okr (a := lohi (swS l f n)) (h2 e0).2 p1 e1⟩
      have e3 := add_eq (a := lohi (swS l f n)) e1
      simp only at e3
      rw [e3]
      have := (h2 e0).1
      omega
    · rw [swS_no hb]; exact ⟨h1, h2⟩
theorem bt_zero' (i : Nat) : bt 0 i = 0 := by
  unfold bt
  rw [Int.zero_fdiv]
  decide
theorem sum_mono {l : List Sp} (hl : ∀ p ∈ l, ok p.1 p.2 = true ∧ 0 ≤ p.1) (f : Int) : ∀ n, n ≤ l.length → (swS l f n).2.2 = 0 → (swS l 0 n).2.2 = 0 → (swS l f n).1 ≤ (swS l 0 n).1
  | 0, _, _, _ => Int.le_refl _
  | n + 1, hn, h1, h2 => by
    have hp : sat l n ∈ l := by rw [sat_eq (List.getElem?_eq_getElem (show n < l.length by omega))]; exact List.getElem_mem _
    obtain ⟨p1, p2⟩ := hl _ hp
    rw [swS_yes (bt_zero' n)] at h2 ⊢
    obtain ⟨z0, z1, z2⟩ := cop_ok h2
    rw [z2]
    have z3 := add_eq (a := lohi (swS l 0 n)) z1
    simp only at z3
    rw [z3]
    by_cases hb : bt f n = 0
    · rw [swS_yes hb] at h1 ⊢
      obtain ⟨e0, e1, e2⟩ := cop_ok h1
      rw [e2]
      have e3 := add_eq (a := lohi (swS l f n)) e1
      simp only at e3
      rw [e3]
      have := sum_mono hl f n (by omega) e0 z0
      omega
    · rw [swS_no hb] at h1 ⊢
      have := sum_mono hl f n (by omega) h1 z0
      omega
theorem clip_mono {x y lim : Int} (h : x ≤ y) : clipV x lim ≤ clipV y lim := by
  unfold clipV; repeat' split
  all_goals omega
theorem clip_in {x lim : Int} (h1 : -lim < clipV x lim) (h2 : clipV x lim < lim) : clipV x lim = x := by
  unfold clipV at *; repeat' split
  all_goals (repeat' split at h1) <;> (repeat' split at h2) <;> omega
/-- What the operations of an angle come to, if there is no error. -/
structure SwR (s : R) (arm : Sp) (lim want : Int) : Prop where
  s0 : s.2.2 = 0
  q : (div want want s.1 s.2.1).2.2 = 0
  eq1 : sw1 s want = div want want s.1 s.2.1
  r : (div (sw1 s want).1 (sw1 s want).2.1 arm.1 arm.2).2.2 = 0
  eq2 : sw2 s arm want = div (sw1 s want).1 (sw1 s want).2.1 arm.1 arm.2
  m : (mul s.1 s.2.1 arm.1 arm.2).2.2 = 0
  eq3 : sw3 s arm want = mul s.1 s.2.1 arm.1 arm.2
  n : (mul (sw3 s arm want).1 (sw3 s arm want).2.1 (swA s arm lim want).1 (swA s arm lim want).2).2.2 = 0
  eq4 : sw4 s arm lim want = mul (sw3 s arm want).1 (sw3 s arm want).2.1 (swA s arm lim want).1 (swA s arm lim want).2
  u : (sub want want (sw4 s arm lim want).1 (sw4 s arm lim want).2.1).2.2 = 0
  eq5 : sw5 s arm lim want = sub want want (sw4 s arm lim want).1 (sw4 s arm lim want).2.1
theorem swR_of {s : R} {arm : Sp} {lim want : Int} (h : (sw5 s arm lim want).2.2 = 0) : SwR s arm lim want := by
  obtain ⟨a1, a2, a3⟩ := cop_ok (show (cop _ _).2.2 = 0 from h)
  obtain ⟨b1, b2, b3⟩ := cop_ok (show (cop _ _).2.2 = 0 from a1)
  obtain ⟨c1, c2, c3⟩ := cop_ok (show (cop _ _).2.2 = 0 from b1)
  obtain ⟨d1, d2, d3⟩ := cop_ok (show (cop _ _).2.2 = 0 from c1)
  obtain ⟨e1, e2, e3⟩ := cop_ok (show (cop _ _).2.2 = 0 from d1)
  exact ⟨e1, e2, e3, d2, d3, c2, c3, b2, b3, a2, a3⟩
theorem sw_err {s : R} {arm : Sp} {lim want : Int} (h64 : R64 s) (hs : s.2.2 = 0 ∨ s.2.2 = 4) (h1 : s.2.2 = 0 → 0 < s.1 ∧ ok s.1 s.2.1 = true) (ha : ok arm.1 arm.2 = true) (ha0 : 0 < arm.1) (hw : ok want want = true) (hl : 0 ≤ lim ∧ lim ≤ 9223372036854775807) :
    (sw5 s arm lim want).2.2 = 0 ∨ (sw5 s arm lim want).2.2 = 4 := by
  have k1 : (sw1 s want).2.2 = 0 ∨ (sw1 s want).2.2 = 4 := cop_err hs fun h => div_err (a := (want, want)) (b := lohi s) hw (h1 h).2 (h1 h).1
  have o1 : (sw1 s want).2.2 = 0 → ok (sw1 s want).1 (sw1 s want).2.1 = true := fun h => by
    obtain ⟨a, b, c⟩ := cop_ok (show (cop _ _).2.2 = 0 from h)
    rw [show sw1 s want = _ from c]
    exact div_okr (a := (want, want)) (b := lohi s) hw (h1 a).2 b
  have k2 : (sw2 s arm want).2.2 = 0 ∨ (sw2 s arm want).2.2 = 4 := cop_err k1 fun h => div_err (a := lohi (sw1 s want)) (b := arm) (o1 h) ha ha0
  have o2 : (sw2 s arm want).2.2 = 0 → ok (sw2 s arm want).1 (sw2 s arm want).2.1 = true := fun h => by
    obtain ⟨a, b, c⟩ := cop_ok (show (cop _ _).2.2 = 0 from h)
    rw [show sw2 s arm want = _ from c]
    exact div_okr (a := lohi (sw1 s want)) (b := arm) (o1 a) ha b
  have oA : (sw2 s arm want).2.2 = 0 → ok (swA s arm lim want).1 (swA s arm lim want).2 = true := fun h => by
    have b1 := clip_bd (n := (sw2 s arm want).1) hl.1
    have b2 := clip_bd (n := (sw2 s arm want).2.1) hl.1
    have b3 := clip_mono (lim := lim) (ok_lh (a := lohi (sw2 s arm want)) (o2 h))
    unfold swA
    exact ok_true.2 (by simp only at b3 ⊢; omega)
  have z2 : (sw2 s arm want).2.2 = 0 → s.2.2 = 0 := fun h => (cop_ok (show (cop _ _).2.2 = 0 from (cop_ok (show (cop _ _).2.2 = 0 from h)).1)).1
  have k3 : (sw3 s arm want).2.2 = 0 ∨ (sw3 s arm want).2.2 = 4 := cop_err k2 fun h => mul_err (a := lohi s) (b := arm) (h1 (z2 h)).2 ha
  have o3 : (sw3 s arm want).2.2 = 0 → ok (sw3 s arm want).1 (sw3 s arm want).2.1 = true ∧ (sw2 s arm want).2.2 = 0 := fun h => by
    obtain ⟨a, b, c⟩ := cop_ok (show (cop _ _).2.2 = 0 from h)
    rw [show sw3 s arm want = _ from c]
    exact ⟨mul_okr (a := lohi s) (b := arm) (h1 (z2 a)).2 ha b, a⟩
  have k4 : (sw4 s arm lim want).2.2 = 0 ∨ (sw4 s arm lim want).2.2 = 4 := cop_err k3 fun h => mul_err (a := lohi (sw3 s arm want)) (b := swA s arm lim want) (o3 h).1 (oA (o3 h).2)
  have o4 : (sw4 s arm lim want).2.2 = 0 → ok (sw4 s arm lim want).1 (sw4 s arm lim want).2.1 = true := fun h => by
    obtain ⟨a, b, c⟩ := cop_ok (show (cop _ _).2.2 = 0 from h)
    rw [show sw4 s arm lim want = _ from c]
    exact mul_okr (a := lohi (sw3 s arm want)) (b := swA s arm lim want) (o3 a).1 (oA (o3 a).2) b
  have h4 : R64 (sw4 s arm lim want) := cop_64 (mul_64 _ _ _ _)
  exact cop_err k4 fun h => sub_err (a := (want, want)) (b := lohi (sw4 s arm lim want)) hw (o4 h) h4.2.2
theorem walk_steerLimits {w : World} {v : Value} {l : List Sp} (h : Sps w v l) (hl : ∀ p ∈ l, SpI p) (f : Int) (hf : I64 f) (arm : Sp) (harm : SpI arm) (lim want : Int) (hlim : I64 lim) (hw64 : I64 want) :
    Calls Try.prog 6 #[v, .int .i64 f, Vc.S arm.1 arm.2, .int .i64 lim, .int .i64 want] w (Vc.Ret (.bool true) w) := by
  have h0 := h
  obtain ⟨b0, p0, x1, rfl, hb, hc⟩ := sps_form h
  have nb := sps_nb hb
  refine vc_ullagelaw05_SteerLimits p0 (l.length : Int) x1 f arm.1 arm.2 lim want b0 w _ ?_
  refine ⟨true, fun w' hw => alive_any w', by omega, nb, ?_⟩
  refine iteI (fun _ => rfl) (fun g12 => iteI (fun _ => ?_) (fun h => absurd rfl h))
  refine ⟨_, _, _, _, _, fun w' hw => pSwivel (sps_below hw h0) hl f hf arm harm lim want hlim hw64, ?_⟩
  by_cases he : (swV l f arm lim want).2.2 = 0
  rotate_left
  · refine iteI (fun h => absurd h he) (fun _ => iteI (fun _ => ?_) (fun h => absurd rfl h))
    have : (swV l f arm lim want).1 = (0, 0) ∧ (swV l f arm lim want).2.1 = (0, 0) := by
      unfold swV at he ⊢
      split
      · rename_i k
        rw [if_pos k] at he
        split
        · exact ⟨rfl, rfl⟩
        · rename_i k2
          rw [if_neg k2] at he
          split
          · rename_i k3
            rw [if_pos k3] at he
            exact absurd rfl he
          · exact ⟨rfl, rfl⟩
      · exact ⟨rfl, rfl⟩
    rw [this.1, this.2]
    exact iteI (fun _ => rfl) (fun h => absurd ⟨rfl, rfl⟩ h)
  refine iteI (fun _ => ?_) (fun h => absurd he h)
  -- what is known
  have hok : SwOk l f arm lim want := by
    refine Decidable.byContradiction fun k => ?_
    unfold swV at he
    rw [if_neg k] at he
    simp only at he
    split at he <;> cases he
  have hz : ¬ ((swS l f l.length).2.2 = 0 ∧ (swS l f l.length).1 = 0) := fun k => by
    unfold swV at he
    rw [if_pos hok, if_pos k] at he
    cases he
  have h5 : (sw5 (swS l f l.length) arm lim want).2.2 = 0 := by
    refine Decidable.byContradiction fun k => ?_
    unfold swV at he
    rw [if_pos hok, if_neg hz, if_neg k] at he
    exact k he
  have hV : swV l f arm lim want = (swA (swS l f l.length) arm lim want, lohi (sw5 (swS l f l.length) arm lim want), 0) := by
    unfold swV; rw [if_pos hok, if_neg hz, if_pos h5]
  obtain ⟨o1, o2, o3, o4, o5, o6, o7⟩ := hok
  have hS := swR_of h5
  have hall : ∀ p ∈ l, ok p.1 p.2 = true ∧ 0 ≤ p.1 := fun p hp => ⟨of_decide_eq_true o2 p hp, o7 p hp⟩
  have sf := sum_facts hall f l.length (Nat.le_refl _)
  have sz := sum_facts hall 0 l.length (Nat.le_refl _)
  have hwk : ok want want = true := ok_true.2 (by omega)
  have harmk : ok arm.1 arm.2 = true ∧ 0 < arm.1 := by
    unfold sign order at o3
    split at o3
    · rename_i k
      simp only [Bool.and_eq_true] at k
      refine ⟨k.1, ?_⟩
      split at o3
      · omega
      · split at o3
        · assumption
        · omega
    · omega
  have s64 := swS_64 l f l.length
  have z64 := swS_64 l 0 l.length
  have spos : 0 < (swS l f l.length).1 := by
    have := (sf.2 hS.s0).1
    have h1 : (swS l f l.length).1 ≠ 0 := fun k => hz ⟨hS.s0, k⟩
    omega
  have sok := (sf.2 hS.s0).2
  have smono := sum_mono hall f l.length (Nat.le_refl _) hS.s0
  generalize swS l f l.length = s at *
  have ok1 : ok (sw1 s want).1 (sw1 s want).2.1 = true := by rw [hS.eq1]; exact div_okr (a := (want, want)) (b := lohi s) hwk sok hS.q
  have ok2 : ok (sw2 s arm want).1 (sw2 s arm want).2.1 = true := by rw [hS.eq2]; exact div_okr (a := lohi (sw1 s want)) (b := arm) ok1 harmk.1 hS.r
  have cl1 := clip_bd (n := (sw2 s arm want).1) o5
  have cl2 := clip_bd (n := (sw2 s arm want).2.1) o5
  have cl3 := clip_mono (lim := lim) (ok_lh (a := lohi (sw2 s arm want)) ok2)
  have hl2 := hlim.2
  rw [hV]
  rintro x12 e12
  rw [Vc.i64_id (by omega), Int.zero_sub] at e12
  subst e12
  refine ⟨_, fun w' hw => within_any _ _ _ _ w', ?_⟩
  have hin : within (swA s arm lim want).1 (swA s arm lim want).2 (-lim) lim = true := by
    unfold within
    rw [show ok (swA s arm lim want).1 (swA s arm lim want).2 = true from ok_true.2 (by unfold swA; simp only at cl3 ⊢; omega), show ok (-lim) lim = true from ok_true.2 (by omega)]
    simp only [Bool.true_and, Bool.and_eq_true, decide_eq_true_eq]
    exact ⟨cl1.1, cl2.2⟩
  rw [hin]
  refine iteI (fun _ => ?_) (fun h => absurd rfl h)
  refine ⟨_, _, _, _, _, fun w' hw => pSwivel (sps_below hw h0) hl 0 (by unfold I64; omega) arm harm lim want hlim hw64, ?_⟩
  have hok0 : SwOk l 0 arm lim want := ⟨o1, o2, o3, o4, o5, ⟨by omega, pow_pos2 _⟩, o7⟩
  have hz0 : ¬ ((swS l 0 l.length).2.2 = 0 ∧ (swS l 0 l.length).1 = 0) := fun k => by
    have := smono k.1
    omega
  have hV0 : swV l 0 arm lim want = if (sw5 (swS l 0 l.length) arm lim want).2.2 = 0 then (swA (swS l 0 l.length) arm lim want, lohi (sw5 (swS l 0 l.length) arm lim want), 0) else ((0, 0), (0, 0), (sw5 (swS l 0 l.length) arm lim want).2.2) := by
    unfold swV; rw [if_pos hok0, if_neg hz0]
  have zpos : (swS l 0 l.length).2.2 = 0 → 0 < (swS l 0 l.length).1 := fun k => by have := smono k; omega
  generalize swS l 0 l.length = z at *
  rw [hV0]
  by_cases h50 : (sw5 z arm lim want).2.2 = 0
  rotate_left
  · rw [if_neg h50]
    refine iteI (fun h => absurd h h50) (fun _ => iteI (fun _ => ?_) (fun h => absurd rfl h))
    rcases sw_err z64 sz.1 (fun k => ⟨zpos k, (sz.2 k).2⟩) harmk.1 harmk.2 hwk ⟨o5, hl2⟩ with k | k
    · exact absurd k h50
    · simp only; rw [k]; rfl
  rw [if_pos h50]
  refine iteI (fun _ => ?_) (fun h => absurd rfl h)
  have hZ := swR_of h50
  have last : ¬ want < 0 → (swA z arm lim want).2 ≤ (swA s arm lim want).2 := fun hwn => by
    have zok := (sz.2 hZ.s0).2
    have zp := zpos hZ.s0
    have zle := smono hZ.s0
    have d1 := div_hi (a := (want, want)) (b := lohi s) (by simp only; omega) (Int.le_refl _) spos (ok_lh (a := lohi s) sok) hS.q
    have d2 := div_hi (a := (want, want)) (b := lohi z) (by simp only; omega) (Int.le_refl _) zp (ok_lh (a := lohi z) zok) hZ.q
    rw [← hS.eq1] at d1
    rw [← hZ.eq1] at d2
    have okz : ok (sw1 z want).1 (sw1 z want).2.1 = true := by rw [hZ.eq1]; exact div_okr (a := (want, want)) (b := lohi z) hwk zok hZ.q
    have d3 := div_hi (a := lohi (sw1 s want)) (b := arm) d1.2 (ok_lh (a := lohi (sw1 s want)) ok1) harmk.2 (ok_lh harmk.1) hS.r
    have d4 := div_hi (a := lohi (sw1 z want)) (b := arm) d2.2 (ok_lh (a := lohi (sw1 z want)) okz) harmk.2 (ok_lh harmk.1) hZ.r
    simp only at d1 d2 d3 d4
    rw [← hS.eq2] at d3
    rw [← hZ.eq2] at d4
    have r1 : (sw1 z want).2.1 ≤ (sw1 s want).2.1 := by
      rw [d1.1, d2.1]
      exact rup_anti (by omega) spos zle
    have r2 : (sw2 z arm want).2.1 ≤ (sw2 s arm want).2.1 := by
      rw [d3.1, d4.1]
      exact rup_mono r1 harmk.2
    exact clip_mono r2
  have fin : ((true = true) → (((want < 0) → ((Value.bool true : Value) = .bool true)) ∧ (¬ (want < 0) → ((.bool (decide ((swA z arm lim want).2 ≤ (swA s arm lim want).2)) : Value) = .bool true)))) ∧ (¬ (true = true) → ((Value.bool false : Value) = .bool true)) :=
    ⟨fun _ => ⟨fun _ => rfl, fun h => by rw [decide_eq_true (last h)]⟩, fun h => absurd rfl h⟩
  rintro x18 e18
  rw [Vc.i64_id (by omega), Int.zero_sub] at e18
  subst e18
  refine iteI (fun q1 => iteI (fun q2 => ?_) (fun _ => fin)) (fun _ => fin)
  refine ⟨_, fun w' hw => in_any _ _ _ w', ?_⟩
  have hs0 : inS (sw5 s arm lim want).1 (sw5 s arm lim want).2.1 0 = true := by
    have a1 : clipV (sw2 s arm want).1 lim = (sw2 s arm want).1 := clip_in q1 (by have h1 := cl3; have h2 : clipV (sw2 s arm want).2.1 lim < lim := q2; simp only at h1; omega)
    have a2 : clipV (sw2 s arm want).2.1 lim = (sw2 s arm want).2.1 := clip_in (by have h1 := cl3; have h2 : -lim < clipV (sw2 s arm want).1 lim := q1; simp only at h1; omega) q2
    have eA : swA s arm lim want = lohi (sw2 s arm want) := by unfold swA; rw [a1, a2]
    have t1 := div_rin (a := (want, want)) (b := lohi s) (rin_pt want) (rin_lo (ok_lh (a := lohi s) sok)) hS.q
    rw [← hS.eq1] at t1
    have t2 := div_rin (a := lohi (sw1 s want)) (b := arm) t1.2 (rin_lo (ok_lh harmk.1)) hS.r
    rw [← hS.eq2, ← eA] at t2
    have t3 := mul_rin (a := lohi s) (b := arm) (rin_lo (ok_lh (a := lohi s) sok)) (rin_lo (ok_lh harmk.1)) hS.m
    rw [← hS.eq3] at t3
    have t4 := mul_rin (a := lohi (sw3 s arm want)) (b := swA s arm lim want) t3 t2.2 hS.n
    rw [← hS.eq4] at t4
    have t5 := sub_rin (a := (want, want)) (b := lohi (sw4 s arm lim want)) (rin_pt want) t4 hS.u
    rw [← hS.eq5] at t5
    have n1 := t1.1
    have n2 := t2.1
    generalize ((lohi s).1 : Rat) = S at *
    have e0 : (want : Rat) - S * (arm.1 : Rat) / 4294967296 * ((want : Rat) * 4294967296 / S * 4294967296 / (arm.1 : Rat)) / 4294967296 = 0 := by grind
    rw [e0] at t5
    have l1 : (sw5 s arm lim want).1 ≤ 0 := Rat.intCast_le_intCast.1 (by have := t5.1; simpa using this)
    have l2 : 0 ≤ (sw5 s arm lim want).2.1 := Rat.intCast_le_intCast.1 (by have := t5.2; simpa using this)
    have h64 : R64 (sw5 s arm lim want) := cop_64 (sub_64 _ _ _ _)
    unfold inS
    rw [ok_r h64 (by omega)]
    simp; omega
  rw [show inS (lohi (sw5 s arm lim want)).1 (lohi (sw5 s arm lim want)).2 0 = true from hs0]
  exact iteI (fun _ => fin) (fun h => absurd rfl h)
end Go.Proofs.Ythmggmpgkmmfiaa
set_option linter.unusedVariables false
set_option maxRecDepth 4000
namespace Go.Proofs.Ythmggmpgkmmfiaa
open Go Go.RowKit Go.ChangeShapes Go.WideShapes Go.ChangeAt Go.Joins Go.Deep Ul Vc
theorem list_of {α : Type} {R : Nat → α → Prop} : ∀ (n : Nat), (∀ i, i < n → ∃ a, R i a) → ∃ l : List α, l.length = n ∧ ∀ i a, l[i]? = some a → R i a
  | 0, _ => ⟨[], rfl, fun i a h => by simp at h⟩
  | n + 1, h => by
    obtain ⟨l, h1, h2⟩ := list_of n fun i hi => h i (by omega)
    obtain ⟨a, ha⟩ := h n (by omega)
    refine ⟨l ++ [a], by simp [h1], fun i b hb => ?_⟩
    by_cases hi : i < l.length
    · rw [List.getElem?_append_left hi] at hb
      exact h2 i b hb
    · rw [List.getElem?_append_right (by omega)] at hb
      have : i - l.length = 0 := by
        have := (List.getElem?_eq_some_iff.1 hb).1
        simp at this; omega
      rw [this] at hb
      simp at hb
      subst hb
      have : i = n := by omega
      subst this
      exact ha
section
variable {H : Type} {enc : TypeId × Value → H} {P : Program} {w : World} {base : Nat} {sp : Nat → Bool} {held : Bool}
theorem sl_of {α : Type} {f : α → List Value} {G : α → Prop} {c : Nat} {t e : TypeId} (hsp : ∀ b, sp b = true) (ht : P.underlying t = some (.slice e)) (hc : P.cellsOf e = c) (c0 : 0 < c) (hf : ∀ a, (f a).length = c)
    (hE : ∀ fuel cs x, DataW.trod enc P w base sp held fuel e cs = some x → ∃ a, cs = f a ∧ G a) {v : Value} {fuel : Nat} {x : DataW H × List MemPlace} (hx : DataW.trod enc P w base sp held fuel t [v] = some x) :
    ∃ l : List α, SlAt w v c (l.flatMap f) ∧ ∀ a ∈ l, G a := by
  rcases DataW.trod_slice ht hx with ⟨h1, _⟩ | ⟨a, len, cap, elems, rest, n, _, h1, _, hb, hl, hm, hlen, hel, hspare, _⟩
  · simp only [List.cons.injEq, and_true] at h1
    exact ⟨[], .inl ⟨h1, rfl⟩, fun a ha => by cases ha⟩
  · simp only [List.cons.injEq, and_true] at h1
    subst h1
    obtain ⟨b, o, spot⟩ := a
    by_cases hcap : cap = 0
    · obtain rfl : len = 0 := by omega
      subst hcap
      exact ⟨[], .inr (.inl ⟨_, rfl, rfl⟩), fun a ha => by cases ha⟩
    have hs : spot = none := by
      have some_cell : ∀ k cs, k * c = k * c → w.cells? base ((⟨b, o, spot⟩ : Addr).add (k * c)) c = some cs → k = 0 → spot = none := fun k cs _ h hk => by
        subst hk
        have h2 := (World.cells?_some h).2
        have h3 := h2.2 0 c0
        rw [List.getElem?_eq_getElem (by omega)] at h3
        simpa [Addr.add] using World.cell?_spot h3
      by_cases hlen0 : len = 0
      · obtain ⟨hr1, hr2⟩ := hspare (hsp b)
        have h2 := hr2 0 (by omega)
        rw [List.getElem?_eq_getElem (by omega), hc, Option.bind_eq_some_iff] at h2
        obtain ⟨cs, h3, _⟩ := h2
        rw [hlen0] at h3
        exact some_cell 0 cs rfl (by simpa using h3) rfl
      · have h2 := hel 0 (by omega)
        rw [List.getElem?_eq_getElem (by omega), hc, Option.bind_eq_some_iff] at h2
        obtain ⟨cs, h3, _⟩ := h2
        exact some_cell 0 cs rfl h3 rfl
    subst hs
    have each : ∀ i, i < len → ∃ y : α, G y ∧ ∀ j, j < c → w.cell? ⟨b, o + (i * c + j), none⟩ = (f y)[j]? := fun i hi => by
      have h2 := hel i hi
      rw [List.getElem?_eq_getElem (by omega), hc, Option.bind_eq_some_iff] at h2
      obtain ⟨cs, h3, h4⟩ := h2
      obtain ⟨y, rfl, hg⟩ := hE _ _ _ h4
      refine ⟨y, hg, fun j hj => ?_⟩
      rw [← (World.cells?_some h3).2.2 j hj, addr_add, addr_add, Nat.add_assoc]
    obtain ⟨l, hl1, hl2⟩ := list_of len each
    refine ⟨l, .inr (.inr ⟨b, o, len, cap, rfl, by rw [flat_len hf, hl1], fun j u hj => ?_⟩), fun a ha => ?_⟩
    · have hjl : j < l.length * c := by
        have := (List.getElem?_eq_some_iff.1 hj).1
        rwa [flat_len hf] at this
      have hi : j / c < l.length := (Nat.div_lt_iff_lt_mul c0).2 hjl
      have hr : j % c < c := Nat.mod_lt _ c0
      have hjd : j = j / c * c + j % c := by rw [Nat.mul_comm]; exact (Nat.div_add_mod j c).symm
      have hp := List.getElem?_eq_getElem hi
      rw [hjd] at hj ⊢
      rw [flat_at hf hp hr] at hj
      rw [← hj]
      exact (hl2 _ _ hp).2 _ hr
    · obtain ⟨i, hi⟩ := List.getElem?_of_mem ha
      exact (hl2 i a hi).1
end
section
variable {H : Type} {enc : TypeId × Value → H} {w : World} {base : Nat} {sp : Nat → Bool} {held : Bool}
theorem open_span {P : Program} (hP : P = Try.prog) {r : Reach} {b0 : Nat} {v : Value} {d : DataW H} {ps : List MemPlace} (hval : Value.okWide P w r b0 42 v) (hd : DataW.Trod enc P w base sp held 42 v d ps) :
    ∃ s : Sp, v = Vc.S s.1 s.2 ∧ SpI s := by
  obtain ⟨fs, hfs⟩ : ∃ fs, P.underlying 42 = some (.struct fs) := ⟨_, by rw [hP]; exact Try.underlying42⟩
  have hz : ∀ fuel cs x, DataW.trod enc P w base sp held fuel 42 cs = some x → ∃ p : Sp, cs = spc p ∧ SpI p := fun fuel cs x h => by rw [hP] at h; exact span_cells' h
  clear hP
  obtain ⟨cs, rfl, _⟩ := okWide_struct hfs hval
  obtain ⟨fuel, hf⟩ := hd
  obtain ⟨z, h1, h2⟩ := hz _ _ _ hf
  refine ⟨z, ?_, h2⟩
  have : cs = #[.int .i64 z.1, .int .i64 z.2] := by
    apply Array.ext'
    exact h1
  rw [this]
theorem spans_sl {P : Program} (hsp : ∀ b, sp b = true) (hP : P = Try.prog) {fuel : Nat} {v : Value} {cs : List Value} {x : DataW H × List MemPlace} (h : DataW.trod enc P w base sp held fuel 49 cs = some x) (hcs : cs = [v]) : ∃ l : List Sp, Sps w v l ∧ ∀ p ∈ l, SpI p := by
  subst hcs
  have hu : P.underlying 49 = some (.slice 42) := by rw [hP]; kernel_rfl
  have hc : P.cellsOf 42 = 2 := by rw [hP]; kernel_rfl
  have hE : ∀ fuel cs x, DataW.trod enc P w base sp held fuel 42 cs = some x → ∃ a, cs = spc a ∧ SpI a := fun fuel cs x h => by rw [hP] at h; exact span_cells' h
  clear hP
  exact sl_of hsp hu hc (by omega) spc_len hE h
theorem open_spans {P : Program} (hsp : ∀ b, sp b = true) (hP : P = Try.prog) {r : Reach} {b0 : Nat} {v : Value} {d : DataW H} {ps : List MemPlace} (hval : Value.okWide P w r b0 49 v) (hd : DataW.Trod enc P w base sp held 49 v d ps) :
    ∃ l : List Sp, Sps w v l ∧ ∀ p ∈ l, SpI p := by
  have hu : P.underlying 49 = some (.slice 42) := by rw [hP]; kernel_rfl
  obtain ⟨a', len', cap', rfl⟩ := okWide_slice hu hval
  obtain ⟨fuel, hf⟩ := hd
  exact spans_sl hsp hP hf rfl
end
theorem walk_steerLimits' {w : World} {v : Value} {l : List Sp} (h : Sps w v l ∧ ∀ p ∈ l, SpI p) (f : Int) (hf : (Lit.int .i64 f).wf = true) (arm : Sp) (harm : SpI arm) (lim : Int) (hlim : (Lit.int .i64 lim).wf = true) (want : Int) (hw64 : (Lit.int .i64 want).wf = true) :
    Calls Try.prog 6 #[v, .int .i64 f, Vc.S arm.1 arm.2, .int .i64 lim, .int .i64 want] w (Vc.Ret (.bool true) w) := walk_steerLimits h.1 h.2 f (wf64i hf) arm harm lim want (wf64i hlim) (wf64i hw64)
end Go.Proofs.Ythmggmpgkmmfiaa
