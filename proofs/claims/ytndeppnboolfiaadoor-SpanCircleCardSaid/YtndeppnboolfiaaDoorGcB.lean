/- Contracts of the layer, as far as they are wanted (written by program out of the templates). -/
import Derived.Test.YtndeppnboolfiaaDoorGcA
import Derived.Test.YtndeppnboolfiaaDoorGcG3
import Derived.Test.YtndeppnboolfiaaDoorTx

set_option linter.unusedVariables false
set_option linter.unusedSimpArgs false
namespace Go.Proofs.YtndeppnboolfiaaDoor
open Go Go.RowKit Ul
def rin (x : Rat) (p : Int × Int) : Prop := (p.1 : Rat) ≤ x ∧ x ≤ (p.2 : Rat)
abbrev lohi (r : R) : Int × Int := (r.1, r.2.1)
theorem rle {a b : Int} (h : a ≤ b) : (a : Rat) ≤ b := Rat.intCast_le_intCast.2 h
theorem fit_ok {a b : Int} (h : (fit a b).2.2 = 0) : fit a b = (a, b, 0) ∧ (-9223372036854775807 ≤ a ∧ a ≤ 9223372036854775807) ∧ -9223372036854775807 ≤ b ∧ b ≤ 9223372036854775807 := by
  unfold fit at h ⊢
  split at h
  · rename_i g; rw [if_pos g]; exact ⟨rfl, by omega, by omega⟩
  · cases h
theorem add_rin {a b : Int × Int} {x y : Rat} (hx : rin x a) (hy : rin y b) (h : (add a.1 a.2 b.1 b.2).2.2 = 0) : rin (x + y) (lohi (add a.1 a.2 b.1 b.2)) := by
  unfold add at h ⊢
  split at h
  · rename_i g
    rw [if_pos g, (fit_ok h).1]
    unfold rin lohi at *
    simp only [Rat.intCast_add]
    grind
  · cases h
/-- A product is not below all products of the bounds, and not above all. -/
theorem corner {a b c d x y : Rat} (hx : a ≤ x ∧ x ≤ b) (hy : c ≤ y ∧ y ≤ d) :
    (a * c ≤ x * y ∨ a * d ≤ x * y ∨ b * c ≤ x * y ∨ b * d ≤ x * y) ∧ (x * y ≤ a * c ∨ x * y ≤ a * d ∨ x * y ≤ b * c ∨ x * y ≤ b * d) := by
  have key : ∀ {u v w z : Rat}, u ≤ v → 0 ≤ w → u * w ≤ v * w := fun h hw => Rat.mul_le_mul_of_nonneg_right h hw
  have l : ∀ {u v w : Rat}, u ≤ v → 0 ≤ w → w * u ≤ w * v := fun h hw => Rat.mul_le_mul_of_nonneg_left h hw
  have ln : ∀ {u v w : Rat}, u ≤ v → w ≤ 0 → w * v ≤ w * u := fun {u v w} h hw => by
    have := l (w := -w) h (by grind)
    grind
  have hlow : a * y ≤ x * y ∨ b * y ≤ x * y := by
    by_cases h : 0 ≤ y
    · have := l hx.1 h; grind
    · have := ln hx.2 (w := y) (by grind); grind
  have hhigh : x * y ≤ a * y ∨ x * y ≤ b * y := by
    by_cases h : 0 ≤ y
    · have := l hx.2 h; grind
    · have := ln hx.1 (w := y) (by grind); grind
  have la : ∀ w : Rat, (w * c ≤ w * y ∨ w * d ≤ w * y) ∧ (w * y ≤ w * c ∨ w * y ≤ w * d) := fun w => by
    by_cases h : 0 ≤ w
    · exact ⟨.inl (l hy.1 h), .inr (l hy.2 h)⟩
    · exact ⟨.inr (ln hy.2 (by grind)), .inl (ln hy.1 (by grind))⟩
  have h1 := la a
  have h2 := la b
  grind
theorem fl_rat {x y : Int} (h : 0 < y) : ((fl x y : Int) : Rat) * y ≤ x := by
  rw [← Rat.intCast_mul]
  exact rle (Int.ediv_mul_le x (by omega))
theorem ce_rat {x y : Int} (h : 0 < y) : (x : Rat) ≤ ((ce x y : Int) : Rat) * y := by
  rw [← Rat.intCast_mul]
  refine rle ?_
  unfold ce
  have := Int.ediv_mul_le (-x) (show y ≠ 0 by omega)
  rw [Int.neg_mul]
  omega
theorem min4_le (a b c d : Int) : min4 a b c d ≤ a ∧ min4 a b c d ≤ b ∧ min4 a b c d ≤ c ∧ min4 a b c d ≤ d := by unfold min4; omega
theorem max4_ge (a b c d : Int) : a ≤ max4 a b c d ∧ b ≤ max4 a b c d ∧ c ≤ max4 a b c d ∧ d ≤ max4 a b c d := by unfold max4; omega
theorem mul_rin {a b : Int × Int} {x y : Rat} (hx : rin x a) (hy : rin y b) (h : (mul a.1 a.2 b.1 b.2).2.2 = 0) : rin (x * y / 4294967296) (lohi (mul a.1 a.2 b.1 b.2)) := by
  unfold mul at h ⊢
  split at h
  · rename_i g
    rw [if_pos g, (fit_ok h).1]
    have hc := corner hx hy
    have m := min4_le (a.1 * b.1) (a.1 * b.2) (a.2 * b.1) (a.2 * b.2)
    have M := max4_ge (a.1 * b.1) (a.1 * b.2) (a.2 * b.1) (a.2 * b.2)
    have f := fl_rat (x := min4 (a.1 * b.1) (a.1 * b.2) (a.2 * b.1) (a.2 * b.2)) (y := 4294967296) (by omega)
    have c := ce_rat (x := max4 (a.1 * b.1) (a.1 * b.2) (a.2 * b.1) (a.2 * b.2)) (y := 4294967296) (by omega)
    generalize min4 (a.1 * b.1) (a.1 * b.2) (a.2 * b.1) (a.2 * b.2) = m4 at *
    generalize max4 (a.1 * b.1) (a.1 * b.2) (a.2 * b.1) (a.2 * b.2) = M4 at *
    have m' := (fun h => rle h : m4 ≤ a.1 * b.1 → _) m.1
    have m1 := rle m.2.1
    have m2 := rle m.2.2.1
    have m3 := rle m.2.2.2
    have M0 := rle M.1
    have M1 := rle M.2.1
    have M2 := rle M.2.2.1
    have M3 := rle M.2.2.2
    simp only [Rat.intCast_mul] at m' m1 m2 m3 M0 M1 M2 M3
    unfold rin lohi at *
    simp only
    have e : ((4294967296 : Int) : Rat) = 4294967296 := by rfl
    rw [e] at f c
    generalize ((fl m4 4294967296 : Int) : Rat) = F at *
    generalize ((ce M4 4294967296 : Int) : Rat) = C at *
    constructor <;> grind
  · cases h
theorem le_quo {F M X : Rat} (h : F * M ≤ X) (hM : 0 < M) : F ≤ X / M := by
  have hi : 0 < M⁻¹ := by exact Rat.inv_pos.2 hM
  have := Rat.mul_le_mul_of_nonneg_right h (Rat.le_of_lt hi)
  have e : F * M * M⁻¹ = F := by grind
  rwa [e, ← Rat.div_def] at this
theorem quo_le {F M X : Rat} (h : X ≤ F * M) (hM : 0 < M) : X / M ≤ F := by
  have hi : 0 < M⁻¹ := by exact Rat.inv_pos.2 hM
  have := Rat.mul_le_mul_of_nonneg_right h (Rat.le_of_lt hi)
  have e : F * M * M⁻¹ = F := by grind
  rwa [e, ← Rat.div_def] at this
end Go.Proofs.YtndeppnboolfiaaDoor
set_option linter.unusedVariables false
set_option maxRecDepth 100000
namespace Go.Proofs.YtndeppnboolfiaaDoor
open Go Go.RowKit Go.Proofs Vc Ul
theorem of_any (a b : Int) (x : Int) (y : Int) (hx : IntKind.i64.wrap (a * 4294967296) = x) (hy : IntKind.i64.wrap (b * 4294967296) = y) (w : World) : Calls Tryd.prog 47 #[.int .i64 a, .int .i64 b] w (Vc.Ret (Vc.S x y) w) := by
  refine vc_ullagelaw01_of a b w _ ?_
  rintro _ rfl _ rfl
  rw [hx, hy]
theorem text_q (w : World) : Calls Tryd.prog 44 #[.int .i64 (-1073741824)] w (Vc.Ret (.string ⟨([45, 48, 46, 50, 53] : List UInt8).toArray⟩) w) :=
  (text_quarter w).mono fun e w' h => h
theorem alive_any (w : World) : Calls Tryd.prog 11 #[] w (Vc.Ret (.bool true) w) := by
  refine vc_ullagelaw01_alive w _ ?_
  refine ⟨-17179869184, 34359738368, 0, fun w' hw => Ret.mono (pmul_any (-4294967296) 8589934592 12884901888 17179869184 w' (by unfold I64; decide) (by unfold I64; decide) (by unfold I64; decide) (by unfold I64; decide)) (by rw [show mul (-4294967296) 8589934592 12884901888 17179869184 = (-17179869184, 34359738368, 0) by decide +kernel]), ?_⟩
  refine ⟨1431655765, 1431655766, 0, fun w' hw => Ret.mono (pRatio_any 1 3 w' (by unfold I64; decide) (by unfold I64; decide)) (by rw [show ratio 1 3 = (1431655765, 1431655766, 0) by decide +kernel]), ?_⟩
  refine ⟨0, 8589934592, 0, fun w' hw => Ret.mono (pRoot_any (-38654705664) 17179869184 w' (by unfold I64; decide) (by unfold I64; decide)) (by rw [show root (-38654705664) 17179869184 = (0, 8589934592, 0) by decide +kernel]), ?_⟩
  refine iteI (fun _ => ?_) (fun h => absurd rfl h)
  refine ⟨-17179869184, 34359738368, fun w' hw => of_any (-4) 8 _ _ (by decide +kernel) (by decide +kernel) w', ?_⟩
  refine iteI (fun _ => ?_) (fun h => absurd ⟨rfl, rfl⟩ h)
  refine iteI (fun _ => ?_) (fun h => absurd rfl h)
  refine iteI (fun _ => ?_) (fun h => absurd ⟨rfl, rfl⟩ h)
  refine iteI (fun _ => ?_) (fun h => absurd rfl h)
  refine ⟨0, 8589934592, fun w' hw => of_any 0 2 _ _ (by decide +kernel) (by decide +kernel) w', ?_⟩
  refine iteI (fun _ => ?_) (fun h => absurd ⟨rfl, rfl⟩ h)
  exact ⟨_, fun w' hw => text_q w', rfl⟩
end Go.Proofs.YtndeppnboolfiaaDoor
set_option linter.unusedVariables false
set_option maxRecDepth 100000
namespace Go.Proofs.YtndeppnboolfiaaDoor
open Go Go.RowKit Go.Proofs Vc Ul
theorem wfI64 {n : Int} (h : (Lit.int .i64 n).wf = true) : I64 n := by
  simp [Lit.wf, IntKind.min, IntKind.max, IntKind.signed, IntKind.bits] at h; unfold I64; omega
theorem ok_3 {a b : Int} (h : ok a b = true) : -9223372036854775807 ≤ a ∧ -9223372036854775807 ≤ b ∧ a ≤ b := by
  unfold ok at h; simp at h; omega
theorem ok_of {a b : Int} (h1 : -9223372036854775807 ≤ a) (h2 : -9223372036854775807 ≤ b) (h3 : a ≤ b) : ok a b = true := by
  unfold ok; simp; omega
end Go.Proofs.YtndeppnboolfiaaDoor
set_option linter.unusedVariables false
set_option maxRecDepth 100000
namespace Go.Proofs.YtndeppnboolfiaaDoor
open Go Go.RowKit Go.Proofs Vc Ul
theorem abs_in {a b : Int} {x : Rat} (h : ok a b = true) (hx : rin x (a, b)) : ∃ y : Rat, y * y = x * x ∧ 0 ≤ y ∧ (y = x ∨ y = -x) ∧ rin y (lohi (absS a b)) := by
  unfold absS lohi
  rw [if_pos h]
  obtain ⟨h1, h2⟩ := hx
  simp only at h1 h2
  split
  · rename_i c
    have := rle c
    exact ⟨x, rfl, by grind, .inl rfl, h1, h2⟩
  · split
    · rename_i c
      have := rle c
      refine ⟨-x, by grind, by grind, .inr rfl, ?_, ?_⟩ <;> simp only [Rat.intCast_neg] <;> grind
    · have m1 := rle (show -a ≤ max (-a) b by omega)
      have m2 := rle (show b ≤ max (-a) b by omega)
      rw [Rat.intCast_neg] at m1
      by_cases hc : 0 ≤ x
      · refine ⟨x, rfl, hc, .inl rfl, ?_, ?_⟩ <;> simp only <;> grind
      · refine ⟨-x, by grind, by grind, .inr rfl, ?_, ?_⟩ <;> simp only <;> grind
theorem square_rin {a b : Int} {x : Rat} (hx : rin x (a, b)) (h : (square a b).2.2 = 0) : rin (x * x / 4294967296) (lohi (square a b)) := by
  unfold square at h ⊢
  split at h
  · rename_i g
    rw [if_pos g]
    obtain ⟨y, e, _, _, hy⟩ := abs_in g hx
    have := mul_rin hy hy h
    rwa [e] at this
  · cases h
theorem abs_small {a b : Int} (h : ok a b = true) (h1 : -4294967296 ≤ a) (h2 : b ≤ 4294967296) : 0 ≤ (absS a b).1 ∧ (absS a b).1 ≤ (absS a b).2.1 ∧ (absS a b).2.1 ≤ 4294967296 := by
  obtain ⟨_, _, h3⟩ := ok_3 h
  unfold absS
  rw [if_pos h]
  split
  · dsimp only; omega
  · split <;> dsimp only <;> omega
theorem sq_small {a b : Int} (h : ok a b = true) (h1 : -4294967296 ≤ a) (h2 : b ≤ 4294967296) : ∃ L H, square a b = (L, H, 0) ∧ 0 ≤ L ∧ L ≤ H ∧ H ≤ 4294967296 := by
  obtain ⟨p0, pq, q1⟩ := abs_small h h1 h2
  unfold square
  rw [if_pos h]
  generalize (absS a b).1 = p at *
  generalize (absS a b).2.1 = q at *
  unfold mul
  rw [if_pos (by rw [ok_of (a := p) (b := q) (by omega) (by omega) pq]; rfl)]
  have a1 := mul_le_of p p 4294967296 4294967296 p0 p0 (by omega) (by omega)
  have a2 := mul_le_of p q 4294967296 4294967296 p0 (by omega) (by omega) (by omega)
  have a3 := mul_le_of q p 4294967296 4294967296 (by omega) p0 (by omega) (by omega)
  have a4 := mul_le_of q q 4294967296 4294967296 (by omega) (by omega) (by omega) (by omega)
  have b1 : 0 ≤ min4 (p * p) (p * q) (q * p) (q * q) := by unfold min4; omega
  have b2 : max4 (p * p) (p * q) (q * p) (q * q) ≤ 18446744073709551616 := by unfold max4; omega
  have b3 : min4 (p * p) (p * q) (q * p) (q * q) ≤ max4 (p * p) (p * q) (q * p) (q * q) := by unfold max4 min4; omega
  generalize min4 (p * p) (p * q) (q * p) (q * q) = m at *
  generalize max4 (p * p) (p * q) (q * p) (q * q) = M at *
  have c1 : 0 ≤ fl m 4294967296 ∧ fl m 4294967296 ≤ ce M 4294967296 ∧ ce M 4294967296 ≤ 4294967296 := by unfold fl ce; omega
  refine ⟨fl m 4294967296, ce M 4294967296, ?_, c1⟩
  unfold fit
  rw [if_pos (by omega)]
theorem fl_le {x y z : Int} (h : 0 < y) (h1 : z * y ≤ x) : z ≤ fl x y := (Int.le_ediv_iff_mul_le h).2 h1
theorem fl_ce {x y : Int} (h : 0 < y) : fl x y ≤ ce x y := by
  unfold fl ce
  have a := Int.ediv_mul_le x (show y ≠ 0 by omega)
  have b := Int.ediv_mul_le (-x) (show y ≠ 0 by omega)
  have : x / y * y + (-x) / y * y ≤ 0 * y := by omega
  rw [← Int.add_mul] at this
  have := Int.le_of_mul_le_mul_right this h
  omega
theorem ce_le {x y z : Int} (h : 0 < y) (h1 : x ≤ z * y) : ce x y ≤ z := by
  unfold ce
  have : -z ≤ (-x) / y := (Int.le_ediv_iff_mul_le h).2 (by rw [Int.neg_mul]; omega)
  omega
theorem quo_in {x y : Int} (h : 0 < y) : rin ((x : Rat) / y) (fl x y, ce x y) :=
  ⟨le_quo (fl_rat h) (Rat.intCast_pos.2 h), quo_le (ce_rat h) (Rat.intCast_pos.2 h)⟩
theorem circle (x : Int) : ((tc x : Int) : Rat) / (td x : Int) * (((tc x : Int) : Rat) / (td x : Int)) / 4294967296 + ((ts x : Int) : Rat) / (td x : Int) * (((ts x : Int) : Rat) / (td x : Int)) / 4294967296 = 4294967296 := by
  have h0 : (0 : Int) ≤ x * x := by
    rcases Int.le_total 0 x with h | h
    · exact Int.mul_nonneg h h
    · rw [← Int.neg_mul_neg]; exact Int.mul_nonneg (by omega) (by omega)
  have hd : ((td x : Int) : Rat) ≠ 0 := fun h => by have := Rat.intCast_eq_zero_iff.1 h; unfold td at this; omega
  have ed : ((td x : Int) : Rat) = 18446744073709551616 + (x : Rat) * x := by unfold td; rw [Rat.intCast_add, Rat.intCast_mul]; rfl
  have ec : ((tc x : Int) : Rat) = (18446744073709551616 - (x : Rat) * x) * 4294967296 := by unfold tc; rw [Rat.intCast_mul, Rat.intCast_sub, Rat.intCast_mul]; rfl
  have es : ((ts x : Int) : Rat) = (x : Rat) * 36893488147419103232 := by unfold ts; rw [Rat.intCast_mul]; rfl
  rw [ec, es]
  generalize ((td x : Int) : Rat) = D at *
  generalize (x : Rat) = X at *
  subst ed
  grind
theorem ts_bd {x : Int} (h : One1 x) : -4294967296 * td x ≤ ts x ∧ ts x ≤ 4294967296 * td x := by
  unfold td ts
  have e1 : (4294967296 - x) * (4294967296 - x) = 18446744073709551616 - 8589934592 * x + x * x := by rw [Int.sub_mul, Int.mul_sub, Int.mul_sub]; omega
  have e2 : (4294967296 + x) * (4294967296 + x) = 18446744073709551616 + 8589934592 * x + x * x := by rw [Int.add_mul, Int.mul_add, Int.mul_add]; omega
  obtain ⟨h1, h2⟩ := h
  have a1 := Int.mul_nonneg (show 0 ≤ 4294967296 - x by omega) (show 0 ≤ 4294967296 - x by omega)
  have a2 := Int.mul_nonneg (show 0 ≤ 4294967296 + x by omega) (show 0 ≤ 4294967296 + x by omega)
  omega
theorem tc_bd {x : Int} (h : One1 x) : 0 * td x ≤ tc x ∧ tc x ≤ 4294967296 * td x := by
  have := sq_bd h
  unfold td tc; omega
theorem neg_quo {x y : Int} : fl (-x) y = -ce x y ∧ ce (-x) y = -fl x y := by
  unfold fl ce
  constructor
  · omega
  · rw [Int.neg_neg]
theorem one_in {t : Int} (h : One1 t) : ∃ (cl ch sl sh : Int) (x y z : Int × Int), turn t t = ((cl, ch, 0), (sl, sh, 0), 0) ∧ turn (-t) (-t) = ((cl, ch, 0), (-sh, -sl, 0), 0) ∧ neg (-sh) (-sl) = (sl, sh, 0) ∧
    square cl ch = (x.1, x.2, 0) ∧ square sl sh = (y.1, y.2, 0) ∧ add x.1 x.2 y.1 y.2 = (z.1, z.2, 0) ∧ inS z.1 z.2 4294967296 = true ∧
    (∀ n ∈ [cl, ch, sl, sh, -sl, -sh, x.1, x.2, y.1, y.2], I64 n) := by
  obtain ⟨t1, t2⟩ := id h
  have hk : ok t t = true := ok_of (by omega) (by omega) (by omega)
  have hk' : ok (-t) (-t) = true := ok_of (by omega) (by omega) (by omega)
  obtain ⟨_, td0⟩ := tc_td h
  obtain ⟨c1, c2⟩ := tc_bd h
  obtain ⟨s1, s2⟩ := ts_bd h
  have ab : ∃ r, One1 r ∧ tc r = tc t ∧ td r = td t ∧ absS t t = (r, r, 0) ∧ absS (-t) (-t) = (r, r, 0) := by
    unfold absS
    rw [if_pos hk, if_pos hk']
    by_cases hc : 0 ≤ t
    · refine ⟨t, h, rfl, rfl, by rw [if_pos hc], ?_⟩
      by_cases hz : t = 0
      · subst hz; rfl
      · rw [if_neg (by omega), if_pos (by omega), Int.neg_neg]
    · refine ⟨-t, ⟨by omega, by omega⟩, by unfold tc; rw [Int.neg_mul_neg], by unfold td; rw [Int.neg_mul_neg], by rw [if_neg hc, if_pos (by omega)], by rw [if_pos (by omega)]⟩
  obtain ⟨r, _, r1, r2, r3, r4⟩ := ab
  have rC := quo_in (x := tc t) td0
  have rS := quo_in (x := ts t) td0
  have hX := circle t
  have tn : ts (-t) = -ts t := by unfold ts; omega
  have dn : td (-t) = td t := by unfold td; rw [Int.neg_mul_neg]
  have q1 := fl_le (z := 0) td0 c1
  have q2 := ce_le (z := 4294967296) td0 c2
  have q3 := fl_ce (x := tc t) td0
  have q4 := fl_le (z := -4294967296) td0 s1
  have q5 := ce_le (z := 4294967296) td0 s2
  have q6 := fl_ce (x := ts t) td0
  have e1 : turn t t = (fit (fl (tc t) (td t)) (ce (tc t) (td t)), fit (fl (ts t) (td t)) (ce (ts t) (td t)), 0) := by
    unfold turn; rw [if_pos hk, if_pos ⟨by omega, by omega⟩, r3, r1, r2]
  have e2 : turn (-t) (-t) = (fit (fl (tc t) (td t)) (ce (tc t) (td t)), fit (-ce (ts t) (td t)) (-fl (ts t) (td t)), 0) := by
    unfold turn; rw [if_pos hk', if_pos ⟨by omega, by omega⟩, r4, r1, r2, tn, dn, neg_quo.1, neg_quo.2]
  generalize fl (tc t) (td t) = cl at *
  generalize ce (tc t) (td t) = ch at *
  generalize fl (ts t) (td t) = sl at *
  generalize ce (ts t) (td t) = sh at *
  have kc : ok cl ch = true := ok_of (by omega) (by omega) (by omega)
  have ks : ok sl sh = true := ok_of (by omega) (by omega) (by omega)
  obtain ⟨xl, xh, x0, x1, x2, x3⟩ := sq_small kc (by omega) (by omega)
  obtain ⟨yl, yh, y0, y1, y2, y3⟩ := sq_small ks (by omega) (by omega)
  have vx := square_rin rC (by rw [x0])
  have vy := square_rin rS (by rw [y0])
  rw [x0] at vx
  rw [y0] at vy
  have ea : add xl xh yl yh = (xl + yl, xh + yh, 0) := by
    unfold add; rw [ok_of (a := xl) (b := xh) (by omega) (by omega) (by omega), ok_of (a := yl) (b := yh) (by omega) (by omega) (by omega), if_pos (by rfl)]
    unfold fit; rw [if_pos (by omega)]
  have vz := add_rin vx vy (by show (add xl xh yl yh).2.2 = 0; rw [ea])
  rw [hX] at vz
  have ez : lohi (add (lohi (xl, xh, 0)).1 (lohi (xl, xh, 0)).2 (lohi (yl, yh, 0)).1 (lohi (yl, yh, 0)).2) = (xl + yl, xh + yh) := by
    show lohi (add xl xh yl yh) = _; rw [ea]
  rw [ez] at vz
  obtain ⟨v1, v2⟩ := vz
  have v1' : xl + yl ≤ 4294967296 := Rat.intCast_le_intCast.1 v1
  have v2' : 4294967296 ≤ xh + yh := Rat.intCast_le_intCast.1 v2
  refine ⟨cl, ch, sl, sh, (xl, xh), (yl, yh), (xl + yl, xh + yh), ?_, ?_, ?_, x0, y0, ea, ?_, ?_⟩
  · rw [e1]; unfold fit; rw [if_pos (by omega), if_pos (by omega)]
  · rw [e2]; unfold fit; rw [if_pos (by omega), if_pos (by omega)]
  · unfold neg; rw [if_pos (ok_of (by omega) (by omega) (by omega)), Int.neg_neg, Int.neg_neg]
  · unfold inS; rw [ok_of (by omega) (by omega) (by omega), decide_eq_true v1', decide_eq_true v2']; rfl
  · intro n hn
    simp only [List.mem_cons, List.not_mem_nil, or_false] at hn
    unfold I64
    rcases hn with rfl | rfl | rfl | rfl | rfl | rfl | rfl | rfl | rfl | rfl <;> (try dsimp only) <;> omega
theorem turn_no {t : Int} (h : t < -4294967296 ∨ 4294967296 < t) : ((turn t t).2.2 = 4) ∨ (turn t t).2.2 = 2 := by
  unfold turn
  split
  · rw [if_neg (by omega)]; exact .inl rfl
  · exact .inr rfl
theorem walk_spanCircle {w : World} (t : Int) (ht : (Lit.int .i64 t).wf = true) :
    Calls Tryd.prog 7 #[.int .i64 t] w (Vc.Ret (.bool true) w) := by
  replace ht := wfI64 ht
  refine vc_ullagelaw01_SpanCircle t w _ ?_
  refine ⟨true, fun w' hw => alive_any w', ?_⟩
  intro n1 hn1 n2 hn2
  obtain rfl : n1 = n2 := by rw [hn1, hn2]
  by_cases h : One1 t
  · obtain ⟨cl, ch, sl, sh, x, y, z, e1, e2, e3, e4, e5, e6, e7, hi⟩ := one_in h
    obtain ⟨h1, h2⟩ := id h
    obtain rfl : n1 = -t := by rw [hn1]; simp only [Ul.i64_eq]; omega
    have i := fun n hn => hi n hn
    refine ⟨cl, ch, sl, sh, 0, fun w' hw => Ret.mono (pturn_any t t w' ht ht) (by rw [e1]), ?_⟩
    refine ⟨cl, ch, -sh, -sl, 0, fun w' hw => Ret.mono (pturn_any (-t) (-t) w' (by unfold I64; omega) (by unfold I64; omega)) (by rw [e2]), ?_⟩
    refine iteI (fun h => by omega) (fun _ => ?_)
    refine iteI (fun h => by omega) (fun _ => ?_)
    refine ⟨sl, sh, 0, fun w' hw => Ret.mono (pneg_any (-sh) (-sl) w' (hi _ (by simp)) (hi _ (by simp))) (by rw [e3]), ?_⟩
    refine ⟨x.1, x.2, 0, fun w' hw => Ret.mono (psquare_any cl ch w' (hi _ (by simp)) (hi _ (by simp))) (by rw [e4]), ?_⟩
    refine ⟨y.1, y.2, 0, fun w' hw => Ret.mono (psquare_any sl sh w' (hi _ (by simp)) (hi _ (by simp))) (by rw [e5]), ?_⟩
    refine ⟨z.1, z.2, 0, fun w' hw => Ret.mono (padd_any x.1 x.2 y.1 y.2 w' (hi _ (by simp)) (hi _ (by simp)) (hi _ (by simp)) (hi _ (by simp))) (by rw [e6]), ?_⟩
    refine iteI (fun _ => ?_) (fun h => absurd rfl h)
    refine iteI (fun _ => ?_) (fun h => absurd rfl h)
    refine iteI (fun _ => ?_) (fun h => absurd rfl h)
    refine iteI (fun _ => ?_) (fun h => absurd rfl h)
    refine iteI (fun _ => ?_) (fun h => absurd rfl h)
    refine iteI (fun _ => ?_) (fun h => absurd rfl h)
    refine iteI (fun _ => ?_) (fun h => absurd rfl h)
    refine iteI (fun _ => ?_) (fun h => absurd ⟨rfl, rfl⟩ h)
    refine iteI (fun _ => ?_) (fun h => absurd ⟨rfl, rfl⟩ h)
    exact ⟨_, fun w' hw => in_any z.1 z.2 4294967296 w', by rw [e7]⟩
  · have ho : t < -4294967296 ∨ 4294967296 < t := by unfold One1 at h; omega
    have hn : I64 n1 := by rw [hn1]; unfold I64; simp only [Ul.i64_eq]; omega
    refine ⟨_, _, _, _, _, fun w' hw => pturn_any t t w' ht ht, ?_⟩
    refine ⟨_, _, _, _, _, fun w' hw => pturn_any n1 n1 w' hn hn, ?_⟩
    have hr : ∀ v : Value, v = .bool true → (((turn t t).2.2 = 4 → (.bool true : Value) = v) ∧ (¬ (turn t t).2.2 = 4 → (.bool ((turn t t).2.2 == 2) : Value) = v)) := by
      rintro _ rfl
      refine ⟨fun _ => rfl, fun g => ?_⟩
      rw [(turn_no ho).resolve_left g]; rfl
    refine iteI (fun _ => iteI (fun _ => hr _ rfl) (fun h => absurd rfl h)) (fun g => ?_)
    exact iteI (fun _ => iteI (fun _ => hr _ rfl) (fun h => absurd rfl h)) (fun g' => by omega)
end Go.Proofs.YtndeppnboolfiaaDoor
