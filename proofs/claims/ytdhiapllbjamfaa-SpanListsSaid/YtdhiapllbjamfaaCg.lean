/- Contracts: the program's hulls of products; multiples of a span, both; the law SpanSums. -/
import Derived.Test.YtdhiapllbjamfaaCf
set_option linter.unusedVariables false
set_option linter.unusedSimpArgs false
namespace Go.Proofs.Ytdhiapllbjamfaa
open Go Go.RowKit Ul Vc
attribute [local irreducible] Go.Calls

theorem mul64_any (x y : Int) (w : World) (hx0 : 0 ≤ x) (hx : x ≤ 18446744073709551615) (hy0 : 0 ≤ y) (hy : y ≤ 18446744073709551615) :
    Calls Try.prog 128 #[.int .u64 x, .int .u64 y] w (Vc.Ret (.tuple #[.int .u64 (hiW (x * y)), .int .u64 (loW (x * y))]) w) := by
  have p0 := mul_le_of (x % 4294967296) (y % 4294967296) 4294967295 4294967295 (by omega) (by omega) (by omega) (by omega)
  have p1 := mul_le_of (x / 4294967296) (y % 4294967296) 4294967295 4294967295 (by omega) (by omega) (by omega) (by omega)
  have p2 := mul_le_of (x % 4294967296) (y / 4294967296) 4294967295 4294967295 (by omega) (by omega) (by omega) (by omega)
  have p3 := mul_le_of (x / 4294967296) (y / 4294967296) 4294967295 4294967295 (by omega) (by omega) (by omega) (by omega)
  have E := halves x y
  refine vc_math_bits_Mul64 _ _ w _ ?_
  rintro _ rfl _ rfl _ rfl _ rfl
  rw [maskI x hx0 hx, maskI y hy0 hy]
  intro x6 h6 x7 h7 x8 h8 x9 h9
  generalize x % 4294967296 * (y % 4294967296) = p00 at *
  generalize x / 4294967296 * (y % 4294967296) = p10 at *
  generalize x % 4294967296 * (y / 4294967296) = p01 at *
  generalize x / 4294967296 * (y / 4294967296) = p11 at *
  generalize x * y = xy at *
  simp only [Ul.u64_eq] at h6 h7 h9
  rw [maskI x9 (by omega) (by omega)]
  intro x10 h10 x11 h11 x12 h12 x13 h13 x14 h14 x15 h15 x16 h16 x17 h17 x18 h18
  simp only [Ul.u64_eq] at h12 h13 h14 h15 h17 h18
  have e1 : x17 = hiW xy := by unfold hiW; omega
  have e2 : x18 = loW xy := by unfold loW; omega
  rw [e1, e2]
theorem ptimes_any (a b : Int) (w : World) (ha : I64 a) (hb : I64 b) :
    Calls Try.prog 89 #[.int .i64 a, .int .i64 b] w (Vc.Ret (VB (decide (a < 0) != decide (b < 0)) (absI a * absI b)) w) := by
  have xa := absI_bd a ha.1 ha.2
  have xb := absI_bd b hb.1 hb.2
  refine vc_span_times _ _ w _ ?_
  (repeat apply Exists.intro); refine And.intro (fun _ _ => psize_any _ _ ha) ?_
  (repeat apply Exists.intro); refine And.intro (fun _ _ => psize_any _ _ hb) ?_
  (repeat apply Exists.intro); refine And.intro (fun _ _ => mul64_any _ _ _ (by omega) (by omega) (by omega) (by omega)) ?_
  rfl
theorem absI_mul_bd {a b : Int} (ha : I64 a) (hb : I64 b) : 0 ≤ absI a * absI b ∧ absI a * absI b ≤ 85070591730234615865843651857942052864 := by
  have xa := absI_bd a ha.1 ha.2
  have xb := absI_bd b hb.1 hb.2
  exact mul_le_of _ _ 9223372036854775808 9223372036854775808 xa.1 xb.1 xa.2 xb.2
/-- Is a number with a sign below another one? -/
theorem less_raw (n1 n2 : Bool) (m1 m2 : Int) (w : World) (h1 : 0 ≤ m1) (h2 : 0 ≤ m2) :
    Calls Try.prog 127 #[VB n1 m1, VB n2 m2] w (Vc.Ret (.bool (decide (sv n1 m1 < sv n2 m2))) w) := by
  have l1 := lo_bd m1; have l2 := lo_bd m2
  have z1 : (hiW m1 == 0 && loW m1 == 0) = decide (m1 = 0) := by
    rw [Bool.eq_iff_iff]; simp only [Bool.and_eq_true, beq_iff_eq, decide_eq_true_eq]; unfold hiW loW; omega
  have z2 : (hiW m2 == 0 && loW m2 == 0) = decide (m2 = 0) := by
    rw [Bool.eq_iff_iff]; simp only [Bool.and_eq_true, beq_iff_eq, decide_eq_true_eq]; unfold hiW loW; omega
  have s12 := size_lt m1 m2
  have s21 := size_lt m2 m1
  have b1 := below_raw n1 (hiW m1) (loW m1)
  have b2 := below_raw n2 (hiW m2) (loW m2)
  rw [z1] at b1; rw [z2] at b2
  refine vc_span_less _ _ _ _ _ _ w _ ?_
  (repeat apply Exists.intro); refine And.intro (fun _ _ => b1 _) ?_
  (repeat apply Exists.intro); refine And.intro (fun _ _ => b2 _) ?_
  refine iteI (fun h => ?_) (fun h => ?_)
  · (repeat apply Exists.intro); refine And.intro (fun _ _ => b1 _) ?_
    unfold sv
    refine iteI (fun g => ?_) (fun g => ?_)
    · have e2 := h.1 g
      simp only [Bool.and_eq_true, Bool.not_eq_true', decide_eq_false_iff_not] at g e2
      rw [if_pos g.1, if_pos e2.1]
      refine iteI (fun c1 => ?_) (fun c1 => iteI (fun c2 => ?_) (fun c2 => ?_))
      all_goals (refine bool1 ?_; rw [Bool.eq_iff_iff]; simp only [decide_eq_true_eq, true_iff, Bool.false_eq_true, false_iff]; omega)
    · have e2 := mt h.2 g
      have p1 : sv n1 m1 = m1 := by unfold sv; cases n1 <;> simp_all
      have p2 : sv n2 m2 = m2 := by unfold sv; cases n2 <;> simp_all
      unfold sv at p1 p2
      rw [p1, p2]
      refine iteI (fun c1 => ?_) (fun c1 => iteI (fun c2 => ?_) (fun c2 => ?_))
      all_goals (refine bool1 ?_; rw [Bool.eq_iff_iff]; simp only [decide_eq_true_eq, true_iff, Bool.false_eq_true, false_iff]; omega)
  · (repeat apply Exists.intro); refine And.intro (fun _ _ => b1 _) ?_
    refine bool1 ?_
    rw [Bool.eq_iff_iff]
    unfold sv
    cases n1 <;> cases n2 <;> simp at h ⊢ <;> omega

/-- A number with a sign. -/
abbrev VP (p : Bool × Int) : Value := VB p.1 p.2
def svp (p : Bool × Int) : Int := sv p.1 p.2
def bmin (p q : Bool × Int) : Bool × Int := if svp q < svp p then q else p
def bmax (p q : Bool × Int) : Bool × Int := if svp p < svp q then q else p
theorem svp_bmin (p q : Bool × Int) : svp (bmin p q) = min (svp p) (svp q) := by unfold bmin; split <;> omega
theorem svp_bmax (p q : Bool × Int) : svp (bmax p q) = max (svp p) (svp q) := by unfold bmax; split <;> omega
theorem bmin_bd {p q : Bool × Int} {B : Int} (hp : 0 ≤ p.2 ∧ p.2 ≤ B) (hq : 0 ≤ q.2 ∧ q.2 ≤ B) : 0 ≤ (bmin p q).2 ∧ (bmin p q).2 ≤ B := by unfold bmin; split <;> assumption
theorem bmax_bd {p q : Bool × Int} {B : Int} (hp : 0 ≤ p.2 ∧ p.2 ≤ B) (hq : 0 ≤ q.2 ∧ q.2 ≤ B) : 0 ≤ (bmax p q).2 ∧ (bmax p q).2 ≤ B := by unfold bmax; split <;> assumption
theorem less_any (p q : Bool × Int) (w : World) (hp : 0 ≤ p.2) (hq : 0 ≤ q.2) :
    Calls Try.prog 127 #[VP p, VP q] w (Vc.Ret (.bool (decide (svp p < svp q))) w) := less_raw _ _ _ _ w hp hq
theorem hull2 {b : Nat} {p q : Bool × Int} {t : TypeId} {w : World} (hp : 0 ≤ p.2) (hq : 0 ≤ q.2)
    (h : w.heap[b]? = some (.cells #[.bool p.1, .int .u64 (hiW p.2), .int .u64 (loW p.2), .bool q.1, .int .u64 (hiW q.2), .int .u64 (loW q.2)] t)) :
    Calls Try.prog 88 #[.slice (some ⟨b, 0, none⟩) 2 2] w (Vc.Ret (.tuple #[VP (bmin p q), VP (bmax p q)]) w) := by
  refine vc_span_hull_2 (b, 0) w _ ?_
  refine ⟨p.1, by simp [World.cell?, h], hiW p.2, by simp [World.cell?, h], loW p.2, by simp [World.cell?, h], p.1, by simp [World.cell?, h], hiW p.2, by simp [World.cell?, h], loW p.2, by simp [World.cell?, h],
    q.1, by simp [World.cell?, h], hiW q.2, by simp [World.cell?, h], loW q.2, by simp [World.cell?, h], ?_⟩
  (repeat apply Exists.intro); refine And.intro (fun _ _ => less_any q p _ hq hp) ?_
  refine iteI (fun c1 => ?_) (fun c1 => ?_)
  all_goals
    (repeat apply Exists.intro); refine And.intro (fun _ _ => less_any p q _ hp hq) ?_
    refine iteI (fun c2 => ?_) (fun c2 => ?_)
    all_goals (simp only [decide_eq_true_eq] at c1 c2; unfold bmin bmax)
  · omega
  · rw [if_pos c1, if_neg c2]
  · rw [if_neg c1, if_pos c2]
  · rw [if_neg c1, if_neg c2]
theorem pscale_any (a b n : Int) (w : World) (ha : I64 a) (hb : I64 b) (hn : I64 n) : Calls Try.prog 39 #[Vc.S a b, .int .i64 n] w (Vc.Ret (Vc.RV (scale a b n)) w) := by
  refine vc_span_Scale _ _ _ w _ ?_
  (repeat apply Exists.intro); refine And.intro (fun _ _ => check_any _ _ _) ?_
  refine iteI (fun h => ?_) (fun h => ?_)
  · have d1 := absI_mul_bd ha hn
    have d2 := absI_mul_bd hb hn
    (repeat apply Exists.intro); refine And.intro (fun _ _ => ptimes_any _ _ _ ha hn) ?_
    (repeat apply Exists.intro); refine And.intro (fun _ _ => ptimes_any _ _ _ hb hn) ?_
    refine ⟨_, _, _, _, _, _, fun _ _ _ hm => hull2 (p := (decide (a < 0) != decide (n < 0), absI a * absI n)) (q := (decide (b < 0) != decide (n < 0), absI b * absI n)) d1.1 d2.1 hm.1.2, ?_⟩
    (repeat apply Exists.intro); refine And.intro (fun _ _ => fit_any _ _ _ _ _ (bmin_bd d1 d2).1 (bmax_bd d1 d2).1) ?_
    have e1 := svp_bmin (decide (a < 0) != decide (n < 0), absI a * absI n) (decide (b < 0) != decide (n < 0), absI b * absI n)
    have e2 := svp_bmax (decide (a < 0) != decide (n < 0), absI a * absI n) (decide (b < 0) != decide (n < 0), absI b * absI n)
    unfold svp at e1 e2
    rw [e1, e2, sv_mul, sv_mul]
    unfold scale
    rw [if_pos (chk_ok h)]
  · unfold scale; rw [if_neg (chk_no h).1, (chk_no h).2]
theorem mul_P {a b : Int} (ha : I64 a) (hb : I64 b) : -85070591730234615865843651857942052864 ≤ a * b ∧ a * b ≤ 85070591730234615865843651857942052864 := by
  have h := absI_mul_bd ha hb
  have e := absI_mul a b
  split at e <;> omega
theorem mul_P127 {a b : Int} (ha : I64 a) (hb : I64 b) : P127 (a * b) := by
  have h := mul_P ha hb
  constructor <;> omega
theorem rscale_any (a b n : Int) (w : World) (ha : I64 a) (hb : I64 b) (hn : I64 n) : Calls Try.prog 40 #[Vc.S a b, .int .i64 n] w (Vc.Ret (Vc.RV (scale a b n)) w) := by
  refine vc_ullageref01_Scale _ _ _ w _ ?_
  (repeat apply Exists.intro); refine And.intro (fun _ _ => rcheck_any _ _ _) ?_
  refine iteI (fun h => ?_) (fun h => ?_)
  · (repeat apply Exists.intro); refine And.intro (fun _ _ => times_raw _ _ _ ha.1 ha.2 hn.1 hn.2) ?_
    (repeat apply Exists.intro); refine And.intro (fun _ _ => times_raw _ _ _ hb.1 hb.2 hn.1 hn.2) ?_
    (repeat apply Exists.intro); refine And.intro (fun _ _ => less_W _ _ _) ?_
    unfold scale
    rw [if_pos (chk_ok h)]
    refine iteI (fun c => ?_) (fun c => ?_)
    · simp only [decide_eq_true_eq] at c
      (repeat apply Exists.intro); refine And.intro (fun _ _ => out_any _ _ _ (mul_P127 hb hn) (mul_P127 ha hn)) ?_
      rw [show min (a * n) (b * n) = b * n by omega, show max (a * n) (b * n) = a * n by omega]
    · simp only [decide_eq_true_eq] at c
      (repeat apply Exists.intro); refine And.intro (fun _ _ => out_any _ _ _ (mul_P127 ha hn) (mul_P127 hb hn)) ?_
      rw [show min (a * n) (b * n) = a * n by omega, show max (a * n) (b * n) = b * n by omega]
  · unfold scale; rw [if_neg (chk_no h).1]
theorem walk_spanSums (a b : Int) (ha : (Lit.int .i64 a).wf = true) (hb : (Lit.int .i64 b).wf = true) (c d : Int) (hc : (Lit.int .i64 c).wf = true) (hd : (Lit.int .i64 d).wf = true) (n : Int) (hn : (Lit.int .i64 n).wf = true) (w : World) :
    Calls Try.prog 5 #[Vc.S a b, Vc.S c d, .int .i64 n] w (Vc.Ret (.bool true) w) := by
  replace ha := wf64 ha; replace hb := wf64 hb; replace hc := wf64 hc; replace hd := wf64 hd; replace hn := wf64 hn
  refine vc_ullagelaw01_SpanSums _ _ _ _ _ w _ ?_
  (repeat apply Exists.intro); refine And.intro (fun _ _ => padd_any _ _ _ _ _ ha hb hc hd) ?_
  (repeat apply Exists.intro); refine And.intro (fun _ _ => radd_any _ _ _ _ _ ha hb hc hd) ?_
  (repeat apply Exists.intro); refine And.intro (fun _ _ => psub_any _ _ _ _ _ ha hb hc hd) ?_
  (repeat apply Exists.intro); refine And.intro (fun _ _ => rsub_any _ _ _ _ _ ha hb hc hd) ?_
  (repeat apply Exists.intro); refine And.intro (fun _ _ => pneg_any _ _ _ ha hb) ?_
  (repeat apply Exists.intro); refine And.intro (fun _ _ => rneg_any _ _ _ ha hb) ?_
  (repeat apply Exists.intro); refine And.intro (fun _ _ => pscale_any _ _ _ _ ha hb hn) ?_
  (repeat apply Exists.intro); refine And.intro (fun _ _ => rscale_any _ _ _ _ ha hb hn) ?_
  (repeat' (first | (intro _ hx) | ((repeat apply Exists.intro); first | refine And.intro (fun _ _ => same_eq _ _ _ _) ?_) | (refine Vc.iteI (fun h => ?_) (fun h => ?_)) | (refine And.intro (by omega) ?_)))
  all_goals simp_all
end Go.Proofs.Ytdhiapllbjamfaa
