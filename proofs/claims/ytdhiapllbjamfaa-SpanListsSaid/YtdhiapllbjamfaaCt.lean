/- Contracts: absolute values; directions, both; the law SpanTurns. -/
import Derived.Test.YtdhiapllbjamfaaCj
import Derived.Test.YtdhiapllbjamfaaG4
set_option linter.unusedVariables false
set_option linter.unusedSimpArgs false
namespace Go.Proofs.Ytdhiapllbjamfaa
open Go Go.RowKit Ul Vc
attribute [local irreducible] Go.Calls

theorem divide_2 (n k : Bool) (m y : Int) (w : World) (h0 : 0 ≤ m) (h1 : m < 340282366920938463463374607431768211456) (y0 : 18446744073709551616 ≤ y) (y1 : y < 85070591730234615865843651857942052864) :
    Calls Try.prog 100 #[VB n m, VB k y] w (Vc.Ret (.tuple #[VB n (qdn n m y), VB n (qup n m y)]) w) := by
  refine vc_span_divide _ _ _ _ _ _ w _ ?_
  refine iteI (fun h => ?_) (fun _ => ?_)
  · unfold hiW at h; omega
  (repeat apply Exists.intro); refine And.intro (fun _ _ => slow_any _ _ _ _ _ h0 h1 y0 y1) ?_
  (repeat apply Exists.intro); refine And.intro (fun _ _ => zero_raw _ _ _ _) ?_
  have q2 := Int.ediv_nonneg h0 (show 0 ≤ y by omega)
  have q3 : m / y ≤ m := Int.ediv_le_self _ h0
  have ce1 := ce_eq m y h0 (by omega)
  have z1 : (hiW (m % y) == 0 && loW (m % y) == 0) = decide (m % y = 0) := by
    rw [Bool.eq_iff_iff]; simp only [Bool.and_eq_true, beq_iff_eq, decide_eq_true_eq]; unfold hiW loW; omega
  rw [z1]
  refine iteI (fun hz => ?_) (fun hz => ?_)
  · have hz : m % y = 0 := by simpa using hz
    rw [if_pos hz] at ce1
    refine iteI (fun hn => ?_) (fun hn => ?_)
    · rw [hn]; unfold qdn qup; rw [if_pos rfl, if_pos rfl, ce1]
    · have hn : n = false := by simpa using hn
      rw [hn]; unfold qdn qup; rw [if_neg (by decide), if_neg (by decide), ce1]
  · have hz : ¬ m % y = 0 := by simpa using hz
    rw [if_neg hz] at ce1
    have q4 : m / y + 1 < 340282366920938463463374607431768211456 := by
      have h5 : y * (m / y) + m % y = m := Int.mul_ediv_add_emod m y
      have h6 := Int.emod_nonneg m (show y ≠ 0 by omega)
      have h7 : 1 * (m / y) ≤ y * (m / y) := Int.mul_le_mul_of_nonneg_right (by omega) q2
      omega
    have p := plus_any false false (m / y) 1
    have pn : plN false (m / y) false 1 = false := rfl
    have pm : plM false (m / y) false 1 = m / y + 1 := rfl
    rw [pn, pm] at p
    (repeat apply Exists.intro); refine And.intro (fun _ _ => p _ ⟨q2, by omega⟩ ⟨by decide, by decide⟩ q4) ?_
    refine iteI (fun hn => ?_) (fun hn => ?_)
    · rw [hn]; unfold qdn qup; rw [if_pos rfl, if_pos rfl, ce1]
    · have hn : n = false := by simpa using hn
      rw [hn]; unfold qdn qup; rw [if_neg (by decide), if_neg (by decide), ce1]
theorem up65_B (n : Bool) (m : Int) (w : World) (h0 : 0 ≤ m) (h1 : m ≤ 4294967296) : Calls Try.prog 93 #[VB n m, .int .u64 65] w (Vc.Ret (VB n (m * 36893488147419103232)) w) := by
  refine vc__span_big__up_65 _ _ _ w _ ?_
  rintro x2 h2
  rw [Ul.u64_eq] at h2
  refine agg3' rfl ?_ ?_ <;> (try unfold hiW at *) <;> (try unfold loW at *) <;> omega
theorem pabs_any (a b : Int) (w : World) (ha : I64 a) (hb : I64 b) : Calls Try.prog 63 #[Vc.S a b] w (Vc.Ret (Vc.RV (absS a b)) w) := by
  refine vc_span_Abs _ _ w _ ?_
  (repeat apply Exists.intro); refine And.intro (fun _ _ => check_any _ _ _) ?_
  unfold absS
  refine iteI (fun h => ?_) (fun h => ?_)
  · have h := chk_ok h
    rw [if_pos h]
    refine iteI (fun c1 => ?_) (fun c1 => iteI (fun c2 => ?_) (fun c2 => ?_))
    · rw [if_pos c1]
    · rw [if_neg c1, if_pos c2]
      (repeat apply Exists.intro); refine And.intro (fun _ _ => pneg_any _ _ _ ha hb) ?_
      unfold neg; rw [if_pos h]
    · rw [if_neg c1, if_neg c2]
      intro x hx y hy
      refine rv ?_
      have := ok_true.1 h
      obtain ⟨a1, a2⟩ := ha
      rw [Ul.i64_eq] at hx
      simp only [Prod.mk.injEq, and_true, true_and]
      rw [hy]; split <;> omega
  · rw [if_neg (chk_no h).1]
theorem absS_bd {a b : Int} (ha : I64 a) (hb : I64 b) : I64 (absS a b).1 ∧ I64 (absS a b).2.1 := by
  unfold absS
  split
  · rename_i h; have := ok_true.1 h
    unfold I64 at *
    split
    · exact ⟨ha, hb⟩
    · split <;> dsimp only <;> omega
  · unfold I64; decide
theorem rabs_any (a b : Int) (w : World) (ha : I64 a) (hb : I64 b) : Calls Try.prog 64 #[Vc.S a b] w (Vc.Ret (Vc.RV (absS a b)) w) := by
  refine vc_ullageref01_Abs _ _ w _ ?_
  (repeat apply Exists.intro); refine And.intro (fun _ _ => rcheck_any _ _ _) ?_
  unfold absS
  refine iteI (fun h => ?_) (fun h => ?_)
  · have h := chk_ok h
    rw [if_pos h]
    refine iteI (fun c1 => ?_) (fun c1 => iteI (fun c2 => ?_) (fun c2 => ?_))
    · rw [if_pos c1]
    · rw [if_neg c1, if_pos c2]
      (repeat apply Exists.intro); refine And.intro (fun _ _ => rneg_any _ _ _ ha hb) ?_
      unfold neg; rw [if_pos h]
    · rw [if_neg c1, if_neg c2]
      intro x hx y hy
      refine rv ?_
      have := ok_true.1 h
      obtain ⟨a1, a2⟩ := ha
      rw [Ul.i64_eq] at hx
      simp only [Prod.mk.injEq, and_true, true_and]
      rw [hy]; split <;> omega
  · rw [if_neg (chk_no h).1]

/-- The directions of a point: both numerators, the denominator. -/
def tc (x : Int) : Int := (18446744073709551616 - x * x) * 4294967296
def td (x : Int) : Int := 18446744073709551616 + x * x
def ts (x : Int) : Int := x * 36893488147419103232
def One1 (x : Int) : Prop := -4294967296 ≤ x ∧ x ≤ 4294967296
theorem sq_bd {x : Int} (h : One1 x) : 0 ≤ x * x ∧ x * x ≤ 18446744073709551616 := by
  obtain ⟨h1, h2⟩ := h
  by_cases c : 0 ≤ x
  · exact mul_le_of x x 4294967296 4294967296 c c h2 h2
  · have := mul_le_of (-x) (-x) 4294967296 4294967296 (by omega) (by omega) (by omega) (by omega)
    rw [Int.neg_mul_neg] at this; exact this
theorem One1.i64 {x : Int} (h : One1 x) : I64 x := by obtain ⟨h1, h2⟩ := h; constructor <;> omega
theorem absI_sq (x : Int) : absI x * absI x = x * x := by
  have := absI_mul x x; simpa using this
theorem plus_top (n : Bool) (m : Int) (w : World) (h : P128 m) (h' : m ≤ 18446744073709551616) :
    Calls Try.prog 85 #[.agg #[.bool false, .int .u64 1, .int .u64 0], VB n m] w (Vc.Ret (VB (plN false 18446744073709551616 n m) (plM false 18446744073709551616 n m)) w) := by
  have := plus_any false n 18446744073709551616 m w ⟨by decide, by decide⟩ h (by omega)
  have e1 : hiW 18446744073709551616 = 1 := rfl
  have e2 : loW 18446744073709551616 = 0 := rfl
  unfold VB at this ⊢
  rw [e1, e2] at this
  exact this
theorem pturned_any (x : Int) (w : World) (hx : One1 x) :
    Calls Try.prog 97 #[.int .i64 x] w (Vc.Ret (.tuple #[VB false (qdn false (tc x) (td x)), VB false (qup false (tc x) (td x)), VB (decide (x < 0)) (qdn (decide (x < 0)) (absI x * 36893488147419103232) (td x)), VB (decide (x < 0)) (qup (decide (x < 0)) (absI x * 36893488147419103232) (td x))]) w) := by
  have s := sq_bd hx
  have xi := hx.i64
  have xa := absI_bd x xi.1 xi.2
  have xa2 : absI x ≤ 4294967296 := by obtain ⟨h1, h2⟩ := hx; unfold absI; split <;> omega
  refine vc_span_turned _ w _ ?_
  (repeat apply Exists.intro); refine And.intro (fun _ _ => ptimes_any _ _ _ xi xi) ?_
  rw [absI_sq, show (decide (x < 0) != decide (x < 0)) = false by simp]
  (repeat apply Exists.intro); refine And.intro (fun _ _ => plus_top _ _ _ ⟨s.1, by omega⟩ s.2) ?_
  (repeat apply Exists.intro); refine And.intro (fun _ _ => plus_top _ _ _ ⟨s.1, by omega⟩ s.2) ?_
  have e1 : plN false 18446744073709551616 false (x * x) = false := rfl
  have e2 : plM false 18446744073709551616 false (x * x) = td x := rfl
  have e3 : plN false 18446744073709551616 true (x * x) = false := by unfold plN; rw [if_neg (by decide), if_neg (by omega)]
  have e4 : plM false 18446744073709551616 true (x * x) = 18446744073709551616 - x * x := by unfold plM; rw [if_neg (by decide), if_neg (by omega)]
  rw [e1, e2, e3, e4]
  (repeat apply Exists.intro); refine And.intro (fun _ _ => up32_B _ _ _ (by omega) (by omega)) ?_
  (repeat apply Exists.intro); refine And.intro (fun _ _ => divide_2 _ _ _ (td x) _ (by omega) (by omega) (by unfold td; omega) (by unfold td; omega)) ?_
  (repeat apply Exists.intro); refine And.intro (fun _ _ => pof_any _ _ xi) ?_
  (repeat apply Exists.intro); refine And.intro (fun _ _ => up65_B _ _ _ xa.1 xa2) ?_
  (repeat apply Exists.intro); refine And.intro (fun _ _ => divide_2 _ _ _ (td x) _ (by omega) (by omega) (by unfold td; omega) (by unfold td; omega)) ?_
  rfl
theorem rturned_any (x : Int) (w : World) (hx : One1 x) :
    Calls Try.prog 98 #[.int .i64 x] w (Vc.Ret (.tuple #[VW (fl (tc x) (td x)), VW (ce (tc x) (td x)), VW (fl (ts x) (td x)), VW (ce (ts x) (td x))]) w) := by
  have s := sq_bd hx
  have xi := hx.i64
  obtain ⟨x1, x2⟩ := hx
  refine vc_ullageref01_turned _ w _ ?_
  (repeat apply Exists.intro); refine And.intro (fun _ _ => times_raw _ _ _ xi.1 xi.2 xi.1 xi.2) ?_
  (repeat apply Exists.intro); refine And.intro (fun _ _ => times_raw _ _ _ (by decide) (by decide) (by decide) (by decide)) ?_
  rw [show (4294967296 : Int) * 4294967296 = 18446744073709551616 from rfl]
  (repeat apply Exists.intro); refine And.intro (fun _ _ => plus_W _ _ _ ⟨by omega, by omega⟩) ?_
  (repeat apply Exists.intro); refine And.intro (fun _ _ => minus_W _ _ ⟨by omega, by omega⟩ ⟨by omega, by omega⟩) ?_
  (repeat apply Exists.intro); refine And.intro (fun _ _ => plus_W _ _ _ ⟨by omega, by omega⟩) ?_
  (repeat apply Exists.intro); refine And.intro (fun _ _ => up32_W _ _ (by omega) (by omega)) ?_
  (repeat apply Exists.intro); refine And.intro (fun _ _ => wide_W _ _ xi.1 xi.2) ?_
  (repeat apply Exists.intro); refine And.intro (fun _ _ => up65_W _ _ (by omega) (by omega)) ?_
  (repeat apply Exists.intro); refine And.intro (fun _ _ => rfloor_W _ _ _ (by omega) (by omega) (by omega) (by omega)) ?_
  (repeat apply Exists.intro); refine And.intro (fun _ _ => rceil_W _ _ _ (by omega) (by omega) (by omega) (by omega)) ?_
  (repeat apply Exists.intro); refine And.intro (fun _ _ => rfloor_W _ _ _ (by omega) (by omega) (by omega) (by omega)) ?_
  (repeat apply Exists.intro); refine And.intro (fun _ _ => rceil_W _ _ _ (by omega) (by omega) (by omega) (by omega)) ?_
  rfl
/-- The directions of a span. -/
def turn (a b : Int) : R × R × Int :=
  if ok a b then
    if -4294967296 ≤ a ∧ b ≤ 4294967296 then
      (fit (fl (tc (absS a b).2.1) (td (absS a b).2.1)) (ce (tc (absS a b).1) (td (absS a b).1)), fit (fl (ts a) (td a)) (ce (ts b) (td b)), 0)
    else ((0, 0, 0), (0, 0, 0), 4)
  else ((0, 0, 0), (0, 0, 0), 2)
theorem turn_in {a b : Int} (h : ok a b = true) (h1 : -4294967296 ≤ a) (h2 : b ≤ 4294967296) : One1 a ∧ One1 b ∧ One1 (absS a b).1 ∧ One1 (absS a b).2.1 := by
  have := ok_true.1 h
  unfold absS One1
  rw [if_pos h]
  split
  · dsimp only; omega
  · split <;> dsimp only <;> omega
theorem sv_ts (x : Int) : sv (decide (x < 0)) (absI x * 36893488147419103232) = ts x := by
  unfold sv absI ts; by_cases h : x < 0 <;> simp [h]; omega
theorem tc_td {x : Int} (h : One1 x) : 0 ≤ tc x ∧ 0 < td x := by
  have := sq_bd h; unfold tc td; omega
theorem pturn_any (a b : Int) (w : World) (ha : I64 a) (hb : I64 b) : Calls Try.prog 49 #[Vc.S a b] w (Vc.Ret (Vc.RRV (turn a b).1 (turn a b).2.1 (turn a b).2.2) w) := by
  refine vc_span_Turn _ _ w _ ?_
  (repeat apply Exists.intro); refine And.intro (fun _ _ => check_any _ _ _) ?_
  unfold turn
  refine iteI (fun h => ?_) (fun h => ?_)
  · have h := chk_ok h
    rw [if_pos h]
    (repeat apply Exists.intro); refine And.intro (fun _ _ => within_any _ _ _ _ _) ?_
    refine iteI (fun c => ?_) (fun c => ?_)
    · unfold within at c
      simp only [Bool.and_eq_true, decide_eq_true_eq] at c
      obtain ⟨⟨⟨_, _⟩, c1⟩, c2⟩ := c
      rw [if_pos ⟨c1, c2⟩]
      obtain ⟨o1, o2, o3, o4⟩ := turn_in h c1 c2
      (repeat apply Exists.intro); refine And.intro (fun _ _ => pabs_any _ _ _ ha hb) ?_
      generalize (absS a b).1 = lo at *
      generalize (absS a b).2.1 = hi at *
      (repeat apply Exists.intro); refine And.intro (fun _ _ => pturned_any _ _ o3) ?_
      (repeat apply Exists.intro); refine And.intro (fun _ _ => pturned_any _ _ o4) ?_
      (repeat apply Exists.intro); refine And.intro (fun _ _ => pturned_any _ _ o1) ?_
      (repeat apply Exists.intro); refine And.intro (fun _ _ => pturned_any _ _ o2) ?_
      have xa := absI_bd a ha.1 ha.2
      have xb := absI_bd b hb.1 hb.2
      (repeat apply Exists.intro); refine And.intro (fun _ _ => fit_any _ _ _ _ _ (qdn_0 _ _ _ (tc_td o4).1 (tc_td o4).2).1 (qdn_0 _ _ _ (tc_td o3).1 (tc_td o3).2).2.1) ?_
      (repeat apply Exists.intro); refine And.intro (fun _ _ => fit_any _ _ _ _ _ (qdn_0 _ _ _ (by omega) (tc_td o1).2).1 (qdn_0 _ _ _ (by omega) (tc_td o2).2).2.1) ?_
      rw [(q_sv _ _ _).1, (q_sv _ _ _).2, (q_sv _ _ _).1, (q_sv _ _ _).2, sv_ts, sv_ts]
      rfl
    · have c : ¬ (-4294967296 ≤ a ∧ b ≤ 4294967296) := by
        intro k; apply c; unfold within; rw [h]; simp [k.1, k.2]; decide
      rw [if_neg c]
  · rw [if_neg (chk_no h).1, (chk_no h).2]
theorem fc_bd (x y : Int) (h1 : -170141183460469231731687303715884105728 < x) (h2 : x < 170141183460469231731687303715884105727) (hy : 0 < y) : P127 (fl x y) ∧ P127 (ce x y) := by
  by_cases hx : x < 0
  · obtain ⟨q0, q1, q2⟩ := quo_neg x y (by omega) hx hy
    have ev := quo_neg_val x y hy
    rw [ev.1, ev.2]
    refine ⟨?_, ⟨by omega, by omega⟩⟩
    split
    · exact ⟨by omega, by omega⟩
    · rename_i h; have := q2 h; exact ⟨by omega, by omega⟩
  · obtain ⟨q0, q1, q2⟩ := quo_pos x y (by omega) hy
    have ev := quo_pos_val x y (by omega) hy
    rw [ev.1, ev.2]
    refine ⟨⟨by omega, by omega⟩, ?_⟩
    split
    · exact ⟨by omega, by omega⟩
    · rename_i h; have := q2 h; exact ⟨by omega, by omega⟩
theorem tcs_bd {x : Int} (h : One1 x) : P127 (fl (tc x) (td x)) ∧ P127 (ce (tc x) (td x)) ∧ P127 (fl (ts x) (td x)) ∧ P127 (ce (ts x) (td x)) := by
  have s := sq_bd h
  have d := (tc_td h).2
  obtain ⟨h1, h2⟩ := h
  have a := fc_bd (tc x) (td x) (by unfold tc; omega) (by unfold tc; omega) d
  have b := fc_bd (ts x) (td x) (by unfold ts; omega) (by unfold ts; omega) d
  exact ⟨a.1, a.2, b.1, b.2⟩
theorem rturn_any (a b : Int) (w : World) (ha : I64 a) (hb : I64 b) : Calls Try.prog 50 #[Vc.S a b] w (Vc.Ret (Vc.RRV (turn a b).1 (turn a b).2.1 (turn a b).2.2) w) := by
  refine vc_ullageref01_Turn _ _ w _ ?_
  (repeat apply Exists.intro); refine And.intro (fun _ _ => rcheck_any _ _ _) ?_
  unfold turn
  refine iteI (fun h => ?_) (fun h => ?_)
  · have h := chk_ok h
    rw [if_pos h]
    refine iteI (fun c1 => ?_) (fun c1 => iteI (fun c2 => ?_) (fun c2 => ?_))
    · rw [if_neg (by omega)]
    · rw [if_neg (by omega)]
    · rw [if_pos (by omega)]
      obtain ⟨o1, o2, o3, o4⟩ := turn_in h (by omega) (by omega)
      (repeat apply Exists.intro); refine And.intro (fun _ _ => rabs_any _ _ _ ha hb) ?_
      generalize (absS a b).1 = lo at *
      generalize (absS a b).2.1 = hi at *
      (repeat apply Exists.intro); refine And.intro (fun _ _ => rturned_any _ _ o3) ?_
      (repeat apply Exists.intro); refine And.intro (fun _ _ => rturned_any _ _ o4) ?_
      (repeat apply Exists.intro); refine And.intro (fun _ _ => rturned_any _ _ o1) ?_
      (repeat apply Exists.intro); refine And.intro (fun _ _ => rturned_any _ _ o2) ?_
      (repeat apply Exists.intro); refine And.intro (fun _ _ => out_any _ _ _ (tcs_bd o4).1 (tcs_bd o3).2.1) ?_
      (repeat apply Exists.intro); refine And.intro (fun _ _ => out_any _ _ _ (tcs_bd o1).2.2.1 (tcs_bd o2).2.2.2) ?_
      rfl
  · rw [if_neg (chk_no h).1]
theorem walk_spanTurns (a b : Int) (ha : (Lit.int .i64 a).wf = true) (hb : (Lit.int .i64 b).wf = true) (w : World) :
    Calls Try.prog 7 #[Vc.S a b] w (Vc.Ret (.bool true) w) := by
  replace ha := wf64 ha; replace hb := wf64 hb
  refine vc_ullagelaw01_SpanTurns _ _ w _ ?_
  (repeat apply Exists.intro); refine And.intro (fun _ _ => pturn_any _ _ _ ha hb) ?_
  (repeat apply Exists.intro); refine And.intro (fun _ _ => rturn_any _ _ _ ha hb) ?_
  (repeat' (first | (intro _ hx) | ((repeat apply Exists.intro); first | refine And.intro (fun _ _ => same_eq _ _ _ _) ?_) | (refine Vc.iteI (fun h => ?_) (fun h => ?_)) | (refine And.intro (by omega) ?_)))
  all_goals simp_all
end Go.Proofs.Ytdhiapllbjamfaa
