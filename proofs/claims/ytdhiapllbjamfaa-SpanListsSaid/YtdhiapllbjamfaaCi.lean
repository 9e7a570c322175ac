/- Contracts: quotients of integers, both; points; the law SpanMakes. -/
import Derived.Test.YtdhiapllbjamfaaCh
set_option linter.unusedVariables false
set_option linter.unusedSimpArgs false
namespace Go.Proofs.Ytdhiapllbjamfaa
open Go Go.RowKit Ul Vc
attribute [local irreducible] Go.Calls

theorem up32_raw (n : Bool) (h l : Int) (w : World) (h0 : 0 ≤ h) (h1 : h < 4294967296) (l0 : 0 ≤ l) (l1 : l ≤ 18446744073709551615) :
    Calls Try.prog 93 #[.agg #[.bool n, .int .u64 h, .int .u64 l], .int .u64 32] w (Vc.Ret (.agg #[.bool n, .int .u64 (h * 4294967296 + l / 4294967296), .int .u64 (l * 4294967296 % 18446744073709551616)]) w) := by
  refine vc__span_big__up_32 _ _ _ w _ ?_
  rintro x2 h2 x3 h3 x4 h4 x5 h5
  have e2 : x2 = h * 2 ^ 32 := by rw [h2, Ul.u64_eq]; omega
  have e4 : x4 = x2 + x3 := by rw [h4]; exact or_add _ _ 32 (by decide) h e2 h0 (by omega) (by omega) (by omega)
  refine agg3' rfl ?_ ?_
  · rw [e4, e2, h3]; omega
  · rw [h5, Ul.u64_eq]
theorem up32_B (n : Bool) (m : Int) (w : World) (h0 : 0 ≤ m) (h1 : m < 79228162514264337593543950336) : Calls Try.prog 93 #[VB n m, .int .u64 32] w (Vc.Ret (VB n (m * 4294967296)) w) := by
  refine Vc.Ret.as (up32_raw n _ _ w (by unfold hiW; omega) (by unfold hiW; omega) (lo_bd m).1 (lo_bd m).2) (agg3' rfl ?_ ?_) <;> (try unfold hiW) <;> (try unfold loW) <;> omega
/-- A quotient with a sign, rounded down and up: sizes. -/
def qdn (n : Bool) (m y : Int) : Int := if n then -((-m) / y) else m / y
def qup (n : Bool) (m y : Int) : Int := if n then m / y else -((-m) / y)
theorem ce_eq (m y : Int) (h0 : 0 ≤ m) (y0 : 0 < y) : -((-m) / y) = if m % y = 0 then m / y else m / y + 1 := (quo_pos_val m y h0 y0).2
theorem q_sv (n : Bool) (m y : Int) : sv n (qdn n m y) = fl (sv n m) y ∧ sv n (qup n m y) = ce (sv n m) y := by
  unfold sv qdn qup fl ce
  cases n <;> simp
theorem divide_1 (n k : Bool) (m y : Int) (w : World) (h0 : 0 ≤ m) (h1 : m < 340282366920938463463374607431768211456) (y0 : 0 < y) (y1 : y ≤ 18446744073709551615) :
    Calls Try.prog 100 #[VB n m, .agg #[.bool k, .int .u64 0, .int .u64 y]] w (Vc.Ret (.tuple #[VB n (qdn n m y), VB n (qup n m y)]) w) := by
  have hl := lo_bd m
  have hh := hi_u m ⟨h0, h1⟩
  refine vc_span_divide _ _ _ _ _ _ w _ ?_
  refine iteI (fun _ => ?_) (fun h => absurd rfl h)
  refine ⟨by omega, ?_⟩
  intro a ha
  refine ⟨by omega, ?_⟩
  intro b hb
  have q0 : 0 ≤ hiW m / y := Int.ediv_nonneg hh.1 (by omega)
  have q1 : hiW m / y ≤ hiW m := Int.ediv_le_self _ hh.1
  have r0 := Int.emod_nonneg (hiW m) (show y ≠ 0 by omega)
  have r1 := Int.emod_lt_of_pos (hiW m) y0
  have ea : a = hiW m / y := by rw [ha, Int.tdiv_eq_ediv_of_nonneg hh.1, Ul.u64_eq]; omega
  have eb : b = hiW m % y := by rw [hb, Int.tmod_eq_emod_of_nonneg hh.1]
  subst ea eb
  clear ha hb
  (repeat apply Exists.intro); refine And.intro (fun _ _ => div64_any _ _ _ _ r0 r1 y1 hl.1 hl.2) ?_
  have em : m = hiW m * 18446744073709551616 + loW m := (val_W m).symm
  have dm := Int.mul_ediv_add_emod (hiW m) y
  have eN : m = (hiW m % y * 18446744073709551616 + loW m) + y * (hiW m / y * 18446744073709551616) := by
    rw [← Int.mul_assoc]; omega
  have e1 : m / y = (hiW m % y * 18446744073709551616 + loW m) / y + hiW m / y * 18446744073709551616 := by
    conv => lhs; rw [eN]
    exact Int.add_mul_ediv_left _ _ (by omega)
  have e2 : m % y = (hiW m % y * 18446744073709551616 + loW m) % y := by
    conv => lhs; rw [eN]
    exact Int.add_mul_emod_self_left _ _ _
  have lo0 : 0 ≤ (hiW m % y * 18446744073709551616 + loW m) / y := Int.ediv_nonneg (by omega) (by omega)
  have lo1 : (hiW m % y * 18446744073709551616 + loW m) / y < 18446744073709551616 := by
    rw [Int.ediv_lt_iff_lt_mul y0]; omega
  have rr0 := Int.emod_nonneg (hiW m % y * 18446744073709551616 + loW m) (show y ≠ 0 by omega)
  have eh : hiW (m / y) = hiW m / y := by unfold hiW at *; omega
  have el : loW (m / y) = (hiW m % y * 18446744073709551616 + loW m) / y := by rw [e1]; generalize (hiW m % y * 18446744073709551616 + loW m) / y = L at *; generalize hiW m / y = H at *; unfold loW; omega
  rw [← el, ← eh, ← e2]
  (repeat apply Exists.intro); refine And.intro (fun _ _ => zero_raw _ _ _ _) ?_
  have q2 := Int.ediv_nonneg h0 (show 0 ≤ y by omega)
  have q3 : m / y ≤ m := Int.ediv_le_self _ h0
  have ce1 := ce_eq m y h0 y0
  refine iteI (fun hz => ?_) (fun hz => ?_)
  · have hz : m % y = 0 := by simpa using hz
    rw [if_pos hz] at ce1
    refine iteI (fun hn => ?_) (fun hn => ?_)
    · rw [hn]; unfold qdn qup; rw [if_pos rfl, if_pos rfl, ce1]
    · have hn : n = false := by simpa using hn
      rw [hn]; unfold qdn qup; rw [if_neg (by decide), if_neg (by decide), ce1]
  · have hz : ¬ m % y = 0 := by simpa using hz
    rw [if_neg hz] at ce1
    have q4 : m / y + 1 < 340282366920938463463374607431768211456 := by
      have h5 : y * (m / y) + m % y = m := Int.mul_ediv_add_emod m y
      have h6 := Int.emod_nonneg m (show y ≠ 0 by omega)
      have h7 : 1 * (m / y) ≤ y * (m / y) := Int.mul_le_mul_of_nonneg_right (by omega) q2
      omega
    have p := plus_any false false (m / y) 1
    have pn : plN false (m / y) false 1 = false := rfl
    have pm : plM false (m / y) false 1 = m / y + 1 := rfl
    rw [pn, pm] at p
    (repeat apply Exists.intro); refine And.intro (fun _ _ => p _ ⟨q2, by omega⟩ ⟨by decide, by decide⟩ q4) ?_
    refine iteI (fun hn => ?_) (fun hn => ?_)
    · rw [hn]; unfold qdn qup; rw [if_pos rfl, if_pos rfl, ce1]
    · have hn : n = false := by simpa using hn
      rw [hn]; unfold qdn qup; rw [if_neg (by decide), if_neg (by decide), ce1]
theorem pratio_any (a b : Int) (w : World) (ha : I64 a) (hb : I64 b) (h0 : b ≠ 0) :
    Calls Try.prog 95 #[.int .i64 a, .int .i64 b] w (Vc.Ret (.tuple #[VB (decide (a < 0) != decide (b < 0)) (qdn (decide (a < 0) != decide (b < 0)) (absI a * 4294967296) (absI b)), VB (decide (a < 0) != decide (b < 0)) (qup (decide (a < 0) != decide (b < 0)) (absI a * 4294967296) (absI b))]) w) := by
  have xa := absI_bd a ha.1 ha.2
  have xb := absI_bd b hb.1 hb.2
  have xb0 : 0 < absI b := by unfold absI; split <;> omega
  have eb := hiW_small (absI b) (by omega) (by omega)
  refine vc_span_ratio _ _ w _ ?_
  (repeat apply Exists.intro); refine And.intro (fun _ _ => pof_any _ _ ha) ?_
  (repeat apply Exists.intro); refine And.intro (fun _ _ => up32_B _ _ _ (by omega) (by omega)) ?_
  (repeat apply Exists.intro); refine And.intro (fun _ _ => pof_any _ _ hb) ?_
  rw [eb.1, eb.2]
  (repeat apply Exists.intro); refine And.intro (fun _ _ => divide_1 _ _ _ _ _ (by omega) (by omega) xb0 (by omega)) ?_
  rfl
theorem r_sv (a b : Int) (h0 : b ≠ 0) : fl (sv (decide (a < 0) != decide (b < 0)) (absI a * 4294967296)) (absI b) = rdn a b ∧ ce (sv (decide (a < 0) != decide (b < 0)) (absI a * 4294967296)) (absI b) = rup a b := by
  unfold rdn rup absI sv
  by_cases sa : a < 0 <;> by_cases sb : b < 0 <;> simp [sa, sb, Int.neg_mul]
theorem qdn_0 (n : Bool) (m y : Int) (h0 : 0 ≤ m) (y0 : 0 < y) : 0 ≤ qdn n m y ∧ 0 ≤ qup n m y ∧ qdn n m y ≤ m + 1 ∧ qup n m y ≤ m + 1 := by
  have c := ce_eq m y h0 y0
  have q2 := Int.ediv_nonneg h0 (show 0 ≤ y by omega)
  have q3 : m / y ≤ m := Int.ediv_le_self _ h0
  unfold qdn qup
  cases n <;> simp only [Bool.false_eq_true, if_false, if_true] <;> rw [c] <;> split <;> omega
theorem pRatio_any (a b : Int) (w : World) (ha : I64 a) (hb : I64 b) : Calls Try.prog 45 #[.int .i64 a, .int .i64 b] w (Vc.Ret (Vc.RV (ratio a b)) w) := by
  refine vc_span_Ratio _ _ w _ ?_
  unfold ratio
  refine iteI (fun h => ?_) (fun h => ?_)
  · rw [if_pos h]
  · rw [if_neg h]
    have xa := absI_bd a ha.1 ha.2
    have xb0 : 0 < absI b := by unfold absI; split <;> omega
    have q := qdn_0 (decide (a < 0) != decide (b < 0)) (absI a * 4294967296) (absI b) (by omega) xb0
    (repeat apply Exists.intro); refine And.intro (fun _ _ => pratio_any _ _ _ ha hb h) ?_
    (repeat apply Exists.intro); refine And.intro (fun _ _ => fit_any _ _ _ _ _ q.1 q.2.1) ?_
    rw [(q_sv _ _ _).1, (q_sv _ _ _).2, (r_sv a b h).1, (r_sv a b h).2]
theorem rover_any (a b : Int) (w : World) (ha : I64 a) (hb : I64 b) (h0 : b ≠ 0) :
    Calls Try.prog 96 #[VW a, VW b] w (Vc.Ret (.tuple #[VW (rdn a b), VW (rup a b)]) w) := by
  obtain ⟨a1, a2⟩ := ha; obtain ⟨b1, b2⟩ := hb
  refine vc_ullageref01_over _ _ _ _ w _ ?_
  refine iteI (fun h => ?_) (fun h => ?_)
  · have hn : b < 0 := by unfold hiW at h; omega
    (repeat apply Exists.intro); refine And.intro (fun _ _ => minus_W _ _ ⟨by omega, by omega⟩ ⟨by omega, by omega⟩) ?_
    (repeat apply Exists.intro); refine And.intro (fun _ _ => minus_W _ _ ⟨by omega, by omega⟩ ⟨by omega, by omega⟩) ?_
    (repeat apply Exists.intro); refine And.intro (fun _ _ => up32_W _ _ (by omega) (by omega)) ?_
    (repeat apply Exists.intro); refine And.intro (fun _ _ => quotient_W _ _ _ (by omega) (by omega) (by omega) (by omega)) ?_
    unfold rdn rup; rw [if_pos hn, if_pos hn, Int.neg_mul]
  · have hn : ¬ b < 0 := by unfold hiW at h; omega
    (repeat apply Exists.intro); refine And.intro (fun _ _ => up32_W _ _ (by omega) (by omega)) ?_
    (repeat apply Exists.intro); refine And.intro (fun _ _ => quotient_W _ _ _ (by omega) (by omega) (by omega) (by omega)) ?_
    unfold rdn rup; rw [if_neg hn, if_neg hn]
theorem r_bd (a b : Int) (ha : I64 a) (h0 : b ≠ 0) : P127 (rdn a b) ∧ P127 (rup a b) := by
  obtain ⟨a1, a2⟩ := ha
  have key : ∀ x y : Int, 0 < y → -39614081257132168796771975168 ≤ x → x ≤ 39614081257132168796771975168 → P127 (fl x y) ∧ P127 (ce x y) := by
    intro x y hy h1 h2
    by_cases hx : x < 0
    · obtain ⟨q0, q1, q2⟩ := quo_neg x y (by omega) hx hy
      have ev := quo_neg_val x y hy
      rw [ev.1, ev.2]
      refine ⟨?_, ⟨by omega, by omega⟩⟩
      split
      · exact ⟨by omega, by omega⟩
      · rename_i h; have := q2 h; exact ⟨by omega, by omega⟩
    · obtain ⟨q0, q1, q2⟩ := quo_pos x y (by omega) hy
      have ev := quo_pos_val x y (by omega) hy
      rw [ev.1, ev.2]
      refine ⟨⟨by omega, by omega⟩, ?_⟩
      split
      · exact ⟨by omega, by omega⟩
      · rename_i h; have := q2 h; exact ⟨by omega, by omega⟩
  unfold rdn rup
  by_cases hn : b < 0
  · rw [if_pos hn, if_pos hn]; exact key _ _ (by omega) (by omega) (by omega)
  · rw [if_neg hn, if_neg hn]; exact key _ _ (by omega) (by omega) (by omega)
theorem rRatio_any (a b : Int) (w : World) (ha : I64 a) (hb : I64 b) : Calls Try.prog 46 #[.int .i64 a, .int .i64 b] w (Vc.Ret (Vc.RV (ratio a b)) w) := by
  refine vc_ullageref01_Ratio _ _ w _ ?_
  unfold ratio
  refine iteI (fun h => ?_) (fun h => ?_)
  · rw [if_pos h]
  · rw [if_neg h]
    (repeat apply Exists.intro); refine And.intro (fun _ _ => of_W _ _ ha.1 ha.2) ?_
    (repeat apply Exists.intro); refine And.intro (fun _ _ => of_W _ _ hb.1 hb.2) ?_
    (repeat apply Exists.intro); refine And.intro (fun _ _ => rover_any _ _ _ ha hb h) ?_
    (repeat apply Exists.intro); refine And.intro (fun _ _ => out_any _ _ _ (r_bd a b ha h).1 (r_bd a b ha h).2) ?_
    rfl
theorem ppoint_any (a : Int) (w : World) : Calls Try.prog 41 #[.int .i64 a] w (Vc.Ret (Vc.RV (point a)) w) := by
  refine vc_span_Point _ w _ ?_
  unfold point
  (repeat apply Exists.intro); refine And.intro (fun _ _ => valid_any _ _) ?_
  refine iteI (fun h => ?_) (fun h => ?_)
  · rw [if_pos (of_decide_eq_true h)]
  · rw [if_neg (by simpa using h)]
theorem rpoint_any (a : Int) (w : World) : Calls Try.prog 42 #[.int .i64 a] w (Vc.Ret (Vc.RV (point a)) w) := by
  refine vc_ullageref01_Point _ w _ ?_
  unfold point
  (repeat apply Exists.intro); refine And.intro (fun _ _ => number_any _ _) ?_
  refine iteI (fun h => ?_) (fun h => ?_)
  · rw [if_pos (of_decide_eq_true h)]
  · rw [if_neg (by simpa using h)]
theorem pOf_any (a : Int) (w : World) (ha : I64 a) : Calls Try.prog 43 #[.int .i64 a] w (Vc.Ret (Vc.RV (ofInt a)) w) := by
  have xa := absI_bd a ha.1 ha.2
  refine vc_span_Of _ w _ ?_
  (repeat apply Exists.intro); refine And.intro (fun _ _ => pof_any _ _ ha) ?_
  (repeat apply Exists.intro); refine And.intro (fun _ _ => up32_B _ _ _ (by omega) (by omega)) ?_
  (repeat apply Exists.intro); refine And.intro (fun _ _ => fit_any _ _ _ _ _ (by omega) (by omega)) ?_
  have e : sv (decide (a < 0)) (absI a * 4294967296) = a * 4294967296 := by unfold sv absI; by_cases h : a < 0 <;> simp [h]; omega
  rw [e]; rfl
theorem rInt_any (a : Int) (w : World) (ha : I64 a) : Calls Try.prog 44 #[.int .i64 a] w (Vc.Ret (Vc.RV (ofInt a)) w) := by
  obtain ⟨a1, a2⟩ := ha
  refine vc_ullageref01_Int _ w _ ?_
  (repeat apply Exists.intro); refine And.intro (fun _ _ => of_W _ _ a1 a2) ?_
  (repeat apply Exists.intro); refine And.intro (fun _ _ => up32_W _ _ (by omega) (by omega)) ?_
  (repeat apply Exists.intro); refine And.intro (fun _ _ => out_any _ _ _ ⟨by omega, by omega⟩ ⟨by omega, by omega⟩) ?_
  rfl
theorem walk_spanMakes (a b : Int) (ha : (Lit.int .i64 a).wf = true) (hb : (Lit.int .i64 b).wf = true) (n : Int) (hn : (Lit.int .i64 n).wf = true) (m : Int) (hm : (Lit.int .i64 m).wf = true) (w : World) :
    Calls Try.prog 6 #[Vc.S a b, .int .i64 n, .int .i64 m] w (Vc.Ret (.bool true) w) := by
  replace ha := wf64 ha; replace hb := wf64 hb; replace hn := wf64 hn; replace hm := wf64 hm
  refine vc_ullagelaw01_SpanMakes _ _ _ _ w _ ?_
  (repeat apply Exists.intro); refine And.intro (fun _ _ => ppoint_any _ _) ?_
  (repeat apply Exists.intro); refine And.intro (fun _ _ => rpoint_any _ _) ?_
  (repeat apply Exists.intro); refine And.intro (fun _ _ => pOf_any _ _ hn) ?_
  (repeat apply Exists.intro); refine And.intro (fun _ _ => rInt_any _ _ hn) ?_
  (repeat apply Exists.intro); refine And.intro (fun _ _ => pRatio_any _ _ _ hn hm) ?_
  (repeat apply Exists.intro); refine And.intro (fun _ _ => rRatio_any _ _ _ hn hm) ?_
  (repeat apply Exists.intro); refine And.intro (fun _ _ => check_any _ _ _) ?_
  (repeat apply Exists.intro); refine And.intro (fun _ _ => rcheck_any _ _ _) ?_
  (repeat' (first | (intro _ hx) | ((repeat apply Exists.intro); first | refine And.intro (fun _ _ => same_eq _ _ _ _) ?_) | (refine Vc.iteI (fun h => ?_) (fun h => ?_)) | (refine And.intro (by omega) ?_)))
  all_goals simp_all
end Go.Proofs.Ytdhiapllbjamfaa
