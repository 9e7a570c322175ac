/- Contracts: the line of a table at a place, both. -/
import Derived.Test.YtdhiapllbjamfaaTa
set_option linter.unusedVariables false
set_option linter.unusedSimpArgs false
namespace Go.Proofs.Ytdhiapllbjamfaa
open Go Go.RowKit Ul Vc
attribute [local irreducible] Go.Calls

def bdP (up : Bool) (p : Pt) : Int := if up then p.2.2 else p.2.1
def bdAt (l : List Pt) (up : Bool) (i : Nat) : Int := ((l[i]?).map (bdP up)).getD 0
def atX (l : List Pt) (i : Nat) : Int := ((l[i]?).map (·.1)).getD 0
/-- How many points lie ahead of a place. -/
def ahead : List Pt → Int → Nat
  | [], _ => 0
  | p :: l, x => if p.1 < x then ahead l x + 1 else 0
theorem ahead_eq : ∀ {l : List Pt} {x : Int} {i : Nat}, i ≤ l.length → (∀ j p, j < i → l[j]? = some p → p.1 < x) → (∀ p, l[i]? = some p → ¬ p.1 < x) → ahead l x = i
  | [], x, i, h, _, _ => by simp at h; simp [ahead, h]
  | p :: l, x, 0, _, _, h3 => by simp only [ahead]; rw [if_neg (h3 p rfl)]
  | p :: l, x, i + 1, h1, h2, h3 => by
    simp only [ahead]
    rw [if_pos (h2 0 p (by omega) rfl), ahead_eq (l := l) (i := i) (by simpa using h1) (fun j q hj hq => h2 (j + 1) q (by omega) (by simpa using hq)) (fun q hq => h3 q (by simpa using hq))]
def ofP (b : Int) : Bool × Int := (decide (b < 0), absI b)
theorem ofP_sv (b : Int) : svp (ofP b) = b := by
  unfold svp ofP sv absI
  by_cases h : b < 0 <;> simp [h]
/-- Between two points: as the program has it. -/
def mixD (a b f t x : Int) : Bool × Int :=
  (plN (decide (a < 0)) (absI a) (decide (b - a < 0) != decide (x - f < 0)) (qdn (decide (b - a < 0) != decide (x - f < 0)) (absI (b - a) * absI (x - f)) (absI (t - f))),
   plM (decide (a < 0)) (absI a) (decide (b - a < 0) != decide (x - f < 0)) (qdn (decide (b - a < 0) != decide (x - f < 0)) (absI (b - a) * absI (x - f)) (absI (t - f))))
def mixU (a b f t x : Int) : Bool × Int :=
  (plN (decide (a < 0)) (absI a) (decide (b - a < 0) != decide (x - f < 0)) (qup (decide (b - a < 0) != decide (x - f < 0)) (absI (b - a) * absI (x - f)) (absI (t - f))),
   plM (decide (a < 0)) (absI a) (decide (b - a < 0) != decide (x - f < 0)) (qup (decide (b - a < 0) != decide (x - f < 0)) (absI (b - a) * absI (x - f)) (absI (t - f))))
theorem absI_gt {y : Int} (h : 0 < y) : absI y = y := by unfold absI; rw [if_neg (by omega)]
theorem mix_sv (a b f t x : Int) (h : 0 < t - f) : svp (mixD a b f t x) = a + fl ((b - a) * (x - f)) (t - f) ∧ svp (mixU a b f t x) = a + ce ((b - a) * (x - f)) (t - f) := by
  have e := sv_mul (b - a) (x - f)
  have ea := ofP_sv a
  unfold svp ofP at ea
  simp only at ea
  unfold svp mixD mixU
  simp only
  rw [pl_sv, pl_sv, (q_sv _ _ _).1, (q_sv _ _ _).2, absI_gt h, ea]
  exact ⟨by rw [← e], by rw [← e]⟩
/-- What the line has at a place. -/
def lineV (l : List Pt) (up : Bool) (x : Int) : Int × Int :=
  if ahead l x = 0 then (bdAt l up 0, bdAt l up 0)
  else if ahead l x = l.length then (bdAt l up (l.length - 1), bdAt l up (l.length - 1))
  else (bdAt l up (ahead l x - 1) + fl ((bdAt l up (ahead l x) - bdAt l up (ahead l x - 1)) * (x - atX l (ahead l x - 1))) (atX l (ahead l x) - atX l (ahead l x - 1)),
        bdAt l up (ahead l x - 1) + ce ((bdAt l up (ahead l x) - bdAt l up (ahead l x - 1)) * (x - atX l (ahead l x - 1))) (atX l (ahead l x) - atX l (ahead l x - 1)))
/-- The same as the program's wide numbers. -/
def valD (l : List Pt) (up : Bool) (x : Int) : Bool × Int :=
  if ahead l x = 0 then ofP (bdAt l up 0)
  else if ahead l x = l.length then ofP (bdAt l up (l.length - 1))
  else if atX l (ahead l x) = x then ofP (bdAt l up (ahead l x))
  else mixD (bdAt l up (ahead l x - 1)) (bdAt l up (ahead l x)) (atX l (ahead l x - 1)) (atX l (ahead l x)) x
def valU (l : List Pt) (up : Bool) (x : Int) : Bool × Int :=
  if ahead l x = 0 then ofP (bdAt l up 0)
  else if ahead l x = l.length then ofP (bdAt l up (l.length - 1))
  else if atX l (ahead l x) = x then ofP (bdAt l up (ahead l x))
  else mixU (bdAt l up (ahead l x - 1)) (bdAt l up (ahead l x)) (atX l (ahead l x - 1)) (atX l (ahead l x)) x

theorem smallB_iff {x : Int} : smallB x = true ↔ -2305843009213693952 ≤ x ∧ x ≤ 2305843009213693952 := by unfold smallB; simp
theorem good_small {l : List Pt} {i : Nat} {p : Pt} (h : goodAt l i = true) (hp : l[i]? = some p) :
    (-2305843009213693952 ≤ p.1 ∧ p.1 ≤ 2305843009213693952) ∧ (-2305843009213693952 ≤ p.2.1 ∧ p.2.1 ≤ 2305843009213693952) ∧ (-2305843009213693952 ≤ p.2.2 ∧ p.2.2 ≤ 2305843009213693952) ∧ p.2.1 ≤ p.2.2 := by
  unfold goodAt at h
  rw [hp] at h
  simp only [Bool.and_eq_true, decide_eq_true_eq, smallB_iff] at h
  exact ⟨h.1.1.1.1, h.1.1.1.2, h.1.1.2, h.1.2⟩
theorem good_incr {l : List Pt} {j : Nat} {p q : Pt} (h : goodAt l (j + 1) = true) (hp : l[j + 1]? = some p) (hq : l[j]? = some q) : q.1 < p.1 := by
  unfold goodAt at h
  rw [hp] at h
  simp only [hq, Bool.and_eq_true, decide_eq_true_eq] at h
  exact h.2
theorem bdAt_some {l : List Pt} {up : Bool} {i : Nat} {p : Pt} (h : l[i]? = some p) : bdAt l up i = bdP up p := by unfold bdAt; rw [h]; rfl
theorem atX_some {l : List Pt} {i : Nat} {p : Pt} (h : l[i]? = some p) : atX l i = p.1 := by unfold atX; rw [h]; rfl
theorem bdP_small {up : Bool} {p : Pt} (h1 : -2305843009213693952 ≤ p.2.1 ∧ p.2.1 ≤ 2305843009213693952) (h2 : -2305843009213693952 ≤ p.2.2 ∧ p.2.2 ≤ 2305843009213693952) : -2305843009213693952 ≤ bdP up p ∧ bdP up p ≤ 2305843009213693952 := by
  unfold bdP; split <;> assumption
theorem fl_mul (m d : Int) (h : 0 < d) : fl (m * d) d = m ∧ ce (m * d) d = m := by
  unfold fl ce
  rw [← Int.neg_mul, Int.mul_ediv_cancel _ (by omega), Int.mul_ediv_cancel _ (by omega)]
  omega
/-- Both mean the same. -/
theorem val_sv {l : List Pt} (hk : chkT l = 0) (up : Bool) (x : Int) : svp (valD l up x) = (lineV l up x).1 ∧ svp (valU l up x) = (lineV l up x).2 := by
  obtain ⟨k0, k1, kg⟩ := chkT_ok hk
  unfold valD valU lineV
  by_cases h0 : ahead l x = 0
  · simp only [if_pos h0, ofP_sv, and_self]
  · simp only [if_neg h0]
    by_cases h1 : ahead l x = l.length
    · simp only [if_pos h1, ofP_sv, and_self]
    · simp only [if_neg h1]
      have hle : ∀ (l : List Pt), ahead l x ≤ l.length := by
        intro l
        induction l with
        | nil => simp [ahead]
        | cons p l ih => simp only [ahead]; split <;> simp <;> omega
      have hl := hle l
      obtain ⟨j, hj⟩ : ∃ j, ahead l x = j + 1 := ⟨ahead l x - 1, by omega⟩
      rw [hj] at h1 hl ⊢
      have hp := List.getElem?_eq_getElem (show j + 1 < l.length by omega)
      have hq := List.getElem?_eq_getElem (show j < l.length by omega)
      generalize l[j + 1] = p at hp
      generalize l[j] = q at hq
      have hinc := good_incr (kg (j + 1) (by omega)) hp hq
      simp only [Nat.add_sub_cancel, bdAt_some hp, bdAt_some hq, atX_some hp, atX_some hq]
      by_cases h2 : p.1 = x
      · simp only [if_pos h2, ofP_sv]
        subst h2
        obtain ⟨e1, e2⟩ := fl_mul (bdP up p - bdP up q) (p.1 - q.1) (by omega)
        rw [e1, e2]
        omega
      · simp only [if_neg h2]
        exact mix_sv _ _ _ _ _ (by omega)
theorem prod_le (u v : Int) (hu : -4611686018427387904 ≤ u ∧ u ≤ 4611686018427387904) (hv : 0 ≤ v ∧ v ≤ 4611686018427387904) : -21267647932558653966460912964485513216 ≤ u * v ∧ u * v ≤ 21267647932558653966460912964485513216 := by
  have h1 := mul_le_of (absI u) v 4611686018427387904 4611686018427387904 (by unfold absI; split <;> omega) (by omega) (by unfold absI; split <;> omega) hv.2
  have h2 : absI u * v = u * v ∨ absI u * v = -(u * v) := by
    unfold absI; split
    · right; rw [Int.neg_mul]
    · left; rfl
  have h3 : 0 ≤ absI u * v := Int.mul_nonneg (by unfold absI; split <;> omega) hv.1
  omega
theorem ahead_spec : ∀ (l : List Pt) (x : Int), ahead l x ≤ l.length ∧ (∀ j p, j < ahead l x → l[j]? = some p → p.1 < x) ∧ ∀ p, l[ahead l x]? = some p → ¬ p.1 < x
  | [], x => ⟨by simp [ahead], fun j p hj => by simp [ahead] at hj, fun p hp => by simp at hp⟩
  | q :: l, x => by
    obtain ⟨h1, h2, h3⟩ := ahead_spec l x
    simp only [ahead]
    split
    · rename_i hq
      refine ⟨by simp; omega, fun j p hj hp => ?_, fun p hp => h3 p (by simpa using hp)⟩
      cases j with
      | zero => simp at hp; subst hp; exact hq
      | succ j => exact h2 j p (by omega) (by simpa using hp)
    · rename_i hq
      exact ⟨by simp, fun j p hj => by omega, fun p hp => by simp at hp; subst hp; exact hq⟩
theorem ediv_bd (N d B : Int) (hd : 0 < d) (h1 : -B ≤ N) (h2 : N ≤ B) : -B ≤ N / d ∧ N / d ≤ B := by
  have hB : B ≤ B * d := by
    have := Int.mul_le_mul_of_nonneg_left (show 1 ≤ d by omega) (show 0 ≤ B by omega)
    omega
  constructor
  · refine (Int.le_ediv_iff_mul_le hd).2 ?_
    rw [Int.neg_mul]; omega
  · exact Int.ediv_le_of_le_mul hd (by omega)
/-- How large they are. -/
theorem val_bd {l : List Pt} (hk : chkT l = 0) (up : Bool) (x : Int) (hx : I64 x) : (0 ≤ (valD l up x).2 ∧ 0 ≤ (valU l up x).2) ∧ (-42535295865117307932921825928971026432 ≤ (lineV l up x).1 ∧ (lineV l up x).1 ≤ 42535295865117307932921825928971026432) ∧ (-42535295865117307932921825928971026432 ≤ (lineV l up x).2 ∧ (lineV l up x).2 ≤ 42535295865117307932921825928971026432) := by
  obtain ⟨k0, k1, kg⟩ := chkT_ok hk
  obtain ⟨a1, a2, a3⟩ := ahead_spec l x
  have nn : ∀ b, 0 ≤ (ofP b).2 := fun b => by unfold ofP absI; simp only; split <;> omega
  have sm : ∀ i p, l[i]? = some p → -2305843009213693952 ≤ bdP up p ∧ bdP up p ≤ 2305843009213693952 := fun i p hp => by
    have g := good_small (kg i (List.getElem?_eq_some_iff.1 hp).1) hp
    exact bdP_small g.2.1 g.2.2.1
  unfold valD valU lineV
  by_cases h0 : ahead l x = 0
  · simp only [if_pos h0]
    have hp := List.getElem?_eq_getElem k0
    have := sm 0 _ hp
    rw [bdAt_some hp]
    exact ⟨⟨nn _, nn _⟩, ⟨by omega, by omega⟩, by omega, by omega⟩
  · simp only [if_neg h0]
    by_cases h1 : ahead l x = l.length
    · simp only [if_pos h1]
      have hp := List.getElem?_eq_getElem (show l.length - 1 < l.length by omega)
      have := sm _ _ hp
      rw [bdAt_some hp]
      exact ⟨⟨nn _, nn _⟩, ⟨by omega, by omega⟩, by omega, by omega⟩
    · simp only [if_neg h1]
      obtain ⟨j, hj⟩ : ∃ j, ahead l x = j + 1 := ⟨ahead l x - 1, by omega⟩
      rw [hj] at h1 a1 a2 a3 ⊢
      have hp := List.getElem?_eq_getElem (show j + 1 < l.length by omega)
      have hq := List.getElem?_eq_getElem (show j < l.length by omega)
      generalize l[j + 1] = p at hp
      generalize l[j] = q at hq
      have hinc := good_incr (kg (j + 1) (by omega)) hp hq
      have gp := good_small (kg (j + 1) (by omega)) hp
      have gq := good_small (kg j (by omega)) hq
      have sp := sm _ _ hp
      have sq := sm _ _ hq
      have x1 := a2 j q (by omega) hq
      have x2 := a3 p hp
      simp only [Nat.add_sub_cancel, bdAt_some hp, bdAt_some hq, atX_some hp, atX_some hq]
      have pr := prod_le (bdP up p - bdP up q) (x - q.1) (by omega) (by omega)
      have e1 := ediv_bd _ (p.1 - q.1) 21267647932558653966460912964485513216 (by omega) pr.1 pr.2
      have e2 := ediv_bd (-((bdP up p - bdP up q) * (x - q.1))) (p.1 - q.1) 21267647932558653966460912964485513216 (by omega) (by omega) (by omega)
      refine ⟨?_, ⟨by unfold fl; omega, by unfold fl; omega⟩, by unfold ce; omega, by unfold ce; omega⟩
      split
      · exact ⟨nn _, nn _⟩
      · have ab : ∀ y : Int, 0 ≤ absI y := fun y => by unfold absI; split <;> omega
        have q0 := qdn_0 (decide (bdP up p - bdP up q < 0) != decide (x - q.1 < 0)) (absI (bdP up p - bdP up q) * absI (x - q.1)) (absI (p.1 - q.1)) (Int.mul_nonneg (ab _) (ab _)) (by rw [absI_gt (by omega)]; omega)
        exact ⟨pl_pos _ _ _ _ (ab _) q0.1, pl_pos _ _ _ _ (ab _) q0.2.1⟩

theorem lk_lo (p : Pt) (w : World) : Calls Try.prog 105 #[Vc.S p.2.1 p.2.2] w (Vc.Ret (.int .i64 (bdP false p)) w) := vc_span_Look_1_1 _ _ w _ rfl
theorem lk_hi (p : Pt) (w : World) : Calls Try.prog 106 #[Vc.S p.2.1 p.2.2] w (Vc.Ret (.int .i64 (bdP true p)) w) := vc_span_Look_1_2 _ _ w _ rfl
theorem pval_lo {w : World} {v : Value} {l : List Pt} (h : Tab w v l) (hk : chkT l = 0) (x : Int) (hx : I64 x) :
    Calls Try.prog 104 #[v, .int .i64 x, .func (.func 105) #[] #[]] w (Vc.Ret (.tuple #[VP (valD l false x), VP (valU l false x)]) w) := by
  obtain ⟨k0, k1, kg⟩ := chkT_ok hk
  obtain ⟨b0, p0, x1, rfl, hb, hc⟩ := tab_form h
  clear h
  have nb0 : ¬ (b0 = true) := fun hb0 => by have := hb hb0; omega
  have nb : (¬ (b0 = true)) ∨ ((l.length : Int) = 0) := .inl nb0
  have wl : IntKind.i64.wrap ((l.length : Int) - 1) = (l.length : Int) - 1 := Vc.i64_id (by omega)
  refine vc_span_value_lo p0 (l.length : Int) x1 x b0 w _ ?_
  refine ⟨fun y => ∃ i : Nat, i ≤ l.length ∧ (∀ j p, j < i → l[j]? = some p → p.1 < x) ∧ y = [.i (i : Int)], upTo (l.length : Int), ⟨0, by omega, fun j p hj => by omega, rfl⟩, ?_⟩
  rintro x3 ⟨i, hi, hg, hy⟩
  simp only [List.cons.injEq, Vc.Vl.i.injEq, and_true] at hy
  subst hy
  refine ⟨by omega, nb, ?_⟩
  refine iteI (fun h1 => ?_) (fun h1 => ?_)
  · have hlt : i < l.length := by omega
    have hp := List.getElem?_eq_getElem hlt
    generalize l[i] = p at hp
    obtain ⟨c0, c1, c2⟩ := hc i p hp
    refine ⟨nb0, by omega, by omega, _, c0, ?_⟩
    refine iteI (fun h2 => ?_) (fun h2 => ?_)
    · rintro _ rfl
      rw [wrap_up i (by omega)]
      refine ⟨⟨i + 1, by omega, fun j q hj hq => ?_, rfl⟩, by simp only [upTo]; omega⟩
      by_cases hji : j = i
      · subst hji; rw [hp] at hq; cases hq; exact h2
      · exact hg j q (by omega) hq
    · have hah : ahead l x = i := ahead_eq hi hg (fun q hq => by rw [hp] at hq; cases hq; exact h2)
      refine iteI (fun h3 => ?_) (fun h3 => ?_)
      · obtain ⟨k, hkl, ek, hvd, hvu⟩ : ∃ k : Nat, k < l.length ∧ (if IntKind.i64.wrap ((l.length : Int) - 1) < (i : Int) then IntKind.i64.wrap ((l.length : Int) - 1) else (i : Int)) = (k : Int) ∧ valD l false x = ofP (bdAt l false k) ∧ valU l false x = ofP (bdAt l false k) :=
          ⟨0, by omega, by rw [wl]; split <;> omega, by unfold valD; rw [if_pos (by omega)], by unfold valU; rw [if_pos (by omega)]⟩
        have hpk := List.getElem?_eq_getElem hkl
        generalize l[k] = pk at hpk
        obtain ⟨d0, d1, d2⟩ := hc k pk hpk
        have gk := good_small (kg k hkl) hpk
        have ig := bdP_small (up := false) gk.2.1 gk.2.2.1
        have ev := hvd
        have eu := hvu
        rw [bdAt_some hpk] at ev eu
        refine ⟨by omega, nb, ?_⟩
        rintro _ rfl
        rintro _ rfl
        rw [ek]
        refine ⟨nb0, by omega, by omega, _, d1, _, d2, ?_⟩
        (repeat apply Exists.intro); refine And.intro (fun _ _ => lk_lo pk _) ?_
        (repeat apply Exists.intro); refine And.intro (fun _ _ => pof_any (bdP false pk) _ (by constructor <;> omega)) ?_
        rw [ev, eu]
        rfl
      · refine ⟨by omega, nb, ?_⟩
        refine iteI (fun h4 => ?_) (fun h4 => ?_)
        · exfalso; omega
        · refine ⟨nb0, by omega, by omega, _, c0, ?_⟩
          refine iteI (fun h5 => ?_) (fun h5 => ?_)
          · obtain ⟨k, hkl, ek, hvd, hvu⟩ : ∃ k : Nat, k < l.length ∧ (if IntKind.i64.wrap ((l.length : Int) - 1) < (i : Int) then IntKind.i64.wrap ((l.length : Int) - 1) else (i : Int)) = (k : Int) ∧ valD l false x = ofP (bdAt l false k) ∧ valU l false x = ofP (bdAt l false k) :=
              ⟨i, by omega, by rw [wl]; split <;> omega, by unfold valD; rw [hah, if_neg (by omega), if_neg (by omega), if_pos (by rw [atX_some hp]; exact h5)], by unfold valU; rw [hah, if_neg (by omega), if_neg (by omega), if_pos (by rw [atX_some hp]; exact h5)]⟩
            have hpk := List.getElem?_eq_getElem hkl
            generalize l[k] = pk at hpk
            obtain ⟨d0, d1, d2⟩ := hc k pk hpk
            have gk := good_small (kg k hkl) hpk
            have ig := bdP_small (up := false) gk.2.1 gk.2.2.1
            have ev := hvd
            have eu := hvu
            rw [bdAt_some hpk] at ev eu
            refine ⟨by omega, nb, ?_⟩
            rintro _ rfl
            rintro _ rfl
            rw [ek]
            refine ⟨nb0, by omega, by omega, _, d1, _, d2, ?_⟩
            (repeat apply Exists.intro); refine And.intro (fun _ _ => lk_lo pk _) ?_
            (repeat apply Exists.intro); refine And.intro (fun _ _ => pof_any (bdP false pk) _ (by constructor <;> omega)) ?_
            rw [ev, eu]
            rfl
          · have hvd : valD l false x = mixD (bdAt l false (i - 1)) (bdAt l false i) (atX l (i - 1)) (atX l i) x := by unfold valD; rw [hah, if_neg (by omega), if_neg (by omega), if_neg (by rw [atX_some hp]; exact h5)]
            have hvu : valU l false x = mixU (bdAt l false (i - 1)) (bdAt l false i) (atX l (i - 1)) (atX l i) x := by unfold valU; rw [hah, if_neg (by omega), if_neg (by omega), if_neg (by rw [atX_some hp]; exact h5)]
            obtain ⟨j, rfl⟩ : ∃ j, i = j + 1 := ⟨i - 1, by omega⟩
            have hq := List.getElem?_eq_getElem (show j < l.length by omega)
            generalize l[j] = q at hq
            obtain ⟨e0, e1, e2⟩ := hc j q hq
            have hinc := good_incr (kg (j + 1) (by omega)) hp hq
            have gp := good_small (kg (j + 1) (by omega)) hp
            have gq := good_small (kg j (by omega)) hq
            have sp := bdP_small (up := false) gp.2.1 gp.2.2.1
            have sq := bdP_small (up := false) gq.2.1 gq.2.2.1
            have y1 := hg j q (by omega) hq
            have ab : ∀ y : Int, 0 ≤ absI y := fun y => by unfold absI; split <;> omega
            rintro _ rfl
            rw [wrap_down j (by omega)]
            refine ⟨nb0, by omega, by omega, _, e0, _, e1, _, e2, nb0, by omega, by omega, _, c0, _, c1, _, c2, ?_⟩
            (repeat apply Exists.intro); refine And.intro (fun _ _ => lk_lo q _) ?_
            (repeat apply Exists.intro); refine And.intro (fun _ _ => lk_lo p _) ?_
            rintro _ rfl
            rintro _ rfl
            have w1 : IntKind.i64.wrap (bdP false p - bdP false q) = bdP false p - bdP false q := Vc.i64_id (by omega)
            have w2 : IntKind.i64.wrap (x - q.1) = x - q.1 := Vc.i64_id (by omega)
            have w3 : IntKind.i64.wrap (p.1 - q.1) = p.1 - q.1 := Vc.i64_id (by omega)
            have xa := absI_bd (bdP false p - bdP false q) (by omega) (by omega)
            have xb := absI_bd (x - q.1) (by omega) (by omega)
            have u1 : absI (bdP false p - bdP false q) ≤ 4611686018427387904 := by unfold absI; split <;> omega
            have u2 : absI (x - q.1) ≤ 4611686018427387904 := by unfold absI; split <;> omega
            have um := mul_le_of (absI (bdP false p - bdP false q)) (absI (x - q.1)) 4611686018427387904 4611686018427387904 (ab _) (ab _) u1 u2
            have um0 := Int.mul_nonneg (ab (bdP false p - bdP false q)) (ab (x - q.1))
            have ey := absI_gt (y := p.1 - q.1) (by omega)
            have eb := hiW_small (absI (p.1 - q.1)) (by omega) (by omega)
            have ev := hvd
            have eu := hvu
            simp only [Nat.add_sub_cancel, bdAt_some hp, bdAt_some hq, atX_some hp, atX_some hq] at ev eu
            have q0 := qdn_0 (decide (bdP false p - bdP false q < 0) != decide (x - q.1 < 0)) (absI (bdP false p - bdP false q) * absI (x - q.1)) (absI (p.1 - q.1)) um0 (by omega)
            have au : absI (bdP false q) ≤ 2305843009213693952 := by unfold absI; split <;> omega
            have t1 := fun w => ptimes_any (bdP false p - bdP false q) (x - q.1) w (by constructor <;> omega) (by constructor <;> omega)
            have t2 := fun w => pof_any (p.1 - q.1) w (by constructor <;> omega)
            have t3 := fun w => divide_1 (decide (bdP false p - bdP false q < 0) != decide (x - q.1 < 0)) (decide (p.1 - q.1 < 0)) (absI (bdP false p - bdP false q) * absI (x - q.1)) (absI (p.1 - q.1)) w um0 (by omega) (by omega) (by omega)
            have t4 := fun w => pof_any (bdP false q) w (by constructor <;> omega)
            have t5 := fun w => plus_any (decide (bdP false q < 0)) (decide (bdP false p - bdP false q < 0) != decide (x - q.1 < 0)) (absI (bdP false q)) (qdn (decide (bdP false p - bdP false q < 0) != decide (x - q.1 < 0)) (absI (bdP false p - bdP false q) * absI (x - q.1)) (absI (p.1 - q.1))) w ⟨ab _, by omega⟩ ⟨q0.1, by omega⟩ (by omega)
            have t6 := fun w => plus_any (decide (bdP false q < 0)) (decide (bdP false p - bdP false q < 0) != decide (x - q.1 < 0)) (absI (bdP false q)) (qup (decide (bdP false p - bdP false q < 0) != decide (x - q.1 < 0)) (absI (bdP false p - bdP false q) * absI (x - q.1)) (absI (p.1 - q.1))) w ⟨ab _, by omega⟩ ⟨q0.2.1, by omega⟩ (by omega)
            rw [w1, w2]
            (repeat apply Exists.intro); refine And.intro (fun _ _ => t1 _) ?_
            rintro _ rfl
            rw [w3]
            (repeat apply Exists.intro); refine And.intro (fun _ _ => t2 _) ?_
            rw [eb.1, eb.2]
            (repeat apply Exists.intro); refine And.intro (fun _ _ => t3 _) ?_
            (repeat apply Exists.intro); refine And.intro (fun _ _ => t4 _) ?_
            (repeat apply Exists.intro); refine And.intro (fun _ _ => t5 _) ?_
            (repeat apply Exists.intro); refine And.intro (fun _ _ => t4 _) ?_
            (repeat apply Exists.intro); refine And.intro (fun _ _ => t6 _) ?_
            rw [ev, eu]
            rfl
  · have hah : ahead l x = i := ahead_eq hi hg (fun q hq => by have := (List.getElem?_eq_some_iff.1 hq).1; omega)
    refine iteI (fun h3 => ?_) (fun h3 => ?_)
    · exfalso; omega
    · refine ⟨by omega, nb, ?_⟩
      refine iteI (fun h4 => ?_) (fun h4 => ?_)
      · obtain ⟨k, hkl, ek, hvd, hvu⟩ : ∃ k : Nat, k < l.length ∧ (if IntKind.i64.wrap ((l.length : Int) - 1) < (i : Int) then IntKind.i64.wrap ((l.length : Int) - 1) else (i : Int)) = (k : Int) ∧ valD l false x = ofP (bdAt l false k) ∧ valU l false x = ofP (bdAt l false k) :=
          ⟨l.length - 1, by omega, by rw [wl]; split <;> omega, by unfold valD; rw [if_neg (by omega), if_pos (by omega)], by unfold valU; rw [if_neg (by omega), if_pos (by omega)]⟩
        have hpk := List.getElem?_eq_getElem hkl
        generalize l[k] = pk at hpk
        obtain ⟨d0, d1, d2⟩ := hc k pk hpk
        have gk := good_small (kg k hkl) hpk
        have ig := bdP_small (up := false) gk.2.1 gk.2.2.1
        have ev := hvd
        have eu := hvu
        rw [bdAt_some hpk] at ev eu
        refine ⟨by omega, nb, ?_⟩
        rintro _ rfl
        rintro _ rfl
        rw [ek]
        refine ⟨nb0, by omega, by omega, _, d1, _, d2, ?_⟩
        (repeat apply Exists.intro); refine And.intro (fun _ _ => lk_lo pk _) ?_
        (repeat apply Exists.intro); refine And.intro (fun _ _ => pof_any (bdP false pk) _ (by constructor <;> omega)) ?_
        rw [ev, eu]
        rfl
      · exfalso; omega
theorem pval_hi {w : World} {v : Value} {l : List Pt} (h : Tab w v l) (hk : chkT l = 0) (x : Int) (hx : I64 x) :
    Calls Try.prog 104 #[v, .int .i64 x, .func (.func 106) #[] #[]] w (Vc.Ret (.tuple #[VP (valD l true x), VP (valU l true x)]) w) := by
  obtain ⟨k0, k1, kg⟩ := chkT_ok hk
  obtain ⟨b0, p0, x1, rfl, hb, hc⟩ := tab_form h
  clear h
  have nb0 : ¬ (b0 = true) := fun hb0 => by have := hb hb0; omega
  have nb : (¬ (b0 = true)) ∨ ((l.length : Int) = 0) := .inl nb0
  have wl : IntKind.i64.wrap ((l.length : Int) - 1) = (l.length : Int) - 1 := Vc.i64_id (by omega)
  refine vc_span_value_hi p0 (l.length : Int) x1 x b0 w _ ?_
  refine ⟨fun y => ∃ i : Nat, i ≤ l.length ∧ (∀ j p, j < i → l[j]? = some p → p.1 < x) ∧ y = [.i (i : Int)], upTo (l.length : Int), ⟨0, by omega, fun j p hj => by omega, rfl⟩, ?_⟩
  rintro x3 ⟨i, hi, hg, hy⟩
  simp only [List.cons.injEq, Vc.Vl.i.injEq, and_true] at hy
  subst hy
  refine ⟨by omega, nb, ?_⟩
  refine iteI (fun h1 => ?_) (fun h1 => ?_)
  · have hlt : i < l.length := by omega
    have hp := List.getElem?_eq_getElem hlt
    generalize l[i] = p at hp
    obtain ⟨c0, c1, c2⟩ := hc i p hp
    refine ⟨nb0, by omega, by omega, _, c0, ?_⟩
    refine iteI (fun h2 => ?_) (fun h2 => ?_)
    · rintro _ rfl
      rw [wrap_up i (by omega)]
      refine ⟨⟨i + 1, by omega, fun j q hj hq => ?_, rfl⟩, by simp only [upTo]; omega⟩
      by_cases hji : j = i
      · subst hji; rw [hp] at hq; cases hq; exact h2
      · exact hg j q (by omega) hq
    · have hah : ahead l x = i := ahead_eq hi hg (fun q hq => by rw [hp] at hq; cases hq; exact h2)
      refine iteI (fun h3 => ?_) (fun h3 => ?_)
      · obtain ⟨k, hkl, ek, hvd, hvu⟩ : ∃ k : Nat, k < l.length ∧ (if IntKind.i64.wrap ((l.length : Int) - 1) < (i : Int) then IntKind.i64.wrap ((l.length : Int) - 1) else (i : Int)) = (k : Int) ∧ valD l true x = ofP (bdAt l true k) ∧ valU l true x = ofP (bdAt l true k) :=
          ⟨0, by omega, by rw [wl]; split <;> omega, by unfold valD; rw [if_pos (by omega)], by unfold valU; rw [if_pos (by omega)]⟩
        have hpk := List.getElem?_eq_getElem hkl
        generalize l[k] = pk at hpk
        obtain ⟨d0, d1, d2⟩ := hc k pk hpk
        have gk := good_small (kg k hkl) hpk
        have ig := bdP_small (up := true) gk.2.1 gk.2.2.1
        have ev := hvd
        have eu := hvu
        rw [bdAt_some hpk] at ev eu
        refine ⟨by omega, nb, ?_⟩
        rintro _ rfl
        rintro _ rfl
        rw [ek]
        refine ⟨nb0, by omega, by omega, _, d1, _, d2, ?_⟩
        (repeat apply Exists.intro); refine And.intro (fun _ _ => lk_hi pk _) ?_
        (repeat apply Exists.intro); refine And.intro (fun _ _ => pof_any (bdP true pk) _ (by constructor <;> omega)) ?_
        rw [ev, eu]
        rfl
      · refine ⟨by omega, nb, ?_⟩
        refine iteI (fun h4 => ?_) (fun h4 => ?_)
        · exfalso; omega
        · refine ⟨nb0, by omega, by omega, _, c0, ?_⟩
          refine iteI (fun h5 => ?_) (fun h5 => ?_)
          · obtain ⟨k, hkl, ek, hvd, hvu⟩ : ∃ k : Nat, k < l.length ∧ (if IntKind.i64.wrap ((l.length : Int) - 1) < (i : Int) then IntKind.i64.wrap ((l.length : Int) - 1) else (i : Int)) = (k : Int) ∧ valD l true x = ofP (bdAt l true k) ∧ valU l true x = ofP (bdAt l true k) :=
              ⟨i, by omega, by rw [wl]; split <;> omega, by unfold valD; rw [hah, if_neg (by omega), if_neg (by omega), if_pos (by rw [atX_some hp]; exact h5)], by unfold valU; rw [hah, if_neg (by omega), if_neg (by omega), if_pos (by rw [atX_some hp]; exact h5)]⟩
            have hpk := List.getElem?_eq_getElem hkl
            generalize l[k] = pk at hpk
            obtain ⟨d0, d1, d2⟩ := hc k pk hpk
            have gk := good_small (kg k hkl) hpk
            have ig := bdP_small (up := true) gk.2.1 gk.2.2.1
            have ev := hvd
            have eu := hvu
            rw [bdAt_some hpk] at ev eu
            refine ⟨by omega, nb, ?_⟩
            rintro _ rfl
            rintro _ rfl
            rw [ek]
            refine ⟨nb0, by omega, by omega, _, d1, _, d2, ?_⟩
            (repeat apply Exists.intro); refine And.intro (fun _ _ => lk_hi pk _) ?_
            (repeat apply Exists.intro); refine And.intro (fun _ _ => pof_any (bdP true pk) _ (by constructor <;> omega)) ?_
            rw [ev, eu]
            rfl
          · have hvd : valD l true x = mixD (bdAt l true (i - 1)) (bdAt l true i) (atX l (i - 1)) (atX l i) x := by unfold valD; rw [hah, if_neg (by omega), if_neg (by omega), if_neg (by rw [atX_some hp]; exact h5)]
            have hvu : valU l true x = mixU (bdAt l true (i - 1)) (bdAt l true i) (atX l (i - 1)) (atX l i) x := by unfold valU; rw [hah, if_neg (by omega), if_neg (by omega), if_neg (by rw [atX_some hp]; exact h5)]
            obtain ⟨j, rfl⟩ : ∃ j, i = j + 1 := ⟨i - 1, by omega⟩
            have hq := List.getElem?_eq_getElem (show j < l.length by omega)
            generalize l[j] = q at hq
            obtain ⟨e0, e1, e2⟩ := hc j q hq
            have hinc := good_incr (kg (j + 1) (by omega)) hp hq
            have gp := good_small (kg (j + 1) (by omega)) hp
            have gq := good_small (kg j (by omega)) hq
            have sp := bdP_small (up := true) gp.2.1 gp.2.2.1
            have sq := bdP_small (up := true) gq.2.1 gq.2.2.1
            have y1 := hg j q (by omega) hq
            have ab : ∀ y : Int, 0 ≤ absI y := fun y => by unfold absI; split <;> omega
            rintro _ rfl
            rw [wrap_down j (by omega)]
            refine ⟨nb0, by omega, by omega, _, e0, _, e1, _, e2, nb0, by omega, by omega, _, c0, _, c1, _, c2, ?_⟩
            (repeat apply Exists.intro); refine And.intro (fun _ _ => lk_hi q _) ?_
            (repeat apply Exists.intro); refine And.intro (fun _ _ => lk_hi p _) ?_
            rintro _ rfl
            rintro _ rfl
            have w1 : IntKind.i64.wrap (bdP true p - bdP true q) = bdP true p - bdP true q := Vc.i64_id (by omega)
            have w2 : IntKind.i64.wrap (x - q.1) = x - q.1 := Vc.i64_id (by omega)
            have w3 : IntKind.i64.wrap (p.1 - q.1) = p.1 - q.1 := Vc.i64_id (by omega)
            have xa := absI_bd (bdP true p - bdP true q) (by omega) (by omega)
            have xb := absI_bd (x - q.1) (by omega) (by omega)
            have u1 : absI (bdP true p - bdP true q) ≤ 4611686018427387904 := by unfold absI; split <;> omega
            have u2 : absI (x - q.1) ≤ 4611686018427387904 := by unfold absI; split <;> omega
            have um := mul_le_of (absI (bdP true p - bdP true q)) (absI (x - q.1)) 4611686018427387904 4611686018427387904 (ab _) (ab _) u1 u2
            have um0 := Int.mul_nonneg (ab (bdP true p - bdP true q)) (ab (x - q.1))
            have ey := absI_gt (y := p.1 - q.1) (by omega)
            have eb := hiW_small (absI (p.1 - q.1)) (by omega) (by omega)
            have ev := hvd
            have eu := hvu
            simp only [Nat.add_sub_cancel, bdAt_some hp, bdAt_some hq, atX_some hp, atX_some hq] at ev eu
            have q0 := qdn_0 (decide (bdP true p - bdP true q < 0) != decide (x - q.1 < 0)) (absI (bdP true p - bdP true q) * absI (x - q.1)) (absI (p.1 - q.1)) um0 (by omega)
            have au : absI (bdP true q) ≤ 2305843009213693952 := by unfold absI; split <;> omega
            have t1 := fun w => ptimes_any (bdP true p - bdP true q) (x - q.1) w (by constructor <;> omega) (by constructor <;> omega)
            have t2 := fun w => pof_any (p.1 - q.1) w (by constructor <;> omega)
            have t3 := fun w => divide_1 (decide (bdP true p - bdP true q < 0) != decide (x - q.1 < 0)) (decide (p.1 - q.1 < 0)) (absI (bdP true p - bdP true q) * absI (x - q.1)) (absI (p.1 - q.1)) w um0 (by omega) (by omega) (by omega)
            have t4 := fun w => pof_any (bdP true q) w (by constructor <;> omega)
            have t5 := fun w => plus_any (decide (bdP true q < 0)) (decide (bdP true p - bdP true q < 0) != decide (x - q.1 < 0)) (absI (bdP true q)) (qdn (decide (bdP true p - bdP true q < 0) != decide (x - q.1 < 0)) (absI (bdP true p - bdP true q) * absI (x - q.1)) (absI (p.1 - q.1))) w ⟨ab _, by omega⟩ ⟨q0.1, by omega⟩ (by omega)
            have t6 := fun w => plus_any (decide (bdP true q < 0)) (decide (bdP true p - bdP true q < 0) != decide (x - q.1 < 0)) (absI (bdP true q)) (qup (decide (bdP true p - bdP true q < 0) != decide (x - q.1 < 0)) (absI (bdP true p - bdP true q) * absI (x - q.1)) (absI (p.1 - q.1))) w ⟨ab _, by omega⟩ ⟨q0.2.1, by omega⟩ (by omega)
            rw [w1, w2]
            (repeat apply Exists.intro); refine And.intro (fun _ _ => t1 _) ?_
            rintro _ rfl
            rw [w3]
            (repeat apply Exists.intro); refine And.intro (fun _ _ => t2 _) ?_
            rw [eb.1, eb.2]
            (repeat apply Exists.intro); refine And.intro (fun _ _ => t3 _) ?_
            (repeat apply Exists.intro); refine And.intro (fun _ _ => t4 _) ?_
            (repeat apply Exists.intro); refine And.intro (fun _ _ => t5 _) ?_
            (repeat apply Exists.intro); refine And.intro (fun _ _ => t4 _) ?_
            (repeat apply Exists.intro); refine And.intro (fun _ _ => t6 _) ?_
            rw [ev, eu]
            rfl
  · have hah : ahead l x = i := ahead_eq hi hg (fun q hq => by have := (List.getElem?_eq_some_iff.1 hq).1; omega)
    refine iteI (fun h3 => ?_) (fun h3 => ?_)
    · exfalso; omega
    · refine ⟨by omega, nb, ?_⟩
      refine iteI (fun h4 => ?_) (fun h4 => ?_)
      · obtain ⟨k, hkl, ek, hvd, hvu⟩ : ∃ k : Nat, k < l.length ∧ (if IntKind.i64.wrap ((l.length : Int) - 1) < (i : Int) then IntKind.i64.wrap ((l.length : Int) - 1) else (i : Int)) = (k : Int) ∧ valD l true x = ofP (bdAt l true k) ∧ valU l true x = ofP (bdAt l true k) :=
          ⟨l.length - 1, by omega, by rw [wl]; split <;> omega, by unfold valD; rw [if_neg (by omega), if_pos (by omega)], by unfold valU; rw [if_neg (by omega), if_pos (by omega)]⟩
        have hpk := List.getElem?_eq_getElem hkl
        generalize l[k] = pk at hpk
        obtain ⟨d0, d1, d2⟩ := hc k pk hpk
        have gk := good_small (kg k hkl) hpk
        have ig := bdP_small (up := true) gk.2.1 gk.2.2.1
        have ev := hvd
        have eu := hvu
        rw [bdAt_some hpk] at ev eu
        refine ⟨by omega, nb, ?_⟩
        rintro _ rfl
        rintro _ rfl
        rw [ek]
        refine ⟨nb0, by omega, by omega, _, d1, _, d2, ?_⟩
        (repeat apply Exists.intro); refine And.intro (fun _ _ => lk_hi pk _) ?_
        (repeat apply Exists.intro); refine And.intro (fun _ _ => pof_any (bdP true pk) _ (by constructor <;> omega)) ?_
        rw [ev, eu]
        rfl
      · exfalso; omega
theorem bound_any (p : Pt) (up : Bool) (w : World) : Calls Try.prog 134 #[.agg #[.int .i64 p.1, .int .i64 p.2.1, .int .i64 p.2.2], .bool up] w (Vc.Ret (.int .i64 (bdP up p)) w) := by
  refine vc_ullageref01_bound _ _ _ up w _ ?_
  refine iteI (fun h => ?_) (fun h => ?_)
  · unfold bdP; rw [if_pos h]
  · unfold bdP; rw [if_neg h]
end Go.Proofs.Ytdhiapllbjamfaa
