/- Contracts of the layer, as far as they are wanted (written by program out of the templates). -/
import Derived.Test.YtcoakpdafpclpaaGreatDoorTtA
import Derived.Test.YtcoakpdafpclpaaGreatDoorTtG3
import Derived.WalkKit
import Derived.ProofKit
import Derived.OpenShut
import Derived.Lib.SmallJoins
set_option linter.unusedVariables false
set_option linter.unusedSimpArgs false
namespace Go.Proofs.YtcoakpdafpclpaaGreatDoor
open Go Go.RowKit Go.ChangeShapes Go.WideShapes Go.ChangeAt Go.Joins Ul Vc
/-- The second of a loop's variables counts up. -/
def upTo2 (n : Int) : List Vc.Vl → Nat
  | _ :: .i x :: _ => (n - x).toNat
  | _ => 0
theorem wrap_up (i : Nat) (h : i < 1000000) : IntKind.i64.wrap ((i : Int) + 1) = ((i + 1 : Nat) : Int) := by rw [Vc.i64_id (by omega)]; omega
theorem wrap_down (j : Nat) (h : j < 1000000) : IntKind.i64.wrap (((j + 1 : Nat) : Int) - 1) = (j : Int) := by rw [Vc.i64_id (by omega)]; omega
section
variable {H : Type} {enc : TypeId × Value → H} {P : Program} {w : World} {base : Nat} {sp : Nat → Bool} {held : Bool}
end
section
variable {H : Type} {enc : TypeId × Value → H} {w : World} {base : Nat} {sp : Nat → Bool} {held : Bool}
end
end Go.Proofs.YtcoakpdafpclpaaGreatDoor
set_option linter.unusedVariables false
namespace Go.Proofs.YtcoakpdafpclpaaGreatDoor
open Go Go.RowKit Ul Vc
attribute [local irreducible] Go.Calls
abbrev Pt := Int × Int × Int
def pc (p : Pt) : List Value := [.int .i64 p.1, .int .i64 p.2.1, .int .i64 p.2.2]
theorem pc_len (p : Pt) : (pc p).length = 3 := rfl
/-- A table, at a slice. -/
def Tab (w : World) (v : Value) (l : List Pt) : Prop := SlAt w v 3 (l.flatMap pc)
theorem tab_form {w : World} {v : Value} {l : List Pt} (h : Tab w v l) : ∃ (b0 : Bool) (p0 : Nat × Nat) (x1 : Int), v = (if b0 = true then .slice none 0 0 else .slice (some (Vc.qad p0 (Int.toNat (l.length : Int)) (Int.toNat x1))) (Int.toNat (l.length : Int)) (Int.toNat x1)) ∧ (b0 = true → l.length = 0) ∧
    ∀ (i : Nat) (p : Pt), l[i]? = some p → w.cell? ⟨p0.1, p0.2 + i * 3 + 0, none⟩ = some (.int .i64 p.1) ∧ w.cell? ⟨p0.1, p0.2 + i * 3 + 1, none⟩ = some (.int .i64 p.2.1) ∧ w.cell? ⟨p0.1, p0.2 + i * 3 + 2, none⟩ = some (.int .i64 p.2.2) := by
  obtain ⟨b0, p0, x1, h1, h2, h3⟩ := sl_form h (by decide) (flat_len pc_len l)
  refine ⟨b0, p0, x1, h1, h2, fun i p hp => ?_⟩
  simp only [Nat.add_assoc]
  exact ⟨h3 (i * 3 + 0) _ (flat_at pc_len hp (by decide)), h3 (i * 3 + 1) _ (flat_at pc_len hp (by decide)), h3 (i * 3 + 2) _ (flat_at pc_len hp (by decide))⟩
def smallB (x : Int) : Bool := decide (-2305843009213693952 ≤ x) && decide (x ≤ 2305843009213693952)
def goodAt (l : List Pt) (i : Nat) : Bool :=
  match l[i]? with
  | none => true
  | some p => smallB p.1 && smallB p.2.1 && smallB p.2.2 && decide (p.2.1 ≤ p.2.2) && (match i with
    | 0 => true
    | j + 1 => match l[j]? with
      | some q => decide (q.1 < p.1)
      | none => true)
/-- CheckTable. -/
def chkT (l : List Pt) : Int := if l.length = 0 ∨ 64 < l.length then 2 else if (List.range l.length).all (goodAt l) = true then 0 else 2
theorem chkT_short {l : List Pt} (h : l.length = 0 ∨ 64 < l.length) : chkT l = 2 := if_pos h
theorem chkT_bad {l : List Pt} {i : Nat} (hi : i < l.length) (h : goodAt l i = false) : chkT l = 2 := by
  unfold chkT
  split
  · rfl
  · rw [if_neg]
    intro ha
    rw [List.all_eq_true.1 ha i (List.mem_range.2 hi)] at h
    cases h
theorem chkT_good {l : List Pt} (h1 : ¬ l.length = 0) (h2 : ¬ 64 < l.length) (h : ∀ j, j < l.length → goodAt l j = true) : chkT l = 0 := by
  unfold chkT
  rw [if_neg (by omega), if_pos (List.all_eq_true.2 fun j hj => h j (List.mem_range.1 hj))]
theorem chkT_ok {l : List Pt} (h : chkT l = 0) : 0 < l.length ∧ l.length ≤ 64 ∧ ∀ j, j < l.length → goodAt l j = true := by
  unfold chkT at h
  split at h
  · cases h
  · split at h
    · rename_i h1 h2
      exact ⟨by omega, by omega, fun j hj => List.all_eq_true.1 h2 j (List.mem_range.2 hj)⟩
    · cases h
theorem in_small (n : Int) : inS (-2305843009213693952) 2305843009213693952 n = smallB n := by
  unfold inS smallB ok; simp
theorem within_small (a b : Int) : within a b (-2305843009213693952) 2305843009213693952 = (smallB a && smallB b && decide (a ≤ b)) := by
  rw [Bool.eq_iff_iff]
  simp only [within, smallB, ok, Bool.and_eq_true, decide_eq_true_eq]
  omega
theorem pchkT {w : World} {v : Value} {l : List Pt} (h : Tab w v l) : Calls Tryz.prog 41 #[v] w (Vc.Ret (.int .i64 (chkT l)) w) := by
  obtain ⟨b0, p0, x1, rfl, hb, hc⟩ := tab_form h
  clear h
  have nb : (¬ (b0 = true)) ∨ ((l.length : Int) = 0) := by
    by_cases hb0 : b0 = true
    · right; have := hb hb0; omega
    · left; exact hb0
  refine vc_span_CheckTable p0 (l.length : Int) x1 b0 w _ ?_
  refine ⟨by omega, nb, ?_⟩
  refine iteI (fun h0 => ?_) (fun h0 => ?_)
  · rw [chkT_short (.inl (by omega))]
  · refine ⟨by omega, nb, ?_⟩
    refine iteI (fun h1 => ?_) (fun h1 => ?_)
    · rw [chkT_short (.inr (by omega))]
    · refine ⟨by omega, nb, ?_⟩
      refine ⟨fun y => ∃ (x : Int) (i : Nat), i ≤ l.length ∧ (∀ j, j < i → goodAt l j = true) ∧ y = [.i x, .i (i : Int)], upTo2 (l.length : Int), ⟨0, 0, by omega, fun j hj => by omega, rfl⟩, ?_⟩
      rintro x2 x3 ⟨x, i, hi, hg, hy⟩
      simp only [List.cons.injEq, Vc.Vl.i.injEq, and_true] at hy
      obtain ⟨rfl, rfl⟩ := hy
      refine iteI (fun h2 => ?_) (fun h2 => ?_)
      · have hlt : i < l.length := by omega
        have hp := List.getElem?_eq_getElem hlt
        generalize l[i] = p at hp
        obtain ⟨c0, c1, c2⟩ := hc i p hp
        have nb0 : ¬ (b0 = true) := fun hb0 => by have := hb hb0; omega
        refine ⟨nb0, by omega, by omega, _, c0, _, c1, _, c2, ?_⟩
        (repeat apply Exists.intro); refine And.intro (fun _ _ => in_any _ _ _ _) ?_
        rw [in_small]
        refine iteI (fun a1 => ?_) (fun a1 => ?_)
        · (repeat apply Exists.intro); refine And.intro (fun _ _ => within_any _ _ _ _ _) ?_
          rw [within_small]
          refine iteI (fun a2 => ?_) (fun a2 => ?_)
          · simp only [Bool.and_eq_true] at a2
            refine iteI (fun a3 => ?_) (fun a3 => ?_)
            · rintro _ rfl
              obtain ⟨j, rfl⟩ : ∃ j, i = j + 1 := ⟨i - 1, by omega⟩
              rw [wrap_down j (by omega)]
              have hq := List.getElem?_eq_getElem (show j < l.length by omega)
              generalize l[j] = q at hq
              refine ⟨nb0, by omega, by omega, _, (hc j q hq).1, ?_⟩
              refine iteI (fun a4 => ?_) (fun a4 => ?_)
              · rw [chkT_bad hlt (by simp only [goodAt, hp, hq]; simp; omega)]
              · rintro _ rfl
                have hgood : goodAt l (j + 1) = true := by
                  simp only [goodAt, hp, hq, a1, a2.1.1, a2.1.2, a2.2, Bool.and_true, Bool.true_and]
                  simp; omega
                have ew := wrap_up (j + 1) (by omega)
                rw [ew]
                generalize hie : j + 1 = i at *
                refine ⟨⟨_, i + 1, by omega, fun j hj => ?_, rfl⟩, by simp only [upTo2]; omega⟩
                by_cases hji : j = i
                · subst hji; exact hgood
                · exact hg j (by omega)
            · rintro _ rfl
              obtain rfl : i = 0 := by omega
              have hgood : goodAt l 0 = true := by
                simp only [goodAt, hp, a1, a2.1.1, a2.1.2, a2.2, Bool.and_true, Bool.true_and]
              rw [wrap_up 0 (by omega)]
              generalize hie : 0 = i at *
              refine ⟨⟨_, i + 1, by omega, fun j hj => ?_, rfl⟩, by simp only [upTo2]; omega⟩
              by_cases hji : j = i
              · subst hji; exact hgood
              · exact hg j (by omega)
          · rw [chkT_bad hlt (by
              cases i with
              | zero => simp only [goodAt, hp]; simp at a2 ⊢; intro g1 g2 g3; exact a2 g2 g3
              | succ j => simp only [goodAt, hp]; simp at a2 ⊢; intro g1 g2 g3 g4; have := a2 g2 g3; omega)]
        · rw [chkT_bad hlt (by
            have : smallB p.1 = false := by simpa using a1
            cases i <;> simp [goodAt, hp, this])]
      · rw [chkT_good (by omega) (by omega) fun j hj => hg j (by omega)]
end Go.Proofs.YtcoakpdafpclpaaGreatDoor
set_option linter.unusedVariables false
namespace Go.Proofs.YtcoakpdafpclpaaGreatDoor
open Go Go.RowKit Ul Vc
attribute [local irreducible] Go.Calls
def bdP (up : Bool) (p : Pt) : Int := if up then p.2.2 else p.2.1
def bdAt (l : List Pt) (up : Bool) (i : Nat) : Int := ((l[i]?).map (bdP up)).getD 0
def atX (l : List Pt) (i : Nat) : Int := ((l[i]?).map (·.1)).getD 0
/-- How many points lie ahead of a place. -/
def ahead : List Pt → Int → Nat
  | [], _ => 0
  | p :: l, x => if p.1 < x then ahead l x + 1 else 0
theorem ahead_eq : ∀ {l : List Pt} {x : Int} {i : Nat}, i ≤ l.length → (∀ j p, j < i → l[j]? = some p → p.1 < x) → (∀ p, l[i]? = some p → ¬ p.1 < x) → ahead l x = i
  | [], x, i, h, _, _ => by simp at h; simp [ahead, h]
  | p :: l, x, 0, _, _, h3 => by simp only [ahead]; rw [if_neg (h3 p rfl)]
  | p :: l, x, i + 1, h1, h2, h3 => by
    simp only [ahead]
    rw [if_pos (h2 0 p (by omega) rfl), ahead_eq (l := l) (i := i) (by simpa using h1) (fun j q hj hq => h2 (j + 1) q (by omega) (by simpa using hq)) (fun q hq => h3 q (by simpa using hq))]
def ofP (b : Int) : Bool × Int := (decide (b < 0), absI b)
theorem ofP_sv (b : Int) : svp (ofP b) = b := by
  unfold svp ofP sv absI
  by_cases h : b < 0 <;> simp [h]
/-- Between two points: as the program has it. -/
def mixD (a b f t x : Int) : Bool × Int :=
  (plN (decide (a < 0)) (absI a) (decide (b - a < 0) != decide (x - f < 0)) (qdn (decide (b - a < 0) != decide (x - f < 0)) (absI (b - a) * absI (x - f)) (absI (t - f))),
   plM (decide (a < 0)) (absI a) (decide (b - a < 0) != decide (x - f < 0)) (qdn (decide (b - a < 0) != decide (x - f < 0)) (absI (b - a) * absI (x - f)) (absI (t - f))))
def mixU (a b f t x : Int) : Bool × Int :=
  (plN (decide (a < 0)) (absI a) (decide (b - a < 0) != decide (x - f < 0)) (qup (decide (b - a < 0) != decide (x - f < 0)) (absI (b - a) * absI (x - f)) (absI (t - f))),
   plM (decide (a < 0)) (absI a) (decide (b - a < 0) != decide (x - f < 0)) (qup (decide (b - a < 0) != decide (x - f < 0)) (absI (b - a) * absI (x - f)) (absI (t - f))))
theorem absI_gt {y : Int} (h : 0 < y) : absI y = y := by unfold absI; rw [if_neg (by omega)]
theorem mix_sv (a b f t x : Int) (h : 0 < t - f) : svp (mixD a b f t x) = a + fl ((b - a) * (x - f)) (t - f) ∧ svp (mixU a b f t x) = a + ce ((b - a) * (x - f)) (t - f) := by
  have e := sv_mul (b - a) (x - f)
  have ea := ofP_sv a
  unfold svp ofP at ea
  simp only at ea
  unfold svp mixD mixU
  simp only
  rw [pl_sv, pl_sv, (q_sv _ _ _).1, (q_sv _ _ _).2, absI_gt h, ea]
  exact ⟨by rw [← e], by rw [← e]⟩
/-- What the line has at a place. -/
def lineV (l : List Pt) (up : Bool) (x : Int) : Int × Int :=
  if ahead l x = 0 then (bdAt l up 0, bdAt l up 0)
  else if ahead l x = l.length then (bdAt l up (l.length - 1), bdAt l up (l.length - 1))
  else (bdAt l up (ahead l x - 1) + fl ((bdAt l up (ahead l x) - bdAt l up (ahead l x - 1)) * (x - atX l (ahead l x - 1))) (atX l (ahead l x) - atX l (ahead l x - 1)),
        bdAt l up (ahead l x - 1) + ce ((bdAt l up (ahead l x) - bdAt l up (ahead l x - 1)) * (x - atX l (ahead l x - 1))) (atX l (ahead l x) - atX l (ahead l x - 1)))
/-- The same as the program's wide numbers. -/
def valD (l : List Pt) (up : Bool) (x : Int) : Bool × Int :=
  if ahead l x = 0 then ofP (bdAt l up 0)
  else if ahead l x = l.length then ofP (bdAt l up (l.length - 1))
  else if atX l (ahead l x) = x then ofP (bdAt l up (ahead l x))
  else mixD (bdAt l up (ahead l x - 1)) (bdAt l up (ahead l x)) (atX l (ahead l x - 1)) (atX l (ahead l x)) x
def valU (l : List Pt) (up : Bool) (x : Int) : Bool × Int :=
  if ahead l x = 0 then ofP (bdAt l up 0)
  else if ahead l x = l.length then ofP (bdAt l up (l.length - 1))
  else if atX l (ahead l x) = x then ofP (bdAt l up (ahead l x))
  else mixU (bdAt l up (ahead l x - 1)) (bdAt l up (ahead l x)) (atX l (ahead l x - 1)) (atX l (ahead l x)) x
theorem smallB_iff {x : Int} : smallB x = true ↔ -2305843009213693952 ≤ x ∧ x ≤ 2305843009213693952 := by unfold smallB; simp
theorem good_small {l : List Pt} {i : Nat} {p : Pt} (h : goodAt l i = true) (hp : l[i]? = some p) :
    (-2305843009213693952 ≤ p.1 ∧ p.1 ≤ 2305843009213693952) ∧ (-2305843009213693952 ≤ p.2.1 ∧ p.2.1 ≤ 2305843009213693952) ∧ (-2305843009213693952 ≤ p.2.2 ∧ p.2.2 ≤ 2305843009213693952) ∧ p.2.1 ≤ p.2.2 := by
  unfold goodAt at h
  rw [hp] at h
  simp only [Bool.and_eq_true, decide_eq_true_eq, smallB_iff] at h
  exact ⟨h.1.1.1.1, h.1.1.1.2, h.1.1.2, h.1.2⟩
theorem good_incr {l : List Pt} {j : Nat} {p q : Pt} (h : goodAt l (j + 1) = true) (hp : l[j + 1]? = some p) (hq : l[j]? = some q) : q.1 < p.1 := by
  unfold goodAt at h
  rw [hp] at h
  simp only [hq, Bool.and_eq_true, decide_eq_true_eq] at h
  exact h.2
theorem bdAt_some {l : List Pt} {up : Bool} {i : Nat} {p : Pt} (h : l[i]? = some p) : bdAt l up i = bdP up p := by unfold bdAt; rw [h]; rfl
theorem atX_some {l : List Pt} {i : Nat} {p : Pt} (h : l[i]? = some p) : atX l i = p.1 := by unfold atX; rw [h]; rfl
theorem bdP_small {up : Bool} {p : Pt} (h1 : -2305843009213693952 ≤ p.2.1 ∧ p.2.1 ≤ 2305843009213693952) (h2 : -2305843009213693952 ≤ p.2.2 ∧ p.2.2 ≤ 2305843009213693952) : -2305843009213693952 ≤ bdP up p ∧ bdP up p ≤ 2305843009213693952 := by
  unfold bdP; split <;> assumption
theorem fl_mul (m d : Int) (h : 0 < d) : fl (m * d) d = m ∧ ce (m * d) d = m := by
  unfold fl ce
  rw [← Int.neg_mul, Int.mul_ediv_cancel _ (by omega), Int.mul_ediv_cancel _ (by omega)]
  omega
/-- Both mean the same. -/
theorem val_sv {l : List Pt} (hk : chkT l = 0) (up : Bool) (x : Int) : svp (valD l up x) = (lineV l up x).1 ∧ svp (valU l up x) = (lineV l up x).2 := by
  obtain ⟨k0, k1, kg⟩ := chkT_ok hk
  unfold valD valU lineV
  by_cases h0 : ahead l x = 0
  · simp only [if_pos h0, ofP_sv, and_self]
  · simp only [if_neg h0]
    by_cases h1 : ahead l x = l.length
    · simp only [if_pos h1, ofP_sv, and_self]
    · simp only [if_neg h1]
      have hle : ∀ (l : List Pt), ahead l x ≤ l.length := by
        intro l
        induction l with
        | nil => simp [ahead]
        | cons p l ih => simp only [ahead]; split <;> simp <;> omega
      have hl := hle l
      obtain ⟨j, hj⟩ : ∃ j, ahead l x = j + 1 := ⟨ahead l x - 1, by omega⟩
      rw [hj] at h1 hl ⊢
      have hp := List.getElem?_eq_getElem (show j + 1 < l.length by omega)
      have hq := List.getElem?_eq_getElem (show j < l.length by omega)
      generalize l[j + 1] = p at hp
      generalize l[j] = q at hq
      have hinc := good_incr (kg (j + 1) (by omega)) hp hq
      simp only [Nat.add_sub_cancel, bdAt_some hp, bdAt_some hq, atX_some hp, atX_some hq]
      by_cases h2 : p.1 = x
      · simp only [if_pos h2, ofP_sv]
        subst h2
        obtain ⟨e1, e2⟩ := fl_mul (bdP up p - bdP up q) (p.1 - q.1) (by omega)
        rw [e1, e2]
        omega
      · simp only [if_neg h2]
        exact mix_sv _ _ _ _ _ (by omega)
theorem prod_le (u v : Int) (hu : -4611686018427387904 ≤ u ∧ u ≤ 4611686018427387904) (hv : 0 ≤ v ∧ v ≤ 4611686018427387904) : -21267647932558653966460912964485513216 ≤ u * v ∧ u * v ≤ 21267647932558653966460912964485513216 := by
  have h1 := mul_le_of (absI u) v 4611686018427387904 4611686018427387904 (by unfold absI; split <;> omega) (by omega) (by unfold absI; split <;> omega) hv.2
  have h2 : absI u * v = u * v ∨ absI u * v = -(u * v) := by
    unfold absI; split
    · right; rw [Int.neg_mul]
    · left; rfl
  have h3 : 0 ≤ absI u * v := Int.mul_nonneg (by unfold absI; split <;> omega) hv.1
  omega
theorem ahead_spec : ∀ (l : List Pt) (x : Int), ahead l x ≤ l.length ∧ (∀ j p, j < ahead l x → l[j]? = some p → p.1 < x) ∧ ∀ p, l[ahead l x]? = some p → ¬ p.1 < x
  | [], x => ⟨by simp [ahead], fun j p hj => by simp [ahead] at hj, fun p hp => by simp at hp⟩
  | q :: l, x => by
    obtain ⟨h1, h2, h3⟩ := ahead_spec l x
    simp only [ahead]
    split
    · rename_i hq
      refine ⟨by simp; omega, fun j p hj hp => ?_, fun p hp => h3 p (by simpa using hp)⟩
      cases j with
      | zero => simp at hp; subst hp; exact hq
      | succ j => exact h2 j p (by omega) (by simpa using hp)
    · rename_i hq
      exact ⟨by simp, fun j p hj => by omega, fun p hp => by simp at hp; subst hp; exact hq⟩
theorem ediv_bd (N d B : Int) (hd : 0 < d) (h1 : -B ≤ N) (h2 : N ≤ B) : -B ≤ N / d ∧ N / d ≤ B := by
  have hB : B ≤ B * d := by
    have := Int.mul_le_mul_of_nonneg_left (show 1 ≤ d by omega) (show 0 ≤ B by omega)
    omega
  constructor
  · refine (Int.le_ediv_iff_mul_le hd).2 ?_
    rw [Int.neg_mul]; omega
  · exact Int.ediv_le_of_le_mul hd (by omega)
/-- How large they are. -/
theorem val_bd {l : List Pt} (hk : chkT l = 0) (up : Bool) (x : Int) (hx : I64 x) : (0 ≤ (valD l up x).2 ∧ 0 ≤ (valU l up x).2) ∧ (-42535295865117307932921825928971026432 ≤ (lineV l up x).1 ∧ (lineV l up x).1 ≤ 42535295865117307932921825928971026432) ∧ (-42535295865117307932921825928971026432 ≤ (lineV l up x).2 ∧ (lineV l up x).2 ≤ 42535295865117307932921825928971026432) := by
  obtain ⟨k0, k1, kg⟩ := chkT_ok hk
  obtain ⟨a1, a2, a3⟩ := ahead_spec l x
  have nn : ∀ b, 0 ≤ (ofP b).2 := fun b => by unfold ofP absI; simp only; split <;> omega
  have sm : ∀ i p, l[i]? = some p → -2305843009213693952 ≤ bdP up p ∧ bdP up p ≤ 2305843009213693952 := fun i p hp => by
    have g := good_small (kg i (List.getElem?_eq_some_iff.1 hp).1) hp
    exact bdP_small g.2.1 g.2.2.1
  unfold valD valU lineV
  by_cases h0 : ahead l x = 0
  · simp only [if_pos h0]
    have hp := List.getElem?_eq_getElem k0
    have := sm 0 _ hp
    rw [bdAt_some hp]
    exact ⟨⟨nn _, nn _⟩, ⟨by omega, by omega⟩, by omega, by omega⟩
  · simp only [if_neg h0]
    by_cases h1 : ahead l x = l.length
    · simp only [if_pos h1]
      have hp := List.getElem?_eq_getElem (show l.length - 1 < l.length by omega)
      have := sm _ _ hp
      rw [bdAt_some hp]
      exact ⟨⟨nn _, nn _⟩, ⟨by omega, by omega⟩, by omega, by omega⟩
    · simp only [if_neg h1]
      obtain ⟨j, hj⟩ : ∃ j, ahead l x = j + 1 := ⟨ahead l x - 1, by omega⟩
      rw [hj] at h1 a1 a2 a3 ⊢
      have hp := List.getElem?_eq_getElem (show j + 1 < l.length by omega)
      have hq := List.getElem?_eq_getElem (show j < l.length by omega)
      generalize l[j + 1] = p at hp
      generalize l[j] = q at hq
      have hinc := good_incr (kg (j + 1) (by omega)) hp hq
      have gp := good_small (kg (j + 1) (by omega)) hp
      have gq := good_small (kg j (by omega)) hq
      have sp := sm _ _ hp
      have sq := sm _ _ hq
      have x1 := a2 j q (by omega) hq
      have x2 := a3 p hp
      simp only [Nat.add_sub_cancel, bdAt_some hp, bdAt_some hq, atX_some hp, atX_some hq]
      have pr := prod_le (bdP up p - bdP up q) (x - q.1) (by omega) (by omega)
      have e1 := ediv_bd _ (p.1 - q.1) 21267647932558653966460912964485513216 (by omega) pr.1 pr.2
      have e2 := ediv_bd (-((bdP up p - bdP up q) * (x - q.1))) (p.1 - q.1) 21267647932558653966460912964485513216 (by omega) (by omega) (by omega)
      refine ⟨?_, ⟨by unfold fl; omega, by unfold fl; omega⟩, by unfold ce; omega, by unfold ce; omega⟩
      split
      · exact ⟨nn _, nn _⟩
      · have ab : ∀ y : Int, 0 ≤ absI y := fun y => by unfold absI; split <;> omega
        have q0 := qdn_0 (decide (bdP up p - bdP up q < 0) != decide (x - q.1 < 0)) (absI (bdP up p - bdP up q) * absI (x - q.1)) (absI (p.1 - q.1)) (Int.mul_nonneg (ab _) (ab _)) (by rw [absI_gt (by omega)]; omega)
        exact ⟨pl_pos _ _ _ _ (ab _) q0.1, pl_pos _ _ _ _ (ab _) q0.2.1⟩
theorem lk_lo (p : Pt) (w : World) : Calls Tryz.prog 44 #[Vc.S p.2.1 p.2.2] w (Vc.Ret (.int .i64 (bdP false p)) w) := vc_span_Look_1_1 _ _ w _ rfl
theorem lk_hi (p : Pt) (w : World) : Calls Tryz.prog 45 #[Vc.S p.2.1 p.2.2] w (Vc.Ret (.int .i64 (bdP true p)) w) := vc_span_Look_1_2 _ _ w _ rfl
theorem pval_lo {w : World} {v : Value} {l : List Pt} (h : Tab w v l) (hk : chkT l = 0) (x : Int) (hx : I64 x) :
    Calls Tryz.prog 43 #[v, .int .i64 x, .func (.func 44) #[] #[]] w (Vc.Ret (.tuple #[VP (valD l false x), VP (valU l false x)]) w) := by
  obtain ⟨k0, k1, kg⟩ := chkT_ok hk
  obtain ⟨b0, p0, x1, rfl, hb, hc⟩ := tab_form h
  clear h
  have nb0 : ¬ (b0 = true) := fun hb0 => by have := hb hb0; omega
  have nb : (¬ (b0 = true)) ∨ ((l.length : Int) = 0) := .inl nb0
  have wl : IntKind.i64.wrap ((l.length : Int) - 1) = (l.length : Int) - 1 := Vc.i64_id (by omega)
  refine vc_span_value_lo p0 (l.length : Int) x1 x b0 w _ ?_
  refine ⟨fun y => ∃ i : Nat, i ≤ l.length ∧ (∀ j p, j < i → l[j]? = some p → p.1 < x) ∧ y = [.i (i : Int)], upTo (l.length : Int), ⟨0, by omega, fun j p hj => by omega, rfl⟩, ?_⟩
  rintro x3 ⟨i, hi, hg, hy⟩
  simp only [List.cons.injEq, Vc.Vl.i.injEq, and_true] at hy
  subst hy
  refine ⟨by omega, nb, ?_⟩
  refine iteI (fun h1 => ?_) (fun h1 => ?_)
  · have hlt : i < l.length := by omega
    have hp := List.getElem?_eq_getElem hlt
    generalize l[i] = p at hp
    obtain ⟨c0, c1, c2⟩ := hc i p hp
    refine ⟨nb0, by omega, by omega, _, c0, ?_⟩
    refine iteI (fun h2 => ?_) (fun h2 => ?_)
    · rintro _ rfl
      rw [wrap_up i (by omega)]
      refine ⟨⟨i + 1, by omega, fun j q hj hq => ?_, rfl⟩, by simp only [upTo]; omega⟩
      by_cases hji : j = i
      · subst hji; rw [hp] at hq; cases hq; exact h2
      · exact hg j q (by omega) hq
    · have hah : ahead l x = i := ahead_eq hi hg (fun q hq => by rw [hp] at hq; cases hq; exact h2)
      refine iteI (fun h3 => ?_) (fun h3 => ?_)
      · obtain ⟨k, hkl, ek, hvd, hvu⟩ : ∃ k : Nat, k < l.length ∧ (if IntKind.i64.wrap ((l.length : Int) - 1) < (i : Int) then IntKind.i64.wrap ((l.length : Int) - 1) else (i : Int)) = (k : Int) ∧ valD l false x = ofP (bdAt l false k) ∧ valU l false x = ofP (bdAt l false k) :=
          ⟨0, by omega, by rw [wl]; split <;> omega, by unfold valD; rw [if_pos (by omega)], by unfold valU; rw [if_pos (by omega)]⟩
        have hpk := List.getElem?_eq_getElem hkl
        generalize l[k] = pk at hpk
        obtain ⟨d0, d1, d2⟩ := hc k pk hpk
        have gk := good_small (kg k hkl) hpk
        have ig := bdP_small (up := false) gk.2.1 gk.2.2.1
        have ev := hvd
        have eu := hvu
        rw [bdAt_some hpk] at ev eu
        refine ⟨by omega, nb, ?_⟩
        rintro _ rfl
        rintro _ rfl
        rw [ek]
        refine ⟨nb0, by omega, by omega, _, d1, _, d2, ?_⟩
        (repeat apply Exists.intro); refine And.intro (fun _ _ => lk_lo pk _) ?_
        (repeat apply Exists.intro); refine And.intro (fun _ _ => pof_any (bdP false pk) _ (by constructor <;> omega)) ?_
        rw [ev, eu]
        rfl
      · refine ⟨by omega, nb, ?_⟩
        refine iteI (fun h4 => ?_) (fun h4 => ?_)
        · exfalso; omega
        · refine ⟨nb0, by omega, by omega, _, c0, ?_⟩
          refine iteI (fun h5 => ?_) (fun h5 => ?_)
          · obtain ⟨k, hkl, ek, hvd, hvu⟩ : ∃ k : Nat, k < l.length ∧ (if IntKind.i64.wrap ((l.length : Int) - 1) < (i : Int) then IntKind.i64.wrap ((l.length : Int) - 1) else (i : Int)) = (k : Int) ∧ valD l false x = ofP (bdAt l false k) ∧ valU l false x = ofP (bdAt l false k) :=
              ⟨i, by omega, by rw [wl]; split <;> omega, by unfold valD; rw [hah, if_neg (by omega), if_neg (by omega), if_pos (by rw [atX_some hp]; exact h5)], by unfold valU; rw [hah, if_neg (by omega), if_neg (by omega), if_pos (by rw [atX_some hp]; exact h5)]⟩
            have hpk := List.getElem?_eq_getElem hkl
            generalize l[k] = pk at hpk
            obtain ⟨d0, d1, d2⟩ := hc k pk hpk
            have gk := good_small (kg k hkl) hpk
            have ig := bdP_small (up := false) gk.2.1 gk.2.2.1
            have ev := hvd
            have eu := hvu
            rw [bdAt_some hpk] at ev eu
            refine ⟨by omega, nb, ?_⟩
            rintro _ rfl
            rintro _ rfl
            rw [ek]
            refine ⟨nb0, by omega, by omega, _, d1, _, d2, ?_⟩
            (repeat apply Exists.intro); refine And.intro (fun _ _ => lk_lo pk _) ?_
            (repeat apply Exists.intro); refine And.intro (fun _ _ => pof_any (bdP false pk) _ (by constructor <;> omega)) ?_
            rw [ev, eu]
            rfl
          · have hvd : valD l false x = mixD (bdAt l false (i - 1)) (bdAt l false i) (atX l (i - 1)) (atX l i) x := by unfold valD; rw [hah, if_neg (by omega), if_neg (by omega), if_neg (by rw [atX_some hp]; exact h5)]
            have hvu : valU l false x = mixU (bdAt l false (i - 1)) (bdAt l false i) (atX l (i - 1)) (atX l i) x := by unfold valU; rw [hah, if_neg (by omega), if_neg (by omega), if_neg (by rw [atX_some hp]; exact h5)]
            obtain ⟨j, rfl⟩ : ∃ j, i = j + 1 := ⟨i - 1, by omega⟩
            have hq := List.getElem?_eq_getElem (show j < l.length by omega)
            generalize l[j] = q at hq
            obtain ⟨e0, e1, e2⟩ := hc j q hq
            have hinc := good_incr (kg (j + 1) (by omega)) hp hq
            have gp := good_small (kg (j + 1) (by omega)) hp
            have gq := good_small (kg j (by omega)) hq
            have sp := bdP_small (up := false) gp.2.1 gp.2.2.1
            have sq := bdP_small (up := false) gq.2.1 gq.2.2.1
            have y1 := hg j q (by omega) hq
            have ab : ∀ y : Int, 0 ≤ absI y := fun y => by unfold absI; split <;> omega
            rintro _ rfl
            rw [wrap_down j (by omega)]
            refine ⟨nb0, by omega, by omega, _, e0, _, e1, _, e2, nb0, by omega, by omega, _, c0, _, c1, _, c2, ?_⟩
            (repeat apply Exists.intro); refine And.intro (fun _ _ => lk_lo q _) ?_
            (repeat apply Exists.intro); refine And.intro (fun _ _ => lk_lo p _) ?_
            rintro _ rfl
            rintro _ rfl
            have w1 : IntKind.i64.wrap (bdP false p - bdP false q) = bdP false p - bdP false q := Vc.i64_id (by omega)
            have w2 : IntKind.i64.wrap (x - q.1) = x - q.1 := Vc.i64_id (by omega)
            have w3 : IntKind.i64.wrap (p.1 - q.1) = p.1 - q.1 := Vc.i64_id (by omega)
            have xa := absI_bd (bdP false p - bdP false q) (by omega) (by omega)
            have xb := absI_bd (x - q.1) (by omega) (by omega)
            have u1 : absI (bdP false p - bdP false q) ≤ 4611686018427387904 := by unfold absI; split <;> omega
            have u2 : absI (x - q.1) ≤ 4611686018427387904 := by unfold absI; split <;> omega
            have um := mul_le_of (absI (bdP false p - bdP false q)) (absI (x - q.1)) 4611686018427387904 4611686018427387904 (ab _) (ab _) u1 u2
            have um0 := Int.mul_nonneg (ab (bdP false p - bdP false q)) (ab (x - q.1))
            have ey := absI_gt (y := p.1 - q.1) (by omega)
            have eb := hiW_small (absI (p.1 - q.1)) (by omega) (by omega)
            have ev := hvd
            have eu := hvu
            simp only [Nat.add_sub_cancel, bdAt_some hp, bdAt_some hq, atX_some hp, atX_some hq] at ev eu
            have q0 := qdn_0 (decide (bdP false p - bdP false q < 0) != decide (x - q.1 < 0)) (absI (bdP false p - bdP false q) * absI (x - q.1)) (absI (p.1 - q.1)) um0 (by omega)
            have au : absI (bdP false q) ≤ 2305843009213693952 := by unfold absI; split <;> omega
            have t1 := fun w => ptimes_any (bdP false p - bdP false q) (x - q.1) w (by constructor <;> omega) (by constructor <;> omega)
            have t2 := fun w => pof_any (p.1 - q.1) w (by constructor <;> omega)
            have t3 := fun w => divide_1 (decide (bdP false p - bdP false q < 0) != decide (x - q.1 < 0)) (decide (p.1 - q.1 < 0)) (absI (bdP false p - bdP false q) * absI (x - q.1)) (absI (p.1 - q.1)) w um0 (by omega) (by omega) (by omega)
            have t4 := fun w => pof_any (bdP false q) w (by constructor <;> omega)
            have t5 := fun w => plus_any (decide (bdP false q < 0)) (decide (bdP false p - bdP false q < 0) != decide (x - q.1 < 0)) (absI (bdP false q)) (qdn (decide (bdP false p - bdP false q < 0) != decide (x - q.1 < 0)) (absI (bdP false p - bdP false q) * absI (x - q.1)) (absI (p.1 - q.1))) w ⟨ab _, by omega⟩ ⟨q0.1, by omega⟩ (by omega)
            have t6 := fun w => plus_any (decide (bdP false q < 0)) (decide (bdP false p - bdP false q < 0) != decide (x - q.1 < 0)) (absI (bdP false q)) (qup (decide (bdP false p - bdP false q < 0) != decide (x - q.1 < 0)) (absI (bdP false p - bdP false q) * absI (x - q.1)) (absI (p.1 - q.1))) w ⟨ab _, by omega⟩ ⟨q0.2.1, by omega⟩ (by omega)
            rw [w1, w2]
            (repeat apply Exists.intro); refine And.intro (fun _ _ => t1 _) ?_
            rintro _ rfl
            rw [w3]
            (repeat apply Exists.intro); refine And.intro (fun _ _ => t2 _) ?_
            rw [eb.1, eb.2]
            (repeat apply Exists.intro); refine And.intro (fun _ _ => t3 _) ?_
            (repeat apply Exists.intro); refine And.intro (fun _ _ => t4 _) ?_
            (repeat apply Exists.intro); refine And.intro (fun _ _ => t5 _) ?_
            (repeat apply Exists.intro); refine And.intro (fun _ _ => t4 _) ?_
            (repeat apply Exists.intro); refine And.intro (fun _ _ => t6 _) ?_
            rw [ev, eu]
            rfl
  · have hah : ahead l x = i := ahead_eq hi hg (fun q hq => by have := (List.getElem?_eq_some_iff.1 hq).1; omega)
    refine iteI (fun h3 => ?_) (fun h3 => ?_)
    · exfalso; omega
    · refine ⟨by omega, nb, ?_⟩
      refine iteI (fun h4 => ?_) (fun h4 => ?_)
      · obtain ⟨k, hkl, ek, hvd, hvu⟩ : ∃ k : Nat, k < l.length ∧ (if IntKind.i64.wrap ((l.length : Int) - 1) < (i : Int) then IntKind.i64.wrap ((l.length : Int) - 1) else (i : Int)) = (k : Int) ∧ valD l false x = ofP (bdAt l false k) ∧ valU l false x = ofP (bdAt l false k) :=
          ⟨l.length - 1, by omega, by rw [wl]; split <;> omega, by unfold valD; rw [if_neg (by omega), if_pos (by omega)], by unfold valU; rw [if_neg (by omega), if_pos (by omega)]⟩
        have hpk := List.getElem?_eq_getElem hkl
        generalize l[k] = pk at hpk
        obtain ⟨d0, d1, d2⟩ := hc k pk hpk
        have gk := good_small (kg k hkl) hpk
        have ig := bdP_small (up := false) gk.2.1 gk.2.2.1
        have ev := hvd
        have eu := hvu
        rw [bdAt_some hpk] at ev eu
        refine ⟨by omega, nb, ?_⟩
        rintro _ rfl
        rintro _ rfl
        rw [ek]
        refine ⟨nb0, by omega, by omega, _, d1, _, d2, ?_⟩
        (repeat apply Exists.intro); refine And.intro (fun _ _ => lk_lo pk _) ?_
        (repeat apply Exists.intro); refine And.intro (fun _ _ => pof_any (bdP false pk) _ (by constructor <;> omega)) ?_
        rw [ev, eu]
        rfl
      · exfalso; omega
theorem pval_hi {w : World} {v : Value} {l : List Pt} (h : Tab w v l) (hk : chkT l = 0) (x : Int) (hx : I64 x) :
    Calls Tryz.prog 43 #[v, .int .i64 x, .func (.func 45) #[] #[]] w (Vc.Ret (.tuple #[VP (valD l true x), VP (valU l true x)]) w) := by
  obtain ⟨k0, k1, kg⟩ := chkT_ok hk
  obtain ⟨b0, p0, x1, rfl, hb, hc⟩ := tab_form h
  clear h
  have nb0 : ¬ (b0 = true) := fun hb0 => by have := hb hb0; omega
  have nb : (¬ (b0 = true)) ∨ ((l.length : Int) = 0) := .inl nb0
  have wl : IntKind.i64.wrap ((l.length : Int) - 1) = (l.length : Int) - 1 := Vc.i64_id (by omega)
  refine vc_span_value_hi p0 (l.length : Int) x1 x b0 w _ ?_
  refine ⟨fun y => ∃ i : Nat, i ≤ l.length ∧ (∀ j p, j < i → l[j]? = some p → p.1 < x) ∧ y = [.i (i : Int)], upTo (l.length : Int), ⟨0, by omega, fun j p hj => by omega, rfl⟩, ?_⟩
  rintro x3 ⟨i, hi, hg, hy⟩
  simp only [List.cons.injEq, Vc.Vl.i.injEq, and_true] at hy
  subst hy
  refine ⟨by omega, nb, ?_⟩
  refine iteI (fun h1 => ?_) (fun h1 => ?_)
  · have hlt : i < l.length := by omega
    have hp := List.getElem?_eq_getElem hlt
    generalize l[i] = p at hp
    obtain ⟨c0, c1, c2⟩ := hc i p hp
    refine ⟨nb0, by omega, by omega, _, c0, ?_⟩
    refine iteI (fun h2 => ?_) (fun h2 => ?_)
    · rintro _ rfl
      rw [wrap_up i (by omega)]
      refine ⟨⟨i + 1, by omega, fun j q hj hq => ?_, rfl⟩, by simp only [upTo]; omega⟩
      by_cases hji : j = i
      · subst hji; rw [hp] at hq; cases hq; exact h2
      · exact hg j q (by omega) hq
    · have hah : ahead l x = i := ahead_eq hi hg (fun q hq => by rw [hp] at hq; cases hq; exact h2)
      refine iteI (fun h3 => ?_) (fun h3 => ?_)
      · obtain ⟨k, hkl, ek, hvd, hvu⟩ : ∃ k : Nat, k < l.length ∧ (if IntKind.i64.wrap ((l.length : Int) - 1) < (i : Int) then IntKind.i64.wrap ((l.length : Int) - 1) else (i : Int)) = (k : Int) ∧ valD l true x = ofP (bdAt l true k) ∧ valU l true x = ofP (bdAt l true k) :=
          ⟨0, by omega, by rw [wl]; split <;> omega, by unfold valD; rw [if_pos (by omega)], by unfold valU; rw [if_pos (by omega)]⟩
        have hpk := List.getElem?_eq_getElem hkl
        generalize l[k] = pk at hpk
        obtain ⟨d0, d1, d2⟩ := hc k pk hpk
        have gk := good_small (kg k hkl) hpk
        have ig := bdP_small (up := true) gk.2.1 gk.2.2.1
        have ev := hvd
        have eu := hvu
        rw [bdAt_some hpk] at ev eu
        refine ⟨by omega, nb, ?_⟩
        rintro _ rfl
        rintro _ rfl
        rw [ek]
        refine ⟨nb0, by omega, by omega, _, d1, _, d2, ?_⟩
        (repeat apply Exists.intro); refine And.intro (fun _ _ => lk_hi pk _) ?_
        (repeat apply Exists.intro); refine And.intro (fun _ _ => pof_any (bdP true pk) _ (by constructor <;> omega)) ?_
        rw [ev, eu]
        rfl
      · refine ⟨by omega, nb, ?_⟩
        refine iteI (fun h4 => ?_) (fun h4 => ?_)
        · exfalso; omega
        · refine ⟨nb0, by omega, by omega, _, c0, ?_⟩
          refine iteI (fun h5 => ?_) (fun h5 => ?_)
          · obtain ⟨k, hkl, ek, hvd, hvu⟩ : ∃ k : Nat, k < l.length ∧ (if IntKind.i64.wrap ((l.length : Int) - 1) < (i : Int) then IntKind.i64.wrap ((l.length : Int) - 1) else (i : Int)) = (k : Int) ∧ valD l true x = ofP (bdAt l true k) ∧ valU l true x = ofP (bdAt l true k) :=
              ⟨i, by omega, by rw [wl]; split <;> omega, by unfold valD; rw [hah, if_neg (by omega), if_neg (by omega), if_pos (by rw [atX_some hp]; exact h5)], by unfold valU; rw [hah, if_neg (by omega), if_neg (by omega), if_pos (by rw [atX_some hp]; exact h5)]⟩
            have hpk := List.getElem?_eq_getElem hkl
            generalize l[k] = pk at hpk
            obtain ⟨d0, d1, d2⟩ := hc k pk hpk
            have gk := good_small (kg k hkl) hpk
            have ig := bdP_small (up := true) gk.2.1 gk.2.2.1
            have ev := hvd
            have eu := hvu
            rw [bdAt_some hpk] at ev eu
            refine ⟨by omega, nb, ?_⟩
            rintro _ rfl
            rintro _ rfl
            rw [ek]
            refine ⟨nb0, by omega, by omega, _, d1, _, d2, ?_⟩
            (repeat apply Exists.intro); refine And.intro (fun _ _ => lk_hi pk _) ?_
            (repeat apply Exists.intro); refine And.intro (fun _ _ => pof_any (bdP true pk) _ (by constructor <;> omega)) ?_
            rw [ev, eu]
            rfl
          · have hvd : valD l true x = mixD (bdAt l true (i - 1)) (bdAt l true i) (atX l (i - 1)) (atX l i) x := by unfold valD; rw [hah, if_neg (by omega), if_neg (by omega), if_neg (by rw [atX_some hp]; exact h5)]
            have hvu : valU l true x = mixU (bdAt l true (i - 1)) (bdAt l true i) (atX l (i - 1)) (atX l i) x := by unfold valU; rw [hah, if_neg (by omega), if_neg (by omega), if_neg (by rw [atX_some hp]; exact h5)]
            obtain ⟨j, rfl⟩ : ∃ j, i = j + 1 := ⟨i - 1, by omega⟩
            have hq := List.getElem?_eq_getElem (show j < l.length by omega)
            generalize l[j] = q at hq
            obtain ⟨e0, e1, e2⟩ := hc j q hq
            have hinc := good_incr (kg (j + 1) (by omega)) hp hq
            have gp := good_small (kg (j + 1) (by omega)) hp
            have gq := good_small (kg j (by omega)) hq
            have sp := bdP_small (up := true) gp.2.1 gp.2.2.1
            have sq := bdP_small (up := true) gq.2.1 gq.2.2.1
            have y1 := hg j q (by omega) hq
            have ab : ∀ y : Int, 0 ≤ absI y := fun y => by unfold absI; split <;> omega
            rintro _ rfl
            rw [wrap_down j (by omega)]
            refine ⟨nb0, by omega, by omega, _, e0, _, e1, _, e2, nb0, by omega, by omega, _, c0, _, c1, _, c2, ?_⟩
            (repeat apply Exists.intro); refine And.intro (fun _ _ => lk_hi q _) ?_
            (repeat apply Exists.intro); refine And.intro (fun _ _ => lk_hi p _) ?_
            rintro _ rfl
            rintro _ rfl
            have w1 : IntKind.i64.wrap (bdP true p - bdP true q) = bdP true p - bdP true q := Vc.i64_id (by omega)
            have w2 : IntKind.i64.wrap (x - q.1) = x - q.1 := Vc.i64_id (by omega)
            have w3 : IntKind.i64.wrap (p.1 - q.1) = p.1 - q.1 := Vc.i64_id (by omega)
            have xa := absI_bd (bdP true p - bdP true q) (by omega) (by omega)
            have xb := absI_bd (x - q.1) (by omega) (by omega)
            have u1 : absI (bdP true p - bdP true q) ≤ 4611686018427387904 := by unfold absI; split <;> omega
            have u2 : absI (x - q.1) ≤ 4611686018427387904 := by unfold absI; split <;> omega
            have um := mul_le_of (absI (bdP true p - bdP true q)) (absI (x - q.1)) 4611686018427387904 4611686018427387904 (ab _) (ab _) u1 u2
            have um0 := Int.mul_nonneg (ab (bdP true p - bdP true q)) (ab (x - q.1))
            have ey := absI_gt (y := p.1 - q.1) (by omega)
            have eb := hiW_small (absI (p.1 - q.1)) (by omega) (by omega)
            have ev := hvd
            have eu := hvu
            simp only [Nat.add_sub_cancel, bdAt_some hp, bdAt_some hq, atX_some hp, atX_some hq] at ev eu
            have q0 := qdn_0 (decide (bdP true p - bdP true q < 0) != decide (x - q.1 < 0)) (absI (bdP true p - bdP true q) * absI (x - q.1)) (absI (p.1 - q.1)) um0 (by omega)
            have au : absI (bdP true q) ≤ 2305843009213693952 := by unfold absI; split <;> omega
            have t1 := fun w => ptimes_any (bdP true p - bdP true q) (x - q.1) w (by constructor <;> omega) (by constructor <;> omega)
            have t2 := fun w => pof_any (p.1 - q.1) w (by constructor <;> omega)
            have t3 := fun w => divide_1 (decide (bdP true p - bdP true q < 0) != decide (x - q.1 < 0)) (decide (p.1 - q.1 < 0)) (absI (bdP true p - bdP true q) * absI (x - q.1)) (absI (p.1 - q.1)) w um0 (by omega) (by omega) (by omega)
            have t4 := fun w => pof_any (bdP true q) w (by constructor <;> omega)
            have t5 := fun w => plus_any (decide (bdP true q < 0)) (decide (bdP true p - bdP true q < 0) != decide (x - q.1 < 0)) (absI (bdP true q)) (qdn (decide (bdP true p - bdP true q < 0) != decide (x - q.1 < 0)) (absI (bdP true p - bdP true q) * absI (x - q.1)) (absI (p.1 - q.1))) w ⟨ab _, by omega⟩ ⟨q0.1, by omega⟩ (by omega)
            have t6 := fun w => plus_any (decide (bdP true q < 0)) (decide (bdP true p - bdP true q < 0) != decide (x - q.1 < 0)) (absI (bdP true q)) (qup (decide (bdP true p - bdP true q < 0) != decide (x - q.1 < 0)) (absI (bdP true p - bdP true q) * absI (x - q.1)) (absI (p.1 - q.1))) w ⟨ab _, by omega⟩ ⟨q0.2.1, by omega⟩ (by omega)
            rw [w1, w2]
            (repeat apply Exists.intro); refine And.intro (fun _ _ => t1 _) ?_
            rintro _ rfl
            rw [w3]
            (repeat apply Exists.intro); refine And.intro (fun _ _ => t2 _) ?_
            rw [eb.1, eb.2]
            (repeat apply Exists.intro); refine And.intro (fun _ _ => t3 _) ?_
            (repeat apply Exists.intro); refine And.intro (fun _ _ => t4 _) ?_
            (repeat apply Exists.intro); refine And.intro (fun _ _ => t5 _) ?_
            (repeat apply Exists.intro); refine And.intro (fun _ _ => t4 _) ?_
            (repeat apply Exists.intro); refine And.intro (fun _ _ => t6 _) ?_
            rw [ev, eu]
            rfl
  · have hah : ahead l x = i := ahead_eq hi hg (fun q hq => by have := (List.getElem?_eq_some_iff.1 hq).1; omega)
    refine iteI (fun h3 => ?_) (fun h3 => ?_)
    · exfalso; omega
    · refine ⟨by omega, nb, ?_⟩
      refine iteI (fun h4 => ?_) (fun h4 => ?_)
      · obtain ⟨k, hkl, ek, hvd, hvu⟩ : ∃ k : Nat, k < l.length ∧ (if IntKind.i64.wrap ((l.length : Int) - 1) < (i : Int) then IntKind.i64.wrap ((l.length : Int) - 1) else (i : Int)) = (k : Int) ∧ valD l true x = ofP (bdAt l true k) ∧ valU l true x = ofP (bdAt l true k) :=
          ⟨l.length - 1, by omega, by rw [wl]; split <;> omega, by unfold valD; rw [if_neg (by omega), if_pos (by omega)], by unfold valU; rw [if_neg (by omega), if_pos (by omega)]⟩
        have hpk := List.getElem?_eq_getElem hkl
        generalize l[k] = pk at hpk
        obtain ⟨d0, d1, d2⟩ := hc k pk hpk
        have gk := good_small (kg k hkl) hpk
        have ig := bdP_small (up := true) gk.2.1 gk.2.2.1
        have ev := hvd
        have eu := hvu
        rw [bdAt_some hpk] at ev eu
        refine ⟨by omega, nb, ?_⟩
        rintro _ rfl
        rintro _ rfl
        rw [ek]
        refine ⟨nb0, by omega, by omega, _, d1, _, d2, ?_⟩
        (repeat apply Exists.intro); refine And.intro (fun _ _ => lk_hi pk _) ?_
        (repeat apply Exists.intro); refine And.intro (fun _ _ => pof_any (bdP true pk) _ (by constructor <;> omega)) ?_
        rw [ev, eu]
        rfl
      · exfalso; omega
end Go.Proofs.YtcoakpdafpclpaaGreatDoor
set_option linter.unusedVariables false
namespace Go.Proofs.YtcoakpdafpclpaaGreatDoor
open Go Go.RowKit Ul Vc
attribute [local irreducible] Go.Calls
/-- The places at which a table is looked at. -/
def plc (l : List Pt) (a b : Int) (i : Nat) : List Int := a :: b :: ((l.take i).filter fun p => decide (a ≤ p.1) && decide (p.1 ≤ b)).map (·.1)
theorem plc_in {l : List Pt} {a b : Int} {i : Nat} {p : Pt} (h : l[i]? = some p) (h1 : a ≤ p.1) (h2 : p.1 ≤ b) : plc l a b (i + 1) = plc l a b i ++ [p.1] := by
  unfold plc
  rw [List.take_add_one, h]
  simp [h1, h2]
theorem plc_out {l : List Pt} {a b : Int} {i : Nat} {p : Pt} (h : l[i]? = some p) (h1 : ¬ (a ≤ p.1 ∧ p.1 ≤ b)) : plc l a b (i + 1) = plc l a b i := by
  unfold plc
  rw [List.take_add_one, h]
  simp
  omega
theorem plc_len (l : List Pt) (a b : Int) (i : Nat) : (plc l a b i).length ≤ l.length + 2 := by
  unfold plc
  have h1 := List.length_filter_le (fun p : Pt => decide (a ≤ p.1) && decide (p.1 ≤ b)) (l.take i)
  have h2 : (l.take i).length ≤ l.length := by simp; omega
  simp only [List.length_cons, List.length_map]
  omega
theorem plc_i64 {l : List Pt} {a b : Int} {i : Nat} (hl : ∀ p ∈ l, I64 p.1) (ha : I64 a) (hb : I64 b) : ∀ x ∈ plc l a b i, I64 x := by
  intro x hx
  unfold plc at hx
  rcases List.mem_cons.1 hx with rfl | hx
  · exact ha
  · rcases List.mem_cons.1 hx with rfl | hx
    · exact hb
    · obtain ⟨p, hp, rfl⟩ := List.mem_map.1 hx
      exact hl p (List.mem_of_mem_take (List.mem_filter.1 hp).1)
def minL : List Int → Int
  | [] => 0
  | x :: r => r.foldl min x
def maxL : List Int → Int
  | [] => 0
  | x :: r => r.foldl max x
theorem bmin_fold : ∀ (ps : List (Bool × Int)) (p : Bool × Int), svp (ps.foldl bmin p) = (ps.map svp).foldl min (svp p)
  | [], p => rfl
  | q :: ps, p => by rw [List.foldl_cons, bmin_fold ps, svp_bmin]; rfl
theorem bmax_fold : ∀ (ps : List (Bool × Int)) (p : Bool × Int), svp (ps.foldl bmax p) = (ps.map svp).foldl max (svp p)
  | [], p => rfl
  | q :: ps, p => by rw [List.foldl_cons, bmax_fold ps, svp_bmax]; rfl
/-- Look. -/
def look (l : List Pt) (a b : Int) : R :=
  if chkT l = 0 ∧ chk a b = 0 then fit (minL ((plc l a b l.length).map fun x => (lineV l false x).1)) (maxL ((plc l a b l.length).map fun x => (lineV l true x).2)) else (0, 0, 2)
theorem c3_len (p : Bool × Int) : (c3 p).length = 3 := rfl
theorem pLook {w : World} {v : Value} {l : List Pt} (h : Tab w v l) (hl : ∀ p ∈ l, I64 p.1) (a b : Int) (ha : I64 a) (hbb : I64 b) : Calls Tryz.prog 12 #[v, Vc.S a b] w (Vc.Ret (Vc.RV (look l a b)) w) := by
  have h0 := h
  obtain ⟨b0, p0, x1, rfl, hb, hc⟩ := tab_form h
  clear h
  refine vc_span_Look p0 (l.length : Int) x1 a b b0 w _ ?_
  (repeat apply Exists.intro); refine And.intro (fun _ _ => pchkT (sl_below (by assumption) h0)) ?_
  refine iteI (fun h1 => ?_) (fun h1 => ?_)
  · obtain ⟨k0, k1, kg⟩ := chkT_ok h1
    have nb0 : ¬ (b0 = true) := fun hb0 => by have := hb hb0; omega
    have nb : (¬ (b0 = true)) ∨ ((l.length : Int) = 0) := .inl nb0
    (repeat apply Exists.intro); refine And.intro (fun _ _ => check_any _ _ _) ?_
    refine iteI (fun h2 => ?_) (fun h2 => ?_)
    · have hab := chk_ok h2
      (repeat apply Exists.intro); refine And.intro (fun _ _ => pval_lo (sl_below (by assumption) h0) h1 a ha) ?_
      (repeat apply Exists.intro); refine And.intro (fun _ _ => pval_hi (sl_below (by assumption) h0) h1 a ha) ?_
      (repeat apply Exists.intro); refine And.intro (fun _ _ => pval_lo (sl_below (by assumption) h0) h1 b hbb) ?_
      (repeat apply Exists.intro); refine And.intro (fun _ _ => pval_hi (sl_below (by assumption) h0) h1 b hbb) ?_
      refine ⟨by omega, nb, ?_⟩
      refine ⟨fun y => ∃ i : Nat, i ≤ l.length ∧ y = [.i (i : Int), .l (((plc l a b i).map (valD l false)).flatMap c3), .l (((plc l a b i).map (valU l true)).flatMap c3)], upTo (l.length : Int), ⟨0, by omega, rfl⟩, ?_⟩
      rintro x22 l0 l1 ⟨i, hi, hy⟩
      simp only [List.cons.injEq, Vc.Vl.i.injEq, Vc.Vl.l.injEq, and_true] at hy
      obtain ⟨rfl, e0, e1⟩ := hy
      have len0 : l0.length ≤ 3 * (l.length + 2) := by
        have := congrArg List.length e0
        rw [List.length_append, List.length_map, flat_len c3_len, List.length_map] at this
        have := plc_len l a b i
        simp at *
        omega
      have len1 : l1.length ≤ 3 * (l.length + 2) := by
        have := congrArg List.length e1
        rw [List.length_append, List.length_map, flat_len c3_len, List.length_map] at this
        have := plc_len l a b i
        simp at *
        omega
      refine iteI (fun h3 => ?_) (fun h3 => ?_)
      · have hlt : i < l.length := by omega
        have hp := List.getElem?_eq_getElem hlt
        generalize l[i] = p at hp
        obtain ⟨c0, c1, c2⟩ := hc i p hp
        have hpI : I64 p.1 := hl p (List.mem_of_getElem? hp)
        refine ⟨nb0, by omega, by omega, _, c0, _, c1, _, c2, ?_⟩
        (repeat apply Exists.intro); refine And.intro (fun _ _ => in_any _ _ _ _) ?_
        have hin : inS a b p.1 = true ↔ a ≤ p.1 ∧ p.1 ≤ b := by unfold inS; rw [hab]; simp
        refine iteI (fun h4 => ?_) (fun h4 => ?_)
        · have h4' := hin.1 h4
          (repeat apply Exists.intro); refine And.intro (fun _ _ => pval_lo (sl_below (by assumption) h0) h1 p.1 hpI) ?_
          (repeat apply Exists.intro); refine And.intro (fun _ _ => pval_hi (sl_below (by assumption) h0) h1 p.1 hpI) ?_
          rintro _ rfl
          refine ⟨by omega, ?_⟩
          rintro _ rfl
          refine ⟨by omega, ?_⟩
          rintro _ rfl
          rw [wrap_up i (by omega)]
          refine ⟨⟨i + 1, by omega, ?_⟩, by simp only [upTo]; omega⟩
          rw [plc_in hp h4'.1 h4'.2]
          simp only [List.append_nil] at e0 e1
          rw [e0, e1, List.map_append, List.map_append, List.flatMap_append, List.flatMap_append]
          rfl
        · have h4' : ¬ (a ≤ p.1 ∧ p.1 ≤ b) := fun hx => h4 (hin.2 hx)
          rintro _ rfl
          rw [wrap_up i (by omega)]
          refine ⟨⟨i + 1, by omega, ?_⟩, by simp only [upTo]; omega⟩
          rw [plc_out hp h4', e0, e1]
      · obtain rfl : i = l.length := by omega
        have hI := plc_i64 (i := l.length) hl ha hbb
        have nD : ∀ q ∈ (plc l a b l.length).map (valD l false), 0 ≤ q.2 := fun q hq => by
          obtain ⟨x, hx, rfl⟩ := List.mem_map.1 hq
          exact (val_bd h1 false x (hI x hx)).1.1
        have nU : ∀ q ∈ (plc l a b l.length).map (valU l true), 0 ≤ q.2 := fun q hq => by
          obtain ⟨x, hx, rfl⟩ := List.mem_map.1 hq
          exact (val_bd h1 true x (hI x hx)).1.2
        have lD : (plc l a b l.length).length ≤ 66 := by have := plc_len l a b l.length; omega
        obtain ⟨r, hr⟩ : ∃ r, plc l a b l.length = a :: r := ⟨_, rfl⟩
        have hlook : look l a b = fit (minL ((plc l a b l.length).map fun x => (lineV l false x).1)) (maxL ((plc l a b l.length).map fun x => (lineV l true x).2)) := if_pos ⟨h1, h2⟩
        rw [hr] at e0 e1 nD nU lD hlook
        have mD := nn_fold bmin_or (r.map (valD l false)) (valD l false a) nD
        have mU := nn_fold bmax_or (r.map (valU l true)) (valU l true a) nU
        refine ⟨_, _, _, _, _, _, fun _ _ _ hm => rowhull (valD l false a) (r.map (valD l false)) nD (by simp at lD ⊢; omega) (by have := hm.1; rw [e0] at this; exact this), ?_⟩
        refine ⟨_, _, _, _, _, _, fun _ _ _ hm => rowhull (valU l true a) (r.map (valU l true)) nU (by simp at lD ⊢; omega) (by have := hm.1; rw [e1] at this; exact this), ?_⟩
        (repeat apply Exists.intro); refine And.intro (fun _ _ => fit_any _ _ _ _ _ mD mU) ?_
        rw [hlook]
        have q1 := bmin_fold (r.map (valD l false)) (valD l false a)
        have q2 := bmax_fold (r.map (valU l true)) (valU l true a)
        unfold svp at q1 q2
        refine fit_eq ?_ ?_
        · rw [q1]
          simp only [List.map_cons, minL, List.map_map]
          have : (valD l false a).1 = (valD l false a).1 := rfl
          congr 1
          · exact (val_sv h1 false a).1
          · exact List.map_congr_left fun x _ => (val_sv h1 false x).1
        · rw [q2]
          simp only [List.map_cons, maxL, List.map_map]
          congr 1
          · exact (val_sv h1 true a).2
          · exact List.map_congr_left fun x _ => (val_sv h1 true x).2
    · unfold look; rw [if_neg (fun hx => h2 hx.2)]
  · unfold look; rw [if_neg (fun hx => h1 hx.1)]
end Go.Proofs.YtcoakpdafpclpaaGreatDoor
set_option linter.unusedVariables false
namespace Go.Proofs.YtcoakpdafpclpaaGreatDoor
open Go Go.RowKit Ul Vc
attribute [local irreducible] Go.Calls
abbrev Sp := Int × Int
def sc (p : Sp) : List Value := [.int .i64 p.1, .int .i64 p.2]
theorem sc_len (p : Sp) : (sc p).length = 2 := rfl
/-- A list, at a slice. -/
def Lst (w : World) (v : Value) (l : List Sp) : Prop := SlAt w v 2 (l.flatMap sc)
theorem lst_form {w : World} {v : Value} {l : List Sp} (h : Lst w v l) : ∃ (b0 : Bool) (p0 : Nat × Nat) (x1 : Int), v = (if b0 = true then .slice none 0 0 else .slice (some (Vc.qad p0 (Int.toNat (l.length : Int)) (Int.toNat x1))) (Int.toNat (l.length : Int)) (Int.toNat x1)) ∧ (b0 = true → l.length = 0) ∧
    ∀ (i : Nat) (p : Sp), l[i]? = some p → w.cell? ⟨p0.1, p0.2 + i * 2 + 0, none⟩ = some (.int .i64 p.1) ∧ w.cell? ⟨p0.1, p0.2 + i * 2 + 1, none⟩ = some (.int .i64 p.2) := by
  obtain ⟨b0, p0, x1, h1, h2, h3⟩ := sl_form h (by decide) (flat_len sc_len l)
  refine ⟨b0, p0, x1, h1, h2, fun i p hp => ?_⟩
  simp only [Nat.add_assoc]
  exact ⟨h3 (i * 2 + 0) _ (flat_at sc_len hp (by decide)), h3 (i * 2 + 1) _ (flat_at sc_len hp (by decide))⟩
def chkL (l : List Sp) : Int := if l.all (fun p => ok p.1 p.2) = true then 0 else 2
/-- The error of a list. -/
def lenL (l : List Sp) : Int := if 64 < l.length then 3 else chkL l
theorem chkL_bad {l : List Sp} {i : Nat} {p : Sp} (hp : l[i]? = some p) (h : ¬ chk p.1 p.2 = 0) : chkL l = 2 ∧ chk p.1 p.2 = 2 := by
  have h1 := chk_no h
  unfold chkL
  rw [if_neg fun ha => h1.1 (List.all_eq_true.1 ha p (List.mem_of_getElem? hp))]
  exact ⟨rfl, h1.2⟩
theorem chkL_good {l : List Sp} (h : ∀ j p, j < l.length → l[j]? = some p → chk p.1 p.2 = 0) : chkL l = 0 := by
  unfold chkL
  rw [if_pos]
  refine List.all_eq_true.2 fun p hp => ?_
  obtain ⟨j, hj⟩ := List.getElem?_of_mem hp
  exact chk_ok (h j p (List.getElem?_eq_some_iff.1 hj).1 hj)
theorem chkL_or (l : List Sp) : chkL l = 0 ∨ chkL l = 2 := by unfold chkL; split <;> simp
theorem pchkL {w : World} {v : Value} {l : List Sp} (h : Lst w v l) (hn : l.length < 1000) : Calls Tryz.prog 34 #[v] w (Vc.Ret (.int .i64 (chkL l)) w) := by
  obtain ⟨b0, p0, x1, rfl, hb, hc⟩ := lst_form h
  clear h
  have nb : (¬ (b0 = true)) ∨ ((l.length : Int) = 0) := by
    by_cases hb0 : b0 = true
    · right; have := hb hb0; omega
    · left; exact hb0
  refine vc_span_checked_q p0 (l.length : Int) x1 b0 w _ ?_
  refine ⟨by omega, nb, ?_⟩
  refine ⟨fun y => ∃ (x : Int) (i : Nat), i ≤ l.length ∧ (∀ j p, j < i → l[j]? = some p → chk p.1 p.2 = 0) ∧ y = [.i x, .i (i : Int)], upTo2 (l.length : Int), ⟨0, 0, by omega, fun j p hj => by omega, rfl⟩, ?_⟩
  rintro x2 x3 ⟨x, i, hi, hg, hy⟩
  simp only [List.cons.injEq, Vc.Vl.i.injEq, and_true] at hy
  obtain ⟨rfl, rfl⟩ := hy
  refine iteI (fun h2 => ?_) (fun h2 => ?_)
  · have hlt : i < l.length := by omega
    have hp := List.getElem?_eq_getElem hlt
    have hdr := List.drop_eq_getElem_cons hlt
    generalize l[i] = p at hp hdr
    obtain ⟨c0, c1⟩ := hc i p hp
    have nb0 : ¬ (b0 = true) := fun hb0 => by have := hb hb0; omega
    refine ⟨nb0, by omega, by omega, _, c0, _, c1, ?_⟩
    (repeat apply Exists.intro); refine And.intro (fun _ _ => check_any _ _ _) ?_
    refine iteI (fun a1 => ?_) (fun a1 => ?_)
    · rintro _ rfl
      rw [wrap_up i (by omega)]
      refine ⟨⟨_, i + 1, by omega, fun j q hj hq => ?_, rfl⟩, by simp only [upTo2]; omega⟩
      by_cases hji : j = i
      · subst hji; rw [hp] at hq; cases hq; assumption
      · exact hg j q (by omega) hq
    · rw [(chkL_bad hp a1).1, (chkL_bad hp a1).2]
  · rw [chkL_good fun j p hj hp => hg j p (by omega) hp]
theorem few1 {b : Nat} {t : TypeId} {v : Value} {l : List Sp} {w : World} (hb0 : w.heap[b]? = some (.cells #[v] t)) (h : Lst w v l) : Calls Tryz.prog 49 #[.slice (some ⟨b, 0, none⟩) 1 1] w (Vc.Ret (.int .i64 (lenL l)) w) := by
  have h0 := h
  obtain ⟨b0, p0, x1, rfl, hb, hc⟩ := lst_form h
  clear h
  have nb : (¬ (b0 = true)) ∨ ((l.length : Int) = 0) := by
    by_cases hb0 : b0 = true
    · right; have := hb hb0; omega
    · left; exact hb0
  have hcell : w.cell? ⟨b, 0, none⟩ = some (if b0 = true then .slice none 0 0 else .slice (some (Vc.qad p0 (Int.toNat (l.length : Int)) (Int.toNat x1))) (Int.toNat (l.length : Int)) (Int.toNat x1)) := by simp [World.cell?, hb0]
  unfold lenL
  refine vc_span_few_1 (b, 0) w _ ?_
  refine ⟨b0, p0, (l.length : Int), x1, hcell, by omega, nb, ?_⟩
  refine iteI (fun h1 => ?_) (fun h1 => ?_)
  · rw [if_pos (by omega)]
  · rw [if_neg (by omega)]
    refine ⟨b0, p0, (l.length : Int), x1, hcell, ?_⟩
    (repeat apply Exists.intro); refine And.intro (fun _ _ => pchkL (sl_below (by assumption) h0) (by omega)) ?_
    refine iteI (fun h2 => ?_) (fun h2 => ?_)
    · rw [h2]
    · rfl
/-- The error of two lists. -/
def lenL2 (l m : List Sp) : Int := if 64 < l.length ∨ 64 < m.length then 3 else if chkL l = 0 then chkL m else chkL l
theorem few2 {b : Nat} {t : TypeId} {v u : Value} {l m : List Sp} {w : World} (hb0 : w.heap[b]? = some (.cells #[v, u] t)) (h : Lst w v l) (h' : Lst w u m) : Calls Tryz.prog 49 #[.slice (some ⟨b, 0, none⟩) 2 2] w (Vc.Ret (.int .i64 (lenL2 l m)) w) := by
  have h0 := h
  have h0' := h'
  obtain ⟨b0, p0, x1, rfl, hb, hc⟩ := lst_form h
  obtain ⟨b1, p1, y1, rfl, hb', hc'⟩ := lst_form h'
  clear h h'
  have nb : (¬ (b0 = true)) ∨ ((l.length : Int) = 0) := by
    by_cases hb0 : b0 = true
    · right; have := hb hb0; omega
    · left; exact hb0
  have nb' : (¬ (b1 = true)) ∨ ((m.length : Int) = 0) := by
    by_cases hb1 : b1 = true
    · right; have := hb' hb1; omega
    · left; exact hb1
  have hcell : w.cell? ⟨b, 0, none⟩ = some (if b0 = true then .slice none 0 0 else .slice (some (Vc.qad p0 (Int.toNat (l.length : Int)) (Int.toNat x1))) (Int.toNat (l.length : Int)) (Int.toNat x1)) := by simp [World.cell?, hb0]
  have hcell' : w.cell? ⟨b, 1, none⟩ = some (if b1 = true then .slice none 0 0 else .slice (some (Vc.qad p1 (Int.toNat (m.length : Int)) (Int.toNat y1))) (Int.toNat (m.length : Int)) (Int.toNat y1)) := by simp [World.cell?, hb0]
  unfold lenL2
  refine vc_span_few_2 (b, 0) w _ ?_
  refine ⟨b0, p0, (l.length : Int), x1, hcell, by omega, nb, ?_⟩
  refine iteI (fun h1 => ?_) (fun h1 => ?_)
  · rw [if_pos (by omega)]
  · refine ⟨b1, p1, (m.length : Int), y1, hcell', by omega, nb', ?_⟩
    refine iteI (fun h2 => ?_) (fun h2 => ?_)
    · rw [if_pos (by omega)]
    · rw [if_neg (by omega)]
      refine ⟨b0, p0, (l.length : Int), x1, hcell, ?_⟩
      (repeat apply Exists.intro); refine And.intro (fun _ _ => pchkL (sl_below (by assumption) h0) (by omega)) ?_
      refine iteI (fun h3 => ?_) (fun h3 => ?_)
      · rw [if_pos h3]
        refine ⟨b1, p1, (m.length : Int), y1, hcell', ?_⟩
        (repeat apply Exists.intro); refine And.intro (fun _ _ => pchkL (sl_below (by assumption) h0') (by omega)) ?_
        refine iteI (fun h4 => ?_) (fun h4 => ?_)
        · rw [h4]
        · rfl
      · rw [if_neg h3]
/-- What some terms add up to. -/
def accL {α : Type} (f : α → R) : List α → Int → Int → R
  | [], a, b => (a, b, 0)
  | p :: r, a, b => if (f p).2.2 = 0 then (if (add a b (f p).1 (f p).2.1).2.2 = 0 then accL f r (add a b (f p).1 (f p).2.1).1 (add a b (f p).1 (f p).2.1).2.1 else (0, 0, (add a b (f p).1 (f p).2.1).2.2)) else (0, 0, (f p).2.2)
theorem accL_go {α : Type} {f : α → R} {p : α} {r : List α} {a b : Int} (h1 : (f p).2.2 = 0) (h2 : (add a b (f p).1 (f p).2.1).2.2 = 0) : accL f (p :: r) a b = accL f r (add a b (f p).1 (f p).2.1).1 (add a b (f p).1 (f p).2.1).2.1 := by
  simp only [accL, if_pos h1, if_pos h2]
theorem accL_add {α : Type} {f : α → R} {p : α} {r : List α} {a b : Int} (h1 : (f p).2.2 = 0) (h2 : ¬ (add a b (f p).1 (f p).2.1).2.2 = 0) : accL f (p :: r) a b = (0, 0, (add a b (f p).1 (f p).2.1).2.2) := by
  simp only [accL, if_pos h1, if_neg h2]
theorem accL_no {α : Type} {f : α → R} {p : α} {r : List α} {a b : Int} (h1 : ¬ (f p).2.2 = 0) : accL f (p :: r) a b = (0, 0, (f p).2.2) := by
  simp only [accL, if_neg h1]
def R64 (r : R) : Prop := I64 r.1 ∧ I64 r.2.1
theorem fit_64 (x y : Int) : R64 (fit x y) := by
  unfold fit R64
  split
  · constructor <;> constructor <;> simp only <;> omega
  · constructor <;> constructor <;> simp
theorem no_64 (e : Int) : R64 (0, 0, e) := by constructor <;> constructor <;> simp
theorem add_64 (a b c d : Int) : R64 (add a b c d) := by
  unfold add; split
  · exact fit_64 _ _
  · exact no_64 _
theorem mul_64 (a b c d : Int) : R64 (mul a b c d) := by
  unfold mul; split
  · exact fit_64 _ _
  · exact no_64 _
def sumS (l : List Sp) : R := if lenL l = 0 then accL (fun p : Sp => (p.1, p.2, 0)) l 0 0 else (0, 0, lenL l)
theorem lenL_len {l : List Sp} (h : lenL l = 0) : l.length ≤ 64 := by
  unfold lenL at h
  split at h
  · cases h
  · omega
theorem pSum {w : World} {v : Value} {l : List Sp} (h : Lst w v l) (hl : ∀ p ∈ l, I64 p.1 ∧ I64 p.2) : Calls Tryz.prog 16 #[v] w (Vc.Ret (Vc.RV (sumS l)) w) := by
  have h0 := h
  obtain ⟨b0, p0, x1, rfl, hb, hc⟩ := lst_form h
  clear h
  have nb : (¬ (b0 = true)) ∨ ((l.length : Int) = 0) := by
    by_cases hb0 : b0 = true
    · right; have := hb hb0; omega
    · left; exact hb0
  refine vc_span_Sum p0 (l.length : Int) x1 b0 w _ ?_
  refine ⟨_, fun _ _ hbw hm => few1 hm.1.2 (sl_below hbw h0), ?_⟩
  refine iteI (fun h1 => ?_) (fun h1 => ?_)
  · have hs : sumS l = accL (fun p : Sp => (p.1, p.2, 0)) l 0 0 := if_pos h1
    have hn := lenL_len h1
    refine ⟨by omega, nb, ?_⟩
    refine ⟨fun y => ∃ (i : Nat) (a b : Int), i ≤ l.length ∧ sumS l = accL (fun p : Sp => (p.1, p.2, 0)) (l.drop i) a b ∧ I64 a ∧ I64 b ∧ y = [.i (i : Int), .i a, .i b], upTo (l.length : Int), ⟨0, 0, 0, by omega, hs, by constructor <;> decide, by constructor <;> decide, rfl⟩, ?_⟩
    rintro x3 x4 x5 ⟨i, a, b, hi, hg, ia, ib, hy⟩
    simp only [List.cons.injEq, Vc.Vl.i.injEq, and_true] at hy
    obtain ⟨rfl, rfl, rfl⟩ := hy
    refine iteI (fun h2 => ?_) (fun h2 => ?_)
    · have hlt : i < l.length := by omega
      have hp := List.getElem?_eq_getElem hlt
      have hdr := List.drop_eq_getElem_cons hlt
      generalize l[i] = p at hp hdr
      obtain ⟨c0, c1⟩ := hc i p hp
      have nb0 : ¬ (b0 = true) := fun hb0 => by have := hb hb0; omega
      have hpI := hl p (List.mem_of_getElem? hp)
      rw [hdr] at hg
      refine ⟨nb0, by omega, by omega, _, c0, _, c1, ?_⟩
      (repeat apply Exists.intro); refine And.intro (fun _ _ => padd_any _ _ _ _ _ ia ib hpI.1 hpI.2) ?_
      refine iteI (fun h3 => ?_) (fun h3 => ?_)
      · rintro _ rfl
        rw [wrap_up i (by omega)]
        refine ⟨⟨i + 1, _, _, by omega, hg.trans (accL_go rfl h3), (add_64 _ _ _ _).1, (add_64 _ _ _ _).2, rfl⟩, by simp only [upTo]; omega⟩
      · rw [hg.trans (accL_add rfl h3)]
    · have : l.drop i = [] := List.drop_of_length_le (by omega)
      rw [hg, this]
      rfl
  · unfold sumS; rw [if_neg h1]
end Go.Proofs.YtcoakpdafpclpaaGreatDoor
set_option linter.unusedVariables false
namespace Go.Proofs.YtcoakpdafpclpaaGreatDoor
open Go Go.RowKit Ul Vc
attribute [local irreducible] Go.Calls
def qc (x : Sp × Sp) : List Value := [.int .i64 x.1.1, .int .i64 x.1.2, .int .i64 x.2.1, .int .i64 x.2.2]
theorem qc_len (x : Sp × Sp) : (qc x).length = 4 := rfl
def z4 : List Value := [.int .i64 0, .int .i64 0, .int .i64 0, .int .i64 0]
def mulP (x : Sp × Sp) : R := mul x.1.1 x.1.2 x.2.1 x.2.2
def dotS (l m : List Sp) : R := if 64 < l.length ∨ 64 < m.length then (0, 0, 3) else if chkL l = 0 ∧ chkL m = 0 ∧ l.length = m.length then accL mulP (l.zip m) 0 0 else (0, 0, 2)
theorem row_set {A : List Value} {x : Sp × Sp} {i k : Nat} (h : A.length = i * 4) : (A ++ times z4 (k + 1)).take (i * 4 + 0) ++ qc x ++ (A ++ times z4 (k + 1)).drop (i * 4 + 0 + 4) = A ++ qc x ++ times z4 k := by
  have h1 : (A ++ times z4 (k + 1)).take (i * 4 + 0) = A := by
    rw [Nat.add_zero, ← h]; simp
  have h2 : (A ++ times z4 (k + 1)).drop (i * 4 + 0 + 4) = times z4 k := by
    rw [Nat.add_zero, ← h, ← List.drop_drop]
    simp [times, z4]
  rw [h1, h2]
theorem lenL2_ok {l m : List Sp} (h : lenL2 l m = 0) : l.length ≤ 64 ∧ m.length ≤ 64 ∧ chkL l = 0 ∧ chkL m = 0 := by
  unfold lenL2 at h
  split at h
  · cases h
  · split at h
    · exact ⟨by omega, by omega, by assumption, h⟩
    · exact absurd h (by assumption)
theorem lenL2_no {l m : List Sp} (h : ¬ lenL2 l m = 0) : dotS l m = (0, 0, lenL2 l m) := by
  unfold lenL2 at h ⊢
  unfold dotS
  split
  · rfl
  · rename_i h1
    rw [if_neg h1] at h
    rcases chkL_or l with e | e <;> rcases chkL_or m with e' | e' <;> simp [e, e'] at h ⊢
theorem zip_at {l m : List Sp} {i : Nat} {p q : Sp} (hp : l[i]? = some p) (hq : m[i]? = some q) : (l.zip m)[i]? = some (p, q) := by
  rw [List.getElem?_zip_eq_some]; exact ⟨hp, hq⟩
theorem pDot {w : World} {v u : Value} {l m : List Sp} (h : Lst w v l) (h' : Lst w u m) (hl : ∀ p ∈ l, I64 p.1 ∧ I64 p.2) (hlm : ∀ p ∈ m, I64 p.1 ∧ I64 p.2) : Calls Tryz.prog 15 #[v, u] w (Vc.Ret (Vc.RV (dotS l m)) w) := by
  have h0 := h
  have h0' := h'
  obtain ⟨b0, p0, x1, rfl, hb, hc⟩ := lst_form h
  obtain ⟨b1, p1, y1, rfl, hb', hc'⟩ := lst_form h'
  clear h h'
  have nb : (¬ (b0 = true)) ∨ ((l.length : Int) = 0) := by
    by_cases hb0 : b0 = true
    · right; have := hb hb0; omega
    · left; exact hb0
  have nb' : (¬ (b1 = true)) ∨ ((m.length : Int) = 0) := by
    by_cases hb1 : b1 = true
    · right; have := hb' hb1; omega
    · left; exact hb1
  refine vc_span_Dot p0 p1 (l.length : Int) x1 (m.length : Int) y1 b0 b1 w _ ?_
  refine ⟨_, fun _ _ hbw hm => few2 hm.1.2 (sl_below hbw h0) (sl_below hbw h0'), ?_⟩
  refine iteI (fun h1 => ?_) (fun h1 => ?_)
  · obtain ⟨k1, k2, k3, k4⟩ := lenL2_ok h1
    refine ⟨by omega, nb, by omega, nb', ?_⟩
    refine iteI (fun h2 => ?_) (fun h2 => ?_)
    · have hmn : m.length = l.length := by omega
      have hd : dotS l m = accL mulP (l.zip m) 0 0 := by unfold dotS; rw [if_neg (by omega), if_pos ⟨k3, k4, by omega⟩]
      have hzl : (l.zip m).length = l.length := by rw [List.length_zip]; omega
      refine ⟨by omega, nb, by omega, by omega, ?_⟩
      intro l0 e0
      refine ⟨by omega, nb, ?_⟩
      refine ⟨fun y => ∃ i : Nat, i ≤ l.length ∧ y = [.i (i : Int), .l (((l.zip m).take i).flatMap qc ++ times z4 (l.length - i))], upTo (l.length : Int), ⟨0, by omega, by rw [List.append_nil, e0]; rfl⟩, ?_⟩
      rintro x5 l1 ⟨i, hi, hy⟩
      simp only [List.cons.injEq, Vc.Vl.i.injEq, Vc.Vl.l.injEq, and_true] at hy
      obtain ⟨rfl, e1⟩ := hy
      rw [List.append_nil] at e1
      have htl : (((l.zip m).take i).flatMap qc).length = i * 4 := by rw [flat_len qc_len, List.length_take, hzl, Nat.min_eq_left hi]
      have hlen : l1.length = l.length * 4 := by
        have := congrArg List.length e1
        rw [List.length_map, List.length_append, htl, times_length] at this
        have hz : z4.length = 4 := rfl
        rw [hz] at this
        omega
      have hN : (((0 + (l1.length + 0)) / 4 : Nat) : Int) = (l.length : Int) := by rw [hlen]; omega
      rw [hN]
      refine iteI (fun h3 => ?_) (fun h3 => ?_)
      · have hlt : i < l.length := by omega
        have hp := List.getElem?_eq_getElem hlt
        have hdr := List.drop_eq_getElem_cons hlt
        generalize l[i] = p at hp hdr
        obtain ⟨c0, c1⟩ := hc i p hp
        have nb0 : ¬ (b0 = true) := fun hb0 => by have := hb hb0; omega
        have hq := List.getElem?_eq_getElem (show i < m.length by omega)
        generalize m[i] = q at hq
        obtain ⟨d0, d1⟩ := hc' i q hq
        have nb1 : ¬ (b1 = true) := fun hb1 => by have := hb' hb1; omega
        refine ⟨nb0, by omega, by omega, _, c0, _, c1, nb1, by omega, by omega, _, d0, _, d1, ?_⟩
        rintro _ rfl
        refine ⟨by omega, by omega, ?_⟩
        rintro _ rfl
        refine ⟨by omega, by omega, ?_⟩
        intro l2 e2
        rintro _ rfl
        rw [wrap_up i (by omega)]
        refine ⟨⟨i + 1, by omega, ?_⟩, by simp only [upTo]; omega⟩
        have hk : l.length - i = (l.length - (i + 1)) + 1 := by omega
        rw [List.append_nil, e1, hk] at e2
        have e3 := row_set (x := (p, q)) (k := l.length - (i + 1)) htl
        have e4 : (l.zip m).take (i + 1) = (l.zip m).take i ++ [(p, q)] := by rw [List.take_add_one, zip_at hp hq]; rfl
        rw [List.append_nil, e4, List.flatMap_append]
        rw [show l2.map (·.1) = _ from e2.trans e3]
        simp
      · obtain rfl : i = l.length := by omega
        have e5 : l1.map (·.1) = (l.zip m).flatMap qc := by
          rw [e1, List.take_of_length_le (by omega), Nat.sub_self]
          simp [times]
        have cell : ∀ (k o : Nat) (x : Sp × Sp) (u : Value), (l.zip m)[k]? = some x → o < 4 → (qc x)[o]? = some u → (l1.map (·.1) ++ ([] : List Value))[k * 4 + o]? = some u := fun k o x u hx ho hu => by
          rw [List.append_nil, e5, flat_at qc_len hx ho]; exact hu
        rintro _ rfl
        refine ⟨fun y => ∃ (k : Nat) (a b : Int), k ≤ l.length ∧ dotS l m = accL mulP ((l.zip m).drop k) a b ∧ I64 a ∧ I64 b ∧ y = [.i (k : Int), .i a, .i b], upTo (l.length : Int), ⟨0, 0, 0, by omega, hd, by constructor <;> decide, by constructor <;> decide, rfl⟩, ?_⟩
        rintro x7 x8 x9 ⟨k, a, b, hk, hg, ia, ib, hy⟩
        simp only [List.cons.injEq, Vc.Vl.i.injEq, and_true] at hy
        obtain ⟨rfl, rfl, rfl⟩ := hy
        refine iteI (fun h4 => ?_) (fun h4 => ?_)
        · have hkl : k < (l.zip m).length := by omega
          have hx := List.getElem?_eq_getElem hkl
          have hdr := List.drop_eq_getElem_cons hkl
          generalize (l.zip m)[k] = x at hx hdr
          obtain ⟨x1', x2'⟩ := x
          obtain ⟨g1, g2⟩ := List.getElem?_zip_eq_some.1 hx
          have i1 := hl _ (List.mem_of_getElem? g1)
          have i2 := hlm _ (List.mem_of_getElem? g2)
          have mI := mul_64 x1'.1 x1'.2 x2'.1 x2'.2
          rw [hdr] at hg
          rintro _ rfl
          refine ⟨by omega, by omega, _, cell k 0 _ _ hx (by decide) rfl, _, cell k 1 _ _ hx (by decide) rfl, _, cell k 2 _ _ hx (by decide) rfl, _, cell k 3 _ _ hx (by decide) rfl, ?_⟩
          (repeat apply Exists.intro); refine And.intro (fun _ _ => pmul_any _ _ _ _ _ i1.1 i1.2 i2.1 i2.2) ?_
          refine iteI (fun h5 => ?_) (fun h5 => ?_)
          · (repeat apply Exists.intro); refine And.intro (fun _ _ => padd_any _ _ _ _ _ ia ib mI.1 mI.2) ?_
            refine iteI (fun h6 => ?_) (fun h6 => ?_)
            · rintro _ rfl
              rw [wrap_up k (by omega)]
              refine ⟨⟨k + 1, _, _, by omega, hg.trans (accL_go h5 h6), (add_64 _ _ _ _).1, (add_64 _ _ _ _).2, rfl⟩, by simp only [upTo]; omega⟩
            · rw [hg.trans (accL_add h5 h6)]
              rfl
          · refine iteI (fun h6 => absurd h6 h5) (fun _ => ?_)
            rw [hg.trans (accL_no h5)]
            rfl
        · have : (l.zip m).drop k = [] := List.drop_of_length_le (by omega)
          rw [hg, this]
          rfl
    · unfold dotS; rw [if_neg (by omega), if_neg (fun hx => h2 (by omega))]
  · rw [lenL2_no h1]
section
open Go.ChangeShapes Go.WideShapes Go.ChangeAt Go.Joins
variable {H : Type} {enc : TypeId × Value → H} {base : Nat} {sp : Nat → Bool} {held : Bool}
end
end Go.Proofs.YtcoakpdafpclpaaGreatDoor
set_option linter.unusedVariables false
namespace Go.Proofs.YtcoakpdafpclpaaGreatDoor
open Go Go.RowKit Ul Vc
/-- The k-th of a loop's variables counts up. -/
def upK (k : Nat) (n : Int) (l : List Vc.Vl) : Nat :=
  match l[k]? with
  | some (.i x) => (n - x).toNat
  | _ => 0
end Go.Proofs.YtcoakpdafpclpaaGreatDoor
