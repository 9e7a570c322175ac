/- Contracts: whether a table is valid, both. -/
import Derived.Test.YtdhiapllbjamfaaG5
import Derived.Test.YtdhiapllbjamfaaCq
set_option linter.unusedVariables false
set_option linter.unusedSimpArgs false
namespace Go.Proofs.Ytdhiapllbjamfaa
open Go Go.RowKit Ul Vc
attribute [local irreducible] Go.Calls

abbrev Pt := Int × Int × Int
def pc (p : Pt) : List Value := [.int .i64 p.1, .int .i64 p.2.1, .int .i64 p.2.2]
theorem pc_len (p : Pt) : (pc p).length = 3 := rfl
/-- A table, at a slice. -/
def Tab (w : World) (v : Value) (l : List Pt) : Prop := SlAt w v 3 (l.flatMap pc)
theorem tab_form {w : World} {v : Value} {l : List Pt} (h : Tab w v l) : ∃ (b0 : Bool) (p0 : Nat × Nat) (x1 : Int), v = (if b0 = true then .slice none 0 0 else .slice (some ⟨p0.1, p0.2, none⟩) (Int.toNat (l.length : Int)) (Int.toNat x1)) ∧ (b0 = true → l.length = 0) ∧
    ∀ (i : Nat) (p : Pt), l[i]? = some p → w.cell? ⟨p0.1, p0.2 + i * 3 + 0, none⟩ = some (.int .i64 p.1) ∧ w.cell? ⟨p0.1, p0.2 + i * 3 + 1, none⟩ = some (.int .i64 p.2.1) ∧ w.cell? ⟨p0.1, p0.2 + i * 3 + 2, none⟩ = some (.int .i64 p.2.2) := by
  obtain ⟨b0, p0, x1, h1, h2, h3⟩ := sl_form h (by decide) (flat_len pc_len l)
  refine ⟨b0, p0, x1, h1, h2, fun i p hp => ?_⟩
  simp only [Nat.add_assoc]
  exact ⟨h3 (i * 3 + 0) _ (flat_at pc_len hp (by decide)), h3 (i * 3 + 1) _ (flat_at pc_len hp (by decide)), h3 (i * 3 + 2) _ (flat_at pc_len hp (by decide))⟩

def smallB (x : Int) : Bool := decide (-2305843009213693952 ≤ x) && decide (x ≤ 2305843009213693952)
def goodAt (l : List Pt) (i : Nat) : Bool :=
  match l[i]? with
  | none => true
  | some p => smallB p.1 && smallB p.2.1 && smallB p.2.2 && decide (p.2.1 ≤ p.2.2) && (match i with
    | 0 => true
    | j + 1 => match l[j]? with
      | some q => decide (q.1 < p.1)
      | none => true)
/-- CheckTable. -/
def chkT (l : List Pt) : Int := if l.length = 0 ∨ 64 < l.length then 2 else if (List.range l.length).all (goodAt l) = true then 0 else 2
theorem chkT_short {l : List Pt} (h : l.length = 0 ∨ 64 < l.length) : chkT l = 2 := if_pos h
theorem chkT_bad {l : List Pt} {i : Nat} (hi : i < l.length) (h : goodAt l i = false) : chkT l = 2 := by
  unfold chkT
  split
  · rfl
  · rw [if_neg]
    intro ha
    rw [List.all_eq_true.1 ha i (List.mem_range.2 hi)] at h
    cases h
theorem chkT_good {l : List Pt} (h1 : ¬ l.length = 0) (h2 : ¬ 64 < l.length) (h : ∀ j, j < l.length → goodAt l j = true) : chkT l = 0 := by
  unfold chkT
  rw [if_neg (by omega), if_pos (List.all_eq_true.2 fun j hj => h j (List.mem_range.1 hj))]
theorem chkT_ok {l : List Pt} (h : chkT l = 0) : 0 < l.length ∧ l.length ≤ 64 ∧ ∀ j, j < l.length → goodAt l j = true := by
  unfold chkT at h
  split at h
  · cases h
  · split at h
    · rename_i h1 h2
      exact ⟨by omega, by omega, fun j hj => List.all_eq_true.1 h2 j (List.mem_range.2 hj)⟩
    · cases h
theorem in_small (n : Int) : inS (-2305843009213693952) 2305843009213693952 n = smallB n := by
  unfold inS smallB ok; simp
theorem within_small (a b : Int) : within a b (-2305843009213693952) 2305843009213693952 = (smallB a && smallB b && decide (a ≤ b)) := by
  rw [Bool.eq_iff_iff]
  simp only [within, smallB, ok, Bool.and_eq_true, decide_eq_true_eq]
  omega
theorem small_any (x : Int) (w : World) : Calls Try.prog 108 #[.int .i64 x] w (Vc.Ret (.bool (smallB x)) w) := by
  refine vc_ullageref01_small x w _ ?_
  refine iteI (fun h => ?_) (fun h => ?_)
  · unfold smallB; simp [h]
  · unfold smallB; simp [h]
/-- The second of a loop's variables counts up. -/
def upTo2 (n : Int) : List Vc.Vl → Nat
  | _ :: .i x :: _ => (n - x).toNat
  | _ => 0
theorem wrap_up (i : Nat) (h : i < 1000000) : IntKind.i64.wrap ((i : Int) + 1) = ((i + 1 : Nat) : Int) := by rw [Vc.i64_id (by omega)]; omega
theorem wrap_down (j : Nat) (h : j < 1000000) : IntKind.i64.wrap (((j + 1 : Nat) : Int) - 1) = (j : Int) := by rw [Vc.i64_id (by omega)]; omega
theorem pchkT {w : World} {v : Value} {l : List Pt} (h : Tab w v l) : Calls Try.prog 57 #[v] w (Vc.Ret (.int .i64 (chkT l)) w) := by
  obtain ⟨b0, p0, x1, rfl, hb, hc⟩ := tab_form h
  clear h
  have nb : (¬ (b0 = true)) ∨ ((l.length : Int) = 0) := by
    by_cases hb0 : b0 = true
    · right; have := hb hb0; omega
    · left; exact hb0
  refine vc_span_CheckTable p0 (l.length : Int) x1 b0 w _ ?_
  refine ⟨by omega, nb, ?_⟩
  refine iteI (fun h0 => ?_) (fun h0 => ?_)
  · rw [chkT_short (.inl (by omega))]
  · refine ⟨by omega, nb, ?_⟩
    refine iteI (fun h1 => ?_) (fun h1 => ?_)
    · rw [chkT_short (.inr (by omega))]
    · refine ⟨by omega, nb, ?_⟩
      refine ⟨fun y => ∃ (x : Int) (i : Nat), i ≤ l.length ∧ (∀ j, j < i → goodAt l j = true) ∧ y = [.i x, .i (i : Int)], upTo2 (l.length : Int), ⟨0, 0, by omega, fun j hj => by omega, rfl⟩, ?_⟩
      rintro x2 x3 ⟨x, i, hi, hg, hy⟩
      simp only [List.cons.injEq, Vc.Vl.i.injEq, and_true] at hy
      obtain ⟨rfl, rfl⟩ := hy
      refine iteI (fun h2 => ?_) (fun h2 => ?_)
      · have hlt : i < l.length := by omega
        have hp := List.getElem?_eq_getElem hlt
        generalize l[i] = p at hp
        obtain ⟨c0, c1, c2⟩ := hc i p hp
        have nb0 : ¬ (b0 = true) := fun hb0 => by have := hb hb0; omega
        refine ⟨nb0, by omega, by omega, _, c0, _, c1, _, c2, ?_⟩
        (repeat apply Exists.intro); refine And.intro (fun _ _ => in_any _ _ _ _) ?_
        rw [in_small]
        refine iteI (fun a1 => ?_) (fun a1 => ?_)
        · (repeat apply Exists.intro); refine And.intro (fun _ _ => within_any _ _ _ _ _) ?_
          rw [within_small]
          refine iteI (fun a2 => ?_) (fun a2 => ?_)
          · simp only [Bool.and_eq_true] at a2
            refine iteI (fun a3 => ?_) (fun a3 => ?_)
            · rintro _ rfl
              obtain ⟨j, rfl⟩ : ∃ j, i = j + 1 := ⟨i - 1, by omega⟩
              rw [wrap_down j (by omega)]
              have hq := List.getElem?_eq_getElem (show j < l.length by omega)
              generalize l[j] = q at hq
              refine ⟨nb0, by omega, by omega, _, (hc j q hq).1, ?_⟩
              refine iteI (fun a4 => ?_) (fun a4 => ?_)
              · rw [chkT_bad hlt (by simp only [goodAt, hp, hq]; simp; omega)]
              · rintro _ rfl
                have hgood : goodAt l (j + 1) = true := by
                  simp only [goodAt, hp, hq, a1, a2.1.1, a2.1.2, a2.2, Bool.and_true, Bool.true_and]
                  simp; omega
                have ew := wrap_up (j + 1) (by omega)
                rw [ew]
                generalize hie : j + 1 = i at *
                refine ⟨⟨_, i + 1, by omega, fun j hj => ?_, rfl⟩, by simp only [upTo2]; omega⟩
                by_cases hji : j = i
                · subst hji; exact hgood
                · exact hg j (by omega)
            · rintro _ rfl
              obtain rfl : i = 0 := by omega
              have hgood : goodAt l 0 = true := by
                simp only [goodAt, hp, a1, a2.1.1, a2.1.2, a2.2, Bool.and_true, Bool.true_and]
              rw [wrap_up 0 (by omega)]
              generalize hie : 0 = i at *
              refine ⟨⟨_, i + 1, by omega, fun j hj => ?_, rfl⟩, by simp only [upTo2]; omega⟩
              by_cases hji : j = i
              · subst hji; exact hgood
              · exact hg j (by omega)
          · rw [chkT_bad hlt (by
              cases i with
              | zero => simp only [goodAt, hp]; simp at a2 ⊢; intro g1 g2 g3; exact a2 g2 g3
              | succ j => simp only [goodAt, hp]; simp at a2 ⊢; intro g1 g2 g3 g4; have := a2 g2 g3; omega)]
        · rw [chkT_bad hlt (by
            have : smallB p.1 = false := by simpa using a1
            cases i <;> simp [goodAt, hp, this])]
      · rw [chkT_good (by omega) (by omega) fun j hj => hg j (by omega)]
theorem rchkT {w : World} {v : Value} {l : List Pt} (h : Tab w v l) : Calls Try.prog 58 #[v] w (Vc.Ret (.int .i64 (chkT l)) w) := by
  obtain ⟨b0, p0, x1, rfl, hb, hc⟩ := tab_form h
  clear h
  have nb : (¬ (b0 = true)) ∨ ((l.length : Int) = 0) := by
    by_cases hb0 : b0 = true
    · right; have := hb hb0; omega
    · left; exact hb0
  refine vc_ullageref01_CheckTable p0 (l.length : Int) x1 b0 w _ ?_
  refine ⟨by omega, nb, ?_⟩
  refine iteI (fun h0 => ?_) (fun h0 => ?_)
  · rw [chkT_short (.inl (by omega))]
  · refine ⟨by omega, nb, ?_⟩
    refine iteI (fun h1 => ?_) (fun h1 => ?_)
    · rw [chkT_short (.inr (by omega))]
    · refine ⟨fun y => ∃ (x : Int) (i : Nat), i ≤ l.length ∧ (∀ j, j < i → goodAt l j = true) ∧ y = [.i x, .i (i : Int)], upTo2 (l.length : Int), ⟨0, 0, by omega, fun j hj => by omega, rfl⟩, ?_⟩
      rintro x2 x3 ⟨x, i, hi, hg, hy⟩
      simp only [List.cons.injEq, Vc.Vl.i.injEq, and_true] at hy
      obtain ⟨rfl, rfl⟩ := hy
      refine ⟨by omega, nb, ?_⟩
      refine iteI (fun h2 => ?_) (fun h2 => ?_)
      · have hlt : i < l.length := by omega
        have hp := List.getElem?_eq_getElem hlt
        generalize l[i] = p at hp
        obtain ⟨c0, c1, c2⟩ := hc i p hp
        have nb0 : ¬ (b0 = true) := fun hb0 => by have := hb hb0; omega
        refine ⟨nb0, by omega, by omega, _, c0, ?_⟩
        (repeat apply Exists.intro); refine And.intro (fun _ _ => small_any _ _) ?_
        refine ⟨nb0, by omega, by omega, _, c1, ?_⟩
        (repeat apply Exists.intro); refine And.intro (fun _ _ => small_any _ _) ?_
        refine ⟨nb0, by omega, by omega, _, c2, ?_⟩
        (repeat apply Exists.intro); refine And.intro (fun _ _ => small_any _ _) ?_
        refine iteI (fun a1 => ?_) (fun a1 => ?_)
        · refine iteI (fun a2 => ?_) (fun a2 => ?_)
          · refine iteI (fun a3 => ?_) (fun a3 => ?_)
            · refine ⟨nb0, by omega, by omega, _, c1, _, c2, ?_⟩
              (repeat apply Exists.intro); refine And.intro (fun _ _ => rcheck_any _ _ _) ?_
              have hck : chk p.2.1 p.2.2 = 0 ↔ p.2.1 ≤ p.2.2 := by
                simp only [smallB, Bool.and_eq_true, decide_eq_true_eq] at a2 a3
                unfold chk ok
                simp
                omega
              refine iteI (fun a4 => ?_) (fun a4 => ?_)
              · have a4' := hck.1 a4
                refine iteI (fun a5 => ?_) (fun a5 => ?_)
                · rintro _ rfl
                  obtain ⟨j, rfl⟩ : ∃ j, i = j + 1 := ⟨i - 1, by omega⟩
                  rw [wrap_down j (by omega)]
                  have hq := List.getElem?_eq_getElem (show j < l.length by omega)
                  generalize l[j] = q at hq
                  refine ⟨nb0, by omega, by omega, _, (hc j q hq).1, nb0, by omega, by omega, _, c0, ?_⟩
                  refine iteI (fun a6 => ?_) (fun a6 => ?_)
                  · rw [chkT_bad hlt (by simp only [goodAt, hp, hq]; simp; omega)]
                  · rintro _ rfl
                    have hgood : goodAt l (j + 1) = true := by
                      simp only [goodAt, hp, hq, a1, a2, a3, Bool.and_true, Bool.true_and]
                      simp; omega
                    have ew := wrap_up (j + 1) (by omega)
                    rw [ew]
                    generalize hie : j + 1 = i at *
                    refine ⟨⟨_, i + 1, by omega, fun j hj => ?_, rfl⟩, by simp only [upTo2]; omega⟩
                    by_cases hji : j = i
                    · subst hji; exact hgood
                    · exact hg j (by omega)
                · rintro _ rfl
                  obtain rfl : i = 0 := by omega
                  have hgood : goodAt l 0 = true := by
                    simp only [goodAt, hp, a1, a2, a3, Bool.and_true, Bool.true_and]
                    simpa using a4'
                  rw [wrap_up 0 (by omega)]
                  generalize hie : 0 = i at *
                  refine ⟨⟨_, i + 1, by omega, fun j hj => ?_, rfl⟩, by simp only [upTo2]; omega⟩
                  by_cases hji : j = i
                  · subst hji; exact hgood
                  · exact hg j (by omega)
              · rw [chkT_bad hlt (by
                  have : ¬ p.2.1 ≤ p.2.2 := fun hx => a4 (hck.2 hx)
                  cases i <;> simp only [goodAt, hp] <;> simp <;> intros <;> omega)]
            · rw [chkT_bad hlt (by
                have : smallB p.2.2 = false := by simpa using a3
                cases i <;> simp [goodAt, hp, this])]
          · rw [chkT_bad hlt (by
              have : smallB p.2.1 = false := by simpa using a2
              cases i <;> simp [goodAt, hp, this])]
        · rw [chkT_bad hlt (by
            have : smallB p.1 = false := by simpa using a1
            cases i <;> simp [goodAt, hp, this])]
      · rw [chkT_good (by omega) (by omega) fun j hj => hg j (by omega)]
end Go.Proofs.Ytdhiapllbjamfaa
