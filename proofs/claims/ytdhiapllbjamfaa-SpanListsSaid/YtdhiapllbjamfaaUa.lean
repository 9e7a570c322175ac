/- Contracts: lists of spans: checks, sums, roots of sums, both. -/
import Derived.Test.YtdhiapllbjamfaaG6
import Derived.Test.YtdhiapllbjamfaaOk
set_option linter.unusedVariables false
set_option linter.unusedSimpArgs false
namespace Go.Proofs.Ytdhiapllbjamfaa
open Go Go.RowKit Ul Vc
attribute [local irreducible] Go.Calls

abbrev Sp := Int × Int
def sc (p : Sp) : List Value := [.int .i64 p.1, .int .i64 p.2]
theorem sc_len (p : Sp) : (sc p).length = 2 := rfl
/-- A list, at a slice. -/
def Lst (w : World) (v : Value) (l : List Sp) : Prop := SlAt w v 2 (l.flatMap sc)
theorem lst_form {w : World} {v : Value} {l : List Sp} (h : Lst w v l) : ∃ (b0 : Bool) (p0 : Nat × Nat) (x1 : Int), v = (if b0 = true then .slice none 0 0 else .slice (some ⟨p0.1, p0.2, none⟩) (Int.toNat (l.length : Int)) (Int.toNat x1)) ∧ (b0 = true → l.length = 0) ∧
    ∀ (i : Nat) (p : Sp), l[i]? = some p → w.cell? ⟨p0.1, p0.2 + i * 2 + 0, none⟩ = some (.int .i64 p.1) ∧ w.cell? ⟨p0.1, p0.2 + i * 2 + 1, none⟩ = some (.int .i64 p.2) := by
  obtain ⟨b0, p0, x1, h1, h2, h3⟩ := sl_form h (by decide) (flat_len sc_len l)
  refine ⟨b0, p0, x1, h1, h2, fun i p hp => ?_⟩
  simp only [Nat.add_assoc]
  exact ⟨h3 (i * 2 + 0) _ (flat_at sc_len hp (by decide)), h3 (i * 2 + 1) _ (flat_at sc_len hp (by decide))⟩
def chkL (l : List Sp) : Int := if l.all (fun p => ok p.1 p.2) = true then 0 else 2
/-- The error of a list. -/
def lenL (l : List Sp) : Int := if 64 < l.length then 3 else chkL l
theorem chkL_bad {l : List Sp} {i : Nat} {p : Sp} (hp : l[i]? = some p) (h : ¬ chk p.1 p.2 = 0) : chkL l = 2 ∧ chk p.1 p.2 = 2 := by
  have h1 := chk_no h
  unfold chkL
  rw [if_neg fun ha => h1.1 (List.all_eq_true.1 ha p (List.mem_of_getElem? hp))]
  exact ⟨rfl, h1.2⟩
theorem chkL_good {l : List Sp} (h : ∀ j p, j < l.length → l[j]? = some p → chk p.1 p.2 = 0) : chkL l = 0 := by
  unfold chkL
  rw [if_pos]
  refine List.all_eq_true.2 fun p hp => ?_
  obtain ⟨j, hj⟩ := List.getElem?_of_mem hp
  exact chk_ok (h j p (List.getElem?_eq_some_iff.1 hj).1 hj)
theorem chkL_or (l : List Sp) : chkL l = 0 ∨ chkL l = 2 := by unfold chkL; split <;> simp
theorem pchkL {w : World} {v : Value} {l : List Sp} (h : Lst w v l) (hn : l.length < 1000) : Calls Try.prog 75 #[v] w (Vc.Ret (.int .i64 (chkL l)) w) := by
  obtain ⟨b0, p0, x1, rfl, hb, hc⟩ := lst_form h
  clear h
  have nb : (¬ (b0 = true)) ∨ ((l.length : Int) = 0) := by
    by_cases hb0 : b0 = true
    · right; have := hb hb0; omega
    · left; exact hb0
  refine vc_span_checked_q p0 (l.length : Int) x1 b0 w _ ?_
  refine ⟨by omega, nb, ?_⟩
  refine ⟨fun y => ∃ (x : Int) (i : Nat), i ≤ l.length ∧ (∀ j p, j < i → l[j]? = some p → chk p.1 p.2 = 0) ∧ y = [.i x, .i (i : Int)], upTo2 (l.length : Int), ⟨0, 0, by omega, fun j p hj => by omega, rfl⟩, ?_⟩
  rintro x2 x3 ⟨x, i, hi, hg, hy⟩
  simp only [List.cons.injEq, Vc.Vl.i.injEq, and_true] at hy
  obtain ⟨rfl, rfl⟩ := hy
  refine iteI (fun h2 => ?_) (fun h2 => ?_)
  · have hlt : i < l.length := by omega
    have hp := List.getElem?_eq_getElem hlt
    have hdr := List.drop_eq_getElem_cons hlt
    generalize l[i] = p at hp hdr
    obtain ⟨c0, c1⟩ := hc i p hp
    have nb0 : ¬ (b0 = true) := fun hb0 => by have := hb hb0; omega
    refine ⟨nb0, by omega, by omega, _, c0, _, c1, ?_⟩
    (repeat apply Exists.intro); refine And.intro (fun _ _ => check_any _ _ _) ?_
    refine iteI (fun a1 => ?_) (fun a1 => ?_)
    · rintro _ rfl
      rw [wrap_up i (by omega)]
      refine ⟨⟨_, i + 1, by omega, fun j q hj hq => ?_, rfl⟩, by simp only [upTo2]; omega⟩
      by_cases hji : j = i
      · subst hji; rw [hp] at hq; cases hq; assumption
      · exact hg j q (by omega) hq
    · rw [(chkL_bad hp a1).1, (chkL_bad hp a1).2]
  · rw [chkL_good fun j p hj hp => hg j p (by omega) hp]
theorem rlist {w : World} {v : Value} {l : List Sp} (h : Lst w v l) : Calls Try.prog 118 #[v] w (Vc.Ret (.int .i64 (lenL l)) w) := by
  obtain ⟨b0, p0, x1, rfl, hb, hc⟩ := lst_form h
  clear h
  have nb : (¬ (b0 = true)) ∨ ((l.length : Int) = 0) := by
    by_cases hb0 : b0 = true
    · right; have := hb hb0; omega
    · left; exact hb0
  unfold lenL
  refine vc_ullageref01_list p0 (l.length : Int) x1 b0 w _ ?_
  refine ⟨by omega, nb, ?_⟩
  refine iteI (fun h1 => ?_) (fun h1 => ?_)
  · rw [if_pos (by omega)]
  · rw [if_neg (by omega)]
    refine ⟨fun y => ∃ (x : Int) (i : Nat), i ≤ l.length ∧ (∀ j p, j < i → l[j]? = some p → chk p.1 p.2 = 0) ∧ y = [.i x, .i (i : Int)], upTo2 (l.length : Int), ⟨0, 0, by omega, fun j p hj => by omega, rfl⟩, ?_⟩
    rintro x2 x3 ⟨x, i, hi, hg, hy⟩
    simp only [List.cons.injEq, Vc.Vl.i.injEq, and_true] at hy
    obtain ⟨rfl, rfl⟩ := hy
    refine ⟨by omega, nb, ?_⟩
    refine iteI (fun h2 => ?_) (fun h2 => ?_)
    · have hlt : i < l.length := by omega
      have hp := List.getElem?_eq_getElem hlt
      have hdr := List.drop_eq_getElem_cons hlt
      generalize l[i] = p at hp hdr
      obtain ⟨c0, c1⟩ := hc i p hp
      have nb0 : ¬ (b0 = true) := fun hb0 => by have := hb hb0; omega
      refine ⟨nb0, by omega, by omega, _, c0, _, c1, ?_⟩
      (repeat apply Exists.intro); refine And.intro (fun _ _ => rcheck_any _ _ _) ?_
      refine iteI (fun a1 => ?_) (fun a1 => ?_)
      · rintro _ rfl
        rw [wrap_up i (by omega)]
        refine ⟨⟨_, i + 1, by omega, fun j q hj hq => ?_, rfl⟩, by simp only [upTo2]; omega⟩
        by_cases hji : j = i
        · subst hji; rw [hp] at hq; cases hq; assumption
        · exact hg j q (by omega) hq
      · rw [(chkL_bad hp a1).1]
    · rw [chkL_good fun j p hj hp => hg j p (by omega) hp]
theorem few1 {b : Nat} {t : TypeId} {v : Value} {l : List Sp} {w : World} (hb0 : w.heap[b]? = some (.cells #[v] t)) (h : Lst w v l) : Calls Try.prog 114 #[.slice (some ⟨b, 0, none⟩) 1 1] w (Vc.Ret (.int .i64 (lenL l)) w) := by
  have h0 := h
  obtain ⟨b0, p0, x1, rfl, hb, hc⟩ := lst_form h
  clear h
  have nb : (¬ (b0 = true)) ∨ ((l.length : Int) = 0) := by
    by_cases hb0 : b0 = true
    · right; have := hb hb0; omega
    · left; exact hb0
  have hcell : w.cell? ⟨b, 0, none⟩ = some (if b0 = true then .slice none 0 0 else .slice (some ⟨p0.1, p0.2, none⟩) (Int.toNat (l.length : Int)) (Int.toNat x1)) := by simp [World.cell?, hb0]
  unfold lenL
  refine vc_span_few_1 (b, 0) w _ ?_
  refine ⟨b0, p0, (l.length : Int), x1, hcell, by omega, nb, ?_⟩
  refine iteI (fun h1 => ?_) (fun h1 => ?_)
  · rw [if_pos (by omega)]
  · rw [if_neg (by omega)]
    refine ⟨b0, p0, (l.length : Int), x1, hcell, ?_⟩
    (repeat apply Exists.intro); refine And.intro (fun _ _ => pchkL (sl_below (by assumption) h0) (by omega)) ?_
    refine iteI (fun h2 => ?_) (fun h2 => ?_)
    · rw [h2]
    · rfl
/-- The error of two lists. -/
def lenL2 (l m : List Sp) : Int := if 64 < l.length ∨ 64 < m.length then 3 else if chkL l = 0 then chkL m else chkL l
theorem few2 {b : Nat} {t : TypeId} {v u : Value} {l m : List Sp} {w : World} (hb0 : w.heap[b]? = some (.cells #[v, u] t)) (h : Lst w v l) (h' : Lst w u m) : Calls Try.prog 114 #[.slice (some ⟨b, 0, none⟩) 2 2] w (Vc.Ret (.int .i64 (lenL2 l m)) w) := by
  have h0 := h
  have h0' := h'
  obtain ⟨b0, p0, x1, rfl, hb, hc⟩ := lst_form h
  obtain ⟨b1, p1, y1, rfl, hb', hc'⟩ := lst_form h'
  clear h h'
  have nb : (¬ (b0 = true)) ∨ ((l.length : Int) = 0) := by
    by_cases hb0 : b0 = true
    · right; have := hb hb0; omega
    · left; exact hb0
  have nb' : (¬ (b1 = true)) ∨ ((m.length : Int) = 0) := by
    by_cases hb1 : b1 = true
    · right; have := hb' hb1; omega
    · left; exact hb1
  have hcell : w.cell? ⟨b, 0, none⟩ = some (if b0 = true then .slice none 0 0 else .slice (some ⟨p0.1, p0.2, none⟩) (Int.toNat (l.length : Int)) (Int.toNat x1)) := by simp [World.cell?, hb0]
  have hcell' : w.cell? ⟨b, 1, none⟩ = some (if b1 = true then .slice none 0 0 else .slice (some ⟨p1.1, p1.2, none⟩) (Int.toNat (m.length : Int)) (Int.toNat y1)) := by simp [World.cell?, hb0]
  unfold lenL2
  refine vc_span_few_2 (b, 0) w _ ?_
  refine ⟨b0, p0, (l.length : Int), x1, hcell, by omega, nb, ?_⟩
  refine iteI (fun h1 => ?_) (fun h1 => ?_)
  · rw [if_pos (by omega)]
  · refine ⟨b1, p1, (m.length : Int), y1, hcell', by omega, nb', ?_⟩
    refine iteI (fun h2 => ?_) (fun h2 => ?_)
    · rw [if_pos (by omega)]
    · rw [if_neg (by omega)]
      refine ⟨b0, p0, (l.length : Int), x1, hcell, ?_⟩
      (repeat apply Exists.intro); refine And.intro (fun _ _ => pchkL (sl_below (by assumption) h0) (by omega)) ?_
      refine iteI (fun h3 => ?_) (fun h3 => ?_)
      · rw [if_pos h3]
        refine ⟨b1, p1, (m.length : Int), y1, hcell', ?_⟩
        (repeat apply Exists.intro); refine And.intro (fun _ _ => pchkL (sl_below (by assumption) h0') (by omega)) ?_
        refine iteI (fun h4 => ?_) (fun h4 => ?_)
        · rw [h4]
        · rfl
      · rw [if_neg h3]

/-- What some terms add up to. -/
def accL {α : Type} (f : α → R) : List α → Int → Int → R
  | [], a, b => (a, b, 0)
  | p :: r, a, b => if (f p).2.2 = 0 then (if (add a b (f p).1 (f p).2.1).2.2 = 0 then accL f r (add a b (f p).1 (f p).2.1).1 (add a b (f p).1 (f p).2.1).2.1 else (0, 0, (add a b (f p).1 (f p).2.1).2.2)) else (0, 0, (f p).2.2)
theorem accL_go {α : Type} {f : α → R} {p : α} {r : List α} {a b : Int} (h1 : (f p).2.2 = 0) (h2 : (add a b (f p).1 (f p).2.1).2.2 = 0) : accL f (p :: r) a b = accL f r (add a b (f p).1 (f p).2.1).1 (add a b (f p).1 (f p).2.1).2.1 := by
  simp only [accL, if_pos h1, if_pos h2]
theorem accL_add {α : Type} {f : α → R} {p : α} {r : List α} {a b : Int} (h1 : (f p).2.2 = 0) (h2 : ¬ (add a b (f p).1 (f p).2.1).2.2 = 0) : accL f (p :: r) a b = (0, 0, (add a b (f p).1 (f p).2.1).2.2) := by
  simp only [accL, if_pos h1, if_neg h2]
theorem accL_no {α : Type} {f : α → R} {p : α} {r : List α} {a b : Int} (h1 : ¬ (f p).2.2 = 0) : accL f (p :: r) a b = (0, 0, (f p).2.2) := by
  simp only [accL, if_neg h1]
def R64 (r : R) : Prop := I64 r.1 ∧ I64 r.2.1
theorem fit_64 (x y : Int) : R64 (fit x y) := by
  unfold fit R64
  split
  · constructor <;> constructor <;> simp only <;> omega
  · constructor <;> constructor <;> simp
theorem no_64 (e : Int) : R64 (0, 0, e) := by constructor <;> constructor <;> simp
theorem add_64 (a b c d : Int) : R64 (add a b c d) := by
  unfold add; split
  · exact fit_64 _ _
  · exact no_64 _
theorem mul_64 (a b c d : Int) : R64 (mul a b c d) := by
  unfold mul; split
  · exact fit_64 _ _
  · exact no_64 _
theorem square_64 (a b : Int) : R64 (square a b) := by
  unfold square; split
  · exact mul_64 _ _ _ _
  · exact no_64 _
def sumS (l : List Sp) : R := if lenL l = 0 then accL (fun p : Sp => (p.1, p.2, 0)) l 0 0 else (0, 0, lenL l)
def sqS (l : List Sp) : R := accL (fun p : Sp => square p.1 p.2) l 0 0
def normS (l : List Sp) : R := if lenL l = 0 then (if (sqS l).2.2 = 0 then root (sqS l).1 (sqS l).2.1 else (0, 0, (sqS l).2.2)) else (0, 0, lenL l)
theorem lenL_len {l : List Sp} (h : lenL l = 0) : l.length ≤ 64 := by
  unfold lenL at h
  split at h
  · cases h
  · omega
theorem pSum {w : World} {v : Value} {l : List Sp} (h : Lst w v l) (hl : ∀ p ∈ l, I64 p.1 ∧ I64 p.2) : Calls Try.prog 69 #[v] w (Vc.Ret (Vc.RV (sumS l)) w) := by
  have h0 := h
  obtain ⟨b0, p0, x1, rfl, hb, hc⟩ := lst_form h
  clear h
  have nb : (¬ (b0 = true)) ∨ ((l.length : Int) = 0) := by
    by_cases hb0 : b0 = true
    · right; have := hb hb0; omega
    · left; exact hb0
  refine vc_span_Sum p0 (l.length : Int) x1 b0 w _ ?_
  refine ⟨_, fun _ _ hbw hm => few1 hm.1.2 (sl_below hbw h0), ?_⟩
  refine iteI (fun h1 => ?_) (fun h1 => ?_)
  · have hs : sumS l = accL (fun p : Sp => (p.1, p.2, 0)) l 0 0 := if_pos h1
    have hn := lenL_len h1
    refine ⟨by omega, nb, ?_⟩
    refine ⟨fun y => ∃ (i : Nat) (a b : Int), i ≤ l.length ∧ sumS l = accL (fun p : Sp => (p.1, p.2, 0)) (l.drop i) a b ∧ I64 a ∧ I64 b ∧ y = [.i (i : Int), .i a, .i b], upTo (l.length : Int), ⟨0, 0, 0, by omega, hs, by constructor <;> decide, by constructor <;> decide, rfl⟩, ?_⟩
    rintro x3 x4 x5 ⟨i, a, b, hi, hg, ia, ib, hy⟩
    simp only [List.cons.injEq, Vc.Vl.i.injEq, and_true] at hy
    obtain ⟨rfl, rfl, rfl⟩ := hy
    refine iteI (fun h2 => ?_) (fun h2 => ?_)
    · have hlt : i < l.length := by omega
      have hp := List.getElem?_eq_getElem hlt
      have hdr := List.drop_eq_getElem_cons hlt
      generalize l[i] = p at hp hdr
      obtain ⟨c0, c1⟩ := hc i p hp
      have nb0 : ¬ (b0 = true) := fun hb0 => by have := hb hb0; omega
      have hpI := hl p (List.mem_of_getElem? hp)
      rw [hdr] at hg
      refine ⟨nb0, by omega, by omega, _, c0, _, c1, ?_⟩
      (repeat apply Exists.intro); refine And.intro (fun _ _ => padd_any _ _ _ _ _ ia ib hpI.1 hpI.2) ?_
      refine iteI (fun h3 => ?_) (fun h3 => ?_)
      · rintro _ rfl
        rw [wrap_up i (by omega)]
        refine ⟨⟨i + 1, _, _, by omega, hg.trans (accL_go rfl h3), (add_64 _ _ _ _).1, (add_64 _ _ _ _).2, rfl⟩, by simp only [upTo]; omega⟩
      · rw [hg.trans (accL_add rfl h3)]
    · have : l.drop i = [] := List.drop_of_length_le (by omega)
      rw [hg, this]
      rfl
  · unfold sumS; rw [if_neg h1]
theorem rSum {w : World} {v : Value} {l : List Sp} (h : Lst w v l) (hl : ∀ p ∈ l, I64 p.1 ∧ I64 p.2) : Calls Try.prog 70 #[v] w (Vc.Ret (Vc.RV (sumS l)) w) := by
  have h0 := h
  obtain ⟨b0, p0, x1, rfl, hb, hc⟩ := lst_form h
  clear h
  have nb : (¬ (b0 = true)) ∨ ((l.length : Int) = 0) := by
    by_cases hb0 : b0 = true
    · right; have := hb hb0; omega
    · left; exact hb0
  refine vc_ullageref01_Sum p0 (l.length : Int) x1 b0 w _ ?_
  (repeat apply Exists.intro); refine And.intro (fun _ _ => rlist (sl_below (by assumption) h0)) ?_
  refine ⟨fun y => ∃ (e : Int) (i : Nat) (a b : Int), i ≤ l.length ∧ (e = 0 → l.length ≤ 64 ∧ sumS l = accL (fun p : Sp => (p.1, p.2, 0)) (l.drop i) a b ∧ I64 a ∧ I64 b) ∧ (¬ e = 0 → sumS l = (0, 0, e)) ∧ y = [.i e, .i (i : Int), .i a, .i b], upTo2 (l.length : Int),
    ⟨_, 0, 0, 0, by omega, fun h1 => ⟨lenL_len h1, if_pos h1, by constructor <;> decide, by constructor <;> decide⟩, fun h1 => if_neg h1, rfl⟩, ?_⟩
  rintro x3 x4 x5 x6 ⟨e, i, a, b, hi, hg, he, hy⟩
  simp only [List.cons.injEq, Vc.Vl.i.injEq, and_true] at hy
  obtain ⟨rfl, rfl, rfl, rfl⟩ := hy
  refine ⟨by omega, nb, ?_⟩
  refine iteI (fun h2 => ?_) (fun h2 => ?_)
  · refine iteI (fun h3 => ?_) (fun h3 => ?_)
    · obtain ⟨hn, hg, ia, ib⟩ := hg h3
      have hlt : i < l.length := by omega
      have hp := List.getElem?_eq_getElem hlt
      have hdr := List.drop_eq_getElem_cons hlt
      generalize l[i] = p at hp hdr
      obtain ⟨c0, c1⟩ := hc i p hp
      have nb0 : ¬ (b0 = true) := fun hb0 => by have := hb hb0; omega
      have hpI := hl p (List.mem_of_getElem? hp)
      rw [hdr] at hg
      refine ⟨nb0, by omega, by omega, _, c0, _, c1, ?_⟩
      (repeat apply Exists.intro); refine And.intro (fun _ _ => radd_any _ _ _ _ _ ia ib hpI.1 hpI.2) ?_
      rintro _ rfl
      rw [wrap_up i (by omega)]
      refine ⟨⟨_, i + 1, _, _, by omega, fun h4 => ⟨hn, hg.trans (accL_go rfl h4), (add_64 _ _ _ _).1, (add_64 _ _ _ _).2⟩, fun h4 => hg.trans (accL_add rfl h4), rfl⟩, by simp only [upTo2]; omega⟩
    · refine iteI (fun h4 => absurd h4 h3) (fun h4 => ?_)
      rw [he h3]
  · refine iteI (fun h3 => ?_) (fun h3 => ?_)
    · have : l.drop i = [] := List.drop_of_length_le (by omega)
      rw [(hg h3).2.1, this]
      rfl
    · rw [he h3]
theorem normS_no {l : List Sp} (h : lenL l = 0) (h2 : ¬ (sqS l).2.2 = 0) : normS l = (0, 0, (sqS l).2.2) := by unfold normS; rw [if_pos h, if_neg h2]
theorem normS_ok {l : List Sp} (h : lenL l = 0) {a b : Int} (h2 : sqS l = (a, b, 0)) : normS l = root a b := by unfold normS; rw [if_pos h, h2]; rfl
theorem pNorm {w : World} {v : Value} {l : List Sp} (h : Lst w v l) (hl : ∀ p ∈ l, I64 p.1 ∧ I64 p.2) : Calls Try.prog 73 #[v] w (Vc.Ret (Vc.RV (normS l)) w) := by
  have h0 := h
  obtain ⟨b0, p0, x1, rfl, hb, hc⟩ := lst_form h
  clear h
  have nb : (¬ (b0 = true)) ∨ ((l.length : Int) = 0) := by
    by_cases hb0 : b0 = true
    · right; have := hb hb0; omega
    · left; exact hb0
  refine vc_span_Norm p0 (l.length : Int) x1 b0 w _ ?_
  refine ⟨_, fun _ _ hbw hm => few1 hm.1.2 (sl_below hbw h0), ?_⟩
  refine iteI (fun h1 => ?_) (fun h1 => ?_)
  · have hn := lenL_len h1
    refine ⟨by omega, nb, ?_⟩
    refine ⟨fun y => ∃ (i : Nat) (a b : Int), i ≤ l.length ∧ sqS l = accL (fun p : Sp => square p.1 p.2) (l.drop i) a b ∧ I64 a ∧ I64 b ∧ y = [.i (i : Int), .i a, .i b], upTo (l.length : Int), ⟨0, 0, 0, by omega, rfl, by constructor <;> decide, by constructor <;> decide, rfl⟩, ?_⟩
    rintro x3 x4 x5 ⟨i, a, b, hi, hg, ia, ib, hy⟩
    simp only [List.cons.injEq, Vc.Vl.i.injEq, and_true] at hy
    obtain ⟨rfl, rfl, rfl⟩ := hy
    refine iteI (fun h2 => ?_) (fun h2 => ?_)
    · have hlt : i < l.length := by omega
      have hp := List.getElem?_eq_getElem hlt
      have hdr := List.drop_eq_getElem_cons hlt
      generalize l[i] = p at hp hdr
      obtain ⟨c0, c1⟩ := hc i p hp
      have nb0 : ¬ (b0 = true) := fun hb0 => by have := hb hb0; omega
      have hpI := hl p (List.mem_of_getElem? hp)
      have sI := square_64 p.1 p.2
      rw [hdr] at hg
      refine ⟨nb0, by omega, by omega, _, c0, _, c1, ?_⟩
      (repeat apply Exists.intro); refine And.intro (fun _ _ => psquare_any _ _ _ hpI.1 hpI.2) ?_
      refine iteI (fun h3 => ?_) (fun h3 => ?_)
      · (repeat apply Exists.intro); refine And.intro (fun _ _ => padd_any _ _ _ _ _ ia ib sI.1 sI.2) ?_
        refine iteI (fun h4 => ?_) (fun h4 => ?_)
        · rintro _ rfl
          rw [wrap_up i (by omega)]
          refine ⟨⟨i + 1, _, _, by omega, hg.trans (accL_go h3 h4), (add_64 _ _ _ _).1, (add_64 _ _ _ _).2, rfl⟩, by simp only [upTo]; omega⟩
        · refine iteI (fun h5 => absurd h5 h4) (fun _ => ?_)
          have e := hg.trans (accL_add h3 h4)
          rw [normS_no h1 (by rw [e]; exact h4), e]
      · refine iteI (fun h5 => absurd h5 h3) (fun _ => ?_)
        refine iteI (fun h5 => absurd h5 h3) (fun _ => ?_)
        have e := hg.trans (accL_no h3)
        rw [normS_no h1 (by rw [e]; exact h3), e]
    · have : l.drop i = [] := List.drop_of_length_le (by omega)
      rw [this] at hg
      (repeat apply Exists.intro); refine And.intro (fun _ _ => pRoot_any _ _ _ ia ib) ?_
      rw [normS_ok h1 hg]
  · unfold normS; rw [if_neg h1]
theorem rNorm {w : World} {v : Value} {l : List Sp} (h : Lst w v l) (hl : ∀ p ∈ l, I64 p.1 ∧ I64 p.2) : Calls Try.prog 74 #[v] w (Vc.Ret (Vc.RV (normS l)) w) := by
  have h0 := h
  obtain ⟨b0, p0, x1, rfl, hb, hc⟩ := lst_form h
  clear h
  have nb : (¬ (b0 = true)) ∨ ((l.length : Int) = 0) := by
    by_cases hb0 : b0 = true
    · right; have := hb hb0; omega
    · left; exact hb0
  refine vc_ullageref01_Norm p0 (l.length : Int) x1 b0 w _ ?_
  (repeat apply Exists.intro); refine And.intro (fun _ _ => rlist (sl_below (by assumption) h0)) ?_
  refine iteI (fun h1 => ?_) (fun h1 => ?_)
  · have hn := lenL_len h1
    refine ⟨fun y => ∃ (c d e : Int) (i : Nat) (a b : Int), i ≤ l.length ∧ sqS l = accL (fun p : Sp => square p.1 p.2) (l.drop i) a b ∧ I64 a ∧ I64 b ∧ y = [.i c, .i (i : Int), .i d, .i e, .i a, .i b], upTo2 (l.length : Int), ⟨0, 0, 0, 0, 0, 0, by omega, rfl, by constructor <;> decide, by constructor <;> decide, rfl⟩, ?_⟩
    rintro x3 x4 x5 x6 x7 x8 ⟨c, d, e, i, a, b, hi, hg, ia, ib, hy⟩
    simp only [List.cons.injEq, Vc.Vl.i.injEq, and_true] at hy
    obtain ⟨rfl, rfl, rfl, rfl, rfl, rfl⟩ := hy
    refine ⟨by omega, nb, ?_⟩
    refine iteI (fun h2 => ?_) (fun h2 => ?_)
    · have hlt : i < l.length := by omega
      have hp := List.getElem?_eq_getElem hlt
      have hdr := List.drop_eq_getElem_cons hlt
      generalize l[i] = p at hp hdr
      obtain ⟨c0, c1⟩ := hc i p hp
      have nb0 : ¬ (b0 = true) := fun hb0 => by have := hb hb0; omega
      have hpI := hl p (List.mem_of_getElem? hp)
      have sI := square_64 p.1 p.2
      rw [hdr] at hg
      refine ⟨nb0, by omega, by omega, _, c0, _, c1, ?_⟩
      (repeat apply Exists.intro); refine And.intro (fun _ _ => rsquare_any _ _ _ hpI.1 hpI.2) ?_
      refine iteI (fun h3 => ?_) (fun h3 => ?_)
      · (repeat apply Exists.intro); refine And.intro (fun _ _ => radd_any _ _ _ _ _ ia ib sI.1 sI.2) ?_
        refine iteI (fun h4 => ?_) (fun h4 => ?_)
        · rintro _ rfl
          rw [wrap_up i (by omega)]
          refine ⟨⟨_, _, _, i + 1, _, _, by omega, hg.trans (accL_go h3 h4), (add_64 _ _ _ _).1, (add_64 _ _ _ _).2, rfl⟩, by simp only [upTo2]; omega⟩
        · have e := hg.trans (accL_add h3 h4)
          rw [normS_no h1 (by rw [e]; exact h4), e]
      · have e := hg.trans (accL_no h3)
        rw [normS_no h1 (by rw [e]; exact h3), e]
    · have : l.drop i = [] := List.drop_of_length_le (by omega)
      rw [this] at hg
      (repeat apply Exists.intro); refine And.intro (fun _ _ => rRoot_any _ _ _ ia ib) ?_
      rw [normS_ok h1 hg]
  · unfold normS; rw [if_neg h1]
end Go.Proofs.Ytdhiapllbjamfaa
