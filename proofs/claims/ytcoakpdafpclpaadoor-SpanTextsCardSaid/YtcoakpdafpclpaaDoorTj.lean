/- The reference's form of a text. -/
import Derived.Test.YtcoakpdafpclpaaDoorTk
set_option linter.unusedVariables false
set_option linter.unusedSimpArgs false
namespace Go.Proofs.YtcoakpdafpclpaaDoor
open Go Go.RowKit Go.Sort Go.Proofs Ul Vc
attribute [local irreducible] Go.Calls
/-- How form reads a text of length n from place i on. -/
def scan (n : Nat) : Nat → List UInt8 → Nat → Bool → Option (Nat × Bool)
  | _, [], a, sm => some (a, sm)
  | i, c :: r, a, sm =>
    if c = 46 ∧ a = n ∧ 0 < i ∧ i + 1 < n then scan n (i + 1) r i (sm || decide (48 < c.toNat))
    else if dig c = false then none
    else scan n (i + 1) r a (sm || decide (48 < c.toNat))
theorem someN_cons (c : UInt8) (r : List UInt8) (hc : dig c = true) : someN (digs (c :: r)) = (decide (48 < c.toNat) || someN (digs r)) := by
  have hc2 : 48 ≤ c.toNat ∧ c.toNat ≤ 57 := by simpa [dig] using hc
  simp only [someN, digs, List.map_cons, List.any_cons]
  congr 1
  rw [Bool.eq_iff_iff]; simp only [decide_eq_true_eq]; omega
theorem scan_after {n a : Nat} (ha : a ≠ n) : ∀ (r : List UInt8) (i : Nat) (sm : Bool), scan n i r a sm = if r.all dig = true then some (a, sm || someN (digs r)) else none
  | [], i, sm => by simp [scan, someN, digs]
  | c :: r, i, sm => by
    unfold scan
    rw [if_neg (fun h => ha h.2.1)]
    by_cases hc : dig c = false
    · rw [if_pos hc, if_neg (by simp [hc])]
    · have hc' : dig c = true := by simpa using hc
      rw [if_neg hc, scan_after ha r (i + 1) _, someN_cons c r hc', ← Bool.or_assoc]
      simp only [List.all_cons, hc', Bool.true_and]
theorem dig46 : dig 46 = false := by decide
theorem cut_cons {c : UInt8} (r : List UInt8) (hc : c ≠ 46) : cutH (c :: r) = c :: cutH r ∧ cutT (c :: r) = cutT r := by
  have h3 : (c != 46) = true := by simpa using hc
  constructor
  · simp only [cutH, List.takeWhile_cons, h3, if_true]
  · simp only [cutT, List.dropWhile_cons, h3, if_true]
def goodP (i : Nat) (r : List UInt8) : Prop := (cutH r).all dig = true ∧ 0 < i + (cutH r).length ∧ 0 < (cutT r).length ∧ (cutT r).all dig = true
theorem scan_before (n : Nat) : ∀ (r : List UInt8) (i : Nat) (sm : Bool), i + r.length = n →
    ((46 : UInt8) ∈ r → goodP i r → scan n i r n sm = some (i + (cutH r).length, sm || (someN (digs (cutH r)) || someN (digs (cutT r))))) ∧
    ((46 : UInt8) ∈ r → ¬ goodP i r → scan n i r n sm = none) ∧
    (¬ (46 : UInt8) ∈ r → r.all dig = true → scan n i r n sm = some (n, sm || someN (digs r))) ∧
    (¬ (46 : UInt8) ∈ r → r.all dig = false → scan n i r n sm = none)
  | [], i, sm, h => ⟨(by intro h; cases h), (by intro h; cases h), (fun _ _ => by simp [scan, someN, digs]), (fun _ h => by cases h)⟩
  | c :: r, i, sm, h => by
    simp only [List.length_cons] at h
    by_cases hc : c = 46
    · subst hc
      have e1 : cutH (46 :: r) = [] := rfl
      have e2 : cutT (46 :: r) = r := rfl
      have hm : (46 : UInt8) ∈ 46 :: r := List.mem_cons_self
      unfold goodP scan
      rw [e1, e2]
      by_cases hA : 0 < i ∧ i + 1 < n
      · rw [if_pos ⟨rfl, rfl, hA⟩, scan_after (by omega)]
        refine ⟨fun _ hg => ?_, fun _ hg => ?_, fun h' => (h' hm).elim, fun h' => (h' hm).elim⟩
        · rw [if_pos hg.2.2.2]
          have d48 : decide (48 < (46 : UInt8).toNat) = false := by decide
          have s0 : someN (digs []) = false := rfl
          rw [d48, s0]
          simp
        · rw [if_neg (fun hd => hg ⟨rfl, by simp; omega, by omega, hd⟩)]
      · rw [if_neg (fun h' => hA h'.2.2), if_pos dig46]
        refine ⟨fun _ hg => (hA ⟨by have := hg.2.1; simpa using this, by have := hg.2.2.1; omega⟩).elim, fun _ _ => rfl, fun h' => (h' hm).elim, fun h' => (h' hm).elim⟩
    · obtain ⟨e1, e2⟩ := cut_cons r hc
      have hmem : ((46 : UInt8) ∈ c :: r) ↔ (46 : UInt8) ∈ r := by simp [List.mem_cons, show ¬ (46 : UInt8) = c from fun e => hc e.symm]
      have hu : scan n i (c :: r) n sm = if dig c = false then none else scan n (i + 1) r n (sm || decide (48 < c.toNat)) := by
        conv => lhs; unfold scan
        rw [if_neg (fun h' => hc h'.1)]
      rw [hu]
      obtain ⟨i1, i2, i3, i4⟩ := scan_before n r (i + 1) (sm || decide (48 < c.toNat)) (by omega)
      by_cases hd : dig c = false
      · rw [if_pos hd]
        refine ⟨fun _ hg => ?_, fun _ _ => rfl, fun _ h' => ?_, fun _ _ => rfl⟩
        · have := hg.1; rw [e1, List.all_cons, hd] at this; cases this
        · rw [List.all_cons, hd] at h'; cases h'
      · have hd' : dig c = true := by simpa using hd
        rw [if_neg hd]
        have gp : goodP i (c :: r) ↔ goodP (i + 1) r := by
          unfold goodP
          rw [e1, e2, List.all_cons, hd', Bool.true_and, List.length_cons]
          constructor <;> rintro ⟨g1, g2, g3, g4⟩ <;> exact ⟨g1, by omega, g3, g4⟩
        refine ⟨fun hm hg => ?_, fun hm hg => i2 (hmem.1 hm) (mt gp.2 hg), fun hm ha => ?_, fun hm ha => i4 (mt hmem.2 hm) (by rwa [List.all_cons, hd', Bool.true_and] at ha)⟩
        · rw [i1 (hmem.1 hm) (gp.1 hg), e1, e2, someN_cons c _ hd', List.length_cons]
          simp only [Bool.or_assoc]
          congr 2; omega
        · rw [i3 (mt hmem.2 hm) (by rwa [List.all_cons, hd', Bool.true_and] at ha), someN_cons c _ hd', Bool.or_assoc]
/-- What form answers. -/
def formV (t : List UInt8) : Bool × Nat × Bool :=
  match scan t.length 0 t t.length false with
  | none => (false, 0, false)
  | some (a, sm) => (decide (0 < t.length) && (decide (a = 1) || decide (t.getD 0 0 ≠ 48)), a, sm)
theorem form_law (t : List UInt8) : (formV t).1 = formOk t ∧ (formOk t = true → (formV t).2.1 = (cutH t).length ∧ (formV t).2.2 = someT t) := by
  obtain ⟨i1, i2, i3, i4⟩ := scan_before t.length t 0 false (by omega)
  by_cases hm : (46 : UInt8) ∈ t
  · by_cases hg : goodP 0 t
    · have e : formV t = (decide (0 < t.length) && (decide (0 + (cutH t).length = 1) || decide (t.getD 0 0 ≠ 48)), 0 + (cutH t).length, false || (someN (digs (cutH t)) || someN (digs (cutT t)))) := by unfold formV; rw [i1 hm hg]
      rw [e]
      obtain ⟨g1, g2, g3, g4⟩ := hg
      refine ⟨?_, fun _ => ⟨Nat.zero_add _, by rw [Bool.false_or]; rfl⟩⟩
      rw [Bool.eq_iff_iff, form_iff]
      have hl := (cut_len t).1
      simp only [Bool.and_eq_true, Bool.or_eq_true, decide_eq_true_eq, Nat.zero_add]
      constructor
      · rintro ⟨_, h⟩; exact ⟨g1, by omega, h, fun _ => ⟨g4, g3⟩⟩
      · rintro ⟨_, _, h, _⟩; exact ⟨by omega, h⟩
    · have e : formV t = (false, 0, false) := by unfold formV; rw [i2 hm hg]
      have hb : formOk t = false := form_no fun h => hg ⟨h.1, by omega, (h.2.2.2 hm).2, (h.2.2.2 hm).1⟩
      rw [e]
      exact ⟨hb.symm, fun h => by rw [hb] at h; cases h⟩
  · obtain ⟨c1, c2⟩ := cut_none hm
    rcases ha : t.all dig with _ | _
    · have e : formV t = (false, 0, false) := by unfold formV; rw [i4 hm ha]
      have hb : formOk t = false := form_no fun h => by have := h.1; rw [c1, ha] at this; cases this
      rw [e]
      exact ⟨hb.symm, fun h => by rw [hb] at h; cases h⟩
    · have e : formV t = (decide (0 < t.length) && (decide (t.length = 1) || decide (t.getD 0 0 ≠ 48)), t.length, false || someN (digs t)) := by unfold formV; rw [i3 hm ha]
      rw [e]
      refine ⟨?_, fun _ => ⟨by rw [c1], by unfold someT; rw [c1, c2]; simp [digs, someN]⟩⟩
      rw [Bool.eq_iff_iff, form_iff, c1]
      simp only [Bool.and_eq_true, Bool.or_eq_true, decide_eq_true_eq]
      constructor
      · rintro ⟨h1, h⟩; exact ⟨ha, h1, h, fun h => (hm h).elim⟩
      · rintro ⟨_, h1, h, _⟩; exact ⟨h1, h⟩
theorem drop_at {S : List UInt8} {k : Nat} {c : UInt8} (h : S[k]? = some c) : S.drop k = c :: S.drop (k + 1) := by
  have hk : k < S.length := (List.getElem?_eq_some_iff.1 h).1
  rw [List.drop_eq_getElem_cons hk, (List.getElem?_eq_some_iff.1 h).2]
set_option maxHeartbeats 1000000 in
theorem form_c (S : List UInt8) (hS : S.length ≤ 1000) (w : World) : Calls Tryd.prog 23 #[.string ⟨S.toArray⟩] w (Vc.Ret (.tuple #[.bool (formV S).1, .int .i64 ((formV S).2.1 : Int), .bool (formV S).2.2]) w) := by
  refine vc_ullageref01_form _ w _ ?_
  obtain ⟨v, hv⟩ : ∃ v, v = (.tuple #[.bool (formV S).1, .int .i64 ((formV S).2.1 : Int), .bool (formV S).2.2] : Value) := ⟨_, rfl⟩
  rw [← hv]
  rintro _ rfl
  refine ⟨fun y => ∃ (k a : Nat) (sm : Bool), k ≤ S.length ∧ a ≤ S.length ∧ scan S.length k (S.drop k) a sm = scan S.length 0 S S.length false ∧ y = [.i (a : Int), .b false, .i 0, .b false, .b sm, .i (k : Int)], upK 5 (S.length : Int), ⟨0, S.length, false, by omega, by omega, rfl, rfl⟩, ?_⟩
  rintro x1 b0 x2 b1 sm x3 ⟨k, a, sm2, hk, hal, hsc, hy⟩
  simp only [List.cons.injEq, Vl.i.injEq, Vl.b.injEq, and_true] at hy
  obtain ⟨rfl, rfl, rfl, rfl, rfl, rfl⟩ := hy
  rintro _ rfl
  refine ⟨fun h0 => ?_, fun h0 => ?_⟩
  · have hk' : k < S.length := by omega
    obtain ⟨c, hc, hg⟩ := get_at hk'
    rw [drop_at hc] at hsc
    rw [hg]
    have bad : dig c = false → ¬ (c = 46 ∧ a = S.length ∧ 0 < k ∧ k + 1 < S.length) → (.tuple #[.bool false, .int .i64 0, .bool false] : Value) = v := fun h1 h2 => by
      have e : scan S.length 0 S S.length false = none := by
        rw [← hsc]; unfold scan; rw [if_neg h2, if_pos h1]
      rw [hv]; unfold formV; rw [e]; rfl
    rintro _ rfl
    refine ⟨by omega, h0, ?_⟩
    rintro _ rfl
    refine ⟨fun h46 => ?_, fun h46 => ?_⟩
    · have hc46 : c = 46 := UInt8.toNat_inj.1 (by show _ = 46; omega)
      rintro _ rfl
      refine ⟨fun hat => ?_, fun hat => ?_⟩
      · refine ⟨fun hk0 => ?_, fun hk0 => ?_⟩
        · rintro _ rfl
          rw [Vc.i64_id (x := ((S.length : Nat) : Int) - 1) (by omega)]
          rintro _ rfl
          refine ⟨fun hk1 => ?_, fun hk1 => ?_⟩
          · have hstep : scan S.length k (c :: S.drop (k + 1)) a sm = scan S.length (k + 1) (S.drop (k + 1)) k (sm || decide (48 < c.toNat)) := by
              conv => lhs; unfold scan
              rw [if_pos ⟨hc46, by omega, by omega, by omega⟩]
            refine ⟨fun hs => ?_, fun hs => ?_⟩
            · rintro _ rfl
              rw [wrap_up k (by omega)]
              exact ⟨⟨k + 1, _, _, by omega, by omega, by rw [← hsc, hstep]; simp only [hs, Bool.true_or], rfl⟩, by show ((S.length : Int) - ((k + 1 : Nat) : Int)).toNat < ((S.length : Int) - (k : Int)).toNat; omega⟩
            · have hs' : sm = false := by simpa using hs
              rintro _ rfl
              refine ⟨by omega, h0, ?_⟩
              rintro _ rfl _ rfl
              rw [wrap_up k (by omega)]
              exact ⟨⟨k + 1, _, _, by omega, by omega, by rw [← hsc, hstep, hs', Bool.false_or]; congr 1; rw [Bool.eq_iff_iff]; simp only [decide_eq_true_eq]; omega, rfl⟩, by show ((S.length : Int) - ((k + 1 : Nat) : Int)).toNat < ((S.length : Int) - (k : Int)).toNat; omega⟩
          · have hA : ¬ (c = 46 ∧ a = S.length ∧ 0 < k ∧ k + 1 < S.length) := fun h => by omega
            rintro _ rfl
            refine ⟨by omega, h0, ?_⟩
            rintro _ rfl
            refine ⟨fun hb => bad (by simp [dig]; omega) hA, fun hb => ?_⟩
            rintro _ rfl
            refine ⟨by omega, h0, ?_⟩
            rintro _ rfl
            refine ⟨fun hb2 => bad (by simp [dig]; omega) hA, fun hb2 => ?_⟩
            have hcd : dig c = true := by simp [dig]; omega
            have hstep : scan S.length k (c :: S.drop (k + 1)) a sm = scan S.length (k + 1) (S.drop (k + 1)) a (sm || decide (48 < c.toNat)) := by
              conv => lhs; unfold scan
              rw [if_neg hA, if_neg (by simp [hcd])]
            refine ⟨fun hs => ?_, fun hs => ?_⟩
            · rintro _ rfl
              rw [wrap_up k (by omega)]
              exact ⟨⟨k + 1, _, _, by omega, by omega, by rw [← hsc, hstep]; simp only [hs, Bool.true_or], rfl⟩, by show ((S.length : Int) - ((k + 1 : Nat) : Int)).toNat < ((S.length : Int) - (k : Int)).toNat; omega⟩
            · have hs' : sm = false := by simpa using hs
              rintro _ rfl
              refine ⟨by omega, h0, ?_⟩
              rintro _ rfl _ rfl
              rw [wrap_up k (by omega)]
              exact ⟨⟨k + 1, _, _, by omega, by omega, by rw [← hsc, hstep, hs', Bool.false_or]; congr 1; rw [Bool.eq_iff_iff]; simp only [decide_eq_true_eq]; omega, rfl⟩, by show ((S.length : Int) - ((k + 1 : Nat) : Int)).toNat < ((S.length : Int) - (k : Int)).toNat; omega⟩
        · have hA : ¬ (c = 46 ∧ a = S.length ∧ 0 < k ∧ k + 1 < S.length) := fun h => by omega
          rintro _ rfl
          refine ⟨by omega, h0, ?_⟩
          rintro _ rfl
          refine ⟨fun hb => bad (by simp [dig]; omega) hA, fun hb => ?_⟩
          rintro _ rfl
          refine ⟨by omega, h0, ?_⟩
          rintro _ rfl
          refine ⟨fun hb2 => bad (by simp [dig]; omega) hA, fun hb2 => ?_⟩
          have hcd : dig c = true := by simp [dig]; omega
          have hstep : scan S.length k (c :: S.drop (k + 1)) a sm = scan S.length (k + 1) (S.drop (k + 1)) a (sm || decide (48 < c.toNat)) := by
            conv => lhs; unfold scan
            rw [if_neg hA, if_neg (by simp [hcd])]
          refine ⟨fun hs => ?_, fun hs => ?_⟩
          · rintro _ rfl
            rw [wrap_up k (by omega)]
            exact ⟨⟨k + 1, _, _, by omega, by omega, by rw [← hsc, hstep]; simp only [hs, Bool.true_or], rfl⟩, by show ((S.length : Int) - ((k + 1 : Nat) : Int)).toNat < ((S.length : Int) - (k : Int)).toNat; omega⟩
          · have hs' : sm = false := by simpa using hs
            rintro _ rfl
            refine ⟨by omega, h0, ?_⟩
            rintro _ rfl _ rfl
            rw [wrap_up k (by omega)]
            exact ⟨⟨k + 1, _, _, by omega, by omega, by rw [← hsc, hstep, hs', Bool.false_or]; congr 1; rw [Bool.eq_iff_iff]; simp only [decide_eq_true_eq]; omega, rfl⟩, by show ((S.length : Int) - ((k + 1 : Nat) : Int)).toNat < ((S.length : Int) - (k : Int)).toNat; omega⟩
      · have hA : ¬ (c = 46 ∧ a = S.length ∧ 0 < k ∧ k + 1 < S.length) := fun h => by omega
        rintro _ rfl
        refine ⟨by omega, h0, ?_⟩
        rintro _ rfl
        refine ⟨fun hb => bad (by simp [dig]; omega) hA, fun hb => ?_⟩
        rintro _ rfl
        refine ⟨by omega, h0, ?_⟩
        rintro _ rfl
        refine ⟨fun hb2 => bad (by simp [dig]; omega) hA, fun hb2 => ?_⟩
        have hcd : dig c = true := by simp [dig]; omega
        have hstep : scan S.length k (c :: S.drop (k + 1)) a sm = scan S.length (k + 1) (S.drop (k + 1)) a (sm || decide (48 < c.toNat)) := by
          conv => lhs; unfold scan
          rw [if_neg hA, if_neg (by simp [hcd])]
        refine ⟨fun hs => ?_, fun hs => ?_⟩
        · rintro _ rfl
          rw [wrap_up k (by omega)]
          exact ⟨⟨k + 1, _, _, by omega, by omega, by rw [← hsc, hstep]; simp only [hs, Bool.true_or], rfl⟩, by show ((S.length : Int) - ((k + 1 : Nat) : Int)).toNat < ((S.length : Int) - (k : Int)).toNat; omega⟩
        · have hs' : sm = false := by simpa using hs
          rintro _ rfl
          refine ⟨by omega, h0, ?_⟩
          rintro _ rfl _ rfl
          rw [wrap_up k (by omega)]
          exact ⟨⟨k + 1, _, _, by omega, by omega, by rw [← hsc, hstep, hs', Bool.false_or]; congr 1; rw [Bool.eq_iff_iff]; simp only [decide_eq_true_eq]; omega, rfl⟩, by show ((S.length : Int) - ((k + 1 : Nat) : Int)).toNat < ((S.length : Int) - (k : Int)).toNat; omega⟩
    · have hA : ¬ (c = 46 ∧ a = S.length ∧ 0 < k ∧ k + 1 < S.length) := fun h => h46 (by rw [h.1]; rfl)
      rintro _ rfl
      refine ⟨by omega, h0, ?_⟩
      rintro _ rfl
      refine ⟨fun hb => bad (by simp [dig]; omega) hA, fun hb => ?_⟩
      rintro _ rfl
      refine ⟨by omega, h0, ?_⟩
      rintro _ rfl
      refine ⟨fun hb2 => bad (by simp [dig]; omega) hA, fun hb2 => ?_⟩
      have hcd : dig c = true := by simp [dig]; omega
      have hstep : scan S.length k (c :: S.drop (k + 1)) a sm = scan S.length (k + 1) (S.drop (k + 1)) a (sm || decide (48 < c.toNat)) := by
        conv => lhs; unfold scan
        rw [if_neg hA, if_neg (by simp [hcd])]
      refine ⟨fun hs => ?_, fun hs => ?_⟩
      · rintro _ rfl
        rw [wrap_up k (by omega)]
        exact ⟨⟨k + 1, _, _, by omega, by omega, by rw [← hsc, hstep]; simp only [hs, Bool.true_or], rfl⟩, by show ((S.length : Int) - ((k + 1 : Nat) : Int)).toNat < ((S.length : Int) - (k : Int)).toNat; omega⟩
      · have hs' : sm = false := by simpa using hs
        rintro _ rfl
        refine ⟨by omega, h0, ?_⟩
        rintro _ rfl _ rfl
        rw [wrap_up k (by omega)]
        exact ⟨⟨k + 1, _, _, by omega, by omega, by rw [← hsc, hstep, hs', Bool.false_or]; congr 1; rw [Bool.eq_iff_iff]; simp only [decide_eq_true_eq]; omega, rfl⟩, by show ((S.length : Int) - ((k + 1 : Nat) : Int)).toNat < ((S.length : Int) - (k : Int)).toNat; omega⟩
  · have hk' : k = S.length := by omega
    rw [hk', List.drop_length] at hsc
    have e : scan S.length 0 S S.length false = some (a, sm) := by rw [← hsc]; rfl
    have hf : formV S = (decide (0 < S.length) && (decide (a = 1) || decide (S.getD 0 0 ≠ 48)), a, sm) := by unfold formV; rw [e]
    rw [hf] at hv
    rintro _ rfl
    refine ⟨fun hl => ?_, fun hl => ?_⟩
    · refine ⟨fun h1 => ?_, fun h1 => ?_⟩
      · rw [hv, decide_eq_true (show 0 < S.length by omega), decide_eq_true (show a = 1 by omega)]; rfl
      · rintro _ rfl
        refine ⟨hl, ?_⟩
        rintro _ rfl
        rw [hv, decide_eq_true (show 0 < S.length by omega), decide_eq_false (show ¬ a = 1 by omega), Bool.true_and, Bool.false_or]
        have e0 : S.getD (Int.toNat 0) 0 = S.getD 0 0 := rfl
        rw [e0]
        have e1 : ((((S.getD 0 0).toNat : Nat) : Int) != 48) = decide (S.getD 0 0 ≠ 48) := by
          rw [Bool.eq_iff_iff]
          simp only [bne_iff_ne, ne_eq, decide_eq_true_eq]
          constructor
          · intro h h2; exact h (by rw [h2]; rfl)
          · intro h h2; exact h (UInt8.toNat_inj.1 (by show _ = 48; omega))
        rw [e1]
    · rw [hv, decide_eq_false (show ¬ 0 < S.length by omega)]; rfl
end Go.Proofs.YtcoakpdafpclpaaDoor
