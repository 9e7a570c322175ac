/- Contracts: sums of products, both; the law SpanLists. -/
import Derived.Test.YtdhiapllbjamfaaUa
set_option linter.unusedVariables false
set_option linter.unusedSimpArgs false
namespace Go.Proofs.Ytdhiapllbjamfaa
open Go Go.RowKit Ul Vc
attribute [local irreducible] Go.Calls

def qc (x : Sp × Sp) : List Value := [.int .i64 x.1.1, .int .i64 x.1.2, .int .i64 x.2.1, .int .i64 x.2.2]
theorem qc_len (x : Sp × Sp) : (qc x).length = 4 := rfl
def z4 : List Value := [.int .i64 0, .int .i64 0, .int .i64 0, .int .i64 0]
def mulP (x : Sp × Sp) : R := mul x.1.1 x.1.2 x.2.1 x.2.2
def dotS (l m : List Sp) : R := if 64 < l.length ∨ 64 < m.length then (0, 0, 3) else if chkL l = 0 ∧ chkL m = 0 ∧ l.length = m.length then accL mulP (l.zip m) 0 0 else (0, 0, 2)
theorem row_set {A : List Value} {x : Sp × Sp} {i k : Nat} (h : A.length = i * 4) : (A ++ times z4 (k + 1)).take (i * 4 + 0) ++ qc x ++ (A ++ times z4 (k + 1)).drop (i * 4 + 0 + 4) = A ++ qc x ++ times z4 k := by
  have h1 : (A ++ times z4 (k + 1)).take (i * 4 + 0) = A := by
    rw [Nat.add_zero, ← h]; simp
  have h2 : (A ++ times z4 (k + 1)).drop (i * 4 + 0 + 4) = times z4 k := by
    rw [Nat.add_zero, ← h, ← List.drop_drop]
    simp [times, z4]
  rw [h1, h2]
theorem lenL2_ok {l m : List Sp} (h : lenL2 l m = 0) : l.length ≤ 64 ∧ m.length ≤ 64 ∧ chkL l = 0 ∧ chkL m = 0 := by
  unfold lenL2 at h
  split at h
  · cases h
  · split at h
    · exact ⟨by omega, by omega, by assumption, h⟩
    · exact absurd h (by assumption)
theorem lenL2_no {l m : List Sp} (h : ¬ lenL2 l m = 0) : dotS l m = (0, 0, lenL2 l m) := by
  unfold lenL2 at h ⊢
  unfold dotS
  split
  · rfl
  · rename_i h1
    rw [if_neg h1] at h
    rcases chkL_or l with e | e <;> rcases chkL_or m with e' | e' <;> simp [e, e'] at h ⊢
theorem zip_at {l m : List Sp} {i : Nat} {p q : Sp} (hp : l[i]? = some p) (hq : m[i]? = some q) : (l.zip m)[i]? = some (p, q) := by
  rw [List.getElem?_zip_eq_some]; exact ⟨hp, hq⟩
theorem pDot {w : World} {v u : Value} {l m : List Sp} (h : Lst w v l) (h' : Lst w u m) (hl : ∀ p ∈ l, I64 p.1 ∧ I64 p.2) (hlm : ∀ p ∈ m, I64 p.1 ∧ I64 p.2) : Calls Try.prog 71 #[v, u] w (Vc.Ret (Vc.RV (dotS l m)) w) := by
  have h0 := h
  have h0' := h'
  obtain ⟨b0, p0, x1, rfl, hb, hc⟩ := lst_form h
  obtain ⟨b1, p1, y1, rfl, hb', hc'⟩ := lst_form h'
  clear h h'
  have nb : (¬ (b0 = true)) ∨ ((l.length : Int) = 0) := by
    by_cases hb0 : b0 = true
    · right; have := hb hb0; omega
    · left; exact hb0
  have nb' : (¬ (b1 = true)) ∨ ((m.length : Int) = 0) := by
    by_cases hb1 : b1 = true
    · right; have := hb' hb1; omega
    · left; exact hb1
  refine vc_span_Dot p0 p1 (l.length : Int) x1 (m.length : Int) y1 b0 b1 w _ ?_
  refine ⟨_, fun _ _ hbw hm => few2 hm.1.2 (sl_below hbw h0) (sl_below hbw h0'), ?_⟩
  refine iteI (fun h1 => ?_) (fun h1 => ?_)
  · obtain ⟨k1, k2, k3, k4⟩ := lenL2_ok h1
    refine ⟨by omega, nb, by omega, nb', ?_⟩
    refine iteI (fun h2 => ?_) (fun h2 => ?_)
    · have hmn : m.length = l.length := by omega
      have hd : dotS l m = accL mulP (l.zip m) 0 0 := by unfold dotS; rw [if_neg (by omega), if_pos ⟨k3, k4, by omega⟩]
      have hzl : (l.zip m).length = l.length := by rw [List.length_zip]; omega
      refine ⟨by omega, nb, by omega, by omega, ?_⟩
      intro l0 e0
      refine ⟨by omega, nb, ?_⟩
      refine ⟨fun y => ∃ i : Nat, i ≤ l.length ∧ y = [.i (i : Int), .l (((l.zip m).take i).flatMap qc ++ times z4 (l.length - i))], upTo (l.length : Int), ⟨0, by omega, by rw [List.append_nil, e0]; rfl⟩, ?_⟩
      rintro x5 l1 ⟨i, hi, hy⟩
      simp only [List.cons.injEq, Vc.Vl.i.injEq, Vc.Vl.l.injEq, and_true] at hy
      obtain ⟨rfl, e1⟩ := hy
      rw [List.append_nil] at e1
      have htl : (((l.zip m).take i).flatMap qc).length = i * 4 := by rw [flat_len qc_len, List.length_take, hzl, Nat.min_eq_left hi]
      have hlen : l1.length = l.length * 4 := by
        have := congrArg List.length e1
        rw [List.length_map, List.length_append, htl, times_length] at this
        have hz : z4.length = 4 := rfl
        rw [hz] at this
        omega
      have hN : (((0 + (l1.length + 0)) / 4 : Nat) : Int) = (l.length : Int) := by rw [hlen]; omega
      rw [hN]
      refine iteI (fun h3 => ?_) (fun h3 => ?_)
      · have hlt : i < l.length := by omega
        have hp := List.getElem?_eq_getElem hlt
        have hdr := List.drop_eq_getElem_cons hlt
        generalize l[i] = p at hp hdr
        obtain ⟨c0, c1⟩ := hc i p hp
        have nb0 : ¬ (b0 = true) := fun hb0 => by have := hb hb0; omega
        have hq := List.getElem?_eq_getElem (show i < m.length by omega)
        generalize m[i] = q at hq
        obtain ⟨d0, d1⟩ := hc' i q hq
        have nb1 : ¬ (b1 = true) := fun hb1 => by have := hb' hb1; omega
        refine ⟨nb0, by omega, by omega, _, c0, _, c1, nb1, by omega, by omega, _, d0, _, d1, ?_⟩
        rintro _ rfl
        refine ⟨by omega, by omega, ?_⟩
        rintro _ rfl
        refine ⟨by omega, by omega, ?_⟩
        intro l2 e2
        rintro _ rfl
        rw [wrap_up i (by omega)]
        refine ⟨⟨i + 1, by omega, ?_⟩, by simp only [upTo]; omega⟩
        have hk : l.length - i = (l.length - (i + 1)) + 1 := by omega
        rw [List.append_nil, e1, hk] at e2
        have e3 := row_set (x := (p, q)) (k := l.length - (i + 1)) htl
        have e4 : (l.zip m).take (i + 1) = (l.zip m).take i ++ [(p, q)] := by rw [List.take_add_one, zip_at hp hq]; rfl
        rw [List.append_nil, e4, List.flatMap_append]
        rw [show l2.map (·.1) = _ from e2.trans e3]
        simp
      · obtain rfl : i = l.length := by omega
        have e5 : l1.map (·.1) = (l.zip m).flatMap qc := by
          rw [e1, List.take_of_length_le (by omega), Nat.sub_self]
          simp [times]
        have cell : ∀ (k o : Nat) (x : Sp × Sp) (u : Value), (l.zip m)[k]? = some x → o < 4 → (qc x)[o]? = some u → (l1.map (·.1) ++ ([] : List Value))[k * 4 + o]? = some u := fun k o x u hx ho hu => by
          rw [List.append_nil, e5, flat_at qc_len hx ho]; exact hu
        rintro _ rfl
        refine ⟨fun y => ∃ (k : Nat) (a b : Int), k ≤ l.length ∧ dotS l m = accL mulP ((l.zip m).drop k) a b ∧ I64 a ∧ I64 b ∧ y = [.i (k : Int), .i a, .i b], upTo (l.length : Int), ⟨0, 0, 0, by omega, hd, by constructor <;> decide, by constructor <;> decide, rfl⟩, ?_⟩
        rintro x7 x8 x9 ⟨k, a, b, hk, hg, ia, ib, hy⟩
        simp only [List.cons.injEq, Vc.Vl.i.injEq, and_true] at hy
        obtain ⟨rfl, rfl, rfl⟩ := hy
        refine iteI (fun h4 => ?_) (fun h4 => ?_)
        · have hkl : k < (l.zip m).length := by omega
          have hx := List.getElem?_eq_getElem hkl
          have hdr := List.drop_eq_getElem_cons hkl
          generalize (l.zip m)[k] = x at hx hdr
          obtain ⟨x1', x2'⟩ := x
          obtain ⟨g1, g2⟩ := List.getElem?_zip_eq_some.1 hx
          have i1 := hl _ (List.mem_of_getElem? g1)
          have i2 := hlm _ (List.mem_of_getElem? g2)
          have mI := mul_64 x1'.1 x1'.2 x2'.1 x2'.2
          rw [hdr] at hg
          rintro _ rfl
          refine ⟨by omega, by omega, _, cell k 0 _ _ hx (by decide) rfl, _, cell k 1 _ _ hx (by decide) rfl, _, cell k 2 _ _ hx (by decide) rfl, _, cell k 3 _ _ hx (by decide) rfl, ?_⟩
          (repeat apply Exists.intro); refine And.intro (fun _ _ => pmul_any _ _ _ _ _ i1.1 i1.2 i2.1 i2.2) ?_
          refine iteI (fun h5 => ?_) (fun h5 => ?_)
          · (repeat apply Exists.intro); refine And.intro (fun _ _ => padd_any _ _ _ _ _ ia ib mI.1 mI.2) ?_
            refine iteI (fun h6 => ?_) (fun h6 => ?_)
            · rintro _ rfl
              rw [wrap_up k (by omega)]
              refine ⟨⟨k + 1, _, _, by omega, hg.trans (accL_go h5 h6), (add_64 _ _ _ _).1, (add_64 _ _ _ _).2, rfl⟩, by simp only [upTo]; omega⟩
            · rw [hg.trans (accL_add h5 h6)]
              rfl
          · refine iteI (fun h6 => absurd h6 h5) (fun _ => ?_)
            rw [hg.trans (accL_no h5)]
            rfl
        · have : (l.zip m).drop k = [] := List.drop_of_length_le (by omega)
          rw [hg, this]
          rfl
    · unfold dotS; rw [if_neg (by omega), if_neg (fun hx => h2 (by omega))]
  · rw [lenL2_no h1]
theorem rDot {w : World} {v u : Value} {l m : List Sp} (h : Lst w v l) (h' : Lst w u m) (hl : ∀ p ∈ l, I64 p.1 ∧ I64 p.2) (hlm : ∀ p ∈ m, I64 p.1 ∧ I64 p.2) : Calls Try.prog 72 #[v, u] w (Vc.Ret (Vc.RV (dotS l m)) w) := by
  have h0 := h
  have h0' := h'
  obtain ⟨b0, p0, x1, rfl, hb, hc⟩ := lst_form h
  obtain ⟨b1, p1, y1, rfl, hb', hc'⟩ := lst_form h'
  clear h h'
  have nb : (¬ (b0 = true)) ∨ ((l.length : Int) = 0) := by
    by_cases hb0 : b0 = true
    · right; have := hb hb0; omega
    · left; exact hb0
  have nb' : (¬ (b1 = true)) ∨ ((m.length : Int) = 0) := by
    by_cases hb1 : b1 = true
    · right; have := hb' hb1; omega
    · left; exact hb1
  refine vc_ullageref01_Dot p0 p1 (l.length : Int) x1 (m.length : Int) y1 b0 b1 w _ ?_
  refine ⟨by omega, nb, ?_⟩
  refine iteI (fun h1 => ?_) (fun h1 => ?_)
  · unfold dotS; rw [if_pos (by omega)]
  · refine ⟨by omega, nb', ?_⟩
    refine iteI (fun h2 => ?_) (fun h2 => ?_)
    · unfold dotS; rw [if_pos (by omega)]
    · have el : lenL l = chkL l := by unfold lenL; rw [if_neg (by omega)]
      have em : lenL m = chkL m := by unfold lenL; rw [if_neg (by omega)]
      have hno : ¬ (chkL l = 0 ∧ chkL m = 0 ∧ l.length = m.length) → dotS l m = (0, 0, 2) := fun hx => by unfold dotS; rw [if_neg (by omega), if_neg hx]
      (repeat apply Exists.intro); refine And.intro (fun _ _ => rlist (sl_below (by assumption) h0)) ?_
      refine iteI (fun h3 => ?_) (fun h3 => ?_)
      · (repeat apply Exists.intro); refine And.intro (fun _ _ => rlist (sl_below (by assumption) h0')) ?_
        refine iteI (fun h4 => ?_) (fun h4 => ?_)
        · refine ⟨by omega, nb, by omega, nb', ?_⟩
          refine iteI (fun h5 => ?_) (fun h5 => ?_)
          · have hd : dotS l m = accL mulP (l.zip m) 0 0 := by unfold dotS; rw [if_neg (by omega), if_pos ⟨by omega, by omega, by omega⟩]
            have hzl : (l.zip m).length = l.length := by rw [List.length_zip]; omega
            refine ⟨fun y => ∃ (c d e : Int) (i : Nat) (a b : Int), i ≤ l.length ∧ dotS l m = accL mulP ((l.zip m).drop i) a b ∧ I64 a ∧ I64 b ∧ y = [.i c, .i (i : Int), .i d, .i e, .i a, .i b], upTo2 (l.length : Int), ⟨0, 0, 0, 0, 0, 0, by omega, hd, by constructor <;> decide, by constructor <;> decide, rfl⟩, ?_⟩
            rintro x6 x7 x8 x9 x10 x11 ⟨c, d, e, i, a, b, hi, hg, ia, ib, hy⟩
            simp only [List.cons.injEq, Vc.Vl.i.injEq, and_true] at hy
            obtain ⟨rfl, rfl, rfl, rfl, rfl, rfl⟩ := hy
            refine ⟨by omega, nb, ?_⟩
            refine iteI (fun h6 => ?_) (fun h6 => ?_)
            · have hlt : i < l.length := by omega
              have hp := List.getElem?_eq_getElem hlt
              generalize l[i] = p at hp
              obtain ⟨c0, c1⟩ := hc i p hp
              have nb0 : ¬ (b0 = true) := fun hb0 => by have := hb hb0; omega
              have hq := List.getElem?_eq_getElem (show i < m.length by omega)
              generalize m[i] = q at hq
              obtain ⟨d0, d1⟩ := hc' i q hq
              have nb1 : ¬ (b1 = true) := fun hb1 => by have := hb' hb1; omega
              have hkl : i < (l.zip m).length := by omega
              have hdr := List.drop_eq_getElem_cons hkl
              have hx := zip_at hp hq
              rw [List.getElem?_eq_getElem hkl] at hx
              rw [Option.some.inj hx] at hdr
              have i1 := hl _ (List.mem_of_getElem? hp)
              have i2 := hlm _ (List.mem_of_getElem? hq)
              have mI := mul_64 p.1 p.2 q.1 q.2
              rw [hdr] at hg
              refine ⟨nb0, by omega, by omega, _, c0, _, c1, nb1, by omega, by omega, _, d0, _, d1, ?_⟩
              (repeat apply Exists.intro); refine And.intro (fun _ _ => rmul_any _ _ _ _ _ i1.1 i1.2 i2.1 i2.2) ?_
              refine iteI (fun h7 => ?_) (fun h7 => ?_)
              · (repeat apply Exists.intro); refine And.intro (fun _ _ => radd_any _ _ _ _ _ ia ib mI.1 mI.2) ?_
                refine iteI (fun h8 => ?_) (fun h8 => ?_)
                · rintro _ rfl
                  rw [wrap_up i (by omega)]
                  refine ⟨⟨_, _, _, i + 1, _, _, by omega, hg.trans (accL_go h7 h8), (add_64 _ _ _ _).1, (add_64 _ _ _ _).2, rfl⟩, by simp only [upTo2]; omega⟩
                · rw [hg.trans (accL_add h7 h8)]
                  rfl
              · rw [hg.trans (accL_no h7)]
                rfl
            · have : (l.zip m).drop i = [] := List.drop_of_length_le (by omega)
              rw [hg, this]
              rfl
          · rw [hno (fun hx => h5 (by omega))]
        · rw [hno (fun hx => h4 (by omega))]
      · rw [hno (fun hx => h3 (by omega))]
theorem sc_one (p : Sp) : ∀ v ∈ sc p, v.oneCell' = true := by
  intro v hv
  simp only [sc, List.mem_cons, List.not_mem_nil, or_false] at hv
  rcases hv with rfl | rfl <;> rfl
theorem walk_spanLists {w : World} {v : Value} {l : List Sp} (h : Lst w v l) (hl : ∀ p ∈ l, I64 p.1 ∧ I64 p.2) {u : Value} {m : List Sp} (h' : Lst w u m) (hlm : ∀ p ∈ m, I64 p.1 ∧ I64 p.2) :
    Calls Try.prog 11 #[v, u] w (Vc.Ret (.bool true) w) := by
  have h0 := h
  have h0' := h'
  obtain ⟨b0, p0, x1, rfl, hb, hc⟩ := lst_form h
  obtain ⟨b1, p1, y1, rfl, hb', hc'⟩ := lst_form h'
  clear h h'
  have nb : (¬ (b0 = true)) ∨ ((l.length : Int) = 0) := by
    by_cases hb0 : b0 = true
    · right; have := hb hb0; omega
    · left; exact hb0
  have nb' : (¬ (b1 = true)) ∨ ((m.length : Int) = 0) := by
    by_cases hb1 : b1 = true
    · right; have := hb' hb1; omega
    · left; exact hb1
  obtain ⟨L, hL⟩ := ov_list sc_one l
  have hlen : L.length = l.length * 2 := by
    have := congrArg List.length hL
    rwa [List.length_map, flat_len sc_len] at this
  have own : ∀ {b code n base lo : Nat} {t : TypeId} {w' : World}, RowOk lo b code n base (L.map (·.1) ++ ([] : List Value)) 2 t w' → Lst w' (ownV b code n base) l := fun hm => by
    have := own_sl hm
    rw [List.append_nil, hL] at this
    exact this
  refine vc_ullagelaw01_SpanLists p0 p1 (l.length : Int) x1 (m.length : Int) y1 b0 b1 w _ ?_
  refine ⟨by omega, nb, ?_⟩
  refine iteI (fun h1 => ?_) (fun h1 => ?_)
  · rfl
  · refine ⟨by omega, nb', ?_⟩
    refine iteI (fun h2 => ?_) (fun h2 => ?_)
    · rfl
    · refine ⟨L, by rw [hL]; exact h0, ?_⟩
      rintro _ rfl
      refine ⟨by omega, ?_⟩
      refine ⟨_, _, _, fun _ _ _ hm => pSum (own hm.1) hl, ?_⟩
      (repeat apply Exists.intro); refine And.intro (fun _ _ => rSum (sl_below (by assumption) h0) hl) ?_
      refine ⟨_, _, _, fun _ _ hbw hm => pDot (own hm.1) (sl_below hbw h0') hl hlm, ?_⟩
      (repeat apply Exists.intro); refine And.intro (fun _ _ => rDot (sl_below (by assumption) h0) (sl_below (by assumption) h0') hl hlm) ?_
      refine ⟨_, _, _, fun _ _ _ hm => pNorm (own hm.1) hl, ?_⟩
      (repeat apply Exists.intro); refine And.intro (fun _ _ => rNorm (sl_below (by assumption) h0) hl) ?_
      refine ⟨by omega, nb, ?_⟩
      refine ⟨fun y => ∃ (c : Bool) (i : Nat), i ≤ l.length ∧ y = [.b c, .i (i : Int)], upTo2 (l.length : Int), ⟨false, 0, by omega, rfl⟩, ?_⟩
      rintro b2 x23 ⟨c, i, hi, hy⟩
      simp only [List.cons.injEq, Vc.Vl.i.injEq, Vc.Vl.b.injEq, and_true] at hy
      obtain ⟨rfl, rfl⟩ := hy
      refine iteI (fun h3 => ?_) (fun h3 => ?_)
      · have hlt : i < l.length := by omega
        have nb0 : ¬ (b0 = true) := fun hb0 => by have := hb hb0; omega
        have hp := List.getElem?_eq_getElem hlt
        generalize l[i] = p at hp
        obtain ⟨c0, c1⟩ := hc i p hp
        have cell : ∀ (o : Nat) (u : Value), o < 2 → (sc p)[o]? = some u → (L.map (·.1) ++ ([] : List Value))[i * 2 + o]? = some u := fun o u ho hu => by
          rw [List.append_nil, hL, flat_at sc_len hp ho]; exact hu
        rintro _ rfl
        refine ⟨by omega, by omega, _, cell 0 _ (by decide) rfl, _, cell 1 _ (by decide) rfl, nb0, by omega, by omega, _, c0, _, c1, ?_⟩
        refine iteI (fun h4 => ?_) (fun h4 => absurd ⟨rfl, rfl⟩ h4)
        rintro _ rfl
        rw [wrap_up i (by omega)]
        exact ⟨⟨_, i + 1, by omega, rfl⟩, by simp only [upTo2]; omega⟩
      · (repeat apply Exists.intro); refine And.intro (fun _ _ => same_eq _ _ _ _) ?_
        refine iteI (fun h4 => ?_) (fun h4 => absurd (by simp) h4)
        (repeat apply Exists.intro); refine And.intro (fun _ _ => same_eq _ _ _ _) ?_
        refine iteI (fun h5 => ?_) (fun h5 => absurd (by simp) h5)
        (repeat apply Exists.intro); refine And.intro (fun _ _ => same_eq _ _ _ _) ?_
        simp
section
open Go.ChangeShapes Go.WideShapes Go.ChangeAt Go.Joins
variable {H : Type} {enc : TypeId × Value → H} {base : Nat} {sp : Nat → Bool} {held : Bool}
theorem spans_u : Try.prog.underlying 68 = some (.slice 24) := by kernel_rfl
theorem open_spans {w : World} {P : Program} (hP : P = Try.prog) {r : Reach} {b0 : Nat} {v : Value} {d : DataW H} {ps : List MemPlace} (hval : Value.okWide P w r b0 68 v) (hd : DataW.Trod enc P w base sp held 68 v d ps) :
    ∃ l : List Sp, Lst w v l ∧ ∀ p ∈ l, I64 p.1 ∧ I64 p.2 := by
  have hu : P.underlying 68 = some (.slice 24) := by rw [hP]; exact spans_u
  have hc : P.cellsOf 24 = 2 := by rw [hP]; kernel_rfl
  have hE : ∀ fuel cs x, DataW.trod enc P w base sp held fuel 24 cs = some x → ∃ a, cs = sc a ∧ (fun p : Sp => I64 p.1 ∧ I64 p.2) a := fun fuel cs x h => by rw [hP] at h; exact span_cells h
  clear hP
  exact open_sl hu hc (by omega) sc_len hE hval hd
end
end Go.Proofs.Ytdhiapllbjamfaa
