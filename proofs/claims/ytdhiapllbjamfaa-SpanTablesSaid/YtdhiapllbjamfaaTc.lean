/- Contracts: the reference's line; what a table has at a span, both. -/
import Derived.Test.YtdhiapllbjamfaaTb
set_option linter.unusedVariables false
set_option linter.unusedSimpArgs false
namespace Go.Proofs.Ytdhiapllbjamfaa
open Go Go.RowKit Ul Vc
attribute [local irreducible] Go.Calls

theorem rline {w : World} {v : Value} {l : List Pt} (h : Tab w v l) (hk : chkT l = 0) (up : Bool) (x : Int) (hx : I64 x) :
    Calls Try.prog 107 #[v, .bool up, .int .i64 x] w (Vc.Ret (.tuple #[VW (lineV l up x).1, VW (lineV l up x).2]) w) := by
  obtain ⟨k0, k1, kg⟩ := chkT_ok hk
  obtain ⟨b0, p0, x1, rfl, hb, hc⟩ := tab_form h
  clear h
  have nb0 : ¬ (b0 = true) := fun hb0 => by have := hb hb0; omega
  have nb : (¬ (b0 = true)) ∨ ((l.length : Int) = 0) := .inl nb0
  refine vc_ullageref01_line p0 (l.length : Int) x1 x b0 up w _ ?_
  have hp0 := List.getElem?_eq_getElem k0
  generalize l[0] = z at hp0
  obtain ⟨z0, z1, z2⟩ := hc 0 z hp0
  have gz := good_small (kg 0 k0) hp0
  have sz := bdP_small (up := up) gz.2.1 gz.2.2.1
  refine ⟨nb0, by omega, _, z0, ?_⟩
  refine iteI (fun h1 => ?_) (fun h1 => ?_)
  · refine ⟨nb0, by omega, _, z0, _, z1, _, z2, ?_⟩
    (repeat apply Exists.intro); refine And.intro (fun _ _ => bound_any z up _) ?_
    (repeat apply Exists.intro); refine And.intro (fun _ _ => wide_W (bdP up z) _ (by omega) (by omega)) ?_
    have hah : ahead l x = 0 := ahead_eq (by omega) (fun j p hj => by omega) (fun p hp => by rw [hp0] at hp; cases hp; omega)
    unfold lineV
    rw [if_pos hah, bdAt_some hp0]
  · refine ⟨fun y => ∃ (i : Nat) (a b c d : Int), 1 ≤ i ∧ i ≤ l.length ∧ (∀ j p, j < i → l[j]? = some p → p.1 < x) ∧ y = [.i (i : Int), .i a, .i b, .i c, .i d], upTo (l.length : Int), ⟨1, 0, 0, 0, 0, by omega, by omega, fun j p hj hp => ?_, rfl⟩, ?_⟩
    · obtain rfl : j = 0 := by omega
      rw [hp0] at hp; cases hp; omega
    rintro x4 x5 x6 x7 x8 ⟨i, a, b, c, d, hi1, hi, hg, hy⟩
    simp only [List.cons.injEq, Vc.Vl.i.injEq, and_true] at hy
    obtain ⟨rfl, rfl, rfl, rfl, rfl⟩ := hy
    refine ⟨by omega, nb, ?_⟩
    refine iteI (fun h2 => ?_) (fun h2 => ?_)
    · have hlt : i < l.length := by omega
      have hp := List.getElem?_eq_getElem hlt
      generalize l[i] = p at hp
      obtain ⟨c0, c1, c2⟩ := hc i p hp
      refine ⟨nb0, by omega, by omega, _, c0, ?_⟩
      refine iteI (fun h3 => ?_) (fun h3 => ?_)
      · rintro _ rfl
        rw [wrap_up i (by omega)]
        refine ⟨⟨i + 1, _, _, _, _, by omega, by omega, fun j q hj hq => ?_, rfl⟩, by simp only [upTo]; omega⟩
        by_cases hji : j = i
        · subst hji; rw [hp] at hq; cases hq; exact h3
        · exact hg j q (by omega) hq
      · have hah : ahead l x = i := ahead_eq hi hg (fun q hq => by rw [hp] at hq; cases hq; exact h3)
        obtain ⟨j, rfl⟩ : ∃ j, i = j + 1 := ⟨i - 1, by omega⟩
        have hq := List.getElem?_eq_getElem (show j < l.length by omega)
        generalize l[j] = q at hq
        obtain ⟨e0, e1, e2⟩ := hc j q hq
        have hinc := good_incr (kg (j + 1) (by omega)) hp hq
        have gp := good_small (kg (j + 1) (by omega)) hp
        have gq := good_small (kg j (by omega)) hq
        have sp := bdP_small (up := up) gp.2.1 gp.2.2.1
        have sq := bdP_small (up := up) gq.2.1 gq.2.2.1
        have y1 := hg j q (by omega) hq
        have pr := prod_le (bdP up p - bdP up q) (x - q.1) (by omega) (by omega)
        have d1 := ediv_bd _ (p.1 - q.1) 21267647932558653966460912964485513216 (by omega) pr.1 pr.2
        have d2 := ediv_bd (-((bdP up p - bdP up q) * (x - q.1))) (p.1 - q.1) 21267647932558653966460912964485513216 (by omega) (by omega) (by omega)
        have f1 : fl ((bdP up p - bdP up q) * (x - q.1)) (p.1 - q.1) = (bdP up p - bdP up q) * (x - q.1) / (p.1 - q.1) := rfl
        have f2 : ce ((bdP up p - bdP up q) * (x - q.1)) (p.1 - q.1) = -(-((bdP up p - bdP up q) * (x - q.1)) / (p.1 - q.1)) := rfl
        have w1 : IntKind.i64.wrap (bdP up p - bdP up q) = bdP up p - bdP up q := Vc.i64_id (by omega)
        have w2 : IntKind.i64.wrap (x - q.1) = x - q.1 := Vc.i64_id (by omega)
        have w3 : IntKind.i64.wrap (p.1 - q.1) = p.1 - q.1 := Vc.i64_id (by omega)
        have wd := wrap_down j (by omega)
        rw [wd]
        rintro _ rfl
        refine ⟨nb0, by omega, by omega, _, e0, _, e1, _, e2, ?_⟩
        (repeat apply Exists.intro); refine And.intro (fun _ _ => bound_any q up _) ?_
        refine ⟨nb0, by omega, by omega, _, c0, _, c1, _, c2, ?_⟩
        (repeat apply Exists.intro); refine And.intro (fun _ _ => bound_any p up _) ?_
        rintro _ rfl
        rintro _ rfl
        refine ⟨nb0, by omega, by omega, _, e0, ?_⟩
        rintro _ rfl
        rw [w1, w2]
        (repeat apply Exists.intro); refine And.intro (fun _ _ => times_raw _ _ _ (by omega) (by omega) (by omega) (by omega)) ?_
        refine ⟨nb0, by omega, by omega, _, c0, ?_⟩
        rintro _ rfl
        refine ⟨nb0, by omega, by omega, _, e0, ?_⟩
        rintro _ rfl
        rw [w3]
        (repeat apply Exists.intro); refine And.intro (fun _ _ => wide_W _ _ (by omega) (by omega)) ?_
        (repeat apply Exists.intro); refine And.intro (fun _ _ => wide_W _ _ (by omega) (by omega)) ?_
        (repeat apply Exists.intro); refine And.intro (fun _ _ => rfloor_W _ _ _ (by omega) (by omega) (by omega) (by omega)) ?_
        (repeat apply Exists.intro); refine And.intro (fun _ _ => plus_W _ _ _ (by constructor <;> omega)) ?_
        (repeat apply Exists.intro); refine And.intro (fun _ _ => wide_W _ _ (by omega) (by omega)) ?_
        (repeat apply Exists.intro); refine And.intro (fun _ _ => rceil_W _ _ _ (by omega) (by omega) (by omega) (by omega)) ?_
        (repeat apply Exists.intro); refine And.intro (fun _ _ => plus_W _ _ _ (by constructor <;> omega)) ?_
        unfold lineV
        rw [hah, if_neg (by omega), if_neg (by omega)]
        simp only [Nat.add_sub_cancel, bdAt_some hp, bdAt_some hq, atX_some hp, atX_some hq]
    · have hah : ahead l x = i := ahead_eq hi hg (fun q hq => by have := (List.getElem?_eq_some_iff.1 hq).1; omega)
      have hp := List.getElem?_eq_getElem (show l.length - 1 < l.length by omega)
      generalize l[l.length - 1] = p at hp
      obtain ⟨c0, c1, c2⟩ := hc _ p hp
      have gp := good_small (kg _ (by omega)) hp
      have sp := bdP_small (up := up) gp.2.1 gp.2.2.1
      have wl : IntKind.i64.wrap ((l.length : Int) - 1) = ((l.length - 1 : Nat) : Int) := by rw [Vc.i64_id (by omega)]; omega
      refine ⟨by omega, nb, ?_⟩
      rw [wl]
      rintro _ rfl
      refine ⟨nb0, by omega, by omega, _, c0, _, c1, _, c2, ?_⟩
      (repeat apply Exists.intro); refine And.intro (fun _ _ => bound_any p up _) ?_
      (repeat apply Exists.intro); refine And.intro (fun _ _ => wide_W (bdP up p) _ (by omega) (by omega)) ?_
      unfold lineV
      rw [if_neg (by omega), if_pos (by omega), bdAt_some hp]

/-- The places at which a table is looked at. -/
def plc (l : List Pt) (a b : Int) (i : Nat) : List Int := a :: b :: ((l.take i).filter fun p => decide (a ≤ p.1) && decide (p.1 ≤ b)).map (·.1)
theorem plc_in {l : List Pt} {a b : Int} {i : Nat} {p : Pt} (h : l[i]? = some p) (h1 : a ≤ p.1) (h2 : p.1 ≤ b) : plc l a b (i + 1) = plc l a b i ++ [p.1] := by
  unfold plc
  rw [List.take_add_one, h]
  simp [h1, h2]
theorem plc_out {l : List Pt} {a b : Int} {i : Nat} {p : Pt} (h : l[i]? = some p) (h1 : ¬ (a ≤ p.1 ∧ p.1 ≤ b)) : plc l a b (i + 1) = plc l a b i := by
  unfold plc
  rw [List.take_add_one, h]
  simp
  omega
theorem plc_len (l : List Pt) (a b : Int) (i : Nat) : (plc l a b i).length ≤ l.length + 2 := by
  unfold plc
  have h1 := List.length_filter_le (fun p : Pt => decide (a ≤ p.1) && decide (p.1 ≤ b)) (l.take i)
  have h2 : (l.take i).length ≤ l.length := by simp; omega
  simp only [List.length_cons, List.length_map]
  omega
theorem plc_i64 {l : List Pt} {a b : Int} {i : Nat} (hl : ∀ p ∈ l, I64 p.1) (ha : I64 a) (hb : I64 b) : ∀ x ∈ plc l a b i, I64 x := by
  intro x hx
  unfold plc at hx
  rcases List.mem_cons.1 hx with rfl | hx
  · exact ha
  · rcases List.mem_cons.1 hx with rfl | hx
    · exact hb
    · obtain ⟨p, hp, rfl⟩ := List.mem_map.1 hx
      exact hl p (List.mem_of_mem_take (List.mem_filter.1 hp).1)
def minL : List Int → Int
  | [] => 0
  | x :: r => r.foldl min x
def maxL : List Int → Int
  | [] => 0
  | x :: r => r.foldl max x
theorem minL_snoc {L : List Int} (h : L ≠ []) (x : Int) : minL (L ++ [x]) = min (minL L) x := by
  cases L with
  | nil => exact (h rfl).elim
  | cons a L => simp [minL, List.foldl_append]
theorem maxL_snoc {L : List Int} (h : L ≠ []) (x : Int) : maxL (L ++ [x]) = max (maxL L) x := by
  cases L with
  | nil => exact (h rfl).elim
  | cons a L => simp [maxL, List.foldl_append]
theorem fold_bd {f : Int → Int → Int} (hf : ∀ x y, f x y = x ∨ f x y = y) {B : Int} : ∀ (L : List Int) (x : Int), (∀ y ∈ x :: L, -B ≤ y ∧ y ≤ B) → -B ≤ L.foldl f x ∧ L.foldl f x ≤ B
  | [], x, h => h x (by simp)
  | y :: L, x, h => by
    rw [List.foldl_cons]
    refine fold_bd hf L (f x y) fun z hz => ?_
    rcases List.mem_cons.1 hz with rfl | hz
    · rcases hf x y with e | e <;> rw [e] <;> exact h _ (by simp)
    · exact h z (by simp [hz])
theorem minL_bd {L : List Int} {B : Int} (hB : 0 ≤ B) (h : ∀ y ∈ L, -B ≤ y ∧ y ≤ B) : -B ≤ minL L ∧ minL L ≤ B := by
  cases L with
  | nil => simp only [minL]; omega
  | cons x L => exact fold_bd (fun x y => by omega) L x h
theorem maxL_bd {L : List Int} {B : Int} (hB : 0 ≤ B) (h : ∀ y ∈ L, -B ≤ y ∧ y ≤ B) : -B ≤ maxL L ∧ maxL L ≤ B := by
  cases L with
  | nil => simp only [maxL]; omega
  | cons x L => exact fold_bd (fun x y => by omega) L x h
theorem bmin_fold : ∀ (ps : List (Bool × Int)) (p : Bool × Int), svp (ps.foldl bmin p) = (ps.map svp).foldl min (svp p)
  | [], p => rfl
  | q :: ps, p => by rw [List.foldl_cons, bmin_fold ps, svp_bmin]; rfl
theorem bmax_fold : ∀ (ps : List (Bool × Int)) (p : Bool × Int), svp (ps.foldl bmax p) = (ps.map svp).foldl max (svp p)
  | [], p => rfl
  | q :: ps, p => by rw [List.foldl_cons, bmax_fold ps, svp_bmax]; rfl
/-- Look. -/
def look (l : List Pt) (a b : Int) : R :=
  if chkT l = 0 ∧ chk a b = 0 then fit (minL ((plc l a b l.length).map fun x => (lineV l false x).1)) (maxL ((plc l a b l.length).map fun x => (lineV l true x).2)) else (0, 0, 2)
theorem c3_len (p : Bool × Int) : (c3 p).length = 3 := rfl
theorem chkT_no {l : List Pt} (h : ¬ chkT l = 0) : chkT l = 2 := by
  unfold chkT at h ⊢
  split
  · rfl
  · rename_i h1
    rw [if_neg h1] at h
    split
    · rename_i h2; rw [if_pos h2] at h; exact (h rfl).elim
    · rfl
theorem pLook {w : World} {v : Value} {l : List Pt} (h : Tab w v l) (hl : ∀ p ∈ l, I64 p.1) (a b : Int) (ha : I64 a) (hbb : I64 b) : Calls Try.prog 55 #[v, Vc.S a b] w (Vc.Ret (Vc.RV (look l a b)) w) := by
  have h0 := h
  obtain ⟨b0, p0, x1, rfl, hb, hc⟩ := tab_form h
  clear h
  refine vc_span_Look p0 (l.length : Int) x1 a b b0 w _ ?_
  (repeat apply Exists.intro); refine And.intro (fun _ _ => pchkT (sl_below (by assumption) h0)) ?_
  refine iteI (fun h1 => ?_) (fun h1 => ?_)
  · obtain ⟨k0, k1, kg⟩ := chkT_ok h1
    have nb0 : ¬ (b0 = true) := fun hb0 => by have := hb hb0; omega
    have nb : (¬ (b0 = true)) ∨ ((l.length : Int) = 0) := .inl nb0
    (repeat apply Exists.intro); refine And.intro (fun _ _ => check_any _ _ _) ?_
    refine iteI (fun h2 => ?_) (fun h2 => ?_)
    · have hab := chk_ok h2
      (repeat apply Exists.intro); refine And.intro (fun _ _ => pval_lo (sl_below (by assumption) h0) h1 a ha) ?_
      (repeat apply Exists.intro); refine And.intro (fun _ _ => pval_hi (sl_below (by assumption) h0) h1 a ha) ?_
      (repeat apply Exists.intro); refine And.intro (fun _ _ => pval_lo (sl_below (by assumption) h0) h1 b hbb) ?_
      (repeat apply Exists.intro); refine And.intro (fun _ _ => pval_hi (sl_below (by assumption) h0) h1 b hbb) ?_
      refine ⟨by omega, nb, ?_⟩
      refine ⟨fun y => ∃ i : Nat, i ≤ l.length ∧ y = [.i (i : Int), .l (((plc l a b i).map (valD l false)).flatMap c3), .l (((plc l a b i).map (valU l true)).flatMap c3)], upTo (l.length : Int), ⟨0, by omega, rfl⟩, ?_⟩
      rintro x22 l0 l1 ⟨i, hi, hy⟩
      simp only [List.cons.injEq, Vc.Vl.i.injEq, Vc.Vl.l.injEq, and_true] at hy
      obtain ⟨rfl, e0, e1⟩ := hy
      have len0 : l0.length ≤ 3 * (l.length + 2) := by
        have := congrArg List.length e0
        rw [List.length_append, List.length_map, flat_len c3_len, List.length_map] at this
        have := plc_len l a b i
        simp at *
        omega
      have len1 : l1.length ≤ 3 * (l.length + 2) := by
        have := congrArg List.length e1
        rw [List.length_append, List.length_map, flat_len c3_len, List.length_map] at this
        have := plc_len l a b i
        simp at *
        omega
      refine iteI (fun h3 => ?_) (fun h3 => ?_)
      · have hlt : i < l.length := by omega
        have hp := List.getElem?_eq_getElem hlt
        generalize l[i] = p at hp
        obtain ⟨c0, c1, c2⟩ := hc i p hp
        have hpI : I64 p.1 := hl p (List.mem_of_getElem? hp)
        refine ⟨nb0, by omega, by omega, _, c0, _, c1, _, c2, ?_⟩
        (repeat apply Exists.intro); refine And.intro (fun _ _ => in_any _ _ _ _) ?_
        have hin : inS a b p.1 = true ↔ a ≤ p.1 ∧ p.1 ≤ b := by unfold inS; rw [hab]; simp
        refine iteI (fun h4 => ?_) (fun h4 => ?_)
        · have h4' := hin.1 h4
          (repeat apply Exists.intro); refine And.intro (fun _ _ => pval_lo (sl_below (by assumption) h0) h1 p.1 hpI) ?_
          (repeat apply Exists.intro); refine And.intro (fun _ _ => pval_hi (sl_below (by assumption) h0) h1 p.1 hpI) ?_
          rintro _ rfl
          refine ⟨by omega, ?_⟩
          rintro _ rfl
          refine ⟨by omega, ?_⟩
          rintro _ rfl
          rw [wrap_up i (by omega)]
          refine ⟨⟨i + 1, by omega, ?_⟩, by simp only [upTo]; omega⟩
          rw [plc_in hp h4'.1 h4'.2]
          simp only [List.append_nil] at e0 e1
          rw [e0, e1, List.map_append, List.map_append, List.flatMap_append, List.flatMap_append]
          rfl
        · have h4' : ¬ (a ≤ p.1 ∧ p.1 ≤ b) := fun hx => h4 (hin.2 hx)
          rintro _ rfl
          rw [wrap_up i (by omega)]
          refine ⟨⟨i + 1, by omega, ?_⟩, by simp only [upTo]; omega⟩
          rw [plc_out hp h4', e0, e1]
      · obtain rfl : i = l.length := by omega
        have hI := plc_i64 (i := l.length) hl ha hbb
        have nD : ∀ q ∈ (plc l a b l.length).map (valD l false), 0 ≤ q.2 := fun q hq => by
          obtain ⟨x, hx, rfl⟩ := List.mem_map.1 hq
          exact (val_bd h1 false x (hI x hx)).1.1
        have nU : ∀ q ∈ (plc l a b l.length).map (valU l true), 0 ≤ q.2 := fun q hq => by
          obtain ⟨x, hx, rfl⟩ := List.mem_map.1 hq
          exact (val_bd h1 true x (hI x hx)).1.2
        have lD : (plc l a b l.length).length ≤ 66 := by have := plc_len l a b l.length; omega
        obtain ⟨r, hr⟩ : ∃ r, plc l a b l.length = a :: r := ⟨_, rfl⟩
        have hlook : look l a b = fit (minL ((plc l a b l.length).map fun x => (lineV l false x).1)) (maxL ((plc l a b l.length).map fun x => (lineV l true x).2)) := if_pos ⟨h1, h2⟩
        rw [hr] at e0 e1 nD nU lD hlook
        have mD := nn_fold bmin_or (r.map (valD l false)) (valD l false a) nD
        have mU := nn_fold bmax_or (r.map (valU l true)) (valU l true a) nU
        refine ⟨_, _, _, _, _, _, fun _ _ _ hm => rowhull (valD l false a) (r.map (valD l false)) nD (by simp at lD ⊢; omega) (by have := hm.1; rw [e0] at this; exact this), ?_⟩
        refine ⟨_, _, _, _, _, _, fun _ _ _ hm => rowhull (valU l true a) (r.map (valU l true)) nU (by simp at lD ⊢; omega) (by have := hm.1; rw [e1] at this; exact this), ?_⟩
        (repeat apply Exists.intro); refine And.intro (fun _ _ => fit_any _ _ _ _ _ mD mU) ?_
        rw [hlook]
        have q1 := bmin_fold (r.map (valD l false)) (valD l false a)
        have q2 := bmax_fold (r.map (valU l true)) (valU l true a)
        unfold svp at q1 q2
        refine fit_eq ?_ ?_
        · rw [q1]
          simp only [List.map_cons, minL, List.map_map]
          have : (valD l false a).1 = (valD l false a).1 := rfl
          congr 1
          · exact (val_sv h1 false a).1
          · exact List.map_congr_left fun x _ => (val_sv h1 false x).1
        · rw [q2]
          simp only [List.map_cons, maxL, List.map_map]
          congr 1
          · exact (val_sv h1 true a).2
          · exact List.map_congr_left fun x _ => (val_sv h1 true x).2
    · unfold look; rw [if_neg (fun hx => h2 hx.2)]
  · unfold look; rw [if_neg (fun hx => h1 hx.1)]
end Go.Proofs.Ytdhiapllbjamfaa
