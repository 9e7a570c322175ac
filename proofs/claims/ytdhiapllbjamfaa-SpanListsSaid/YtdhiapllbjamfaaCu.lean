/- Contracts: products of spans, both. -/
import Derived.Test.YtdhiapllbjamfaaCt
set_option linter.unusedVariables false
set_option linter.unusedSimpArgs false
namespace Go.Proofs.Ytdhiapllbjamfaa
open Go Go.RowKit Ul Vc
attribute [local irreducible] Go.Calls

theorem hull4 {b : Nat} {p q r s : Bool × Int} {t : TypeId} {w : World} (hp : 0 ≤ p.2) (hq : 0 ≤ q.2) (hr : 0 ≤ r.2) (hs : 0 ≤ s.2)
    (h : w.heap[b]? = some (.cells #[.bool p.1, .int .u64 (hiW p.2), .int .u64 (loW p.2), .bool q.1, .int .u64 (hiW q.2), .int .u64 (loW q.2), .bool r.1, .int .u64 (hiW r.2), .int .u64 (loW r.2), .bool s.1, .int .u64 (hiW s.2), .int .u64 (loW s.2)] t)) :
    Calls Try.prog 88 #[.slice (some ⟨b, 0, none⟩) 4 4] w (Vc.Ret (.tuple #[VP (bmin (bmin (bmin p q) r) s), VP (bmax (bmax (bmax p q) r) s)]) w) := by
  refine vc_span_hull_4 (b, 0) w _ ?_
  refine ⟨p.1, by simp [World.cell?, h], hiW p.2, by simp [World.cell?, h], loW p.2, by simp [World.cell?, h], p.1, by simp [World.cell?, h], hiW p.2, by simp [World.cell?, h], loW p.2, by simp [World.cell?, h],
    q.1, by simp [World.cell?, h], hiW q.2, by simp [World.cell?, h], loW q.2, by simp [World.cell?, h], ?_⟩
  have r1 : w.cell? ⟨b, 0 + (Int.toNat 2) * 3 + 0, none⟩ = some (.bool r.1) := by simp [World.cell?, h]
  have r2 : w.cell? ⟨b, 0 + (Int.toNat 2) * 3 + 1, none⟩ = some (.int .u64 (hiW r.2)) := by simp [World.cell?, h]
  have r3 : w.cell? ⟨b, 0 + (Int.toNat 2) * 3 + 2, none⟩ = some (.int .u64 (loW r.2)) := by simp [World.cell?, h]
  have s1 : w.cell? ⟨b, 0 + (Int.toNat 3) * 3 + 0, none⟩ = some (.bool s.1) := by simp [World.cell?, h]
  have s2 : w.cell? ⟨b, 0 + (Int.toNat 3) * 3 + 1, none⟩ = some (.int .u64 (hiW s.2)) := by simp [World.cell?, h]
  have s3 : w.cell? ⟨b, 0 + (Int.toNat 3) * 3 + 2, none⟩ = some (.int .u64 (loW s.2)) := by simp [World.cell?, h]
  clear h
  (repeat apply Exists.intro); refine And.intro (fun _ _ => less_any q p _ hq hp) ?_
  refine iteI (fun c1 => ?_) (fun c1 => ?_)
  all_goals
    (repeat apply Exists.intro); refine And.intro (fun _ _ => less_any p q _ hp hq) ?_
    refine iteI (fun c2 => ?_) (fun c2 => ?_)
    all_goals
      refine ⟨_, r1, _, r2, _, r3, ?_⟩
      (repeat apply Exists.intro); refine And.intro (fun _ _ => less_any r _ _ hr (by assumption)) ?_
      refine iteI (fun c3 => ?_) (fun c3 => ?_)
      all_goals
        (repeat apply Exists.intro); refine And.intro (fun _ _ => less_any _ r _ (by assumption) hr) ?_
        refine iteI (fun c4 => ?_) (fun c4 => ?_)
        all_goals
          refine ⟨_, s1, _, s2, _, s3, ?_⟩
          (repeat apply Exists.intro); refine And.intro (fun _ _ => less_any s _ _ hs (by assumption)) ?_
          refine iteI (fun c5 => ?_) (fun c5 => ?_)
          all_goals
            (repeat apply Exists.intro); refine And.intro (fun _ _ => less_any _ s _ (by assumption) hs) ?_
            refine iteI (fun c6 => ?_) (fun c6 => ?_)
            all_goals
              simp only [decide_eq_true_eq] at c1 c2 c3 c4 c5 c6
              simp only [bmin, bmax, c1, c2, c3, c4, c5, c6, if_true, if_false]
theorem mulc_any (a b : Int) (w : World) (ha : I64 a) (hb : I64 b) :
    Calls Try.prog 99 #[.int .i64 a, .int .i64 b] w (Vc.Ret (VB (decide (a < 0) != decide (b < 0)) (absI a * absI b)) w) := by
  refine vc_span_Mul_1 _ _ w _ ?_
  (repeat apply Exists.intro); refine And.intro (fun _ _ => ptimes_any _ _ _ ha hb) ?_
  rfl
theorem divide_one (n : Bool) (m : Int) (w : World) (h0 : 0 ≤ m) (h1 : m < 340282366920938463463374607431768211456) :
    Calls Try.prog 100 #[VB n m, VB (decide ((4294967296 : Int) < 0)) (absI 4294967296)] w (Vc.Ret (.tuple #[VB n (qdn n m 4294967296), VB n (qup n m 4294967296)]) w) :=
  divide_1 n _ m 4294967296 w h0 h1 (by decide) (by decide)
theorem pmul_any (a b c d : Int) (w : World) (ha : I64 a) (hb : I64 b) (hc : I64 c) (hd : I64 d) : Calls Try.prog 51 #[Vc.S a b, Vc.S c d] w (Vc.Ret (Vc.RV (mul a b c d)) w) := by
  refine vc_span_Mul _ _ _ _ w _ ?_
  refine ⟨_, fun _ _ _ hm => checked2 hm.1.2, ?_⟩
  refine iteI (fun h => ?_) (fun h => ?_)
  · have d1 := absI_mul_bd ha hc
    have d2 := absI_mul_bd ha hd
    have d3 := absI_mul_bd hb hc
    have d4 := absI_mul_bd hb hd
    (repeat apply Exists.intro); refine And.intro (fun _ _ => mulc_any _ _ _ ha hc) ?_
    (repeat apply Exists.intro); refine And.intro (fun _ _ => mulc_any _ _ _ ha hd) ?_
    (repeat apply Exists.intro); refine And.intro (fun _ _ => mulc_any _ _ _ hb hc) ?_
    (repeat apply Exists.intro); refine And.intro (fun _ _ => mulc_any _ _ _ hb hd) ?_
    obtain ⟨p, hp⟩ : ∃ p : Bool × Int, p = (decide (a < 0) != decide (c < 0), absI a * absI c) := ⟨_, rfl⟩
    obtain ⟨q, hq⟩ : ∃ p : Bool × Int, p = (decide (a < 0) != decide (d < 0), absI a * absI d) := ⟨_, rfl⟩
    obtain ⟨r, hr⟩ : ∃ p : Bool × Int, p = (decide (b < 0) != decide (c < 0), absI b * absI c) := ⟨_, rfl⟩
    obtain ⟨s, hs⟩ : ∃ p : Bool × Int, p = (decide (b < 0) != decide (d < 0), absI b * absI d) := ⟨_, rfl⟩
    have vp : svp p = a * c := by rw [hp]; exact sv_mul a c
    have vq : svp q = a * d := by rw [hq]; exact sv_mul a d
    have vr : svp r = b * c := by rw [hr]; exact sv_mul b c
    have vs : svp s = b * d := by rw [hs]; exact sv_mul b d
    have bp : 0 ≤ p.2 ∧ p.2 ≤ 85070591730234615865843651857942052864 := by rw [hp]; exact d1
    have bq : 0 ≤ q.2 ∧ q.2 ≤ 85070591730234615865843651857942052864 := by rw [hq]; exact d2
    have br : 0 ≤ r.2 ∧ r.2 ≤ 85070591730234615865843651857942052864 := by rw [hr]; exact d3
    have bs : 0 ≤ s.2 ∧ s.2 ≤ 85070591730234615865843651857942052864 := by rw [hs]; exact d4
    have bmn := bmin_bd (bmin_bd (bmin_bd bp bq) br) bs
    have bmx := bmax_bd (bmax_bd (bmax_bd bp bq) br) bs
    refine ⟨_, _, _, _, _, _, fun _ _ _ hm => hull4 (p := p) (q := q) (r := r) (s := s) bp.1 bq.1 br.1 bs.1 (by subst hp hq hr hs; exact hm.1.2), ?_⟩
    have e1 : svp (bmin (bmin (bmin p q) r) s) = min4 (a * c) (a * d) (b * c) (b * d) := by rw [svp_bmin, svp_bmin, svp_bmin, vp, vq, vr, vs]; rfl
    have e2 : svp (bmax (bmax (bmax p q) r) s) = max4 (a * c) (a * d) (b * c) (b * d) := by rw [svp_bmax, svp_bmax, svp_bmax, vp, vq, vr, vs]; rfl
    generalize bmin (bmin (bmin p q) r) s = mn at *
    generalize bmax (bmax (bmax p q) r) s = mx at *
    (repeat apply Exists.intro); refine And.intro (fun _ _ => pof_any 4294967296 _ (by constructor <;> decide)) ?_
    (repeat apply Exists.intro); refine And.intro (fun _ _ => divide_one _ _ _ bmn.1 (by omega)) ?_
    (repeat apply Exists.intro); refine And.intro (fun _ _ => divide_one _ _ _ bmx.1 (by omega)) ?_
    (repeat apply Exists.intro); refine And.intro (fun _ _ => fit_any _ _ _ _ _ (qdn_0 _ _ _ bmn.1 (by decide)).1 (qdn_0 _ _ _ bmx.1 (by decide)).2.1) ?_
    rw [(q_sv _ _ _).1, (q_sv _ _ _).2]
    unfold svp at e1 e2
    rw [e1, e2]
    unfold mul
    rw [if_pos (chk2_ok h)]
  · unfold mul; rw [if_neg (chk2_no h).1, (chk2_no h).2]
theorem fit_eq {x y x' y' : Int} (h : x = x') (h' : y = y') : Vc.RV (fit x y) = Vc.RV (fit x' y') := by rw [h, h']
theorem rmul_any (a b c d : Int) (w : World) (ha : I64 a) (hb : I64 b) (hc : I64 c) (hd : I64 d) : Calls Try.prog 52 #[Vc.S a b, Vc.S c d] w (Vc.Ret (Vc.RV (mul a b c d)) w) := by
  refine vc_ullageref01_Mul _ _ _ _ w _ ?_
  (repeat apply Exists.intro); refine And.intro (fun _ _ => both_any _ _ _ _ _) ?_
  refine iteI (fun h => ?_) (fun h => ?_)
  · have m1 := mul_P ha hc
    have m2 := mul_P ha hd
    have m3 := mul_P hb hc
    have m4 := mul_P hb hd
    have t1 := fun w => times_raw a c w ha.1 ha.2 hc.1 hc.2
    have t2 := fun w => times_raw a d w ha.1 ha.2 hd.1 hd.2
    have t3 := fun w => times_raw b c w hb.1 hb.2 hc.1 hc.2
    have t4 := fun w => times_raw b d w hb.1 hb.2 hd.1 hd.2
    have e : mul a b c d = fit (fl (min4 (a * c) (a * d) (b * c) (b * d)) 4294967296) (ce (max4 (a * c) (a * d) (b * c) (b * d)) 4294967296) := by
      unfold mul; rw [if_pos (chk2_ok h)]
    rw [e]
    clear e h
    have fin : ∀ x y : Int, -85070591730234615865843651857942052864 ≤ x → x ≤ 85070591730234615865843651857942052864 → P127 x ∧ P127 (-x) ∧ P127 (x / 4294967296) ∧ P127 (-(x / 4294967296)) := by
      intro x y h1 h2; refine ⟨⟨?_, ?_⟩, ⟨?_, ?_⟩, ⟨?_, ?_⟩, ⟨?_, ?_⟩⟩ <;> omega
    generalize a * c = P at *
    generalize a * d = Q at *
    generalize b * c = R at *
    generalize b * d = T at *
    unfold fl ce min4 max4
    (repeat apply Exists.intro); refine And.intro (fun _ _ => t1 _) ?_
    (repeat apply Exists.intro); refine And.intro (fun _ _ => t2 _) ?_
    (repeat apply Exists.intro); refine And.intro (fun _ _ => less_W _ _ _) ?_
    refine iteI (fun c1 => ?_) (fun c1 => ?_)
    all_goals
      (repeat apply Exists.intro); refine And.intro (fun _ _ => less_W _ _ _) ?_
      refine iteI (fun c2 => ?_) (fun c2 => ?_)
      all_goals
        (repeat apply Exists.intro); refine And.intro (fun _ _ => t3 _) ?_
        (repeat apply Exists.intro); refine And.intro (fun _ _ => less_W _ _ _) ?_
        refine iteI (fun c3 => ?_) (fun c3 => ?_)
        all_goals
          (repeat apply Exists.intro); refine And.intro (fun _ _ => less_W _ _ _) ?_
          refine iteI (fun c4 => ?_) (fun c4 => ?_)
          all_goals
            (repeat apply Exists.intro); refine And.intro (fun _ _ => t4 _) ?_
            (repeat apply Exists.intro); refine And.intro (fun _ _ => less_W _ _ _) ?_
            refine iteI (fun c5 => ?_) (fun c5 => ?_)
            all_goals
              (repeat apply Exists.intro); refine And.intro (fun _ _ => less_W _ _ _) ?_
              refine iteI (fun c6 => ?_) (fun c6 => ?_)
              all_goals
                simp only [decide_eq_true_eq] at c1 c2 c3 c4 c5 c6
                (repeat apply Exists.intro); refine And.intro (fun _ _ => down32_W _ _ (fin _ 0 (by omega) (by omega)).1) ?_
                (repeat apply Exists.intro); refine And.intro (fun _ _ => minus_W _ _ (fin _ 0 (by omega) (by omega)).1 (fin _ 0 (by omega) (by omega)).2.1) ?_
                (repeat apply Exists.intro); refine And.intro (fun _ _ => down32_W _ _ (fin _ 0 (by omega) (by omega)).1) ?_
                (repeat apply Exists.intro); refine And.intro (fun _ _ => minus_W _ _ (fin _ 0 (by omega) (by omega)).2.2.1 (fin _ 0 (by omega) (by omega)).2.2.2) ?_
                (repeat apply Exists.intro); refine And.intro (fun _ _ => out_any _ _ _ (fin _ 0 (by omega) (by omega)).2.2.1 (by constructor <;> omega)) ?_
                exact fit_eq (by omega) (by omega)
  · unfold mul; rw [if_neg (chk2_no h).1]
end Go.Proofs.Ytdhiapllbjamfaa
