/- VehicleLaws: sums and products may be changed about and parted, and what is added and subtracted, multiplied and divided, is as it was. -/
import Derived.Test.YtogfcodccbcncaaGreatDoorQp
import Derived.Test.YtogfcodccbcncaaGreatDoorAwv
set_option linter.unusedVariables false
set_option linter.unusedSimpArgs false
namespace Go.Proofs.YtogfcodccbcncaaGreatDoor
open Go Go.RowKit Vc
attribute [local irreducible] Go.Calls
theorem tdiv_mul {d g : Int} (h : g ∣ d) : d = g * d.tdiv g := (Int.mul_tdiv_cancel' h).symm
theorem made_ok {n d k s t : Int} (h : (madeR n d k s t).e = 0) : ∃ n' d', madeR n d k s t = ⟨n', d', k, s, t, 0⟩ ∧ ckQ n' d' k s t = true ∧ n' * d = n * d' := by
  unfold madeR at h ⊢
  split
  · rename_i hc
    refine ⟨_, _, rfl, hc, ?_⟩
    have h1 := tdiv_mul (dvd_l n d)
    have h2 := tdiv_mul (dvd_r n d)
    generalize n.tdiv (Int.gcd n d : Nat) = a at *
    generalize d.tdiv (Int.gcd n d : Nat) = b at *
    generalize ((Int.gcd n d : Nat) : Int) = g at *
    clear h hc
    rw [h1, h2]
    grind
  · rename_i hc
    rw [if_neg hc] at h
    cases h
section
variable {n1 d1 k1 s1 t1 n2 d2 k2 s2 t2 : Int}
theorem plus_ok (h : (plusR n1 d1 k1 s1 t1 n2 d2 k2 s2 t2).e = 0) : ckQ n1 d1 k1 s1 t1 = true ∧ ckQ n2 d2 k2 s2 t2 = true ∧ ∃ n d, plusR n1 d1 k1 s1 t1 n2 d2 k2 s2 t2 = ⟨n, d, k1, s1, t1, 0⟩ ∧ ckQ n d k1 s1 t1 = true ∧ n * (d1 * d2) = (n1 * d2 + n2 * d1) * d ∧ k1 = k2 ∧ s1 = s2 ∧ t1 = t2 := by
  by_cases hc : ckQ n1 d1 k1 s1 t1 = true ∧ ckQ n2 d2 k2 s2 t2 = true
  · by_cases hd : k1 = k2 ∧ s1 = s2 ∧ t1 = t2
    · by_cases hb : Bd (n1 * d2.tdiv (Int.gcd d1 d2 : Nat)) ∧ Bd (n2 * d1.tdiv (Int.gcd d1 d2 : Nat)) ∧ Bd (d1.tdiv (Int.gcd d1 d2 : Nat) * d2) ∧ Bd (n1 * d2.tdiv (Int.gcd d1 d2 : Nat) + n2 * d1.tdiv (Int.gcd d1 d2 : Nat))
      · have e := plus_made hc hd hb
        rw [e] at h ⊢
        obtain ⟨n, d, e2, m1, m2⟩ := made_ok h
        refine ⟨hc.1, hc.2, n, d, e2, m1, ?_, hd⟩
        have h1 := tdiv_mul (dvd_l d1 d2)
        have h2 := tdiv_mul (dvd_r d1 d2)
        clear e e2 h m1 hb hc hd
        generalize d1.tdiv (Int.gcd d1 d2 : Nat) = a at *
        generalize d2.tdiv (Int.gcd d1 d2 : Nat) = b at *
        generalize ((Int.gcd d1 d2 : Nat) : Int) = g at *
        grind
      · rw [plus_range hc hd hb] at h; cases h
    · rw [plus_unit hc hd] at h; cases h
  · rw [plus_bad hc] at h; cases h
theorem times_ok (h : (timesR n1 d1 k1 s1 t1 n2 d2 k2 s2 t2).e = 0) : ckQ n1 d1 k1 s1 t1 = true ∧ ckQ n2 d2 k2 s2 t2 = true ∧ ∃ n d, timesR n1 d1 k1 s1 t1 n2 d2 k2 s2 t2 = ⟨n, d, k1 + k2, s1 + s2, t1 + t2, 0⟩ ∧ ckQ n d (k1 + k2) (s1 + s2) (t1 + t2) = true ∧ n * (d1 * d2) = n1 * n2 * d := by
  by_cases hc : ckQ n1 d1 k1 s1 t1 = true ∧ ckQ n2 d2 k2 s2 t2 = true
  · by_cases hb : Bd (timesN n1 d1 n2 d2) ∧ Bd (timesD n1 d1 n2 d2)
    · have e := times_made hc hb
      rw [e] at h ⊢
      obtain ⟨n, d, e2, m1, m2⟩ := made_ok h
      refine ⟨hc.1, hc.2, n, d, e2, m1, ?_⟩
      have h1 := tdiv_mul (dvd_l n1 d2)
      have h2 := tdiv_mul (dvd_r n1 d2)
      have h3 := tdiv_mul (dvd_l n2 d1)
      have h4 := tdiv_mul (dvd_r n2 d1)
      clear e e2 h m1 hb hc
      unfold timesN timesD at m2
      generalize n1.tdiv (Int.gcd n1 d2 : Nat) = a at *
      generalize d2.tdiv (Int.gcd n1 d2 : Nat) = b at *
      generalize n2.tdiv (Int.gcd n2 d1 : Nat) = a' at *
      generalize d1.tdiv (Int.gcd n2 d1 : Nat) = b' at *
      generalize ((Int.gcd n1 d2 : Nat) : Int) = g at *
      generalize ((Int.gcd n2 d1 : Nat) : Int) = g' at *
      grind
    · rw [times_range hc hb] at h; cases h
  · rw [times_bad hc] at h; cases h
theorem plus_comm : plusR n1 d1 k1 s1 t1 n2 d2 k2 s2 t2 = plusR n2 d2 k2 s2 t2 n1 d1 k1 s1 t1 := by
  by_cases hc : ckQ n1 d1 k1 s1 t1 = true ∧ ckQ n2 d2 k2 s2 t2 = true
  · by_cases hd : k1 = k2 ∧ s1 = s2 ∧ t1 = t2
    · obtain ⟨e1, e2, e3⟩ := hd
      subst e1 e2 e3
      have hD : d1.tdiv (Int.gcd d1 d2 : Nat) * d2 = d2.tdiv (Int.gcd d1 d2 : Nat) * d1 := by
        have h1 := tdiv_mul (dvd_l d1 d2)
        have h2 := tdiv_mul (dvd_r d1 d2)
        generalize d1.tdiv (Int.gcd d1 d2 : Nat) = a at *
        generalize d2.tdiv (Int.gcd d1 d2 : Nat) = b at *
        generalize ((Int.gcd d1 d2 : Nat) : Int) = g at *
        rw [h1, h2]
        grind
      have hS : n1 * d2.tdiv (Int.gcd d1 d2 : Nat) + n2 * d1.tdiv (Int.gcd d1 d2 : Nat) = n2 * d1.tdiv (Int.gcd d1 d2 : Nat) + n1 * d2.tdiv (Int.gcd d1 d2 : Nat) := Int.add_comm _ _
      by_cases hb : Bd (n1 * d2.tdiv (Int.gcd d1 d2 : Nat)) ∧ Bd (n2 * d1.tdiv (Int.gcd d1 d2 : Nat)) ∧ Bd (d1.tdiv (Int.gcd d1 d2 : Nat) * d2) ∧ Bd (n1 * d2.tdiv (Int.gcd d1 d2 : Nat) + n2 * d1.tdiv (Int.gcd d1 d2 : Nat))
      · rw [plus_made hc ⟨rfl, rfl, rfl⟩ hb, plus_made ⟨hc.2, hc.1⟩ ⟨rfl, rfl, rfl⟩ (by rw [Int.gcd_comm d2 d1, ← hD, ← hS]; exact ⟨hb.2.1, hb.1, hb.2.2.1, hb.2.2.2⟩), Int.gcd_comm d2 d1, ← hD, ← hS]
      · rw [plus_range hc ⟨rfl, rfl, rfl⟩ hb, plus_range ⟨hc.2, hc.1⟩ ⟨rfl, rfl, rfl⟩ (fun h => hb (by rw [Int.gcd_comm d2 d1, ← hD, ← hS] at h; exact ⟨h.2.1, h.1, h.2.2.1, h.2.2.2⟩))]
    · rw [plus_unit hc hd, plus_unit ⟨hc.2, hc.1⟩ (fun h => hd ⟨h.1.symm, h.2.1.symm, h.2.2.symm⟩)]
  · rw [plus_bad hc, plus_bad (fun h => hc ⟨h.2, h.1⟩)]
theorem times_comm : timesR n1 d1 k1 s1 t1 n2 d2 k2 s2 t2 = timesR n2 d2 k2 s2 t2 n1 d1 k1 s1 t1 := by
  have hN : timesN n2 d2 n1 d1 = timesN n1 d1 n2 d2 := Int.mul_comm _ _
  have hD : timesD n2 d2 n1 d1 = timesD n1 d1 n2 d2 := Int.mul_comm _ _
  by_cases hc : ckQ n1 d1 k1 s1 t1 = true ∧ ckQ n2 d2 k2 s2 t2 = true
  · by_cases hb : Bd (timesN n1 d1 n2 d2) ∧ Bd (timesD n1 d1 n2 d2)
    · rw [times_made hc hb, times_made ⟨hc.2, hc.1⟩ (by rw [hN, hD]; exact hb), hN, hD, Int.add_comm k2, Int.add_comm s2, Int.add_comm t2]
    · rw [times_range hc hb, times_range ⟨hc.2, hc.1⟩ (by rw [hN, hD]; exact hb)]
  · rw [times_bad hc, times_bad (fun h => hc ⟨h.2, h.1⟩)]
theorem low_uniq {n d n' d' k s t k' s' t' : Int} (h1 : ckQ n d k s t = true) (h2 : ckQ n' d' k' s' t' = true) (h : n * d' = n' * d) : n = n' ∧ d = d' := by
  obtain ⟨_, l1, _, g1⟩ := ck_bd h1
  obtain ⟨_, l2, _, g2⟩ := ck_bd h2
  have a1 : d.natAbs ∣ d'.natAbs := by
    have : d.natAbs ∣ n.natAbs * d'.natAbs := by rw [← Int.natAbs_mul, h, Int.natAbs_mul]; exact Nat.dvd_mul_left _ _
    exact Nat.Coprime.dvd_of_dvd_mul_left (by rw [Nat.coprime_comm]; exact g1) this
  have a2 : d'.natAbs ∣ d.natAbs := by
    have : d'.natAbs ∣ n'.natAbs * d.natAbs := by rw [← Int.natAbs_mul, ← h, Int.natAbs_mul]; exact Nat.dvd_mul_left _ _
    exact Nat.Coprime.dvd_of_dvd_mul_left (by rw [Nat.coprime_comm]; exact g2) this
  have hd : d = d' := by
    have := Nat.dvd_antisymm a1 a2
    omega
  subst hd
  exact ⟨Int.eq_of_mul_eq_mul_right (by omega) h, rfl⟩
end
theorem pos3 {a b c : Int} (h1 : 1 ≤ a) (h2 : 1 ≤ b) (h3 : 1 ≤ c) : a * b * c ≠ 0 := by
  have := Int.mul_pos (Int.mul_pos (show 0 < a by omega) (show 0 < b by omega)) (show 0 < c by omega)
  omega
section
variable {an ad ak as_ at_ bn bd bk bs bt cn cd ck cs ct : Int}
theorem plus_assoc {x y u v : Qr} (hx : plusR an ad ak as_ at_ bn bd bk bs bt = x) (hu : plusR x.n x.d x.k x.s x.t cn cd ck cs ct = u) (hy : plusR bn bd bk bs bt cn cd ck cs ct = y) (hv : plusR an ad ak as_ at_ y.n y.d y.k y.s y.t = v)
    (ex : x.e = 0) (eu : u.e = 0) (ey : y.e = 0) (ev : v.e = 0) : u.n = v.n ∧ u.d = v.d ∧ u.k = v.k ∧ u.s = v.s ∧ u.t = v.t := by
  subst hx hy
  obtain ⟨ca, cb, xn, xd, e1, c1, m1, _, _, _⟩ := plus_ok ex
  rw [e1] at hu
  obtain ⟨_, cc, yn, yd, e2, c2, m2, _, _, _⟩ := plus_ok ey
  rw [e2] at hv
  subst hu hv
  obtain ⟨_, _, un, ud, e3, c3, m3, _, _, _⟩ := plus_ok eu
  obtain ⟨_, _, vn, vd, e4, c4, m4, _, _, _⟩ := plus_ok ev
  have p1 := ck_bd ca
  have p2 := ck_bd cb
  have p3 := ck_bd cc
  have p4 := ck_bd c1
  have p5 := ck_bd c2
  have q : un * vd = vn * ud := by
    have f1 : un * (ad * bd * cd) = (an * bd * cd + bn * ad * cd + cn * ad * bd) * ud := by
      refine Int.eq_of_mul_eq_mul_left (a := xd) (by omega) ?_
      simp only at m3
      clear ex eu ey ev e1 e2 e3 e4 c1 c2 c3 c4 ca cb cc p1 p2 p3 p4 p5 m2 m4
      grind
    have f2 : vn * (ad * bd * cd) = (an * bd * cd + bn * ad * cd + cn * ad * bd) * vd := by
      refine Int.eq_of_mul_eq_mul_left (a := yd) (by omega) ?_
      simp only at m4
      clear ex eu ey ev e1 e2 e3 e4 c1 c2 c3 c4 ca cb cc p1 p2 p3 p4 p5 m1 m3 f1
      grind
    refine Int.eq_of_mul_eq_mul_left (a := ad * bd * cd) (pos3 (by omega) (by omega) (by omega)) ?_
    clear ex eu ey ev e1 e2 e3 e4 c1 c2 c3 c4 ca cb cc p1 p2 p3 p4 p5 m1 m2 m3 m4
    grind
  obtain ⟨r1, r2⟩ := low_uniq c3 c4 q
  rw [e3, e4]
  exact ⟨r1, r2, rfl, rfl, rfl⟩
theorem plus_back {x m : Qr} (hx : plusR an ad ak as_ at_ bn bd bk bs bt = x) (hm : minusR x.n x.d x.k x.s x.t bn bd bk bs bt = m) (ex : x.e = 0) (em : m.e = 0) : m.n = an ∧ m.d = ad ∧ m.k = ak ∧ m.s = as_ ∧ m.t = at_ := by
  subst hx
  obtain ⟨ca, cb, xn, xd, e1, c1, m1, _, _, _⟩ := plus_ok ex
  rw [e1] at hm
  unfold minusR at hm
  rw [if_pos cb] at hm
  subst hm
  obtain ⟨_, _, mn, md, e2, c2, m2, _, _, _⟩ := plus_ok em
  have p1 := ck_bd ca
  have p2 := ck_bd cb
  have p3 := ck_bd c1
  have q : mn * ad = an * md := by
    refine Int.eq_of_mul_eq_mul_left (a := xd * bd * bd) (pos3 (by omega) (by omega) (by omega)) ?_
    simp only at m2
    clear ex em e1 e2 c1 c2 ca cb p1 p2 p3
    grind
  obtain ⟨r1, r2⟩ := low_uniq c2 ca q
  rw [e2]
  exact ⟨r1, r2, rfl, rfl, rfl⟩
theorem times_assoc {x y u v : Qr} (hx : timesR an ad ak as_ at_ bn bd bk bs bt = x) (hu : timesR x.n x.d x.k x.s x.t cn cd ck cs ct = u) (hy : timesR bn bd bk bs bt cn cd ck cs ct = y) (hv : timesR an ad ak as_ at_ y.n y.d y.k y.s y.t = v)
    (ex : x.e = 0) (eu : u.e = 0) (ey : y.e = 0) (ev : v.e = 0) : u.n = v.n ∧ u.d = v.d ∧ u.k = v.k ∧ u.s = v.s ∧ u.t = v.t := by
  subst hx hy
  obtain ⟨ca, cb, xn, xd, e1, c1, m1⟩ := times_ok ex
  rw [e1] at hu
  obtain ⟨_, cc, yn, yd, e2, c2, m2⟩ := times_ok ey
  rw [e2] at hv
  subst hu hv
  obtain ⟨_, _, un, ud, e3, c3, m3⟩ := times_ok eu
  obtain ⟨_, _, vn, vd, e4, c4, m4⟩ := times_ok ev
  have p1 := ck_bd ca
  have p2 := ck_bd cb
  have p3 := ck_bd cc
  have p4 := ck_bd c1
  have p5 := ck_bd c2
  have q : un * vd = vn * ud := by
    have f1 : un * (ad * bd * cd) = an * bn * cn * ud := by
      refine Int.eq_of_mul_eq_mul_left (a := xd) (by omega) ?_
      simp only at m3
      clear ex eu ey ev e1 e2 e3 e4 c1 c2 c3 c4 ca cb cc p1 p2 p3 p4 p5 m2 m4
      grind
    have f2 : vn * (ad * bd * cd) = an * bn * cn * vd := by
      refine Int.eq_of_mul_eq_mul_left (a := yd) (by omega) ?_
      simp only at m4
      clear ex eu ey ev e1 e2 e3 e4 c1 c2 c3 c4 ca cb cc p1 p2 p3 p4 p5 m1 m3 f1
      grind
    refine Int.eq_of_mul_eq_mul_left (a := ad * bd * cd) (pos3 (by omega) (by omega) (by omega)) ?_
    clear ex eu ey ev e1 e2 e3 e4 c1 c2 c3 c4 ca cb cc p1 p2 p3 p4 p5 m1 m2 m3 m4
    grind
  obtain ⟨r1, r2⟩ := low_uniq c3 c4 q
  rw [e3, e4]
  exact ⟨r1, r2, Int.add_assoc _ _ _, Int.add_assoc _ _ _, Int.add_assoc _ _ _⟩
theorem times_back {x m : Qr} (hx : timesR an ad ak as_ at_ bn bd bk bs bt = x) (hm : overR x.n x.d x.k x.s x.t bn bd bk bs bt = m) (ex : x.e = 0) (em : m.e = 0) : m.n = an ∧ m.d = ad ∧ m.k = ak ∧ m.s = as_ ∧ m.t = at_ := by
  subst hx
  obtain ⟨ca, cb, xn, xd, e1, c1, m1⟩ := times_ok ex
  rw [e1] at hm
  simp only at hm
  by_cases hz : bn = 0
  · rw [over_bad (fun h => h.2.2 hz)] at hm
    subst hm
    cases em
  have p1 := ck_bd ca
  have p2 := ck_bd cb
  have p3 := ck_bd c1
  have fin : ∀ mn md : Int, ckQ mn md (ak + bk + -bk) (as_ + bs + -bs) (at_ + bt + -bt) = true → mn * (xd * bn) = xn * bd * md → m = ⟨mn, md, ak + bk + -bk, as_ + bs + -bs, at_ + bt + -bt, 0⟩ → m.n = an ∧ m.d = ad ∧ m.k = ak ∧ m.s = as_ ∧ m.t = at_ := by
    intro mn md hc hv he
    have q : mn * ad = an * md := by
      have hne : xd * bn * bd ≠ 0 := by
        have z1 : xd ≠ 0 := by omega
        have z2 : bd ≠ 0 := by omega
        simp [Int.mul_eq_zero, z1, z2, hz]
      refine Int.eq_of_mul_eq_mul_left (a := xd * bn * bd) hne ?_
      clear ex em e1 c1 ca cb p1 p2 p3 hm hc he hz hne
      grind
    obtain ⟨r1, r2⟩ := low_uniq hc ca q
    rw [he]
    exact ⟨r1, r2, by simp only; omega, by simp only; omega, by simp only; omega⟩
  by_cases hn : bn < 0
  · rw [over_neg ⟨c1, cb, hz⟩ hn] at hm
    subst hm
    obtain ⟨_, _, mn, md, e2, c2, m2⟩ := times_ok em
    refine fin mn md c2 ?_ e2
    grind
  · rw [over_pos ⟨c1, cb, hz⟩ hn] at hm
    subst hm
    obtain ⟨_, _, mn, md, e2, c2, m2⟩ := times_ok em
    exact fin mn md c2 m2 e2
end
abbrev five (p : Qr) (n d k s t : Int) : Prop := p.n = n ∧ p.d = d ∧ p.k = k ∧ p.s = s ∧ p.t = t
theorem walk_vehicleLaws {w : World} (an ad ak as_ at_ bn bd bk bs bt cn cd ck cs ct : Int) (hG : VGs w) : Calls Tryz.prog 3 #[QV an ad ak as_ at_, QV bn bd bk bs bt, QV cn cd ck cs ct] w (Vc.Ret (.bool true) w) := by
  have aw : Vj_ullagelaw02_VehicleLaws_T4 w (.bool true) := ⟨true, fun w' hb => awake_any w' (hG.keep hb), rfl⟩
  have cp := fun w' => pplus_any an ad ak as_ at_ bn bd bk bs bt w'
  have cp2 := fun w' => pplus_any bn bd bk bs bt an ad ak as_ at_ w'
  rw [← plus_comm] at cp2
  have ct1 := fun w' => ptimes_any an ad ak as_ at_ bn bd bk bs bt w'
  have ct2 := fun w' => ptimes_any bn bd bk bs bt an ad ak as_ at_ w'
  rw [← times_comm] at ct2
  generalize hx : plusR an ad ak as_ at_ bn bd bk bs bt = x at cp cp2
  generalize hp : timesR an ad ak as_ at_ bn bd bk bs bt = p at ct1 ct2
  have t3 : ∀ m : Qr, overR p.n p.d p.k p.s p.t bn bd bk bs bt = m → p.e = 0 → Vj_ullagelaw02_VehicleLaws_T3 m.e m.n an m.d ad m.k ak m.s as_ m.t at_ w (.bool true) bn := by
    intro m hm ep
    unfold Vj_ullagelaw02_VehicleLaws_T3
    exact iteI (fun em => iteI (fun _ => aw) fun h => absurd (times_back hp hm ep em) h) fun _ => aw
  have t2 : Vj_ullagelaw02_VehicleLaws_T2 p.e w p.n p.d p.k p.s p.t cn cd ck cs ct bn bd bk bs bt an ad ak as_ at_ (.bool true) := by
    unfold Vj_ullagelaw02_VehicleLaws_T2
    refine iteI (fun ep => ?_) fun _ => aw
    obtain ⟨u, hu⟩ : ∃ u, timesR p.n p.d p.k p.s p.t cn cd ck cs ct = u := ⟨_, rfl⟩
    obtain ⟨y, hy⟩ : ∃ y, timesR bn bd bk bs bt cn cd ck cs ct = y := ⟨_, rfl⟩
    obtain ⟨v, hv⟩ : ∃ v, timesR an ad ak as_ at_ y.n y.d y.k y.s y.t = v := ⟨_, rfl⟩
    obtain ⟨m, hm⟩ : ∃ m, overR p.n p.d p.k p.s p.t bn bd bk bs bt = m := ⟨_, rfl⟩
    refine ⟨u.n, u.d, u.k, u.s, u.t, u.e, fun w' _ => by rw [← hu]; exact ptimes_any _ _ _ _ _ _ _ _ _ _ w', y.n, y.d, y.k, y.s, y.t, y.e, fun w' _ => by rw [← hy]; exact ptimes_any _ _ _ _ _ _ _ _ _ _ w', v.n, v.d, v.k, v.s, v.t, v.e, fun w' _ => by rw [← hv]; exact ptimes_any _ _ _ _ _ _ _ _ _ _ w', m.n, m.d, m.k, m.s, m.t, m.e, fun w' _ => by rw [← hm]; exact pover_any _ _ _ _ _ _ _ _ _ _ w', ?_⟩
    have t := t3 m hm ep
    exact iteI (fun eu => iteI (fun ey => iteI (fun ev => iteI (fun _ => t) fun h => absurd (times_assoc hp hu hy hv ep eu ey ev) h) fun _ => t) fun _ => t) fun _ => t
  refine vc_ullagelaw02_VehicleLaws an ad ak as_ at_ bn bd bk bs bt cn cd ck cs ct w _ ⟨x.n, x.d, x.k, x.s, x.t, x.e, fun w' _ => cp w', x.n, x.d, x.k, x.s, x.t, x.e, fun w' _ => cp2 w', p.n, p.d, p.k, p.s, p.t, p.e, fun w' _ => ct1 w', p.n, p.d, p.k, p.s, p.t, p.e, fun w' _ => ct2 w', ?_⟩
  refine iteI (fun _ => ?_) fun h => absurd ⟨rfl, rfl, rfl, rfl, rfl⟩ h
  refine iteI (fun _ => ?_) fun h => absurd rfl h
  refine iteI (fun _ => ?_) fun h => absurd ⟨rfl, rfl, rfl, rfl, rfl⟩ h
  refine iteI (fun _ => ?_) fun h => absurd rfl h
  refine iteI (fun ex => ?_) fun _ => t2
  obtain ⟨u, hu⟩ : ∃ u, plusR x.n x.d x.k x.s x.t cn cd ck cs ct = u := ⟨_, rfl⟩
  obtain ⟨y, hy⟩ : ∃ y, plusR bn bd bk bs bt cn cd ck cs ct = y := ⟨_, rfl⟩
  obtain ⟨v, hv⟩ : ∃ v, plusR an ad ak as_ at_ y.n y.d y.k y.s y.t = v := ⟨_, rfl⟩
  obtain ⟨m, hm⟩ : ∃ m, minusR x.n x.d x.k x.s x.t bn bd bk bs bt = m := ⟨_, rfl⟩
  have t1 : Vj_ullagelaw02_VehicleLaws_T1 m.e m.n an m.d ad m.k ak m.s as_ m.t at_ p.e w p.n p.d p.k p.s p.t cn cd ck cs ct bn bd bk bs bt (.bool true) := by
    unfold Vj_ullagelaw02_VehicleLaws_T1
    exact iteI (fun em => iteI (fun _ => t2) fun h => absurd (plus_back hx hm ex em) h) fun _ => t2
  refine ⟨u.n, u.d, u.k, u.s, u.t, u.e, fun w' _ => by rw [← hu]; exact pplus_any _ _ _ _ _ _ _ _ _ _ w', y.n, y.d, y.k, y.s, y.t, y.e, fun w' _ => by rw [← hy]; exact pplus_any _ _ _ _ _ _ _ _ _ _ w', v.n, v.d, v.k, v.s, v.t, v.e, fun w' _ => by rw [← hv]; exact pplus_any _ _ _ _ _ _ _ _ _ _ w', m.n, m.d, m.k, m.s, m.t, m.e, fun w' _ => by rw [← hm]; exact pminus_any _ _ _ _ _ _ _ _ _ _ w', ?_⟩
  exact iteI (fun eu => iteI (fun ey => iteI (fun ev => iteI (fun _ => t1) fun h => absurd (plus_assoc hx hu hy hv ex eu ey ev) h) fun _ => t1) fun _ => t1) fun _ => t1
end Go.Proofs.YtogfcodccbcncaaGreatDoor
