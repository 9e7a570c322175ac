/- A number is read from its text as it was: plain. -/
import Derived.Test.YtcoakpdafpclpaaGreatDoorTu
set_option linter.unusedVariables false
set_option linter.unusedSimpArgs false
namespace Ul
open Go Go.RowKit Go.Proofs Go.Proofs.YtcoakpdafpclpaaGreatDoor
/-- What digits behind a point are worth, in parts of 10^k. -/
def fv : List Nat → Nat
  | [] => 0
  | d :: r => d * 10 ^ r.length + fv r
theorem fv_dbl : ∀ (l : List Nat), fv (dbl l).1 + (dbl l).2 * 10 ^ l.length = 2 * fv l
  | [] => rfl
  | d :: r => by
    have ih := fv_dbl r
    simp only [dbl, fv, List.length_cons, dbl_len, Nat.pow_succ]
    generalize (dbl r).2 = c at *
    generalize fv (dbl r).1 = f at *
    generalize 10 ^ r.length = p at *
    have h1 : (2 * d + c) = (2 * d + c) % 10 + 10 * ((2 * d + c) / 10) := by omega
    have h2 : (2 * d + c) * p = (2 * d + c) % 10 * p + 10 * ((2 * d + c) / 10) * p := by rw [← Nat.add_mul, ← h1]
    have h3 : (2 * d + c) * p = 2 * (d * p) + c * p := by rw [Nat.add_mul, Nat.mul_assoc]
    have h4 : (2 * d + c) / 10 * (p * 10) = 10 * ((2 * d + c) / 10) * p := by rw [← Nat.mul_assoc, Nat.mul_comm _ 10, Nat.mul_assoc]
    omega
theorem fv_lt : ∀ {l : List Nat}, D10 l → fv l < 10 ^ l.length
  | [], _ => by decide
  | d :: r, h => by
    have ih := fv_lt (l := r) fun x hx => h x (List.mem_cons_of_mem _ hx)
    have hd := h d List.mem_cons_self
    simp only [fv, List.length_cons, Nat.pow_succ]
    generalize 10 ^ r.length = p at *
    have : d * p ≤ 9 * p := Nat.mul_le_mul_right p (by omega)
    omega
theorem fv_zero : ∀ {l : List Nat}, fv l = 0 → someN l = false
  | [], _ => rfl
  | d :: r, h => by
    simp only [fv] at h
    have hp : 0 < 10 ^ r.length := Nat.pow_pos (by decide)
    have h1 : d * 10 ^ r.length = 0 := by omega
    have h2 : d = 0 := by
      rcases Nat.mul_eq_zero.1 h1 with h | h
      · exact h
      · omega
    have ih := fv_zero (l := r) (by omega)
    subst h2
    simp only [someN, List.any_cons] at ih ⊢
    rw [ih]; rfl
theorem some_fv {l : List Nat} (h : fv l ≠ 0) : someN l = true := by
  rcases hs : someN l with _ | _
  · exfalso
    apply h
    clear h
    induction l with
    | nil => rfl
    | cons d r ih =>
      simp only [someN, List.any_cons, Bool.or_eq_false_iff, decide_eq_false_iff_not] at hs
      have := ih hs.2
      simp only [fv, this]
      have : d = 0 := by omega
      rw [this]; simp
  · rfl
theorem dlist_val (n : Nat) (l : List Nat) : ∀ i, dnum i n l * 10 ^ l.length + fv (dlist i l) = (n * 10 ^ l.length + fv l) * 2 ^ i
  | 0 => by simp [dnum, dlist]
  | i + 1 => by
    have ih := dlist_val n l i
    have h1 := fv_dbl (dlist i l)
    rw [dlist_len] at h1
    simp only [dnum, dlist]
    rw [Nat.pow_succ, ← Nat.mul_assoc, ← ih]
    unfold dcar
    generalize (dbl (dlist i l)).2 = c at *
    generalize fv (dbl (dlist i l)).1 = f at *
    generalize 10 ^ l.length = p at *
    generalize dnum i n l = q at *
    have : (2 * q + c) * p = 2 * (q * p) + c * p := by rw [Nat.add_mul, Nat.mul_assoc]
    omega
theorem tz_full {r : Nat} (h : r < 4294967296) (h2 : 32 ≤ tz 32 r) : r = 0 := by
  have hd := tz_dvd 32 r
  have : 2 ^ 32 ∣ r := Nat.dvd_trans (Nat.pow_dvd_pow 2 h2) hd
  obtain ⟨q, hq⟩ := this
  omega
theorem dig_of {x : Nat} (h : x < 10) : dig (UInt8.ofNat (48 + x)) = true ∧ (UInt8.ofNat (48 + x)).toNat - 48 = x := by
  have e : (UInt8.ofNat (48 + x)).toNat = 48 + x := by rw [UInt8.toNat_ofNat']; omega
  constructor
  · unfold dig; rw [e]; simp; omega
  · rw [e]; omega
theorem tail_arith (r d e f p q : Nat) (h : r * 10 = d * q + e) (hf : f * q = e * p) : (d * p + f) * q = r * (p * 10) := by
  have e1 : r * (p * 10) = r * 10 * p := by rw [Nat.mul_comm p 10, ← Nat.mul_assoc]
  rw [e1, h, Nat.add_mul, Nat.add_mul, hf, Nat.mul_assoc, Nat.mul_assoc, Nat.mul_comm p q]
theorem num_arith (a r p f q z m c : Nat) (hm : a * c + r = m) (hf : f * c = r * p) (hv : q * p + z = (a * p + f) * c) (hz : z < p) : q = m ∧ z = 0 := by
  have e1 : (a * p + f) * c = m * p := by rw [Nat.add_mul, hf, ← hm, Nat.add_mul, Nat.mul_assoc, Nat.mul_comm p c, ← Nat.mul_assoc]
  rw [e1] at hv
  have hp0 : 0 < p := by omega
  have h1 : (q * p + z) / p = q := by rw [Nat.mul_comm, Nat.mul_add_div hp0, Nat.div_eq_of_lt hz, Nat.add_zero]
  have h2 : m * p / p = m := Nat.mul_div_cancel m hp0
  have e : q = m := by rw [← h1, hv, h2]
  subst e
  exact ⟨rfl, by omega⟩
theorem tail_fv : ∀ (j r : Nat), r < 4294967296 → 32 - tz 32 r ≤ j → fv (digs (tailF j r)) * 4294967296 = r * 10 ^ (tailF j r).length ∧ (tailF j r).all dig = true
  | 0, r, hr, h => by
    have := tz_full hr (by omega)
    subst this
    exact ⟨by simp [tailF, digs, fv], rfl⟩
  | j + 1, r, hr, h => by
    by_cases h0 : r = 0
    · subst h0; rw [tail_zero]; exact ⟨by simp [digs, fv], rfl⟩
    · obtain ⟨g1, g2, g3⟩ := tz_step (by omega) hr
      obtain ⟨i1, i2⟩ := tail_fv j (r * 10 % 4294967296) (Nat.mod_lt _ (by decide)) (by omega)
      have hd := dig_of (x := r * 10 / 4294967296) (by omega)
      unfold tailF
      rw [if_neg h0]
      refine ⟨?_, by rw [List.all_cons, hd.1, i2]; rfl⟩
      have e0 : digs (UInt8.ofNat (48 + r * 10 / 4294967296) :: tailF j (r * 10 % 4294967296)) = r * 10 / 4294967296 :: digs (tailF j (r * 10 % 4294967296)) := by
        show ((UInt8.ofNat (48 + r * 10 / 4294967296)).toNat - 48) :: digs (tailF j (r * 10 % 4294967296)) = _
        rw [hd.2]
      rw [e0]
      simp only [fv, List.length_cons, Nat.pow_succ]
      rw [show (digs (tailF j (r * 10 % 4294967296))).length = (tailF j (r * 10 % 4294967296)).length by simp [digs]]
      exact tail_arith _ _ _ _ _ _ (Nat.div_add_mod' (r * 10) 4294967296).symm i1
theorem dec_val (u : Nat) : wholeN (digs (Lib.decDigits u)) = u ∧ (Lib.decDigits u).all dig = true ∧ 0 < (Lib.decDigits u).length ∧ ((Lib.decDigits u).length = 1 ∨ (Lib.decDigits u).getD 0 0 ≠ 48) := by
  induction u using Nat.strongRecOn with
  | ind u ih =>
    by_cases h : u < 10
    · have hd := dig_of h
      rw [Lib.decDigits_one h]
      refine ⟨?_, by simp only [List.all_cons, List.all_nil, hd.1, Bool.and_true], Nat.zero_lt_one, .inl rfl⟩
      simp only [digs, List.map_cons, List.map_nil, hd.2, wholeN, List.foldl_cons, List.foldl_nil]; omega
    · obtain ⟨i1, i2, i3, i4⟩ := ih (u / 10) (by omega)
      have hd := dig_of (x := u % 10) (by omega)
      have e : Lib.decDigits u = Lib.decDigits (u / 10) ++ [UInt8.ofNat (48 + u % 10)] := by
        conv => lhs; rw [Lib.decDigits]
        rw [dif_neg h]
      rw [e]
      refine ⟨?_, by rw [List.all_append, i2]; simp only [List.all_cons, List.all_nil, hd.1, Bool.and_true], by simp, .inr ?_⟩
      · rw [show digs (Lib.decDigits (u / 10) ++ [UInt8.ofNat (48 + u % 10)]) = digs (Lib.decDigits (u / 10)) ++ [u % 10] by unfold digs; rw [List.map_append, List.map_cons, List.map_nil, hd.2], whole_snoc, i1]; omega
      · have e2 : (Lib.decDigits (u / 10) ++ [UInt8.ofNat (48 + u % 10)]).getD 0 0 = (Lib.decDigits (u / 10)).getD 0 0 := by
          rw [List.getD_eq_getElem?_getD, List.getD_eq_getElem?_getD, List.getElem?_append_left i3]
        rw [e2]
        by_cases h2 : u / 10 < 10
        · rw [Lib.decDigits_one h2]
          show UInt8.ofNat (48 + u / 10) ≠ 48
          intro h3
          have h4 := congrArg UInt8.toNat h3
          rw [UInt8.toNat_ofNat'] at h4
          have : (48 : UInt8).toNat = 48 := rfl
          omega
        · rcases i4 with h3 | h3
          · have h5 : (Lib.decDigits (u / 10)).length = (Lib.decDigits (u / 10 / 10)).length + 1 := by
              conv => lhs; rw [Lib.decDigits]
              rw [dif_neg h2]; simp
            obtain ⟨_, _, j3, _⟩ := ih (u / 10 / 10) (by omega)
            omega
          · exact h3
theorem not46 {l : List UInt8} (h : l.all dig = true) : ¬ (46 : UInt8) ∈ l := fun hm => by
  have := List.all_eq_true.1 h 46 hm
  simp [dig] at this
theorem cut_app {l : List UInt8} (h : ¬ (46 : UInt8) ∈ l) (r : List UInt8) : cutH (l ++ 46 :: r) = l ∧ cutT (l ++ 46 :: r) = r := by
  induction l with
  | nil => exact ⟨rfl, rfl⟩
  | cons a l ih =>
    obtain ⟨i1, i2⟩ := ih fun hm => h (List.mem_cons_of_mem _ hm)
    have ha : (a != 46) = true := by simp; intro e; exact h (by simp [e])
    constructor
    · show (List.takeWhile _ (a :: (l ++ 46 :: r))) = _
      rw [List.takeWhile_cons, ha]
      simp only [if_true]
      exact congrArg (a :: ·) i1
    · show (List.dropWhile _ (a :: (l ++ 46 :: r))).tail = _
      rw [List.dropWhile_cons, ha]
      exact i2
/-- A text of a number without a sign. -/
def bodyT (m : Nat) : List UInt8 := Lib.decDigits (m / 4294967296) ++ (if m % 4294967296 = 0 then [] else 46 :: tailF 32 (m % 4294967296))
theorem body_cut (m : Nat) : cutH (bodyT m) = Lib.decDigits (m / 4294967296) ∧ cutT (bodyT m) = tailF 32 (m % 4294967296) ∧ ((46 : UInt8) ∈ bodyT m → m % 4294967296 ≠ 0) := by
  obtain ⟨_, h2, _, _⟩ := dec_val (m / 4294967296)
  have hn := not46 h2
  unfold bodyT
  by_cases h : m % 4294967296 = 0
  · rw [if_pos h, List.append_nil, h]
    obtain ⟨c1, c2⟩ := cut_none hn
    exact ⟨c1, c2.trans (tail_zero 32).symm, fun hm => (hn hm).elim⟩
  · rw [if_neg h]
    obtain ⟨c1, c2⟩ := cut_app hn (tailF 32 (m % 4294967296))
    exact ⟨c1, c2, fun _ => h⟩
theorem body_ok (m : Nat) : formOk (bodyT m) = true := by
  obtain ⟨c1, c2, c3⟩ := body_cut m
  obtain ⟨d1, d2, d3, d4⟩ := dec_val (m / 4294967296)
  have hlt : m % 4294967296 < 4294967296 := Nat.mod_lt _ (by decide)
  obtain ⟨t1, t2⟩ := tail_fv 32 (m % 4294967296) hlt (by omega)
  refine (form_iff _).2 ⟨by rw [c1]; exact d2, by rw [c1]; exact d3, ?_, fun hm => ?_⟩
  · rw [c1, ← head_get (by rw [c1]; exact d3), c1]; exact d4
  · rw [c2]
    refine ⟨t2, ?_⟩
    have h0 := c3 hm
    rw [tail_next (by omega) hlt]; simp
theorem some_whole {l : List Nat} (h : wholeN l ≠ 0) : someN l = true := by
  rcases hs : someN l with _ | _
  · exfalso
    apply h
    have : ∀ (l : List Nat) (a : Nat), someN l = false → a = 0 → l.foldl (fun n d => 10 * n + d) a = 0 := by
      intro l
      induction l with
      | nil => intro a _ h; exact h
      | cons d r ih =>
        intro a h ha
        simp only [someN, List.any_cons, Bool.or_eq_false_iff, decide_eq_false_iff_not] at h
        exact ih _ h.2 (by show 10 * a + d = 0; omega)
    exact this l 0 hs rfl
  · rfl
theorem body_num (m : Nat) (hm : m ≤ 9223372036854775807) : dnum 32 (wholeN (digs (cutH (bodyT m)))) (digs (cutT (bodyT m))) = m ∧ someN (dlist 32 (digs (cutT (bodyT m)))) = false ∧ wholeN (digs (cutH (bodyT m))) ≤ 2147483647 ∧ (0 < m → someT (bodyT m) = true) := by
  obtain ⟨c1, c2, c3⟩ := body_cut m
  obtain ⟨d1, d2, d3, d4⟩ := dec_val (m / 4294967296)
  have hlt : m % 4294967296 < 4294967296 := Nat.mod_lt _ (by decide)
  obtain ⟨t1, t2⟩ := tail_fv 32 (m % 4294967296) hlt (by omega)
  have hm2 := Nat.div_add_mod' m 4294967296
  have hw : m / 4294967296 ≤ 2147483647 := by omega
  unfold someT
  rw [c1, c2, d1]
  have hlen : (digs (tailF 32 (m % 4294967296))).length = (tailF 32 (m % 4294967296)).length := by simp [digs]
  rw [← hlen] at t1
  have hd := digs_bd t2
  have hv := dlist_val (m / 4294967296) (digs (tailF 32 (m % 4294967296))) 32
  rw [show (2 : Nat) ^ 32 = 4294967296 from rfl] at hv
  have hf := fv_lt (dlist_bd hd 32)
  rw [dlist_len] at hf
  obtain ⟨e1, e2⟩ := num_arith _ _ _ _ _ _ _ _ hm2 t1 hv hf
  refine ⟨e1, fv_zero e2, hw, fun h0 => ?_⟩
  by_cases hr : m % 4294967296 = 0
  · rw [some_whole (l := digs (Lib.decDigits (m / 4294967296))) (by rw [d1]; intro h; rw [h, hr] at hm2; clear hv hf t1; omega), Bool.true_or]
  · have : fv (digs (tailF 32 (m % 4294967296))) ≠ 0 := fun h => by
      rw [h, Nat.zero_mul] at t1
      rcases Nat.mul_eq_zero.1 t1.symm with h3 | h3
      · exact hr h3
      · exact Nat.ne_of_gt (Nat.pow_pos (by decide)) h3
    rw [some_fv this, Bool.or_true]
theorem read_text (n : Int) (h1 : -9223372036854775807 ≤ n) (h2 : n ≤ 9223372036854775807) : readV (textV n) = (n, n, 0) := by
  have ht : textV n = textN n.natAbs (decide (n < 0)) := if_pos h1
  obtain ⟨b1, b2, b3, b4⟩ := body_num n.natAbs (by omega)
  have hlt : n.natAbs % 4294967296 < 4294967296 := Nat.mod_lt _ (by decide)
  have hl1 := dec_len n.natAbs (by omega)
  have hl2 := tail_len 32 (n.natAbs % 4294967296)
  obtain ⟨d1, d2, d3, d4⟩ := dec_val (n.natAbs / 4294967296)
  have hbl : (bodyT n.natAbs).length ≤ 60 := by
    unfold bodyT
    split <;> simp <;> omega
  have hfit : fit n n = (n, n, 0) := by unfold fit; rw [if_pos ⟨h1, h2, h1, h2⟩]
  have hup : upN n.natAbs (dlist 32 (digs (cutT (bodyT n.natAbs)))) = n.natAbs := by unfold upN; rw [b2]; rfl
  rw [ht]
  by_cases hn : n < 0
  · have e : textN n.natAbs (decide (n < 0)) = 45 :: bodyT n.natAbs := by
      rw [decide_eq_true hn]; unfold textN bodyT; simp
    rw [e]
    unfold readV
    rw [if_neg (by simp; omega), if_pos (show (45 :: bodyT n.natAbs).head? = some 45 from rfl)]
    show readT true (bodyT n.natAbs) = _
    rw [readT_end (body_ok _) (fun _ => b4 (by omega))]
    unfold endT
    rw [b1, hup, if_neg (by omega), if_pos rfl, show -((n.natAbs : Nat) : Int) = n by omega, hfit]
  · have e : textN n.natAbs (decide (n < 0)) = bodyT n.natAbs := by
      rw [decide_eq_false hn]; unfold textN bodyT; simp
    rw [e]
    unfold readV
    have hh : ¬ (bodyT n.natAbs).head? = some 45 := by
      unfold bodyT
      cases hc : Lib.decDigits (n.natAbs / 4294967296) with
      | nil => rw [hc] at d3; cases d3
      | cons a r =>
        simp only [List.cons_append, List.head?_cons, Option.some.injEq]
        rintro rfl
        rw [hc] at d2
        simp [dig] at d2
    rw [if_neg (by omega), if_neg hh, readT_end (body_ok _) (fun h => by cases h)]
    unfold endT
    rw [b1, hup, if_neg (by omega), if_neg (by decide), show ((n.natAbs : Nat) : Int) = n by omega, hfit]
end Ul
