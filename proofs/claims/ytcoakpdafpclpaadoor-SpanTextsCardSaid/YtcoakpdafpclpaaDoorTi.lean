/- The reference's Read. -/
import Derived.Test.YtcoakpdafpclpaaDoorTj
set_option linter.unusedVariables false
set_option linter.unusedSimpArgs false
namespace Go.Proofs.YtcoakpdafpclpaaDoor
open Go Go.RowKit Go.Sort Go.Proofs Ul Vc
attribute [local irreducible] Go.Calls
def iv (l : List Nat) : List Value := l.map fun (d : Nat) => .int .i64 (d : Int)
theorem iv_len (l : List Nat) : (iv l).length = l.length := by simp [iv]
theorem iv_get (l : List Nat) (k : Nat) : (iv l)[k]? = (l[k]?).map fun (d : Nat) => Value.int .i64 (d : Int) := by unfold iv; rw [List.getElem?_map]
theorem oi_len {L : List OV} {l : List Nat} (h : L.map (·.1) = iv l) : L.length = l.length := by
  have := congrArg List.length h
  simpa [iv] using this
theorem fit_big {a b : Int} (h : ¬ (-9223372036854775807 ≤ a ∧ a ≤ 9223372036854775807 ∧ -9223372036854775807 ≤ b ∧ b ≤ 9223372036854775807)) : fit a b = (0, 0, 4) := if_neg h
theorem up_ge (n : Nat) (l : List Nat) : n ≤ upN n l ∧ upN n l ≤ n + 1 := by unfold upN; split <;> omega
/-- What comes out, whatever the whole part. -/
theorem end_fit (b : Bool) (n : Nat) (l : List Nat) : endT b n l = if b = true then fit (-((upN (dnum 32 n l) (dlist 32 l) : Nat) : Int)) (-((dnum 32 n l : Nat) : Int)) else fit ((dnum 32 n l : Nat) : Int) ((upN (dnum 32 n l) (dlist 32 l) : Nat) : Int) := by
  unfold endT
  by_cases h : 2147483647 < n
  · rw [if_pos h]
    have h1 := dnum_ge n l 32
    have h2 := up_ge (dnum 32 n l) (dlist 32 l)
    have h3 : 9223372036854775808 ≤ dnum 32 n l := by omega
    split
    · rw [fit_big (by omega)]
    · rw [fit_big (by omega)]
  · rw [if_neg h]
theorem dnum_succ' (i n : Nat) (l : List Nat) : ((dnum i n l : Nat) : Int) + ((dnum i n l : Nat) : Int) + ((dcar i l : Nat) : Int) = ((dnum (i + 1) n l : Nat) : Int) := by rw [← dnum_succ i n l]; omega
set_option maxHeartbeats 1000000 in
theorem t3r (i : Nat) (hi : i < 32) (n : Nat) (hn : n ≤ 1099511627776) (l : List Nat) (hd : D10 l) (hl : l.length ≤ 1000) (L1 : List OV) (hL1 : L1.map (·.1) = iv (dlist i l)) (w : World) (Ix : List Vc.Vl → Prop) (mx : List Vc.Vl → Nat)
    (hI : ∀ xs, xs = iv (dlist (i + 1) l) → Ix [.i ((i + 1 : Nat) : Int), .l xs, .i (hiW (dnum (i + 1) n l : Nat)), .i (loW (dnum (i + 1) n l : Nat))] ∧ mx [.i ((i + 1 : Nat) : Int), .l xs, .i (hiW (dnum (i + 1) n l : Nat)), .i (loW (dnum (i + 1) n l : Nat))] < mx [.i (i : Int), .l (L1.map (·.1) ++ []), .i (hiW (dnum i n l : Nat)), .i (loW (dnum i n l : Nat))]) :
    Vj_ullageref01_Read_T3 L1 w (hiW (dnum i n l : Nat)) (loW (dnum i n l : Nat)) (i : Int) Ix mx := by
  have hdi := dlist_bd hd i
  have hli : (dlist i l).length = l.length := dlist_len l i
  have hn1 : L1.length = l.length := (oi_len hL1).trans hli
  generalize hm : dlist i l = m at *
  rintro _ rfl _ rfl
  rw [hn1]
  refine ⟨fun y => ∃ k, k ≤ m.length ∧ y = [.i ((dbl (m.drop k)).2 : Int), .i ((k : Int) - 1), .l (iv (part m k))], fun (y : List Vc.Vl) => match y[1]? with | some (Vc.Vl.i x) => (x + 1).toNat | _ => 0, ?_, ?_⟩
  · refine ⟨m.length, Nat.le_refl _, ?_⟩
    have e1 : ((((0 + (l.length + 0)) / 1 : Nat) : Int) - 1) = (m.length : Int) - 1 := by simp; omega
    rw [e1, Vc.i64_id (by omega), List.append_nil, hL1]
    simp [part, dbl]
  · rintro x2 x3 l1 ⟨k, hk, hy⟩
    simp only [List.cons.injEq, Vl.i.injEq, Vl.l.injEq, List.append_nil, and_true] at hy
    obtain ⟨rfl, rfl, hl1⟩ := hy
    have hn2 : l1.length = m.length := (oi_len hl1).trans (part_len m k hk)
    refine ⟨fun h0 => ?_, fun h0 => ?_⟩
    · obtain ⟨j, rfl⟩ : ∃ j, k = j + 1 := ⟨k - 1, by omega⟩
      have hj : j < m.length := by omega
      obtain ⟨d, hdj⟩ : ∃ d, m[j]? = some d := ⟨m[j], List.getElem?_eq_getElem hj⟩
      have hd10 := hdi d (List.mem_of_getElem? hdj)
      have hc := (dbl_bd (l := m.drop (j + 1)) fun x hx => hdi x (List.mem_of_mem_drop hx)).2
      obtain ⟨p1, p2⟩ := part_step hdj
      have ej : (((j + 1 : Nat) : Int) - 1) = (j : Int) := by omega
      have ej2 : (((j + 1 : Nat) : Int) - 1).toNat * 1 + 0 = j := by omega
      rw [hn2]
      rintro _ rfl
      refine ⟨h0, by simp; omega, (d : Int), ?_, ?_⟩
      · rw [hl1, List.append_nil, ej2, iv_get, part_get hdj]; rfl
      · rintro _ rfl _ rfl _ rfl _ rfl
        refine ⟨h0, by simp; omega, ?_⟩
        rintro _ rfl
        refine ⟨h0, by simp; omega, ?_⟩
        intro l2 hl2
        rintro _ rfl _ rfl
        generalize hcc : (dbl (m.drop (j + 1))).2 = c at *
        have a1 : IntKind.i64.wrap (2 * (d : Int)) = 2 * (d : Int) := Vc.i64_id (by omega)
        have a2 : IntKind.i64.wrap (2 * (d : Int) + (c : Int)) = ((2 * d + c : Nat) : Int) := by rw [Vc.i64_id (by omega)]; omega
        rw [a1, a2]
        have a3 : Int.tmod ((2 * d + c : Nat) : Int) 10 = (((2 * d + c) % 10 : Nat) : Int) := tmodN _ 10
        have a4 : Int.tdiv ((2 * d + c : Nat) : Int) 10 = (((2 * d + c) / 10 : Nat) : Int) := tdivN _ 10
        rw [a1, a2, a3, ej2, hl1, List.append_nil] at hl2
        have e5 : l2.map (·.1) = iv (part m j) := by
          rw [hl2, p1]
          simp [iv, List.map_take, List.map_drop]
        rw [a4, ← p2, Vc.i64_id (x := (((dbl (m.drop j)).2 : Nat) : Int)) (by rw [p2]; omega), ej, Vc.i64_id (x := (j : Int) - 1) (by omega), List.append_nil, e5]
        exact ⟨⟨j, by omega, rfl⟩, by show ((j : Int) - 1 + 1).toNat < ((j : Int) + 1).toNat; omega⟩
    · obtain rfl : k = 0 := by omega
      have hb := dnum_bd hd n i
      have hp : 2 ^ i ≤ 4294967296 := Nat.pow_le_pow_right (by decide) (show i ≤ 32 by omega)
      have hb2 : dnum i n l ≤ 9444732965739290427392 := by
        have : (n + 1) * 2 ^ i ≤ 1099511627777 * 4294967296 := Nat.mul_le_mul (by omega) hp
        omega
      have hc : (dbl (m.drop 0)).2 = dcar i l := by rw [List.drop_zero, ← hm]; rfl
      have hc1 := dcar_bd hd i
      rw [hc]
      refine ⟨_, _, fun w' _ => twice_W (dnum i n l : Nat) w' ⟨by omega, by omega⟩, _, _, fun w' _ => of_W (dcar i l : Nat) w' (by omega) (by omega), _, _, fun w' _ => plus_W _ _ w' ⟨by omega, by omega⟩, ?_⟩
      rintro _ rfl
      rw [dnum_succ', wrap_up i (by omega)]
      refine hI _ ?_
      rw [List.append_nil, hl1]
      unfold part
      rw [List.take_zero, List.drop_zero, List.nil_append, ← hm]; rfl
theorem rdig {c : UInt8} (hc : dig c = true) : IntKind.i64.wrap (IntKind.u8.wrap ((c.toNat : Int) - 48)) = ((c.toNat - 48 : Nat) : Int) := by
  have hc2 : 48 ≤ c.toNat ∧ c.toNat ≤ 57 := by simpa [dig] using hc
  rw [u8_id (by omega), Vc.i64_id (by omega)]; omega
theorem iv_snoc {S : List UInt8} {k : Nat} {c : UInt8} (h : S[k]? = some c) : iv (digs (S.take (k + 1))) = iv (digs (S.take k)) ++ [.int .i64 ((c.toNat - 48 : Nat) : Int)] := by
  rw [take_snoc h]; simp [digs, iv]
theorem digs_get {S : List UInt8} {k : Nat} {c : UInt8} (h : S[k]? = some c) : (digs S)[k]? = some (c.toNat - 48) := by
  unfold digs; rw [List.getElem?_map, h]; rfl
theorem digs_take (S : List UInt8) (k : Nat) : digs (S.take k) = (digs S).take k := by unfold digs; rw [List.map_take]
theorem all_at {S : List UInt8} {k : Nat} {c : UInt8} (ha : S.all dig = true) (h : S[k]? = some c) : dig c = true := List.all_eq_true.1 ha c (List.mem_of_getElem? h)
theorem head_at {t : List UInt8} {k : Nat} (h : k < (cutH t).length) : ∃ c, (cutH t)[k]? = some c ∧ t.getD (Int.toNat (k : Int)) 0 = c := by
  refine ⟨(cutH t)[k], List.getElem?_eq_getElem h, ?_⟩
  rw [Int.toNat_natCast, List.getD_eq_getElem?_getD]
  by_cases hm : (46 : UInt8) ∈ t
  · have e := cut_some hm
    have : t[k]? = (cutH t)[k]? := by
      conv => lhs; rw [e]
      rw [List.getElem?_append_left h]
    rw [this, List.getElem?_eq_getElem h]; rfl
  · have e := (cut_none hm).1
    have : t[k]? = (cutH t)[k]? := by rw [e]
    rw [this, List.getElem?_eq_getElem h]; rfl
theorem tail_at {t : List UInt8} {k : Nat} (h : k < (cutT t).length) : (46 : UInt8) ∈ t ∧ t.length = (cutH t).length + 1 + (cutT t).length ∧ ∃ c, (cutT t)[k]? = some c ∧ t.getD (Int.toNat (((cutH t).length + 1 + k : Nat) : Int)) 0 = c := by
  have hm : (46 : UInt8) ∈ t := by
    by_cases hm : (46 : UInt8) ∈ t
    · exact hm
    · rw [(cut_none hm).2] at h; cases h
  have e := cut_some hm
  have hlen := congrArg List.length e
  simp only [List.length_append, List.length_cons] at hlen
  refine ⟨hm, by omega, (cutT t)[k], List.getElem?_eq_getElem h, ?_⟩
  rw [Int.toNat_natCast, List.getD_eq_getElem?_getD]
  have gen : ∀ (a r : List UInt8), (a ++ 46 :: r)[a.length + 1 + k]? = r[k]? := by
    intro a r
    rw [List.getElem?_append_right (by omega), show a.length + 1 + k - a.length = k + 1 by omega, List.getElem?_cons_succ]
  have : t[(cutH t).length + 1 + k]? = (cutT t)[k]? := (congrArg (fun z : List UInt8 => z[(cutH t).length + 1 + k]?) e).trans (gen _ _)
  rw [this, List.getElem?_eq_getElem h]; rfl
theorem tail_room (t : List UInt8) : ((46 : UInt8) ∈ t ∧ t.length = (cutH t).length + 1 + (cutT t).length) ∨ ((cutT t).length = 0 ∧ t.length = (cutH t).length) := by
  by_cases hm : (46 : UInt8) ∈ t
  · have hlen := congrArg List.length (cut_some hm)
    simp only [List.length_append, List.length_cons] at hlen
    exact .inl ⟨hm, by omega⟩
  · obtain ⟨h1, h2⟩ := cut_none hm
    exact .inr ⟨by rw [h2]; rfl, by rw [h1]⟩
theorem some_take {l : List Nat} {k d : Nat} (h : l[k]? = some d) : someN (l.take (k + 1)) = (someN (l.take k) || decide (0 < d)) := by
  rw [take_snoc h]; simp [someN]
set_option maxHeartbeats 2000000 in
theorem t2r (t : List UInt8) (ht : t.length ≤ 80) (x3 : Int) (w : World) (v : Value) (hok : formOk t = true) (hv : Vc.RV (endT (decide (x3 = 45)) (wholeN (digs (cutH t))) (digs (cutT t))) = v) : Vj_ullageref01_Read_T2 ((cutH t).length : Int) w t v x3 := by
  obtain ⟨f1, f2, f3, f4⟩ := (form_iff t).1 hok
  obtain ⟨c1, c2⟩ := cut_len t
  refine ⟨fun y => ∃ k, k ≤ (cutH t).length ∧ wholeN ((digs (cutH t)).take k) ≤ 1099511627776 ∧ y = [.i 0, .i (k : Int), .i (hiW (wholeN ((digs (cutH t)).take k) : Nat)), .i (loW (wholeN ((digs (cutH t)).take k) : Nat)), .i 0, .i 0], upK 1 ((cutH t).length : Int), ⟨0, Nat.zero_le _, by simp [wholeN], by rw [List.take_zero]; rfl⟩, ?_⟩
  rintro x6 x7 x8 x9 x10 x11 ⟨k, hk, hle, hy⟩
  simp only [List.cons.injEq, Vl.i.injEq, and_true] at hy
  obtain ⟨rfl, rfl, rfl, rfl, rfl, rfl⟩ := hy
  refine ⟨fun h0 => ?_, fun h0 => ?_⟩
  · have hk' : k < (cutH t).length := by omega
    obtain ⟨c, hc, hg⟩ := head_at hk'
    have hcd := all_at f1 hc
    have hc2 : 48 ≤ c.toNat ∧ c.toNat ≤ 57 := by simpa [dig] using hcd
    have hN := whole_snoc ((digs (cutH t)).take k) (c.toNat - 48)
    rw [← take_snoc (digs_get hc)] at hN
    have hge := whole_ge (digs (cutH t)) (k + 1)
    generalize hn : wholeN ((digs (cutH t)).take k) = n at *
    refine ⟨_, _, fun w' _ => up3_W (n : Nat) w' (by omega) (by omega), _, _, fun w' _ => twice_W (n : Nat) w' ⟨by omega, by omega⟩, _, _, fun w' _ => plus_W _ _ w' ⟨by omega, by omega⟩, ?_⟩
    rintro _ rfl
    refine ⟨by omega, by omega, ?_⟩
    rw [hg]
    rintro _ rfl _ rfl _ rfl
    rw [rdig hcd]
    refine ⟨_, _, fun w' _ => of_W _ w' (by omega) (by omega), _, _, fun w' _ => plus_W _ _ w' ⟨by omega, by omega⟩, _, _, fun w' _ => of_W 1099511627776 w' (by omega) (by omega), _, fun w' _ => less_W _ _ w', fun hb => ?_, fun hb => ?_⟩
    · have hb' : (1099511627776 : Int) < (n : Int) * 8 + ((n : Int) + (n : Int)) + ((c.toNat - 48 : Nat) : Int) := by simpa using hb
      rw [← hv]
      unfold endT
      rw [if_pos (by omega)]
    · have hb' : ¬ (1099511627776 : Int) < (n : Int) * 8 + ((n : Int) + (n : Int)) + ((c.toNat - 48 : Nat) : Int) := by simpa using hb
      rintro _ rfl
      rw [wrap_up k (by omega)]
      have e : (n : Int) * 8 + ((n : Int) + (n : Int)) + ((c.toNat - 48 : Nat) : Int) = ((wholeN ((digs (cutH t)).take (k + 1)) : Nat) : Int) := by rw [hN]; omega
      rw [e]
      exact ⟨⟨k + 1, by omega, by omega, rfl⟩, by show (((cutH t).length : Int) - ((k + 1 : Nat) : Int)).toNat < (((cutH t).length : Int) - (k : Int)).toNat; omega⟩
  · have e : (digs (cutH t)).take k = digs (cutH t) := List.take_of_length_le (by rw [digs_len]; omega)
    rw [e] at hle
    rw [e]
    rintro _ rfl
    rw [wrap_up _ (by omega)]
    generalize hn : wholeN (digs (cutH t)) = n at *
    have htl := tail_room t
    have hda : (cutT t).all dig = true := by
      by_cases hm : (46 : UInt8) ∈ t
      · exact (f4 hm).1
      · rw [(cut_none hm).2]; rfl
    have hd := digs_bd hda
    have hl : (digs (cutT t)).length ≤ 1000 := by rw [digs_len]; omega
    refine ⟨fun y => ∃ j, j ≤ (cutT t).length ∧ y = [.l (iv (digs ((cutT t).take j))), .i (((cutH t).length + 1 + j : Nat) : Int)], upK 1 ((t.length + 1 : Nat) : Int), ⟨0, Nat.zero_le _, rfl⟩, ?_⟩
    rintro l0 x10 ⟨j, hj, hy⟩
    simp only [List.cons.injEq, Vl.i.injEq, Vl.l.injEq, List.append_nil, and_true] at hy
    obtain ⟨hl0, rfl⟩ := hy
    rintro _ rfl
    refine ⟨fun h1 => ?_, fun h1 => ?_⟩
    · have hj' : j < (cutT t).length := by omega
      obtain ⟨hm, hlen, c, hc, hg⟩ := tail_at hj'
      have hcd := all_at hda hc
      rintro _ rfl
      refine ⟨by omega, by omega, ?_⟩
      rw [hg]
      rintro _ rfl _ rfl _ rfl _ rfl
      have hn1 : l0.length = j := by rw [oi_len hl0, digs_len]; simp; omega
      refine ⟨by rw [hn1]; omega, ?_⟩
      rintro _ rfl
      rw [rdig hcd, hl0, wrap_up _ (by omega), ← iv_snoc hc]
      exact ⟨⟨j + 1, by omega, rfl⟩, by show (((t.length + 1 : Nat) : Int) - (((cutH t).length + 1 + j + 1 : Nat) : Int)).toNat < (((t.length + 1 : Nat) : Int) - (((cutH t).length + 1 + j : Nat) : Int)).toNat; omega⟩
    · have e2 : (cutT t).take j = cutT t := List.take_of_length_le (by omega)
      rw [e2] at hl0
      refine ⟨fun y => ∃ i : Nat, i ≤ 32 ∧ y = [.i (i : Int), .l (iv (dlist i (digs (cutT t)))), .i (hiW (dnum i n (digs (cutT t)) : Nat)), .i (loW (dnum i n (digs (cutT t)) : Nat))], upK 0 32, ⟨0, by decide, by rw [List.append_nil, hl0]; rfl⟩, ?_⟩
      rintro x12 l1 x13 x14 ⟨i, hi, hy⟩
      simp only [List.cons.injEq, Vl.i.injEq, Vl.l.injEq, List.append_nil, and_true] at hy
      obtain ⟨rfl, hl1, rfl, rfl⟩ := hy
      refine ⟨fun h2 => ?_, fun h2 => ?_⟩
      · refine t3r i (by omega) n (by omega) _ hd hl l1 hl1 w _ _ fun xs hxs => ?_
        subst hxs
        exact ⟨⟨i + 1, by omega, rfl⟩, by show ((32 : Int) - ((i + 1 : Nat) : Int)).toNat < ((32 : Int) - (i : Int)).toNat; omega⟩
      · obtain rfl : i = 32 := by omega
        have hb := dnum_bd hd n 32
        have hlen : (dlist 32 (digs (cutT t))).length = (digs (cutT t)).length := dlist_len _ 32
        have hn2 : l1.length = (dlist 32 (digs (cutT t))).length := oi_len hl1
        rw [end_fit] at hv
        have hll := digs_len (cutT t)
        generalize dlist 32 (digs (cutT t)) = r at *
        generalize dnum 32 n (digs (cutT t)) = q at *
        have hq : q ≤ 9444732965739290427392 := by omega
        refine ⟨fun y => ∃ j, j ≤ r.length ∧ y = [.i (j : Int), .i (hiW (upN q (r.take j) : Nat)), .i (loW (upN q (r.take j) : Nat))], upK 0 (r.length : Int), ⟨0, Nat.zero_le _, by rw [List.take_zero]; rfl⟩, ?_⟩
        rintro x15 x16 x17 ⟨j, hj, hy⟩
        simp only [List.cons.injEq, Vl.i.injEq, and_true] at hy
        obtain ⟨rfl, rfl, rfl⟩ := hy
        rw [hn2]
        rintro _ rfl
        refine ⟨fun h3 => ?_, fun h3 => ?_⟩
        · have hj' : j < r.length := by simpa using h3
          obtain ⟨d, hdj⟩ : ∃ d, r[j]? = some d := ⟨_, List.getElem?_eq_getElem hj'⟩
          rintro _ rfl
          refine ⟨by omega, by simpa using hj', (d : Int), ?_, fun hd0 => ?_, fun hd0 => ?_⟩
          · rw [List.append_nil, hl1, Int.toNat_natCast, Nat.mul_one, Nat.add_zero, iv_get, hdj]; rfl
          · refine ⟨_, _, fun w' _ => of_W 1 w' (by omega) (by omega), _, _, fun w' _ => plus_W (q : Nat) 1 w' ⟨by omega, by omega⟩, ?_⟩
            rintro _ rfl
            rw [wrap_up j (by omega)]
            have e5 : ((q : Int) + 1) = ((upN q (r.take (j + 1)) : Nat) : Int) := by
              unfold upN
              rw [some_take hdj, decide_eq_true (show 0 < d by omega), Bool.or_true, if_pos rfl]; omega
            rw [e5]
            exact ⟨⟨j + 1, by omega, rfl⟩, by show ((r.length : Int) - ((j + 1 : Nat) : Int)).toNat < ((r.length : Int) - (j : Int)).toNat; omega⟩
          · rintro _ rfl
            rw [wrap_up j (by omega)]
            have e5 : upN q (r.take j) = upN q (r.take (j + 1)) := by
              unfold upN
              rw [some_take hdj, decide_eq_false (show ¬ 0 < d by omega), Bool.or_false]
            rw [e5]
            exact ⟨⟨j + 1, by omega, rfl⟩, by show ((r.length : Int) - ((j + 1 : Nat) : Int)).toNat < ((r.length : Int) - (j : Int)).toNat; omega⟩
        · have h3' : ¬ j < r.length := by simpa using h3
          rw [List.take_of_length_le (show r.length ≤ j by omega)]
          have hu := up_ge q r
          refine ⟨fun h45 => ?_, fun h45 => ?_⟩
          · rw [if_pos (decide_eq_true h45)] at hv
            exact ⟨_, _, fun w' _ => minus_W _ w' ⟨by omega, by omega⟩ ⟨by omega, by omega⟩, _, _, fun w' _ => minus_W _ w' ⟨by omega, by omega⟩ ⟨by omega, by omega⟩, _, _, _, fun w' _ => out_any _ _ w' ⟨by omega, by omega⟩ ⟨by omega, by omega⟩, hv⟩
          · rw [if_neg (by simpa using h45)] at hv
            exact ⟨_, _, _, fun w' _ => out_any _ _ w' ⟨by omega, by omega⟩ ⟨by omega, by omega⟩, hv⟩
end Go.Proofs.YtcoakpdafpclpaaDoor
