/- The program's Read, walked: the digits, and all together (written by program). -/
import Derived.Test.YtcoakpdafpclpaaGreatDoorTs
set_option linter.unusedVariables false
set_option linter.unusedSimpArgs false
namespace Go.Proofs.YtcoakpdafpclpaaGreatDoor
open Go Go.RowKit Go.Sort Go.Proofs Ul Vc
attribute [local irreducible] Go.Calls
theorem form_iff (t : List UInt8) : formOk t = true ↔ (cutH t).all dig = true ∧ 0 < (cutH t).length ∧ ((cutH t).length = 1 ∨ t.getD 0 0 ≠ 48) ∧ ((46 : UInt8) ∈ t → (cutT t).all dig = true ∧ 0 < (cutT t).length) := by
  unfold formOk
  by_cases h : (46 : UInt8) ∈ t
  · rw [if_pos h]
    simp only [Bool.and_eq_true, Bool.or_eq_true, decide_eq_true_eq, h, true_implies, and_assoc]
  · rw [if_neg h]
    simp only [Bool.and_eq_true, Bool.or_eq_true, decide_eq_true_eq, h, false_implies, and_assoc, and_true]
theorem form_no {t : List UInt8} (h : ¬ ((cutH t).all dig = true ∧ 0 < (cutH t).length ∧ ((cutH t).length = 1 ∨ t.getD 0 0 ≠ 48) ∧ ((46 : UInt8) ∈ t → (cutT t).all dig = true ∧ 0 < (cutT t).length))) : formOk t = false := by
  have := mt (form_iff t).1 h
  simpa using this
theorem head_get {t : List UInt8} (h : 0 < (cutH t).length) : (cutH t).getD 0 0 = t.getD 0 0 := by
  by_cases hm : (46 : UInt8) ∈ t
  · have e := cut_some hm
    cases hc : cutH t with
    | nil => rw [hc] at h; cases h
    | cons a r => rw [hc] at e; rw [e]; rfl
  · rw [(cut_none hm).1]
theorem digs_len (l : List UInt8) : (digs l).length = l.length := by simp [digs]
theorem not_dig {S : List UInt8} {k : Nat} {c : UInt8} (h : S[k]? = some c) (hc : dig c = false) : S.all dig = false := by
  rcases hx : S.all dig with _ | _
  · rfl
  · have := List.all_eq_true.1 hx c (List.mem_of_getElem? h)
    rw [hc] at this; cases this
theorem dig_snoc {S : List UInt8} {k : Nat} {c : UInt8} (h : S[k]? = some c) (ha : (S.take k).all dig = true) (hc : dig c = true) : (S.take (k + 1)).all dig = true := by
  rw [take_snoc h, List.all_append, ha]; simp [hc]
theorem row_snoc {S : List UInt8} {k : Nat} {c : UInt8} (h : S[k]? = some c) (hc : dig c = true) : bv (digs (S.take (k + 1))) = bv (digs (S.take k)) ++ [.int .u8 (IntKind.u8.wrap ((c.toNat : Int) - 48))] := by
  have hc2 : 48 ≤ c.toNat ∧ c.toNat ≤ 57 := by simpa [dig] using hc
  rw [take_snoc h, u8_id (by omega)]
  have : ((c.toNat : Int) - 48) = ((c.toNat - 48 : Nat) : Int) := by omega
  rw [this]
  simp [digs, bv]
theorem get_at {S : List UInt8} {k : Nat} (h : k < S.length) : ∃ c, S[k]? = some c ∧ S.getD (Int.toNat (k : Int)) 0 = c := by
  refine ⟨S[k], List.getElem?_eq_getElem h, ?_⟩
  rw [Int.toNat_natCast, List.getD_eq_getElem?_getD, List.getElem?_eq_getElem h]; rfl
theorem digits_loop (S : List UInt8) (hS : S.length ≤ 1000) (v : Value) (K : List OV → Prop) (hbad : S.all dig = false → (.tuple #[.agg #[.int .i64 0, .int .i64 0], .int .i64 5] : Value) = v) (hK : ∀ l1 : List OV, l1.map (·.1) = bv (digs S) → S.all dig = true → K l1) :
  ∃ (Io17 : List Vc.Vl → Prop) (mo17 : List Vc.Vl → Nat), Io17 [.l (([] : List Value)), .i 0] ∧ ∀ (l1 : List Vc.OV) (x8 : Int), Io17 [.l ((l1.map (·.1) ++ (([] : List Value)))), .i x8] → (
  ((x8 < ((S.length : Nat) : Int)) → (
  ∀ x9 : Int, x9 = ((S.length : Nat) : Int) →
  (0 ≤ x8) ∧
  (x8 < x9) ∧
  ∀ x10 : Int, x10 = (((S.getD (Int.toNat x8) 0).toNat : Nat) : Int) →
  ((x10 < 48) → (
  (.tuple #[.agg #[.int .i64 0, .int .i64 0], .int .i64 5] : Value) = v)) ∧ (¬ (x10 < 48) → (
  ∀ x11 : Int, x11 = ((S.length : Nat) : Int) →
  (0 ≤ x8) ∧
  (x8 < x11) ∧
  ∀ x12 : Int, x12 = (((S.getD (Int.toNat x8) 0).toNat : Nat) : Int) →
  ((57 < x12) → (
  (.tuple #[.agg #[.int .i64 0, .int .i64 0], .int .i64 5] : Value) = v)) ∧ (¬ (57 < x12) → (
  ∀ x13 : Int, x13 = ((S.length : Nat) : Int) →
  (0 ≤ x8) ∧
  (x8 < x13) ∧
  ∀ x14 : Int, x14 = (((S.getD (Int.toNat x8) 0).toNat : Nat) : Int) →
  ∀ x15 : Int, x15 = IntKind.u8.wrap (x14 - 48) →
  ∀ x16 : Int, x16 = (((1 + (l1.length + 0)) / 1 : Nat) : Int) →
  (x16 ≤ 1073741824) ∧
  ∀ x17 : Int, x17 = IntKind.i64.wrap (x8 + 1) →
  Io17 [.l ((l1.map (·.1) ++ (([.int .u8 x15] : List Value)))), .i x17] ∧ mo17 [.l ((l1.map (·.1) ++ (([.int .u8 x15] : List Value)))), .i x17] < mo17 [.l ((l1.map (·.1) ++ (([] : List Value)))), .i x8])))))) ∧ (¬ (x8 < ((S.length : Nat) : Int)) → K l1)) := by
  refine ⟨fun y => ∃ k, k ≤ S.length ∧ (S.take k).all dig = true ∧ y = [.l (bv (digs (S.take k))), .i (k : Int)], upK 1 (S.length : Int), ⟨0, Nat.zero_le _, rfl, rfl⟩, ?_⟩
  rintro l1 x8 ⟨k, hk, ha, hy⟩
  simp only [List.cons.injEq, Vl.i.injEq, Vl.l.injEq, List.append_nil, and_true] at hy
  obtain ⟨hl1, rfl⟩ := hy
  refine ⟨fun h0 => ?_, fun h0 => ?_⟩
  · have hk' : k < S.length := by omega
    obtain ⟨c, hc, hg⟩ := get_at hk'
    rw [hg]
    rintro _ rfl
    refine ⟨by omega, h0, ?_⟩
    rintro _ rfl
    refine ⟨fun hb => hbad (not_dig hc (by simp [dig]; omega)), fun hb => ?_⟩
    rintro _ rfl
    refine ⟨by omega, h0, ?_⟩
    rintro _ rfl
    refine ⟨fun hb2 => hbad (not_dig hc (by simp [dig]; omega)), fun hb2 => ?_⟩
    rintro _ rfl
    refine ⟨by omega, h0, ?_⟩
    have hcd : dig c = true := by simp [dig]; omega
    rintro _ rfl _ rfl _ rfl
    have hn1 : l1.length = k := by rw [ov_len hl1, digs_len]; simp; omega
    refine ⟨by rw [hn1]; omega, ?_⟩
    rintro _ rfl
    rw [hl1, wrap_up k (by omega), ← row_snoc hc hcd]
    exact ⟨⟨k + 1, by omega, dig_snoc hc ha hcd, rfl⟩, by show ((S.length : Int) - ((k + 1 : Nat) : Int)).toNat < ((S.length : Int) - (k : Int)).toNat; omega⟩
  · have e : S.take k = S := List.take_of_length_le (by omega)
    rw [e] at ha hl1
    exact hK l1 hl1 ha
theorem whole_pt (h : List Nat) (hdh : D10 h) (hlh : h.length ≤ 1000) (L0 : List OV) (hL0 : L0.map (·.1) = bv h) (l : List Nat) (hd : D10 l) (hl : l.length ≤ 1000) (L1 : List OV) (hL1 : L1.map (·.1) = bv l) (b0 : Bool) (w : World) (v : Value) (hv : Vc.RV (endT b0 (wholeN h) l) = v) : Vj_span_Read_T2 L0 v w L1 b0 := by
  have hn0 : L0.length = h.length := ov_len hL0
  rintro _ rfl
  rw [hn0]
  refine ⟨fun y => ∃ k, k ≤ h.length ∧ wholeN (h.take k) ≤ 2147483647 ∧ y = [.i ((wholeN (h.take k) : Nat) : Int), .i (k : Int)], upK 1 (h.length : Int), ⟨0, Nat.zero_le _, by simp [wholeN], rfl⟩, ?_⟩
  rintro x8 x9 ⟨k, hk, hle, hy⟩
  simp only [List.cons.injEq, Vl.i.injEq, and_true] at hy
  obtain ⟨rfl, rfl⟩ := hy
  refine ⟨fun h0 => ?_, fun h0 => ?_⟩
  · have hk' : k < h.length := by simpa using h0
    obtain ⟨d, hdk⟩ : ∃ d, h[k]? = some d := ⟨_, List.getElem?_eq_getElem hk'⟩
    have hd10 := hdh d (List.mem_of_getElem? hdk)
    rintro _ rfl
    refine ⟨by omega, by simpa using hk', (d : Int), ?_, ?_⟩
    · rw [hL0, List.append_nil, Int.toNat_natCast, Nat.mul_one, Nat.add_zero, bv_get, hdk]; rfl
    · rintro _ rfl _ rfl _ rfl
      have e1 : IntKind.u64.wrap (IntKind.u64.wrap (10 * ((wholeN (h.take k) : Nat) : Int)) + IntKind.u64.wrap (d : Int)) = ((wholeN (h.take (k + 1)) : Nat) : Int) := by
        rw [u64_id (x := (d : Int)) (by omega), u64_id (x := 10 * _) (by omega), u64_id (by omega), take_snoc hdk, whole_snoc]; omega
      rw [e1]
      have hge := whole_ge h (k + 1)
      refine ⟨fun hb => ?_, fun hb => ?_⟩
      · refine tail_pt _ l hd hl L1 hL1 b0 w v ?_ rfl
        rw [← hv]
        unfold endT
        rw [if_pos (by omega), if_pos (by omega)]
      · rintro _ rfl
        rw [wrap_up k (by omega)]
        exact ⟨⟨k + 1, by omega, by omega, rfl⟩, by show ((h.length : Int) - ((k + 1 : Nat) : Int)).toNat < ((h.length : Int) - (k : Int)).toNat; omega⟩
  · have h0' : ¬ k < h.length := by simpa using h0
    have e : h.take k = h := List.take_of_length_le (by omega)
    rw [e]
    exact tail_pt _ l hd hl L1 hL1 b0 w v hv rfl
theorem whole_no (h : List Nat) (hdh : D10 h) (hlh : h.length ≤ 1000) (L0 : List OV) (hL0 : L0.map (·.1) = bv h) (l : List Nat) (hd : D10 l) (hl : l.length ≤ 1000) (hL1 : [] = bv l) (b0 : Bool) (w : World) (v : Value) (hv : Vc.RV (endT b0 (wholeN h) l) = v) : Vj_span_Read_T3 L0 v w b0 := by
  have hn0 : L0.length = h.length := ov_len hL0
  rintro _ rfl
  rw [hn0]
  refine ⟨fun y => ∃ k, k ≤ h.length ∧ wholeN (h.take k) ≤ 2147483647 ∧ y = [.i ((wholeN (h.take k) : Nat) : Int), .i (k : Int)], upK 1 (h.length : Int), ⟨0, Nat.zero_le _, by simp [wholeN], rfl⟩, ?_⟩
  rintro x8 x9 ⟨k, hk, hle, hy⟩
  simp only [List.cons.injEq, Vl.i.injEq, and_true] at hy
  obtain ⟨rfl, rfl⟩ := hy
  refine ⟨fun h0 => ?_, fun h0 => ?_⟩
  · have hk' : k < h.length := by simpa using h0
    obtain ⟨d, hdk⟩ : ∃ d, h[k]? = some d := ⟨_, List.getElem?_eq_getElem hk'⟩
    have hd10 := hdh d (List.mem_of_getElem? hdk)
    rintro _ rfl
    refine ⟨by omega, by simpa using hk', (d : Int), ?_, ?_⟩
    · rw [hL0, List.append_nil, Int.toNat_natCast, Nat.mul_one, Nat.add_zero, bv_get, hdk]; rfl
    · rintro _ rfl _ rfl _ rfl
      have e1 : IntKind.u64.wrap (IntKind.u64.wrap (10 * ((wholeN (h.take k) : Nat) : Int)) + IntKind.u64.wrap (d : Int)) = ((wholeN (h.take (k + 1)) : Nat) : Int) := by
        rw [u64_id (x := (d : Int)) (by omega), u64_id (x := 10 * _) (by omega), u64_id (by omega), take_snoc hdk, whole_snoc]; omega
      rw [e1]
      have hge := whole_ge h (k + 1)
      refine ⟨fun hb => ?_, fun hb => ?_⟩
      · refine tail_no _ l hd hl hL1 b0 w v ?_ rfl
        rw [← hv]
        unfold endT
        rw [if_pos (by omega), if_pos (by omega)]
      · rintro _ rfl
        rw [wrap_up k (by omega)]
        exact ⟨⟨k + 1, by omega, by omega, rfl⟩, by show ((h.length : Int) - ((k + 1 : Nat) : Int)).toNat < ((h.length : Int) - (k : Int)).toNat; omega⟩
  · have h0' : ¬ k < h.length := by simpa using h0
    have e : h.take k = h := List.take_of_length_le (by omega)
    rw [e]
    exact tail_no _ l hd hl hL1 b0 w v hv rfl
theorem row_dig {S : List UInt8} {L : List OV} {lo b1 b2 b3 b4 : Nat} {w : World} (hL : L.map (·.1) = bv (digs S)) (h : RowOk lo b1 b2 b3 b4 (L.map (·.1) ++ []) 1 5 w) : SlAt w (ownV b1 b2 b3 b4) 1 (bv (digs S)) := by
  have := own_sl h
  rwa [List.append_nil, hL] at this
set_option maxHeartbeats 1000000 in
theorem behind (t : List UInt8) (ht : t.length ≤ 1000) (L0 : List OV) (hL0 : L0.map (·.1) = bv (digs (cutH t))) (b0 : Bool) (w : World) (v : Value) (hv : Vc.RV (readT b0 t) = v) (h1 : (cutH t).all dig = true) (h2 : 0 < (cutH t).length) (h3 : (cutH t).length = 1 ∨ t.getD 0 0 ≠ 48) (x3 : Int) (hx3 : 0 < x3) :
    Vj_span_Read_T1 (decide ((46 : UInt8) ∈ t)) (cutT t) v b0 w L0 x3 := by
  obtain ⟨c1, c2⟩ := cut_len t
  have hdh := digs_bd h1
  have hlh : (digs (cutH t)).length ≤ 1000 := by rw [digs_len]; omega
  have bad : formOk t = false → (.tuple #[.agg #[.int .i64 0, .int .i64 0], .int .i64 5] : Value) = v := fun h => by rw [← hv, readT_bad h]
  have none : b0 = true → someT t = false → (.tuple #[.agg #[.int .i64 0, .int .i64 0], .int .i64 5] : Value) = v := fun h h' => by rw [← hv, h, readT_none h']
  refine ⟨fun hm => ?_, fun hm => ?_⟩
  · have hm' : (46 : UInt8) ∈ t := by simpa using hm
    rintro _ rfl
    refine digits_loop (cutT t) (by omega) v _ (fun hb => bad (form_no fun h => ?_)) (fun l1 hl1 hda => ?_)
    · have := (h.2.2.2 hm').1; rw [hb] at this; cases this
    · have hn1 : l1.length = (cutT t).length := by rw [ov_len hl1, digs_len]
      rintro _ rfl
      rw [hn1]
      refine ⟨fun h0 => ?_, fun h0 => bad (form_no fun h => by have h9 := (h.2.2.2 hm').2; omega)⟩
      have hok : formOk t = true := (form_iff t).2 ⟨h1, h2, h3, fun _ => ⟨hda, by simp at h0; omega⟩⟩
      have hd := digs_bd hda
      have hl : (digs (cutT t)).length ≤ 1000 := by rw [digs_len]; omega
      have go : (b0 = true → someT t = true) → Vj_span_Read_T2 L0 v w l1 b0 := fun hs => whole_pt _ hdh hlh L0 hL0 _ hd hl l1 hl1 b0 w v (by rw [← hv, readT_end hok hs])
      refine ⟨fun hb => ?_, fun hb => go fun h => (hb h).elim⟩
      refine ⟨someN (digs (cutH t)), fun β w' _ hm => nonzero_c _ hdh hlh _ w' (row_dig hL0 hm.1), fun hs => go fun _ => by unfold someT; rw [hs]; rfl, fun hs => ?_⟩
      refine ⟨someN (digs (cutT t)), fun β w' _ hm => nonzero_c _ hd hl _ w' (row_dig hl1 hm.1), fun hs2 => go fun _ => by unfold someT; rw [hs2, Bool.or_true], fun hs2 => none hb ?_⟩
      unfold someT
      simp only [Bool.not_eq_true] at hs hs2
      rw [hs, hs2]; rfl
  · have hm' : ¬ (46 : UInt8) ∈ t := by simpa using hm
    obtain ⟨n1, n2⟩ := cut_none hm'
    refine ⟨fun h0 => ?_, fun h0 => (h0 hx3).elim⟩
    have hok : formOk t = true := (form_iff t).2 ⟨h1, h2, h3, fun h => (hm' h).elim⟩
    have e0 : digs (cutT t) = [] := by rw [n2]; rfl
    have hd : D10 (digs (cutT t)) := by rw [e0]; exact fun _ h => (List.not_mem_nil h).elim
    have go : (b0 = true → someT t = true) → Vj_span_Read_T3 L0 v w b0 := fun hs => whole_no _ hdh hlh L0 hL0 (digs (cutT t)) hd (by rw [e0]; decide) (by rw [e0]; rfl) b0 w v (by rw [← hv, readT_end hok hs])
    refine ⟨fun hb => ?_, fun hb => go fun h => (hb h).elim⟩
    refine ⟨someN (digs (cutH t)), fun β w' _ hm => nonzero_c _ hdh hlh _ w' (row_dig hL0 hm.1), fun hs => go fun _ => by unfold someT; rw [hs]; rfl, fun hs => ?_⟩
    refine ⟨someN (digs (cutT t)), fun β w' _ hm => nonzero_c _ hd (by rw [e0]; decide) _ w' (by have := own_sl hm.1; rw [e0]; exact this), fun hs2 => go fun _ => by unfold someT; rw [hs2, Bool.or_true], fun hs2 => none hb ?_⟩
    unfold someT
    simp only [Bool.not_eq_true] at hs hs2
    rw [hs, hs2]; rfl
set_option maxHeartbeats 1000000 in
/-- span.Read: what readV says. -/
theorem read_c (s : List UInt8) (hs : s.length < 4611686018427387904) (w : World) : Calls Tryz.prog 5 #[.string ⟨s.toArray⟩] w (Vc.Ret (Vc.RV (readV s)) w) := by
  refine vc_span_Read s w _ ?_
  rintro _ rfl
  refine ⟨fun h0 => ?_, fun h0 => ?_⟩
  · unfold readV; rw [if_pos (by omega)]
  have hle : s.length ≤ 80 := by omega
  refine ⟨_, _, fun w' _ => prefix_c s w', ?_⟩
  obtain ⟨t, ht⟩ : ∃ t, t = if s.head? = some 45 then s.tail else s := ⟨_, rfl⟩
  obtain ⟨b0, hb0⟩ : ∃ b0, b0 = decide (s.head? = some 45) := ⟨_, rfl⟩
  rw [← ht, ← hb0]
  have htl : t.length ≤ 80 := by
    rw [ht]; split
    · simp; omega
    · exact hle
  have hv : Vc.RV (readT b0 t) = Vc.RV (readV s) := by
    unfold readV
    rw [if_neg (by omega)]
    by_cases h : s.head? = some 45
    · rw [hb0, ht, decide_eq_true h, if_pos h, if_pos h]
    · rw [hb0, ht, decide_eq_false h, if_neg h, if_neg h]
  generalize Vc.RV (readV s) = v at hv
  clear h0 hle hs hb0 ht
  have bad : formOk t = false → (.tuple #[.agg #[.int .i64 0, .int .i64 0], .int .i64 5] : Value) = v := fun h => by rw [← hv, readT_bad h]
  obtain ⟨c1, c2⟩ := cut_len t
  refine ⟨_, _, _, fun w' _ => cut_c t (by omega) w', ?_⟩
  rintro _ rfl
  refine digits_loop (cutH t) (by omega) v _ (fun hb => bad (form_no fun h => ?_)) (fun l1 hl1 hda => ?_)
  · have := h.1; rw [hb] at this; cases this
  have hn1 : l1.length = (cutH t).length := by rw [ov_len hl1, digs_len]
  rintro _ rfl
  rw [hn1]
  refine ⟨fun h0 => ?_, fun h0 => bad (form_no fun h => by have h9 := h.2.1; omega)⟩
  have h2 : 0 < (cutH t).length := by simpa using h0
  have hg := head_get h2
  rintro _ rfl
  refine ⟨fun h1 => ?_, fun h1 => ?_⟩
  · rintro _ rfl
    refine ⟨by omega, ?_⟩
    rintro _ rfl
    refine ⟨fun h48 => bad (form_no fun h => ?_), fun h48 => ?_⟩
    · rcases h.2.2.1 with h5 | h5
      · omega
      · refine h5 ?_
        rw [← hg]
        have e : ((cutH t).getD (Int.toNat 0) 0) = (cutH t).getD 0 0 := rfl
        rw [e] at h48
        exact UInt8.toNat_inj.1 (by show _ = 48; omega)
    · refine behind t (by omega) l1 hl1 b0 w v hv hda h2 (.inr fun h5 => h48 ?_) _ h0
      have e : ((cutH t).getD (Int.toNat 0) 0) = (cutH t).getD 0 0 := rfl
      rw [e, hg, h5]; rfl
  · exact behind t (by omega) l1 hl1 b0 w v hv hda h2 (.inl (by omega)) _ h0
end Go.Proofs.YtcoakpdafpclpaaGreatDoor
