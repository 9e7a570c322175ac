/- Contracts of what Read calls: Cut, CutPrefix, doubled, nonzero. -/
import Derived.Test.YtcoakpdafpclpaaGreatDoorTr
import Derived.Test.YtcoakpdafpclpaaGreatDoorTtC
import Derived.Test.YtcoakpdafpclpaaGreatDoorTtP
set_option linter.unusedVariables false
set_option linter.unusedSimpArgs false
namespace Go.Proofs.YtcoakpdafpclpaaGreatDoor
open Go Go.RowKit Go.Sort Go.Proofs Ul Vc
attribute [local irreducible] Go.Calls
theorem ret_refl {P : Program} {f : FuncId} {a : Array Value} {w : World} {v : Value} (h : Calls P f a w fun e w' => e = .returned v ∧ w' = w) : Calls P f a w (Vc.Ret v w) :=
  h.mono fun e w' ⟨h1, h2⟩ => ⟨h1, by rw [h2]; exact Below.refl _ _⟩
theorem ret_drew {P : Program} {f : FuncId} {a : Array Value} {w : World} {v : Value} (h : Calls P f a w fun e w' => e = .returned v ∧ (w' = w ∨ w' = w.drew)) : Calls P f a w (Vc.Ret v w) :=
  h.mono fun e w' ⟨h1, h2⟩ => ⟨h1, by rcases h2 with rfl | rfl; · exact Below.refl _ _
                                      · exact (Below.refl _ _).drew⟩
theorem split_at {s h t : List UInt8} (e : s = h ++ 46 :: t) : s.take h.length = h ∧ s.drop (h.length + 1) = t := by
  subst e
  refine ⟨List.take_left' rfl, ?_⟩
  rw [List.drop_append, List.drop_eq_nil_of_le (by omega), Nat.add_sub_cancel_left]; rfl
theorem index_c (s : List UInt8) (w : World) : Calls Tryz.prog 92 #[.string ⟨s.toArray⟩, .string ⟨(([46] : List UInt8)).toArray⟩] w (Vc.Ret (.int .i64 (Lib.indexByte s 46)) w) := by
  refine ret_refl ?_
  have := Tryz.stringslite_Index_one ⟨s.toArray⟩ 46 w
  simpa using this
theorem cut_in (s : List UInt8) (hl : s.length ≤ 1000) (w : World) : Calls Tryz.prog 75 #[.string ⟨s.toArray⟩, .string ⟨(([46] : List UInt8)).toArray⟩] w (Vc.Ret (.tuple #[.string ⟨(cutH s).toArray⟩, .string ⟨(cutT s).toArray⟩, .bool (decide ((46 : UInt8) ∈ s))]) w) := by
  refine vc_internal_stringslite_Cut _ _ w _ ?_
  have hi := index_cut s
  refine ⟨Lib.indexByte s 46, fun w' _ => index_c s w', ?_, ?_⟩
  · intro h0
    by_cases hm : (46 : UInt8) ∈ s
    · rw [if_pos hm] at hi
      have hc := cut_some hm
      have hlen := congrArg List.length hc
      simp only [List.length_append, List.length_cons] at hlen
      rw [hi]
      refine ⟨⟨by decide, by omega, by omega⟩, ?_⟩
      rintro _ rfl _ rfl _ rfl _ rfl
      have e1 : IntKind.i64.wrap (((cutH s).length : Int) + (([46] : List UInt8).length : Int)) = (((cutH s).length + 1 : Nat) : Int) := by rw [Vc.i64_id (by simp; omega)]; simp
      rw [e1]
      refine ⟨⟨by omega, by omega, by omega⟩, ?_⟩
      rintro _ rfl
      have e2 : List.take (Int.toNat ((cutH s).length : Int) - Int.toNat 0) (List.drop (Int.toNat 0) s) = cutH s := by
        rw [Int.toNat_natCast]
        show List.take ((cutH s).length - 0) (List.drop 0 s) = _
        rw [Nat.sub_zero, List.drop_zero]
        exact (split_at hc).1
      have e3 : List.take (Int.toNat (s.length : Int) - Int.toNat (((cutH s).length + 1 : Nat) : Int)) (List.drop (Int.toNat (((cutH s).length + 1 : Nat) : Int)) s) = cutT s := by
        rw [Int.toNat_natCast, Int.toNat_natCast]
        have : List.drop ((cutH s).length + 1) s = cutT s := (split_at hc).2
        rw [this, List.take_of_length_le (by omega)]
      rw [e2, e3, decide_eq_true hm]
    · rw [if_neg hm] at hi; omega
  · intro h0
    by_cases hm : (46 : UInt8) ∈ s
    · rw [if_pos hm] at hi; omega
    · obtain ⟨h1, h2⟩ := cut_none hm
      rw [h1, h2, decide_eq_false hm]
theorem cut_c (s : List UInt8) (hl : s.length ≤ 1000) (w : World) : Calls Tryz.prog 59 #[.string ⟨s.toArray⟩, .string ⟨(([46] : List UInt8)).toArray⟩] w (Vc.Ret (.tuple #[.string ⟨(cutH s).toArray⟩, .string ⟨(cutT s).toArray⟩, .bool (decide ((46 : UInt8) ∈ s))]) w) := by
  refine vc_strings_Cut _ _ w _ ?_
  exact ⟨_, _, _, fun w' _ => cut_in s hl w', rfl⟩
theorem prefix_c (s : List UInt8) (w : World) : Calls Tryz.prog 23 #[.string ⟨s.toArray⟩, .string ⟨(([45] : List UInt8)).toArray⟩] w (Vc.Ret (.tuple #[.string ⟨(if s.head? = some 45 then s.tail else s).toArray⟩, .bool (decide (s.head? = some 45))]) w) := by
  refine ret_refl ?_
  have := Tryz.strings_CutPrefix ⟨s.toArray⟩ ⟨(([45] : List UInt8)).toArray⟩ w
  have e : Lib.hasPrefix s [45] = decide (s.head? = some 45) := by
    unfold Lib.hasPrefix
    cases s with
    | nil => rfl
    | cons a r =>
      rw [Bool.eq_iff_iff]
      simp only [List.isPrefixOf, Bool.and_true, beq_iff_eq, List.head?_cons, Option.some.injEq, decide_eq_true_eq]
      exact eq_comm
  have e2 : Lib.trimPrefix s [45] = if s.head? = some 45 then s.tail else s := by
    unfold Lib.trimPrefix
    rw [e]
    by_cases h : s.head? = some 45
    · rw [if_pos (decide_eq_true h), if_pos h]; exact List.drop_one
    · rw [if_neg (by simp [h]), if_neg h]
  rw [← e, ← e2]
  exact this
def bv (l : List Nat) : List Value := l.map fun (d : Nat) => .int .u8 (d : Int)
def ovl (l : List Nat) : List OV := l.map fun (d : Nat) => ⟨.int .u8 (d : Int), rfl⟩
theorem ovl_map (l : List Nat) : (ovl l).map (·.1) = bv l := by simp [ovl, bv]
theorem bv_len (l : List Nat) : (bv l).length = l.length := by simp [bv]
theorem ov_len {L : List OV} {l : List Nat} (h : L.map (·.1) = bv l) : L.length = l.length := by
  have := congrArg List.length h
  simpa [bv] using this
theorem bv_get (l : List Nat) (k : Nat) : (bv l)[k]? = (l[k]?).map fun (d : Nat) => Value.int .u8 (d : Int) := by unfold bv; rw [List.getElem?_map]
theorem u8_id {x : Int} (h : 0 ≤ x ∧ x ≤ 255) : IntKind.u8.wrap x = x := by
  have : ∀ y : Fin 256, IntKind.u8.wrap ((y : Nat) : Int) = ((y : Nat) : Int) := by decide +kernel
  have h2 := this ⟨x.toNat, by omega⟩
  have h3 : ((x.toNat : Nat) : Int) = x := by omega
  rwa [h3] at h2
/-- Doubled from place k on. -/
def part (l : List Nat) (k : Nat) : List Nat := l.take k ++ (dbl (l.drop k)).1
theorem part_step {l : List Nat} {k : Nat} {d : Nat} (h : l[k]? = some d) : part l k = (part l (k + 1)).take k ++ [(2 * d + (dbl (l.drop (k + 1))).2) % 10] ++ (part l (k + 1)).drop (k + 1) ∧ (dbl (l.drop k)).2 = (2 * d + (dbl (l.drop (k + 1))).2) / 10 := by
  have hk : k < l.length := (List.getElem?_eq_some_iff.1 h).1
  have e : l.drop k = d :: l.drop (k + 1) := by
    rw [List.drop_eq_getElem_cons hk]
    rw [(List.getElem?_eq_some_iff.1 h).2]
  have e1 : (part l (k + 1)).take k = l.take k := by
    unfold part
    rw [List.take_append_of_le_length (by simp; omega), List.take_take, Nat.min_eq_left (Nat.le_succ k)]
  have e2 : (part l (k + 1)).drop (k + 1) = (dbl (l.drop (k + 1))).1 := by
    unfold part
    rw [List.drop_append, List.drop_eq_nil_of_le (by simp; omega)]
    have : (l.take (k + 1)).length = k + 1 := by simp; omega
    rw [this, Nat.sub_self]; rfl
  rw [e1, e2]
  constructor
  · unfold part; rw [e]; simp [dbl]
  · rw [e]; rfl
theorem part_get {l : List Nat} {k : Nat} {d : Nat} (h : l[k]? = some d) : (part l (k + 1))[k]? = some d := by
  have hk : k < l.length := (List.getElem?_eq_some_iff.1 h).1
  unfold part
  rw [List.getElem?_append_left (by simp; omega), List.getElem?_take_of_lt (Nat.lt_succ_self k)]
  exact h
theorem part_len (l : List Nat) (k : Nat) (h : k ≤ l.length) : (part l k).length = l.length := by unfold part; simp [dbl_len]; omega
set_option maxHeartbeats 1000000 in
theorem doubled_c (l : List Nat) (hd : D10 l) (hl : l.length ≤ 1000) {own : Nat → Prop} (rb rc rn ro : Nat) (w : World) (hx : Vc.RowOkP own rb rc rn ro (bv l) 1 5 w) :
    Calls Tryz.prog 26 #[Vc.ownV rb rc rn ro] w (Vc.EffRow (.int .u64 ((dbl l).2 : Int)) rb rc rn ro (bv (dbl l).1) 1 5 w) := by
  rw [← ovl_map] at hx
  have hlt : 2 ≤ rc → rb < w.heap.size := fun h2 => by
    rcases hx.2.2 with ⟨h3, _⟩ | ⟨_, _, _, _, _, cur, h3, _⟩
    · omega
    · exact heap_lt h3
  refine vc_span_doubled (ovl l) rb rc rn ro w _ _ hx hlt fun xl => ?_
  rw [ov_len (ovl_map l), ovl_map]
  rintro _ rfl _ rfl
  refine ⟨fun y => ∃ k, k ≤ l.length ∧ y = [.i ((dbl (l.drop k)).2 : Int), .i ((k : Int) - 1), .l (bv (part l k) ++ [])], fun (y : List Vc.Vl) => match y[1]? with | some (Vc.Vl.i x) => (x + 1).toNat | _ => 0, ?_, ?_⟩
  · refine ⟨l.length, Nat.le_refl _, ?_⟩
    have e1 : ((((0 + (l.length + 0)) / 1 : Nat) : Int) - 1) = (l.length : Int) - 1 := by simp
    rw [e1, Vc.i64_id (by omega)]
    simp [part, dbl]
  · rintro x2 x3 l1 ⟨k, hk, hy⟩
    simp only [List.cons.injEq, Vl.i.injEq, Vl.l.injEq, List.append_nil, and_true] at hy
    obtain ⟨rfl, rfl, hl1⟩ := hy
    have hn1 : l1.length = l.length := (ov_len hl1).trans (part_len l k hk)
    refine ⟨fun h0 => ?_, fun h0 => ?_⟩
    · obtain ⟨j, rfl⟩ : ∃ j, k = j + 1 := ⟨k - 1, by omega⟩
      have hj : j < l.length := by omega
      obtain ⟨d, hdj⟩ : ∃ d, l[j]? = some d := ⟨l[j], List.getElem?_eq_getElem hj⟩
      have hd10 := hd d (List.mem_of_getElem? hdj)
      have hc := (dbl_bd (l := l.drop (j + 1)) fun x hx => hd x (List.mem_of_mem_drop hx)).2
      obtain ⟨p1, p2⟩ := part_step hdj
      have ej : (((j + 1 : Nat) : Int) - 1) = (j : Int) := by omega
      have ej2 : (((j + 1 : Nat) : Int) - 1).toNat * 1 + 0 = j := by omega
      rw [hn1]
      rintro _ rfl
      refine ⟨h0, by simp; omega, (d : Int), ?_, ?_⟩
      · rw [hl1, List.append_nil, ej2, bv_get, part_get hdj]; rfl
      · rintro _ rfl _ rfl _ rfl _ rfl _ rfl
        refine ⟨h0, by simp; omega, ?_⟩
        rintro _ rfl
        refine ⟨h0, by simp; omega, ?_⟩
        intro l2 hl2
        rintro _ rfl
        generalize hcc : (dbl (l.drop (j + 1))).2 = c at *
        have a1 : IntKind.u8.wrap (2 * (d : Int)) = 2 * (d : Int) := u8_id (by omega)
        have a2 : IntKind.u8.wrap (2 * (d : Int) + (c : Int)) = ((2 * d + c : Nat) : Int) := by rw [u8_id (by omega)]; omega
        rw [a1, a2]
        have a3 : Int.tmod ((2 * d + c : Nat) : Int) 10 = (((2 * d + c) % 10 : Nat) : Int) := by
          rw [Int.tmod_eq_emod_of_nonneg (by omega)]; omega
        have a4 : Int.tdiv ((2 * d + c : Nat) : Int) 10 = (((2 * d + c) / 10 : Nat) : Int) := by
          rw [Int.tdiv_eq_ediv_of_nonneg (by omega)]; omega
        rw [a1, a2, a3, ej2, hl1, List.append_nil] at hl2
        have e5 : l2.map (·.1) = bv (part l j) := by
          rw [hl2, p1]
          simp [bv, List.map_take, List.map_drop]
        rw [a4, ← p2, u8_id (by rw [p2]; omega), ej, Vc.i64_id (by omega)]
        refine ⟨⟨j, by omega, ?_⟩, ?_⟩
        · rw [e5]
        · show ((j : Int) - 1 + 1).toNat < ((j : Int) + 1).toNat
          omega
    · obtain rfl : k = 0 := by omega
      rintro _ rfl
      have hc := (dbl_bd (l := l.drop 0) fun x hx => hd x (List.mem_of_mem_drop hx)).2
      rw [hl1, u64_id (by omega)]
      simp [part]
theorem nonzero_c (l : List Nat) (hd : D10 l) (hl : l.length ≤ 1000) (v : Value) (w : World) (h : SlAt w v 1 (bv l)) : Calls Tryz.prog 25 #[v] w (Vc.Ret (.bool (someN l)) w) := by
  obtain ⟨b0, p0, x1, rfl, _, _⟩ := sl_form (n := l.length) h (by decide) (by rw [bv_len]; omega)
  refine vc_span_nonzero p0 _ x1 b0 w _ ?_
  refine ⟨ovl l, by rw [ovl_map]; exact h, ?_, ?_⟩
  · rw [ovl_map, List.append_nil]
    intro u hu
    simp only [bv, List.mem_map] at hu
    obtain ⟨d, _, rfl⟩ := hu
    exact ⟨_, rfl⟩
  · rintro s rfl
    rw [ovl_map, List.append_nil]
    have e1 : List.map Vc.byteV (bv l) = l.map fun d => UInt8.ofNat d := by simp [bv, Vc.byteV, Function.comp_def]
    rw [e1]
    refine ⟨Lib.trimB (l.map fun d => UInt8.ofNat d) 0, fun w' _ => ret_drew ?_, ?_⟩
    · have := Tryz.strings_Trim_one ⟨(l.map fun d => UInt8.ofNat d).toArray⟩ 0 (by decide) w' (by show (l.map fun d => UInt8.ofNat d).toArray.size ≤ _; simp; omega)
      simpa using this
    · congr 1
      rw [Bool.eq_iff_iff]
      simp only [Bool.not_eq_true', decide_eq_false_iff_not, trim_nil, someN, List.any_eq_true, decide_eq_true_eq, List.mem_map]
      constructor
      · intro h1
        rcases Classical.em (∃ x, x ∈ l ∧ 0 < x) with h2 | h2
        · exact h2
        · refine (h1 ?_).elim
          rintro b ⟨d, hd', rfl⟩
          have : d = 0 := by
            rcases Nat.eq_zero_or_pos d with h3 | h3
            · exact h3
            · exact (h2 ⟨d, hd', h3⟩).elim
          subst this; rfl
      · rintro ⟨d, hdl, h0⟩ h1
        have h2 := h1 _ ⟨d, hdl, rfl⟩
        have h3 := congrArg UInt8.toNat h2
        have h4 := hd d hdl
        rw [UInt8.toNat_ofNat'] at h3
        have : (0 : UInt8).toNat = 0 := rfl
        omega
end Go.Proofs.YtcoakpdafpclpaaGreatDoor
