/- VehicleShows, walked: the text of a quantity. -/
import Derived.Test.YtogfcodccbcncaaGreatDoorGq
import Derived.Test.YtogfcodccbcncaaGreatDoorQa
import Derived.Test.YtogfcodccbcncaaGreatDoorShI
import Derived.Test.YtogfcodccbcncaaGreatDoorAwv
import Derived.Lib.ItoaLen
import Derived.Lib.AppendIntMem
set_option linter.unusedVariables false
set_option linter.unusedSimpArgs false
namespace Go.Proofs.YtogfcodccbcncaaGreatDoor
open Go Go.RowKit Vc
attribute [local irreducible] Go.Calls
theorem tab_is {w : World} (h : Vg_15 w) : Lib.TabIs Tryz.prog w "internal/strconv.uint64pow10" .u64 Lib.pow10Tab := by
  obtain ⟨ty, mk, hh⟩ := h
  have hg : Tryz.prog.globalNamed "internal/strconv.uint64pow10" = some 15 := by kernel_rfl
  unfold Lib.TabIs World.var?
  rw [hg]
  simp only [Option.bind_some]
  rw [hh]
  exact congrArg some (by kernel_rfl)
/-- A function that writes a number in decimal digits. -/
abbrev NumIs (f : Nat) (w : World) : Prop := ∀ n : Int, -9223372036854775808 ≤ n → n ≤ 9223372036854775807 → ∀ w' : World, Below w.heap.size w w' → Calls Tryz.prog f #[.int .i64 n] w' (Vc.Ret (.string ⟨(Lib.itoa n).toArray⟩) w')
theorem pnum_any {w : World} (hV : Vg_15 w) : NumIs 78 w := by
  intro n h0 h1 w' hb
  refine (Tryz.strconv_Itoa n h0 h1 w' (tab_is (keep_g hV hb))).mono ?_
  rintro e w2 ⟨rfl, k, os, rfl⟩
  exact ⟨rfl, Lib.below_grow _ w' (Nat.le_refl _) k os⟩
theorem len_itoa {n : Int} (h0 : -9223372036854775808 ≤ n) (h1 : n ≤ 9223372036854775807) : (Lib.itoa n).length ≤ 21 := Lib.itoa_length_le n h0 h1
theorem dec_small {m : Nat} (h : m < 10) : Lib.decDigits m = [UInt8.ofNat (48 + m)] := by rw [Lib.decDigits, dif_pos h]
theorem dec_big {m : Nat} (h : ¬ m < 10) : Lib.decDigits m = Lib.decDigits (m / 10) ++ [UInt8.ofNat (48 + m % 10)] := by rw [Lib.decDigits, dif_neg h]
def InvN (n : Int) (l : List Vc.Vl) : Prop := ∃ (s0 : List UInt8) (x : Int), l = [.s s0, .i x, .s []] ∧ -9223372036854775808 ≤ x ∧ x ≤ 9223372036854775807 ∧ Lib.decDigits n.natAbs = Lib.decDigits x.natAbs ++ s0
def msN (l : List Vc.Vl) : Nat := match l with
  | [.s _, .i x, .s _] => x.natAbs
  | _ => 0
theorem digit_is {x : Int} (h0 : -9223372036854775808 ≤ x) (h1 : x ≤ 9223372036854775807) : IntKind.u8.wrap (IntKind.i64.wrap (48 + (if IntKind.i64.wrap (0 - x.tmod 10) > x.tmod 10 then IntKind.i64.wrap (0 - x.tmod 10) else x.tmod 10))) = ((48 + x.natAbs % 10 : Nat) : Int) := by
  have h2 : (x.tmod 10).natAbs = x.natAbs % 10 := Int.natAbs_tmod x 10
  have h3 : x.natAbs % 10 < 10 := Nat.mod_lt _ (by decide)
  have hw : IntKind.i64.wrap (0 - x.tmod 10) = -(x.tmod 10) := by rw [i64_id (by omega)]; omega
  rw [hw]
  have e : (if -(x.tmod 10) > x.tmod 10 then -(x.tmod 10) else x.tmod 10) = ((x.natAbs % 10 : Nat) : Int) := by split <;> omega
  rw [e, i64_id (by omega), IntKind.wrap_u8]
  omega
theorem itoa_neg {n : Int} {l : List UInt8} (hn : n < 0) (h : Lib.decDigits n.natAbs = l) : [45] ++ l = Lib.itoa n := by
  unfold Lib.itoa; rw [if_pos hn, h]; rfl
theorem itoa_pos {n : Int} {l : List UInt8} (hn : ¬ n < 0) (h : Lib.decDigits n.natAbs = l) : [] ++ l = Lib.itoa n := by
  unfold Lib.itoa; rw [if_neg hn, show n.toNat = n.natAbs by omega, h]; rfl
theorem rnum_any {w : World} : NumIs 79 w := by
  intro n h0 h1 w' hb
  refine vc_ullageref02_Number n w' _ (iteI (fun hn => ⟨InvN n, msN, ⟨[], n, rfl, h0, h1, by rw [List.append_nil]⟩, ?_⟩) (fun hn => ⟨InvN n, msN, ⟨[], n, rfl, h0, h1, by rw [List.append_nil]⟩, ?_⟩))
  · rintro s0 x1 s1 ⟨t0, y, hxy, hb0, hb1, hd⟩
    simp only [List.cons.injEq, Vc.Vl.s.injEq, Vc.Vl.i.injEq, and_true] at hxy
    obtain ⟨rfl, rfl, rfl⟩ := hxy
    rintro x2 rfl x3 rfl x4 rfl x5 rfl x6 rfl x7 hx7
    rw [digit_is hb0 hb1] at hx7
    subst hx7
    refine ⟨fun v hv => ⟨_, by simpa using hv⟩, ?_⟩
    rintro s2 hs2
    have hs2 : s2 = [UInt8.ofNat (48 + x1.natAbs % 10)] := hs2
    subst hs2
    have hlen : (Lib.decDigits n.natAbs).length ≤ 20 := by rw [Lib.decDigits_length]; exact Lib.nDigits_le20 _ (by omega)
    rw [hd, List.length_append] at hlen
    refine ⟨by simp; omega, ?_⟩
    rintro s3 rfl x8 hx8
    have h8 : (x1.tdiv 10).natAbs = x1.natAbs / 10 := Int.natAbs_tdiv x1 10
    rw [i64_id (by omega)] at hx8
    rw [← hx8] at h8
    refine iteI (fun h => ?_) (fun h => ?_)
    · have hs : x1.natAbs < 10 := by omega
      refine ⟨by simp; omega, ?_⟩
      rintro s4 rfl
      rw [dec_small hs] at hd
      have hm : x1.natAbs % 10 = x1.natAbs := Nat.mod_eq_of_lt hs
      rw [hm]
      exact congrArg (fun l : List UInt8 => Value.string ⟨l.toArray⟩) (itoa_neg hn hd)
    · have hs : ¬ x1.natAbs < 10 := by omega
      refine ⟨⟨_, _, rfl, by omega, by omega, ?_⟩, ?_⟩
      · rw [hd, dec_big hs, h8, List.append_assoc]
      · simp only [msN]; omega
  · rintro s0 x1 s1 ⟨t0, y, hxy, hb0, hb1, hd⟩
    simp only [List.cons.injEq, Vc.Vl.s.injEq, Vc.Vl.i.injEq, and_true] at hxy
    obtain ⟨rfl, rfl, rfl⟩ := hxy
    rintro x2 rfl x3 rfl x4 rfl x5 rfl x6 rfl x7 hx7
    rw [digit_is hb0 hb1] at hx7
    subst hx7
    refine ⟨fun v hv => ⟨_, by simpa using hv⟩, ?_⟩
    rintro s2 hs2
    have hs2 : s2 = [UInt8.ofNat (48 + x1.natAbs % 10)] := hs2
    subst hs2
    have hlen : (Lib.decDigits n.natAbs).length ≤ 20 := by rw [Lib.decDigits_length]; exact Lib.nDigits_le20 _ (by omega)
    rw [hd, List.length_append] at hlen
    refine ⟨by simp; omega, ?_⟩
    rintro s3 rfl x8 hx8
    have h8 : (x1.tdiv 10).natAbs = x1.natAbs / 10 := Int.natAbs_tdiv x1 10
    rw [i64_id (by omega)] at hx8
    rw [← hx8] at h8
    refine iteI (fun h => ?_) (fun h => ?_)
    · have hs : x1.natAbs < 10 := by omega
      refine ⟨by simp; omega, ?_⟩
      rintro s4 rfl
      rw [dec_small hs] at hd
      have hm : x1.natAbs % 10 = x1.natAbs := Nat.mod_eq_of_lt hs
      rw [hm]
      exact congrArg (fun l : List UInt8 => Value.string ⟨l.toArray⟩) (itoa_pos hn hd)
    · have hs : ¬ x1.natAbs < 10 := by omega
      refine ⟨⟨_, _, rfl, by omega, by omega, ?_⟩, ?_⟩
      · rw [hd, dec_big hs, h8, List.append_assoc]
      · simp only [msN]; omega
/-- A unit with an exponent. -/
def pwT (name : List UInt8) (n : Int) : List UInt8 := if n = 0 then [] else if n = 1 then 32 :: name else 32 :: name ++ [94] ++ Lib.itoa n
theorem pwT_0 {name : List UInt8} : pwT name 0 = [] := rfl
theorem pwT_n {name : List UInt8} {n : Int} (h0 : n ≠ 0) (h1 : n ≠ 1) : pwT name n = (32 :: name ++ [94]) ++ Lib.itoa n := by unfold pwT; rw [if_neg h0, if_neg h1]
/-- A quantity's text. -/
def showT (n d k s t : Int) : List UInt8 := if ckQ n d k s t = true then Lib.itoa n ++ (if d = 1 then [] else 47 :: Lib.itoa d) ++ pwT [107, 109] k ++ pwT [115] s ++ pwT [116] t else []
theorem show_one {n d k s t : Int} (hc : ckQ n d k s t = true) (h : d = 1) : Lib.itoa n ++ pwT [107, 109] k ++ pwT [115] s ++ pwT [116] t = showT n d k s t := by
  unfold showT; rw [if_pos hc, if_pos h, List.append_nil]
theorem show_den {n d k s t : Int} (hc : ckQ n d k s t = true) (h : ¬ d = 1) : Lib.itoa n ++ (47 :: Lib.itoa d) ++ pwT [107, 109] k ++ pwT [115] s ++ pwT [116] t = showT n d k s t := by
  unfold showT; rw [if_pos hc, if_neg h]
theorem p_t5 {x4 : Int} {s r : List UInt8} {w : World} (hI : NumIs 78 w) (hl : s.length ≤ 500) (h9 : -9 ≤ x4 ∧ x4 ≤ 9) (h0 : x4 ≠ 0) (hr : s ++ pwT [116] x4 = r) : Vj_vehicle_Show_T5 x4 s (.string ⟨r.toArray⟩) w := by
  unfold Vj_vehicle_Show_T5
  refine iteI (fun h1 => ⟨by simp; omega, ?_⟩) (fun h1 => ⟨Lib.itoa x4, fun w' hb => hI x4 (by omega) (by omega) w' hb, by have := len_itoa (n := x4) (by omega) (by omega); simp; omega, ?_⟩)
  · rintro s3 rfl
    rw [← hr, h1]; rfl
  · rintro s4 rfl
    refine ⟨by have := len_itoa (n := x4) (by omega) (by omega); simp; omega, ?_⟩
    rintro s5 rfl
    rw [← hr, pwT_n h0 h1]; rfl
theorem p_z4 {x4 : Int} {s r : List UInt8} {w : World} (hI : NumIs 78 w) (hl : s.length ≤ 500) (h9 : -9 ≤ x4 ∧ x4 ≤ 9) (hr : s ++ pwT [116] x4 = r) : ((x4 = 0) → (.string ⟨s.toArray⟩ : Value) = .string ⟨r.toArray⟩) ∧ (¬ (x4 = 0) → Vj_vehicle_Show_T5 x4 s (.string ⟨r.toArray⟩) w) :=
  iteI (fun h0 => by rw [← hr, h0, pwT_0, List.append_nil]) (fun h0 => p_t5 hI hl h9 h0 hr)
theorem p_t4 {x4 : Int} {s r : List UInt8} {w : World} (hI : NumIs 78 w) (hl : s.length ≤ 500) (h9 : -9 ≤ x4 ∧ x4 ≤ 9) (hr : s ++ pwT [116] x4 = r) : Vj_vehicle_Show_T4 x4 s (.string ⟨r.toArray⟩) w := by
  unfold Vj_vehicle_Show_T4
  exact p_z4 hI hl h9 hr
theorem p_t3 {x3 x4 : Int} {s r : List UInt8} {w : World} (hI : NumIs 78 w) (hl : s.length ≤ 400) (h9 : -9 ≤ x3 ∧ x3 ≤ 9) (h9' : -9 ≤ x4 ∧ x4 ≤ 9) (h0 : x3 ≠ 0) (hr : s ++ pwT [115] x3 ++ pwT [116] x4 = r) : Vj_vehicle_Show_T3 x3 s x4 (.string ⟨r.toArray⟩) w := by
  unfold Vj_vehicle_Show_T3
  refine iteI (fun h1 => ⟨by simp; omega, ?_⟩) (fun h1 => ⟨Lib.itoa x3, fun w' hb => hI x3 (by omega) (by omega) w' hb, by have := len_itoa (n := x3) (by omega) (by omega); simp; omega, ?_⟩)
  · rintro s3 rfl
    rw [h1] at hr
    exact p_z4 hI (by simp; omega) h9' hr
  · rintro s4 rfl
    have := len_itoa (n := x3) (by omega) (by omega)
    refine ⟨by simp; omega, ?_⟩
    rintro s5 rfl
    rw [pwT_n h0 h1] at hr
    exact p_z4 hI (by simp; omega) h9' hr
theorem p_z3 {x3 x4 : Int} {s r : List UInt8} {w : World} (hI : NumIs 78 w) (hl : s.length ≤ 400) (h9 : -9 ≤ x3 ∧ x3 ≤ 9) (h9' : -9 ≤ x4 ∧ x4 ≤ 9) (hr : s ++ pwT [115] x3 ++ pwT [116] x4 = r) : ((x3 = 0) → Vj_vehicle_Show_T4 x4 s (.string ⟨r.toArray⟩) w) ∧ (¬ (x3 = 0) → Vj_vehicle_Show_T3 x3 s x4 (.string ⟨r.toArray⟩) w) :=
  iteI (fun h0 => p_t4 hI (by omega) h9' (by rw [← hr, h0, pwT_0, List.append_nil])) (fun h0 => p_t3 hI hl h9 h9' h0 hr)
theorem p_t2 {x3 x4 : Int} {s r : List UInt8} {w : World} (hI : NumIs 78 w) (hl : s.length ≤ 400) (h9 : -9 ≤ x3 ∧ x3 ≤ 9) (h9' : -9 ≤ x4 ∧ x4 ≤ 9) (hr : s ++ pwT [115] x3 ++ pwT [116] x4 = r) : Vj_vehicle_Show_T2 x3 x4 s (.string ⟨r.toArray⟩) w := by
  unfold Vj_vehicle_Show_T2
  exact p_z3 hI hl h9 h9' hr
theorem p_t1 {x2 x3 x4 : Int} {s r : List UInt8} {w : World} (hI : NumIs 78 w) (hl : s.length ≤ 300) (h9 : -9 ≤ x2 ∧ x2 ≤ 9) (h9' : -9 ≤ x3 ∧ x3 ≤ 9) (h9'' : -9 ≤ x4 ∧ x4 ≤ 9) (h0 : x2 ≠ 0) (hr : s ++ pwT [107, 109] x2 ++ pwT [115] x3 ++ pwT [116] x4 = r) : Vj_vehicle_Show_T1 x2 s x3 x4 (.string ⟨r.toArray⟩) w := by
  unfold Vj_vehicle_Show_T1
  refine iteI (fun h1 => ⟨by simp; omega, ?_⟩) (fun h1 => ⟨Lib.itoa x2, fun w' hb => hI x2 (by omega) (by omega) w' hb, by have := len_itoa (n := x2) (by omega) (by omega); simp; omega, ?_⟩)
  · rintro s3 rfl
    rw [h1] at hr
    exact p_z3 hI (by simp; omega) h9' h9'' hr
  · rintro s4 rfl
    have := len_itoa (n := x2) (by omega) (by omega)
    refine ⟨by simp; omega, ?_⟩
    rintro s5 rfl
    rw [pwT_n h0 h1] at hr
    exact p_z3 hI (by simp; omega) h9' h9'' hr
theorem p_z1 {x2 x3 x4 : Int} {s r : List UInt8} {w : World} (hI : NumIs 78 w) (hl : s.length ≤ 300) (h9 : -9 ≤ x2 ∧ x2 ≤ 9) (h9' : -9 ≤ x3 ∧ x3 ≤ 9) (h9'' : -9 ≤ x4 ∧ x4 ≤ 9) (hr : s ++ pwT [107, 109] x2 ++ pwT [115] x3 ++ pwT [116] x4 = r) : ((x2 = 0) → Vj_vehicle_Show_T2 x3 x4 s (.string ⟨r.toArray⟩) w) ∧ (¬ (x2 = 0) → Vj_vehicle_Show_T1 x2 s x3 x4 (.string ⟨r.toArray⟩) w) :=
  iteI (fun h0 => p_t2 hI (by omega) h9' h9'' (by rw [← hr, h0, pwT_0, List.append_nil])) (fun h0 => p_t1 hI hl h9 h9' h9'' h0 hr)
theorem r_t6 {s : List UInt8} {r : List UInt8} (hl : s.length ≤ 1000) (hr : s = r) : Vj_ullageref02_Show_T6 s (.string ⟨r.toArray⟩) := by
  unfold Vj_ullageref02_Show_T6
  refine ⟨by rw [List.length_nil]; omega, ?_⟩
  rintro s3 rfl
  rw [List.append_nil, hr]
theorem r_t5 {x4 : Int} {s r : List UInt8} {w : World} (hI : NumIs 79 w) (hl : s.length ≤ 500) (h9 : -9 ≤ x4 ∧ x4 ≤ 9) (h0 : x4 ≠ 0) (hr : s ++ pwT [116] x4 = r) : Vj_ullageref02_Show_T5 x4 s (.string ⟨r.toArray⟩) w := by
  unfold Vj_ullageref02_Show_T5
  refine iteI (fun h1 => ⟨by simp; omega, ?_⟩) (fun h1 => ⟨Lib.itoa x4, fun w' hb => hI x4 (by omega) (by omega) w' hb, by have := len_itoa (n := x4) (by omega) (by omega); simp; omega, ?_⟩)
  · rintro s3 rfl
    rw [← hr, h1]; rfl
  · rintro s4 rfl
    refine ⟨by have := len_itoa (n := x4) (by omega) (by omega); simp; omega, ?_⟩
    rintro s5 rfl
    rw [← hr, pwT_n h0 h1]; rfl
theorem r_z4 {x4 : Int} {s r : List UInt8} {w : World} (hI : NumIs 79 w) (hl : s.length ≤ 500) (h9 : -9 ≤ x4 ∧ x4 ≤ 9) (hr : s ++ pwT [116] x4 = r) : ((x4 = 0) → Vj_ullageref02_Show_T6 s (.string ⟨r.toArray⟩)) ∧ (¬ (x4 = 0) → Vj_ullageref02_Show_T5 x4 s (.string ⟨r.toArray⟩) w) :=
  iteI (fun h0 => r_t6 (by omega) (by rw [← hr, h0, pwT_0, List.append_nil])) (fun h0 => r_t5 hI hl h9 h0 hr)
theorem r_t4 {x4 : Int} {s r : List UInt8} {w : World} (hI : NumIs 79 w) (hl : s.length ≤ 500) (h9 : -9 ≤ x4 ∧ x4 ≤ 9) (hr : s ++ pwT [116] x4 = r) : Vj_ullageref02_Show_T4 s x4 (.string ⟨r.toArray⟩) w := by
  unfold Vj_ullageref02_Show_T4
  refine ⟨by rw [List.length_nil]; omega, ?_⟩
  rintro s2 rfl
  rw [List.append_nil]
  exact r_z4 hI hl h9 hr
theorem r_t3 {x3 x4 : Int} {s r : List UInt8} {w : World} (hI : NumIs 79 w) (hl : s.length ≤ 400) (h9 : -9 ≤ x3 ∧ x3 ≤ 9) (h9' : -9 ≤ x4 ∧ x4 ≤ 9) (h0 : x3 ≠ 0) (hr : s ++ pwT [115] x3 ++ pwT [116] x4 = r) : Vj_ullageref02_Show_T3 x3 s x4 (.string ⟨r.toArray⟩) w := by
  unfold Vj_ullageref02_Show_T3
  refine iteI (fun h1 => ⟨by simp; omega, ?_⟩) (fun h1 => ⟨Lib.itoa x3, fun w' hb => hI x3 (by omega) (by omega) w' hb, by have := len_itoa (n := x3) (by omega) (by omega); simp; omega, ?_⟩)
  · rintro s3 rfl
    rw [h1] at hr
    exact r_z4 hI (by simp; omega) h9' hr
  · rintro s4 rfl
    have := len_itoa (n := x3) (by omega) (by omega)
    refine ⟨by simp; omega, ?_⟩
    rintro s5 rfl
    rw [pwT_n h0 h1] at hr
    exact r_z4 hI (by simp; omega) h9' hr
theorem r_z3 {x3 x4 : Int} {s r : List UInt8} {w : World} (hI : NumIs 79 w) (hl : s.length ≤ 400) (h9 : -9 ≤ x3 ∧ x3 ≤ 9) (h9' : -9 ≤ x4 ∧ x4 ≤ 9) (hr : s ++ pwT [115] x3 ++ pwT [116] x4 = r) : ((x3 = 0) → Vj_ullageref02_Show_T4 s x4 (.string ⟨r.toArray⟩) w) ∧ (¬ (x3 = 0) → Vj_ullageref02_Show_T3 x3 s x4 (.string ⟨r.toArray⟩) w) :=
  iteI (fun h0 => r_t4 hI (by omega) h9' (by rw [← hr, h0, pwT_0, List.append_nil])) (fun h0 => r_t3 hI hl h9 h9' h0 hr)
theorem r_t2 {x3 x4 : Int} {s r : List UInt8} {w : World} (hI : NumIs 79 w) (hl : s.length ≤ 400) (h9 : -9 ≤ x3 ∧ x3 ≤ 9) (h9' : -9 ≤ x4 ∧ x4 ≤ 9) (hr : s ++ pwT [115] x3 ++ pwT [116] x4 = r) : Vj_ullageref02_Show_T2 s x3 x4 (.string ⟨r.toArray⟩) w := by
  unfold Vj_ullageref02_Show_T2
  refine ⟨by rw [List.length_nil]; omega, ?_⟩
  rintro s2 rfl
  rw [List.append_nil]
  exact r_z3 hI hl h9 h9' hr
theorem r_t1 {x2 x3 x4 : Int} {s r : List UInt8} {w : World} (hI : NumIs 79 w) (hl : s.length ≤ 300) (h9 : -9 ≤ x2 ∧ x2 ≤ 9) (h9' : -9 ≤ x3 ∧ x3 ≤ 9) (h9'' : -9 ≤ x4 ∧ x4 ≤ 9) (h0 : x2 ≠ 0) (hr : s ++ pwT [107, 109] x2 ++ pwT [115] x3 ++ pwT [116] x4 = r) : Vj_ullageref02_Show_T1 x2 s x3 x4 (.string ⟨r.toArray⟩) w := by
  unfold Vj_ullageref02_Show_T1
  refine iteI (fun h1 => ⟨by simp; omega, ?_⟩) (fun h1 => ⟨Lib.itoa x2, fun w' hb => hI x2 (by omega) (by omega) w' hb, by have := len_itoa (n := x2) (by omega) (by omega); simp; omega, ?_⟩)
  · rintro s3 rfl
    rw [h1] at hr
    exact r_z3 hI (by simp; omega) h9' h9'' hr
  · rintro s4 rfl
    have := len_itoa (n := x2) (by omega) (by omega)
    refine ⟨by simp; omega, ?_⟩
    rintro s5 rfl
    rw [pwT_n h0 h1] at hr
    exact r_z3 hI (by simp; omega) h9' h9'' hr
theorem r_z1 {x2 x3 x4 : Int} {s r : List UInt8} {w : World} (hI : NumIs 79 w) (hl : s.length ≤ 300) (h9 : -9 ≤ x2 ∧ x2 ≤ 9) (h9' : -9 ≤ x3 ∧ x3 ≤ 9) (h9'' : -9 ≤ x4 ∧ x4 ≤ 9) (hr : s ++ pwT [107, 109] x2 ++ pwT [115] x3 ++ pwT [116] x4 = r) : ((x2 = 0) → Vj_ullageref02_Show_T2 s x3 x4 (.string ⟨r.toArray⟩) w) ∧ (¬ (x2 = 0) → Vj_ullageref02_Show_T1 x2 s x3 x4 (.string ⟨r.toArray⟩) w) :=
  iteI (fun h0 => r_t2 hI (by omega) h9' h9'' (by rw [← hr, h0, pwT_0, List.append_nil])) (fun h0 => r_t1 hI hl h9 h9' h9'' h0 hr)
theorem pshow_any (n d k s t : Int) {w : World} (hV : Vg_15 w) : Calls Tryz.prog 26 #[QV n d k s t] w (Vc.Ret (.string ⟨(showT n d k s t).toArray⟩) w) := by
  refine vc_vehicle_Show n d k s t w _ ⟨_, fun w' _ => pck_any n d k s t w', ?_⟩
  refine iteI (fun hc => ?_) (fun hc => by unfold showT; rw [if_neg hc])
  obtain ⟨b1, l1, u1, _⟩ := ck_bd hc
  obtain ⟨m1, m2, m3⟩ := ck_dm hc
  have hI : NumIs 78 w := pnum_any hV
  have z1 := len_itoa (n := n) (by omega) (by omega)
  have z2 := len_itoa (n := d) (by omega) (by omega)
  refine ⟨_, fun w' hb => hI n (by omega) (by omega) w' hb, ?_⟩
  refine iteI (fun h => p_z1 hI (by omega) m1 m2 m3 (show_one hc h)) (fun h => ?_)
  refine ⟨_, fun w' hb => hI d (by omega) (by omega) w' hb, by simp; omega, ?_⟩
  rintro s2 rfl
  refine ⟨by simp; omega, ?_⟩
  rintro s3 rfl
  exact p_z1 hI (by simp; omega) m1 m2 m3 (show_den hc h)
theorem rshow_any (n d k s t : Int) (w : World) : Calls Tryz.prog 27 #[QV n d k s t] w (Vc.Ret (.string ⟨(showT n d k s t).toArray⟩) w) := by
  refine vc_ullageref02_Show n d k s t w _ ⟨_, fun w' _ => rck_any n d k s t w', ?_⟩
  refine iteI (fun hc => ?_) (fun hc => by unfold showT; rw [if_neg hc])
  obtain ⟨b1, l1, u1, _⟩ := ck_bd hc
  obtain ⟨m1, m2, m3⟩ := ck_dm hc
  have hI : NumIs 79 w := rnum_any
  have z1 := len_itoa (n := n) (by omega) (by omega)
  have z2 := len_itoa (n := d) (by omega) (by omega)
  refine ⟨_, fun w' hb => hI n (by omega) (by omega) w' hb, ?_⟩
  refine iteI (fun h => r_z1 hI (by omega) m1 m2 m3 (show_one hc h)) (fun h => ⟨by simp; omega, ?_⟩)
  rintro s1 rfl
  refine ⟨_, fun w' hb => hI d (by omega) (by omega) w' hb, by simp; omega, ?_⟩
  rintro s3 rfl
  exact r_z1 hI (by simp; omega) m1 m2 m3 (by rw [← show_den hc h]; simp)
theorem walk_vehicleShows {w : World} (n d k s t : Int) (hG : VGs w) : Calls Tryz.prog 6 #[QV n d k s t] w (Vc.Ret (.bool true) w) := by
  refine vc_ullagelaw02_VehicleShows n d k s t w _ ⟨_, fun w' hb => pshow_any n d k s t (keep_g hG.g15 hb), _, fun w' _ => rshow_any n d k s t w', ?_⟩
  refine iteI (fun _ => ⟨true, fun w' hb => awake_any w' (hG.keep hb), ?_⟩) fun h => absurd rfl h
  rfl
end Go.Proofs.YtogfcodccbcncaaGreatDoor
