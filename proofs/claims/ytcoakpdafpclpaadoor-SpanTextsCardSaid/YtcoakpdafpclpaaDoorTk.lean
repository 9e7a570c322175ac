/- The reference's text of a number, and the form of a text. -/
import Derived.Test.YtcoakpdafpclpaaDoorTu
set_option linter.unusedVariables false
set_option linter.unusedSimpArgs false
namespace Go.Proofs.YtcoakpdafpclpaaDoor
open Go Go.RowKit Go.Sort Go.Proofs Ul Vc
attribute [local irreducible] Go.Calls
theorem dec_len2 (u : Nat) (h : u < 18446744073709551616) : (Lib.decDigits u).length ≤ 20 := by
  rw [Lib.decDigits_length]
  by_cases h0 : u = 0
  · rw [h0]; decide +kernel
  · have := Lib.numDigits_eq u (by omega) (by omega)
    split at this <;> omega
theorem tmodN (a b : Nat) : Int.tmod (a : Int) (b : Int) = ((a % b : Nat) : Int) := by rw [Int.tmod_eq_emod_of_nonneg (by omega)]; omega
theorem tdivN (a b : Nat) : Int.tdiv (a : Int) (b : Int) = ((a / b : Nat) : Int) := by rw [Int.tdiv_eq_ediv_of_nonneg (by omega)]; omega
theorem byte_one {x : Nat} (h : x < 10) : List.map Vc.byteV ([.int .u8 (IntKind.u8.wrap (IntKind.u64.wrap (48 + (x : Int))))] : List Value) = [UInt8.ofNat (48 + x)] := by
  rw [u64_id (by omega), u8_id (by omega)]
  show [UInt8.ofNat (48 + (x : Int)).toNat] = _
  congr 2
theorem rdigits_c (u : Nat) (hu : u < 18446744073709551616) (w : World) : Calls Tryd.prog 38 #[.int .u64 (u : Int)] w (Vc.Ret (.string ⟨(Lib.decDigits u).toArray⟩) w) := by
  refine vc_ullageref01_digits _ w _ ?_
  refine ⟨fun y => ∃ (m : Nat) (s : List UInt8), m < 18446744073709551616 ∧ Lib.decDigits m ++ s = Lib.decDigits u ∧ y = [.s s, .i (m : Int), .s []], fun (y : List Vc.Vl) => match y[1]? with | some (Vc.Vl.i x) => x.toNat | _ => 0, ⟨u, [], hu, by simp, rfl⟩, ?_⟩
  rintro s0 x1 s1 ⟨m, s, hm, hs, hy⟩
  simp only [List.cons.injEq, Vl.i.injEq, Vl.s.injEq, and_true] at hy
  obtain ⟨rfl, rfl, rfl⟩ := hy
  have hlen := dec_len2 u hu
  rintro _ rfl _ rfl _ rfl
  have e10 : Int.tmod (m : Int) 10 = ((m % 10 : Nat) : Int) := tmodN m 10
  have d10 : Int.tdiv (m : Int) 10 = ((m / 10 : Nat) : Int) := tdivN m 10
  rw [e10, d10]
  refine ⟨fun v hv => ?_, ?_⟩
  · simp only [List.mem_singleton] at hv
    exact ⟨_, hv⟩
  rintro _ rfl
  rw [byte_one (Nat.mod_lt _ (by decide))]
  refine ⟨?_, ?_⟩
  · have := congrArg List.length hs
    simp at this ⊢; omega
  rintro _ rfl _ rfl
  rw [u64_id (x := ((m / 10 : Nat) : Int)) (by omega)]
  refine ⟨fun h0 => ?_, fun h0 => ?_⟩
  · have h10 : m < 10 := by omega
    rw [Lib.decDigits_one h10] at hs
    rw [show m % 10 = m by omega, hs]
  · have h10 : ¬ m < 10 := by omega
    have e : Lib.decDigits m = Lib.decDigits (m / 10) ++ [UInt8.ofNat (48 + m % 10)] := by
      conv => lhs; rw [Lib.decDigits]
      rw [dif_neg h10]
    refine ⟨⟨m / 10, _, by omega, ?_, rfl⟩, by show (((m / 10 : Nat) : Int)).toNat < ((m : Int)).toNat; omega⟩
    rw [← hs, e]; simp
set_option maxHeartbeats 1000000 in
theorem rtail (r : Nat) (hr : r < 4294967296) (p : List UInt8) (hp : p.length ≤ 30) (v : Value) (hv : (.string ⟨(p ++ 46 :: tailF 32 r).toArray⟩ : Value) = v) :
  ∃ (Ix6 : List Vc.Vl → Prop) (mx6 : List Vc.Vl → Nat), Ix6 [.i (r : Int), .s (p ++ ([46] : List UInt8))] ∧ ∀ (x6 : Int) (s3 : List UInt8), Ix6 [.i x6, .s s3] → (
  ((0 < x6) → (
  ∀ x7 : Int, x7 = IntKind.u64.wrap (x6 * 10) →
  ∀ x8 : Int, x8 = IntKind.u64.wrap (Int.tdiv x7 4294967296) →
  ∀ x9 : Int, x9 = IntKind.u64.wrap (48 + x8) →
  ∀ x10 : Int, x10 = IntKind.u8.wrap (x9) →
  (∀ v ∈ ([.int .u8 x10] : List Value), ∃ n : Int, v = Value.int .u8 n) ∧ ∀ s4 : List UInt8, s4 = List.map Vc.byteV ([.int .u8 x10] : List Value) →
  (List.length s3 + List.length s4 ≤ 9223372036854775807) ∧ ∀ s5 : List UInt8, s5 = s3 ++ s4 →
  ∀ x11 : Int, x11 = Int.tmod x7 4294967296 →
  Ix6 [.i x11, .s s5] ∧ mx6 [.i x11, .s s5] < mx6 [.i x6, .s s3])) ∧ (¬ (0 < x6) → (
  (.string ⟨s3.toArray⟩ : Value) = v))) := by
  refine ⟨fun y => ∃ (q : Nat) (d : List UInt8), q < 4294967296 ∧ d ++ tailF 32 q = p ++ 46 :: tailF 32 r ∧ y = [.i (q : Int), .s d], fun (y : List Vc.Vl) => match y[0]? with | some (Vc.Vl.i x) => 33 - tz 32 x.toNat | _ => 0, ⟨r, _, hr, by simp, rfl⟩, ?_⟩
  rintro x6 s3 ⟨q, d, hq, hd, hy⟩
  simp only [List.cons.injEq, Vl.i.injEq, Vl.s.injEq, and_true] at hy
  obtain ⟨rfl, rfl⟩ := hy
  refine ⟨fun h0 => ?_, fun h0 => ?_⟩
  · have hq0 : 0 < q := by omega
    obtain ⟨g1, g2, g3⟩ := tz_step hq0 hq
    rw [tail_next hq0 hq] at hd
    rintro _ rfl
    have e1 : IntKind.u64.wrap ((q : Int) * 10) = ((q * 10 : Nat) : Int) := by rw [u64_id (by omega)]; omega
    rw [e1]
    have e2 : Int.tdiv ((q * 10 : Nat) : Int) 4294967296 = ((q * 10 / 4294967296 : Nat) : Int) := tdivN (q * 10) 4294967296
    have e3 : Int.tmod ((q * 10 : Nat) : Int) 4294967296 = ((q * 10 % 4294967296 : Nat) : Int) := tmodN (q * 10) 4294967296
    rw [e2, e3, u64_id (x := ((q * 10 / 4294967296 : Nat) : Int)) (by omega)]
    rintro _ rfl _ rfl _ rfl
    refine ⟨fun v hv => ?_, ?_⟩
    · simp only [List.mem_singleton] at hv
      exact ⟨_, hv⟩
    rintro _ rfl
    rw [byte_one (by omega)]
    refine ⟨?_, ?_⟩
    · have := congrArg List.length hd
      have := tail_len 32 r
      simp at *; omega
    rintro _ rfl _ rfl
    refine ⟨⟨_, _, Nat.mod_lt _ (by decide), ?_, rfl⟩, ?_⟩
    · rw [← hd]; simp
    · show 33 - tz 32 (((q * 10 % 4294967296 : Nat) : Int)).toNat < 33 - tz 32 ((q : Int)).toNat
      rw [Int.toNat_natCast, Int.toNat_natCast]; omega
  · obtain rfl : q = 0 := by omega
    rw [tail_zero, List.append_nil] at hd
    rw [hd]; exact hv
set_option maxHeartbeats 1000000 in
/-- The reference's Text. -/
theorem rtext_c (n : Int) (hn : I64 n) (w : World) : Calls Tryd.prog 8 #[.int .i64 n] w (Vc.Ret (.string ⟨(textV n).toArray⟩) w) := by
  obtain ⟨hn1, hn2⟩ := hn
  refine vc_ullageref01_Text n w _ ?_
  refine ⟨_, fun w' _ => number_any n w', fun hv => ?_, fun hv => ?_⟩
  · have hv' : -9223372036854775807 ≤ n := by simpa using hv
    have ht : textV n = textN n.natAbs (decide (n < 0)) := if_pos hv'
    have hdl := dec_len2 (n.natAbs / 4294967296) (by omega)
    rintro _ rfl
    refine ⟨fun h0 => ?_, fun h0 => ?_⟩
    · rw [decide_eq_true h0] at ht
      rintro _ rfl _ rfl _ rfl
      have e1 : IntKind.u64.wrap (IntKind.i64.wrap (0 - n)) = ((n.natAbs : Nat) : Int) := by rw [Vc.i64_id (by omega), u64_id (by omega)]; omega
      rw [e1]
      have e2 : Int.tdiv ((n.natAbs : Nat) : Int) 4294967296 = ((n.natAbs / 4294967296 : Nat) : Int) := tdivN _ 4294967296
      have e3 : Int.tmod ((n.natAbs : Nat) : Int) 4294967296 = ((n.natAbs % 4294967296 : Nat) : Int) := tmodN _ 4294967296
      rw [e2, e3, u64_id (x := ((n.natAbs / 4294967296 : Nat) : Int)) (by omega)]
      refine ⟨_, fun w' _ => rdigits_c (n.natAbs / 4294967296) (by omega) w', by simp; omega, ?_⟩
      rintro _ rfl _ rfl
      refine ⟨fun hz => ?_, fun hz => ?_⟩
      · have hz' : n.natAbs % 4294967296 = 0 := by omega
        rw [ht]; unfold textN; rw [if_pos hz']; simp
      · have hz' : ¬ n.natAbs % 4294967296 = 0 := by omega
        refine ⟨by simp; omega, ?_⟩
        rintro _ rfl
        refine rtail (n.natAbs % 4294967296) (Nat.mod_lt _ (by decide)) _ (by simp; omega) _ ?_
        rw [ht]; unfold textN; rw [if_neg hz']; simp
    · rw [decide_eq_false h0] at ht
      have e1 : IntKind.u64.wrap n = ((n.natAbs : Nat) : Int) := by rw [u64_id (by omega)]; omega
      rw [e1]
      have e2 : Int.tdiv ((n.natAbs : Nat) : Int) 4294967296 = ((n.natAbs / 4294967296 : Nat) : Int) := tdivN _ 4294967296
      have e3 : Int.tmod ((n.natAbs : Nat) : Int) 4294967296 = ((n.natAbs % 4294967296 : Nat) : Int) := tmodN _ 4294967296
      rw [e2, e3, u64_id (x := ((n.natAbs / 4294967296 : Nat) : Int)) (by omega)]
      rintro _ rfl
      refine ⟨_, fun w' _ => rdigits_c (n.natAbs / 4294967296) (by omega) w', by simp; omega, ?_⟩
      rintro _ rfl _ rfl
      refine ⟨fun hz => ?_, fun hz => ?_⟩
      · have hz' : n.natAbs % 4294967296 = 0 := by omega
        rw [ht]; unfold textN; rw [if_pos hz']; simp
      · have hz' : ¬ n.natAbs % 4294967296 = 0 := by omega
        refine ⟨by simp; omega, ?_⟩
        rintro _ rfl
        refine rtail (n.natAbs % 4294967296) (Nat.mod_lt _ (by decide)) _ (by simp; omega) _ ?_
        rw [ht]; unfold textN; rw [if_neg hz']; simp
  · have hv' : ¬ -9223372036854775807 ≤ n := by simpa using hv
    rw [show textV n = [] from if_neg hv']
end Go.Proofs.YtcoakpdafpclpaaDoor
