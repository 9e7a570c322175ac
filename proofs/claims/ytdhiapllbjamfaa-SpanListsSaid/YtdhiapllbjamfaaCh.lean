/- Contracts: the program's division of two words by one. -/
import Derived.Test.YtdhiapllbjamfaaCg
import Derived.Test.YtdhiapllbjamfaaM4
import Derived.Test.YtdhiapllbjamfaaLz
set_option linter.unusedVariables false
set_option linter.unusedSimpArgs false
namespace Go.Proofs.Ytdhiapllbjamfaa
open Go Go.RowKit Ul Vc
attribute [local irreducible] Go.Calls

theorem lz_any (x : Int) (w : World) (h0 : 0 ≤ x) (h1 : x ≤ 18446744073709551615) :
    Calls Try.prog 140 #[.int .u64 x] w (Vc.Ret (.int .i64 (64 - (Lib.bitLen x.toNat : Int))) w) :=
  (bits_LeadingZeros64 x w h0 h1).mono fun e w' ⟨he, hw⟩ => ⟨he, by subst hw; exact Below.refl _ _⟩

def DigI (u v y : Int) (l : List Vc.Vl) : Prop := ∃ q r, l = [.i q, .i r] ∧ Dig u v y q r ∧ r < 4294967296
def digM (l : List Vc.Vl) : Nat := match l with | .i q :: _ => q.toNat | _ => 0


theorem div64_any (h l y : Int) (w : World) (h0 : 0 ≤ h) (hlt : h < y) (hy1 : y ≤ 18446744073709551615) (l0 : 0 ≤ l) (l1 : l ≤ 18446744073709551615) :
    Calls Try.prog 131 #[.int .u64 h, .int .u64 l, .int .u64 y] w (Vc.Ret (.tuple #[.int .u64 ((h * 18446744073709551616 + l) / y), .int .u64 ((h * 18446744073709551616 + l) % y)]) w) := by
  have hy : 0 < y := by omega
  refine vc_math_bits_Div64 _ _ _ w _ ?_
  refine iteI (fun hc => absurd hc (by omega)) (fun _ => iteI (fun hc => absurd hc (by omega)) (fun _ => iteI (fun hz => ?_) (fun hz => ?_)))
  · subst hz
    refine ⟨by omega, ?_⟩
    rintro _ rfl
    refine ⟨by omega, ?_⟩
    rintro _ rfl
    have q0 : 0 ≤ l / y := Int.ediv_nonneg l0 (by omega)
    have q1 : l / y ≤ l := Int.ediv_le_self _ l0
    rw [Int.tdiv_eq_ediv_of_nonneg l0, Int.tmod_eq_emod_of_nonneg l0, Ul.u64_eq, Int.emod_eq_of_lt q0 (by omega)]
    simp
  · obtain ⟨s, hs, e1, t0, t1⟩ := top_shift y hy hy1
    have hk : h * 2 ^ s < 18446744073709551616 := by
      have := Int.mul_le_mul_of_nonneg_right (Int.le_of_lt hlt) (Int.le_of_lt (pow2_pos s)); omega
    obtain ⟨z1, z2, z3, z4, z5⟩ := shift_words h l s hs h0 hk l0 l1
    have hmin : Nat.min (Int.toNat (s : Int)) 64 = s := Nat.min_eq_left (by omega)
    (repeat apply Exists.intro); refine And.intro (fun _ _ => lz_any _ _ (by omega) hy1) ?_
    rw [e1]
    intro x4 h4
    have e4 : x4 = (s : Int) := by rw [h4, Ul.u64_eq]; omega
    subst e4
    clear h4
    rw [hmin]
    refine ⟨by omega, ?_⟩
    intro n hn
    have hn : n = y * 2 ^ s := by rw [hn, Ul.u64_eq]; omega
    rw [← hn] at t0 t1
    rintro _ rfl n0 hn0'
    rw [maskI n (by omega) (by omega)] at hn0'
    subst hn0'
    refine ⟨by omega, ?_⟩
    intro x8 h8 x9 h9
    have e8 : x8 = h * 2 ^ s := by rw [h8, Ul.u64_eq]; omega
    have e9 : x9 = ((64 - s : Nat) : Int) := by rw [h9, Ul.u64_eq]; omega
    subst e8 e9
    rw [show Nat.min (Int.toNat ((64 - s : Nat) : Int)) 64 = 64 - s from Nat.min_eq_left (by omega), Int.fdiv_eq_ediv_of_nonneg _ (Int.le_of_lt (pow2_pos _))]
    refine ⟨by omega, ?_⟩
    rintro _ rfl
    have hk2 : (h + 1) * 2 ^ s ≤ n := by rw [hn]; exact Int.mul_le_mul_of_nonneg_right (by omega) (Int.le_of_lt (pow2_pos s))
    rw [Int.add_mul, Int.one_mul] at hk2
    intro u hu
    have hu : u = h * 2 ^ s + l / 2 ^ (64 - s) := by rw [hu]; exact or_add _ _ s hs h rfl h0 z2 z3 (by omega)
    have hu0 : 0 ≤ u := by omega
    have hun : u < n := by omega
    rw [← hu] at z4
    refine ⟨by omega, ?_⟩
    intro x12 h12
    rw [Ul.u64_eq] at h12
    rw [← h12] at z4
    intro d1 hd1' d0 hd0'
    rw [maskI x12 (by omega) (by omega)] at hd0'
    have hd0 : 0 ≤ d1 := by omega
    have hd1 : d1 < 4294967296 := by omega
    have hd00 : 0 ≤ d0 := by omega
    have hd01 : d0 < 4294967296 := by omega
    have hN : (h * 18446744073709551616 + l) * 2 ^ s = u * 18446744073709551616 + (d1 * 4294967296 + d0) := by rw [z4]; omega
    clear z1 z2 z3 z4 z5 hk hk2 hu h12 hd1' hd0' hz e1
    refine ⟨by omega, ?_⟩
    intro b1 hb1 b2 hb2 b3 hb3
    have st := dig_start u d1 n (by omega) (by omega) (by omega) (by omega) t0 t1
    have f0 : 0 ≤ u / (n / 4294967296) := Int.ediv_nonneg (by omega) (by omega)
    have f1 : u / (n / 4294967296) ≤ u := Int.ediv_le_self _ (by omega)
    have f2 := Int.mul_ediv_add_emod u (n / 4294967296)
    have f3 := Int.emod_nonneg u (show n / 4294967296 ≠ 0 by omega)
    have f4 := Int.emod_lt_of_pos u (show 0 < n / 4294967296 by omega)
    rw [Int.mul_comm (n / 4294967296)] at f2
    have f5 : 0 ≤ u / (n / 4294967296) * (n / 4294967296) := Int.mul_nonneg f0 (by omega)
    have w1 : b1 = u / (n / 4294967296) := by rw [hb1, Int.tdiv_eq_ediv_of_nonneg (by omega), Ul.u64_eq]; omega
    have w2 : b2 = u / (n / 4294967296) * (n / 4294967296) := by rw [hb2, w1, Ul.u64_eq]; omega
    have w3 : b3 = u - u / (n / 4294967296) * (n / 4294967296) := by rw [hb3, w2, Ul.u64_eq]; omega
    rw [← w3, ← w1] at st
    have w4 : b3 < 4294967296 := by omega
    clear hb1 hb2 hb3 f0 f1 f2 f3 f4 f5 w1 w2 w3
    refine ⟨DigI u d1 n, digM, ⟨_, _, rfl, st, by omega⟩, ?_⟩
    rintro qa ra ⟨_, _, he, hd, hr⟩
    simp only [List.cons.injEq, Vc.Vl.i.injEq, and_true] at he
    obtain ⟨rfl, rfl⟩ := he
    have hpos := hd.pos
    have hhi := hd.hi
    have qpos : 0 ≤ qa := Int.le_trans (Int.ediv_nonneg (by omega) (by omega)) hd.lo
    refine iteI (fun c1 => ?_) (fun c1 => ?_)
    · intro qb hqb rb hrb
      have nx := dig_next u d1 n qa ra hd (by omega) (by omega) (by omega) (by omega) t0 t1 (.inl c1)
      have e1 : qb = qa - 1 := by rw [hqb, Ul.u64_eq]; omega
      have e2 : rb = ra + n / 4294967296 := by rw [hrb, Ul.u64_eq]; omega
      rw [← e1, ← e2] at nx
      clear hqb hrb
      refine iteI (fun c2 => ?_) (fun c2 => ?_)
      · have fq := dig_break u d1 n qb rb nx.1 t0 (by omega) (by omega) nx.2.1 c2
        intro a1 ha1 a2 ha2 a3 ha3 RA ha4
        have hq1 := fq
        have m1 := Int.mul_ediv_add_emod (u * 4294967296 + d1) n
        rw [← hq1] at m1
        have m2 := Int.emod_nonneg (u * 4294967296 + d1) (show n ≠ 0 by omega)
        have m3 := Int.emod_lt_of_pos (u * 4294967296 + d1) (show 0 < n by omega)
        have hR1 : RA = (u * 4294967296 + d1) % n := by
          rw [ha4, ha3, ha2, ha1]
          simp only [Ul.u64_eq]
          rw [Int.mul_comm n] at m1
          generalize (u * 4294967296 + d1) % n = R2 at *
          generalize qb * n = P at *
          omega
        have l1 := dig_lt u d1 n hu0 hun hd0 hd1 t0
        rw [← hq1] at l1
        have g1 : 0 ≤ qb := by rw [hq1]; exact Int.ediv_nonneg (by omega) (by omega)
        have r0 : 0 ≤ RA := by omega
        have r1 : RA < n := by omega
        obtain ⟨qA, hqA⟩ : ∃ qA, qA = qb := ⟨_, rfl⟩
        rw [← hqA] at hq1 l1 g1 ⊢
        clear ha1 ha2 ha3 ha4 m1 m2 m3 fq hqA
        refine ⟨by omega, ?_⟩
        intro b1 hb1 b2 hb2 b3 hb3
        have st := dig_start RA d0 n (by omega) (by omega) (by omega) (by omega) t0 t1
        have f0 : 0 ≤ RA / (n / 4294967296) := Int.ediv_nonneg (by omega) (by omega)
        have f1 : RA / (n / 4294967296) ≤ RA := Int.ediv_le_self _ (by omega)
        have f2 := Int.mul_ediv_add_emod RA (n / 4294967296)
        have f3 := Int.emod_nonneg RA (show n / 4294967296 ≠ 0 by omega)
        have f4 := Int.emod_lt_of_pos RA (show 0 < n / 4294967296 by omega)
        rw [Int.mul_comm (n / 4294967296)] at f2
        have f5 : 0 ≤ RA / (n / 4294967296) * (n / 4294967296) := Int.mul_nonneg f0 (by omega)
        have w1 : b1 = RA / (n / 4294967296) := by rw [hb1, Int.tdiv_eq_ediv_of_nonneg (by omega), Ul.u64_eq]; omega
        have w2 : b2 = RA / (n / 4294967296) * (n / 4294967296) := by rw [hb2, w1, Ul.u64_eq]; omega
        have w3 : b3 = RA - RA / (n / 4294967296) * (n / 4294967296) := by rw [hb3, w2, Ul.u64_eq]; omega
        rw [← w3, ← w1] at st
        have w4 : b3 < 4294967296 := by omega
        clear hb1 hb2 hb3 f0 f1 f2 f3 f4 f5 w1 w2 w3
        refine ⟨DigI RA d0 n, digM, ⟨_, _, rfl, st, by omega⟩, ?_⟩
        rintro qa ra ⟨_, _, he, hd, hr⟩
        simp only [List.cons.injEq, Vc.Vl.i.injEq, and_true] at he
        obtain ⟨rfl, rfl⟩ := he
        have hpos := hd.pos
        have hhi := hd.hi
        have qpos : 0 ≤ qa := Int.le_trans (Int.ediv_nonneg (by omega) (by omega)) hd.lo
        refine iteI (fun c1 => ?_) (fun c1 => ?_)
        · intro qb hqb rb hrb
          have nx := dig_next RA d0 n qa ra hd (by omega) (by omega) (by omega) (by omega) t0 t1 (.inl c1)
          have e1 : qb = qa - 1 := by rw [hqb, Ul.u64_eq]; omega
          have e2 : rb = ra + n / 4294967296 := by rw [hrb, Ul.u64_eq]; omega
          rw [← e1, ← e2] at nx
          clear hqb hrb
          refine iteI (fun c2 => ?_) (fun c2 => ?_)
          · have fq := dig_break RA d0 n qb rb nx.1 t0 (by omega) (by omega) nx.2.1 c2
            have hq0 := fq
            have hq0 := hq0
            intro c1 hc1 c2 hc2 c3 hc3 c4 hc4 c5 hc5 c6 hc6
            refine ⟨by omega, ?_⟩
            intro c7 hc7
            have fin := div64_fin h l y u d1 d0 qA qb s hy hN (by rw [hq1, hn]) (by rw [hq0, hR1, hn])
            have m1 := Int.mul_ediv_add_emod (RA * 4294967296 + d0) n
            rw [← hq0] at m1
            have m2 := Int.emod_nonneg (RA * 4294967296 + d0) (show n ≠ 0 by omega)
            have m3 := Int.emod_lt_of_pos (RA * 4294967296 + d0) (show 0 < n by omega)
            have e6 : c6 = (RA * 4294967296 + d0) % n := by
              rw [hc6, hc5, hc4, hc3]
              simp only [Ul.u64_eq]
              rw [Int.mul_comm n] at m1
              generalize (RA * 4294967296 + d0) % n = R2 at *
              generalize qb * n = P at *
              omega
            rw [hc7, Int.fdiv_eq_ediv_of_nonneg _ (Int.le_of_lt (pow2_pos s)), e6]
            rw [← hn, ← hR1] at fin
            have l2 := dig_lt RA d0 n r0 r1 hd00 hd01 t0
            rw [← hq0] at l2
            have g2 : 0 ≤ qb := by rw [hq0]; exact Int.ediv_nonneg (by omega) (by omega)
            have e2 : c2 = (h * 18446744073709551616 + l) / y := by
              rw [← fin.1, hc2, hc1]; simp only [Ul.u64_eq]; omega
            rw [e2, fin.2]
          · exact ⟨⟨_, _, rfl, nx.1, by omega⟩, by simp only [digM]; omega⟩
        · intro a ha b hb c hc
          have pr := mul_le_of qa (n % 4294967296) 4294967295 4294967295 (by omega) (by omega) (by omega) (by omega)
          have ea : a = qa * (n % 4294967296) := by rw [ha, Ul.u64_eq]; omega
          have ec : c = 4294967296 * ra + d0 := by rw [hc, hb]; simp only [Ul.u64_eq]; omega
          clear ha hb hc
          refine iteI (fun c2 => ?_) (fun c2 => ?_)
          · intro qb hqb rb hrb
            have nx := dig_next RA d0 n qa ra hd (by omega) (by omega) (by omega) (by omega) t0 t1 (.inr (by rw [← ea, ← ec]; exact c2))
            have e1 : qb = qa - 1 := by rw [hqb, Ul.u64_eq]; omega
            have e2 : rb = ra + n / 4294967296 := by rw [hrb, Ul.u64_eq]; omega
            rw [← e1, ← e2] at nx
            clear hqb hrb
            refine iteI (fun c2 => ?_) (fun c2 => ?_)
            · have fq := dig_break RA d0 n qb rb nx.1 t0 (by omega) (by omega) nx.2.1 c2
              have hq0 := fq
              have hq0 := hq0
              intro c1 hc1 c2 hc2 c3 hc3 c4 hc4 c5 hc5 c6 hc6
              refine ⟨by omega, ?_⟩
              intro c7 hc7
              have fin := div64_fin h l y u d1 d0 qA qb s hy hN (by rw [hq1, hn]) (by rw [hq0, hR1, hn])
              have m1 := Int.mul_ediv_add_emod (RA * 4294967296 + d0) n
              rw [← hq0] at m1
              have m2 := Int.emod_nonneg (RA * 4294967296 + d0) (show n ≠ 0 by omega)
              have m3 := Int.emod_lt_of_pos (RA * 4294967296 + d0) (show 0 < n by omega)
              have e6 : c6 = (RA * 4294967296 + d0) % n := by
                rw [hc6, hc5, hc4, hc3]
                simp only [Ul.u64_eq]
                rw [Int.mul_comm n] at m1
                generalize (RA * 4294967296 + d0) % n = R2 at *
                generalize qb * n = P at *
                omega
              rw [hc7, Int.fdiv_eq_ediv_of_nonneg _ (Int.le_of_lt (pow2_pos s)), e6]
              rw [← hn, ← hR1] at fin
              have l2 := dig_lt RA d0 n r0 r1 hd00 hd01 t0
              rw [← hq0] at l2
              have g2 : 0 ≤ qb := by rw [hq0]; exact Int.ediv_nonneg (by omega) (by omega)
              have e2 : c2 = (h * 18446744073709551616 + l) / y := by
                rw [← fin.1, hc2, hc1]; simp only [Ul.u64_eq]; omega
              rw [e2, fin.2]
            · exact ⟨⟨_, _, rfl, nx.1, by omega⟩, by simp only [digM]; omega⟩
          · have fq := dig_end RA d0 n qa ra hd t0 (by rw [← ea, ← ec]; omega)
            have hq0 := fq
            have hq0 := hq0
            intro c1 hc1 c2 hc2 c3 hc3 c4 hc4 c5 hc5 c6 hc6
            refine ⟨by omega, ?_⟩
            intro c7 hc7
            have fin := div64_fin h l y u d1 d0 qA qa s hy hN (by rw [hq1, hn]) (by rw [hq0, hR1, hn])
            have m1 := Int.mul_ediv_add_emod (RA * 4294967296 + d0) n
            rw [← hq0] at m1
            have m2 := Int.emod_nonneg (RA * 4294967296 + d0) (show n ≠ 0 by omega)
            have m3 := Int.emod_lt_of_pos (RA * 4294967296 + d0) (show 0 < n by omega)
            have e6 : c6 = (RA * 4294967296 + d0) % n := by
              rw [hc6, hc5, hc4, hc3]
              simp only [Ul.u64_eq]
              rw [Int.mul_comm n] at m1
              generalize (RA * 4294967296 + d0) % n = R2 at *
              generalize qa * n = P at *
              omega
            rw [hc7, Int.fdiv_eq_ediv_of_nonneg _ (Int.le_of_lt (pow2_pos s)), e6]
            rw [← hn, ← hR1] at fin
            have l2 := dig_lt RA d0 n r0 r1 hd00 hd01 t0
            rw [← hq0] at l2
            have g2 : 0 ≤ qa := by rw [hq0]; exact Int.ediv_nonneg (by omega) (by omega)
            have e2 : c2 = (h * 18446744073709551616 + l) / y := by
              rw [← fin.1, hc2, hc1]; simp only [Ul.u64_eq]; omega
            rw [e2, fin.2]
      · exact ⟨⟨_, _, rfl, nx.1, by omega⟩, by simp only [digM]; omega⟩
    · intro a ha b hb c hc
      have pr := mul_le_of qa (n % 4294967296) 4294967295 4294967295 (by omega) (by omega) (by omega) (by omega)
      have ea : a = qa * (n % 4294967296) := by rw [ha, Ul.u64_eq]; omega
      have ec : c = 4294967296 * ra + d1 := by rw [hc, hb]; simp only [Ul.u64_eq]; omega
      clear ha hb hc
      refine iteI (fun c2 => ?_) (fun c2 => ?_)
      · intro qb hqb rb hrb
        have nx := dig_next u d1 n qa ra hd (by omega) (by omega) (by omega) (by omega) t0 t1 (.inr (by rw [← ea, ← ec]; exact c2))
        have e1 : qb = qa - 1 := by rw [hqb, Ul.u64_eq]; omega
        have e2 : rb = ra + n / 4294967296 := by rw [hrb, Ul.u64_eq]; omega
        rw [← e1, ← e2] at nx
        clear hqb hrb
        refine iteI (fun c2 => ?_) (fun c2 => ?_)
        · have fq := dig_break u d1 n qb rb nx.1 t0 (by omega) (by omega) nx.2.1 c2
          intro a1 ha1 a2 ha2 a3 ha3 RA ha4
          have hq1 := fq
          have m1 := Int.mul_ediv_add_emod (u * 4294967296 + d1) n
          rw [← hq1] at m1
          have m2 := Int.emod_nonneg (u * 4294967296 + d1) (show n ≠ 0 by omega)
          have m3 := Int.emod_lt_of_pos (u * 4294967296 + d1) (show 0 < n by omega)
          have hR1 : RA = (u * 4294967296 + d1) % n := by
            rw [ha4, ha3, ha2, ha1]
            simp only [Ul.u64_eq]
            rw [Int.mul_comm n] at m1
            generalize (u * 4294967296 + d1) % n = R2 at *
            generalize qb * n = P at *
            omega
          have l1 := dig_lt u d1 n hu0 hun hd0 hd1 t0
          rw [← hq1] at l1
          have g1 : 0 ≤ qb := by rw [hq1]; exact Int.ediv_nonneg (by omega) (by omega)
          have r0 : 0 ≤ RA := by omega
          have r1 : RA < n := by omega
          obtain ⟨qA, hqA⟩ : ∃ qA, qA = qb := ⟨_, rfl⟩
          rw [← hqA] at hq1 l1 g1 ⊢
          clear ha1 ha2 ha3 ha4 m1 m2 m3 fq hqA
          refine ⟨by omega, ?_⟩
          intro b1 hb1 b2 hb2 b3 hb3
          have st := dig_start RA d0 n (by omega) (by omega) (by omega) (by omega) t0 t1
          have f0 : 0 ≤ RA / (n / 4294967296) := Int.ediv_nonneg (by omega) (by omega)
          have f1 : RA / (n / 4294967296) ≤ RA := Int.ediv_le_self _ (by omega)
          have f2 := Int.mul_ediv_add_emod RA (n / 4294967296)
          have f3 := Int.emod_nonneg RA (show n / 4294967296 ≠ 0 by omega)
          have f4 := Int.emod_lt_of_pos RA (show 0 < n / 4294967296 by omega)
          rw [Int.mul_comm (n / 4294967296)] at f2
          have f5 : 0 ≤ RA / (n / 4294967296) * (n / 4294967296) := Int.mul_nonneg f0 (by omega)
          have w1 : b1 = RA / (n / 4294967296) := by rw [hb1, Int.tdiv_eq_ediv_of_nonneg (by omega), Ul.u64_eq]; omega
          have w2 : b2 = RA / (n / 4294967296) * (n / 4294967296) := by rw [hb2, w1, Ul.u64_eq]; omega
          have w3 : b3 = RA - RA / (n / 4294967296) * (n / 4294967296) := by rw [hb3, w2, Ul.u64_eq]; omega
          rw [← w3, ← w1] at st
          have w4 : b3 < 4294967296 := by omega
          clear hb1 hb2 hb3 f0 f1 f2 f3 f4 f5 w1 w2 w3
          refine ⟨DigI RA d0 n, digM, ⟨_, _, rfl, st, by omega⟩, ?_⟩
          rintro qa ra ⟨_, _, he, hd, hr⟩
          simp only [List.cons.injEq, Vc.Vl.i.injEq, and_true] at he
          obtain ⟨rfl, rfl⟩ := he
          have hpos := hd.pos
          have hhi := hd.hi
          have qpos : 0 ≤ qa := Int.le_trans (Int.ediv_nonneg (by omega) (by omega)) hd.lo
          refine iteI (fun c1 => ?_) (fun c1 => ?_)
          · intro qb hqb rb hrb
            have nx := dig_next RA d0 n qa ra hd (by omega) (by omega) (by omega) (by omega) t0 t1 (.inl c1)
            have e1 : qb = qa - 1 := by rw [hqb, Ul.u64_eq]; omega
            have e2 : rb = ra + n / 4294967296 := by rw [hrb, Ul.u64_eq]; omega
            rw [← e1, ← e2] at nx
            clear hqb hrb
            refine iteI (fun c2 => ?_) (fun c2 => ?_)
            · have fq := dig_break RA d0 n qb rb nx.1 t0 (by omega) (by omega) nx.2.1 c2
              have hq0 := fq
              have hq0 := hq0
              intro c1 hc1 c2 hc2 c3 hc3 c4 hc4 c5 hc5 c6 hc6
              refine ⟨by omega, ?_⟩
              intro c7 hc7
              have fin := div64_fin h l y u d1 d0 qA qb s hy hN (by rw [hq1, hn]) (by rw [hq0, hR1, hn])
              have m1 := Int.mul_ediv_add_emod (RA * 4294967296 + d0) n
              rw [← hq0] at m1
              have m2 := Int.emod_nonneg (RA * 4294967296 + d0) (show n ≠ 0 by omega)
              have m3 := Int.emod_lt_of_pos (RA * 4294967296 + d0) (show 0 < n by omega)
              have e6 : c6 = (RA * 4294967296 + d0) % n := by
                rw [hc6, hc5, hc4, hc3]
                simp only [Ul.u64_eq]
                rw [Int.mul_comm n] at m1
                generalize (RA * 4294967296 + d0) % n = R2 at *
                generalize qb * n = P at *
                omega
              rw [hc7, Int.fdiv_eq_ediv_of_nonneg _ (Int.le_of_lt (pow2_pos s)), e6]
              rw [← hn, ← hR1] at fin
              have l2 := dig_lt RA d0 n r0 r1 hd00 hd01 t0
              rw [← hq0] at l2
              have g2 : 0 ≤ qb := by rw [hq0]; exact Int.ediv_nonneg (by omega) (by omega)
              have e2 : c2 = (h * 18446744073709551616 + l) / y := by
                rw [← fin.1, hc2, hc1]; simp only [Ul.u64_eq]; omega
              rw [e2, fin.2]
            · exact ⟨⟨_, _, rfl, nx.1, by omega⟩, by simp only [digM]; omega⟩
          · intro a ha b hb c hc
            have pr := mul_le_of qa (n % 4294967296) 4294967295 4294967295 (by omega) (by omega) (by omega) (by omega)
            have ea : a = qa * (n % 4294967296) := by rw [ha, Ul.u64_eq]; omega
            have ec : c = 4294967296 * ra + d0 := by rw [hc, hb]; simp only [Ul.u64_eq]; omega
            clear ha hb hc
            refine iteI (fun c2 => ?_) (fun c2 => ?_)
            · intro qb hqb rb hrb
              have nx := dig_next RA d0 n qa ra hd (by omega) (by omega) (by omega) (by omega) t0 t1 (.inr (by rw [← ea, ← ec]; exact c2))
              have e1 : qb = qa - 1 := by rw [hqb, Ul.u64_eq]; omega
              have e2 : rb = ra + n / 4294967296 := by rw [hrb, Ul.u64_eq]; omega
              rw [← e1, ← e2] at nx
              clear hqb hrb
              refine iteI (fun c2 => ?_) (fun c2 => ?_)
              · have fq := dig_break RA d0 n qb rb nx.1 t0 (by omega) (by omega) nx.2.1 c2
                have hq0 := fq
                have hq0 := hq0
                intro c1 hc1 c2 hc2 c3 hc3 c4 hc4 c5 hc5 c6 hc6
                refine ⟨by omega, ?_⟩
                intro c7 hc7
                have fin := div64_fin h l y u d1 d0 qA qb s hy hN (by rw [hq1, hn]) (by rw [hq0, hR1, hn])
                have m1 := Int.mul_ediv_add_emod (RA * 4294967296 + d0) n
                rw [← hq0] at m1
                have m2 := Int.emod_nonneg (RA * 4294967296 + d0) (show n ≠ 0 by omega)
                have m3 := Int.emod_lt_of_pos (RA * 4294967296 + d0) (show 0 < n by omega)
                have e6 : c6 = (RA * 4294967296 + d0) % n := by
                  rw [hc6, hc5, hc4, hc3]
                  simp only [Ul.u64_eq]
                  rw [Int.mul_comm n] at m1
                  generalize (RA * 4294967296 + d0) % n = R2 at *
                  generalize qb * n = P at *
                  omega
                rw [hc7, Int.fdiv_eq_ediv_of_nonneg _ (Int.le_of_lt (pow2_pos s)), e6]
                rw [← hn, ← hR1] at fin
                have l2 := dig_lt RA d0 n r0 r1 hd00 hd01 t0
                rw [← hq0] at l2
                have g2 : 0 ≤ qb := by rw [hq0]; exact Int.ediv_nonneg (by omega) (by omega)
                have e2 : c2 = (h * 18446744073709551616 + l) / y := by
                  rw [← fin.1, hc2, hc1]; simp only [Ul.u64_eq]; omega
                rw [e2, fin.2]
              · exact ⟨⟨_, _, rfl, nx.1, by omega⟩, by simp only [digM]; omega⟩
            · have fq := dig_end RA d0 n qa ra hd t0 (by rw [← ea, ← ec]; omega)
              have hq0 := fq
              have hq0 := hq0
              intro c1 hc1 c2 hc2 c3 hc3 c4 hc4 c5 hc5 c6 hc6
              refine ⟨by omega, ?_⟩
              intro c7 hc7
              have fin := div64_fin h l y u d1 d0 qA qa s hy hN (by rw [hq1, hn]) (by rw [hq0, hR1, hn])
              have m1 := Int.mul_ediv_add_emod (RA * 4294967296 + d0) n
              rw [← hq0] at m1
              have m2 := Int.emod_nonneg (RA * 4294967296 + d0) (show n ≠ 0 by omega)
              have m3 := Int.emod_lt_of_pos (RA * 4294967296 + d0) (show 0 < n by omega)
              have e6 : c6 = (RA * 4294967296 + d0) % n := by
                rw [hc6, hc5, hc4, hc3]
                simp only [Ul.u64_eq]
                rw [Int.mul_comm n] at m1
                generalize (RA * 4294967296 + d0) % n = R2 at *
                generalize qa * n = P at *
                omega
              rw [hc7, Int.fdiv_eq_ediv_of_nonneg _ (Int.le_of_lt (pow2_pos s)), e6]
              rw [← hn, ← hR1] at fin
              have l2 := dig_lt RA d0 n r0 r1 hd00 hd01 t0
              rw [← hq0] at l2
              have g2 : 0 ≤ qa := by rw [hq0]; exact Int.ediv_nonneg (by omega) (by omega)
              have e2 : c2 = (h * 18446744073709551616 + l) / y := by
                rw [← fin.1, hc2, hc1]; simp only [Ul.u64_eq]; omega
              rw [e2, fin.2]
        · exact ⟨⟨_, _, rfl, nx.1, by omega⟩, by simp only [digM]; omega⟩
      · have fq := dig_end u d1 n qa ra hd t0 (by rw [← ea, ← ec]; omega)
        intro a1 ha1 a2 ha2 a3 ha3 RA ha4
        have hq1 := fq
        have m1 := Int.mul_ediv_add_emod (u * 4294967296 + d1) n
        rw [← hq1] at m1
        have m2 := Int.emod_nonneg (u * 4294967296 + d1) (show n ≠ 0 by omega)
        have m3 := Int.emod_lt_of_pos (u * 4294967296 + d1) (show 0 < n by omega)
        have hR1 : RA = (u * 4294967296 + d1) % n := by
          rw [ha4, ha3, ha2, ha1]
          simp only [Ul.u64_eq]
          rw [Int.mul_comm n] at m1
          generalize (u * 4294967296 + d1) % n = R2 at *
          generalize qa * n = P at *
          omega
        have l1 := dig_lt u d1 n hu0 hun hd0 hd1 t0
        rw [← hq1] at l1
        have g1 : 0 ≤ qa := by rw [hq1]; exact Int.ediv_nonneg (by omega) (by omega)
        have r0 : 0 ≤ RA := by omega
        have r1 : RA < n := by omega
        obtain ⟨qA, hqA⟩ : ∃ qA, qA = qa := ⟨_, rfl⟩
        rw [← hqA] at hq1 l1 g1 ⊢
        clear ha1 ha2 ha3 ha4 m1 m2 m3 fq hqA
        refine ⟨by omega, ?_⟩
        intro b1 hb1 b2 hb2 b3 hb3
        have st := dig_start RA d0 n (by omega) (by omega) (by omega) (by omega) t0 t1
        have f0 : 0 ≤ RA / (n / 4294967296) := Int.ediv_nonneg (by omega) (by omega)
        have f1 : RA / (n / 4294967296) ≤ RA := Int.ediv_le_self _ (by omega)
        have f2 := Int.mul_ediv_add_emod RA (n / 4294967296)
        have f3 := Int.emod_nonneg RA (show n / 4294967296 ≠ 0 by omega)
        have f4 := Int.emod_lt_of_pos RA (show 0 < n / 4294967296 by omega)
        rw [Int.mul_comm (n / 4294967296)] at f2
        have f5 : 0 ≤ RA / (n / 4294967296) * (n / 4294967296) := Int.mul_nonneg f0 (by omega)
        have w1 : b1 = RA / (n / 4294967296) := by rw [hb1, Int.tdiv_eq_ediv_of_nonneg (by omega), Ul.u64_eq]; omega
        have w2 : b2 = RA / (n / 4294967296) * (n / 4294967296) := by rw [hb2, w1, Ul.u64_eq]; omega
        have w3 : b3 = RA - RA / (n / 4294967296) * (n / 4294967296) := by rw [hb3, w2, Ul.u64_eq]; omega
        rw [← w3, ← w1] at st
        have w4 : b3 < 4294967296 := by omega
        clear hb1 hb2 hb3 f0 f1 f2 f3 f4 f5 w1 w2 w3
        refine ⟨DigI RA d0 n, digM, ⟨_, _, rfl, st, by omega⟩, ?_⟩
        rintro qa ra ⟨_, _, he, hd, hr⟩
        simp only [List.cons.injEq, Vc.Vl.i.injEq, and_true] at he
        obtain ⟨rfl, rfl⟩ := he
        have hpos := hd.pos
        have hhi := hd.hi
        have qpos : 0 ≤ qa := Int.le_trans (Int.ediv_nonneg (by omega) (by omega)) hd.lo
        refine iteI (fun c1 => ?_) (fun c1 => ?_)
        · intro qb hqb rb hrb
          have nx := dig_next RA d0 n qa ra hd (by omega) (by omega) (by omega) (by omega) t0 t1 (.inl c1)
          have e1 : qb = qa - 1 := by rw [hqb, Ul.u64_eq]; omega
          have e2 : rb = ra + n / 4294967296 := by rw [hrb, Ul.u64_eq]; omega
          rw [← e1, ← e2] at nx
          clear hqb hrb
          refine iteI (fun c2 => ?_) (fun c2 => ?_)
          · have fq := dig_break RA d0 n qb rb nx.1 t0 (by omega) (by omega) nx.2.1 c2
            have hq0 := fq
            have hq0 := hq0
            intro c1 hc1 c2 hc2 c3 hc3 c4 hc4 c5 hc5 c6 hc6
            refine ⟨by omega, ?_⟩
            intro c7 hc7
            have fin := div64_fin h l y u d1 d0 qA qb s hy hN (by rw [hq1, hn]) (by rw [hq0, hR1, hn])
            have m1 := Int.mul_ediv_add_emod (RA * 4294967296 + d0) n
            rw [← hq0] at m1
            have m2 := Int.emod_nonneg (RA * 4294967296 + d0) (show n ≠ 0 by omega)
            have m3 := Int.emod_lt_of_pos (RA * 4294967296 + d0) (show 0 < n by omega)
            have e6 : c6 = (RA * 4294967296 + d0) % n := by
              rw [hc6, hc5, hc4, hc3]
              simp only [Ul.u64_eq]
              rw [Int.mul_comm n] at m1
              generalize (RA * 4294967296 + d0) % n = R2 at *
              generalize qb * n = P at *
              omega
            rw [hc7, Int.fdiv_eq_ediv_of_nonneg _ (Int.le_of_lt (pow2_pos s)), e6]
            rw [← hn, ← hR1] at fin
            have l2 := dig_lt RA d0 n r0 r1 hd00 hd01 t0
            rw [← hq0] at l2
            have g2 : 0 ≤ qb := by rw [hq0]; exact Int.ediv_nonneg (by omega) (by omega)
            have e2 : c2 = (h * 18446744073709551616 + l) / y := by
              rw [← fin.1, hc2, hc1]; simp only [Ul.u64_eq]; omega
            rw [e2, fin.2]
          · exact ⟨⟨_, _, rfl, nx.1, by omega⟩, by simp only [digM]; omega⟩
        · intro a ha b hb c hc
          have pr := mul_le_of qa (n % 4294967296) 4294967295 4294967295 (by omega) (by omega) (by omega) (by omega)
          have ea : a = qa * (n % 4294967296) := by rw [ha, Ul.u64_eq]; omega
          have ec : c = 4294967296 * ra + d0 := by rw [hc, hb]; simp only [Ul.u64_eq]; omega
          clear ha hb hc
          refine iteI (fun c2 => ?_) (fun c2 => ?_)
          · intro qb hqb rb hrb
            have nx := dig_next RA d0 n qa ra hd (by omega) (by omega) (by omega) (by omega) t0 t1 (.inr (by rw [← ea, ← ec]; exact c2))
            have e1 : qb = qa - 1 := by rw [hqb, Ul.u64_eq]; omega
            have e2 : rb = ra + n / 4294967296 := by rw [hrb, Ul.u64_eq]; omega
            rw [← e1, ← e2] at nx
            clear hqb hrb
            refine iteI (fun c2 => ?_) (fun c2 => ?_)
            · have fq := dig_break RA d0 n qb rb nx.1 t0 (by omega) (by omega) nx.2.1 c2
              have hq0 := fq
              have hq0 := hq0
              intro c1 hc1 c2 hc2 c3 hc3 c4 hc4 c5 hc5 c6 hc6
              refine ⟨by omega, ?_⟩
              intro c7 hc7
              have fin := div64_fin h l y u d1 d0 qA qb s hy hN (by rw [hq1, hn]) (by rw [hq0, hR1, hn])
              have m1 := Int.mul_ediv_add_emod (RA * 4294967296 + d0) n
              rw [← hq0] at m1
              have m2 := Int.emod_nonneg (RA * 4294967296 + d0) (show n ≠ 0 by omega)
              have m3 := Int.emod_lt_of_pos (RA * 4294967296 + d0) (show 0 < n by omega)
              have e6 : c6 = (RA * 4294967296 + d0) % n := by
                rw [hc6, hc5, hc4, hc3]
                simp only [Ul.u64_eq]
                rw [Int.mul_comm n] at m1
                generalize (RA * 4294967296 + d0) % n = R2 at *
                generalize qb * n = P at *
                omega
              rw [hc7, Int.fdiv_eq_ediv_of_nonneg _ (Int.le_of_lt (pow2_pos s)), e6]
              rw [← hn, ← hR1] at fin
              have l2 := dig_lt RA d0 n r0 r1 hd00 hd01 t0
              rw [← hq0] at l2
              have g2 : 0 ≤ qb := by rw [hq0]; exact Int.ediv_nonneg (by omega) (by omega)
              have e2 : c2 = (h * 18446744073709551616 + l) / y := by
                rw [← fin.1, hc2, hc1]; simp only [Ul.u64_eq]; omega
              rw [e2, fin.2]
            · exact ⟨⟨_, _, rfl, nx.1, by omega⟩, by simp only [digM]; omega⟩
          · have fq := dig_end RA d0 n qa ra hd t0 (by rw [← ea, ← ec]; omega)
            have hq0 := fq
            have hq0 := hq0
            intro c1 hc1 c2 hc2 c3 hc3 c4 hc4 c5 hc5 c6 hc6
            refine ⟨by omega, ?_⟩
            intro c7 hc7
            have fin := div64_fin h l y u d1 d0 qA qa s hy hN (by rw [hq1, hn]) (by rw [hq0, hR1, hn])
            have m1 := Int.mul_ediv_add_emod (RA * 4294967296 + d0) n
            rw [← hq0] at m1
            have m2 := Int.emod_nonneg (RA * 4294967296 + d0) (show n ≠ 0 by omega)
            have m3 := Int.emod_lt_of_pos (RA * 4294967296 + d0) (show 0 < n by omega)
            have e6 : c6 = (RA * 4294967296 + d0) % n := by
              rw [hc6, hc5, hc4, hc3]
              simp only [Ul.u64_eq]
              rw [Int.mul_comm n] at m1
              generalize (RA * 4294967296 + d0) % n = R2 at *
              generalize qa * n = P at *
              omega
            rw [hc7, Int.fdiv_eq_ediv_of_nonneg _ (Int.le_of_lt (pow2_pos s)), e6]
            rw [← hn, ← hR1] at fin
            have l2 := dig_lt RA d0 n r0 r1 hd00 hd01 t0
            rw [← hq0] at l2
            have g2 : 0 ≤ qa := by rw [hq0]; exact Int.ediv_nonneg (by omega) (by omega)
            have e2 : c2 = (h * 18446744073709551616 + l) / y := by
              rw [← fin.1, hc2, hc1]; simp only [Ul.u64_eq]; omega
            rw [e2, fin.2]
end Go.Proofs.Ytdhiapllbjamfaa
