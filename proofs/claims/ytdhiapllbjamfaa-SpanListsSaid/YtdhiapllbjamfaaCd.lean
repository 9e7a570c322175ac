/- Contracts: the reference's division and quotients. -/
import Derived.Test.YtdhiapllbjamfaaCc
set_option linter.unusedVariables false
set_option linter.unusedSimpArgs false
namespace Go.Proofs.Ytdhiapllbjamfaa
open Go Go.RowKit Ul Vc
attribute [local irreducible] Go.Calls

/-- The state of the long division. -/
def DivI (a y : Int) (l : List Vc.Vl) : Prop := ∃ j : Nat, j ≤ 128 ∧ l = [.i ((j : Int) - 1), .i (hiW (a / 2 ^ j % y)), .i (loW (a / 2 ^ j % y)), .i (hiW (a / 2 ^ j / y)), .i (loW (a / 2 ^ j / y))]
def measI (l : List Vc.Vl) : Nat := match l with | .i x :: _ => (x + 1).toNat | _ => 0
theorem DivI.next {a y : Int} {m : Nat} {x Q R : Int} (hm : m < 128) (hx : x = IntKind.i64.wrap ((m : Int) - 1)) (hR : a / 2 ^ m % y = R) (hQ : a / 2 ^ m / y = Q) (z0 z1 z2 z3 z4 : Int) (hz : z0 = (m : Int)) :
    DivI a y [.i x, .i (hiW R), .i (loW R), .i (hiW Q), .i (loW Q)] ∧ measI [.i x, .i (hiW R), .i (loW R), .i (hiW Q), .i (loW Q)] < measI [.i z0, .i z1, .i z2, .i z3, .i z4] := by
  subst hR hQ hz
  have e : x = (m : Int) - 1 := by rw [hx, Ul.i64_eq]; omega
  refine ⟨⟨m, by omega, by rw [e]⟩, ?_⟩
  simp only [measI]; omega


theorem divide_W (a y : Int) (w : World) (h0 : 0 ≤ a) (h1 : a < 170141183460469231731687303715884105728) (y0 : 0 < y) (y1 : y < 85070591730234615865843651857942052864) :
    Calls Try.prog 137 #[VW a, VW y] w (Vc.Ret (.tuple #[VW (a / y), VW (a % y)]) w) := by
  have hla := lo_bd a
  have hly := lo_bd y
  -- the long division
  have inner : ∀ (x5 x6 x7 x8 x9 : Int), DivI a y [.i x5, .i x6, .i x7, .i x8, .i x9] → ((0 ≤ x5) → ∃ m : Nat, m < 128 ∧ x5 = (m : Int) ∧ x6 = hiW (a / 2 ^ (m + 1) % y) ∧ x7 = loW (a / 2 ^ (m + 1) % y) ∧ x8 = hiW (a / 2 ^ (m + 1) / y) ∧ x9 = loW (a / 2 ^ (m + 1) / y)) ∧
      (¬ 0 ≤ x5 → x6 = hiW (a % y) ∧ x7 = loW (a % y) ∧ x8 = hiW (a / y) ∧ x9 = loW (a / y)) := by
    rintro x5 x6 x7 x8 x9 ⟨j, hj, hl⟩
    simp only [List.cons.injEq, Vc.Vl.i.injEq, and_true] at hl
    obtain ⟨e5, e6, e7, e8, e9⟩ := hl
    refine ⟨fun h => ?_, fun h => ?_⟩
    · obtain ⟨m, rfl⟩ : ∃ m, j = m + 1 := ⟨j - 1, by omega⟩
      exact ⟨m, by omega, by omega, e6, e7, e8, e9⟩
    · obtain rfl : j = 0 := by omega
      simp only [Int.pow_zero, Int.ediv_one] at e6 e7 e8 e9
      exact ⟨e6, e7, e8, e9⟩
  have step : ∀ m : Nat, ∃ Q R : Int, Q = a / 2 ^ (m + 1) / y ∧ R = a / 2 ^ (m + 1) % y ∧ P127 (R + R) ∧ P127 (R + R + 1) ∧ P127 (Q + Q) ∧ P127 (Q + Q + 1) ∧ P127 y ∧ P127 (-y) ∧ P127 (R + R + -y) ∧ P127 (R + R + 1 + -y) ∧
      ((a / 2 ^ m % 2 = 1) → (R + R + 1 < y → a / 2 ^ m % y = R + R + 1 ∧ a / 2 ^ m / y = Q + Q) ∧ (¬ R + R + 1 < y → a / 2 ^ m % y = R + R + 1 + -y ∧ a / 2 ^ m / y = Q + Q + 1)) ∧
      (¬ (a / 2 ^ m % 2 = 1) → (R + R < y → a / 2 ^ m % y = R + R ∧ a / 2 ^ m / y = Q + Q) ∧ (¬ R + R < y → a / 2 ^ m % y = R + R + -y ∧ a / 2 ^ m / y = Q + Q + 1)) := by
    intro m
    have hst := bit_step a m
    have hld := longdiv (a / 2 ^ (m + 1)) (a / 2 ^ m % 2) y y0 (by omega) (by omega)
    rw [← hst] at hld
    have hQ := quo_le a y (m + 1) h0 y0
    have hQ' := quo_le a y m h0 y0
    refine ⟨_, _, rfl, rfl, ?_⟩
    generalize a / 2 ^ (m + 1) / y = Q at *
    generalize a / 2 ^ (m + 1) % y = R at *
    have hQ2 : 2 * Q ≤ a := by omega
    have hb := bit01 a m
    generalize a / 2 ^ m % 2 = B at *
    obtain ⟨d1, d2⟩ := hld
    refine ⟨by constructor <;> omega, by constructor <;> omega, by constructor <;> omega, by constructor <;> omega, by constructor <;> omega, by constructor <;> omega, by constructor <;> omega, by constructor <;> omega, fun hB => ⟨fun hc => ?_, fun hc => ?_⟩, fun hB => ⟨fun hc => ?_, fun hc => ?_⟩⟩
    · rw [d1, d2]; subst hB; constructor <;> split <;> omega
    · rw [d1, d2]; subst hB; constructor <;> split <;> omega
    · obtain rfl : B = 0 := by omega
      rw [d1, d2]; constructor <;> split <;> omega
    · obtain rfl : B = 0 := by omega
      rw [d1, d2]; constructor <;> split <;> omega
  refine vc_ullageref01_divide _ _ _ _ w _ ?_
  refine iteI (fun f1 => iteI (fun f2 => ?_) (fun f2 => ?_)) (fun f1 => ?_)
  · clear inner step
    have ea : loW a = a := by unfold hiW at f1; unfold loW; omega
    have ey : loW y = y := by unfold hiW at f2; unfold loW; omega
    rw [ea, ey]
    rw [ea] at hla; rw [ey] at hly
    have q0 : 0 ≤ a / y := Int.ediv_nonneg h0 (by omega)
    have q1 : a / y ≤ a := Int.ediv_le_self _ h0
    have r0 : 0 ≤ a % y := Int.emod_nonneg _ (by omega)
    have r1 : a % y < y := Int.emod_lt_of_pos _ y0
    have e1 := hiW_small (a / y) q0 (by omega)
    have e2 := hiW_small (a % y) r0 (by omega)
    rw [Int.tdiv_eq_ediv_of_nonneg h0, Int.tmod_eq_emod_of_nonneg h0]
    refine ⟨by omega, ?_⟩
    rintro _ rfl
    refine ⟨by omega, ?_⟩
    rintro _ rfl
    have e3 : IntKind.u64.wrap (a / y) = a / y := by rw [Ul.u64_eq]; omega
    rw [e3]
    show _ = Value.tuple #[VW _, VW _]
    unfold VW
    rw [e1.1, e1.2, e2.1, e2.2]
  · refine ⟨fun l => ∃ k : Nat, k ≤ 127 ∧ a < 2 ^ (k + 1) ∧ l = [.i (k : Int)], measI, ⟨127, by omega, Int.lt_trans h1 (by decide), rfl⟩, ?_⟩
    rintro x4 ⟨k, hk, hka, hl⟩
    simp only [List.cons.injEq, Vc.Vl.i.injEq, and_true] at hl
    subst hl
    refine iteI (fun h => ?_) (fun h => ?_)
    · (repeat apply Exists.intro); refine And.intro (fun _ _ => bit_W a k _ (by omega) h0 h1) ?_
      refine iteI (fun hb => ?_) (fun hb => ?_)
      · refine ⟨DivI a y, measI, ⟨k + 1, by omega, ?_⟩, ?_⟩
        · have ez : a / 2 ^ (k + 1) = 0 := Int.ediv_eq_zero_of_lt h0 hka
          rw [ez, Int.zero_emod, Int.zero_ediv]
          simp only [hiW_0, loW_0, List.cons.injEq, Vc.Vl.i.injEq, and_true]; omega
        · intro x5 x6 x7 x8 x9 hI
          obtain ⟨i1, i2⟩ := inner _ _ _ _ _ hI
          refine iteI (fun h => ?_) (fun h => ?_)
          · obtain ⟨m, hm, rfl, rfl, rfl, rfl, rfl⟩ := i1 h
            obtain ⟨Q, R, hQ, hR, p1, p2, p3, p4, p5, p6, p7, p8, c1, c2⟩ := step m
            rw [← hQ, ← hR]
            clear hI i1 i2 step inner
            (repeat apply Exists.intro); refine And.intro (fun _ _ => twice_W R _ p1) ?_
            (repeat apply Exists.intro); refine And.intro (fun _ _ => bit_W a m _ hm h0 h1) ?_
            refine iteI (fun hb => ?_) (fun hb => ?_)
            · have c := c1 (of_decide_eq_true hb)
              (repeat apply Exists.intro); refine And.intro (fun _ _ => plus_1 _ _ p2) ?_
              (repeat apply Exists.intro); refine And.intro (fun _ _ => twice_W _ _ p3) ?_
              (repeat apply Exists.intro); refine And.intro (fun _ _ => less_W _ _ _) ?_
              refine iteI (fun hc => ?_) (fun hc => ?_)
              · have c := c.1 (of_decide_eq_true hc)
                intro x hx
                exact DivI.next hm hx c.1 c.2 _ _ _ _ _ rfl
              · have c := c.2 (by simpa using hc)
                (repeat apply Exists.intro); refine And.intro (fun _ _ => minus_W y _ p5 p6) ?_
                (repeat apply Exists.intro); refine And.intro (fun _ _ => plus_W _ _ _ p8) ?_
                (repeat apply Exists.intro); refine And.intro (fun _ _ => plus_1 _ _ p4) ?_
                intro x hx
                exact DivI.next hm hx c.1 c.2 _ _ _ _ _ rfl
            · have c := c2 (by simpa using hb)
              (repeat apply Exists.intro); refine And.intro (fun _ _ => twice_W _ _ p3) ?_
              (repeat apply Exists.intro); refine And.intro (fun _ _ => less_W _ _ _) ?_
              refine iteI (fun hc => ?_) (fun hc => ?_)
              · have c := c.1 (of_decide_eq_true hc)
                intro x hx
                exact DivI.next hm hx c.1 c.2 _ _ _ _ _ rfl
              · have c := c.2 (by simpa using hc)
                (repeat apply Exists.intro); refine And.intro (fun _ _ => minus_W y _ p5 p6) ?_
                (repeat apply Exists.intro); refine And.intro (fun _ _ => plus_W _ _ _ p7) ?_
                (repeat apply Exists.intro); refine And.intro (fun _ _ => plus_1 _ _ p4) ?_
                intro x hx
                exact DivI.next hm hx c.1 c.2 _ _ _ _ _ rfl
          · obtain ⟨rfl, rfl, rfl, rfl⟩ := i2 h; rfl
      · intro x hx
        have e : x = ((k - 1 : Nat) : Int) := by rw [hx, Ul.i64_eq]; omega
        refine ⟨⟨k - 1, by omega, ?_, by rw [e]⟩, ?_⟩
        · rw [show k - 1 + 1 = k by omega]
          exact lt_pow_of_bit a k h0 hka (by simpa using hb)
        · simp only [measI]; omega
    · refine ⟨DivI a y, measI, ⟨k + 1, by omega, ?_⟩, ?_⟩
      · have ez : a / 2 ^ (k + 1) = 0 := Int.ediv_eq_zero_of_lt h0 hka
        rw [ez, Int.zero_emod, Int.zero_ediv]
        simp only [hiW_0, loW_0, List.cons.injEq, Vc.Vl.i.injEq, and_true]; omega
      · intro x5 x6 x7 x8 x9 hI
        obtain ⟨i1, i2⟩ := inner _ _ _ _ _ hI
        refine iteI (fun h => ?_) (fun h => ?_)
        · obtain ⟨m, hm, rfl, rfl, rfl, rfl, rfl⟩ := i1 h
          obtain ⟨Q, R, hQ, hR, p1, p2, p3, p4, p5, p6, p7, p8, c1, c2⟩ := step m
          rw [← hQ, ← hR]
          clear hI i1 i2 step inner
          (repeat apply Exists.intro); refine And.intro (fun _ _ => twice_W R _ p1) ?_
          (repeat apply Exists.intro); refine And.intro (fun _ _ => bit_W a m _ hm h0 h1) ?_
          refine iteI (fun hb => ?_) (fun hb => ?_)
          · have c := c1 (of_decide_eq_true hb)
            (repeat apply Exists.intro); refine And.intro (fun _ _ => plus_1 _ _ p2) ?_
            (repeat apply Exists.intro); refine And.intro (fun _ _ => twice_W _ _ p3) ?_
            (repeat apply Exists.intro); refine And.intro (fun _ _ => less_W _ _ _) ?_
            refine iteI (fun hc => ?_) (fun hc => ?_)
            · have c := c.1 (of_decide_eq_true hc)
              intro x hx
              exact DivI.next hm hx c.1 c.2 _ _ _ _ _ rfl
            · have c := c.2 (by simpa using hc)
              (repeat apply Exists.intro); refine And.intro (fun _ _ => minus_W y _ p5 p6) ?_
              (repeat apply Exists.intro); refine And.intro (fun _ _ => plus_W _ _ _ p8) ?_
              (repeat apply Exists.intro); refine And.intro (fun _ _ => plus_1 _ _ p4) ?_
              intro x hx
              exact DivI.next hm hx c.1 c.2 _ _ _ _ _ rfl
          · have c := c2 (by simpa using hb)
            (repeat apply Exists.intro); refine And.intro (fun _ _ => twice_W _ _ p3) ?_
            (repeat apply Exists.intro); refine And.intro (fun _ _ => less_W _ _ _) ?_
            refine iteI (fun hc => ?_) (fun hc => ?_)
            · have c := c.1 (of_decide_eq_true hc)
              intro x hx
              exact DivI.next hm hx c.1 c.2 _ _ _ _ _ rfl
            · have c := c.2 (by simpa using hc)
              (repeat apply Exists.intro); refine And.intro (fun _ _ => minus_W y _ p5 p6) ?_
              (repeat apply Exists.intro); refine And.intro (fun _ _ => plus_W _ _ _ p7) ?_
              (repeat apply Exists.intro); refine And.intro (fun _ _ => plus_1 _ _ p4) ?_
              intro x hx
              exact DivI.next hm hx c.1 c.2 _ _ _ _ _ rfl
        · obtain ⟨rfl, rfl, rfl, rfl⟩ := i2 h; rfl
  · refine ⟨fun l => ∃ k : Nat, k ≤ 127 ∧ a < 2 ^ (k + 1) ∧ l = [.i (k : Int)], measI, ⟨127, by omega, Int.lt_trans h1 (by decide), rfl⟩, ?_⟩
    rintro x4 ⟨k, hk, hka, hl⟩
    simp only [List.cons.injEq, Vc.Vl.i.injEq, and_true] at hl
    subst hl
    refine iteI (fun h => ?_) (fun h => ?_)
    · (repeat apply Exists.intro); refine And.intro (fun _ _ => bit_W a k _ (by omega) h0 h1) ?_
      refine iteI (fun hb => ?_) (fun hb => ?_)
      · refine ⟨DivI a y, measI, ⟨k + 1, by omega, ?_⟩, ?_⟩
        · have ez : a / 2 ^ (k + 1) = 0 := Int.ediv_eq_zero_of_lt h0 hka
          rw [ez, Int.zero_emod, Int.zero_ediv]
          simp only [hiW_0, loW_0, List.cons.injEq, Vc.Vl.i.injEq, and_true]; omega
        · intro x5 x6 x7 x8 x9 hI
          obtain ⟨i1, i2⟩ := inner _ _ _ _ _ hI
          refine iteI (fun h => ?_) (fun h => ?_)
          · obtain ⟨m, hm, rfl, rfl, rfl, rfl, rfl⟩ := i1 h
            obtain ⟨Q, R, hQ, hR, p1, p2, p3, p4, p5, p6, p7, p8, c1, c2⟩ := step m
            rw [← hQ, ← hR]
            clear hI i1 i2 step inner
            (repeat apply Exists.intro); refine And.intro (fun _ _ => twice_W R _ p1) ?_
            (repeat apply Exists.intro); refine And.intro (fun _ _ => bit_W a m _ hm h0 h1) ?_
            refine iteI (fun hb => ?_) (fun hb => ?_)
            · have c := c1 (of_decide_eq_true hb)
              (repeat apply Exists.intro); refine And.intro (fun _ _ => plus_1 _ _ p2) ?_
              (repeat apply Exists.intro); refine And.intro (fun _ _ => twice_W _ _ p3) ?_
              (repeat apply Exists.intro); refine And.intro (fun _ _ => less_W _ _ _) ?_
              refine iteI (fun hc => ?_) (fun hc => ?_)
              · have c := c.1 (of_decide_eq_true hc)
                intro x hx
                exact DivI.next hm hx c.1 c.2 _ _ _ _ _ rfl
              · have c := c.2 (by simpa using hc)
                (repeat apply Exists.intro); refine And.intro (fun _ _ => minus_W y _ p5 p6) ?_
                (repeat apply Exists.intro); refine And.intro (fun _ _ => plus_W _ _ _ p8) ?_
                (repeat apply Exists.intro); refine And.intro (fun _ _ => plus_1 _ _ p4) ?_
                intro x hx
                exact DivI.next hm hx c.1 c.2 _ _ _ _ _ rfl
            · have c := c2 (by simpa using hb)
              (repeat apply Exists.intro); refine And.intro (fun _ _ => twice_W _ _ p3) ?_
              (repeat apply Exists.intro); refine And.intro (fun _ _ => less_W _ _ _) ?_
              refine iteI (fun hc => ?_) (fun hc => ?_)
              · have c := c.1 (of_decide_eq_true hc)
                intro x hx
                exact DivI.next hm hx c.1 c.2 _ _ _ _ _ rfl
              · have c := c.2 (by simpa using hc)
                (repeat apply Exists.intro); refine And.intro (fun _ _ => minus_W y _ p5 p6) ?_
                (repeat apply Exists.intro); refine And.intro (fun _ _ => plus_W _ _ _ p7) ?_
                (repeat apply Exists.intro); refine And.intro (fun _ _ => plus_1 _ _ p4) ?_
                intro x hx
                exact DivI.next hm hx c.1 c.2 _ _ _ _ _ rfl
          · obtain ⟨rfl, rfl, rfl, rfl⟩ := i2 h; rfl
      · intro x hx
        have e : x = ((k - 1 : Nat) : Int) := by rw [hx, Ul.i64_eq]; omega
        refine ⟨⟨k - 1, by omega, ?_, by rw [e]⟩, ?_⟩
        · rw [show k - 1 + 1 = k by omega]
          exact lt_pow_of_bit a k h0 hka (by simpa using hb)
        · simp only [measI]; omega
    · refine ⟨DivI a y, measI, ⟨k + 1, by omega, ?_⟩, ?_⟩
      · have ez : a / 2 ^ (k + 1) = 0 := Int.ediv_eq_zero_of_lt h0 hka
        rw [ez, Int.zero_emod, Int.zero_ediv]
        simp only [hiW_0, loW_0, List.cons.injEq, Vc.Vl.i.injEq, and_true]; omega
      · intro x5 x6 x7 x8 x9 hI
        obtain ⟨i1, i2⟩ := inner _ _ _ _ _ hI
        refine iteI (fun h => ?_) (fun h => ?_)
        · obtain ⟨m, hm, rfl, rfl, rfl, rfl, rfl⟩ := i1 h
          obtain ⟨Q, R, hQ, hR, p1, p2, p3, p4, p5, p6, p7, p8, c1, c2⟩ := step m
          rw [← hQ, ← hR]
          clear hI i1 i2 step inner
          (repeat apply Exists.intro); refine And.intro (fun _ _ => twice_W R _ p1) ?_
          (repeat apply Exists.intro); refine And.intro (fun _ _ => bit_W a m _ hm h0 h1) ?_
          refine iteI (fun hb => ?_) (fun hb => ?_)
          · have c := c1 (of_decide_eq_true hb)
            (repeat apply Exists.intro); refine And.intro (fun _ _ => plus_1 _ _ p2) ?_
            (repeat apply Exists.intro); refine And.intro (fun _ _ => twice_W _ _ p3) ?_
            (repeat apply Exists.intro); refine And.intro (fun _ _ => less_W _ _ _) ?_
            refine iteI (fun hc => ?_) (fun hc => ?_)
            · have c := c.1 (of_decide_eq_true hc)
              intro x hx
              exact DivI.next hm hx c.1 c.2 _ _ _ _ _ rfl
            · have c := c.2 (by simpa using hc)
              (repeat apply Exists.intro); refine And.intro (fun _ _ => minus_W y _ p5 p6) ?_
              (repeat apply Exists.intro); refine And.intro (fun _ _ => plus_W _ _ _ p8) ?_
              (repeat apply Exists.intro); refine And.intro (fun _ _ => plus_1 _ _ p4) ?_
              intro x hx
              exact DivI.next hm hx c.1 c.2 _ _ _ _ _ rfl
          · have c := c2 (by simpa using hb)
            (repeat apply Exists.intro); refine And.intro (fun _ _ => twice_W _ _ p3) ?_
            (repeat apply Exists.intro); refine And.intro (fun _ _ => less_W _ _ _) ?_
            refine iteI (fun hc => ?_) (fun hc => ?_)
            · have c := c.1 (of_decide_eq_true hc)
              intro x hx
              exact DivI.next hm hx c.1 c.2 _ _ _ _ _ rfl
            · have c := c.2 (by simpa using hc)
              (repeat apply Exists.intro); refine And.intro (fun _ _ => minus_W y _ p5 p6) ?_
              (repeat apply Exists.intro); refine And.intro (fun _ _ => plus_W _ _ _ p7) ?_
              (repeat apply Exists.intro); refine And.intro (fun _ _ => plus_1 _ _ p4) ?_
              intro x hx
              exact DivI.next hm hx c.1 c.2 _ _ _ _ _ rfl
        · obtain ⟨rfl, rfl, rfl, rfl⟩ := i2 h; rfl

theorem quotient_neg (a y : Int) (w : World) (h0 : -170141183460469231731687303715884105728 < a) (hn : a < 0) (y0 : 0 < y) (y1 : y < 85070591730234615865843651857942052864) :
    Calls Try.prog 122 #[VW a, VW y] w (Vc.Ret (.tuple #[VW (fl a y), VW (ce a y)]) w) := by
  have hpa : P127 a := ⟨by omega, by omega⟩
  have hpm : P127 (-a) := ⟨by omega, by omega⟩
  have hh : hiW a < 0 := by unfold hiW; omega
  obtain ⟨q0, q1, q2⟩ := quo_neg a y h0 hn y0
  have pm' : P127 (-(-a / y)) := ⟨by omega, by omega⟩
  have pq' : P127 (-a / y) := ⟨by omega, by omega⟩
  have ev := quo_neg_val a y y0
  rw [ev.1, ev.2]
  refine vc_ullageref01_Quotient _ _ _ _ w _ ?_
  refine iteI (fun _ => ?_) (fun h => absurd hh h)
  (repeat apply Exists.intro); refine And.intro (fun _ _ => minus_W a _ hpa hpm) ?_
  (repeat apply Exists.intro); refine And.intro (fun _ _ => divide_W (-a) y _ (by omega) (by omega) y0 y1) ?_
  (repeat apply Exists.intro); refine And.intro (fun _ _ => same_0 _ _) ?_
  refine iteI (fun hr => iteI (fun _ => ?_) (fun h => absurd hh h)) (fun hr => ?_)
  · have hr := of_decide_eq_true hr
    rw [if_pos hr]
    (repeat apply Exists.intro); refine And.intro (fun _ _ => minus_W _ _ pq' pm') ?_
    (repeat apply Exists.intro); refine And.intro (fun _ _ => minus_W _ _ pq' pm') ?_
    rfl
  · have hr : ¬ -a % y = 0 := by simpa using hr
    rw [if_neg hr]
    have := q2 hr
    have pq : P127 (-a / y + 1) := ⟨by omega, by omega⟩
    (repeat apply Exists.intro); refine And.intro (fun _ _ => plus_1 _ _ pq) ?_
    refine iteI (fun _ => ?_) (fun h => absurd hh h)
    (repeat apply Exists.intro); refine And.intro (fun _ _ => minus_W _ _ pq ⟨by omega, by omega⟩) ?_
    (repeat apply Exists.intro); refine And.intro (fun _ _ => minus_W _ _ pq' pm') ?_
    rfl
theorem quotient_pos (a y : Int) (w : World) (h0 : 0 ≤ a) (h1 : a < 170141183460469231731687303715884105727) (y0 : 0 < y) (y1 : y < 85070591730234615865843651857942052864) :
    Calls Try.prog 122 #[VW a, VW y] w (Vc.Ret (.tuple #[VW (fl a y), VW (ce a y)]) w) := by
  have hh : ¬ hiW a < 0 := by unfold hiW; omega
  obtain ⟨q0, q1, q2⟩ := quo_pos a y h0 y0
  have ev := quo_pos_val a y h0 y0
  rw [ev.1, ev.2]
  refine vc_ullageref01_Quotient _ _ _ _ w _ ?_
  refine iteI (fun h => absurd h hh) (fun _ => ?_)
  (repeat apply Exists.intro); refine And.intro (fun _ _ => divide_W a y _ h0 (by omega) y0 y1) ?_
  (repeat apply Exists.intro); refine And.intro (fun _ _ => same_0 _ _) ?_
  refine iteI (fun hr => iteI (fun h => absurd h hh) (fun _ => ?_)) (fun hr => ?_)
  · rw [if_pos (of_decide_eq_true hr)]
  · have hr : ¬ a % y = 0 := by simpa using hr
    rw [if_neg hr]
    (repeat apply Exists.intro); refine And.intro (fun _ _ => plus_1 _ _ ⟨by omega, by omega⟩) ?_
    refine iteI (fun h => absurd h hh) (fun _ => ?_)
    rfl
theorem quotient_W (a y : Int) (w : World) (h0 : -170141183460469231731687303715884105728 < a) (h1 : a < 170141183460469231731687303715884105727) (y0 : 0 < y) (y1 : y < 85070591730234615865843651857942052864) :
    Calls Try.prog 122 #[VW a, VW y] w (Vc.Ret (.tuple #[VW (fl a y), VW (ce a y)]) w) := by
  by_cases h : a < 0
  · exact quotient_neg a y w h0 h y0 y1
  · exact quotient_pos a y w (by omega) h1 y0 y1
theorem rfloor_W (a y : Int) (w : World) (h0 : -170141183460469231731687303715884105728 < a) (h1 : a < 170141183460469231731687303715884105727) (y0 : 0 < y) (y1 : y < 85070591730234615865843651857942052864) :
    Calls Try.prog 80 #[VW a, VW y] w (Vc.Ret (VW (fl a y)) w) := by
  refine vc_ullageref01_Floor _ _ _ _ w _ ?_
  (repeat apply Exists.intro); refine And.intro (fun _ _ => quotient_W a y _ h0 h1 y0 y1) ?_
  rfl
theorem rceil_W (a y : Int) (w : World) (h0 : -170141183460469231731687303715884105728 < a) (h1 : a < 170141183460469231731687303715884105727) (y0 : 0 < y) (y1 : y < 85070591730234615865843651857942052864) :
    Calls Try.prog 130 #[VW a, VW y] w (Vc.Ret (VW (ce a y)) w) := by
  refine vc_ullageref01_Ceil _ _ _ _ w _ ?_
  (repeat apply Exists.intro); refine And.intro (fun _ _ => quotient_W a y _ h0 h1 y0 y1) ?_
  rfl
end Go.Proofs.Ytdhiapllbjamfaa
