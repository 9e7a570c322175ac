/- Contracts of layer 1, as far as they are wanted (written by program out of the templates). -/
import Derived.Test.YtcoakpdafpclpaaDoorLz
import Derived.Test.YtcoakpdafpclpaaDoorTtG1
import Derived.Test.YtcoakpdafpclpaaDoorTtG2
import Derived.WalkKit
import Derived.Lib.Mul64

namespace Ul
/-- A span is valid. -/
def ok (lo hi : Int) : Bool := decide (-9223372036854775807 ≤ lo) && decide (-9223372036854775807 ≤ hi) && decide (lo ≤ hi)
/-- Lo, Hi, error. -/
abbrev R := Int × Int × Int
def fit (lo hi : Int) : R := if -9223372036854775807 ≤ lo ∧ lo ≤ 9223372036854775807 ∧ -9223372036854775807 ≤ hi ∧ hi ≤ 9223372036854775807 then (lo, hi, 0) else (0, 0, 4)
def order (a b c d : Int) : Int := if ok a b && ok c d then (if b < c then -1 else if d < a then 1 else 0) else 0
def sign (a b : Int) : Int := order a b 0 0
def ofInt (n : Int) : R := fit (n * 4294967296) (n * 4294967296)
/-- A number that an int64 (a uint64) holds. -/
def I64 (n : Int) : Prop := -9223372036854775808 ≤ n ∧ n ≤ 9223372036854775807
end Ul
set_option linter.unusedVariables false
set_option linter.unusedSimpArgs false
namespace Vc
open Go Go.RowKit
theorem iteI {p A B : Prop} (a : p → A) (b : ¬ p → B) : (p → A) ∧ (¬ p → B) := ⟨a, b⟩
theorem Ret.as {P : Program} {f : FuncId} {args : Array Value} {W : World} {u v : Value} (h : Calls P f args W (Ret u W)) (e : u = v) : Calls P f args W (Ret v W) := e ▸ h
theorem int1 {k : IntKind} {a a' : Int} (h : a = a') : Value.int k a = .int k a' := by rw [h]
theorem bool1 {a a' : Bool} (h : a = a') : Value.bool a = .bool a' := by rw [h]
/-- A span; a span and an error; a number and an error; two spans and an error. -/
abbrev S (lo hi : Int) : Value := .agg #[.int .i64 lo, .int .i64 hi]
abbrev RV (r : Ul.R) : Value := .tuple #[S r.1 r.2.1, .int .i64 r.2.2]
theorem rv {a b e : Int} {r : Ul.R} (h : (a, b, e) = r) : (.tuple #[.agg #[.int .i64 a, .int .i64 b], .int .i64 e] : Value) = RV r := by rw [← h]
end Vc
set_option linter.unusedVariables false
namespace Go.Proofs.YtcoakpdafpclpaaDoor
open Go Go.RowKit Ul Vc
attribute [local irreducible] Go.Calls
theorem valid_any (x : Int) (w : World) : Calls Tryd.prog 31 #[.int .i64 x] w (Vc.Ret (.bool (decide (-9223372036854775807 ≤ x))) w) := by
  refine vc_span_valid x w _ ?_
  simp
theorem number_any (x : Int) (w : World) : Calls Tryd.prog 37 #[.int .i64 x] w (Vc.Ret (.bool (decide (-9223372036854775807 ≤ x))) w) := by
  refine vc_ullageref01_Number x w _ ?_
  simp
end Go.Proofs.YtcoakpdafpclpaaDoor
set_option linter.unusedVariables false
namespace Ul
open Go Go.RowKit
def hiW (v : Int) : Int := v / 18446744073709551616
def loW (v : Int) : Int := v % 18446744073709551616
/-- A number that two words hold. -/
def P127 (v : Int) : Prop := -170141183460469231731687303715884105728 ≤ v ∧ v < 170141183460469231731687303715884105728
theorem lo_bd (v : Int) : 0 ≤ loW v ∧ loW v ≤ 18446744073709551615 := by unfold loW; omega
theorem hi_bd (v : Int) (h : P127 v) : -9223372036854775808 ≤ hiW v ∧ hiW v ≤ 9223372036854775807 := by
  obtain ⟨h1, h2⟩ := h; unfold hiW; omega
/-- W{H, L}: a number as a value. -/
abbrev VW (v : Int) : Value := .agg #[.int .i64 (hiW v), .int .u64 (loW v)]
theorem i64_eq (x : Int) : IntKind.i64.wrap x = (x + 9223372036854775808) % 18446744073709551616 - 9223372036854775808 := IntKind.wrap_i64 x
theorem u64_eq (x : Int) : IntKind.u64.wrap x = x % 18446744073709551616 := by
  simp [IntKind.wrap, IntKind.bits, IntKind.signed]
theorem ofInt_toNat (x : Int) : ((BitVec.ofInt 64 x).toNat : Int) = x % 18446744073709551616 := by
  rw [BitVec.toNat_ofInt]; simp; omega
theorem i64_not (x : Int) (h0 : -9223372036854775808 ≤ x) (h1 : x ≤ 9223372036854775807) : bits .xor .i64 (-1) x = -x - 1 := by
  show IntKind.i64.wrap ((BitVec.ofInt 64 (-1) ^^^ BitVec.ofInt 64 x).toNat : Int) = _
  have e : BitVec.ofInt 64 (-1) = BitVec.allOnes 64 := by decide
  rw [e, BitVec.allOnes_xor, BitVec.toNat_not, IntKind.wrap_i64]
  have := ofInt_toNat x
  have h2 := (BitVec.ofInt 64 x).isLt
  omega
theorem u64_not (x : Int) (h0 : 0 ≤ x) (h1 : x ≤ 18446744073709551615) : bits .xor .u64 IntKind.u64.max x = 18446744073709551615 - x := by
  have e : IntKind.u64.max = 18446744073709551615 := by decide
  rw [e]
  show IntKind.u64.wrap ((BitVec.ofInt 64 18446744073709551615 ^^^ BitVec.ofInt 64 x).toNat : Int) = _
  have e : BitVec.ofInt 64 18446744073709551615 = BitVec.allOnes 64 := by decide
  rw [e, BitVec.allOnes_xor, BitVec.toNat_not, IntKind.wrap_u64]
  have := ofInt_toNat x
  have h2 := (BitVec.ofInt 64 x).isLt
  omega
theorem and1_i64 (x : Int) (h0 : 0 ≤ x) (h1 : x ≤ 9223372036854775807) : bits .and .i64 x 1 = x % 2 := by
  show IntKind.i64.wrap ((BitVec.ofInt 64 x &&& BitVec.ofInt 64 1).toNat : Int) = _
  have e1 := ofInt_toNat x
  rw [BitVec.toNat_and, IntKind.wrap_i64, show (BitVec.ofInt 64 1).toNat = 1 by decide, nat_mask1]
  omega
/-- An int64 without its sign. -/
def absI (n : Int) : Int := if n < 0 then -n else n
end Ul
set_option linter.unusedVariables false
namespace Ul
open Go Go.RowKit
/-- A sign and a size. -/
def sv (n : Bool) (m : Int) : Int := if n then -m else m
abbrev VB (n : Bool) (m : Int) : Value := .agg #[.bool n, .int .u64 (hiW m), .int .u64 (loW m)]
/-- What two words hold. -/
def P128 (m : Int) : Prop := 0 ≤ m ∧ m < 340282366920938463463374607431768211456
theorem hi_u (m : Int) (h : P128 m) : 0 ≤ hiW m ∧ hiW m ≤ 18446744073709551615 := by obtain ⟨h1, h2⟩ := h; unfold hiW; omega
theorem agg2 {k l : IntKind} {a a' b b' : Int} (h : a = a') (h' : b = b') : Value.agg #[.int k a, .int l b] = .agg #[.int k a', .int l b'] := by rw [h, h']
end Ul
set_option linter.unusedVariables false
namespace Go.Proofs.YtcoakpdafpclpaaDoor
open Go Go.RowKit Ul Vc
attribute [local irreducible] Go.Calls
theorem plus_raw (ah al bh bl : Int) (w : World) (h1 : 0 ≤ al) (h2 : al ≤ 18446744073709551615) (h3 : 0 ≤ bl) (h4 : bl ≤ 18446744073709551615) :
    Calls Tryd.prog 24 #[.agg #[.int .i64 ah, .int .u64 al], .agg #[.int .i64 bh, .int .u64 bl]] w
      (Vc.Ret (.agg #[.int .i64 (IntKind.i64.wrap (ah + bh + (al + bl) / 18446744073709551616)), .int .u64 ((al + bl) % 18446744073709551616)]) w) := by
  refine vc_ullageref01_Plus ah al bh bl w _ ?_
  (repeat' (first | (intro _ hx) | (refine Vc.iteI (fun h => ?_) (fun h => ?_)) | (refine And.intro (by omega) ?_)))
  all_goals (refine agg2 ?_ ?_ <;> simp only [Ul.i64_eq, Ul.u64_eq] at * <;> omega)
theorem plus_W (a b : Int) (w : World) (h : P127 (a + b)) : Calls Tryd.prog 24 #[VW a, VW b] w (Vc.Ret (VW (a + b)) w) := by
  refine Vc.Ret.as (plus_raw _ _ _ _ w (lo_bd a).1 (lo_bd a).2 (lo_bd b).1 (lo_bd b).2) ?_
  obtain ⟨h1, h2⟩ := h
  refine agg2 ?_ ?_
  · rw [Ul.i64_eq]; unfold hiW loW; omega
  · unfold loW; omega
theorem less_W (a b : Int) (w : World) : Calls Tryd.prog 28 #[VW a, VW b] w (Vc.Ret (.bool (decide (a < b))) w) := by
  refine vc_ullageref01_Less _ _ _ _ w _ ?_
  (repeat' (first | (intro _ hx) | (refine Vc.iteI (fun h => ?_) (fun h => ?_)) | (refine And.intro (by omega) ?_)))
  all_goals (refine bool1 ?_; rw [Bool.eq_iff_iff]; simp only [decide_eq_true_eq, true_iff, Bool.false_eq_true, false_iff]; (try unfold hiW at *); (try unfold loW at *); omega)
theorem minus_W (a : Int) (w : World) (h : P127 a) (h' : P127 (-a)) : Calls Tryd.prog 30 #[VW a] w (Vc.Ret (VW (-a)) w) := by
  have hl := lo_bd a
  have hh := hi_bd a h
  have b1 := i64_not (hiW a) hh.1 hh.2
  have b2 : bits .xor .u64 18446744073709551615 (loW a) = 18446744073709551615 - loW a := u64_not (loW a) hl.1 hl.2
  refine vc_ullageref01_Minus _ _ w _ ?_
  rintro _ rfl _ rfl
  rw [b1, b2]
  (repeat apply Exists.intro); refine And.intro (fun _ _ => plus_raw _ _ _ _ _ (by omega) (by omega) (by omega) (by omega)) ?_
  obtain ⟨h1, h2⟩ := h'
  refine agg2 ?_ ?_ <;> (try simp only [Ul.i64_eq]) <;> (try unfold hiW) <;> (try unfold loW)
  all_goals omega
theorem twice_W (a : Int) (w : World) (h : P127 (a + a)) : Calls Tryd.prog 26 #[VW a] w (Vc.Ret (VW (a + a)) w) := by
  refine vc_ullageref01_Twice _ _ w _ ?_
  (repeat' (first | (intro _ hx) | ((repeat apply Exists.intro); first | refine And.intro (fun _ _ => plus_W _ _ _ h) ?_) | (refine Vc.iteI (fun h => ?_) (fun h => ?_)) | (refine And.intro (by omega) ?_)))
  rfl
theorem of_W (n : Int) (w : World) (h : -9223372036854775808 ≤ n) (h' : n ≤ 9223372036854775807) : Calls Tryd.prog 27 #[.int .i64 n] w (Vc.Ret (VW n) w) := by
  refine vc_ullageref01_Of _ w _ ?_
  (repeat' (first | (intro _ hx) | (refine Vc.iteI (fun h => ?_) (fun h => ?_)) | (refine And.intro (by omega) ?_)))
  all_goals (refine agg2 ?_ ?_ <;> (try unfold hiW) <;> (try unfold loW) <;> (try simp only [Ul.u64_eq] at *) <;> omega)
theorem up32_W (v : Int) (w : World) (h : -39614081257132168796771975168 ≤ v) (h' : v < 39614081257132168796771975168) :
    Calls Tryd.prog 25 #[VW v, .int .i64 32] w (Vc.Ret (VW (v * 4294967296)) w) := by
  have hl := lo_bd v
  refine vc_ullageref01_Up_32 _ _ w _ ?_
  (repeat' (first | (intro _ hx) | (refine Vc.iteI (fun h => ?_) (fun h => ?_)) | (refine And.intro (by omega) ?_)))
  simp only [Ul.i64_eq, Ul.u64_eq] at *
  refine agg2 ?_ ?_ <;> (try unfold hiW at *) <;> (try unfold loW at *) <;> omega
end Go.Proofs.YtcoakpdafpclpaaDoor
set_option linter.unusedVariables false
namespace Go.Proofs.YtcoakpdafpclpaaDoor
open Go Go.RowKit Ul Vc
attribute [local irreducible] Go.Calls
theorem maskI (x : Int) (h0 : 0 ≤ x) (h1 : x ≤ 18446744073709551615) : bits .and .u64 x 4294967295 = x % 4294967296 := by
  obtain ⟨a, rfl⟩ := Int.eq_ofNat_of_zero_le h0
  have h := bits_and_u64_nat a 4294967295 (by omega) (by omega)
  have e : a &&& 4294967295 = a % 4294967296 := Nat.and_two_pow_sub_one_eq_mod a 32
  rw [e] at h
  exact h
theorem add64 (x y c : Int) (hx : 0 ≤ x) (hy : 0 ≤ y) (hc0 : 0 ≤ c) (hc : c ≤ 1) (w : World) : (callFunc 55 #[.int .u64 x, .int .u64 y, .int .u64 c]).run Tryd.prog w =
    .ok (.value (.tuple #[.int .u64 ((x + y + c) % 18446744073709551616), .int .u64 ((x + y + c) / 18446744073709551616)])) w := by
  rw [run_callFunc_extern Tryd.func55 (by kernel_rfl) (by kernel_rfl) (by kernel_rfl) (e := add64Entry) (by kernel_rfl), run_add64 x y c hx hy hc0 hc]
  rfl
theorem add64_0 (x y : Int) (hx : 0 ≤ x) (hy : 0 ≤ y) (w : World) : (callFunc 55 #[.int .u64 x, .int .u64 y, .int .u64 0]).run Tryd.prog w =
    .ok (.value (.tuple #[.int .u64 ((x + y) % 18446744073709551616), .int .u64 ((x + y) / 18446744073709551616)])) w := by
  simpa using add64 x y 0 hx hy (Int.le_refl 0) (by decide) w
def sub64Entry : Array Value → Sem Value := fun args => do
  let (x, y, b) ← Extern.MathBitsCarry.three "Sub64" args
  pure (Extern.MathBitsCarry.pair ((x + Extern.MathBitsCarry.m64 - y - b) % Extern.MathBitsCarry.m64) (if x < y + b then 1 else 0))
/-- The borrow. -/
def bor (x y : Int) : Int := if x < y then 1 else 0
theorem bor_bd (x y : Int) : 0 ≤ bor x y ∧ bor x y ≤ 1 := by unfold bor; split <;> omega
theorem run_sub64 (x y b : Nat) (hb : b ≤ 1) (w : World) :
    (sub64Entry #[.int .u64 x, .int .u64 y, .int .u64 b]).run Tryd.prog w =
      .ok (.tuple #[.int .u64 (((x + 18446744073709551616 - y - b) % 18446744073709551616 : Nat) : Int), .int .u64 ((if x < y + b then 1 else 0 : Nat) : Int)]) w := by
  have : b = 0 ∨ b = 1 := by omega
  rcases this with rfl | rfl <;> rfl
theorem sub64 (x y b : Int) (hx : 0 ≤ x) (hy : 0 ≤ y) (hy' : y ≤ 18446744073709551615) (hb0 : 0 ≤ b) (hb : b ≤ 1) (w : World) : (callFunc 56 #[.int .u64 x, .int .u64 y, .int .u64 b]).run Tryd.prog w =
    .ok (.value (.tuple #[.int .u64 ((x - y - b) % 18446744073709551616), .int .u64 (bor x (y + b))])) w := by
  obtain ⟨x, rfl⟩ := Int.eq_ofNat_of_zero_le hx
  obtain ⟨y, rfl⟩ := Int.eq_ofNat_of_zero_le hy
  obtain ⟨b, rfl⟩ := Int.eq_ofNat_of_zero_le hb0
  have e1 : (((x + 18446744073709551616 - y - b) % 18446744073709551616 : Nat) : Int) = ((x : Int) - y - b) % 18446744073709551616 := by omega
  have e2 : ((if x < y + b then 1 else 0 : Nat) : Int) = bor (x : Int) (y + b) := by unfold bor; split <;> split <;> omega
  rw [← e1, ← e2]
  rw [run_callFunc_extern Tryd.func56 (by kernel_rfl) (by kernel_rfl) (by kernel_rfl) (e := sub64Entry) (by kernel_rfl), run_sub64 x y b (by omega)]
  rfl
theorem sub64_0 (x y : Int) (hx : 0 ≤ x) (hy : 0 ≤ y) (hy' : y ≤ 18446744073709551615) (w : World) : (callFunc 56 #[.int .u64 x, .int .u64 y, .int .u64 0]).run Tryd.prog w =
    .ok (.value (.tuple #[.int .u64 ((x - y) % 18446744073709551616), .int .u64 (bor x y)])) w := by
  simpa using sub64 x y 0 hx hy hy' (Int.le_refl 0) (by decide) w
/-- A sum: its sign, its size. -/
def plN (n1 : Bool) (m1 : Int) (n2 : Bool) (m2 : Int) : Bool := if n1 == n2 then n1 else if m1 < m2 then n2 else n1
def plM (n1 : Bool) (m1 : Int) (n2 : Bool) (m2 : Int) : Int := if n1 == n2 then m1 + m2 else if m1 < m2 then m2 - m1 else m1 - m2
theorem size_lt (m1 m2 : Int) : (m1 < m2) ↔ (hiW m1 < hiW m2 ∨ (hiW m1 = hiW m2 ∧ loW m1 < loW m2)) := by unfold hiW loW; omega
theorem psize_any (n : Int) (w : World) (h : I64 n) : Calls Tryd.prog 32 #[.int .i64 n] w (Vc.Ret (.int .u64 (absI n)) w) := by
  obtain ⟨h, h'⟩ := h
  refine vc_span_size _ w _ ?_
  (repeat' (first | (intro _ hx) | (refine Vc.iteI (fun h => ?_) (fun h => ?_)) | (refine And.intro (by omega) ?_)))
  all_goals (simp only [Ul.u64_eq] at *; refine int1 ?_; unfold absI; split <;> omega)
theorem num_any (n : Bool) (m : Int) (w : World) (h0 : 0 ≤ m) : Calls Tryd.prog 57 #[VB n m] w (Vc.Ret (.tuple #[.int .i64 (if m ≤ 9223372036854775807 then sv n m else 0), .bool (decide (m ≤ 9223372036854775807))]) w) := by
  have hl := lo_bd m
  refine vc__span_big__num _ _ _ w _ ?_
  have t2 : ∀ {a b : Int} {p q : Bool}, a = b → p = q → (Value.tuple #[.int .i64 a, .bool p]) = .tuple #[.int .i64 b, .bool q] := by rintro _ _ _ _ rfl rfl; rfl
  have e1 : 0 < hiW m → ¬ m ≤ 9223372036854775807 := by unfold hiW; omega
  have e2 : ¬ 0 < hiW m → 9223372036854775807 < loW m → ¬ m ≤ 9223372036854775807 := by unfold hiW loW; omega
  have e3 : ¬ 0 < hiW m → ¬ 9223372036854775807 < loW m → m ≤ 9223372036854775807 ∧ loW m = m := by unfold hiW loW; omega
  refine iteI (fun h1 => ?_) (fun h1 => iteI (fun h2 => ?_) (fun h2 => iteI (fun hn => ?_) (fun hn => ?_)))
  · rw [if_neg (e1 h1)]; exact t2 rfl (by simpa using e1 h1)
  · rw [if_neg (e2 h1 h2)]; exact t2 rfl (by simpa using e2 h1 h2)
  · obtain ⟨q1, q2⟩ := e3 h1 h2
    rintro _ rfl _ rfl
    rw [if_pos q1]
    refine t2 ?_ (by simpa using q1)
    unfold sv; rw [if_pos hn, q2]; simp only [Ul.i64_eq]; omega
  · obtain ⟨q1, q2⟩ := e3 h1 h2
    rintro _ rfl
    rw [if_pos q1]
    refine t2 ?_ (by simpa using q1)
    unfold sv; rw [if_neg hn, q2]; simp only [Ul.i64_eq]; omega
theorem fit_any (n1 n2 : Bool) (m1 m2 : Int) (w : World) (h1 : 0 ≤ m1) (h2 : 0 ≤ m2) : Calls Tryd.prog 22 #[VB n1 m1, VB n2 m2] w (Vc.Ret (Vc.RV (fit (sv n1 m1) (sv n2 m2))) w) := by
  have hf : fit (sv n1 m1) (sv n2 m2) = if m1 ≤ 9223372036854775807 ∧ m2 ≤ 9223372036854775807 then (sv n1 m1, sv n2 m2, 0) else (0, 0, 4) := by
    unfold fit sv
    cases n1 <;> cases n2 <;> simp <;> (split <;> split <;> first | rfl | omega)
  refine vc_span_fit _ _ _ _ _ _ w _ ?_
  (repeat apply Exists.intro); refine And.intro (fun _ _ => num_any n1 m1 _ h1) ?_
  (repeat apply Exists.intro); refine And.intro (fun _ _ => num_any n2 m2 _ h2) ?_
  rw [hf]
  refine iteI (fun c1 => iteI (fun c2 => ?_) (fun c2 => ?_)) (fun c1 => ?_)
  · have c1 := of_decide_eq_true c1; have c2 := of_decide_eq_true c2
    rw [if_pos c1, if_pos c2, if_pos ⟨c1, c2⟩]
  · have c2 : ¬ m2 ≤ 9223372036854775807 := by simpa using c2
    rw [if_neg (fun h => c2 h.2)]
  · have c1 : ¬ m1 ≤ 9223372036854775807 := by simpa using c1
    rw [if_neg (fun h => c1 h.1)]
theorem agg3' {b b' : Bool} {k l : IntKind} {x x' y y' : Int} (hb : b = b') (h : x = x') (h' : y = y') : Value.agg #[.bool b, .int k x, .int l y] = .agg #[.bool b', .int k x', .int l y'] := by rw [hb, h, h']
theorem plus_any (n1 n2 : Bool) (m1 m2 : Int) (w : World) (h1 : P128 m1) (h2 : P128 m2) (h : m1 + m2 < 340282366920938463463374607431768211456) :
    Calls Tryd.prog 21 #[VB n1 m1, VB n2 m2] w (Vc.Ret (VB (plN n1 m1 n2 m2) (plM n1 m1 n2 m2)) w) := by
  have l1 := lo_bd m1; have l2 := lo_bd m2; have u1 := hi_u m1 h1; have u2 := hi_u m2 h2
  have b12 := bor_bd (loW m1) (loW m2); have b21 := bor_bd (loW m2) (loW m1)
  obtain ⟨h1, h1'⟩ := h1
  obtain ⟨h2, h2'⟩ := h2
  refine vc_span_plus _ _ _ _ _ _ w _ ?_
  refine iteI (fun hn => ?_) (fun hn => ?_)
  · have hn : n1 = n2 := Bool.eq_iff_iff.2 hn
    refine ⟨_, _, ⟨rfl, add64_0 _ _ l1.1 l2.1⟩, _, _, ⟨rfl, add64 _ _ _ u1.1 u2.1 (by omega) (by omega)⟩, ?_⟩
    unfold plN plM
    rw [if_pos (by simpa using hn), if_pos (by simpa using hn)]
    refine agg3' rfl ?_ ?_ <;> (try unfold hiW at *) <;> (try unfold loW at *) <;> omega
  · have hn : ¬ (n1 == n2) = true := by rw [beq_iff_eq]; exact fun e => hn (Bool.eq_iff_iff.1 e)
    have hs := size_lt m1 m2
    unfold plN plM
    rw [if_neg hn, if_neg hn]
    refine iteI (fun c1 => ?_) (fun c1 => iteI (fun c2 => iteI (fun c3 => ?_) (fun c3 => ?_)) (fun c2 => ?_))
    · have hlt := hs.2 (.inl c1)
      refine ⟨_, _, ⟨rfl, sub64_0 _ _ l2.1 l1.1 l1.2⟩, _, _, ⟨rfl, sub64 _ _ _ u2.1 u1.1 u1.2 b21.1 b21.2⟩, ?_⟩
      rw [if_pos hlt, if_pos hlt]
      refine agg3' rfl ?_ ?_ <;> unfold bor hiW loW at * <;> (try split) <;> omega
    · have hlt := hs.2 (.inr ⟨c2, c3⟩)
      refine ⟨_, _, ⟨rfl, sub64_0 _ _ l2.1 l1.1 l1.2⟩, _, _, ⟨rfl, sub64 _ _ _ u2.1 u1.1 u1.2 b21.1 b21.2⟩, ?_⟩
      rw [if_pos hlt, if_pos hlt]
      refine agg3' rfl ?_ ?_ <;> unfold bor hiW loW at * <;> (try split) <;> omega
    · have hlt : ¬ m1 < m2 := by rw [hs]; omega
      refine ⟨_, _, ⟨rfl, sub64_0 _ _ l1.1 l2.1 l2.2⟩, _, _, ⟨rfl, sub64 _ _ _ u1.1 u2.1 u2.2 b12.1 b12.2⟩, ?_⟩
      rw [if_neg hlt, if_neg hlt]
      refine agg3' rfl ?_ ?_ <;> unfold bor hiW loW at * <;> (try split) <;> omega
    · have hlt : ¬ m1 < m2 := by rw [hs]; omega
      refine ⟨_, _, ⟨rfl, sub64_0 _ _ l1.1 l2.1 l2.2⟩, _, _, ⟨rfl, sub64 _ _ _ u1.1 u2.1 u2.2 b12.1 b12.2⟩, ?_⟩
      rw [if_neg hlt, if_neg hlt]
      refine agg3' rfl ?_ ?_ <;> unfold bor hiW loW at * <;> (try split) <;> omega
end Go.Proofs.YtcoakpdafpclpaaDoor
set_option linter.unusedVariables false
namespace Go.Proofs.YtcoakpdafpclpaaDoor
open Go Go.RowKit Ul Vc
attribute [local irreducible] Go.Calls
theorem out_any (a b : Int) (w : World) (ha : P127 a) (hb : P127 b) : Calls Tryd.prog 29 #[VW a, VW b] w (Vc.Ret (Vc.RV (fit a b)) w) := by
  have l1 := lo_bd a; have l2 := lo_bd b
  have hf : fit a b = if -9223372036854775807 ≤ a ∧ a ≤ 9223372036854775807 ∧ -9223372036854775807 ≤ b ∧ b ≤ 9223372036854775807 then (a, b, 0) else (0, 0, 4) := rfl
  rw [hf]
  refine vc_ullageref01_out _ _ _ _ w _ ?_
  (repeat apply Exists.intro); refine And.intro (fun _ _ => of_W _ _ (by omega) (by omega)) ?_
  (repeat apply Exists.intro); refine And.intro (fun _ _ => less_W _ _ _) ?_
  refine iteI (fun h1 => ?_) (fun h1 => ?_)
  · have := of_decide_eq_true h1
    rw [if_neg (by omega)]
  (repeat apply Exists.intro); refine And.intro (fun _ _ => of_W _ _ (by omega) (by omega)) ?_
  (repeat apply Exists.intro); refine And.intro (fun _ _ => less_W _ _ _) ?_
  refine iteI (fun h2 => ?_) (fun h2 => ?_)
  · have := of_decide_eq_true h2
    rw [if_neg (by omega)]
  (repeat apply Exists.intro); refine And.intro (fun _ _ => of_W _ _ (by omega) (by omega)) ?_
  (repeat apply Exists.intro); refine And.intro (fun _ _ => less_W _ _ _) ?_
  refine iteI (fun h3 => ?_) (fun h3 => ?_)
  · have := of_decide_eq_true h3
    rw [if_neg (by omega)]
  (repeat apply Exists.intro); refine And.intro (fun _ _ => of_W _ _ (by omega) (by omega)) ?_
  (repeat apply Exists.intro); refine And.intro (fun _ _ => less_W _ _ _) ?_
  refine iteI (fun h4 => ?_) (fun h4 => ?_)
  · have := of_decide_eq_true h4
    rw [if_neg (by omega)]
  rintro _ rfl _ rfl
  simp only [decide_eq_true_eq] at h1 h2 h3 h4
  rw [if_pos (by omega)]
  refine rv ?_
  simp only [Ul.i64_eq, Prod.mk.injEq, and_true]
  unfold loW; omega
end Go.Proofs.YtcoakpdafpclpaaDoor
set_option linter.unusedVariables false
namespace Vc
open Go Go.RowKit
theorem row_at {lo b code n base sz k : Nat} {xs : List Value} {t : TypeId} {w : World} (h : RowOk lo b code n base xs sz t w) (hk : xs.length = k * sz) (k0 : 0 < k) :
    ∃ m : Nat, ownV b code n base = .slice (some ⟨b, 0, none⟩) k m ∧ k ≤ m ∧ ∀ j u, xs[j]? = some u → w.cell? ⟨b, j, none⟩ = some u := by
  obtain ⟨h1, h2, h3⟩ := h
  have hn : n = k := Nat.eq_of_mul_eq_mul_right h2 (by rw [← h1, hk])
  subst hn
  rcases h3 with ⟨_, h0⟩ | ⟨c1, c2, c3, c4, c5, cur, c6, c7, c8⟩
  · omega
  · subst c2
    refine ⟨code - 1, ?_, c4, fun j u hj => ?_⟩
    · unfold ownV; rw [if_neg (by omega)]
    · have hlt : j < n * sz := by
        have := (List.getElem?_eq_some_iff.1 hj).1
        omega
      rw [← c8, List.getElem?_take, if_pos hlt] at hj
      simp only [World.cell?, c6]
      simpa using hj
end Vc
namespace Go.Proofs.YtcoakpdafpclpaaDoor
open Go Go.RowKit Ul Vc
attribute [local irreducible] Go.Calls
end Go.Proofs.YtcoakpdafpclpaaDoor
set_option linter.unusedVariables false
namespace Vc
open Go Go.RowKit
theorem flat_len {α : Type} {f : α → List Value} {c : Nat} (hf : ∀ a, (f a).length = c) : ∀ l : List α, (l.flatMap f).length = l.length * c
  | [] => by simp
  | a :: l => by rw [List.flatMap_cons, List.length_append, hf, flat_len hf l, List.length_cons, Nat.add_mul]; omega
theorem flat_at {α : Type} {f : α → List Value} {c : Nat} (hf : ∀ a, (f a).length = c) : ∀ {ps : List α} {i : Nat} {q : α} {o : Nat}, ps[i]? = some q → o < c → (ps.flatMap f)[i * c + o]? = (f q)[o]?
  | [], i, q, o, h, _ => by simp at h
  | p :: ps, i, q, o, h, ho => by
    rw [List.flatMap_cons]
    cases i with
    | zero =>
      simp only [List.getElem?_cons_zero, Option.some.injEq] at h
      subst h
      rw [List.getElem?_append_left (by rw [hf]; omega)]
      simp
    | succ i =>
      have hm : (i + 1) * c = i * c + c := Nat.succ_mul i c
      rw [List.getElem?_append_right (by rw [hf]; omega), ← flat_at hf (ps := ps) (i := i) (by simpa using h) ho]
      congr 1
      rw [hf]; omega
/-- A row is a slice. -/
theorem own_sl {lo b code n base sz : Nat} {xs : List Value} {t : TypeId} {w : World} (h : RowOk lo b code n base xs sz t w) : SlAt w (ownV b code n base) sz xs := by
  obtain ⟨h1, h2, h3⟩ := h
  by_cases hn : n = 0
  · have hx : xs = [] := List.eq_nil_of_length_eq_zero (by rw [h1, hn]; omega)
    unfold ownV
    by_cases hc : code = 0
    · rw [if_pos hc]; exact .inl ⟨rfl, hx⟩
    · rw [if_neg hc]; exact .inr (.inr ⟨b, base, n, code - 1, rfl, h1, fun j u hj => by rw [hx] at hj; simp at hj⟩)
  · obtain ⟨m, e1, e2, e3⟩ := row_at (lo := lo) ⟨h1, h2, h3⟩ h1 (by omega)
    exact .inr (.inr ⟨b, 0, n, m, e1, h1, fun j u hj => by rw [Nat.zero_add]; exact e3 j u hj⟩)
/-- A slice in the form that a walk has of it. -/
theorem sl_form {v : Value} {sz n : Nat} {xs : List Value} {w : World} (h : SlAt w v sz xs) (hz : 0 < sz) (hn : xs.length = n * sz) :
    ∃ (b0 : Bool) (p0 : Nat × Nat) (x1 : Int), v = (if b0 = true then .slice none 0 0 else .slice (some (Vc.qad p0 (Int.toNat (n : Int)) (Int.toNat x1))) (Int.toNat (n : Int)) (Int.toNat x1)) ∧ (b0 = true → n = 0) ∧ ∀ j u, xs[j]? = some u → w.cell? ⟨p0.1, p0.2 + j, none⟩ = some u := by
  have empty : xs = [] → n = 0 := fun h2 => by
    rw [h2] at hn
    rcases Nat.mul_eq_zero.1 hn.symm with h | h <;> omega
  have weird : ∀ a, v = .slice (some a) 0 0 → xs = [] → ∃ (b0 : Bool) (p0 : Nat × Nat) (x1 : Int), v = (if b0 = true then .slice none 0 0 else .slice (some (Vc.qad p0 (Int.toNat (n : Int)) (Int.toNat x1))) (Int.toNat (n : Int)) (Int.toNat x1)) ∧ (b0 = true → n = 0) ∧ ∀ j u, xs[j]? = some u → w.cell? ⟨p0.1, p0.2 + j, none⟩ = some u := fun a h1 h2 => by
    obtain ⟨p, hp⟩ := qad_any a
    have h0 := empty h2
    subst h0
    refine ⟨false, p, 0, ?_, fun h => (by cases h), fun j u hj => (by rw [h2] at hj; simp at hj)⟩
    rw [if_neg (by decide), show Int.toNat ((0 : Nat) : Int) = 0 from rfl, show Int.toNat (0 : Int) = 0 from rfl, hp]
    exact h1
  rcases h with ⟨h1, h2⟩ | ⟨a, h1, h2⟩ | ⟨b, o, len, cap, h1, h2, h3⟩
  · exact ⟨true, (0, 0), 0, (by rw [if_pos rfl]; exact h1), fun _ => empty h2, fun j u hj => (by rw [h2] at hj; simp at hj)⟩
  · exact weird a h1 h2
  · have hl : len = n := Nat.eq_of_mul_eq_mul_right hz (by rw [← h2, hn])
    subst hl
    by_cases h0 : len = 0 ∧ cap = 0
    · obtain ⟨rfl, rfl⟩ := h0
      exact weird _ h1 (List.eq_nil_of_length_eq_zero (by rw [h2]; omega))
    · refine ⟨false, (b, o), (cap : Int), ?_, fun h => (by cases h), h3⟩
      rw [if_neg (by decide), qad_plain (by omega)]
      exact h1
/-- It is as it was, later. -/
theorem sl_below {v : Value} {sz : Nat} {xs : List Value} {w w' : World} (hb : Below w.heap.size w w') (h : SlAt w v sz xs) : SlAt w' v sz xs := by
  rcases h with h | h | ⟨b, o, len, cap, h1, h2, h3⟩
  · exact .inl h
  · exact .inr (.inl h)
  · refine .inr (.inr ⟨b, o, len, cap, h1, h2, fun j u hj => by
      have := h3 j u hj
      rw [hb.cell (World.block_lt_of_cell? _ _ this)]; exact this⟩)
/-- Values as variables of a walk. -/
theorem ov_list {α : Type} {f : α → List Value} (hf : ∀ a, ∀ v ∈ f a, v.oneCell' = true) (l : List α) : ∃ L : List OV, L.map (·.1) = l.flatMap f := by
  have : ∀ xs : List Value, (∀ v ∈ xs, v.oneCell' = true) → ∃ L : List OV, L.map (·.1) = xs := by
    intro xs
    induction xs with
    | nil => intro _; exact ⟨[], rfl⟩
    | cons x xs ih =>
      intro h
      obtain ⟨L, hL⟩ := ih fun v hv => h v (by simp [hv])
      exact ⟨⟨x, h x (by simp)⟩ :: L, by simp [hL]⟩
  refine this _ fun v hv => ?_
  obtain ⟨a, _, ha⟩ := List.mem_flatMap.1 hv
  exact hf a v ha
end Vc
