/- Contracts: the program's numbers with a sign and two words; sums, products, the hull of two. -/
import Derived.Test.YtdhiapllbjamfaaCd
import Derived.Lib.Mul64
set_option linter.unusedVariables false
set_option linter.unusedSimpArgs false
namespace Go.Proofs.Ytdhiapllbjamfaa
open Go Go.RowKit Ul Vc
attribute [local irreducible] Go.Calls

theorem maskI (x : Int) (h0 : 0 ≤ x) (h1 : x ≤ 18446744073709551615) : bits .and .u64 x 4294967295 = x % 4294967296 := by
  obtain ⟨a, rfl⟩ := Int.eq_ofNat_of_zero_le h0
  have h := bits_and_u64_nat a 4294967295 (by omega) (by omega)
  have e : a &&& 4294967295 = a % 4294967296 := Nat.and_two_pow_sub_one_eq_mod a 32
  rw [e] at h
  exact h

theorem add64 (x y c : Int) (hx : 0 ≤ x) (hy : 0 ≤ y) (hc0 : 0 ≤ c) (hc : c ≤ 1) (w : World) : (callFunc 123 #[.int .u64 x, .int .u64 y, .int .u64 c]).run Try.prog w =
    .ok (.value (.tuple #[.int .u64 ((x + y + c) % 18446744073709551616), .int .u64 ((x + y + c) / 18446744073709551616)])) w := by
  rw [run_callFunc_extern Try.func123 (by kernel_rfl) (by kernel_rfl) (by kernel_rfl) (e := add64Entry) (by kernel_rfl), run_add64 x y c hx hy hc0 hc]
  rfl
theorem add64_0 (x y : Int) (hx : 0 ≤ x) (hy : 0 ≤ y) (w : World) : (callFunc 123 #[.int .u64 x, .int .u64 y, .int .u64 0]).run Try.prog w =
    .ok (.value (.tuple #[.int .u64 ((x + y) % 18446744073709551616), .int .u64 ((x + y) / 18446744073709551616)])) w := by
  simpa using add64 x y 0 hx hy (Int.le_refl 0) (by decide) w

def sub64Entry : Array Value → Sem Value := fun args => do
  let (x, y, b) ← Extern.MathBitsCarry.three "Sub64" args
  pure (Extern.MathBitsCarry.pair ((x + Extern.MathBitsCarry.m64 - y - b) % Extern.MathBitsCarry.m64) (if x < y + b then 1 else 0))
/-- The borrow. -/
def bor (x y : Int) : Int := if x < y then 1 else 0
theorem bor_bd (x y : Int) : 0 ≤ bor x y ∧ bor x y ≤ 1 := by unfold bor; split <;> omega
theorem run_sub64 (x y b : Nat) (hb : b ≤ 1) (w : World) :
    (sub64Entry #[.int .u64 x, .int .u64 y, .int .u64 b]).run Try.prog w =
      .ok (.tuple #[.int .u64 (((x + 18446744073709551616 - y - b) % 18446744073709551616 : Nat) : Int), .int .u64 ((if x < y + b then 1 else 0 : Nat) : Int)]) w := by
  have : b = 0 ∨ b = 1 := by omega
  rcases this with rfl | rfl <;> rfl
theorem sub64 (x y b : Int) (hx : 0 ≤ x) (hy : 0 ≤ y) (hy' : y ≤ 18446744073709551615) (hb0 : 0 ≤ b) (hb : b ≤ 1) (w : World) : (callFunc 124 #[.int .u64 x, .int .u64 y, .int .u64 b]).run Try.prog w =
    .ok (.value (.tuple #[.int .u64 ((x - y - b) % 18446744073709551616), .int .u64 (bor x (y + b))])) w := by
  obtain ⟨x, rfl⟩ := Int.eq_ofNat_of_zero_le hx
  obtain ⟨y, rfl⟩ := Int.eq_ofNat_of_zero_le hy
  obtain ⟨b, rfl⟩ := Int.eq_ofNat_of_zero_le hb0
  have e1 : (((x + 18446744073709551616 - y - b) % 18446744073709551616 : Nat) : Int) = ((x : Int) - y - b) % 18446744073709551616 := by omega
  have e2 : ((if x < y + b then 1 else 0 : Nat) : Int) = bor (x : Int) (y + b) := by unfold bor; split <;> split <;> omega
  rw [← e1, ← e2]
  rw [run_callFunc_extern Try.func124 (by kernel_rfl) (by kernel_rfl) (by kernel_rfl) (e := sub64Entry) (by kernel_rfl), run_sub64 x y b (by omega)]
  rfl
theorem sub64_0 (x y : Int) (hx : 0 ≤ x) (hy : 0 ≤ y) (hy' : y ≤ 18446744073709551615) (w : World) : (callFunc 124 #[.int .u64 x, .int .u64 y, .int .u64 0]).run Try.prog w =
    .ok (.value (.tuple #[.int .u64 ((x - y) % 18446744073709551616), .int .u64 (bor x y)])) w := by
  simpa using sub64 x y 0 hx hy hy' (Int.le_refl 0) (by decide) w

/-- A sum: its sign, its size. -/
def plN (n1 : Bool) (m1 : Int) (n2 : Bool) (m2 : Int) : Bool := if n1 == n2 then n1 else if m1 < m2 then n2 else n1
def plM (n1 : Bool) (m1 : Int) (n2 : Bool) (m2 : Int) : Int := if n1 == n2 then m1 + m2 else if m1 < m2 then m2 - m1 else m1 - m2
theorem pl_sv (n1 n2 : Bool) (m1 m2 : Int) : sv (plN n1 m1 n2 m2) (plM n1 m1 n2 m2) = sv n1 m1 + sv n2 m2 := by
  unfold plN plM sv
  cases n1 <;> cases n2 <;> simp <;> (try split) <;> (try simp) <;> omega
theorem pl_pos (n1 n2 : Bool) (m1 m2 : Int) (h1 : 0 ≤ m1) (h2 : 0 ≤ m2) : 0 ≤ plM n1 m1 n2 m2 := by
  unfold plM; split
  · omega
  · split <;> omega


theorem size_lt (m1 m2 : Int) : (m1 < m2) ↔ (hiW m1 < hiW m2 ∨ (hiW m1 = hiW m2 ∧ loW m1 < loW m2)) := by unfold hiW loW; omega

theorem psize_any (n : Int) (w : World) (h : I64 n) : Calls Try.prog 125 #[.int .i64 n] w (Vc.Ret (.int .u64 (absI n)) w) := by
  obtain ⟨h, h'⟩ := h
  refine vc_span_size _ w _ ?_
  (repeat' (first | (intro _ hx) | (refine Vc.iteI (fun h => ?_) (fun h => ?_)) | (refine And.intro (by omega) ?_)))
  all_goals (simp only [Ul.u64_eq] at *; refine int1 ?_; unfold absI; split <;> omega)
theorem absI_128 {n : Int} (h : I64 n) : P128 (absI n) ∧ absI n ≤ 9223372036854775808 := by
  have := absI_bd n h.1 h.2; exact ⟨⟨by omega, by omega⟩, by omega⟩
theorem pof_any (n : Int) (w : World) (h : I64 n) : Calls Try.prog 86 #[.int .i64 n] w (Vc.Ret (VB (decide (n < 0)) (absI n)) w) := by
  have hb := absI_bd n h.1 h.2
  have e := hiW_small (absI n) (by omega) (by omega)
  refine vc_span_of _ w _ ?_
  (repeat' (first | (intro _ hx) | ((repeat apply Exists.intro); first | refine And.intro (fun _ _ => psize_any _ _ h) ?_) | (refine Vc.iteI (fun h => ?_) (fun h => ?_)) | (refine And.intro (by omega) ?_)))
  simp only [VB, e.1, e.2]
theorem zero_raw (n : Bool) (h l : Int) (w : World) : Calls Try.prog 133 #[.agg #[.bool n, .int .u64 h, .int .u64 l]] w (Vc.Ret (.bool (h == 0 && l == 0)) w) := by
  refine vc__span_big__zero _ _ _ w _ ?_
  (repeat' (first | (intro _ hx) | (refine Vc.iteI (fun h => ?_) (fun h => ?_)) | (refine And.intro (by omega) ?_)))
  all_goals simp_all
theorem below_raw (n : Bool) (h l : Int) (w : World) : Calls Try.prog 139 #[.agg #[.bool n, .int .u64 h, .int .u64 l]] w (Vc.Ret (.bool (n && !(h == 0 && l == 0))) w) := by
  refine vc__span_big__below _ _ _ w _ ?_
  (repeat' (first | (intro _ hx) | ((repeat apply Exists.intro); first | refine And.intro (fun _ _ => zero_raw _ _ _ _) ?_) | (refine Vc.iteI (fun h => ?_) (fun h => ?_)) | (refine And.intro (by omega) ?_)))
  all_goals simp_all
theorem num_any (n : Bool) (m : Int) (w : World) (h0 : 0 ≤ m) : Calls Try.prog 126 #[VB n m] w (Vc.Ret (.tuple #[.int .i64 (if m ≤ 9223372036854775807 then sv n m else 0), .bool (decide (m ≤ 9223372036854775807))]) w) := by
  have hl := lo_bd m
  refine vc__span_big__num _ _ _ w _ ?_
  have t2 : ∀ {a b : Int} {p q : Bool}, a = b → p = q → (Value.tuple #[.int .i64 a, .bool p]) = .tuple #[.int .i64 b, .bool q] := by rintro _ _ _ _ rfl rfl; rfl
  have e1 : 0 < hiW m → ¬ m ≤ 9223372036854775807 := by unfold hiW; omega
  have e2 : ¬ 0 < hiW m → 9223372036854775807 < loW m → ¬ m ≤ 9223372036854775807 := by unfold hiW loW; omega
  have e3 : ¬ 0 < hiW m → ¬ 9223372036854775807 < loW m → m ≤ 9223372036854775807 ∧ loW m = m := by unfold hiW loW; omega
  refine iteI (fun h1 => ?_) (fun h1 => iteI (fun h2 => ?_) (fun h2 => iteI (fun hn => ?_) (fun hn => ?_)))
  · rw [if_neg (e1 h1)]; exact t2 rfl (by simpa using e1 h1)
  · rw [if_neg (e2 h1 h2)]; exact t2 rfl (by simpa using e2 h1 h2)
  · obtain ⟨q1, q2⟩ := e3 h1 h2
    rintro _ rfl _ rfl
    rw [if_pos q1]
    refine t2 ?_ (by simpa using q1)
    unfold sv; rw [if_pos hn, q2]; simp only [Ul.i64_eq]; omega
  · obtain ⟨q1, q2⟩ := e3 h1 h2
    rintro _ rfl
    rw [if_pos q1]
    refine t2 ?_ (by simpa using q1)
    unfold sv; rw [if_neg hn, q2]; simp only [Ul.i64_eq]; omega
theorem fit_any (n1 n2 : Bool) (m1 m2 : Int) (w : World) (h1 : 0 ≤ m1) (h2 : 0 ≤ m2) : Calls Try.prog 87 #[VB n1 m1, VB n2 m2] w (Vc.Ret (Vc.RV (fit (sv n1 m1) (sv n2 m2))) w) := by
  have hf : fit (sv n1 m1) (sv n2 m2) = if m1 ≤ 9223372036854775807 ∧ m2 ≤ 9223372036854775807 then (sv n1 m1, sv n2 m2, 0) else (0, 0, 4) := by
    unfold fit sv
    cases n1 <;> cases n2 <;> simp <;> (split <;> split <;> first | rfl | omega)
  refine vc_span_fit _ _ _ _ _ _ w _ ?_
  (repeat apply Exists.intro); refine And.intro (fun _ _ => num_any n1 m1 _ h1) ?_
  (repeat apply Exists.intro); refine And.intro (fun _ _ => num_any n2 m2 _ h2) ?_
  rw [hf]
  refine iteI (fun c1 => iteI (fun c2 => ?_) (fun c2 => ?_)) (fun c1 => ?_)
  · have c1 := of_decide_eq_true c1; have c2 := of_decide_eq_true c2
    rw [if_pos c1, if_pos c2, if_pos ⟨c1, c2⟩]
  · have c2 : ¬ m2 ≤ 9223372036854775807 := by simpa using c2
    rw [if_neg (fun h => c2 h.2)]
  · have c1 : ¬ m1 ≤ 9223372036854775807 := by simpa using c1
    rw [if_neg (fun h => c1 h.1)]
theorem agg3' {b b' : Bool} {k l : IntKind} {x x' y y' : Int} (hb : b = b') (h : x = x') (h' : y = y') : Value.agg #[.bool b, .int k x, .int l y] = .agg #[.bool b', .int k x', .int l y'] := by rw [hb, h, h']
theorem plus_any (n1 n2 : Bool) (m1 m2 : Int) (w : World) (h1 : P128 m1) (h2 : P128 m2) (h : m1 + m2 < 340282366920938463463374607431768211456) :
    Calls Try.prog 85 #[VB n1 m1, VB n2 m2] w (Vc.Ret (VB (plN n1 m1 n2 m2) (plM n1 m1 n2 m2)) w) := by
  have l1 := lo_bd m1; have l2 := lo_bd m2; have u1 := hi_u m1 h1; have u2 := hi_u m2 h2
  have b12 := bor_bd (loW m1) (loW m2); have b21 := bor_bd (loW m2) (loW m1)
  obtain ⟨h1, h1'⟩ := h1
  obtain ⟨h2, h2'⟩ := h2
  refine vc_span_plus _ _ _ _ _ _ w _ ?_
  refine iteI (fun hn => ?_) (fun hn => ?_)
  · have hn : n1 = n2 := Bool.eq_iff_iff.2 hn
    refine ⟨_, _, ⟨rfl, add64_0 _ _ l1.1 l2.1⟩, _, _, ⟨rfl, add64 _ _ _ u1.1 u2.1 (by omega) (by omega)⟩, ?_⟩
    unfold plN plM
    rw [if_pos (by simpa using hn), if_pos (by simpa using hn)]
    refine agg3' rfl ?_ ?_ <;> (try unfold hiW at *) <;> (try unfold loW at *) <;> omega
  · have hn : ¬ (n1 == n2) = true := by rw [beq_iff_eq]; exact fun e => hn (Bool.eq_iff_iff.1 e)
    have hs := size_lt m1 m2
    unfold plN plM
    rw [if_neg hn, if_neg hn]
    refine iteI (fun c1 => ?_) (fun c1 => iteI (fun c2 => iteI (fun c3 => ?_) (fun c3 => ?_)) (fun c2 => ?_))
    · have hlt := hs.2 (.inl c1)
      refine ⟨_, _, ⟨rfl, sub64_0 _ _ l2.1 l1.1 l1.2⟩, _, _, ⟨rfl, sub64 _ _ _ u2.1 u1.1 u1.2 b21.1 b21.2⟩, ?_⟩
      rw [if_pos hlt, if_pos hlt]
      refine agg3' rfl ?_ ?_ <;> unfold bor hiW loW at * <;> (try split) <;> omega
    · have hlt := hs.2 (.inr ⟨c2, c3⟩)
      refine ⟨_, _, ⟨rfl, sub64_0 _ _ l2.1 l1.1 l1.2⟩, _, _, ⟨rfl, sub64 _ _ _ u2.1 u1.1 u1.2 b21.1 b21.2⟩, ?_⟩
      rw [if_pos hlt, if_pos hlt]
      refine agg3' rfl ?_ ?_ <;> unfold bor hiW loW at * <;> (try split) <;> omega
    · have hlt : ¬ m1 < m2 := by rw [hs]; omega
      refine ⟨_, _, ⟨rfl, sub64_0 _ _ l1.1 l2.1 l2.2⟩, _, _, ⟨rfl, sub64 _ _ _ u1.1 u2.1 u2.2 b12.1 b12.2⟩, ?_⟩
      rw [if_neg hlt, if_neg hlt]
      refine agg3' rfl ?_ ?_ <;> unfold bor hiW loW at * <;> (try split) <;> omega
    · have hlt : ¬ m1 < m2 := by rw [hs]; omega
      refine ⟨_, _, ⟨rfl, sub64_0 _ _ l1.1 l2.1 l2.2⟩, _, _, ⟨rfl, sub64 _ _ _ u1.1 u2.1 u2.2 b12.1 b12.2⟩, ?_⟩
      rw [if_neg hlt, if_neg hlt]
      refine agg3' rfl ?_ ?_ <;> unfold bor hiW loW at * <;> (try split) <;> omega
theorem addc_any (x y : Int) (w : World) (hx : I64 x) (hy : I64 y) :
    Calls Try.prog 84 #[.int .i64 x, .int .i64 y] w (Vc.Ret (VB (plN (decide (x < 0)) (absI x) (decide (y < 0)) (absI y)) (plM (decide (x < 0)) (absI x) (decide (y < 0)) (absI y))) w) := by
  have b1 := absI_128 hx; have b2 := absI_128 hy
  refine vc_span_Add_1 _ _ w _ ?_
  (repeat apply Exists.intro); refine And.intro (fun _ _ => pof_any _ _ hx) ?_
  (repeat apply Exists.intro); refine And.intro (fun _ _ => pof_any _ _ hy) ?_
  (repeat apply Exists.intro); refine And.intro (fun _ _ => plus_any _ _ _ _ _ b1.1 b2.1 (by omega)) ?_
  rfl
theorem chk2_ok {a b c d : Int} (h : chk2 a b c d = 0) : (ok a b && ok c d) = true := by
  unfold chk2 at h; split at h
  · assumption
  · cases h
theorem chk2_no {a b c d : Int} (h : ¬ chk2 a b c d = 0) : ¬ (ok a b && ok c d) = true ∧ chk2 a b c d = 2 := by
  unfold chk2 at h ⊢; split at h
  · exact absurd rfl h
  · rename_i h1; exact ⟨h1, by rw [if_neg h1]⟩
theorem chk_ok {a b : Int} (h : chk a b = 0) : ok a b = true := by
  unfold chk at h; split at h
  · assumption
  · cases h
theorem chk_no {a b : Int} (h : ¬ chk a b = 0) : ¬ ok a b = true ∧ chk a b = 2 := by
  unfold chk at h ⊢; split at h
  · exact absurd rfl h
  · rename_i h1; exact ⟨h1, by rw [if_neg h1]⟩
theorem padd_any (a b c d : Int) (w : World) (ha : I64 a) (hb : I64 b) (hc : I64 c) (hd : I64 d) :
    Calls Try.prog 33 #[Vc.S a b, Vc.S c d] w (Vc.Ret (Vc.RV (add a b c d)) w) := by
  refine vc_span_Add _ _ _ _ w _ ?_
  refine ⟨_, fun _ _ _ hm => checked2 hm.1.2, ?_⟩
  refine iteI (fun h => ?_) (fun h => ?_)
  · (repeat apply Exists.intro); refine And.intro (fun _ _ => addc_any _ _ _ ha hc) ?_
    (repeat apply Exists.intro); refine And.intro (fun _ _ => addc_any _ _ _ hb hd) ?_
    (repeat apply Exists.intro); refine And.intro (fun _ _ => fit_any _ _ _ _ _ (pl_pos _ _ _ _ (absI_128 ha).1.1 (absI_128 hc).1.1) (pl_pos _ _ _ _ (absI_128 hb).1.1 (absI_128 hd).1.1)) ?_
    unfold add
    rw [if_pos (chk2_ok h), pl_sv, pl_sv, sv_abs, sv_abs, sv_abs, sv_abs]
  · unfold add
    rw [if_neg (chk2_no h).1, (chk2_no h).2]
theorem pneg_any (a b : Int) (w : World) (ha : I64 a) (hb : I64 b) : Calls Try.prog 37 #[Vc.S a b] w (Vc.Ret (Vc.RV (neg a b)) w) := by
  refine vc_span_Neg _ _ w _ ?_
  (repeat apply Exists.intro); refine And.intro (fun _ _ => check_any _ _ _) ?_
  refine iteI (fun h => ?_) (fun h => ?_)
  · rintro _ rfl _ rfl
    have h := chk_ok h
    unfold neg
    rw [if_pos h]
    have := ok_true.1 h
    refine rv ?_
    simp only [Ul.i64_eq, Prod.mk.injEq, and_true]
    obtain ⟨h1, h2⟩ := ha; obtain ⟨h3, h4⟩ := hb
    omega
  · unfold neg
    rw [if_neg (chk_no h).1, (chk_no h).2]
theorem neg_bd {a b : Int} (ha : I64 a) (hb : I64 b) : I64 (neg a b).1 ∧ I64 (neg a b).2.1 := by
  unfold neg
  split
  · rename_i h; have := ok_true.1 h; unfold I64 at *; dsimp only; omega
  · unfold I64; decide
theorem psub_any (a b c d : Int) (w : World) (ha : I64 a) (hb : I64 b) (hc : I64 c) (hd : I64 d) :
    Calls Try.prog 35 #[Vc.S a b, Vc.S c d] w (Vc.Ret (Vc.RV (sub a b c d)) w) := by
  have hn := neg_bd hc hd
  refine vc_span_Sub _ _ _ _ w _ ?_
  (repeat apply Exists.intro); refine And.intro (fun _ _ => pneg_any _ _ _ hc hd) ?_
  refine iteI (fun h => ?_) (fun h => ?_)
  · (repeat apply Exists.intro); refine And.intro (fun _ _ => padd_any _ _ _ _ _ ha hb hn.1 hn.2) ?_
    have hk : ok c d = true := by
      unfold neg at h; split at h
      · assumption
      · cases h
    unfold sub; rw [if_pos hk]; unfold neg; rw [if_pos hk]
  · have hk : ¬ ok c d = true := by
      intro hk; unfold neg at h; rw [if_pos hk] at h; exact h rfl
    unfold sub neg; rw [if_neg hk, if_neg hk]
theorem phull_any (a b c d : Int) (w : World) : Calls Try.prog 20 #[Vc.S a b, Vc.S c d] w (Vc.Ret (Vc.RV (hull a b c d)) w) := by
  refine vc_span_Hull _ _ _ _ w _ ?_
  refine ⟨_, fun _ _ _ hm => checked2 hm.1.2, ?_⟩
  refine iteI (fun h => ?_) (fun h => ?_)
  · rintro _ rfl _ rfl
    unfold hull
    rw [if_pos (chk2_ok h)]
    refine rv ?_
    simp only [Prod.mk.injEq, and_true]
    constructor <;> (split <;> omega)
  · unfold hull
    rw [if_neg (chk2_no h).1, (chk2_no h).2]
theorem pmeet_any (a b c d : Int) (w : World) : Calls Try.prog 22 #[Vc.S a b, Vc.S c d] w (Vc.Ret (Vc.RV (meet a b c d)) w) := by
  refine vc_span_Meet _ _ _ _ w _ ?_
  refine ⟨_, fun _ _ _ hm => checked2 hm.1.2, ?_⟩
  refine iteI (fun h => ?_) (fun h => ?_)
  · intro x hx y hy
    have e1 : x = max a c := by rw [hx]; split <;> omega
    have e2 : y = min b d := by rw [hy]; split <;> omega
    subst e1 e2
    unfold meet
    rw [if_pos (chk2_ok h)]
    refine iteI (fun h => ?_) (fun h => ?_)
    · rw [if_pos h]
    · rw [if_neg h]
  · unfold meet
    rw [if_neg (chk2_no h).1, (chk2_no h).2]
theorem pgrow_any (a b n : Int) (w : World) (ha : I64 a) (hb : I64 b) (hn : I64 n) : Calls Try.prog 24 #[Vc.S a b, .int .i64 n] w (Vc.Ret (Vc.RV (grow a b n)) w) := by
  refine vc_span_Grow _ _ _ w _ ?_
  (repeat apply Exists.intro); refine And.intro (fun _ _ => check_any _ _ _) ?_
  refine iteI (fun h => ?_) (fun h => ?_)
  · have h := chk_ok h
    refine iteI (fun h0 => ?_) (fun h0 => ?_)
    · unfold grow; rw [if_neg (by simp [h]; omega)]
    · rintro _ rfl
      have e : IntKind.i64.wrap (0 - n) = -n := by obtain ⟨n1, n2⟩ := hn; rw [Ul.i64_eq]; omega
      rw [e]
      (repeat apply Exists.intro); refine And.intro (fun _ _ => padd_any _ _ _ _ _ ha hb (by obtain ⟨n1, n2⟩ := hn; constructor <;> omega) hn) ?_
      have hk : ok (-n) n = true := by rw [ok_true]; obtain ⟨n1, n2⟩ := hn; omega
      unfold grow add
      rw [if_pos (by simp [h, hk]), if_pos (by simp [h]; omega)]; rfl
  · unfold grow; rw [if_neg (by simp [(chk_no h).1])]
theorem psplit_mid (a b : Int) (w : World) : True := trivial
theorem pwide_any (a b : Int) (w : World) (ha : I64 a) (hb : I64 b) : Calls Try.prog 30 #[Vc.S a b] w (Vc.Ret (Vc.NV (wide a b)) w) := by
  obtain ⟨h1, h2⟩ := ha; obtain ⟨h3, h4⟩ := hb
  refine vc_span_Wide _ _ w _ ?_
  (repeat apply Exists.intro); refine And.intro (fun _ _ => check_any _ _ _) ?_
  refine iteI (fun h => ?_) (fun h => ?_)
  · have h := chk_ok h
    have := ok_true.1 h
    unfold wide
    rw [if_pos h]
    (repeat' (first | (intro _ hx) | (refine Vc.iteI (fun h => ?_) (fun h => ?_)) | (refine And.intro (by omega) ?_)))
    all_goals (simp only [Ul.i64_eq] at *; refine nv ?_)
    all_goals (split <;> simp only [Prod.mk.injEq, and_true, true_and] <;> omega)
  · unfold wide; rw [if_neg (chk_no h).1, (chk_no h).2]
end Go.Proofs.Ytdhiapllbjamfaa
