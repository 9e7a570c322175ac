/- Contracts: the reference's sums, hulls, middles; the program's middles; products. -/
import Derived.Test.YtdhiapllbjamfaaCe
set_option linter.unusedVariables false
set_option linter.unusedSimpArgs false
namespace Go.Proofs.Ytdhiapllbjamfaa
open Go Go.RowKit Ul Vc
attribute [local irreducible] Go.Calls

/-- 1, if both numbers are odd. -/
def oddBit (a b : Int) : Int := if a % 2 = 1 ∧ b % 2 = 1 then 1 else 0
theorem and1_i64' (x : Int) : bits .and .i64 x 1 = x % 2 := by
  show IntKind.i64.wrap ((BitVec.ofInt 64 x &&& BitVec.ofInt 64 1).toNat : Int) = _
  have e1 := ofInt_toNat x
  rw [BitVec.toNat_and, IntKind.wrap_i64, show (BitVec.ofInt 64 1).toNat = 1 by decide, nat_mask1]
  omega
theorem nat_and_bits (x y : Nat) : (x &&& y) % 2 = if x % 2 = 1 ∧ y % 2 = 1 then 1 else 0 := by
  have h := Nat.and_mod_two_pow (a := x) (b := y) (n := 1)
  rw [show 2 ^ 1 = 2 from rfl] at h
  rw [h]
  have hx : x % 2 = 0 ∨ x % 2 = 1 := by omega
  have hy : y % 2 = 0 ∨ y % 2 = 1 := by omega
  rcases hx with hx | hx <;> rcases hy with hy | hy <;> rw [hx, hy] <;> rfl
theorem par (z : Nat) (h : z < 18446744073709551616) : (((z : Int) + 9223372036854775808) % 18446744073709551616 - 9223372036854775808) % 2 = ((z % 2 : Nat) : Int) := by
  by_cases c : z < 9223372036854775808
  · have e1 : ((z : Int) + 9223372036854775808) % 18446744073709551616 = (z : Int) + 9223372036854775808 := Int.emod_eq_of_lt (by omega) (by omega)
    rw [e1]; omega
  · have e : ((z : Int) + 9223372036854775808) = ((z : Int) - 9223372036854775808) + 18446744073709551616 * 1 := by omega
    have e1 : ((z : Int) + 9223372036854775808) % 18446744073709551616 = (z : Int) - 9223372036854775808 := by
      rw [e, Int.add_mul_emod_self_left]; exact Int.emod_eq_of_lt (by omega) (by omega)
    rw [e1]; omega
theorem par2 (a : Int) (x : Nat) (h : (x : Int) = a % 18446744073709551616) : a % 2 = ((x % 2 : Nat) : Int) := by omega
theorem and_and1 (a b : Int) : bits .and .i64 (bits .and .i64 a b) 1 = oddBit a b := by
  rw [and1_i64']
  show IntKind.i64.wrap ((BitVec.ofInt 64 a &&& BitVec.ofInt 64 b).toNat : Int) % 2 = _
  have ea := ofInt_toNat a
  have eb := ofInt_toNat b
  have hx := (BitVec.ofInt 64 a).isLt
  rw [BitVec.toNat_and, IntKind.wrap_i64]
  generalize (BitVec.ofInt 64 a).toNat = x at *
  generalize (BitVec.ofInt 64 b).toNat = y at *
  have h1 := nat_and_bits x y
  have hz : x &&& y < 18446744073709551616 := Nat.lt_of_le_of_lt Nat.and_le_left hx
  have ex := par2 a x ea
  have ey := par2 b y eb
  rw [par _ hz, h1]
  clear ea eb hz h1
  unfold oddBit
  by_cases c : x % 2 = 1 ∧ y % 2 = 1
  · rw [if_pos c, if_pos (by omega)]; rfl
  · rw [if_neg c, if_neg (by omega)]; rfl


theorem out_any (a b : Int) (w : World) (ha : P127 a) (hb : P127 b) : Calls Try.prog 77 #[VW a, VW b] w (Vc.Ret (Vc.RV (fit a b)) w) := by
  have l1 := lo_bd a; have l2 := lo_bd b
  have hf : fit a b = if -9223372036854775807 ≤ a ∧ a ≤ 9223372036854775807 ∧ -9223372036854775807 ≤ b ∧ b ≤ 9223372036854775807 then (a, b, 0) else (0, 0, 4) := rfl
  rw [hf]
  refine vc_ullageref01_out _ _ _ _ w _ ?_
  (repeat apply Exists.intro); refine And.intro (fun _ _ => of_W _ _ (by omega) (by omega)) ?_
  (repeat apply Exists.intro); refine And.intro (fun _ _ => less_W _ _ _) ?_
  refine iteI (fun h1 => ?_) (fun h1 => ?_)
  · have := of_decide_eq_true h1
    rw [if_neg (by omega)]
  (repeat apply Exists.intro); refine And.intro (fun _ _ => of_W _ _ (by omega) (by omega)) ?_
  (repeat apply Exists.intro); refine And.intro (fun _ _ => less_W _ _ _) ?_
  refine iteI (fun h2 => ?_) (fun h2 => ?_)
  · have := of_decide_eq_true h2
    rw [if_neg (by omega)]
  (repeat apply Exists.intro); refine And.intro (fun _ _ => of_W _ _ (by omega) (by omega)) ?_
  (repeat apply Exists.intro); refine And.intro (fun _ _ => less_W _ _ _) ?_
  refine iteI (fun h3 => ?_) (fun h3 => ?_)
  · have := of_decide_eq_true h3
    rw [if_neg (by omega)]
  (repeat apply Exists.intro); refine And.intro (fun _ _ => of_W _ _ (by omega) (by omega)) ?_
  (repeat apply Exists.intro); refine And.intro (fun _ _ => less_W _ _ _) ?_
  refine iteI (fun h4 => ?_) (fun h4 => ?_)
  · have := of_decide_eq_true h4
    rw [if_neg (by omega)]
  rintro _ rfl _ rfl
  simp only [decide_eq_true_eq] at h1 h2 h3 h4
  rw [if_pos (by omega)]
  refine rv ?_
  simp only [Ul.i64_eq, Prod.mk.injEq, and_true]
  unfold loW; omega
theorem radd_any (a b c d : Int) (w : World) (ha : I64 a) (hb : I64 b) (hc : I64 c) (hd : I64 d) :
    Calls Try.prog 34 #[Vc.S a b, Vc.S c d] w (Vc.Ret (Vc.RV (add a b c d)) w) := by
  have e1 : P127 (a + c) := by obtain ⟨_, _⟩ := ha; obtain ⟨_, _⟩ := hc; constructor <;> omega
  have e2 : P127 (b + d) := by obtain ⟨_, _⟩ := hb; obtain ⟨_, _⟩ := hd; constructor <;> omega
  refine vc_ullageref01_Add _ _ _ _ w _ ?_
  (repeat apply Exists.intro); refine And.intro (fun _ _ => both_any _ _ _ _ _) ?_
  refine iteI (fun h => ?_) (fun h => ?_)
  · (repeat apply Exists.intro); refine And.intro (fun _ _ => wide_W _ _ ha.1 ha.2) ?_
    (repeat apply Exists.intro); refine And.intro (fun _ _ => wide_W _ _ hc.1 hc.2) ?_
    (repeat apply Exists.intro); refine And.intro (fun _ _ => plus_W _ _ _ e1) ?_
    (repeat apply Exists.intro); refine And.intro (fun _ _ => wide_W _ _ hb.1 hb.2) ?_
    (repeat apply Exists.intro); refine And.intro (fun _ _ => wide_W _ _ hd.1 hd.2) ?_
    (repeat apply Exists.intro); refine And.intro (fun _ _ => plus_W _ _ _ e2) ?_
    (repeat apply Exists.intro); refine And.intro (fun _ _ => out_any _ _ _ e1 e2) ?_
    unfold add; rw [if_pos (chk2_ok h)]
  · unfold add; rw [if_neg (chk2_no h).1]
theorem rneg_any (a b : Int) (w : World) (ha : I64 a) (hb : I64 b) : Calls Try.prog 38 #[Vc.S a b] w (Vc.Ret (Vc.RV (neg a b)) w) := by
  refine vc_ullageref01_Neg _ _ w _ ?_
  (repeat apply Exists.intro); refine And.intro (fun _ _ => rcheck_any _ _ _) ?_
  refine iteI (fun h => ?_) (fun h => ?_)
  · rintro _ rfl _ rfl
    have h := chk_ok h
    unfold neg
    rw [if_pos h]
    have := ok_true.1 h
    refine rv ?_
    simp only [Ul.i64_eq, Prod.mk.injEq, and_true]
    obtain ⟨h1, h2⟩ := ha; obtain ⟨h3, h4⟩ := hb
    omega
  · unfold neg
    rw [if_neg (chk_no h).1]
theorem rsub_any (a b c d : Int) (w : World) (ha : I64 a) (hb : I64 b) (hc : I64 c) (hd : I64 d) :
    Calls Try.prog 36 #[Vc.S a b, Vc.S c d] w (Vc.Ret (Vc.RV (sub a b c d)) w) := by
  have hn := neg_bd hc hd
  refine vc_ullageref01_Sub _ _ _ _ w _ ?_
  (repeat apply Exists.intro); refine And.intro (fun _ _ => rneg_any _ _ _ hc hd) ?_
  refine iteI (fun h => ?_) (fun h => ?_)
  · (repeat apply Exists.intro); refine And.intro (fun _ _ => radd_any _ _ _ _ _ ha hb hn.1 hn.2) ?_
    have hk : ok c d = true := by
      unfold neg at h; split at h
      · assumption
      · cases h
    unfold sub; rw [if_pos hk]; unfold neg; rw [if_pos hk]
  · have hk : ¬ ok c d = true := by
      intro hk; unfold neg at h; rw [if_pos hk] at h; exact h rfl
    unfold sub neg; rw [if_neg hk, if_neg hk]
theorem rhull_any (a b c d : Int) (w : World) : Calls Try.prog 21 #[Vc.S a b, Vc.S c d] w (Vc.Ret (Vc.RV (hull a b c d)) w) := by
  refine vc_ullageref01_Hull _ _ _ _ w _ ?_
  (repeat apply Exists.intro); refine And.intro (fun _ _ => both_any _ _ _ _ _) ?_
  refine iteI (fun h => ?_) (fun h => ?_)
  · rintro _ rfl _ rfl
    unfold hull
    rw [if_pos (chk2_ok h)]
    refine rv ?_
    simp only [Prod.mk.injEq, and_true]
    constructor <;> (split <;> omega)
  · unfold hull
    rw [if_neg (chk2_no h).1]
theorem rmeet_any (a b c d : Int) (w : World) : Calls Try.prog 23 #[Vc.S a b, Vc.S c d] w (Vc.Ret (Vc.RV (meet a b c d)) w) := by
  refine vc_ullageref01_Meet _ _ _ _ w _ ?_
  (repeat apply Exists.intro); refine And.intro (fun _ _ => both_any _ _ _ _ _) ?_
  refine iteI (fun h => ?_) (fun h => ?_)
  · intro x hx y hy
    have e1 : x = max a c := by rw [hx]; split <;> omega
    have e2 : y = min b d := by rw [hy]; split <;> omega
    subst e1 e2
    unfold meet
    rw [if_pos (chk2_ok h)]
    refine iteI (fun h => ?_) (fun h => ?_)
    · rw [if_pos h]
    · rw [if_neg h]
  · unfold meet
    rw [if_neg (chk2_no h).1]
theorem rgrow_any (a b n : Int) (w : World) (ha : I64 a) (hb : I64 b) (hn : I64 n) : Calls Try.prog 25 #[Vc.S a b, .int .i64 n] w (Vc.Ret (Vc.RV (grow a b n)) w) := by
  refine vc_ullageref01_Grow _ _ _ w _ ?_
  (repeat apply Exists.intro); refine And.intro (fun _ _ => rcheck_any _ _ _) ?_
  refine iteI (fun h => ?_) (fun h => ?_)
  · have h := chk_ok h
    refine iteI (fun h0 => ?_) (fun h0 => ?_)
    · unfold grow; rw [if_neg (by simp [h]; omega)]
    · have e1 : P127 (a + -n) := by obtain ⟨_, _⟩ := ha; obtain ⟨_, _⟩ := hn; constructor <;> omega
      have e2 : P127 (b + n) := by obtain ⟨_, _⟩ := hb; obtain ⟨_, _⟩ := hn; constructor <;> omega
      (repeat apply Exists.intro); refine And.intro (fun _ _ => wide_W _ _ ha.1 ha.2) ?_
      rintro _ rfl
      have e : IntKind.i64.wrap (0 - n) = -n := by obtain ⟨n1, n2⟩ := hn; rw [Ul.i64_eq]; omega
      rw [e]
      (repeat apply Exists.intro); refine And.intro (fun _ _ => wide_W _ _ (by obtain ⟨n1, n2⟩ := hn; omega) (by obtain ⟨n1, n2⟩ := hn; omega)) ?_
      (repeat apply Exists.intro); refine And.intro (fun _ _ => plus_W _ _ _ e1) ?_
      (repeat apply Exists.intro); refine And.intro (fun _ _ => wide_W _ _ hb.1 hb.2) ?_
      (repeat apply Exists.intro); refine And.intro (fun _ _ => wide_W _ _ hn.1 hn.2) ?_
      (repeat apply Exists.intro); refine And.intro (fun _ _ => plus_W _ _ _ e2) ?_
      (repeat apply Exists.intro); refine And.intro (fun _ _ => out_any _ _ _ e1 e2) ?_
      unfold grow
      rw [if_pos (by simp [h]; omega)]; rfl
  · unfold grow; rw [if_neg (by simp [(chk_no h).1])]
theorem pmid_any (a b : Int) (w : World) (ha : I64 a) (hb : I64 b) : Calls Try.prog 26 #[Vc.S a b] w (Vc.Ret (Vc.NV (mid a b)) w) := by
  obtain ⟨h1, h2⟩ := ha; obtain ⟨h3, h4⟩ := hb
  refine vc_span_Mid _ _ w _ ?_
  (repeat apply Exists.intro); refine And.intro (fun _ _ => check_any _ _ _) ?_
  refine iteI (fun h => ?_) (fun h => ?_)
  · have h := chk_ok h
    have := ok_true.1 h
    unfold mid; rw [if_pos h]
    rintro _ rfl _ rfl _ rfl _ rfl _ rfl _ rfl
    rw [and_and1]
    refine nv ?_
    simp only [Ul.i64_eq, Prod.mk.injEq, and_true]
    unfold oddBit; split <;> omega
  · unfold mid; rw [if_neg (chk_no h).1, (chk_no h).2]
theorem rmid_any (a b : Int) (w : World) (ha : I64 a) (hb : I64 b) : Calls Try.prog 27 #[Vc.S a b] w (Vc.Ret (Vc.NV (mid a b)) w) := by
  obtain ⟨h1, h2⟩ := ha; obtain ⟨h3, h4⟩ := hb
  refine vc_ullageref01_Mid _ _ w _ ?_
  (repeat apply Exists.intro); refine And.intro (fun _ _ => rcheck_any _ _ _) ?_
  refine iteI (fun h => ?_) (fun h => ?_)
  · have h := chk_ok h
    have := ok_true.1 h
    unfold mid; rw [if_pos h]
    (repeat apply Exists.intro); refine And.intro (fun _ _ => wide_W _ _ h1 h2) ?_
    (repeat apply Exists.intro); refine And.intro (fun _ _ => wide_W _ _ h3 h4) ?_
    (repeat apply Exists.intro); refine And.intro (fun _ _ => plus_W _ _ _ ⟨by omega, by omega⟩) ?_
    (repeat apply Exists.intro); refine And.intro (fun _ _ => of_W _ _ (by omega) (by omega)) ?_
    (repeat apply Exists.intro); refine And.intro (fun _ _ => rfloor_W _ _ _ (by omega) (by omega) (by omega) (by omega)) ?_
    rintro _ rfl
    refine nv ?_
    simp only [Ul.i64_eq, Prod.mk.injEq, and_true]
    unfold fl loW; omega
  · unfold mid; rw [if_neg (chk_no h).1]
/-- Both halves, and the error. -/
def splitV (a b : Int) : Value := if ok a b then .tuple #[Vc.S a ((a + b) / 2), Vc.S ((a + b) / 2) b, .int .i64 0] else .tuple #[Vc.S 0 0, Vc.S 0 0, .int .i64 2]
def spl (a b : Int) : R × R × Int := if ok a b then ((a, (a + b) / 2, 0), ((a + b) / 2, b, 0), 0) else ((0, 0, 0), (0, 0, 0), 2)
theorem psplit_any (a b : Int) (w : World) (ha : I64 a) (hb : I64 b) : Calls Try.prog 28 #[Vc.S a b] w (Vc.Ret (Vc.RRV (spl a b).1 (spl a b).2.1 (spl a b).2.2) w) := by
  refine vc_span_Split _ _ w _ ?_
  (repeat apply Exists.intro); refine And.intro (fun _ _ => pmid_any _ _ _ ha hb) ?_
  unfold mid spl
  split <;> (repeat' (first | (intro _ hx) | (refine Vc.iteI (fun h => ?_) (fun h => ?_)) | (refine And.intro (by omega) ?_))) <;> simp_all
theorem rsplit_any (a b : Int) (w : World) (ha : I64 a) (hb : I64 b) : Calls Try.prog 29 #[Vc.S a b] w (Vc.Ret (Vc.RRV (spl a b).1 (spl a b).2.1 (spl a b).2.2) w) := by
  refine vc_ullageref01_Split _ _ w _ ?_
  (repeat apply Exists.intro); refine And.intro (fun _ _ => rmid_any _ _ _ ha hb) ?_
  unfold mid spl
  split <;> (repeat' (first | (intro _ hx) | (refine Vc.iteI (fun h => ?_) (fun h => ?_)) | (refine And.intro (by omega) ?_))) <;> simp_all
theorem rwideS_any (a b : Int) (w : World) (ha : I64 a) (hb : I64 b) : Calls Try.prog 31 #[Vc.S a b] w (Vc.Ret (Vc.NV (wide a b)) w) := by
  obtain ⟨h1, h2⟩ := ha; obtain ⟨h3, h4⟩ := hb
  refine vc_ullageref01_Wide _ _ w _ ?_
  (repeat apply Exists.intro); refine And.intro (fun _ _ => rcheck_any _ _ _) ?_
  refine iteI (fun h => ?_) (fun h => ?_)
  · have h := chk_ok h
    have := ok_true.1 h
    unfold wide; rw [if_pos h]
    (repeat apply Exists.intro); refine And.intro (fun _ _ => wide_W _ _ h3 h4) ?_
    (repeat apply Exists.intro); refine And.intro (fun _ _ => wide_W _ _ h1 h2) ?_
    (repeat apply Exists.intro); refine And.intro (fun _ _ => minus_W _ _ ⟨by omega, by omega⟩ ⟨by omega, by omega⟩) ?_
    (repeat apply Exists.intro); refine And.intro (fun _ _ => plus_W _ _ _ ⟨by omega, by omega⟩) ?_
    (repeat apply Exists.intro); refine And.intro (fun _ _ => of_W _ _ (by omega) (by omega)) ?_
    (repeat apply Exists.intro); refine And.intro (fun _ _ => less_W _ _ _) ?_
    refine iteI (fun h => ?_) (fun h => ?_)
    · have := of_decide_eq_true h
      rw [if_pos (by omega)]
    · rintro _ rfl
      simp only [decide_eq_true_eq] at h
      rw [if_neg (by omega)]
      refine nv ?_
      simp only [Ul.i64_eq, Prod.mk.injEq, and_true]
      unfold loW; omega
  · unfold wide; rw [if_neg (chk_no h).1]
theorem same_eq (a b e : Int) (w : World) : Calls Try.prog 32 #[Vc.S a b, .int .i64 e, Vc.S a b, .int .i64 e] w (Vc.Ret (.bool true) w) := by
  simpa using same_any a b e a b e w
theorem walk_spanSets (a b : Int) (ha : (Lit.int .i64 a).wf = true) (hb : (Lit.int .i64 b).wf = true) (c d : Int) (hc : (Lit.int .i64 c).wf = true) (hd : (Lit.int .i64 d).wf = true) (n : Int) (hn : (Lit.int .i64 n).wf = true) (w : World) :
    Calls Try.prog 4 #[Vc.S a b, Vc.S c d, .int .i64 n] w (Vc.Ret (.bool true) w) := by
  replace ha := wf64 ha; replace hb := wf64 hb; replace hc := wf64 hc; replace hd := wf64 hd; replace hn := wf64 hn
  refine vc_ullagelaw01_SpanSets _ _ _ _ _ w _ ?_
  (repeat apply Exists.intro); refine And.intro (fun _ _ => phull_any _ _ _ _ _) ?_
  (repeat apply Exists.intro); refine And.intro (fun _ _ => rhull_any _ _ _ _ _) ?_
  (repeat apply Exists.intro); refine And.intro (fun _ _ => pmeet_any _ _ _ _ _) ?_
  (repeat apply Exists.intro); refine And.intro (fun _ _ => rmeet_any _ _ _ _ _) ?_
  (repeat apply Exists.intro); refine And.intro (fun _ _ => pgrow_any _ _ _ _ ha hb hn) ?_
  (repeat apply Exists.intro); refine And.intro (fun _ _ => rgrow_any _ _ _ _ ha hb hn) ?_
  (repeat apply Exists.intro); refine And.intro (fun _ _ => pmid_any _ _ _ ha hb) ?_
  (repeat apply Exists.intro); refine And.intro (fun _ _ => rmid_any _ _ _ ha hb) ?_
  (repeat apply Exists.intro); refine And.intro (fun _ _ => psplit_any _ _ _ ha hb) ?_
  (repeat apply Exists.intro); refine And.intro (fun _ _ => rsplit_any _ _ _ ha hb) ?_
  (repeat apply Exists.intro); refine And.intro (fun _ _ => pwide_any _ _ _ ha hb) ?_
  (repeat apply Exists.intro); refine And.intro (fun _ _ => rwideS_any _ _ _ ha hb) ?_
  (repeat' (first | (intro _ hx) | ((repeat apply Exists.intro); first | refine And.intro (fun _ _ => same_eq _ _ _ _) ?_) | (refine Vc.iteI (fun h => ?_) (fun h => ?_)) | (refine And.intro (by omega) ?_)))
  all_goals simp_all
end Go.Proofs.Ytdhiapllbjamfaa
