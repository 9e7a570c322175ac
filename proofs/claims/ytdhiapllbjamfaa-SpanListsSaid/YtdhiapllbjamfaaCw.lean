/- Contracts: roots, both; the law SpanRoots. -/
import Derived.Test.YtdhiapllbjamfaaCv
set_option linter.unusedVariables false
set_option linter.unusedSimpArgs false
namespace Go.Proofs.Ytdhiapllbjamfaa
open Go Go.RowKit Ul Vc
attribute [local irreducible] Go.Calls

/-- The bit of a step. -/
def bitOf (k : Nat) : Int := if k = 0 then 0 else 2 ^ (k - 1)
theorem bitOf_succ (k : Nat) : bitOf (k + 1) = 2 ^ k := rfl
theorem bitOf_half (k : Nat) : (2 : Int) ^ k / 2 = bitOf k := by
  cases k with
  | zero => rfl
  | succ j => rw [bitOf_succ, Int.pow_succ]; omega
/-- The state of a root. -/
def RootI (X : Int) (l : List Vc.Vl) : Prop := ∃ (k : Nat) (r q : Int), k ≤ 49 ∧ r = q * 2 ^ k ∧ 0 ≤ q ∧ r + 2 ^ k ≤ 562949953421312 ∧ rootTo k r X = isqrt X ∧ l = [.i r, .i (bitOf k)]
def rootM (l : List Vc.Vl) : Nat := match l with | [_, .i b] => b.toNat | _ => 0
theorem pow_le48 (k : Nat) (h : k ≤ 48) : (2 : Int) ^ k ≤ 281474976710656 := by
  have h2 : (2 : Nat) ^ k ≤ 2 ^ 48 := Nat.pow_le_pow_right (by decide) h
  have : ((2 ^ k : Nat) : Int) = 2 ^ k := by rw [Int.natCast_pow]; rfl
  omega
theorem RootI.start (X : Int) : RootI X [.i 0, .i 281474976710656] := ⟨49, 0, 0, by decide, by simp, by decide, by decide, rfl, rfl⟩
/-- One step of a root. -/
theorem RootI.step {X r b : Int} (h : RootI X [.i r, .i b]) (h0 : 0 < b) :
    ∃ k : Nat, k ≤ 48 ∧ b = 2 ^ k ∧ 0 ≤ r ∧ r + b ≤ 562949953421312 ∧ (∃ q, r = q * 2 ^ (k + 1) ∧ 0 ≤ q) ∧
      (∀ b', b' = b / 2 → ((r + b) * (r + b) ≤ X → RootI X [.i (r + b), .i b'] ∧ rootM [.i (r + b), .i b'] < rootM [.i r, .i b]) ∧ (¬ (r + b) * (r + b) ≤ X → RootI X [.i r, .i b'] ∧ rootM [.i r, .i b'] < rootM [.i r, .i b])) := by
  obtain ⟨k, r', q, hk, hr, hq, hb, ht, hl⟩ := h
  simp only [List.cons.injEq, Vc.Vl.i.injEq, and_true] at hl
  obtain ⟨rfl, rfl⟩ := hl
  cases k with
  | zero => exact absurd h0 (by decide)
  | succ j =>
    rw [bitOf_succ] at h0 ⊢
    have e2 : (2 : Int) ^ (j + 1) = 2 ^ j + 2 ^ j := by rw [Int.pow_succ]; omega
    have r0 : 0 ≤ r := by rw [hr]; exact Int.mul_nonneg hq (by omega)
    refine ⟨j, by omega, rfl, r0, by omega, ⟨q, hr, hq⟩, ?_⟩
    rintro b' hb'
    rw [bitOf_half] at hb'
    subst hb'
    have hlt : bitOf j < 2 ^ j := by unfold bitOf; split <;> (try omega); rename_i h; have : (2 : Int) ^ j = 2 ^ (j - 1) + 2 ^ (j - 1) := by rw [show j = (j - 1) + 1 by omega, Int.pow_succ]; simp; omega
                                     have := pow2_pos (j - 1); omega
    have hlt' : (bitOf j).toNat < ((2 : Int) ^ j).toNat := by omega
    refine ⟨fun hc => ⟨⟨j, r + 2 ^ j, 2 * q + 1, by omega, ?_, by omega, by omega, ?_, rfl⟩, by simp only [rootM]; exact hlt'⟩, fun hc => ⟨⟨j, r, 2 * q, by omega, ?_, by omega, by omega, ?_, rfl⟩, by simp only [rootM]; exact hlt'⟩⟩
    · rw [hr, e2]; grind
    · rw [← ht]; show _ = (if _ then _ else _); rw [if_pos hc]
    · rw [hr, e2]; grind
    · rw [← ht]; show _ = (if _ then _ else _); rw [if_neg hc]
theorem RootI.done {X r b : Int} (h : RootI X [.i r, .i b]) (h0 : ¬ 0 < b) : r = isqrt X ∧ 0 ≤ r ∧ r < 562949953421312 := by
  obtain ⟨k, r', q, hk, hr, hq, hb, ht, hl⟩ := h
  simp only [List.cons.injEq, Vc.Vl.i.injEq, and_true] at hl
  obtain ⟨rfl, rfl⟩ := hl
  cases k with
  | zero => exact ⟨ht, by rw [hr]; omega, by omega⟩
  | succ j => exact absurd (by rw [bitOf_succ]; exact pow2_pos j) h0
theorem rfloorRoot_any (X : Int) (w : World) : Calls Try.prog 110 #[VW X] w (Vc.Ret (.int .i64 (isqrt X)) w) := by
  refine vc_ullageref01_FloorRoot _ _ w _ ?_
  refine ⟨RootI X, rootM, RootI.start X, ?_⟩
  intro r b hI
  refine iteI (fun h => ?_) (fun h => ?_)
  · obtain ⟨k, hk, hb, r0, rb, _, st⟩ := hI.step h
    intro x hx
    have e : x = r + b := by rw [hx, Ul.i64_eq]; omega
    subst e
    clear hx
    (repeat apply Exists.intro); refine And.intro (fun _ _ => times_raw _ _ _ (by omega) (by omega) (by omega) (by omega)) ?_
    (repeat apply Exists.intro); refine And.intro (fun _ _ => less_W _ _ _) ?_
    refine iteI (fun c => ?_) (fun c => ?_)
    · intro y hy
      refine (st y ?_).2 (by simpa using c)
      rw [hy, Int.tdiv_eq_ediv_of_nonneg (by omega), Ul.i64_eq]; omega
    · intro y hy
      refine (st y ?_).1 (by simpa using c)
      rw [hy, Int.tdiv_eq_ediv_of_nonneg (by omega), Ul.i64_eq]; omega
  · rw [(hI.done h).1]
theorem absI_pos {x : Int} (h : 0 ≤ x) : absI x = x := by unfold absI; rw [if_neg (by omega)]
theorem proot_any (x : Int) (w : World) (hx : 0 ≤ x) (hx' : x ≤ 9223372036854775807) :
    Calls Try.prog 109 #[.int .i64 x] w (Vc.Ret (.tuple #[.int .u64 (isqrt (x * 4294967296)), .bool (decide (isqrt (x * 4294967296) * isqrt (x * 4294967296) = x * 4294967296))]) w) := by
  have xi : I64 x := ⟨by omega, hx'⟩
  refine vc_span_root _ w _ ?_
  (repeat apply Exists.intro); refine And.intro (fun _ _ => pof_any _ _ xi) ?_
  rw [absI_pos hx]
  (repeat apply Exists.intro); refine And.intro (fun _ _ => up32_B _ _ _ hx (by omega)) ?_
  have X0 : 0 ≤ x * 4294967296 := by omega
  generalize x * 4294967296 = X at *
  refine ⟨RootI X, rootM, RootI.start X, ?_⟩
  intro r b hI
  refine iteI (fun h => ?_) (fun h => ?_)
  · obtain ⟨k, hk, hb, r0, rb, ⟨q, hq, hq0⟩, st⟩ := hI.step h
    have e : bits .or .u64 r b = r + b := or_add r b (k + 1) (by omega) q hq hq0 (by omega) (by rw [hb, Int.pow_succ]; have := pow2_pos k; omega) (by omega)
    rw [e]
    rintro _ rfl _ rfl
    have m := mul_le_of (r + b) (r + b) 562949953421312 562949953421312 (by omega) (by omega) rb rb
    (repeat apply Exists.intro); refine And.intro (fun _ _ => mul64_any _ _ _ (by omega) (by omega) (by omega) (by omega)) ?_
    have sl := size_lt ((r + b) * (r + b)) X
    have sr := size_lt X ((r + b) * (r + b))
    refine iteI (fun c => ?_) (fun c => iteI (fun d => iteI (fun f => ?_) (fun f => ?_)) (fun d => ?_))
    · rintro _ rfl y hy
      exact (st y hy).1 (by omega)
    · rintro _ rfl y hy
      exact (st y hy).1 (by omega)
    · rintro y hy
      exact (st y hy).2 (by omega)
    · rintro y hy
      exact (st y hy).2 (by omega)
  · obtain ⟨e, r0, r1⟩ := hI.done h
    subst e
    (repeat apply Exists.intro); refine And.intro (fun _ _ => mul64_any _ _ _ (by omega) (by omega) (by omega) (by omega)) ?_
    have t2 : ∀ {a : Int} {p q : Bool}, p = q → (Value.tuple #[Value.int .u64 a, .bool p]) = .tuple #[.int .u64 a, .bool q] := by rintro _ _ _ rfl; rfl
    refine iteI (fun c => ?_) (fun c => ?_)
    · refine t2 ?_
      rw [Bool.eq_iff_iff]; simp only [beq_iff_eq, decide_eq_true_eq]
      generalize isqrt X * isqrt X = Y at *
      unfold hiW loW at *; omega
    · refine t2 ?_
      rw [Bool.eq_iff_iff]; simp only [Bool.false_eq_true, decide_eq_true_eq, false_iff]
      generalize isqrt X * isqrt X = Y at *
      intro k; exact c (by rw [k])
theorem rootTo_bd : ∀ (k : Nat) (r X : Int), r ≤ rootTo k r X ∧ rootTo k r X < r + 2 ^ k
  | 0, r, X => by unfold rootTo; exact ⟨Int.le_refl _, by simp; omega⟩
  | k + 1, r, X => by
    have h1 := rootTo_bd k (r + 2 ^ k) X
    have h2 := rootTo_bd k r X
    have p := pow2_pos k
    have e2 : (2 : Int) ^ (k + 1) = 2 ^ k + 2 ^ k := by rw [Int.pow_succ]; omega
    unfold rootTo
    split <;> omega
theorem isqrt_bd (X : Int) : 0 ≤ isqrt X ∧ isqrt X < 562949953421312 := by
  have := rootTo_bd 49 0 X
  unfold isqrt
  omega
theorem pRoot_any (a b : Int) (w : World) (ha : I64 a) (hb : I64 b) : Calls Try.prog 61 #[Vc.S a b] w (Vc.Ret (Vc.RV (root a b)) w) := by
  obtain ⟨a1, a2⟩ := ha; obtain ⟨b1, b2⟩ := hb
  refine vc_span_Root _ _ w _ ?_
  (repeat apply Exists.intro); refine And.intro (fun _ _ => check_any _ _ _) ?_
  unfold root
  refine iteI (fun h => ?_) (fun h => ?_)
  · rw [if_pos (chk_ok h)]
    refine iteI (fun c => ?_) (fun c => ?_)
    · rw [if_pos c]
    · rw [if_neg c]
      intro x hx
      have e : x = max a 0 := by rw [hx]; split <;> omega
      subst e
      (repeat apply Exists.intro); refine And.intro (fun _ _ => proot_any _ _ (by omega) (by omega)) ?_
      (repeat apply Exists.intro); refine And.intro (fun _ _ => proot_any _ _ (by omega) (by omega)) ?_
      have i1 := isqrt_bd (max a 0 * 4294967296)
      have i2 := isqrt_bd (b * 4294967296)
      unfold rootUp
      refine iteI (fun d => ?_) (fun d => ?_)
      · rw [if_pos (of_decide_eq_true d)]
        rintro _ rfl _ rfl
        refine rv ?_
        simp only [Ul.i64_eq, Prod.mk.injEq, and_true]; omega
      · rw [if_neg (by simpa using d)]
        rintro _ rfl _ rfl _ rfl
        refine rv ?_
        simp only [Ul.i64_eq, Ul.u64_eq, Prod.mk.injEq, and_true]; omega
  · rw [if_neg (chk_no h).1, (chk_no h).2]
theorem isqrt_sq (X : Int) (h0 : 0 ≤ X) : isqrt X * isqrt X ≤ X := by
  have key : ∀ (k : Nat) (r : Int), r * r ≤ X → rootTo k r X * rootTo k r X ≤ X := by
    intro k
    induction k with
    | zero => intro r h; exact h
    | succ k ih =>
      intro r h
      unfold rootTo
      split
      · rename_i c; exact ih _ c
      · exact ih _ h
  exact key 49 0 (by omega)
theorem rRoot_any (a b : Int) (w : World) (ha : I64 a) (hb : I64 b) : Calls Try.prog 62 #[Vc.S a b] w (Vc.Ret (Vc.RV (root a b)) w) := by
  obtain ⟨a1, a2⟩ := ha; obtain ⟨b1, b2⟩ := hb
  refine vc_ullageref01_Root _ _ w _ ?_
  (repeat apply Exists.intro); refine And.intro (fun _ _ => rcheck_any _ _ _) ?_
  unfold root
  refine iteI (fun h => ?_) (fun h => ?_)
  · rw [if_pos (chk_ok h)]
    refine iteI (fun c => ?_) (fun c => ?_)
    · rw [if_pos c]
    · rw [if_neg c]
      intro x hx
      have e : x = max a 0 := by rw [hx]; split <;> omega
      subst e
      have i2 := isqrt_bd (b * 4294967296)
      (repeat apply Exists.intro); refine And.intro (fun _ _ => wide_W _ _ (by omega) (by omega)) ?_
      (repeat apply Exists.intro); refine And.intro (fun _ _ => up32_W _ _ (by omega) (by omega)) ?_
      (repeat apply Exists.intro); refine And.intro (fun _ _ => wide_W _ _ (by omega) (by omega)) ?_
      (repeat apply Exists.intro); refine And.intro (fun _ _ => up32_W _ _ (by omega) (by omega)) ?_
      (repeat apply Exists.intro); refine And.intro (fun _ _ => rfloorRoot_any _ _) ?_
      (repeat apply Exists.intro); refine And.intro (fun _ _ => times_raw _ _ _ (by omega) (by omega) (by omega) (by omega)) ?_
      (repeat apply Exists.intro); refine And.intro (fun _ _ => less_W _ _ _) ?_
      have sq := isqrt_sq (b * 4294967296) (by omega)
      unfold rootUp
      refine iteI (fun d => ?_) (fun d => ?_)
      · have d := of_decide_eq_true d
        rw [if_neg (by omega)]
        rintro _ rfl
        (repeat apply Exists.intro); refine And.intro (fun _ _ => rfloorRoot_any _ _) ?_
        refine rv ?_
        simp only [Ul.i64_eq, Prod.mk.injEq, and_true, true_and]; omega
      · have d : ¬ isqrt (b * 4294967296) * isqrt (b * 4294967296) < b * 4294967296 := by simpa using d
        rw [if_pos (by omega)]
        (repeat apply Exists.intro); refine And.intro (fun _ _ => rfloorRoot_any _ _) ?_
        rfl
  · rw [if_neg (chk_no h).1]
theorem walk_spanRoots (a b : Int) (ha : (Lit.int .i64 a).wf = true) (hb : (Lit.int .i64 b).wf = true) (c d : Int) (hc : (Lit.int .i64 c).wf = true) (hd : (Lit.int .i64 d).wf = true) (w : World) :
    Calls Try.prog 10 #[Vc.S a b, Vc.S c d] w (Vc.Ret (.bool true) w) := by
  replace ha := wf64 ha; replace hb := wf64 hb; replace hc := wf64 hc; replace hd := wf64 hd
  refine vc_ullagelaw01_SpanRoots _ _ _ _ w _ ?_
  (repeat apply Exists.intro); refine And.intro (fun _ _ => psquare_any _ _ _ ha hb) ?_
  (repeat apply Exists.intro); refine And.intro (fun _ _ => rsquare_any _ _ _ ha hb) ?_
  (repeat apply Exists.intro); refine And.intro (fun _ _ => pRoot_any _ _ _ ha hb) ?_
  (repeat apply Exists.intro); refine And.intro (fun _ _ => rRoot_any _ _ _ ha hb) ?_
  (repeat apply Exists.intro); refine And.intro (fun _ _ => pabs_any _ _ _ ha hb) ?_
  (repeat apply Exists.intro); refine And.intro (fun _ _ => rabs_any _ _ _ ha hb) ?_
  (repeat apply Exists.intro); refine And.intro (fun _ _ => pmost_any _ _ _ _ _) ?_
  (repeat apply Exists.intro); refine And.intro (fun _ _ => rmost_any _ _ _ _ _) ?_
  (repeat apply Exists.intro); refine And.intro (fun _ _ => pleast_any _ _ _ _ _) ?_
  (repeat apply Exists.intro); refine And.intro (fun _ _ => rleast_any _ _ _ _ _) ?_
  (repeat' (first | (intro _ hx) | ((repeat apply Exists.intro); first | refine And.intro (fun _ _ => same_eq _ _ _ _) ?_) | (refine Vc.iteI (fun h => ?_) (fun h => ?_)) | (refine And.intro (by omega) ?_)))
  all_goals simp_all
end Go.Proofs.Ytdhiapllbjamfaa
