/- Contracts of the layer, as far as they are wanted (written by program out of the templates). -/
import Derived.Test.YtndeppnboolfiaaDoorGtA
import Derived.Test.YtndeppnboolfiaaDoorGtG3
import Derived.Test.YtndeppnboolfiaaDoorTx

set_option linter.unusedVariables false
set_option linter.unusedSimpArgs false
set_option maxRecDepth 100000
namespace Go.Proofs.YtndeppnboolfiaaDoor
open Go Go.RowKit Go.Proofs Vc Ul
theorem of_any (a b : Int) (x : Int) (y : Int) (hx : IntKind.i64.wrap (a * 4294967296) = x) (hy : IntKind.i64.wrap (b * 4294967296) = y) (w : World) : Calls Tryd.prog 47 #[.int .i64 a, .int .i64 b] w (Vc.Ret (Vc.S x y) w) := by
  refine vc_ullagelaw01_of a b w _ ?_
  rintro _ rfl _ rfl
  rw [hx, hy]
theorem text_q (w : World) : Calls Tryd.prog 44 #[.int .i64 (-1073741824)] w (Vc.Ret (.string ⟨([45, 48, 46, 50, 53] : List UInt8).toArray⟩) w) :=
  (text_quarter w).mono fun e w' h => h
theorem alive_any (w : World) : Calls Tryd.prog 11 #[] w (Vc.Ret (.bool true) w) := by
  refine vc_ullagelaw01_alive w _ ?_
  refine ⟨-17179869184, 34359738368, 0, fun w' hw => Ret.mono (pmul_any (-4294967296) 8589934592 12884901888 17179869184 w' (by unfold I64; decide) (by unfold I64; decide) (by unfold I64; decide) (by unfold I64; decide)) (by rw [show mul (-4294967296) 8589934592 12884901888 17179869184 = (-17179869184, 34359738368, 0) by decide +kernel]), ?_⟩
  refine ⟨1431655765, 1431655766, 0, fun w' hw => Ret.mono (pRatio_any 1 3 w' (by unfold I64; decide) (by unfold I64; decide)) (by rw [show ratio 1 3 = (1431655765, 1431655766, 0) by decide +kernel]), ?_⟩
  refine ⟨0, 8589934592, 0, fun w' hw => Ret.mono (pRoot_any (-38654705664) 17179869184 w' (by unfold I64; decide) (by unfold I64; decide)) (by rw [show root (-38654705664) 17179869184 = (0, 8589934592, 0) by decide +kernel]), ?_⟩
  refine iteI (fun _ => ?_) (fun h => absurd rfl h)
  refine ⟨-17179869184, 34359738368, fun w' hw => of_any (-4) 8 _ _ (by decide +kernel) (by decide +kernel) w', ?_⟩
  refine iteI (fun _ => ?_) (fun h => absurd ⟨rfl, rfl⟩ h)
  refine iteI (fun _ => ?_) (fun h => absurd rfl h)
  refine iteI (fun _ => ?_) (fun h => absurd ⟨rfl, rfl⟩ h)
  refine iteI (fun _ => ?_) (fun h => absurd rfl h)
  refine ⟨0, 8589934592, fun w' hw => of_any 0 2 _ _ (by decide +kernel) (by decide +kernel) w', ?_⟩
  refine iteI (fun _ => ?_) (fun h => absurd ⟨rfl, rfl⟩ h)
  exact ⟨_, fun w' hw => text_q w', rfl⟩
end Go.Proofs.YtndeppnboolfiaaDoor
set_option linter.unusedVariables false
set_option maxRecDepth 100000
namespace Go.Proofs.YtndeppnboolfiaaDoor
open Go Go.RowKit Go.Proofs Vc Ul
theorem wfI64 {n : Int} (h : (Lit.int .i64 n).wf = true) : I64 n := by
  simp [Lit.wf, IntKind.min, IntKind.max, IntKind.signed, IntKind.bits] at h; unfold I64; omega
theorem ok_3 {a b : Int} (h : ok a b = true) : -9223372036854775807 ≤ a ∧ -9223372036854775807 ≤ b ∧ a ≤ b := by
  unfold ok at h; simp at h; omega
end Go.Proofs.YtndeppnboolfiaaDoor
set_option linter.unusedVariables false
set_option maxRecDepth 100000
namespace Go.Proofs.YtndeppnboolfiaaDoor
open Go Go.RowKit Go.Proofs Vc Ul
theorem isq_to (k : Nat) : ∀ r x : Int, 0 ≤ r → r * r ≤ x → x < (r + 2 ^ k) * (r + 2 ^ k) →
    rootTo k r x * rootTo k r x ≤ x ∧ x < (rootTo k r x + 1) * (rootTo k r x + 1) := by
  induction k with
  | zero => intro r x h0 h1 h2; simp only [rootTo]; exact ⟨h1, by simpa using h2⟩
  | succ k ih =>
    intro r x h0 h1 h2
    have hp : (0 : Int) < 2 ^ k := Int.pow_pos (by decide)
    rw [Int.pow_succ] at h2
    simp only [rootTo]
    split
    · rename_i hc
      exact ih (r + 2 ^ k) x (by omega) hc (by rw [show r + 2 ^ k + 2 ^ k = r + 2 ^ k * 2 from by omega]; exact h2)
    · rename_i hc
      exact ih r x h0 h1 (by omega)
theorem isq_at {x : Int} (h0 : 0 ≤ x) (h : x < 316912650057057350374175801344) : isqrt x * isqrt x ≤ x ∧ x < (isqrt x + 1) * (isqrt x + 1) :=
  isq_to 49 0 x (by decide) (by omega) (by have e : ((0 : Int) + 2 ^ 49) * (0 + 2 ^ 49) = 316912650057057350374175801344 := by decide +kernel
                                           rw [e]; exact h)
theorem rootUp_at {x : Int} (h0 : 0 ≤ x) (h : x < 316912650057057350374175801344) : x ≤ rootUp x * rootUp x ∧ (rootUp x = 0 ∨ (rootUp x - 1) * (rootUp x - 1) < x) ∧ 0 ≤ rootUp x ∧ rootUp x ≤ 562949953421312 := by
  obtain ⟨a, b⟩ := isq_at h0 h
  obtain ⟨c, d⟩ := isqrt_bd x
  unfold rootUp
  split
  · rename_i hc
    refine ⟨by omega, ?_, by omega, by omega⟩
    by_cases hz : isqrt x = 0
    · exact .inl hz
    · right
      have e : (isqrt x - 1) * (isqrt x - 1) = isqrt x * isqrt x - 2 * isqrt x + 1 := by rw [Int.sub_mul, Int.mul_sub]; omega
      omega
  · rename_i hc
    refine ⟨by omega, .inr ?_, by omega, by omega⟩
    rw [show isqrt x + 1 - 1 = isqrt x by omega]; omega
theorem mul_0 {a b c d : Int} (h : (mul a b c d).2.2 = 0) : ok a b = true ∧ ok c d = true ∧ ∃ L H, mul a b c d = (L, H, 0) ∧ (-9223372036854775807 ≤ L ∧ L ≤ 9223372036854775807) ∧ (-9223372036854775807 ≤ H ∧ H ≤ 9223372036854775807) ∧
    L = fl (min4 (a * c) (a * d) (b * c) (b * d)) 4294967296 ∧ H = ce (max4 (a * c) (a * d) (b * c) (b * d)) 4294967296 := by
  unfold mul at h ⊢
  by_cases h1 : (ok a b && ok c d) = true
  · rw [if_pos h1] at h ⊢
    obtain ⟨h2, h3⟩ : ok a b = true ∧ ok c d = true := by simpa using h1
    unfold fit at h ⊢
    split at h
    · rename_i g
      rw [if_pos g]
      exact ⟨h2, h3, _, _, rfl, ⟨g.1, g.2.1⟩, ⟨g.2.2.1, g.2.2.2⟩, rfl, rfl⟩
    · cases h
  · rw [if_neg h1] at h; cases h
theorem tight_fl (p q r s : Int) : (p < fl (min4 p q r s) 4294967296 * 4294967296 + 4294967296 ∨ q < fl (min4 p q r s) 4294967296 * 4294967296 + 4294967296 ∨ r < fl (min4 p q r s) 4294967296 * 4294967296 + 4294967296 ∨ s < fl (min4 p q r s) 4294967296 * 4294967296 + 4294967296) := by
  unfold fl min4; omega
theorem tight_ce (p q r s : Int) : (ce (max4 p q r s) 4294967296 * 4294967296 + -4294967296 < p ∨ ce (max4 p q r s) 4294967296 * 4294967296 + -4294967296 < q ∨ ce (max4 p q r s) 4294967296 * 4294967296 + -4294967296 < r ∨ ce (max4 p q r s) 4294967296 * 4294967296 + -4294967296 < s) := by
  unfold ce max4; omega
set_option maxHeartbeats 8000000 in
theorem walk_spanTight {w : World} (a : Int) (ha : (Lit.int .i64 a).wf = true) (b : Int) (hb : (Lit.int .i64 b).wf = true) (c : Int) (hc : (Lit.int .i64 c).wf = true) (d : Int) (hd : (Lit.int .i64 d).wf = true) :
    Calls Tryd.prog 3 #[Vc.S a b, Vc.S c d] w (Vc.Ret (.bool true) w) := by
  replace ha := wfI64 ha; replace hb := wfI64 hb; replace hc := wfI64 hc; replace hd := wfI64 hd
  refine vc_ullagelaw01_SpanTight a b c d w _ ?_
  refine ⟨true, fun w' hw => alive_any w', ?_⟩
  by_cases h0 : (mul a b c d).2.2 = 0
  · obtain ⟨k1, k2, L, H, s0, L0, H0, eL, eH⟩ := mul_0 h0
    refine ⟨L, H, 0, fun w' hw => Ret.mono (pmul_any a b c d w' ha hb hc hd) (by rw [s0]), ?_⟩
    refine iteI (fun _ => ?_) (fun h => absurd rfl h)
    refine iteI (fun _ => ?_) (fun h => absurd rfl h)
    have F1 := tight_fl (a * c) (a * d) (b * c) (b * d)
    have F2 := tight_ce (a * c) (a * d) (b * c) (b * d)
    rw [← eL] at F1
    rw [← eH] at F2
    clear eL eH
    obtain ⟨a1, a2, a3⟩ := ok_3 k1
    unfold I64 at ha hb hc hd
    by_cases hn : b < 0
    · have s6 : root a b = (0, 0, 4) := by unfold root; rw [if_pos k1, if_pos hn]
      repeat' (first
        | exact rfl
        | exact congrArg Value.bool (decide_eq_true hn)
        | refine ⟨_, _, fun w' hw => times_raw _ _ w' (by omega) (by omega) (by omega) (by omega), ?_⟩
        | refine ⟨_, _, fun w' hw => of_W _ w' (by omega) (by omega), ?_⟩
        | refine ⟨_, _, fun w' hw => plus_W _ _ w' (by unfold P127; omega), ?_⟩
        | refine ⟨_, fun w' hw => less_W _ _ w', ?_⟩
        | refine ⟨0, 0, 4, fun w' hw => Ret.mono (pRoot_any a b w' ha hb) (by rw [s6]), ?_⟩
        | (refine iteI (fun h => ?_) (fun h => ?_) <;> (try simp only [decide_eq_true_eq] at h) <;> (first | exact absurd rfl h | exact absurd trivial h | (exfalso; omega) | skip)))
    · obtain ⟨m1, m2⟩ := isq_at (x := max a 0 * 4294967296) (by omega) (by omega)
      obtain ⟨n1, n2, n3, n4⟩ := rootUp_at (x := b * 4294967296) (by omega) (by omega)
      obtain ⟨q1, q2⟩ := isqrt_bd (max a 0 * 4294967296)
      have s6 : root a b = (isqrt (max a 0 * 4294967296), rootUp (b * 4294967296), 0) := by unfold root; rw [if_pos k1, if_neg hn]
      generalize isqrt (max a 0 * 4294967296) = R1 at *
      generalize rootUp (b * 4294967296) = R2 at *
      have wr1 : IntKind.i64.wrap (R1 + 1) = R1 + 1 := by simp only [Ul.i64_eq]; omega
      have wr2 : IntKind.i64.wrap (R2 - 1) = R2 - 1 := by simp only [Ul.i64_eq]; omega
      have mx : (if 0 > a then 0 else a) = max a 0 := by split <;> omega
      repeat' (first
        | exact rfl
        | exact congrArg Value.bool (decide_eq_true (n2.resolve_left ‹_›))
        | (intro x hx; (first | rw [wr1] at hx | rw [wr2] at hx | rw [mx] at hx); subst hx)
        | refine ⟨_, _, fun w' hw => times_raw _ _ w' (by omega) (by omega) (by omega) (by omega), ?_⟩
        | refine ⟨_, _, fun w' hw => of_W _ w' (by omega) (by omega), ?_⟩
        | refine ⟨_, _, fun w' hw => plus_W _ _ w' (by unfold P127; omega), ?_⟩
        | refine ⟨_, _, fun w' hw => up32_W _ w' (by omega) (by omega), ?_⟩
        | refine ⟨_, fun w' hw => less_W _ _ w', ?_⟩
        | refine ⟨R1, R2, 0, fun w' hw => Ret.mono (pRoot_any a b w' ha hb) (by rw [s6]), ?_⟩
        | (refine iteI (fun h => ?_) (fun h => ?_) <;> (try simp only [decide_eq_true_eq] at h) <;> (first | exact absurd rfl h | exact absurd trivial h | (exfalso; omega) | skip)))
  · refine ⟨_, _, _, fun w' hw => pmul_any a b c d w' ha hb hc hd, ?_⟩
    exact iteI (fun h => absurd h h0) (fun _ => rfl)
end Go.Proofs.YtndeppnboolfiaaDoor
