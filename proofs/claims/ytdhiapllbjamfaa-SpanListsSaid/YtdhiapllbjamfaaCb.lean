/- Contracts: the reference's integers of 128 bits. -/
import Derived.Test.YtdhiapllbjamfaaCa
import Derived.Test.YtdhiapllbjamfaaM3
set_option linter.unusedVariables false
set_option linter.unusedSimpArgs false
namespace Go.Proofs.Ytdhiapllbjamfaa
open Go Go.RowKit Ul Vc
attribute [local irreducible] Go.Calls

theorem plus_raw (ah al bh bl : Int) (w : World) (h1 : 0 ≤ al) (h2 : al ≤ 18446744073709551615) (h3 : 0 ≤ bl) (h4 : bl ≤ 18446744073709551615) :
    Calls Try.prog 78 #[.agg #[.int .i64 ah, .int .u64 al], .agg #[.int .i64 bh, .int .u64 bl]] w
      (Vc.Ret (.agg #[.int .i64 (IntKind.i64.wrap (ah + bh + (al + bl) / 18446744073709551616)), .int .u64 ((al + bl) % 18446744073709551616)]) w) := by
  refine vc_ullageref01_Plus ah al bh bl w _ ?_
  (repeat' (first | (intro _ hx) | (refine Vc.iteI (fun h => ?_) (fun h => ?_)) | (refine And.intro (by omega) ?_)))
  all_goals (refine agg2 ?_ ?_ <;> simp only [Ul.i64_eq, Ul.u64_eq] at * <;> omega)
theorem plus_W (a b : Int) (w : World) (h : P127 (a + b)) : Calls Try.prog 78 #[VW a, VW b] w (Vc.Ret (VW (a + b)) w) := by
  refine Vc.Ret.as (plus_raw _ _ _ _ w (lo_bd a).1 (lo_bd a).2 (lo_bd b).1 (lo_bd b).2) ?_
  obtain ⟨h1, h2⟩ := h
  refine agg2 ?_ ?_
  · rw [Ul.i64_eq]; unfold hiW loW; omega
  · unfold loW; omega
theorem plus_1 (a : Int) (w : World) (h : P127 (a + 1)) : Calls Try.prog 78 #[VW a, .agg #[.int .i64 0, .int .u64 1]] w (Vc.Ret (VW (a + 1)) w) := plus_W a 1 w h
theorem less_W (a b : Int) (w : World) : Calls Try.prog 83 #[VW a, VW b] w (Vc.Ret (.bool (decide (a < b))) w) := by
  refine vc_ullageref01_Less _ _ _ _ w _ ?_
  (repeat' (first | (intro _ hx) | (refine Vc.iteI (fun h => ?_) (fun h => ?_)) | (refine And.intro (by omega) ?_)))
  all_goals (refine bool1 ?_; rw [Bool.eq_iff_iff]; simp only [decide_eq_true_eq, true_iff, Bool.false_eq_true, false_iff]; (try unfold hiW at *); (try unfold loW at *); omega)
theorem same_W (a b : Int) (w : World) : Calls Try.prog 138 #[VW a, VW b] w (Vc.Ret (.bool (decide (a = b))) w) := by
  refine vc_ullageref01_Same _ _ _ _ w _ ?_
  (repeat' (first | (intro _ hx) | (refine Vc.iteI (fun h => ?_) (fun h => ?_)) | (refine And.intro (by omega) ?_)))
  all_goals (refine bool1 ?_; rw [Bool.eq_iff_iff]; simp only [decide_eq_true_eq, beq_iff_eq, true_iff, Bool.false_eq_true, false_iff]; (try unfold hiW at *); (try unfold loW at *); omega)
theorem same_0 (a : Int) (w : World) : Calls Try.prog 138 #[VW a, .agg #[.int .i64 0, .int .u64 0]] w (Vc.Ret (.bool (decide (a = 0))) w) := same_W a 0 w
theorem minus_W (a : Int) (w : World) (h : P127 a) (h' : P127 (-a)) : Calls Try.prog 82 #[VW a] w (Vc.Ret (VW (-a)) w) := by
  have hl := lo_bd a
  have hh := hi_bd a h
  have b1 := i64_not (hiW a) hh.1 hh.2
  have b2 : bits .xor .u64 18446744073709551615 (loW a) = 18446744073709551615 - loW a := u64_not (loW a) hl.1 hl.2
  refine vc_ullageref01_Minus _ _ w _ ?_
  rintro _ rfl _ rfl
  rw [b1, b2]
  (repeat apply Exists.intro); refine And.intro (fun _ _ => plus_raw _ _ _ _ _ (by omega) (by omega) (by omega) (by omega)) ?_
  obtain ⟨h1, h2⟩ := h'
  refine agg2 ?_ ?_ <;> (try simp only [Ul.i64_eq]) <;> (try unfold hiW) <;> (try unfold loW)
  all_goals omega
theorem twice_W (a : Int) (w : World) (h : P127 (a + a)) : Calls Try.prog 142 #[VW a] w (Vc.Ret (VW (a + a)) w) := by
  refine vc_ullageref01_Twice _ _ w _ ?_
  (repeat' (first | (intro _ hx) | ((repeat apply Exists.intro); first | refine And.intro (fun _ _ => plus_W _ _ _ h) ?_) | (refine Vc.iteI (fun h => ?_) (fun h => ?_)) | (refine And.intro (by omega) ?_)))
  rfl
theorem of_W (n : Int) (w : World) (h : -9223372036854775808 ≤ n) (h' : n ≤ 9223372036854775807) : Calls Try.prog 81 #[.int .i64 n] w (Vc.Ret (VW n) w) := by
  refine vc_ullageref01_Of _ w _ ?_
  (repeat' (first | (intro _ hx) | (refine Vc.iteI (fun h => ?_) (fun h => ?_)) | (refine And.intro (by omega) ?_)))
  all_goals (refine agg2 ?_ ?_ <;> (try unfold hiW) <;> (try unfold loW) <;> (try simp only [Ul.u64_eq] at *) <;> omega)
theorem wide_W (n : Int) (w : World) (h : -9223372036854775808 ≤ n) (h' : n ≤ 9223372036854775807) : Calls Try.prog 79 #[.int .i64 n] w (Vc.Ret (VW n) w) := by
  refine vc_ullageref01_wide _ w _ ?_
  (repeat' (first | (intro _ hx) | ((repeat apply Exists.intro); first | refine And.intro (fun _ _ => of_W _ _ h h') ?_) | (refine Vc.iteI (fun h => ?_) (fun h => ?_)) | (refine And.intro (by omega) ?_)))
  rfl
theorem rsize_any (n : Int) (w : World) (h : -9223372036854775808 ≤ n) (h' : n ≤ 9223372036854775807) : Calls Try.prog 129 #[.int .i64 n] w (Vc.Ret (.int .u64 (absI n)) w) := by
  refine vc_ullageref01_size _ w _ ?_
  (repeat' (first | (intro _ hx) | (refine Vc.iteI (fun h => ?_) (fun h => ?_)) | (refine And.intro (by omega) ?_)))
  all_goals (simp only [Ul.u64_eq] at *; refine int1 ?_; unfold absI; split <;> omega)
theorem up32_W (v : Int) (w : World) (h : -39614081257132168796771975168 ≤ v) (h' : v < 39614081257132168796771975168) :
    Calls Try.prog 94 #[VW v, .int .i64 32] w (Vc.Ret (VW (v * 4294967296)) w) := by
  have hl := lo_bd v
  refine vc_ullageref01_Up_32 _ _ w _ ?_
  (repeat' (first | (intro _ hx) | (refine Vc.iteI (fun h => ?_) (fun h => ?_)) | (refine And.intro (by omega) ?_)))
  simp only [Ul.i64_eq, Ul.u64_eq] at *
  refine agg2 ?_ ?_ <;> (try unfold hiW at *) <;> (try unfold loW at *) <;> omega
theorem up65_W (v : Int) (w : World) (h : -4611686018427387904 ≤ v) (h' : v < 4611686018427387904) :
    Calls Try.prog 94 #[VW v, .int .i64 65] w (Vc.Ret (VW (v * 36893488147419103232)) w) := by
  have hl := lo_bd v
  refine vc_ullageref01_Up_65 _ _ w _ ?_
  (repeat' (first | (intro _ hx) | (refine Vc.iteI (fun h => ?_) (fun h => ?_)) | (refine And.intro (by omega) ?_)))
  simp only [Ul.i64_eq, Ul.u64_eq] at *
  refine agg2 ?_ ?_ <;> (try unfold hiW at *) <;> (try unfold loW at *) <;> omega
theorem down32_W (v : Int) (w : World) (h : P127 v) : Calls Try.prog 102 #[VW v] w (Vc.Ret (VW (v / 4294967296)) w) := by
  have hl := lo_bd v
  have hh := hi_bd v h
  have ht := tdiv_facts (hiW v) 4294967296 (by decide)
  have hd := Int.tdiv_eq_ediv_of_nonneg (b := 4294967296) hl.1
  refine vc_ullageref01_Down32 _ _ w _ ?_
  (repeat' (first | (intro _ hx) | (refine Vc.iteI (fun h => ?_) (fun h => ?_)) | (refine And.intro (by omega) ?_)))
  all_goals (rw [hd] at *; simp only [Ul.i64_eq, Ul.u64_eq] at *; refine agg2 ?_ ?_ <;> (try unfold hiW at *) <;> (try unfold loW at *) <;> omega)
theorem minus_raw (h l : Int) (w : World) (h0 : 0 ≤ l) (h1 : l ≤ 18446744073709551615) (hp : -9223372036854775808 < h) (hp' : h ≤ 9223372036854775807) :
    Calls Try.prog 82 #[.agg #[.int .i64 h, .int .u64 l]] w (Vc.Ret (VW (-(val h l))) w) := by
  have := minus_W (val h l) w ⟨by unfold val; omega, by unfold val; omega⟩ ⟨by unfold val; omega, by unfold val; omega⟩
  unfold VW at this
  rwa [W_hi h l h0 h1, W_lo h l h0 h1] at this
end Go.Proofs.Ytdhiapllbjamfaa
