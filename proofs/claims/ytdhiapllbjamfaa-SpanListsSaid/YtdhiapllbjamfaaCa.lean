/- Contracts: asking a span, both of the program and of the reference. -/
import Derived.Test.YtdhiapllbjamfaaG1
import Derived.Test.YtdhiapllbjamfaaG2
import Derived.Test.YtdhiapllbjamfaaG3
import Derived.Test.YtdhiapllbjamfaaCk
set_option linter.unusedVariables false
set_option linter.unusedSimpArgs false
namespace Go.Proofs.Ytdhiapllbjamfaa
open Go Go.RowKit Ul Vc
attribute [local irreducible] Go.Calls

theorem wf64 {n : Int} (h : (Lit.int .i64 n).wf = true) : I64 n := by
  simp [Lit.wf, IntKind.min, IntKind.max, IntKind.signed, IntKind.bits] at h; unfold I64; omega
theorem valid_any (x : Int) (w : World) : Calls Try.prog 91 #[.int .i64 x] w (Vc.Ret (.bool (decide (-9223372036854775807 ≤ x))) w) := by
  refine vc_span_valid x w _ ?_
  simp
theorem number_any (x : Int) (w : World) : Calls Try.prog 92 #[.int .i64 x] w (Vc.Ret (.bool (decide (-9223372036854775807 ≤ x))) w) := by
  refine vc_ullageref01_Number x w _ ?_
  simp
theorem check_any (a b : Int) (w : World) : Calls Try.prog 47 #[Vc.S a b] w (Vc.Ret (.int .i64 (chk a b)) w) := by
  refine vc_span_Check a b w _ ?_
  (repeat' (first | (intro _ hx) | ((repeat apply Exists.intro); first | refine And.intro (fun _ _ => valid_any _ _) ?_) | (refine Vc.iteI (fun h => ?_) (fun h => ?_)) | (refine And.intro (by omega) ?_)))
  all_goals (simp_all [chk, ok] <;> omega)
theorem rcheck_any (a b : Int) (w : World) : Calls Try.prog 48 #[Vc.S a b] w (Vc.Ret (.int .i64 (chk a b)) w) := by
  refine vc_ullageref01_Check a b w _ ?_
  (repeat' (first | (intro _ hx) | ((repeat apply Exists.intro); first | refine And.intro (fun _ _ => number_any _ _) ?_) | (refine Vc.iteI (fun h => ?_) (fun h => ?_)) | (refine And.intro (by omega) ?_)))
  all_goals (simp_all [chk, ok] <;> omega)
theorem in_any (a b n : Int) (w : World) : Calls Try.prog 12 #[Vc.S a b, .int .i64 n] w (Vc.Ret (.bool (inS a b n)) w) := by
  refine vc_span_In a b n w _ ?_
  (repeat' (first | (intro _ hx) | ((repeat apply Exists.intro); first | refine And.intro (fun _ _ => check_any _ _ _) ?_) | (refine Vc.iteI (fun h => ?_) (fun h => ?_)) | (refine And.intro (by omega) ?_)))
  all_goals (simp_all [inS, chk] <;> (intros; (try (repeat' split)) <;> omega))
theorem rin_any (a b n : Int) (w : World) : Calls Try.prog 13 #[Vc.S a b, .int .i64 n] w (Vc.Ret (.bool (inS a b n)) w) := by
  refine vc_ullageref01_In a b n w _ ?_
  (repeat' (first | (intro _ hx) | ((repeat apply Exists.intro); first | refine And.intro (fun _ _ => rcheck_any _ _ _) ?_) | (refine Vc.iteI (fun h => ?_) (fun h => ?_)) | (refine And.intro (by omega) ?_)))
  all_goals (simp_all [inS, chk] <;> (intros; (try (repeat' split)) <;> omega))
/-- The error of two spans. -/
def chk2 (a b c d : Int) : Int := if ok a b && ok c d then 0 else 2
theorem checked2 {b : Nat} {x y z u : Int} {t : TypeId} {w : World} (h : w.heap[b]? = some (.cells #[.int .i64 x, .int .i64 y, .int .i64 z, .int .i64 u] t)) :
    Calls Try.prog 75 #[.slice (some ⟨b, 0, none⟩) 2 2] w (Vc.Ret (.int .i64 (chk2 x y z u)) w) := by
  refine vc_span_checked_2 (b, 0) w _ ?_
  refine ⟨x, by simp [World.cell?, h], y, by simp [World.cell?, h], ?_⟩
  (repeat apply Exists.intro); refine And.intro (fun _ _ => check_any _ _ _) ?_
  refine iteI (fun h1 => ⟨z, by simp [World.cell?, h], u, by simp [World.cell?, h], ?_⟩) (fun h1 => ?_)
  · (repeat' (first | (intro _ hx) | ((repeat apply Exists.intro); first | refine And.intro (fun _ _ => check_any _ _ _) ?_) | (refine Vc.iteI (fun h => ?_) (fun h => ?_)) | (refine And.intro (by omega) ?_)))
    all_goals (simp_all [chk2, chk])
  · simp_all [chk2, chk]
theorem both_any (a b c d : Int) (w : World) : Calls Try.prog 76 #[Vc.S a b, Vc.S c d] w (Vc.Ret (.int .i64 (chk2 a b c d)) w) := by
  refine vc_ullageref01_both a b c d w _ ?_
  (repeat apply Exists.intro); refine And.intro (fun _ _ => rcheck_any _ _ _) ?_
  (repeat apply Exists.intro); refine And.intro (fun _ _ => rcheck_any _ _ _) ?_
  rintro _ rfl
  unfold chk chk2
  cases ok a b <;> cases ok c d <;> simp
theorem within_any (a b c d : Int) (w : World) : Calls Try.prog 14 #[Vc.S a b, Vc.S c d] w (Vc.Ret (.bool (within a b c d)) w) := by
  refine vc_span_Within a b c d w _ ?_
  refine ⟨_, fun _ _ _ hm => checked2 hm.1.2, ?_⟩
  (repeat' (first | (intro _ hx) | (refine Vc.iteI (fun h => ?_) (fun h => ?_)) | (refine And.intro (by omega) ?_)))
  all_goals (simp_all [chk2, within] <;> (intros; (try (repeat' split)) <;> omega))
theorem rwithin_any (a b c d : Int) (w : World) : Calls Try.prog 15 #[Vc.S a b, Vc.S c d] w (Vc.Ret (.bool (within a b c d)) w) := by
  refine vc_ullageref01_Within a b c d w _ ?_
  (repeat' (first | (intro _ hx) | ((repeat apply Exists.intro); first | refine And.intro (fun _ _ => both_any _ _ _ _ _) ?_) | (refine Vc.iteI (fun h => ?_) (fun h => ?_)) | (refine And.intro (by omega) ?_)))
  all_goals (simp_all [chk2, within] <;> (intros; (try (repeat' split)) <;> omega))
theorem order_any (a b c d : Int) (w : World) : Calls Try.prog 18 #[Vc.S a b, Vc.S c d] w (Vc.Ret (.int .i64 (order a b c d)) w) := by
  refine vc_span_Order a b c d w _ ?_
  refine ⟨_, fun _ _ _ hm => checked2 hm.1.2, ?_⟩
  (repeat' (first | (intro _ hx) | (refine Vc.iteI (fun h => ?_) (fun h => ?_)) | (refine And.intro (by omega) ?_)))
  all_goals (simp_all [chk2, order] <;> (intros; (try (repeat' split)) <;> omega))
theorem rorder_any (a b c d : Int) (w : World) : Calls Try.prog 19 #[Vc.S a b, Vc.S c d] w (Vc.Ret (.int .i64 (order a b c d)) w) := by
  refine vc_ullageref01_Order a b c d w _ ?_
  (repeat' (first | (intro _ hx) | ((repeat apply Exists.intro); first | refine And.intro (fun _ _ => both_any _ _ _ _ _) ?_) | (refine Vc.iteI (fun h => ?_) (fun h => ?_)) | (refine And.intro (by omega) ?_)))
  all_goals (simp_all [chk2, order] <;> (intros; (try (repeat' split)) <;> omega))
theorem sign_any (a b : Int) (w : World) : Calls Try.prog 16 #[Vc.S a b] w (Vc.Ret (.int .i64 (sign a b)) w) := by
  refine vc_span_Sign a b w _ ?_
  (repeat' (first | (intro _ hx) | ((repeat apply Exists.intro); first | refine And.intro (fun _ _ => order_any _ _ _ _ _) ?_) | (refine Vc.iteI (fun h => ?_) (fun h => ?_)) | (refine And.intro (by omega) ?_)))
  rfl
theorem rsign_any (a b : Int) (w : World) : Calls Try.prog 17 #[Vc.S a b] w (Vc.Ret (.int .i64 (sign a b)) w) := by
  refine vc_ullageref01_Sign a b w _ ?_
  (repeat' (first | (intro _ hx) | ((repeat apply Exists.intro); first | refine And.intro (fun _ _ => rcheck_any _ _ _) ?_) | (refine Vc.iteI (fun h => ?_) (fun h => ?_)) | (refine And.intro (by omega) ?_)))
  all_goals (simp_all [chk, sign, order, ok] <;> omega)
theorem same_any (a b e c d f : Int) (w : World) : Calls Try.prog 32 #[Vc.S a b, .int .i64 e, Vc.S c d, .int .i64 f] w (Vc.Ret (.bool (decide ((a, b, e) = (c, d, f)))) w) := by
  refine vc_ullagelaw01_same a b e c d f w _ ?_
  (repeat' (first | (intro _ hx) | (refine Vc.iteI (fun h => ?_) (fun h => ?_)) | (refine And.intro (by omega) ?_)))
  all_goals (simp_all)
  all_goals rfl
end Go.Proofs.Ytdhiapllbjamfaa
