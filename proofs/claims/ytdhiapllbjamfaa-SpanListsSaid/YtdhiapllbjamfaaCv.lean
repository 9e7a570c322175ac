/- Contracts: squares; the greater and the lesser one of two spans, both. -/
import Derived.Test.YtdhiapllbjamfaaCu
set_option linter.unusedVariables false
set_option linter.unusedSimpArgs false
namespace Go.Proofs.Ytdhiapllbjamfaa
open Go Go.RowKit Ul Vc
attribute [local irreducible] Go.Calls

theorem psquare_any (a b : Int) (w : World) (ha : I64 a) (hb : I64 b) : Calls Try.prog 59 #[Vc.S a b] w (Vc.Ret (Vc.RV (square a b)) w) := by
  have hd := absS_bd ha hb
  refine vc_span_Square _ _ w _ ?_
  (repeat apply Exists.intro); refine And.intro (fun _ _ => pabs_any _ _ _ ha hb) ?_
  have e : (absS a b).2.2 = if ok a b then 0 else 2 := by unfold absS; split <;> (try split) <;> (try split) <;> rfl
  unfold square
  refine iteI (fun h => ?_) (fun h => ?_)
  · (repeat apply Exists.intro); refine And.intro (fun _ _ => pmul_any _ _ _ _ _ hd.1 hd.2 hd.1 hd.2) ?_
    rw [e] at h
    rw [if_pos (by split at h; assumption; cases h)]
  · rw [e] at h ⊢
    rw [if_neg (by intro k; rw [if_pos k] at h; exact h rfl), if_neg (by intro k; rw [if_pos k] at h; exact h rfl)]
theorem rsquare_any (a b : Int) (w : World) (ha : I64 a) (hb : I64 b) : Calls Try.prog 60 #[Vc.S a b] w (Vc.Ret (Vc.RV (square a b)) w) := by
  have hd := absS_bd ha hb
  refine vc_ullageref01_Square _ _ w _ ?_
  (repeat apply Exists.intro); refine And.intro (fun _ _ => rabs_any _ _ _ ha hb) ?_
  have e : (absS a b).2.2 = if ok a b then 0 else 2 := by unfold absS; split <;> (try split) <;> (try split) <;> rfl
  unfold square
  refine iteI (fun h => ?_) (fun h => ?_)
  · (repeat apply Exists.intro); refine And.intro (fun _ _ => rmul_any _ _ _ _ _ hd.1 hd.2 hd.1 hd.2) ?_
    rw [e] at h
    rw [if_pos (by split at h; assumption; cases h)]
  · rw [e] at h ⊢
    rw [if_neg (by intro k; rw [if_pos k] at h; exact h rfl), if_neg (by intro k; rw [if_pos k] at h; exact h rfl)]
theorem pmost1_any (x y : Int) (w : World) : Calls Try.prog 112 #[.int .i64 x, .int .i64 y] w (Vc.Ret (.int .i64 (max x y)) w) := by
  refine vc_span_Most_1 _ _ w _ ?_
  intro _ h
  refine int1 ?_
  rw [h]; split <;> omega
theorem pmost_any (a b c d : Int) (w : World) : Calls Try.prog 65 #[Vc.S a b, Vc.S c d] w (Vc.Ret (Vc.RV (most a b c d)) w) := by
  refine vc_span_Most _ _ _ _ w _ ?_
  refine ⟨_, fun _ _ _ hm => checked2 hm.1.2, ?_⟩
  unfold most
  refine iteI (fun h => ?_) (fun h => ?_)
  · (repeat apply Exists.intro); refine And.intro (fun _ _ => pmost1_any _ _ _) ?_
    (repeat apply Exists.intro); refine And.intro (fun _ _ => pmost1_any _ _ _) ?_
    rw [if_pos (chk2_ok h)]
  · rw [if_neg (chk2_no h).1, (chk2_no h).2]
theorem rmost_any (a b c d : Int) (w : World) : Calls Try.prog 66 #[Vc.S a b, Vc.S c d] w (Vc.Ret (Vc.RV (most a b c d)) w) := by
  refine vc_ullageref01_Most _ _ _ _ w _ ?_
  (repeat apply Exists.intro); refine And.intro (fun _ _ => both_any _ _ _ _ _) ?_
  unfold most
  refine iteI (fun h => ?_) (fun h => ?_)
  · intro _ h1 _ h2
    rw [if_pos (chk2_ok h)]
    refine rv ?_
    rw [h1, h2]
    simp only [Prod.mk.injEq, and_true]
    constructor <;> (split <;> omega)
  · rw [if_neg (chk2_no h).1]
theorem pleast1_any (x y : Int) (w : World) : Calls Try.prog 113 #[.int .i64 x, .int .i64 y] w (Vc.Ret (.int .i64 (min x y)) w) := by
  refine vc_span_Least_1 _ _ w _ ?_
  intro _ h
  refine int1 ?_
  rw [h]; split <;> omega
theorem pleast_any (a b c d : Int) (w : World) : Calls Try.prog 67 #[Vc.S a b, Vc.S c d] w (Vc.Ret (Vc.RV (least a b c d)) w) := by
  refine vc_span_Least _ _ _ _ w _ ?_
  refine ⟨_, fun _ _ _ hm => checked2 hm.1.2, ?_⟩
  unfold least
  refine iteI (fun h => ?_) (fun h => ?_)
  · (repeat apply Exists.intro); refine And.intro (fun _ _ => pleast1_any _ _ _) ?_
    (repeat apply Exists.intro); refine And.intro (fun _ _ => pleast1_any _ _ _) ?_
    rw [if_pos (chk2_ok h)]
  · rw [if_neg (chk2_no h).1, (chk2_no h).2]
theorem rleast_any (a b c d : Int) (w : World) : Calls Try.prog 68 #[Vc.S a b, Vc.S c d] w (Vc.Ret (Vc.RV (least a b c d)) w) := by
  refine vc_ullageref01_Least _ _ _ _ w _ ?_
  (repeat apply Exists.intro); refine And.intro (fun _ _ => both_any _ _ _ _ _) ?_
  unfold least
  refine iteI (fun h => ?_) (fun h => ?_)
  · intro _ h1 _ h2
    rw [if_pos (chk2_ok h)]
    refine rv ?_
    rw [h1, h2]
    simp only [Prod.mk.injEq, and_true]
    constructor <;> (split <;> omega)
  · rw [if_neg (chk2_no h).1]
end Go.Proofs.Ytdhiapllbjamfaa
