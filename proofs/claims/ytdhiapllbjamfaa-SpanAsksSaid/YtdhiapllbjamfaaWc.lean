/- Walks. -/
import Derived.Test.YtdhiapllbjamfaaWb
set_option linter.unusedVariables false
namespace Go.Proofs.Ytdhiapllbjamfaa
open Go.RowKit Ul

/-- The error of two spans. -/
def chk2 (a b c d : Int) : Int := if ok a b && ok c d then 0 else 2

theorem both_any (a b c d : Int) (w : World) : Calls Try.prog 76 #[S a b, S c d] w (Ret (.int .i64 (chk2 a b c d)) w) := by
  have K := Kn.start w
  go_enter Try.func76, Try.ntmps76
  go_wp2_with fail
  go_region_held3 (fun w' => w'.cell? ⟨w.heap.size, 0, none⟩ = some (.int .i64 a) ∧ w'.cell? ⟨w.heap.size, 1, none⟩ = some (.int .i64 b) ∧ w'.cell? ⟨w.heap.size + 1, 0, none⟩ = some (.int .i64 c) ∧ w'.cell? ⟨w.heap.size + 1, 1, none⟩ = some (.int .i64 d)) (simp [go_sem, *]) (first | (go_at_call 48; refine via (by repeat (first | exact K | apply Kn.push | apply Kn.drew)) (rcheck_any _ _ _) ?_; clear K; (try clear hO); intro wN K hO; simp only [Opened, World.size_alloc, World.size_drew, World.size_setCell] at hO))
  go_wp2
  all_goals go_ret
  all_goals exact Kn.ret' (by repeat (first | exact K | apply Kn.push | apply Kn.drew)) (by cases h1 : ok a b <;> cases h2 : ok c d <;> simp_all [chk, chk2])

theorem within_any (a b c d : Int) (w : World) : Calls Try.prog 14 #[S a b, S c d] w (Ret (.bool (within a b c d)) w) := by
  have K := Kn.start w
  go_enter Try.func14, Try.ntmps14
  go_wp2_with (go_at_call 75; refine via (by repeat (first | exact K | apply Kn.push | apply Kn.drew)) (checked_two _ a b c d _ (by intro o; simp [go_sem])) ?_; clear K; (try clear hO); intro wN K hO; simp only [Opened, World.size_alloc, World.size_drew, World.size_setCell] at hO)
  all_goals go_ret
  all_goals exact Kn.ret' (by repeat (first | exact K | apply Kn.push | apply Kn.drew)) (by simp_all [within] <;> omega)

theorem rwithin_any (a b c d : Int) (w : World) : Calls Try.prog 15 #[S a b, S c d] w (Ret (.bool (within a b c d)) w) := by
  have K := Kn.start w
  go_enter Try.func15, Try.ntmps15
  go_wp2_with (go_at_call 76; refine via (by repeat (first | exact K | apply Kn.push | apply Kn.drew)) (both_any _ _ _ _ _) ?_; clear K; (try clear hO); intro wN K hO; simp only [Opened, World.size_alloc, World.size_drew, World.size_setCell] at hO)
  all_goals go_ret
  all_goals exact Kn.ret' (by repeat (first | exact K | apply Kn.push | apply Kn.drew)) (by simp_all [within, chk2] <;> omega)

theorem order_any (a b c d : Int) (w : World) : Calls Try.prog 18 #[S a b, S c d] w (Ret (.int .i64 (order a b c d)) w) := by
  have K := Kn.start w
  go_enter Try.func18, Try.ntmps18
  go_wp2_with (go_at_call 75; refine via (by repeat (first | exact K | apply Kn.push | apply Kn.drew)) (checked_two _ a b c d _ (by intro o; simp [go_sem])) ?_; clear K; (try clear hO); intro wN K hO; simp only [Opened, World.size_alloc, World.size_drew, World.size_setCell] at hO)
  all_goals go_ret
  all_goals exact Kn.ret' (by repeat (first | exact K | apply Kn.push | apply Kn.drew)) (by simp_all [order] <;> omega)

theorem rorder_any (a b c d : Int) (w : World) : Calls Try.prog 19 #[S a b, S c d] w (Ret (.int .i64 (order a b c d)) w) := by
  have K := Kn.start w
  go_enter Try.func19, Try.ntmps19
  go_wp2_with (go_at_call 76; refine via (by repeat (first | exact K | apply Kn.push | apply Kn.drew)) (both_any _ _ _ _ _) ?_; clear K; (try clear hO); intro wN K hO; simp only [Opened, World.size_alloc, World.size_drew, World.size_setCell] at hO)
  all_goals go_ret
  all_goals exact Kn.ret' (by repeat (first | exact K | apply Kn.push | apply Kn.drew)) (by simp_all [order, chk2] <;> omega)
end Go.Proofs.Ytdhiapllbjamfaa
