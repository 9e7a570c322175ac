/- Walks: span.valid, Check, checked, In, Within, Order, Sign; the same of the reference. -/
import Derived.Test.YtdhiapllbjamfaaRows
import Derived.Test.YtdhiapllbjamfaaKit
import Derived.Test.YtdhiapllbjamfaaPlain
set_option linter.unusedVariables false
namespace Go.Proofs.Ytdhiapllbjamfaa
open Go.RowKit Ul

/-- A span as a value. -/
abbrev S (lo hi : Int) : Value := .agg #[.int .i64 lo, .int .i64 hi]

theorem check_any (lo hi : Int) (w : World) : Calls Try.prog 47 #[S lo hi] w (Ret (.int .i64 (chk lo hi)) w) := by
  have K := Kn.start w
  go_enter Try.func47, Try.ntmps47
  go_wp2
  all_goals go_ret
  all_goals exact Kn.ret' (by repeat (first | exact K | apply Kn.push | apply Kn.drew)) (by simp [chk, ok]; omega)

theorem rcheck_any (lo hi : Int) (w : World) : Calls Try.prog 48 #[S lo hi] w (Ret (.int .i64 (chk lo hi)) w) := by
  have K := Kn.start w
  go_enter Try.func48, Try.ntmps48
  go_wp2
  all_goals go_ret
  all_goals exact Kn.ret' (by repeat (first | exact K | apply Kn.push | apply Kn.drew)) (by simp [chk, ok]; omega)

theorem in_any (lo hi n : Int) (w : World) : Calls Try.prog 12 #[S lo hi, .int .i64 n] w (Ret (.bool (inS lo hi n)) w) := by
  have K := Kn.start w
  go_enter Try.func12, Try.ntmps12
  go_wp2_with (go_at_call 47; refine via (by repeat (first | exact K | apply Kn.push | apply Kn.drew)) (check_any _ _ _) ?_; clear K; (try clear hO); intro wN K hO; simp only [Opened, World.size_alloc, World.size_drew, World.size_setCell] at hO)
  all_goals go_ret
  all_goals exact Kn.ret' (by repeat (first | exact K | apply Kn.push | apply Kn.drew)) (by simp_all [inS, chk] <;> omega)

theorem rin_any (lo hi n : Int) (w : World) : Calls Try.prog 13 #[S lo hi, .int .i64 n] w (Ret (.bool (inS lo hi n)) w) := by
  have K := Kn.start w
  go_enter Try.func13, Try.ntmps13
  go_wp2_with (go_at_call 48; refine via (by repeat (first | exact K | apply Kn.push | apply Kn.drew)) (rcheck_any _ _ _) ?_; clear K; (try clear hO); intro wN K hO; simp only [Opened, World.size_alloc, World.size_drew, World.size_setCell] at hO)
  all_goals go_ret
  all_goals exact Kn.ret' (by repeat (first | exact K | apply Kn.push | apply Kn.drew)) (by simp_all [inS, chk] <;> omega)

end Go.Proofs.Ytdhiapllbjamfaa
