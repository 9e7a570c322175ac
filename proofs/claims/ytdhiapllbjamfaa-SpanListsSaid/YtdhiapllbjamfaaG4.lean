/- What the walks of functions come to (written by program). -/
import Derived.Test.YtdhiapllbjamfaaG1
set_option linter.unusedVariables false
set_option maxRecDepth 100000
namespace Go.Proofs.Ytdhiapllbjamfaa
open Go Go.RowKit
theorem vc_ullageref01_Abs (x0 x1 : Int) (w : World) (v : Value) (h : 
    ∃ (x2 : Int), (∀ w' : World, Below w.heap.size w w' → Calls Try.prog 48 #[.agg #[.int .i64 x0, .int .i64 x1]] w' (Vc.Ret (.int .i64 x2) w')) ∧
    ((x2 = 0) → (
      ((0 ≤ x0) → (
        (.tuple #[.agg #[.int .i64 x0, .int .i64 x1], .int .i64 0] : Value) = v)) ∧ (¬ (0 ≤ x0) → (
        ((x1 ≤ 0) → (
          ∃ (x3 : Int), ∃ (x4 : Int), ∃ (x5 : Int), (∀ w' : World, Below w.heap.size w w' → Calls Try.prog 38 #[.agg #[.int .i64 x0, .int .i64 x1]] w' (Vc.Ret (.tuple #[.agg #[.int .i64 x3, .int .i64 x4], .int .i64 x5]) w')) ∧
          (.tuple #[.agg #[.int .i64 x3, .int .i64 x4], .int .i64 x5] : Value) = v)) ∧ (¬ (x1 ≤ 0) → (
          ∀ x3 : Int, x3 = IntKind.i64.wrap (0 - x0) →
          ∀ x4 : Int, x4 = (if x1 > x3 then x1 else x3) →
          (.tuple #[.agg #[.int .i64 0, .int .i64 x4], .int .i64 0] : Value) = v)))))) ∧ (¬ (x2 = 0) → (
      (.tuple #[.agg #[.int .i64 0, .int .i64 0], .int .i64 2] : Value) = v))) : Calls Try.prog 64 #[.agg #[.int .i64 x0, .int .i64 x1]] w (Vc.Ret v w) :=
  Vc.pure_of base [] 200 Try.func64 (b := (Try.f64.body).getD .skip) (by kernel_rfl) [.cv (.agg [.int .i64 (.var 0), .int .i64 (.var 1)])] ⟨2, 0, 0, 0, 0, 0, 0⟩ (Vc.envOf [x0, x1] [] [] []) (by kernel_rfl) (by kernel_rfl) (by kernel_rfl) h

end Go.Proofs.Ytdhiapllbjamfaa
