/- What the walks of functions come to (written by program). -/
import Derived.Test.YtcoakpdafpclpaaDoorTtG1
set_option linter.unusedVariables false
set_option maxRecDepth 100000
namespace Go.Proofs.YtcoakpdafpclpaaDoor
open Go Go.RowKit
theorem vc_ullagelaw01_same (x0 x1 x2 x3 x4 x5 : Int) (w : World) (v : Value) (h : 
  (((x0 = x3) ∧ (x1 = x4)) → (
  (.bool (x2 == x5) : Value) = v)) ∧ (¬ ((x0 = x3) ∧ (x1 = x4)) → (
  (.bool false : Value) = v))) : Calls Tryd.prog 9 #[.agg #[.int .i64 x0, .int .i64 x1], .int .i64 x2, .agg #[.int .i64 x3, .int .i64 x4], .int .i64 x5] w (Vc.Ret v w) :=
  Vc.pure_of base [] 200 Tryd.func9 (b := (Tryd.f9.body).getD .skip) (by kernel_rfl) [.cv (.agg [.int .i64 (.var 0), .int .i64 (.var 1)]), .cv (.one (.int .i64 (.var 2))), .cv (.agg [.int .i64 (.var 3), .int .i64 (.var 4)]), .cv (.one (.int .i64 (.var 5)))] ⟨6, 0, 0, 0, 0, 0, 0⟩ (Vc.envOf [x0, x1, x2, x3, x4, x5] [] [] []) (by kernel_rfl) (by kernel_rfl) (by kernel_rfl) h

theorem vc_ullagelaw01_SpanTexts (x0 : Int) (s0 : List UInt8) (w : World) (v : Value) (h : 
  ∀ x1 : Int, x1 = ((s0.length : Nat) : Int) →
  ((200 < x1) → (
  (.bool true : Value) = v)) ∧ (¬ (200 < x1) → (
  ∃ (x2 : Int), ∃ (x3 : Int), ∃ (x4 : Int), (∀ w' : World, Below w.heap.size w w' → Calls Tryd.prog 5 #[.string ⟨s0.toArray⟩] w' (Vc.Ret (.tuple #[.agg #[.int .i64 x2, .int .i64 x3], .int .i64 x4]) w')) ∧
  ∃ (x5 : Int), ∃ (x6 : Int), ∃ (x7 : Int), (∀ w' : World, Below w.heap.size w w' → Calls Tryd.prog 6 #[.string ⟨s0.toArray⟩] w' (Vc.Ret (.tuple #[.agg #[.int .i64 x5, .int .i64 x6], .int .i64 x7]) w')) ∧
  ∃ (s1 : List UInt8), (∀ w' : World, Below w.heap.size w w' → Calls Tryd.prog 7 #[.int .i64 x0] w' (Vc.Ret (.string ⟨s1.toArray⟩) w')) ∧
  ∃ (s2 : List UInt8), (∀ w' : World, Below w.heap.size w w' → Calls Tryd.prog 8 #[.int .i64 x0] w' (Vc.Ret (.string ⟨s2.toArray⟩) w')) ∧
  ((s1 = s2) → (
  ∃ (b0 : Bool), (∀ w' : World, Below w.heap.size w w' → Calls Tryd.prog 9 #[.agg #[.int .i64 x2, .int .i64 x3], .int .i64 x4, .agg #[.int .i64 x5, .int .i64 x6], .int .i64 x7] w' (Vc.Ret (.bool b0) w')) ∧
  (.bool b0 : Value) = v)) ∧ (¬ (s1 = s2) → (
  (.bool false : Value) = v))))) : Calls Tryd.prog 3 #[.int .i64 x0, .string ⟨s0.toArray⟩] w (Vc.Ret v w) :=
  Vc.pure_of base [] 200 Tryd.func3 (b := (Tryd.f3.body).getD .skip) (by kernel_rfl) [.cv (.one (.int .i64 (.var 0))), .cv (.one (.sv 0))] ⟨1, 0, 0, 0, 0, 1, 0⟩ (Vc.envOf [x0] [] [] [] [s0]) (by kernel_rfl) (by kernel_rfl) (by kernel_rfl) h

end Go.Proofs.YtcoakpdafpclpaaDoor
