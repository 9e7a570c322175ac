/- What the walks of functions come to (written by program). -/
import Derived.Test.YtcoakpdafpclpaaDoorTtG1
set_option linter.unusedVariables false
set_option maxRecDepth 100000
namespace Go.Proofs.YtcoakpdafpclpaaDoor
open Go Go.RowKit
theorem vc_ullageref01_Number (x0 : Int) (w : World) (v : Value) (h : 
  (.bool (decide (x0 ≥ (-9223372036854775807))) : Value) = v) : Calls Tryd.prog 37 #[.int .i64 x0] w (Vc.Ret v w) :=
  Vc.pure_of base [] 200 Tryd.func37 (b := (Tryd.f37.body).getD .skip) (by kernel_rfl) [.cv (.one (.int .i64 (.var 0)))] ⟨1, 0, 0, 0, 0, 0, 0⟩ (Vc.envOf [x0] [] [] []) (by kernel_rfl) (by kernel_rfl) (by kernel_rfl) h

theorem vc_ullageref01_Of (x0 : Int) (w : World) (v : Value) (h : 
  ((x0 < 0) → (
  ∀ x1 : Int, x1 = IntKind.u64.wrap (x0) →
  (.agg #[.int .i64 (-1), .int .u64 x1] : Value) = v)) ∧ (¬ (x0 < 0) → (
  ∀ x1 : Int, x1 = IntKind.u64.wrap (x0) →
  (.agg #[.int .i64 0, .int .u64 x1] : Value) = v))) : Calls Tryd.prog 27 #[.int .i64 x0] w (Vc.Ret v w) :=
  Vc.pure_of base [] 200 Tryd.func27 (b := (Tryd.f27.body).getD .skip) (by kernel_rfl) [.cv (.one (.int .i64 (.var 0)))] ⟨1, 0, 0, 0, 0, 0, 0⟩ (Vc.envOf [x0] [] [] []) (by kernel_rfl) (by kernel_rfl) (by kernel_rfl) h

theorem vc_ullageref01_Plus (x0 x1 x2 x3 : Int) (w : World) (v : Value) (h : 
  ∀ x4 : Int, x4 = IntKind.u64.wrap (x1 + x3) →
  ∀ x5 : Int, x5 = IntKind.i64.wrap (x0 + x2) →
  ((x4 < x1) → (
  ∀ x6 : Int, x6 = IntKind.i64.wrap (x5 + 1) →
  (.agg #[.int .i64 x6, .int .u64 x4] : Value) = v)) ∧ (¬ (x4 < x1) → (
  (.agg #[.int .i64 x5, .int .u64 x4] : Value) = v))) : Calls Tryd.prog 24 #[.agg #[.int .i64 x0, .int .u64 x1], .agg #[.int .i64 x2, .int .u64 x3]] w (Vc.Ret v w) :=
  Vc.pure_of base [] 200 Tryd.func24 (b := (Tryd.f24.body).getD .skip) (by kernel_rfl) [.cv (.agg [.int .i64 (.var 0), .int .u64 (.var 1)]), .cv (.agg [.int .i64 (.var 2), .int .u64 (.var 3)])] ⟨4, 0, 0, 0, 0, 0, 0⟩ (Vc.envOf [x0, x1, x2, x3] [] [] []) (by kernel_rfl) (by kernel_rfl) (by kernel_rfl) h

theorem vc_ullageref01_Minus (x0 x1 : Int) (w : World) (v : Value) (h : 
  ∀ x2 : Int, x2 = bits .xor .i64 (-1) x0 →
  ∀ x3 : Int, x3 = bits .xor .u64 18446744073709551615 x1 →
  ∃ (x4 : Int), ∃ (x5 : Int), (∀ w' : World, Below w.heap.size w w' → Calls Tryd.prog 24 #[.agg #[.int .i64 x2, .int .u64 x3], .agg #[.int .i64 0, .int .u64 1]] w' (Vc.Ret (.agg #[.int .i64 x4, .int .u64 x5]) w')) ∧
  (.agg #[.int .i64 x4, .int .u64 x5] : Value) = v) : Calls Tryd.prog 30 #[.agg #[.int .i64 x0, .int .u64 x1]] w (Vc.Ret v w) :=
  Vc.pure_of base [] 200 Tryd.func30 (b := (Tryd.f30.body).getD .skip) (by kernel_rfl) [.cv (.agg [.int .i64 (.var 0), .int .u64 (.var 1)])] ⟨2, 0, 0, 0, 0, 0, 0⟩ (Vc.envOf [x0, x1] [] [] []) (by kernel_rfl) (by kernel_rfl) (by kernel_rfl) h

theorem vc_ullageref01_Less (x0 x1 x2 x3 : Int) (w : World) (v : Value) (h : 
  ((x0 < x2) → (
  (.bool true : Value) = v)) ∧ (¬ (x0 < x2) → (
  ((x0 = x2) → (
  (.bool (decide (x1 < x3)) : Value) = v)) ∧ (¬ (x0 = x2) → (
  (.bool false : Value) = v))))) : Calls Tryd.prog 28 #[.agg #[.int .i64 x0, .int .u64 x1], .agg #[.int .i64 x2, .int .u64 x3]] w (Vc.Ret v w) :=
  Vc.pure_of base [] 200 Tryd.func28 (b := (Tryd.f28.body).getD .skip) (by kernel_rfl) [.cv (.agg [.int .i64 (.var 0), .int .u64 (.var 1)]), .cv (.agg [.int .i64 (.var 2), .int .u64 (.var 3)])] ⟨4, 0, 0, 0, 0, 0, 0⟩ (Vc.envOf [x0, x1, x2, x3] [] [] []) (by kernel_rfl) (by kernel_rfl) (by kernel_rfl) h

theorem vc_ullageref01_Twice (x0 x1 : Int) (w : World) (v : Value) (h : 
  ∃ (x2 : Int), ∃ (x3 : Int), (∀ w' : World, Below w.heap.size w w' → Calls Tryd.prog 24 #[.agg #[.int .i64 x0, .int .u64 x1], .agg #[.int .i64 x0, .int .u64 x1]] w' (Vc.Ret (.agg #[.int .i64 x2, .int .u64 x3]) w')) ∧
  (.agg #[.int .i64 x2, .int .u64 x3] : Value) = v) : Calls Tryd.prog 26 #[.agg #[.int .i64 x0, .int .u64 x1]] w (Vc.Ret v w) :=
  Vc.pure_of base [] 200 Tryd.func26 (b := (Tryd.f26.body).getD .skip) (by kernel_rfl) [.cv (.agg [.int .i64 (.var 0), .int .u64 (.var 1)])] ⟨2, 0, 0, 0, 0, 0, 0⟩ (Vc.envOf [x0, x1] [] [] []) (by kernel_rfl) (by kernel_rfl) (by kernel_rfl) h

theorem vc_ullageref01_Up_32 (x0 x1 : Int) (w : World) (v : Value) (h : 
  ∀ x2 : Int, x2 = IntKind.i64.wrap (x0 * 4294967296) →
  ∀ x3 : Int, x3 = x1 / 4294967296 →
  ∀ x4 : Int, x4 = IntKind.i64.wrap (x3) →
  ∀ x5 : Int, x5 = IntKind.i64.wrap (x2 + x4) →
  ∀ x6 : Int, x6 = IntKind.u64.wrap (x1 * 4294967296) →
  (.agg #[.int .i64 x5, .int .u64 x6] : Value) = v) : Calls Tryd.prog 25 #[.agg #[.int .i64 x0, .int .u64 x1], .int .i64 32] w (Vc.Ret v w) :=
  Vc.pure_of base [] 200 Tryd.func25 (b := (Tryd.f25.body).getD .skip) (by kernel_rfl) [.cv (.agg [.int .i64 (.var 0), .int .u64 (.var 1)]), .cv (.one (.int .i64 (.lit (32))))] ⟨2, 0, 0, 0, 0, 0, 0⟩ (Vc.envOf [x0, x1] [] [] []) (by kernel_rfl) (by kernel_rfl) (by kernel_rfl) h

theorem vc_ullageref01_out (x0 x1 x2 x3 : Int) (w : World) (v : Value) (h : 
  ∃ (x4 : Int), ∃ (x5 : Int), (∀ w' : World, Below w.heap.size w w' → Calls Tryd.prog 27 #[.int .i64 (-9223372036854775807)] w' (Vc.Ret (.agg #[.int .i64 x4, .int .u64 x5]) w')) ∧
  ∃ (b0 : Bool), (∀ w' : World, Below w.heap.size w w' → Calls Tryd.prog 28 #[.agg #[.int .i64 x0, .int .u64 x1], .agg #[.int .i64 x4, .int .u64 x5]] w' (Vc.Ret (.bool b0) w')) ∧
  ((b0 = true) → (
  (.tuple #[.agg #[.int .i64 0, .int .i64 0], .int .i64 4] : Value) = v)) ∧ (¬ (b0 = true) → (
  ∃ (x6 : Int), ∃ (x7 : Int), (∀ w' : World, Below w.heap.size w w' → Calls Tryd.prog 27 #[.int .i64 9223372036854775807] w' (Vc.Ret (.agg #[.int .i64 x6, .int .u64 x7]) w')) ∧
  ∃ (b1 : Bool), (∀ w' : World, Below w.heap.size w w' → Calls Tryd.prog 28 #[.agg #[.int .i64 x6, .int .u64 x7], .agg #[.int .i64 x0, .int .u64 x1]] w' (Vc.Ret (.bool b1) w')) ∧
  ((b1 = true) → (
  (.tuple #[.agg #[.int .i64 0, .int .i64 0], .int .i64 4] : Value) = v)) ∧ (¬ (b1 = true) → (
  ∃ (x8 : Int), ∃ (x9 : Int), (∀ w' : World, Below w.heap.size w w' → Calls Tryd.prog 27 #[.int .i64 (-9223372036854775807)] w' (Vc.Ret (.agg #[.int .i64 x8, .int .u64 x9]) w')) ∧
  ∃ (b2 : Bool), (∀ w' : World, Below w.heap.size w w' → Calls Tryd.prog 28 #[.agg #[.int .i64 x2, .int .u64 x3], .agg #[.int .i64 x8, .int .u64 x9]] w' (Vc.Ret (.bool b2) w')) ∧
  ((b2 = true) → (
  (.tuple #[.agg #[.int .i64 0, .int .i64 0], .int .i64 4] : Value) = v)) ∧ (¬ (b2 = true) → (
  ∃ (x10 : Int), ∃ (x11 : Int), (∀ w' : World, Below w.heap.size w w' → Calls Tryd.prog 27 #[.int .i64 9223372036854775807] w' (Vc.Ret (.agg #[.int .i64 x10, .int .u64 x11]) w')) ∧
  ∃ (b3 : Bool), (∀ w' : World, Below w.heap.size w w' → Calls Tryd.prog 28 #[.agg #[.int .i64 x10, .int .u64 x11], .agg #[.int .i64 x2, .int .u64 x3]] w' (Vc.Ret (.bool b3) w')) ∧
  ((b3 = true) → (
  (.tuple #[.agg #[.int .i64 0, .int .i64 0], .int .i64 4] : Value) = v)) ∧ (¬ (b3 = true) → (
  ∀ x12 : Int, x12 = IntKind.i64.wrap (x1) →
  ∀ x13 : Int, x13 = IntKind.i64.wrap (x3) →
  (.tuple #[.agg #[.int .i64 x12, .int .i64 x13], .int .i64 0] : Value) = v))))))))) : Calls Tryd.prog 29 #[.agg #[.int .i64 x0, .int .u64 x1], .agg #[.int .i64 x2, .int .u64 x3]] w (Vc.Ret v w) :=
  Vc.pure_of base [] 200 Tryd.func29 (b := (Tryd.f29.body).getD .skip) (by kernel_rfl) [.cv (.agg [.int .i64 (.var 0), .int .u64 (.var 1)]), .cv (.agg [.int .i64 (.var 2), .int .u64 (.var 3)])] ⟨4, 0, 0, 0, 0, 0, 0⟩ (Vc.envOf [x0, x1, x2, x3] [] [] []) (by kernel_rfl) (by kernel_rfl) (by kernel_rfl) h

end Go.Proofs.YtcoakpdafpclpaaDoor
