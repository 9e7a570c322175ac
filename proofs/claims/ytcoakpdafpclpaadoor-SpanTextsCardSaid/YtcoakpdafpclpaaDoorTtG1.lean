/- What the walks of functions come to (written by program). -/
import Derived.Test.YtcoakpdafpclpaaDoorVcU
import Derived.Test.YtcoakpdafpclpaaDoorRows
set_option linter.unusedVariables false
set_option maxRecDepth 100000
namespace Go.Proofs.YtcoakpdafpclpaaDoor
open Go Go.RowKit
def fcalls : List Nat := [2, 3, 4, 5, 6, 7, 8, 9, 10, 11, 12, 13, 14, 15, 16, 17, 18, 19, 20, 21, 22, 23, 24, 25, 26, 27, 28, 29, 30, 31, 32, 33, 34, 35, 36, 37, 38, 39, 40, 41, 42, 43, 44, 45, 46, 47, 48, 49, 50, 51, 52, 53, 54, 57, 58, 59, 60, 61, 62, 63, 64, 65, 66, 67, 68, 69, 70, 71, 72, 73, 74, 75, 77, 78, 79, 80, 81, 82, 83, 84, 85, 86, 87, 88, 89, 90, 91, 92, 93, 95, 96, 97, 98, 99, 100, 101, 103, 104, 105, 131]
def fext : List Nat := [0, 1, 55, 56, 76, 94, 102, 106, 107, 108, 109, 110, 111, 112, 113, 114, 115, 116, 117, 118, 119, 120, 121, 122, 123, 124, 125, 126, 127, 128, 129, 130]
theorem base : Vc.Base Tryd.prog fcalls fext [] := ⟨by kernel_rfl, by kernel_rfl, by kernel_rfl⟩
theorem base_inl (l : List Nat) (h : Vc.okCalls Tryd.prog l = true) : Vc.Base Tryd.prog fcalls fext l := ⟨by kernel_rfl, h, by kernel_rfl⟩

theorem vc_span_valid (x0 : Int) (w : World) (v : Value) (h : 
  (.bool (decide (x0 ≥ (-9223372036854775807))) : Value) = v) : Calls Tryd.prog 31 #[.int .i64 x0] w (Vc.Ret v w) :=
  Vc.pure_of base [] 200 Tryd.func31 (b := (Tryd.f31.body).getD .skip) (by kernel_rfl) [.cv (.one (.int .i64 (.var 0)))] ⟨1, 0, 0, 0, 0, 0, 0⟩ (Vc.envOf [x0] [] [] []) (by kernel_rfl) (by kernel_rfl) (by kernel_rfl) h

theorem vc_span_size (x0 : Int) (w : World) (v : Value) (h : 
  ((x0 < 0) → (
  ∀ x1 : Int, x1 = IntKind.u64.wrap (x0) →
  ∀ x2 : Int, x2 = IntKind.u64.wrap (0 - x1) →
  (.int .u64 x2 : Value) = v)) ∧ (¬ (x0 < 0) → (
  ∀ x1 : Int, x1 = IntKind.u64.wrap (x0) →
  (.int .u64 x1 : Value) = v))) : Calls Tryd.prog 32 #[.int .i64 x0] w (Vc.Ret v w) :=
  Vc.pure_of base [] 200 Tryd.func32 (b := (Tryd.f32.body).getD .skip) (by kernel_rfl) [.cv (.one (.int .i64 (.var 0)))] ⟨1, 0, 0, 0, 0, 0, 0⟩ (Vc.envOf [x0] [] [] []) (by kernel_rfl) (by kernel_rfl) (by kernel_rfl) h

theorem vc_span_plus (x0 x1 x2 x3 : Int) (b0 b1 : Bool) (w : World) (v : Value) (h : 
  ((((b0 = true) ↔ (b1 = true))) → (
  ∃ (x4 : Int), ∃ (x5 : Int), (true = true ∧ ∀ w' : World, (callFunc 55 #[.int .u64 x1, .int .u64 x3, .int .u64 0]).run Tryd.prog w' = .ok (.value (.tuple #[.int .u64 x4, .int .u64 x5])) w') ∧
  ∃ (x6 : Int), ∃ (x7 : Int), (true = true ∧ ∀ w' : World, (callFunc 55 #[.int .u64 x0, .int .u64 x2, .int .u64 x5]).run Tryd.prog w' = .ok (.value (.tuple #[.int .u64 x6, .int .u64 x7])) w') ∧
  (.agg #[.bool b0, .int .u64 x6, .int .u64 x4] : Value) = v)) ∧ (¬ (((b0 = true) ↔ (b1 = true))) → (
  ((x0 < x2) → (
  ∃ (x4 : Int), ∃ (x5 : Int), (true = true ∧ ∀ w' : World, (callFunc 56 #[.int .u64 x3, .int .u64 x1, .int .u64 0]).run Tryd.prog w' = .ok (.value (.tuple #[.int .u64 x4, .int .u64 x5])) w') ∧
  ∃ (x6 : Int), ∃ (x7 : Int), (true = true ∧ ∀ w' : World, (callFunc 56 #[.int .u64 x2, .int .u64 x0, .int .u64 x5]).run Tryd.prog w' = .ok (.value (.tuple #[.int .u64 x6, .int .u64 x7])) w') ∧
  (.agg #[.bool b1, .int .u64 x6, .int .u64 x4] : Value) = v)) ∧ (¬ (x0 < x2) → (
  ((x0 = x2) → (
  ((x1 < x3) → (
  ∃ (x4 : Int), ∃ (x5 : Int), (true = true ∧ ∀ w' : World, (callFunc 56 #[.int .u64 x3, .int .u64 x1, .int .u64 0]).run Tryd.prog w' = .ok (.value (.tuple #[.int .u64 x4, .int .u64 x5])) w') ∧
  ∃ (x6 : Int), ∃ (x7 : Int), (true = true ∧ ∀ w' : World, (callFunc 56 #[.int .u64 x2, .int .u64 x0, .int .u64 x5]).run Tryd.prog w' = .ok (.value (.tuple #[.int .u64 x6, .int .u64 x7])) w') ∧
  (.agg #[.bool b1, .int .u64 x6, .int .u64 x4] : Value) = v)) ∧ (¬ (x1 < x3) → (
  ∃ (x4 : Int), ∃ (x5 : Int), (true = true ∧ ∀ w' : World, (callFunc 56 #[.int .u64 x1, .int .u64 x3, .int .u64 0]).run Tryd.prog w' = .ok (.value (.tuple #[.int .u64 x4, .int .u64 x5])) w') ∧
  ∃ (x6 : Int), ∃ (x7 : Int), (true = true ∧ ∀ w' : World, (callFunc 56 #[.int .u64 x0, .int .u64 x2, .int .u64 x5]).run Tryd.prog w' = .ok (.value (.tuple #[.int .u64 x6, .int .u64 x7])) w') ∧
  (.agg #[.bool b0, .int .u64 x6, .int .u64 x4] : Value) = v)))) ∧ (¬ (x0 = x2) → (
  ∃ (x4 : Int), ∃ (x5 : Int), (true = true ∧ ∀ w' : World, (callFunc 56 #[.int .u64 x1, .int .u64 x3, .int .u64 0]).run Tryd.prog w' = .ok (.value (.tuple #[.int .u64 x4, .int .u64 x5])) w') ∧
  ∃ (x6 : Int), ∃ (x7 : Int), (true = true ∧ ∀ w' : World, (callFunc 56 #[.int .u64 x0, .int .u64 x2, .int .u64 x5]).run Tryd.prog w' = .ok (.value (.tuple #[.int .u64 x6, .int .u64 x7])) w') ∧
  (.agg #[.bool b0, .int .u64 x6, .int .u64 x4] : Value) = v))))))) : Calls Tryd.prog 21 #[.agg #[.bool b0, .int .u64 x0, .int .u64 x1], .agg #[.bool b1, .int .u64 x2, .int .u64 x3]] w (Vc.Ret v w) :=
  Vc.pure_of base [] 200 Tryd.func21 (b := (Tryd.f21.body).getD .skip) (by kernel_rfl) [.cv (.agg [.bool (.var 0), .int .u64 (.var 0), .int .u64 (.var 1)]), .cv (.agg [.bool (.var 1), .int .u64 (.var 2), .int .u64 (.var 3)])] ⟨4, 2, 0, 0, 0, 0, 0⟩ (Vc.envOf [x0, x1, x2, x3] [b0, b1] [] []) (by kernel_rfl) (by kernel_rfl) (by kernel_rfl) h

theorem vc__span_big__num (x0 x1 : Int) (b0 : Bool) (w : World) (v : Value) (h : 
  ((0 < x0) → (
  (.tuple #[.int .i64 0, .bool false] : Value) = v)) ∧ (¬ (0 < x0) → (
  ((9223372036854775807 < x1) → (
  (.tuple #[.int .i64 0, .bool false] : Value) = v)) ∧ (¬ (9223372036854775807 < x1) → (
  ((b0 = true) → (
  ∀ x2 : Int, x2 = IntKind.i64.wrap (x1) →
  ∀ x3 : Int, x3 = IntKind.i64.wrap (0 - x2) →
  (.tuple #[.int .i64 x3, .bool true] : Value) = v)) ∧ (¬ (b0 = true) → (
  ∀ x2 : Int, x2 = IntKind.i64.wrap (x1) →
  (.tuple #[.int .i64 x2, .bool true] : Value) = v))))))) : Calls Tryd.prog 57 #[.agg #[.bool b0, .int .u64 x0, .int .u64 x1]] w (Vc.Ret v w) :=
  Vc.pure_of base [] 200 Tryd.func57 (b := (Tryd.f57.body).getD .skip) (by kernel_rfl) [.cv (.agg [.bool (.var 0), .int .u64 (.var 0), .int .u64 (.var 1)])] ⟨2, 1, 0, 0, 0, 0, 0⟩ (Vc.envOf [x0, x1] [b0] [] []) (by kernel_rfl) (by kernel_rfl) (by kernel_rfl) h

theorem vc_span_fit (x0 x1 x2 x3 : Int) (b0 b1 : Bool) (w : World) (v : Value) (h : 
  ∃ (x4 : Int), ∃ (b2 : Bool), (∀ w' : World, Below w.heap.size w w' → Calls Tryd.prog 57 #[.agg #[.bool b0, .int .u64 x0, .int .u64 x1]] w' (Vc.Ret (.tuple #[.int .i64 x4, .bool b2]) w')) ∧
  ∃ (x5 : Int), ∃ (b3 : Bool), (∀ w' : World, Below w.heap.size w w' → Calls Tryd.prog 57 #[.agg #[.bool b1, .int .u64 x2, .int .u64 x3]] w' (Vc.Ret (.tuple #[.int .i64 x5, .bool b3]) w')) ∧
  ((b2 = true) → (
  ((b3 = true) → (
  (.tuple #[.agg #[.int .i64 x4, .int .i64 x5], .int .i64 0] : Value) = v)) ∧ (¬ (b3 = true) → (
  (.tuple #[.agg #[.int .i64 0, .int .i64 0], .int .i64 4] : Value) = v)))) ∧ (¬ (b2 = true) → (
  (.tuple #[.agg #[.int .i64 0, .int .i64 0], .int .i64 4] : Value) = v))) : Calls Tryd.prog 22 #[.agg #[.bool b0, .int .u64 x0, .int .u64 x1], .agg #[.bool b1, .int .u64 x2, .int .u64 x3]] w (Vc.Ret v w) :=
  Vc.pure_of base [] 200 Tryd.func22 (b := (Tryd.f22.body).getD .skip) (by kernel_rfl) [.cv (.agg [.bool (.var 0), .int .u64 (.var 0), .int .u64 (.var 1)]), .cv (.agg [.bool (.var 1), .int .u64 (.var 2), .int .u64 (.var 3)])] ⟨4, 2, 0, 0, 0, 0, 0⟩ (Vc.envOf [x0, x1, x2, x3] [b0, b1] [] []) (by kernel_rfl) (by kernel_rfl) (by kernel_rfl) h

end Go.Proofs.YtcoakpdafpclpaaDoor
