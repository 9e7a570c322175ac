/- What the walks of functions come to (written by program). -/
import Derived.Test.YtndeppnboolfiaaDoorGcG1
set_option linter.unusedVariables false
set_option maxRecDepth 100000
namespace Go.Proofs.YtndeppnboolfiaaDoor
open Go Go.RowKit
theorem vc_ullagelaw01_of (x0 x1 : Int) (w : World) (v : Value) (h : 
  ∀ x2 : Int, x2 = IntKind.i64.wrap (x0 * 4294967296) →
  ∀ x3 : Int, x3 = IntKind.i64.wrap (x1 * 4294967296) →
  (.agg #[.int .i64 x2, .int .i64 x3] : Value) = v) : Calls Tryd.prog 47 #[.int .i64 x0, .int .i64 x1] w (Vc.Ret v w) :=
  Vc.pure_of base [] 200 Tryd.func47 (b := (Tryd.f47.body).getD .skip) (by kernel_rfl) [.cv (.one (.int .i64 (.var 0))), .cv (.one (.int .i64 (.var 1)))] ⟨2, 0, 0, 0, 0, 0, 0⟩ (Vc.envOf [x0, x1] [] [] []) (by kernel_rfl) (by kernel_rfl) (by kernel_rfl) h

theorem vc_ullagelaw01_alive (w : World) (v : Value) (h : 
  ∃ (x0 : Int), ∃ (x1 : Int), ∃ (x2 : Int), (∀ w' : World, Below w.heap.size w w' → Calls Tryd.prog 12 #[.agg #[.int .i64 (-4294967296), .int .i64 8589934592], .agg #[.int .i64 12884901888, .int .i64 17179869184]] w' (Vc.Ret (.tuple #[.agg #[.int .i64 x0, .int .i64 x1], .int .i64 x2]) w')) ∧
  ∃ (x3 : Int), ∃ (x4 : Int), ∃ (x5 : Int), (∀ w' : World, Below w.heap.size w w' → Calls Tryd.prog 48 #[.int .i64 1, .int .i64 3] w' (Vc.Ret (.tuple #[.agg #[.int .i64 x3, .int .i64 x4], .int .i64 x5]) w')) ∧
  ∃ (x6 : Int), ∃ (x7 : Int), ∃ (x8 : Int), (∀ w' : World, Below w.heap.size w w' → Calls Tryd.prog 17 #[.agg #[.int .i64 (-38654705664), .int .i64 17179869184]] w' (Vc.Ret (.tuple #[.agg #[.int .i64 x6, .int .i64 x7], .int .i64 x8]) w')) ∧
  ((x2 = 0) → (
  ∃ (x9 : Int), ∃ (x10 : Int), (∀ w' : World, Below w.heap.size w w' → Calls Tryd.prog 47 #[.int .i64 (-4), .int .i64 8] w' (Vc.Ret (.agg #[.int .i64 x9, .int .i64 x10]) w')) ∧
  (((x0 = x9) ∧ (x1 = x10)) → (
  ((x5 = 0) → (
  (((x3 = 1431655765) ∧ (x4 = 1431655766)) → (
  ((x8 = 0) → (
  ∃ (x11 : Int), ∃ (x12 : Int), (∀ w' : World, Below w.heap.size w w' → Calls Tryd.prog 47 #[.int .i64 0, .int .i64 2] w' (Vc.Ret (.agg #[.int .i64 x11, .int .i64 x12]) w')) ∧
  (((x6 = x11) ∧ (x7 = x12)) → (
  ∃ (s0 : List UInt8), (∀ w' : World, Below w.heap.size w w' → Calls Tryd.prog 44 #[.int .i64 (-1073741824)] w' (Vc.Ret (.string ⟨s0.toArray⟩) w')) ∧
  (.bool (decide (s0 = ([45, 48, 46, 50, 53] : List UInt8))) : Value) = v)) ∧ (¬ ((x6 = x11) ∧ (x7 = x12)) → (
  (.bool false : Value) = v)))) ∧ (¬ (x8 = 0) → (
  (.bool false : Value) = v)))) ∧ (¬ ((x3 = 1431655765) ∧ (x4 = 1431655766)) → (
  (.bool false : Value) = v)))) ∧ (¬ (x5 = 0) → (
  (.bool false : Value) = v)))) ∧ (¬ ((x0 = x9) ∧ (x1 = x10)) → (
  (.bool false : Value) = v)))) ∧ (¬ (x2 = 0) → (
  (.bool false : Value) = v))) : Calls Tryd.prog 11 #[] w (Vc.Ret v w) :=
  Vc.pure_of (base_inl [47] (by kernel_rfl)) [] 200 Tryd.func11 (b := (Tryd.f11.body).getD .skip) (by kernel_rfl) [] ⟨0, 0, 0, 0, 0, 0, 0⟩ (Vc.envOf [] [] [] []) (by kernel_rfl) (by kernel_rfl) (by kernel_rfl) h

theorem vc_ullagelaw01_SpanCircle (x0 : Int) (w : World) (v : Value) (h : 
  ∃ (b0 : Bool), (∀ w' : World, Below w.heap.size w w' → Calls Tryd.prog 11 #[] w' (Vc.Ret (.bool b0) w')) ∧
  ∀ x1 : Int, x1 = IntKind.i64.wrap (0 - x0) →
  ∀ x2 : Int, x2 = IntKind.i64.wrap (0 - x0) →
  ∃ (x3 : Int), ∃ (x4 : Int), ∃ (x5 : Int), ∃ (x6 : Int), ∃ (x7 : Int), (∀ w' : World, Below w.heap.size w w' → Calls Tryd.prog 34 #[.agg #[.int .i64 x0, .int .i64 x0]] w' (Vc.Ret (.tuple #[.agg #[.int .i64 x3, .int .i64 x4], .agg #[.int .i64 x5, .int .i64 x6], .int .i64 x7]) w')) ∧
  ∃ (x8 : Int), ∃ (x9 : Int), ∃ (x10 : Int), ∃ (x11 : Int), ∃ (x12 : Int), (∀ w' : World, Below w.heap.size w w' → Calls Tryd.prog 34 #[.agg #[.int .i64 x1, .int .i64 x2]] w' (Vc.Ret (.tuple #[.agg #[.int .i64 x8, .int .i64 x9], .agg #[.int .i64 x10, .int .i64 x11], .int .i64 x12]) w')) ∧
  ((x0 < (-4294967296)) → (
  ((b0 = true) → (
  ((x7 = 4) → (
  (.bool true : Value) = v)) ∧ (¬ (x7 = 4) → (
  (.bool (x7 == 2) : Value) = v)))) ∧ (¬ (b0 = true) → (
  (.bool false : Value) = v)))) ∧ (¬ (x0 < (-4294967296)) → (
  ((4294967296 < x0) → (
  ((b0 = true) → (
  ((x7 = 4) → (
  (.bool true : Value) = v)) ∧ (¬ (x7 = 4) → (
  (.bool (x7 == 2) : Value) = v)))) ∧ (¬ (b0 = true) → (
  (.bool false : Value) = v)))) ∧ (¬ (4294967296 < x0) → (
  ∃ (x13 : Int), ∃ (x14 : Int), ∃ (x15 : Int), (∀ w' : World, Below w.heap.size w w' → Calls Tryd.prog 35 #[.agg #[.int .i64 x10, .int .i64 x11]] w' (Vc.Ret (.tuple #[.agg #[.int .i64 x13, .int .i64 x14], .int .i64 x15]) w')) ∧
  ∃ (x16 : Int), ∃ (x17 : Int), ∃ (x18 : Int), (∀ w' : World, Below w.heap.size w w' → Calls Tryd.prog 32 #[.agg #[.int .i64 x3, .int .i64 x4]] w' (Vc.Ret (.tuple #[.agg #[.int .i64 x16, .int .i64 x17], .int .i64 x18]) w')) ∧
  ∃ (x19 : Int), ∃ (x20 : Int), ∃ (x21 : Int), (∀ w' : World, Below w.heap.size w w' → Calls Tryd.prog 32 #[.agg #[.int .i64 x5, .int .i64 x6]] w' (Vc.Ret (.tuple #[.agg #[.int .i64 x19, .int .i64 x20], .int .i64 x21]) w')) ∧
  ∃ (x22 : Int), ∃ (x23 : Int), ∃ (x24 : Int), (∀ w' : World, Below w.heap.size w w' → Calls Tryd.prog 29 #[.agg #[.int .i64 x16, .int .i64 x17], .agg #[.int .i64 x19, .int .i64 x20]] w' (Vc.Ret (.tuple #[.agg #[.int .i64 x22, .int .i64 x23], .int .i64 x24]) w')) ∧
  ((b0 = true) → (
  ((x7 = 0) → (
  ((x12 = 0) → (
  ((x15 = 0) → (
  ((x18 = 0) → (
  ((x21 = 0) → (
  ((x24 = 0) → (
  (((x3 = x8) ∧ (x4 = x9)) → (
  (((x5 = x13) ∧ (x6 = x14)) → (
  ∃ (b1 : Bool), (∀ w' : World, Below w.heap.size w w' → Calls Tryd.prog 36 #[.agg #[.int .i64 x22, .int .i64 x23], .int .i64 4294967296] w' (Vc.Ret (.bool b1) w')) ∧
  (.bool b1 : Value) = v)) ∧ (¬ ((x5 = x13) ∧ (x6 = x14)) → (
  (.bool false : Value) = v)))) ∧ (¬ ((x3 = x8) ∧ (x4 = x9)) → (
  (.bool false : Value) = v)))) ∧ (¬ (x24 = 0) → (
  (.bool false : Value) = v)))) ∧ (¬ (x21 = 0) → (
  (.bool false : Value) = v)))) ∧ (¬ (x18 = 0) → (
  (.bool false : Value) = v)))) ∧ (¬ (x15 = 0) → (
  (.bool false : Value) = v)))) ∧ (¬ (x12 = 0) → (
  (.bool false : Value) = v)))) ∧ (¬ (x7 = 0) → (
  (.bool false : Value) = v)))) ∧ (¬ (b0 = true) → (
  (.bool false : Value) = v))))))) : Calls Tryd.prog 7 #[.int .i64 x0] w (Vc.Ret v w) :=
  Vc.pure_of base [] 200 Tryd.func7 (b := (Tryd.f7.body).getD .skip) (by kernel_rfl) [.cv (.one (.int .i64 (.var 0)))] ⟨1, 0, 0, 0, 0, 0, 0⟩ (Vc.envOf [x0] [] [] []) (by kernel_rfl) (by kernel_rfl) (by kernel_rfl) h

end Go.Proofs.YtndeppnboolfiaaDoor
