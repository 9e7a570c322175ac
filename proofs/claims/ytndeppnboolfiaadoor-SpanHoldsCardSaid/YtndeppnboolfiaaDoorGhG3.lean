/- What the walks of functions come to (written by program). -/
import Derived.Test.YtndeppnboolfiaaDoorGhG1
set_option linter.unusedVariables false
set_option maxRecDepth 100000
namespace Go.Proofs.YtndeppnboolfiaaDoor
open Go Go.RowKit
theorem vc_ullagelaw01_of (x0 x1 : Int) (w : World) (v : Value) (h : 
  ∀ x2 : Int, x2 = IntKind.i64.wrap (x0 * 4294967296) →
  ∀ x3 : Int, x3 = IntKind.i64.wrap (x1 * 4294967296) →
  (.agg #[.int .i64 x2, .int .i64 x3] : Value) = v) : Calls Tryd.prog 47 #[.int .i64 x0, .int .i64 x1] w (Vc.Ret v w) :=
  Vc.pure_of base [] 200 Tryd.func47 (b := (Tryd.f47.body).getD .skip) (by kernel_rfl) [.cv (.one (.int .i64 (.var 0))), .cv (.one (.int .i64 (.var 1)))] ⟨2, 0, 0, 0, 0, 0, 0⟩ (Vc.envOf [x0, x1] [] [] []) (by kernel_rfl) (by kernel_rfl) (by kernel_rfl) h

theorem vc_ullagelaw01_alive (w : World) (v : Value) (h : 
  ∃ (x0 : Int), ∃ (x1 : Int), ∃ (x2 : Int), (∀ w' : World, Below w.heap.size w w' → Calls Tryd.prog 12 #[.agg #[.int .i64 (-4294967296), .int .i64 8589934592], .agg #[.int .i64 12884901888, .int .i64 17179869184]] w' (Vc.Ret (.tuple #[.agg #[.int .i64 x0, .int .i64 x1], .int .i64 x2]) w')) ∧
  ∃ (x3 : Int), ∃ (x4 : Int), ∃ (x5 : Int), (∀ w' : World, Below w.heap.size w w' → Calls Tryd.prog 48 #[.int .i64 1, .int .i64 3] w' (Vc.Ret (.tuple #[.agg #[.int .i64 x3, .int .i64 x4], .int .i64 x5]) w')) ∧
  ∃ (x6 : Int), ∃ (x7 : Int), ∃ (x8 : Int), (∀ w' : World, Below w.heap.size w w' → Calls Tryd.prog 17 #[.agg #[.int .i64 (-38654705664), .int .i64 17179869184]] w' (Vc.Ret (.tuple #[.agg #[.int .i64 x6, .int .i64 x7], .int .i64 x8]) w')) ∧
  ((x2 = 0) → (
  ∃ (x9 : Int), ∃ (x10 : Int), (∀ w' : World, Below w.heap.size w w' → Calls Tryd.prog 47 #[.int .i64 (-4), .int .i64 8] w' (Vc.Ret (.agg #[.int .i64 x9, .int .i64 x10]) w')) ∧
  (((x0 = x9) ∧ (x1 = x10)) → (
  ((x5 = 0) → (
  (((x3 = 1431655765) ∧ (x4 = 1431655766)) → (
  ((x8 = 0) → (
  ∃ (x11 : Int), ∃ (x12 : Int), (∀ w' : World, Below w.heap.size w w' → Calls Tryd.prog 47 #[.int .i64 0, .int .i64 2] w' (Vc.Ret (.agg #[.int .i64 x11, .int .i64 x12]) w')) ∧
  (((x6 = x11) ∧ (x7 = x12)) → (
  ∃ (s0 : List UInt8), (∀ w' : World, Below w.heap.size w w' → Calls Tryd.prog 44 #[.int .i64 (-1073741824)] w' (Vc.Ret (.string ⟨s0.toArray⟩) w')) ∧
  (.bool (decide (s0 = ([45, 48, 46, 50, 53] : List UInt8))) : Value) = v)) ∧ (¬ ((x6 = x11) ∧ (x7 = x12)) → (
  (.bool false : Value) = v)))) ∧ (¬ (x8 = 0) → (
  (.bool false : Value) = v)))) ∧ (¬ ((x3 = 1431655765) ∧ (x4 = 1431655766)) → (
  (.bool false : Value) = v)))) ∧ (¬ (x5 = 0) → (
  (.bool false : Value) = v)))) ∧ (¬ ((x0 = x9) ∧ (x1 = x10)) → (
  (.bool false : Value) = v)))) ∧ (¬ (x2 = 0) → (
  (.bool false : Value) = v))) : Calls Tryd.prog 11 #[] w (Vc.Ret v w) :=
  Vc.pure_of (base_inl [47] (by kernel_rfl)) [] 200 Tryd.func11 (b := (Tryd.f11.body).getD .skip) (by kernel_rfl) [] ⟨0, 0, 0, 0, 0, 0, 0⟩ (Vc.envOf [] [] [] []) (by kernel_rfl) (by kernel_rfl) (by kernel_rfl) h

theorem vc_ullagelaw01_SpanHolds (x0 x1 x2 x3 x4 x5 : Int) (w : World) (v : Value) (h : 
  ∃ (b0 : Bool), (∀ w' : World, Below w.heap.size w w' → Calls Tryd.prog 11 #[] w' (Vc.Ret (.bool b0) w')) ∧
  ∃ (x6 : Int), (∀ w' : World, Below w.heap.size w w' → Calls Tryd.prog 19 #[.agg #[.int .i64 x0, .int .i64 x1]] w' (Vc.Ret (.int .i64 x6) w')) ∧
  ((x6 = 0) → (
  ∃ (x7 : Int), (∀ w' : World, Below w.heap.size w w' → Calls Tryd.prog 19 #[.agg #[.int .i64 x2, .int .i64 x3]] w' (Vc.Ret (.int .i64 x7) w')) ∧
  ((x7 = 0) → (
  ((b0 = true) → (
  ∃ (x8 : Int), (∀ w' : World, Below w.heap.size w w' → Calls Tryd.prog 28 #[.agg #[.int .i64 x0, .int .i64 x1], .int .u64 x4] w' (Vc.Ret (.int .i64 x8) w')) ∧
  ∃ (x9 : Int), (∀ w' : World, Below w.heap.size w w' → Calls Tryd.prog 28 #[.agg #[.int .i64 x2, .int .i64 x3], .int .u64 x5] w' (Vc.Ret (.int .i64 x9) w')) ∧
  ∃ (x10 : Int), ∃ (x11 : Int), ∃ (x12 : Int), (∀ w' : World, Below w.heap.size w w' → Calls Tryd.prog 29 #[.agg #[.int .i64 x0, .int .i64 x1], .agg #[.int .i64 x2, .int .i64 x3]] w' (Vc.Ret (.tuple #[.agg #[.int .i64 x10, .int .i64 x11], .int .i64 x12]) w')) ∧
  ∃ (x13 : Int), ∃ (x14 : Int), ∃ (x15 : Int), (∀ w' : World, Below w.heap.size w w' → Calls Tryd.prog 30 #[.agg #[.int .i64 x0, .int .i64 x1], .agg #[.int .i64 x2, .int .i64 x3]] w' (Vc.Ret (.tuple #[.agg #[.int .i64 x13, .int .i64 x14], .int .i64 x15]) w')) ∧
  ∃ (x16 : Int), ∃ (x17 : Int), ∃ (x18 : Int), (∀ w' : World, Below w.heap.size w w' → Calls Tryd.prog 12 #[.agg #[.int .i64 x0, .int .i64 x1], .agg #[.int .i64 x2, .int .i64 x3]] w' (Vc.Ret (.tuple #[.agg #[.int .i64 x16, .int .i64 x17], .int .i64 x18]) w')) ∧
  ∃ (x19 : Int), ∃ (x20 : Int), ∃ (x21 : Int), (∀ w' : World, Below w.heap.size w w' → Calls Tryd.prog 31 #[.agg #[.int .i64 x0, .int .i64 x1], .agg #[.int .i64 x2, .int .i64 x3]] w' (Vc.Ret (.tuple #[.agg #[.int .i64 x19, .int .i64 x20], .int .i64 x21]) w')) ∧
  ∃ (x22 : Int), ∃ (x23 : Int), ∃ (x24 : Int), (∀ w' : World, Below w.heap.size w w' → Calls Tryd.prog 32 #[.agg #[.int .i64 x0, .int .i64 x1]] w' (Vc.Ret (.tuple #[.agg #[.int .i64 x22, .int .i64 x23], .int .i64 x24]) w')) ∧
  ∃ (x25 : Int), ∃ (x26 : Int), ∃ (x27 : Int), (∀ w' : World, Below w.heap.size w w' → Calls Tryd.prog 17 #[.agg #[.int .i64 x0, .int .i64 x1]] w' (Vc.Ret (.tuple #[.agg #[.int .i64 x25, .int .i64 x26], .int .i64 x27]) w')) ∧
  ((x12 = 0) → (
  ∃ (x28 : Int), ∃ (x29 : Int), (∀ w' : World, Below w.heap.size w w' → Calls Tryd.prog 15 #[.int .i64 x8] w' (Vc.Ret (.agg #[.int .i64 x28, .int .u64 x29]) w')) ∧
  ∃ (x30 : Int), ∃ (x31 : Int), (∀ w' : World, Below w.heap.size w w' → Calls Tryd.prog 15 #[.int .i64 x9] w' (Vc.Ret (.agg #[.int .i64 x30, .int .u64 x31]) w')) ∧
  ∃ (x32 : Int), ∃ (x33 : Int), (∀ w' : World, Below w.heap.size w w' → Calls Tryd.prog 14 #[.agg #[.int .i64 x28, .int .u64 x29], .agg #[.int .i64 x30, .int .u64 x31]] w' (Vc.Ret (.agg #[.int .i64 x32, .int .u64 x33]) w')) ∧
  ∃ (b1 : Bool), (∀ w' : World, Below w.heap.size w w' → Calls Tryd.prog 33 #[.agg #[.int .i64 x32, .int .u64 x33], .int .i64 x10, .int .i64 x11, .int .i64 1] w' (Vc.Ret (.bool b1) w')) ∧
  ((b1 = true) → (
  ((x15 = 0) → (
  ∃ (x34 : Int), ∃ (x35 : Int), (∀ w' : World, Below w.heap.size w w' → Calls Tryd.prog 15 #[.int .i64 x8] w' (Vc.Ret (.agg #[.int .i64 x34, .int .u64 x35]) w')) ∧
  ∀ x36 : Int, x36 = IntKind.i64.wrap (0 - x9) →
  ∃ (x37 : Int), ∃ (x38 : Int), (∀ w' : World, Below w.heap.size w w' → Calls Tryd.prog 15 #[.int .i64 x36] w' (Vc.Ret (.agg #[.int .i64 x37, .int .u64 x38]) w')) ∧
  ∃ (x39 : Int), ∃ (x40 : Int), (∀ w' : World, Below w.heap.size w w' → Calls Tryd.prog 14 #[.agg #[.int .i64 x34, .int .u64 x35], .agg #[.int .i64 x37, .int .u64 x38]] w' (Vc.Ret (.agg #[.int .i64 x39, .int .u64 x40]) w')) ∧
  ∃ (b2 : Bool), (∀ w' : World, Below w.heap.size w w' → Calls Tryd.prog 33 #[.agg #[.int .i64 x39, .int .u64 x40], .int .i64 x13, .int .i64 x14, .int .i64 1] w' (Vc.Ret (.bool b2) w')) ∧
  ((b2 = true) → (
  ((x18 = 0) → (
  ∃ (x41 : Int), ∃ (x42 : Int), (∀ w' : World, Below w.heap.size w w' → Calls Tryd.prog 13 #[.int .i64 x8, .int .i64 x9] w' (Vc.Ret (.agg #[.int .i64 x41, .int .u64 x42]) w')) ∧
  ∃ (b3 : Bool), (∀ w' : World, Below w.heap.size w w' → Calls Tryd.prog 33 #[.agg #[.int .i64 x41, .int .u64 x42], .int .i64 x16, .int .i64 x17, .int .i64 4294967296] w' (Vc.Ret (.bool b3) w')) ∧
  ((b3 = true) → (
  ((x24 = 0) → (
  ∃ (x43 : Int), ∃ (x44 : Int), (∀ w' : World, Below w.heap.size w w' → Calls Tryd.prog 13 #[.int .i64 x8, .int .i64 x8] w' (Vc.Ret (.agg #[.int .i64 x43, .int .u64 x44]) w')) ∧
  ∃ (b4 : Bool), (∀ w' : World, Below w.heap.size w w' → Calls Tryd.prog 33 #[.agg #[.int .i64 x43, .int .u64 x44], .int .i64 x22, .int .i64 x23, .int .i64 4294967296] w' (Vc.Ret (.bool b4) w')) ∧
  ((b4 = true) → (
  ((x21 = 0) → (
  ∃ (x45 : Int), ∃ (x46 : Int), (∀ w' : World, Below w.heap.size w w' → Calls Tryd.prog 15 #[.int .i64 x8] w' (Vc.Ret (.agg #[.int .i64 x45, .int .u64 x46]) w')) ∧
  ∃ (x47 : Int), ∃ (x48 : Int), (∀ w' : World, Below w.heap.size w w' → Calls Tryd.prog 18 #[.agg #[.int .i64 x45, .int .u64 x46], .int .i64 32] w' (Vc.Ret (.agg #[.int .i64 x47, .int .u64 x48]) w')) ∧
  ((x9 < 0) → (
  ∀ x49 : Int, x49 = IntKind.i64.wrap (0 - x20) →
  ∀ x50 : Int, x50 = IntKind.i64.wrap (0 - x19) →
  ∀ x51 : Int, x51 = IntKind.i64.wrap (0 - x9) →
  ∃ (b5 : Bool), (∀ w' : World, Below w.heap.size w w' → Calls Tryd.prog 33 #[.agg #[.int .i64 x47, .int .u64 x48], .int .i64 x49, .int .i64 x50, .int .i64 x51] w' (Vc.Ret (.bool b5) w')) ∧
  ((b5 = true) → (
  ((x27 = 0) → (
  ((x8 < 0) → (
  (.bool b0 : Value) = v)) ∧ (¬ (x8 < 0) → (
  ∃ (x52 : Int), ∃ (x53 : Int), (∀ w' : World, Below w.heap.size w w' → Calls Tryd.prog 15 #[.int .i64 x8] w' (Vc.Ret (.agg #[.int .i64 x52, .int .u64 x53]) w')) ∧
  ∃ (x54 : Int), ∃ (x55 : Int), (∀ w' : World, Below w.heap.size w w' → Calls Tryd.prog 18 #[.agg #[.int .i64 x52, .int .u64 x53], .int .i64 32] w' (Vc.Ret (.agg #[.int .i64 x54, .int .u64 x55]) w')) ∧
  ∃ (x56 : Int), ∃ (x57 : Int), (∀ w' : World, Below w.heap.size w w' → Calls Tryd.prog 13 #[.int .i64 x25, .int .i64 x25] w' (Vc.Ret (.agg #[.int .i64 x56, .int .u64 x57]) w')) ∧
  ∃ (b6 : Bool), (∀ w' : World, Below w.heap.size w w' → Calls Tryd.prog 16 #[.agg #[.int .i64 x54, .int .u64 x55], .agg #[.int .i64 x56, .int .u64 x57]] w' (Vc.Ret (.bool b6) w')) ∧
  ∃ (x58 : Int), ∃ (x59 : Int), (∀ w' : World, Below w.heap.size w w' → Calls Tryd.prog 13 #[.int .i64 x26, .int .i64 x26] w' (Vc.Ret (.agg #[.int .i64 x58, .int .u64 x59]) w')) ∧
  ∃ (b7 : Bool), (∀ w' : World, Below w.heap.size w w' → Calls Tryd.prog 16 #[.agg #[.int .i64 x58, .int .u64 x59], .agg #[.int .i64 x54, .int .u64 x55]] w' (Vc.Ret (.bool b7) w')) ∧
  ((b0 = true) → (
  ((b6 = true) → (
  (.bool false : Value) = v)) ∧ (¬ (b6 = true) → (
  (.bool (!b7) : Value) = v)))) ∧ (¬ (b0 = true) → (
  (.bool false : Value) = v)))))) ∧ (¬ (x27 = 0) → (
  (.bool b0 : Value) = v)))) ∧ (¬ (b5 = true) → (
  (.bool false : Value) = v)))) ∧ (¬ (x9 < 0) → (
  ∃ (b5 : Bool), (∀ w' : World, Below w.heap.size w w' → Calls Tryd.prog 33 #[.agg #[.int .i64 x47, .int .u64 x48], .int .i64 x19, .int .i64 x20, .int .i64 x9] w' (Vc.Ret (.bool b5) w')) ∧
  ((b5 = true) → (
  ((x27 = 0) → (
  ((x8 < 0) → (
  (.bool b0 : Value) = v)) ∧ (¬ (x8 < 0) → (
  ∃ (x49 : Int), ∃ (x50 : Int), (∀ w' : World, Below w.heap.size w w' → Calls Tryd.prog 15 #[.int .i64 x8] w' (Vc.Ret (.agg #[.int .i64 x49, .int .u64 x50]) w')) ∧
  ∃ (x51 : Int), ∃ (x52 : Int), (∀ w' : World, Below w.heap.size w w' → Calls Tryd.prog 18 #[.agg #[.int .i64 x49, .int .u64 x50], .int .i64 32] w' (Vc.Ret (.agg #[.int .i64 x51, .int .u64 x52]) w')) ∧
  ∃ (x53 : Int), ∃ (x54 : Int), (∀ w' : World, Below w.heap.size w w' → Calls Tryd.prog 13 #[.int .i64 x25, .int .i64 x25] w' (Vc.Ret (.agg #[.int .i64 x53, .int .u64 x54]) w')) ∧
  ∃ (b6 : Bool), (∀ w' : World, Below w.heap.size w w' → Calls Tryd.prog 16 #[.agg #[.int .i64 x51, .int .u64 x52], .agg #[.int .i64 x53, .int .u64 x54]] w' (Vc.Ret (.bool b6) w')) ∧
  ∃ (x55 : Int), ∃ (x56 : Int), (∀ w' : World, Below w.heap.size w w' → Calls Tryd.prog 13 #[.int .i64 x26, .int .i64 x26] w' (Vc.Ret (.agg #[.int .i64 x55, .int .u64 x56]) w')) ∧
  ∃ (b7 : Bool), (∀ w' : World, Below w.heap.size w w' → Calls Tryd.prog 16 #[.agg #[.int .i64 x55, .int .u64 x56], .agg #[.int .i64 x51, .int .u64 x52]] w' (Vc.Ret (.bool b7) w')) ∧
  ((b0 = true) → (
  ((b6 = true) → (
  (.bool false : Value) = v)) ∧ (¬ (b6 = true) → (
  (.bool (!b7) : Value) = v)))) ∧ (¬ (b0 = true) → (
  (.bool false : Value) = v)))))) ∧ (¬ (x27 = 0) → (
  (.bool b0 : Value) = v)))) ∧ (¬ (b5 = true) → (
  (.bool false : Value) = v)))))) ∧ (¬ (x21 = 0) → (
  ((x27 = 0) → (
  ((x8 < 0) → (
  (.bool b0 : Value) = v)) ∧ (¬ (x8 < 0) → (
  ∃ (x45 : Int), ∃ (x46 : Int), (∀ w' : World, Below w.heap.size w w' → Calls Tryd.prog 15 #[.int .i64 x8] w' (Vc.Ret (.agg #[.int .i64 x45, .int .u64 x46]) w')) ∧
  ∃ (x47 : Int), ∃ (x48 : Int), (∀ w' : World, Below w.heap.size w w' → Calls Tryd.prog 18 #[.agg #[.int .i64 x45, .int .u64 x46], .int .i64 32] w' (Vc.Ret (.agg #[.int .i64 x47, .int .u64 x48]) w')) ∧
  ∃ (x49 : Int), ∃ (x50 : Int), (∀ w' : World, Below w.heap.size w w' → Calls Tryd.prog 13 #[.int .i64 x25, .int .i64 x25] w' (Vc.Ret (.agg #[.int .i64 x49, .int .u64 x50]) w')) ∧
  ∃ (b5 : Bool), (∀ w' : World, Below w.heap.size w w' → Calls Tryd.prog 16 #[.agg #[.int .i64 x47, .int .u64 x48], .agg #[.int .i64 x49, .int .u64 x50]] w' (Vc.Ret (.bool b5) w')) ∧
  ∃ (x51 : Int), ∃ (x52 : Int), (∀ w' : World, Below w.heap.size w w' → Calls Tryd.prog 13 #[.int .i64 x26, .int .i64 x26] w' (Vc.Ret (.agg #[.int .i64 x51, .int .u64 x52]) w')) ∧
  ∃ (b6 : Bool), (∀ w' : World, Below w.heap.size w w' → Calls Tryd.prog 16 #[.agg #[.int .i64 x51, .int .u64 x52], .agg #[.int .i64 x47, .int .u64 x48]] w' (Vc.Ret (.bool b6) w')) ∧
  ((b0 = true) → (
  ((b5 = true) → (
  (.bool false : Value) = v)) ∧ (¬ (b5 = true) → (
  (.bool (!b6) : Value) = v)))) ∧ (¬ (b0 = true) → (
  (.bool false : Value) = v)))))) ∧ (¬ (x27 = 0) → (
  (.bool b0 : Value) = v)))))) ∧ (¬ (b4 = true) → (
  (.bool false : Value) = v)))) ∧ (¬ (x24 = 0) → (
  ((x21 = 0) → (
  ∃ (x43 : Int), ∃ (x44 : Int), (∀ w' : World, Below w.heap.size w w' → Calls Tryd.prog 15 #[.int .i64 x8] w' (Vc.Ret (.agg #[.int .i64 x43, .int .u64 x44]) w')) ∧
  ∃ (x45 : Int), ∃ (x46 : Int), (∀ w' : World, Below w.heap.size w w' → Calls Tryd.prog 18 #[.agg #[.int .i64 x43, .int .u64 x44], .int .i64 32] w' (Vc.Ret (.agg #[.int .i64 x45, .int .u64 x46]) w')) ∧
  ((x9 < 0) → (
  ∀ x47 : Int, x47 = IntKind.i64.wrap (0 - x20) →
  ∀ x48 : Int, x48 = IntKind.i64.wrap (0 - x19) →
  ∀ x49 : Int, x49 = IntKind.i64.wrap (0 - x9) →
  ∃ (b4 : Bool), (∀ w' : World, Below w.heap.size w w' → Calls Tryd.prog 33 #[.agg #[.int .i64 x45, .int .u64 x46], .int .i64 x47, .int .i64 x48, .int .i64 x49] w' (Vc.Ret (.bool b4) w')) ∧
  ((b4 = true) → (
  ((x27 = 0) → (
  ((x8 < 0) → (
  (.bool b0 : Value) = v)) ∧ (¬ (x8 < 0) → (
  ∃ (x50 : Int), ∃ (x51 : Int), (∀ w' : World, Below w.heap.size w w' → Calls Tryd.prog 15 #[.int .i64 x8] w' (Vc.Ret (.agg #[.int .i64 x50, .int .u64 x51]) w')) ∧
  ∃ (x52 : Int), ∃ (x53 : Int), (∀ w' : World, Below w.heap.size w w' → Calls Tryd.prog 18 #[.agg #[.int .i64 x50, .int .u64 x51], .int .i64 32] w' (Vc.Ret (.agg #[.int .i64 x52, .int .u64 x53]) w')) ∧
  ∃ (x54 : Int), ∃ (x55 : Int), (∀ w' : World, Below w.heap.size w w' → Calls Tryd.prog 13 #[.int .i64 x25, .int .i64 x25] w' (Vc.Ret (.agg #[.int .i64 x54, .int .u64 x55]) w')) ∧
  ∃ (b5 : Bool), (∀ w' : World, Below w.heap.size w w' → Calls Tryd.prog 16 #[.agg #[.int .i64 x52, .int .u64 x53], .agg #[.int .i64 x54, .int .u64 x55]] w' (Vc.Ret (.bool b5) w')) ∧
  ∃ (x56 : Int), ∃ (x57 : Int), (∀ w' : World, Below w.heap.size w w' → Calls Tryd.prog 13 #[.int .i64 x26, .int .i64 x26] w' (Vc.Ret (.agg #[.int .i64 x56, .int .u64 x57]) w')) ∧
  ∃ (b6 : Bool), (∀ w' : World, Below w.heap.size w w' → Calls Tryd.prog 16 #[.agg #[.int .i64 x56, .int .u64 x57], .agg #[.int .i64 x52, .int .u64 x53]] w' (Vc.Ret (.bool b6) w')) ∧
  ((b0 = true) → (
  ((b5 = true) → (
  (.bool false : Value) = v)) ∧ (¬ (b5 = true) → (
  (.bool (!b6) : Value) = v)))) ∧ (¬ (b0 = true) → (
  (.bool false : Value) = v)))))) ∧ (¬ (x27 = 0) → (
  (.bool b0 : Value) = v)))) ∧ (¬ (b4 = true) → (
  (.bool false : Value) = v)))) ∧ (¬ (x9 < 0) → (
  ∃ (b4 : Bool), (∀ w' : World, Below w.heap.size w w' → Calls Tryd.prog 33 #[.agg #[.int .i64 x45, .int .u64 x46], .int .i64 x19, .int .i64 x20, .int .i64 x9] w' (Vc.Ret (.bool b4) w')) ∧
  ((b4 = true) → (
  ((x27 = 0) → (
  ((x8 < 0) → (
  (.bool b0 : Value) = v)) ∧ (¬ (x8 < 0) → (
  ∃ (x47 : Int), ∃ (x48 : Int), (∀ w' : World, Below w.heap.size w w' → Calls Tryd.prog 15 #[.int .i64 x8] w' (Vc.Ret (.agg #[.int .i64 x47, .int .u64 x48]) w')) ∧
  ∃ (x49 : Int), ∃ (x50 : Int), (∀ w' : World, Below w.heap.size w w' → Calls Tryd.prog 18 #[.agg #[.int .i64 x47, .int .u64 x48], .int .i64 32] w' (Vc.Ret (.agg #[.int .i64 x49, .int .u64 x50]) w')) ∧
  ∃ (x51 : Int), ∃ (x52 : Int), (∀ w' : World, Below w.heap.size w w' → Calls Tryd.prog 13 #[.int .i64 x25, .int .i64 x25] w' (Vc.Ret (.agg #[.int .i64 x51, .int .u64 x52]) w')) ∧
  ∃ (b5 : Bool), (∀ w' : World, Below w.heap.size w w' → Calls Tryd.prog 16 #[.agg #[.int .i64 x49, .int .u64 x50], .agg #[.int .i64 x51, .int .u64 x52]] w' (Vc.Ret (.bool b5) w')) ∧
  ∃ (x53 : Int), ∃ (x54 : Int), (∀ w' : World, Below w.heap.size w w' → Calls Tryd.prog 13 #[.int .i64 x26, .int .i64 x26] w' (Vc.Ret (.agg #[.int .i64 x53, .int .u64 x54]) w')) ∧
  ∃ (b6 : Bool), (∀ w' : World, Below w.heap.size w w' → Calls Tryd.prog 16 #[.agg #[.int .i64 x53, .int .u64 x54], .agg #[.int .i64 x49, .int .u64 x50]] w' (Vc.Ret (.bool b6) w')) ∧
  ((b0 = true) → (
  ((b5 = true) → (
  (.bool false : Value) = v)) ∧ (¬ (b5 = true) → (
  (.bool (!b6) : Value) = v)))) ∧ (¬ (b0 = true) → (
  (.bool false : Value) = v)))))) ∧ (¬ (x27 = 0) → (
  (.bool b0 : Value) = v)))) ∧ (¬ (b4 = true) → (
  (.bool false : Value) = v)))))) ∧ (¬ (x21 = 0) → (
  ((x27 = 0) → (
  ((x8 < 0) → (
  (.bool b0 : Value) = v)) ∧ (¬ (x8 < 0) → (
  ∃ (x43 : Int), ∃ (x44 : Int), (∀ w' : World, Below w.heap.size w w' → Calls Tryd.prog 15 #[.int .i64 x8] w' (Vc.Ret (.agg #[.int .i64 x43, .int .u64 x44]) w')) ∧
  ∃ (x45 : Int), ∃ (x46 : Int), (∀ w' : World, Below w.heap.size w w' → Calls Tryd.prog 18 #[.agg #[.int .i64 x43, .int .u64 x44], .int .i64 32] w' (Vc.Ret (.agg #[.int .i64 x45, .int .u64 x46]) w')) ∧
  ∃ (x47 : Int), ∃ (x48 : Int), (∀ w' : World, Below w.heap.size w w' → Calls Tryd.prog 13 #[.int .i64 x25, .int .i64 x25] w' (Vc.Ret (.agg #[.int .i64 x47, .int .u64 x48]) w')) ∧
  ∃ (b4 : Bool), (∀ w' : World, Below w.heap.size w w' → Calls Tryd.prog 16 #[.agg #[.int .i64 x45, .int .u64 x46], .agg #[.int .i64 x47, .int .u64 x48]] w' (Vc.Ret (.bool b4) w')) ∧
  ∃ (x49 : Int), ∃ (x50 : Int), (∀ w' : World, Below w.heap.size w w' → Calls Tryd.prog 13 #[.int .i64 x26, .int .i64 x26] w' (Vc.Ret (.agg #[.int .i64 x49, .int .u64 x50]) w')) ∧
  ∃ (b5 : Bool), (∀ w' : World, Below w.heap.size w w' → Calls Tryd.prog 16 #[.agg #[.int .i64 x49, .int .u64 x50], .agg #[.int .i64 x45, .int .u64 x46]] w' (Vc.Ret (.bool b5) w')) ∧
  ((b0 = true) → (
  ((b4 = true) → (
  (.bool false : Value) = v)) ∧ (¬ (b4 = true) → (
  (.bool (!b5) : Value) = v)))) ∧ (¬ (b0 = true) → (
  (.bool false : Value) = v)))))) ∧ (¬ (x27 = 0) → (
  (.bool b0 : Value) = v)))))))) ∧ (¬ (b3 = true) → (
  (.bool false : Value) = v)))) ∧ (¬ (x18 = 0) → (
  ((x24 = 0) → (
  ∃ (x41 : Int), ∃ (x42 : Int), (∀ w' : World, Below w.heap.size w w' → Calls Tryd.prog 13 #[.int .i64 x8, .int .i64 x8] w' (Vc.Ret (.agg #[.int .i64 x41, .int .u64 x42]) w')) ∧
  ∃ (b3 : Bool), (∀ w' : World, Below w.heap.size w w' → Calls Tryd.prog 33 #[.agg #[.int .i64 x41, .int .u64 x42], .int .i64 x22, .int .i64 x23, .int .i64 4294967296] w' (Vc.Ret (.bool b3) w')) ∧
  ((b3 = true) → (
  ((x21 = 0) → (
  ∃ (x43 : Int), ∃ (x44 : Int), (∀ w' : World, Below w.heap.size w w' → Calls Tryd.prog 15 #[.int .i64 x8] w' (Vc.Ret (.agg #[.int .i64 x43, .int .u64 x44]) w')) ∧
  ∃ (x45 : Int), ∃ (x46 : Int), (∀ w' : World, Below w.heap.size w w' → Calls Tryd.prog 18 #[.agg #[.int .i64 x43, .int .u64 x44], .int .i64 32] w' (Vc.Ret (.agg #[.int .i64 x45, .int .u64 x46]) w')) ∧
  ((x9 < 0) → (
  ∀ x47 : Int, x47 = IntKind.i64.wrap (0 - x20) →
  ∀ x48 : Int, x48 = IntKind.i64.wrap (0 - x19) →
  ∀ x49 : Int, x49 = IntKind.i64.wrap (0 - x9) →
  ∃ (b4 : Bool), (∀ w' : World, Below w.heap.size w w' → Calls Tryd.prog 33 #[.agg #[.int .i64 x45, .int .u64 x46], .int .i64 x47, .int .i64 x48, .int .i64 x49] w' (Vc.Ret (.bool b4) w')) ∧
  ((b4 = true) → (
  ((x27 = 0) → (
  ((x8 < 0) → (
  (.bool b0 : Value) = v)) ∧ (¬ (x8 < 0) → (
  ∃ (x50 : Int), ∃ (x51 : Int), (∀ w' : World, Below w.heap.size w w' → Calls Tryd.prog 15 #[.int .i64 x8] w' (Vc.Ret (.agg #[.int .i64 x50, .int .u64 x51]) w')) ∧
  ∃ (x52 : Int), ∃ (x53 : Int), (∀ w' : World, Below w.heap.size w w' → Calls Tryd.prog 18 #[.agg #[.int .i64 x50, .int .u64 x51], .int .i64 32] w' (Vc.Ret (.agg #[.int .i64 x52, .int .u64 x53]) w')) ∧
  ∃ (x54 : Int), ∃ (x55 : Int), (∀ w' : World, Below w.heap.size w w' → Calls Tryd.prog 13 #[.int .i64 x25, .int .i64 x25] w' (Vc.Ret (.agg #[.int .i64 x54, .int .u64 x55]) w')) ∧
  ∃ (b5 : Bool), (∀ w' : World, Below w.heap.size w w' → Calls Tryd.prog 16 #[.agg #[.int .i64 x52, .int .u64 x53], .agg #[.int .i64 x54, .int .u64 x55]] w' (Vc.Ret (.bool b5) w')) ∧
  ∃ (x56 : Int), ∃ (x57 : Int), (∀ w' : World, Below w.heap.size w w' → Calls Tryd.prog 13 #[.int .i64 x26, .int .i64 x26] w' (Vc.Ret (.agg #[.int .i64 x56, .int .u64 x57]) w')) ∧
  ∃ (b6 : Bool), (∀ w' : World, Below w.heap.size w w' → Calls Tryd.prog 16 #[.agg #[.int .i64 x56, .int .u64 x57], .agg #[.int .i64 x52, .int .u64 x53]] w' (Vc.Ret (.bool b6) w')) ∧
  ((b0 = true) → (
  ((b5 = true) → (
  (.bool false : Value) = v)) ∧ (¬ (b5 = true) → (
  (.bool (!b6) : Value) = v)))) ∧ (¬ (b0 = true) → (
  (.bool false : Value) = v)))))) ∧ (¬ (x27 = 0) → (
  (.bool b0 : Value) = v)))) ∧ (¬ (b4 = true) → (
  (.bool false : Value) = v)))) ∧ (¬ (x9 < 0) → (
  ∃ (b4 : Bool), (∀ w' : World, Below w.heap.size w w' → Calls Tryd.prog 33 #[.agg #[.int .i64 x45, .int .u64 x46], .int .i64 x19, .int .i64 x20, .int .i64 x9] w' (Vc.Ret (.bool b4) w')) ∧
  ((b4 = true) → (
  ((x27 = 0) → (
  ((x8 < 0) → (
  (.bool b0 : Value) = v)) ∧ (¬ (x8 < 0) → (
  ∃ (x47 : Int), ∃ (x48 : Int), (∀ w' : World, Below w.heap.size w w' → Calls Tryd.prog 15 #[.int .i64 x8] w' (Vc.Ret (.agg #[.int .i64 x47, .int .u64 x48]) w')) ∧
  ∃ (x49 : Int), ∃ (x50 : Int), (∀ w' : World, Below w.heap.size w w' → Calls Tryd.prog 18 #[.agg #[.int .i64 x47, .int .u64 x48], .int .i64 32] w' (Vc.Ret (.agg #[.int .i64 x49, .int .u64 x50]) w')) ∧
  ∃ (x51 : Int), ∃ (x52 : Int), (∀ w' : World, Below w.heap.size w w' → Calls Tryd.prog 13 #[.int .i64 x25, .int .i64 x25] w' (Vc.Ret (.agg #[.int .i64 x51, .int .u64 x52]) w')) ∧
  ∃ (b5 : Bool), (∀ w' : World, Below w.heap.size w w' → Calls Tryd.prog 16 #[.agg #[.int .i64 x49, .int .u64 x50], .agg #[.int .i64 x51, .int .u64 x52]] w' (Vc.Ret (.bool b5) w')) ∧
  ∃ (x53 : Int), ∃ (x54 : Int), (∀ w' : World, Below w.heap.size w w' → Calls Tryd.prog 13 #[.int .i64 x26, .int .i64 x26] w' (Vc.Ret (.agg #[.int .i64 x53, .int .u64 x54]) w')) ∧
  ∃ (b6 : Bool), (∀ w' : World, Below w.heap.size w w' → Calls Tryd.prog 16 #[.agg #[.int .i64 x53, .int .u64 x54], .agg #[.int .i64 x49, .int .u64 x50]] w' (Vc.Ret (.bool b6) w')) ∧
  ((b0 = true) → (
  ((b5 = true) → (
  (.bool false : Value) = v)) ∧ (¬ (b5 = true) → (
  (.bool (!b6) : Value) = v)))) ∧ (¬ (b0 = true) → (
  (.bool false : Value) = v)))))) ∧ (¬ (x27 = 0) → (
  (.bool b0 : Value) = v)))) ∧ (¬ (b4 = true) → (
  (.bool false : Value) = v)))))) ∧ (¬ (x21 = 0) → (
  ((x27 = 0) → (
  ((x8 < 0) → (
  (.bool b0 : Value) = v)) ∧ (¬ (x8 < 0) → (
  ∃ (x43 : Int), ∃ (x44 : Int), (∀ w' : World, Below w.heap.size w w' → Calls Tryd.prog 15 #[.int .i64 x8] w' (Vc.Ret (.agg #[.int .i64 x43, .int .u64 x44]) w')) ∧
  ∃ (x45 : Int), ∃ (x46 : Int), (∀ w' : World, Below w.heap.size w w' → Calls Tryd.prog 18 #[.agg #[.int .i64 x43, .int .u64 x44], .int .i64 32] w' (Vc.Ret (.agg #[.int .i64 x45, .int .u64 x46]) w')) ∧
  ∃ (x47 : Int), ∃ (x48 : Int), (∀ w' : World, Below w.heap.size w w' → Calls Tryd.prog 13 #[.int .i64 x25, .int .i64 x25] w' (Vc.Ret (.agg #[.int .i64 x47, .int .u64 x48]) w')) ∧
  ∃ (b4 : Bool), (∀ w' : World, Below w.heap.size w w' → Calls Tryd.prog 16 #[.agg #[.int .i64 x45, .int .u64 x46], .agg #[.int .i64 x47, .int .u64 x48]] w' (Vc.Ret (.bool b4) w')) ∧
  ∃ (x49 : Int), ∃ (x50 : Int), (∀ w' : World, Below w.heap.size w w' → Calls Tryd.prog 13 #[.int .i64 x26, .int .i64 x26] w' (Vc.Ret (.agg #[.int .i64 x49, .int .u64 x50]) w')) ∧
  ∃ (b5 : Bool), (∀ w' : World, Below w.heap.size w w' → Calls Tryd.prog 16 #[.agg #[.int .i64 x49, .int .u64 x50], .agg #[.int .i64 x45, .int .u64 x46]] w' (Vc.Ret (.bool b5) w')) ∧
  ((b0 = true) → (
  ((b4 = true) → (
  (.bool false : Value) = v)) ∧ (¬ (b4 = true) → (
  (.bool (!b5) : Value) = v)))) ∧ (¬ (b0 = true) → (
  (.bool false : Value) = v)))))) ∧ (¬ (x27 = 0) → (
  (.bool b0 : Value) = v)))))) ∧ (¬ (b3 = true) → (
  (.bool false : Value) = v)))) ∧ (¬ (x24 = 0) → (
  ((x21 = 0) → (
  ∃ (x41 : Int), ∃ (x42 : Int), (∀ w' : World, Below w.heap.size w w' → Calls Tryd.prog 15 #[.int .i64 x8] w' (Vc.Ret (.agg #[.int .i64 x41, .int .u64 x42]) w')) ∧
  ∃ (x43 : Int), ∃ (x44 : Int), (∀ w' : World, Below w.heap.size w w' → Calls Tryd.prog 18 #[.agg #[.int .i64 x41, .int .u64 x42], .int .i64 32] w' (Vc.Ret (.agg #[.int .i64 x43, .int .u64 x44]) w')) ∧
  ((x9 < 0) → (
  ∀ x45 : Int, x45 = IntKind.i64.wrap (0 - x20) →
  ∀ x46 : Int, x46 = IntKind.i64.wrap (0 - x19) →
  ∀ x47 : Int, x47 = IntKind.i64.wrap (0 - x9) →
  ∃ (b3 : Bool), (∀ w' : World, Below w.heap.size w w' → Calls Tryd.prog 33 #[.agg #[.int .i64 x43, .int .u64 x44], .int .i64 x45, .int .i64 x46, .int .i64 x47] w' (Vc.Ret (.bool b3) w')) ∧
  ((b3 = true) → (
  ((x27 = 0) → (
  ((x8 < 0) → (
  (.bool b0 : Value) = v)) ∧ (¬ (x8 < 0) → (
  ∃ (x48 : Int), ∃ (x49 : Int), (∀ w' : World, Below w.heap.size w w' → Calls Tryd.prog 15 #[.int .i64 x8] w' (Vc.Ret (.agg #[.int .i64 x48, .int .u64 x49]) w')) ∧
  ∃ (x50 : Int), ∃ (x51 : Int), (∀ w' : World, Below w.heap.size w w' → Calls Tryd.prog 18 #[.agg #[.int .i64 x48, .int .u64 x49], .int .i64 32] w' (Vc.Ret (.agg #[.int .i64 x50, .int .u64 x51]) w')) ∧
  ∃ (x52 : Int), ∃ (x53 : Int), (∀ w' : World, Below w.heap.size w w' → Calls Tryd.prog 13 #[.int .i64 x25, .int .i64 x25] w' (Vc.Ret (.agg #[.int .i64 x52, .int .u64 x53]) w')) ∧
  ∃ (b4 : Bool), (∀ w' : World, Below w.heap.size w w' → Calls Tryd.prog 16 #[.agg #[.int .i64 x50, .int .u64 x51], .agg #[.int .i64 x52, .int .u64 x53]] w' (Vc.Ret (.bool b4) w')) ∧
  ∃ (x54 : Int), ∃ (x55 : Int), (∀ w' : World, Below w.heap.size w w' → Calls Tryd.prog 13 #[.int .i64 x26, .int .i64 x26] w' (Vc.Ret (.agg #[.int .i64 x54, .int .u64 x55]) w')) ∧
  ∃ (b5 : Bool), (∀ w' : World, Below w.heap.size w w' → Calls Tryd.prog 16 #[.agg #[.int .i64 x54, .int .u64 x55], .agg #[.int .i64 x50, .int .u64 x51]] w' (Vc.Ret (.bool b5) w')) ∧
  ((b0 = true) → (
  ((b4 = true) → (
  (.bool false : Value) = v)) ∧ (¬ (b4 = true) → (
  (.bool (!b5) : Value) = v)))) ∧ (¬ (b0 = true) → (
  (.bool false : Value) = v)))))) ∧ (¬ (x27 = 0) → (
  (.bool b0 : Value) = v)))) ∧ (¬ (b3 = true) → (
  (.bool false : Value) = v)))) ∧ (¬ (x9 < 0) → (
  ∃ (b3 : Bool), (∀ w' : World, Below w.heap.size w w' → Calls Tryd.prog 33 #[.agg #[.int .i64 x43, .int .u64 x44], .int .i64 x19, .int .i64 x20, .int .i64 x9] w' (Vc.Ret (.bool b3) w')) ∧
  ((b3 = true) → (
  ((x27 = 0) → (
  ((x8 < 0) → (
  (.bool b0 : Value) = v)) ∧ (¬ (x8 < 0) → (
  ∃ (x45 : Int), ∃ (x46 : Int), (∀ w' : World, Below w.heap.size w w' → Calls Tryd.prog 15 #[.int .i64 x8] w' (Vc.Ret (.agg #[.int .i64 x45, .int .u64 x46]) w')) ∧
  ∃ (x47 : Int), ∃ (x48 : Int), (∀ w' : World, Below w.heap.size w w' → Calls Tryd.prog 18 #[.agg #[.int .i64 x45, .int .u64 x46], .int .i64 32] w' (Vc.Ret (.agg #[.int .i64 x47, .int .u64 x48]) w')) ∧
  ∃ (x49 : Int), ∃ (x50 : Int), (∀ w' : World, Below w.heap.size w w' → Calls Tryd.prog 13 #[.int .i64 x25, .int .i64 x25] w' (Vc.Ret (.agg #[.int .i64 x49, .int .u64 x50]) w')) ∧
  ∃ (b4 : Bool), (∀ w' : World, Below w.heap.size w w' → Calls Tryd.prog 16 #[.agg #[.int .i64 x47, .int .u64 x48], .agg #[.int .i64 x49, .int .u64 x50]] w' (Vc.Ret (.bool b4) w')) ∧
  ∃ (x51 : Int), ∃ (x52 : Int), (∀ w' : World, Below w.heap.size w w' → Calls Tryd.prog 13 #[.int .i64 x26, .int .i64 x26] w' (Vc.Ret (.agg #[.int .i64 x51, .int .u64 x52]) w')) ∧
  ∃ (b5 : Bool), (∀ w' : World, Below w.heap.size w w' → Calls Tryd.prog 16 #[.agg #[.int .i64 x51, .int .u64 x52], .agg #[.int .i64 x47, .int .u64 x48]] w' (Vc.Ret (.bool b5) w')) ∧
  ((b0 = true) → (
  ((b4 = true) → (
  (.bool false : Value) = v)) ∧ (¬ (b4 = true) → (
  (.bool (!b5) : Value) = v)))) ∧ (¬ (b0 = true) → (
  (.bool false : Value) = v)))))) ∧ (¬ (x27 = 0) → (
  (.bool b0 : Value) = v)))) ∧ (¬ (b3 = true) → (
  (.bool false : Value) = v)))))) ∧ (¬ (x21 = 0) → (
  ((x27 = 0) → (
  ((x8 < 0) → (
  (.bool b0 : Value) = v)) ∧ (¬ (x8 < 0) → (
  ∃ (x41 : Int), ∃ (x42 : Int), (∀ w' : World, Below w.heap.size w w' → Calls Tryd.prog 15 #[.int .i64 x8] w' (Vc.Ret (.agg #[.int .i64 x41, .int .u64 x42]) w')) ∧
  ∃ (x43 : Int), ∃ (x44 : Int), (∀ w' : World, Below w.heap.size w w' → Calls Tryd.prog 18 #[.agg #[.int .i64 x41, .int .u64 x42], .int .i64 32] w' (Vc.Ret (.agg #[.int .i64 x43, .int .u64 x44]) w')) ∧
  ∃ (x45 : Int), ∃ (x46 : Int), (∀ w' : World, Below w.heap.size w w' → Calls Tryd.prog 13 #[.int .i64 x25, .int .i64 x25] w' (Vc.Ret (.agg #[.int .i64 x45, .int .u64 x46]) w')) ∧
  ∃ (b3 : Bool), (∀ w' : World, Below w.heap.size w w' → Calls Tryd.prog 16 #[.agg #[.int .i64 x43, .int .u64 x44], .agg #[.int .i64 x45, .int .u64 x46]] w' (Vc.Ret (.bool b3) w')) ∧
  ∃ (x47 : Int), ∃ (x48 : Int), (∀ w' : World, Below w.heap.size w w' → Calls Tryd.prog 13 #[.int .i64 x26, .int .i64 x26] w' (Vc.Ret (.agg #[.int .i64 x47, .int .u64 x48]) w')) ∧
  ∃ (b4 : Bool), (∀ w' : World, Below w.heap.size w w' → Calls Tryd.prog 16 #[.agg #[.int .i64 x47, .int .u64 x48], .agg #[.int .i64 x43, .int .u64 x44]] w' (Vc.Ret (.bool b4) w')) ∧
  ((b0 = true) → (
  ((b3 = true) → (
  (.bool false : Value) = v)) ∧ (¬ (b3 = true) → (
  (.bool (!b4) : Value) = v)))) ∧ (¬ (b0 = true) → (
  (.bool false : Value) = v)))))) ∧ (¬ (x27 = 0) → (
  (.bool b0 : Value) = v)))))))))) ∧ (¬ (b2 = true) → (
  (.bool false : Value) = v)))) ∧ (¬ (x15 = 0) → (
  ((x18 = 0) → (
  ∃ (x34 : Int), ∃ (x35 : Int), (∀ w' : World, Below w.heap.size w w' → Calls Tryd.prog 13 #[.int .i64 x8, .int .i64 x9] w' (Vc.Ret (.agg #[.int .i64 x34, .int .u64 x35]) w')) ∧
  ∃ (b2 : Bool), (∀ w' : World, Below w.heap.size w w' → Calls Tryd.prog 33 #[.agg #[.int .i64 x34, .int .u64 x35], .int .i64 x16, .int .i64 x17, .int .i64 4294967296] w' (Vc.Ret (.bool b2) w')) ∧
  ((b2 = true) → (
  ((x24 = 0) → (
  ∃ (x36 : Int), ∃ (x37 : Int), (∀ w' : World, Below w.heap.size w w' → Calls Tryd.prog 13 #[.int .i64 x8, .int .i64 x8] w' (Vc.Ret (.agg #[.int .i64 x36, .int .u64 x37]) w')) ∧
  ∃ (b3 : Bool), (∀ w' : World, Below w.heap.size w w' → Calls Tryd.prog 33 #[.agg #[.int .i64 x36, .int .u64 x37], .int .i64 x22, .int .i64 x23, .int .i64 4294967296] w' (Vc.Ret (.bool b3) w')) ∧
  ((b3 = true) → (
  ((x21 = 0) → (
  ∃ (x38 : Int), ∃ (x39 : Int), (∀ w' : World, Below w.heap.size w w' → Calls Tryd.prog 15 #[.int .i64 x8] w' (Vc.Ret (.agg #[.int .i64 x38, .int .u64 x39]) w')) ∧
  ∃ (x40 : Int), ∃ (x41 : Int), (∀ w' : World, Below w.heap.size w w' → Calls Tryd.prog 18 #[.agg #[.int .i64 x38, .int .u64 x39], .int .i64 32] w' (Vc.Ret (.agg #[.int .i64 x40, .int .u64 x41]) w')) ∧
  ((x9 < 0) → (
  ∀ x42 : Int, x42 = IntKind.i64.wrap (0 - x20) →
  ∀ x43 : Int, x43 = IntKind.i64.wrap (0 - x19) →
  ∀ x44 : Int, x44 = IntKind.i64.wrap (0 - x9) →
  ∃ (b4 : Bool), (∀ w' : World, Below w.heap.size w w' → Calls Tryd.prog 33 #[.agg #[.int .i64 x40, .int .u64 x41], .int .i64 x42, .int .i64 x43, .int .i64 x44] w' (Vc.Ret (.bool b4) w')) ∧
  ((b4 = true) → (
  ((x27 = 0) → (
  ((x8 < 0) → (
  (.bool b0 : Value) = v)) ∧ (¬ (x8 < 0) → (
  ∃ (x45 : Int), ∃ (x46 : Int), (∀ w' : World, Below w.heap.size w w' → Calls Tryd.prog 15 #[.int .i64 x8] w' (Vc.Ret (.agg #[.int .i64 x45, .int .u64 x46]) w')) ∧
  ∃ (x47 : Int), ∃ (x48 : Int), (∀ w' : World, Below w.heap.size w w' → Calls Tryd.prog 18 #[.agg #[.int .i64 x45, .int .u64 x46], .int .i64 32] w' (Vc.Ret (.agg #[.int .i64 x47, .int .u64 x48]) w')) ∧
  ∃ (x49 : Int), ∃ (x50 : Int), (∀ w' : World, Below w.heap.size w w' → Calls Tryd.prog 13 #[.int .i64 x25, .int .i64 x25] w' (Vc.Ret (.agg #[.int .i64 x49, .int .u64 x50]) w')) ∧
  ∃ (b5 : Bool), (∀ w' : World, Below w.heap.size w w' → Calls Tryd.prog 16 #[.agg #[.int .i64 x47, .int .u64 x48], .agg #[.int .i64 x49, .int .u64 x50]] w' (Vc.Ret (.bool b5) w')) ∧
  ∃ (x51 : Int), ∃ (x52 : Int), (∀ w' : World, Below w.heap.size w w' → Calls Tryd.prog 13 #[.int .i64 x26, .int .i64 x26] w' (Vc.Ret (.agg #[.int .i64 x51, .int .u64 x52]) w')) ∧
  ∃ (b6 : Bool), (∀ w' : World, Below w.heap.size w w' → Calls Tryd.prog 16 #[.agg #[.int .i64 x51, .int .u64 x52], .agg #[.int .i64 x47, .int .u64 x48]] w' (Vc.Ret (.bool b6) w')) ∧
  ((b0 = true) → (
  ((b5 = true) → (
  (.bool false : Value) = v)) ∧ (¬ (b5 = true) → (
  (.bool (!b6) : Value) = v)))) ∧ (¬ (b0 = true) → (
  (.bool false : Value) = v)))))) ∧ (¬ (x27 = 0) → (
  (.bool b0 : Value) = v)))) ∧ (¬ (b4 = true) → (
  (.bool false : Value) = v)))) ∧ (¬ (x9 < 0) → (
  ∃ (b4 : Bool), (∀ w' : World, Below w.heap.size w w' → Calls Tryd.prog 33 #[.agg #[.int .i64 x40, .int .u64 x41], .int .i64 x19, .int .i64 x20, .int .i64 x9] w' (Vc.Ret (.bool b4) w')) ∧
  ((b4 = true) → (
  ((x27 = 0) → (
  ((x8 < 0) → (
  (.bool b0 : Value) = v)) ∧ (¬ (x8 < 0) → (
  ∃ (x42 : Int), ∃ (x43 : Int), (∀ w' : World, Below w.heap.size w w' → Calls Tryd.prog 15 #[.int .i64 x8] w' (Vc.Ret (.agg #[.int .i64 x42, .int .u64 x43]) w')) ∧
  ∃ (x44 : Int), ∃ (x45 : Int), (∀ w' : World, Below w.heap.size w w' → Calls Tryd.prog 18 #[.agg #[.int .i64 x42, .int .u64 x43], .int .i64 32] w' (Vc.Ret (.agg #[.int .i64 x44, .int .u64 x45]) w')) ∧
  ∃ (x46 : Int), ∃ (x47 : Int), (∀ w' : World, Below w.heap.size w w' → Calls Tryd.prog 13 #[.int .i64 x25, .int .i64 x25] w' (Vc.Ret (.agg #[.int .i64 x46, .int .u64 x47]) w')) ∧
  ∃ (b5 : Bool), (∀ w' : World, Below w.heap.size w w' → Calls Tryd.prog 16 #[.agg #[.int .i64 x44, .int .u64 x45], .agg #[.int .i64 x46, .int .u64 x47]] w' (Vc.Ret (.bool b5) w')) ∧
  ∃ (x48 : Int), ∃ (x49 : Int), (∀ w' : World, Below w.heap.size w w' → Calls Tryd.prog 13 #[.int .i64 x26, .int .i64 x26] w' (Vc.Ret (.agg #[.int .i64 x48, .int .u64 x49]) w')) ∧
  ∃ (b6 : Bool), (∀ w' : World, Below w.heap.size w w' → Calls Tryd.prog 16 #[.agg #[.int .i64 x48, .int .u64 x49], .agg #[.int .i64 x44, .int .u64 x45]] w' (Vc.Ret (.bool b6) w')) ∧
  ((b0 = true) → (
  ((b5 = true) → (
  (.bool false : Value) = v)) ∧ (¬ (b5 = true) → (
  (.bool (!b6) : Value) = v)))) ∧ (¬ (b0 = true) → (
  (.bool false : Value) = v)))))) ∧ (¬ (x27 = 0) → (
  (.bool b0 : Value) = v)))) ∧ (¬ (b4 = true) → (
  (.bool false : Value) = v)))))) ∧ (¬ (x21 = 0) → (
  ((x27 = 0) → (
  ((x8 < 0) → (
  (.bool b0 : Value) = v)) ∧ (¬ (x8 < 0) → (
  ∃ (x38 : Int), ∃ (x39 : Int), (∀ w' : World, Below w.heap.size w w' → Calls Tryd.prog 15 #[.int .i64 x8] w' (Vc.Ret (.agg #[.int .i64 x38, .int .u64 x39]) w')) ∧
  ∃ (x40 : Int), ∃ (x41 : Int), (∀ w' : World, Below w.heap.size w w' → Calls Tryd.prog 18 #[.agg #[.int .i64 x38, .int .u64 x39], .int .i64 32] w' (Vc.Ret (.agg #[.int .i64 x40, .int .u64 x41]) w')) ∧
  ∃ (x42 : Int), ∃ (x43 : Int), (∀ w' : World, Below w.heap.size w w' → Calls Tryd.prog 13 #[.int .i64 x25, .int .i64 x25] w' (Vc.Ret (.agg #[.int .i64 x42, .int .u64 x43]) w')) ∧
  ∃ (b4 : Bool), (∀ w' : World, Below w.heap.size w w' → Calls Tryd.prog 16 #[.agg #[.int .i64 x40, .int .u64 x41], .agg #[.int .i64 x42, .int .u64 x43]] w' (Vc.Ret (.bool b4) w')) ∧
  ∃ (x44 : Int), ∃ (x45 : Int), (∀ w' : World, Below w.heap.size w w' → Calls Tryd.prog 13 #[.int .i64 x26, .int .i64 x26] w' (Vc.Ret (.agg #[.int .i64 x44, .int .u64 x45]) w')) ∧
  ∃ (b5 : Bool), (∀ w' : World, Below w.heap.size w w' → Calls Tryd.prog 16 #[.agg #[.int .i64 x44, .int .u64 x45], .agg #[.int .i64 x40, .int .u64 x41]] w' (Vc.Ret (.bool b5) w')) ∧
  ((b0 = true) → (
  ((b4 = true) → (
  (.bool false : Value) = v)) ∧ (¬ (b4 = true) → (
  (.bool (!b5) : Value) = v)))) ∧ (¬ (b0 = true) → (
  (.bool false : Value) = v)))))) ∧ (¬ (x27 = 0) → (
  (.bool b0 : Value) = v)))))) ∧ (¬ (b3 = true) → (
  (.bool false : Value) = v)))) ∧ (¬ (x24 = 0) → (
  ((x21 = 0) → (
  ∃ (x36 : Int), ∃ (x37 : Int), (∀ w' : World, Below w.heap.size w w' → Calls Tryd.prog 15 #[.int .i64 x8] w' (Vc.Ret (.agg #[.int .i64 x36, .int .u64 x37]) w')) ∧
  ∃ (x38 : Int), ∃ (x39 : Int), (∀ w' : World, Below w.heap.size w w' → Calls Tryd.prog 18 #[.agg #[.int .i64 x36, .int .u64 x37], .int .i64 32] w' (Vc.Ret (.agg #[.int .i64 x38, .int .u64 x39]) w')) ∧
  ((x9 < 0) → (
  ∀ x40 : Int, x40 = IntKind.i64.wrap (0 - x20) →
  ∀ x41 : Int, x41 = IntKind.i64.wrap (0 - x19) →
  ∀ x42 : Int, x42 = IntKind.i64.wrap (0 - x9) →
  ∃ (b3 : Bool), (∀ w' : World, Below w.heap.size w w' → Calls Tryd.prog 33 #[.agg #[.int .i64 x38, .int .u64 x39], .int .i64 x40, .int .i64 x41, .int .i64 x42] w' (Vc.Ret (.bool b3) w')) ∧
  ((b3 = true) → (
  ((x27 = 0) → (
  ((x8 < 0) → (
  (.bool b0 : Value) = v)) ∧ (¬ (x8 < 0) → (
  ∃ (x43 : Int), ∃ (x44 : Int), (∀ w' : World, Below w.heap.size w w' → Calls Tryd.prog 15 #[.int .i64 x8] w' (Vc.Ret (.agg #[.int .i64 x43, .int .u64 x44]) w')) ∧
  ∃ (x45 : Int), ∃ (x46 : Int), (∀ w' : World, Below w.heap.size w w' → Calls Tryd.prog 18 #[.agg #[.int .i64 x43, .int .u64 x44], .int .i64 32] w' (Vc.Ret (.agg #[.int .i64 x45, .int .u64 x46]) w')) ∧
  ∃ (x47 : Int), ∃ (x48 : Int), (∀ w' : World, Below w.heap.size w w' → Calls Tryd.prog 13 #[.int .i64 x25, .int .i64 x25] w' (Vc.Ret (.agg #[.int .i64 x47, .int .u64 x48]) w')) ∧
  ∃ (b4 : Bool), (∀ w' : World, Below w.heap.size w w' → Calls Tryd.prog 16 #[.agg #[.int .i64 x45, .int .u64 x46], .agg #[.int .i64 x47, .int .u64 x48]] w' (Vc.Ret (.bool b4) w')) ∧
  ∃ (x49 : Int), ∃ (x50 : Int), (∀ w' : World, Below w.heap.size w w' → Calls Tryd.prog 13 #[.int .i64 x26, .int .i64 x26] w' (Vc.Ret (.agg #[.int .i64 x49, .int .u64 x50]) w')) ∧
  ∃ (b5 : Bool), (∀ w' : World, Below w.heap.size w w' → Calls Tryd.prog 16 #[.agg #[.int .i64 x49, .int .u64 x50], .agg #[.int .i64 x45, .int .u64 x46]] w' (Vc.Ret (.bool b5) w')) ∧
  ((b0 = true) → (
  ((b4 = true) → (
  (.bool false : Value) = v)) ∧ (¬ (b4 = true) → (
  (.bool (!b5) : Value) = v)))) ∧ (¬ (b0 = true) → (
  (.bool false : Value) = v)))))) ∧ (¬ (x27 = 0) → (
  (.bool b0 : Value) = v)))) ∧ (¬ (b3 = true) → (
  (.bool false : Value) = v)))) ∧ (¬ (x9 < 0) → (
  ∃ (b3 : Bool), (∀ w' : World, Below w.heap.size w w' → Calls Tryd.prog 33 #[.agg #[.int .i64 x38, .int .u64 x39], .int .i64 x19, .int .i64 x20, .int .i64 x9] w' (Vc.Ret (.bool b3) w')) ∧
  ((b3 = true) → (
  ((x27 = 0) → (
  ((x8 < 0) → (
  (.bool b0 : Value) = v)) ∧ (¬ (x8 < 0) → (
  ∃ (x40 : Int), ∃ (x41 : Int), (∀ w' : World, Below w.heap.size w w' → Calls Tryd.prog 15 #[.int .i64 x8] w' (Vc.Ret (.agg #[.int .i64 x40, .int .u64 x41]) w')) ∧
  ∃ (x42 : Int), ∃ (x43 : Int), (∀ w' : World, Below w.heap.size w w' → Calls Tryd.prog 18 #[.agg #[.int .i64 x40, .int .u64 x41], .int .i64 32] w' (Vc.Ret (.agg #[.int .i64 x42, .int .u64 x43]) w')) ∧
  ∃ (x44 : Int), ∃ (x45 : Int), (∀ w' : World, Below w.heap.size w w' → Calls Tryd.prog 13 #[.int .i64 x25, .int .i64 x25] w' (Vc.Ret (.agg #[.int .i64 x44, .int .u64 x45]) w')) ∧
  ∃ (b4 : Bool), (∀ w' : World, Below w.heap.size w w' → Calls Tryd.prog 16 #[.agg #[.int .i64 x42, .int .u64 x43], .agg #[.int .i64 x44, .int .u64 x45]] w' (Vc.Ret (.bool b4) w')) ∧
  ∃ (x46 : Int), ∃ (x47 : Int), (∀ w' : World, Below w.heap.size w w' → Calls Tryd.prog 13 #[.int .i64 x26, .int .i64 x26] w' (Vc.Ret (.agg #[.int .i64 x46, .int .u64 x47]) w')) ∧
  ∃ (b5 : Bool), (∀ w' : World, Below w.heap.size w w' → Calls Tryd.prog 16 #[.agg #[.int .i64 x46, .int .u64 x47], .agg #[.int .i64 x42, .int .u64 x43]] w' (Vc.Ret (.bool b5) w')) ∧
  ((b0 = true) → (
  ((b4 = true) → (
  (.bool false : Value) = v)) ∧ (¬ (b4 = true) → (
  (.bool (!b5) : Value) = v)))) ∧ (¬ (b0 = true) → (
  (.bool false : Value) = v)))))) ∧ (¬ (x27 = 0) → (
  (.bool b0 : Value) = v)))) ∧ (¬ (b3 = true) → (
  (.bool false : Value) = v)))))) ∧ (¬ (x21 = 0) → (
  ((x27 = 0) → (
  ((x8 < 0) → (
  (.bool b0 : Value) = v)) ∧ (¬ (x8 < 0) → (
  ∃ (x36 : Int), ∃ (x37 : Int), (∀ w' : World, Below w.heap.size w w' → Calls Tryd.prog 15 #[.int .i64 x8] w' (Vc.Ret (.agg #[.int .i64 x36, .int .u64 x37]) w')) ∧
  ∃ (x38 : Int), ∃ (x39 : Int), (∀ w' : World, Below w.heap.size w w' → Calls Tryd.prog 18 #[.agg #[.int .i64 x36, .int .u64 x37], .int .i64 32] w' (Vc.Ret (.agg #[.int .i64 x38, .int .u64 x39]) w')) ∧
  ∃ (x40 : Int), ∃ (x41 : Int), (∀ w' : World, Below w.heap.size w w' → Calls Tryd.prog 13 #[.int .i64 x25, .int .i64 x25] w' (Vc.Ret (.agg #[.int .i64 x40, .int .u64 x41]) w')) ∧
  ∃ (b3 : Bool), (∀ w' : World, Below w.heap.size w w' → Calls Tryd.prog 16 #[.agg #[.int .i64 x38, .int .u64 x39], .agg #[.int .i64 x40, .int .u64 x41]] w' (Vc.Ret (.bool b3) w')) ∧
  ∃ (x42 : Int), ∃ (x43 : Int), (∀ w' : World, Below w.heap.size w w' → Calls Tryd.prog 13 #[.int .i64 x26, .int .i64 x26] w' (Vc.Ret (.agg #[.int .i64 x42, .int .u64 x43]) w')) ∧
  ∃ (b4 : Bool), (∀ w' : World, Below w.heap.size w w' → Calls Tryd.prog 16 #[.agg #[.int .i64 x42, .int .u64 x43], .agg #[.int .i64 x38, .int .u64 x39]] w' (Vc.Ret (.bool b4) w')) ∧
  ((b0 = true) → (
  ((b3 = true) → (
  (.bool false : Value) = v)) ∧ (¬ (b3 = true) → (
  (.bool (!b4) : Value) = v)))) ∧ (¬ (b0 = true) → (
  (.bool false : Value) = v)))))) ∧ (¬ (x27 = 0) → (
  (.bool b0 : Value) = v)))))))) ∧ (¬ (b2 = true) → (
  (.bool false : Value) = v)))) ∧ (¬ (x18 = 0) → (
  ((x24 = 0) → (
  ∃ (x34 : Int), ∃ (x35 : Int), (∀ w' : World, Below w.heap.size w w' → Calls Tryd.prog 13 #[.int .i64 x8, .int .i64 x8] w' (Vc.Ret (.agg #[.int .i64 x34, .int .u64 x35]) w')) ∧
  ∃ (b2 : Bool), (∀ w' : World, Below w.heap.size w w' → Calls Tryd.prog 33 #[.agg #[.int .i64 x34, .int .u64 x35], .int .i64 x22, .int .i64 x23, .int .i64 4294967296] w' (Vc.Ret (.bool b2) w')) ∧
  ((b2 = true) → (
  ((x21 = 0) → (
  ∃ (x36 : Int), ∃ (x37 : Int), (∀ w' : World, Below w.heap.size w w' → Calls Tryd.prog 15 #[.int .i64 x8] w' (Vc.Ret (.agg #[.int .i64 x36, .int .u64 x37]) w')) ∧
  ∃ (x38 : Int), ∃ (x39 : Int), (∀ w' : World, Below w.heap.size w w' → Calls Tryd.prog 18 #[.agg #[.int .i64 x36, .int .u64 x37], .int .i64 32] w' (Vc.Ret (.agg #[.int .i64 x38, .int .u64 x39]) w')) ∧
  ((x9 < 0) → (
  ∀ x40 : Int, x40 = IntKind.i64.wrap (0 - x20) →
  ∀ x41 : Int, x41 = IntKind.i64.wrap (0 - x19) →
  ∀ x42 : Int, x42 = IntKind.i64.wrap (0 - x9) →
  ∃ (b3 : Bool), (∀ w' : World, Below w.heap.size w w' → Calls Tryd.prog 33 #[.agg #[.int .i64 x38, .int .u64 x39], .int .i64 x40, .int .i64 x41, .int .i64 x42] w' (Vc.Ret (.bool b3) w')) ∧
  ((b3 = true) → (
  ((x27 = 0) → (
  ((x8 < 0) → (
  (.bool b0 : Value) = v)) ∧ (¬ (x8 < 0) → (
  ∃ (x43 : Int), ∃ (x44 : Int), (∀ w' : World, Below w.heap.size w w' → Calls Tryd.prog 15 #[.int .i64 x8] w' (Vc.Ret (.agg #[.int .i64 x43, .int .u64 x44]) w')) ∧
  ∃ (x45 : Int), ∃ (x46 : Int), (∀ w' : World, Below w.heap.size w w' → Calls Tryd.prog 18 #[.agg #[.int .i64 x43, .int .u64 x44], .int .i64 32] w' (Vc.Ret (.agg #[.int .i64 x45, .int .u64 x46]) w')) ∧
  ∃ (x47 : Int), ∃ (x48 : Int), (∀ w' : World, Below w.heap.size w w' → Calls Tryd.prog 13 #[.int .i64 x25, .int .i64 x25] w' (Vc.Ret (.agg #[.int .i64 x47, .int .u64 x48]) w')) ∧
  ∃ (b4 : Bool), (∀ w' : World, Below w.heap.size w w' → Calls Tryd.prog 16 #[.agg #[.int .i64 x45, .int .u64 x46], .agg #[.int .i64 x47, .int .u64 x48]] w' (Vc.Ret (.bool b4) w')) ∧
  ∃ (x49 : Int), ∃ (x50 : Int), (∀ w' : World, Below w.heap.size w w' → Calls Tryd.prog 13 #[.int .i64 x26, .int .i64 x26] w' (Vc.Ret (.agg #[.int .i64 x49, .int .u64 x50]) w')) ∧
  ∃ (b5 : Bool), (∀ w' : World, Below w.heap.size w w' → Calls Tryd.prog 16 #[.agg #[.int .i64 x49, .int .u64 x50], .agg #[.int .i64 x45, .int .u64 x46]] w' (Vc.Ret (.bool b5) w')) ∧
  ((b0 = true) → (
  ((b4 = true) → (
  (.bool false : Value) = v)) ∧ (¬ (b4 = true) → (
  (.bool (!b5) : Value) = v)))) ∧ (¬ (b0 = true) → (
  (.bool false : Value) = v)))))) ∧ (¬ (x27 = 0) → (
  (.bool b0 : Value) = v)))) ∧ (¬ (b3 = true) → (
  (.bool false : Value) = v)))) ∧ (¬ (x9 < 0) → (
  ∃ (b3 : Bool), (∀ w' : World, Below w.heap.size w w' → Calls Tryd.prog 33 #[.agg #[.int .i64 x38, .int .u64 x39], .int .i64 x19, .int .i64 x20, .int .i64 x9] w' (Vc.Ret (.bool b3) w')) ∧
  ((b3 = true) → (
  ((x27 = 0) → (
  ((x8 < 0) → (
  (.bool b0 : Value) = v)) ∧ (¬ (x8 < 0) → (
  ∃ (x40 : Int), ∃ (x41 : Int), (∀ w' : World, Below w.heap.size w w' → Calls Tryd.prog 15 #[.int .i64 x8] w' (Vc.Ret (.agg #[.int .i64 x40, .int .u64 x41]) w')) ∧
  ∃ (x42 : Int), ∃ (x43 : Int), (∀ w' : World, Below w.heap.size w w' → Calls Tryd.prog 18 #[.agg #[.int .i64 x40, .int .u64 x41], .int .i64 32] w' (Vc.Ret (.agg #[.int .i64 x42, .int .u64 x43]) w')) ∧
  ∃ (x44 : Int), ∃ (x45 : Int), (∀ w' : World, Below w.heap.size w w' → Calls Tryd.prog 13 #[.int .i64 x25, .int .i64 x25] w' (Vc.Ret (.agg #[.int .i64 x44, .int .u64 x45]) w')) ∧
  ∃ (b4 : Bool), (∀ w' : World, Below w.heap.size w w' → Calls Tryd.prog 16 #[.agg #[.int .i64 x42, .int .u64 x43], .agg #[.int .i64 x44, .int .u64 x45]] w' (Vc.Ret (.bool b4) w')) ∧
  ∃ (x46 : Int), ∃ (x47 : Int), (∀ w' : World, Below w.heap.size w w' → Calls Tryd.prog 13 #[.int .i64 x26, .int .i64 x26] w' (Vc.Ret (.agg #[.int .i64 x46, .int .u64 x47]) w')) ∧
  ∃ (b5 : Bool), (∀ w' : World, Below w.heap.size w w' → Calls Tryd.prog 16 #[.agg #[.int .i64 x46, .int .u64 x47], .agg #[.int .i64 x42, .int .u64 x43]] w' (Vc.Ret (.bool b5) w')) ∧
  ((b0 = true) → (
  ((b4 = true) → (
  (.bool false : Value) = v)) ∧ (¬ (b4 = true) → (
  (.bool (!b5) : Value) = v)))) ∧ (¬ (b0 = true) → (
  (.bool false : Value) = v)))))) ∧ (¬ (x27 = 0) → (
  (.bool b0 : Value) = v)))) ∧ (¬ (b3 = true) → (
  (.bool false : Value) = v)))))) ∧ (¬ (x21 = 0) → (
  ((x27 = 0) → (
  ((x8 < 0) → (
  (.bool b0 : Value) = v)) ∧ (¬ (x8 < 0) → (
  ∃ (x36 : Int), ∃ (x37 : Int), (∀ w' : World, Below w.heap.size w w' → Calls Tryd.prog 15 #[.int .i64 x8] w' (Vc.Ret (.agg #[.int .i64 x36, .int .u64 x37]) w')) ∧
  ∃ (x38 : Int), ∃ (x39 : Int), (∀ w' : World, Below w.heap.size w w' → Calls Tryd.prog 18 #[.agg #[.int .i64 x36, .int .u64 x37], .int .i64 32] w' (Vc.Ret (.agg #[.int .i64 x38, .int .u64 x39]) w')) ∧
  ∃ (x40 : Int), ∃ (x41 : Int), (∀ w' : World, Below w.heap.size w w' → Calls Tryd.prog 13 #[.int .i64 x25, .int .i64 x25] w' (Vc.Ret (.agg #[.int .i64 x40, .int .u64 x41]) w')) ∧
  ∃ (b3 : Bool), (∀ w' : World, Below w.heap.size w w' → Calls Tryd.prog 16 #[.agg #[.int .i64 x38, .int .u64 x39], .agg #[.int .i64 x40, .int .u64 x41]] w' (Vc.Ret (.bool b3) w')) ∧
  ∃ (x42 : Int), ∃ (x43 : Int), (∀ w' : World, Below w.heap.size w w' → Calls Tryd.prog 13 #[.int .i64 x26, .int .i64 x26] w' (Vc.Ret (.agg #[.int .i64 x42, .int .u64 x43]) w')) ∧
  ∃ (b4 : Bool), (∀ w' : World, Below w.heap.size w w' → Calls Tryd.prog 16 #[.agg #[.int .i64 x42, .int .u64 x43], .agg #[.int .i64 x38, .int .u64 x39]] w' (Vc.Ret (.bool b4) w')) ∧
  ((b0 = true) → (
  ((b3 = true) → (
  (.bool false : Value) = v)) ∧ (¬ (b3 = true) → (
  (.bool (!b4) : Value) = v)))) ∧ (¬ (b0 = true) → (
  (.bool false : Value) = v)))))) ∧ (¬ (x27 = 0) → (
  (.bool b0 : Value) = v)))))) ∧ (¬ (b2 = true) → (
  (.bool false : Value) = v)))) ∧ (¬ (x24 = 0) → (
  ((x21 = 0) → (
  ∃ (x34 : Int), ∃ (x35 : Int), (∀ w' : World, Below w.heap.size w w' → Calls Tryd.prog 15 #[.int .i64 x8] w' (Vc.Ret (.agg #[.int .i64 x34, .int .u64 x35]) w')) ∧
  ∃ (x36 : Int), ∃ (x37 : Int), (∀ w' : World, Below w.heap.size w w' → Calls Tryd.prog 18 #[.agg #[.int .i64 x34, .int .u64 x35], .int .i64 32] w' (Vc.Ret (.agg #[.int .i64 x36, .int .u64 x37]) w')) ∧
  ((x9 < 0) → (
  ∀ x38 : Int, x38 = IntKind.i64.wrap (0 - x20) →
  ∀ x39 : Int, x39 = IntKind.i64.wrap (0 - x19) →
  ∀ x40 : Int, x40 = IntKind.i64.wrap (0 - x9) →
  ∃ (b2 : Bool), (∀ w' : World, Below w.heap.size w w' → Calls Tryd.prog 33 #[.agg #[.int .i64 x36, .int .u64 x37], .int .i64 x38, .int .i64 x39, .int .i64 x40] w' (Vc.Ret (.bool b2) w')) ∧
  ((b2 = true) → (
  ((x27 = 0) → (
  ((x8 < 0) → (
  (.bool b0 : Value) = v)) ∧ (¬ (x8 < 0) → (
  ∃ (x41 : Int), ∃ (x42 : Int), (∀ w' : World, Below w.heap.size w w' → Calls Tryd.prog 15 #[.int .i64 x8] w' (Vc.Ret (.agg #[.int .i64 x41, .int .u64 x42]) w')) ∧
  ∃ (x43 : Int), ∃ (x44 : Int), (∀ w' : World, Below w.heap.size w w' → Calls Tryd.prog 18 #[.agg #[.int .i64 x41, .int .u64 x42], .int .i64 32] w' (Vc.Ret (.agg #[.int .i64 x43, .int .u64 x44]) w')) ∧
  ∃ (x45 : Int), ∃ (x46 : Int), (∀ w' : World, Below w.heap.size w w' → Calls Tryd.prog 13 #[.int .i64 x25, .int .i64 x25] w' (Vc.Ret (.agg #[.int .i64 x45, .int .u64 x46]) w')) ∧
  ∃ (b3 : Bool), (∀ w' : World, Below w.heap.size w w' → Calls Tryd.prog 16 #[.agg #[.int .i64 x43, .int .u64 x44], .agg #[.int .i64 x45, .int .u64 x46]] w' (Vc.Ret (.bool b3) w')) ∧
  ∃ (x47 : Int), ∃ (x48 : Int), (∀ w' : World, Below w.heap.size w w' → Calls Tryd.prog 13 #[.int .i64 x26, .int .i64 x26] w' (Vc.Ret (.agg #[.int .i64 x47, .int .u64 x48]) w')) ∧
  ∃ (b4 : Bool), (∀ w' : World, Below w.heap.size w w' → Calls Tryd.prog 16 #[.agg #[.int .i64 x47, .int .u64 x48], .agg #[.int .i64 x43, .int .u64 x44]] w' (Vc.Ret (.bool b4) w')) ∧
  ((b0 = true) → (
  ((b3 = true) → (
  (.bool false : Value) = v)) ∧ (¬ (b3 = true) → (
  (.bool (!b4) : Value) = v)))) ∧ (¬ (b0 = true) → (
  (.bool false : Value) = v)))))) ∧ (¬ (x27 = 0) → (
  (.bool b0 : Value) = v)))) ∧ (¬ (b2 = true) → (
  (.bool false : Value) = v)))) ∧ (¬ (x9 < 0) → (
  ∃ (b2 : Bool), (∀ w' : World, Below w.heap.size w w' → Calls Tryd.prog 33 #[.agg #[.int .i64 x36, .int .u64 x37], .int .i64 x19, .int .i64 x20, .int .i64 x9] w' (Vc.Ret (.bool b2) w')) ∧
  ((b2 = true) → (
  ((x27 = 0) → (
  ((x8 < 0) → (
  (.bool b0 : Value) = v)) ∧ (¬ (x8 < 0) → (
  ∃ (x38 : Int), ∃ (x39 : Int), (∀ w' : World, Below w.heap.size w w' → Calls Tryd.prog 15 #[.int .i64 x8] w' (Vc.Ret (.agg #[.int .i64 x38, .int .u64 x39]) w')) ∧
  ∃ (x40 : Int), ∃ (x41 : Int), (∀ w' : World, Below w.heap.size w w' → Calls Tryd.prog 18 #[.agg #[.int .i64 x38, .int .u64 x39], .int .i64 32] w' (Vc.Ret (.agg #[.int .i64 x40, .int .u64 x41]) w')) ∧
  ∃ (x42 : Int), ∃ (x43 : Int), (∀ w' : World, Below w.heap.size w w' → Calls Tryd.prog 13 #[.int .i64 x25, .int .i64 x25] w' (Vc.Ret (.agg #[.int .i64 x42, .int .u64 x43]) w')) ∧
  ∃ (b3 : Bool), (∀ w' : World, Below w.heap.size w w' → Calls Tryd.prog 16 #[.agg #[.int .i64 x40, .int .u64 x41], .agg #[.int .i64 x42, .int .u64 x43]] w' (Vc.Ret (.bool b3) w')) ∧
  ∃ (x44 : Int), ∃ (x45 : Int), (∀ w' : World, Below w.heap.size w w' → Calls Tryd.prog 13 #[.int .i64 x26, .int .i64 x26] w' (Vc.Ret (.agg #[.int .i64 x44, .int .u64 x45]) w')) ∧
  ∃ (b4 : Bool), (∀ w' : World, Below w.heap.size w w' → Calls Tryd.prog 16 #[.agg #[.int .i64 x44, .int .u64 x45], .agg #[.int .i64 x40, .int .u64 x41]] w' (Vc.Ret (.bool b4) w')) ∧
  ((b0 = true) → (
  ((b3 = true) → (
  (.bool false : Value) = v)) ∧ (¬ (b3 = true) → (
  (.bool (!b4) : Value) = v)))) ∧ (¬ (b0 = true) → (
  (.bool false : Value) = v)))))) ∧ (¬ (x27 = 0) → (
  (.bool b0 : Value) = v)))) ∧ (¬ (b2 = true) → (
  (.bool false : Value) = v)))))) ∧ (¬ (x21 = 0) → (
  ((x27 = 0) → (
  ((x8 < 0) → (
  (.bool b0 : Value) = v)) ∧ (¬ (x8 < 0) → (
  ∃ (x34 : Int), ∃ (x35 : Int), (∀ w' : World, Below w.heap.size w w' → Calls Tryd.prog 15 #[.int .i64 x8] w' (Vc.Ret (.agg #[.int .i64 x34, .int .u64 x35]) w')) ∧
  ∃ (x36 : Int), ∃ (x37 : Int), (∀ w' : World, Below w.heap.size w w' → Calls Tryd.prog 18 #[.agg #[.int .i64 x34, .int .u64 x35], .int .i64 32] w' (Vc.Ret (.agg #[.int .i64 x36, .int .u64 x37]) w')) ∧
  ∃ (x38 : Int), ∃ (x39 : Int), (∀ w' : World, Below w.heap.size w w' → Calls Tryd.prog 13 #[.int .i64 x25, .int .i64 x25] w' (Vc.Ret (.agg #[.int .i64 x38, .int .u64 x39]) w')) ∧
  ∃ (b2 : Bool), (∀ w' : World, Below w.heap.size w w' → Calls Tryd.prog 16 #[.agg #[.int .i64 x36, .int .u64 x37], .agg #[.int .i64 x38, .int .u64 x39]] w' (Vc.Ret (.bool b2) w')) ∧
  ∃ (x40 : Int), ∃ (x41 : Int), (∀ w' : World, Below w.heap.size w w' → Calls Tryd.prog 13 #[.int .i64 x26, .int .i64 x26] w' (Vc.Ret (.agg #[.int .i64 x40, .int .u64 x41]) w')) ∧
  ∃ (b3 : Bool), (∀ w' : World, Below w.heap.size w w' → Calls Tryd.prog 16 #[.agg #[.int .i64 x40, .int .u64 x41], .agg #[.int .i64 x36, .int .u64 x37]] w' (Vc.Ret (.bool b3) w')) ∧
  ((b0 = true) → (
  ((b2 = true) → (
  (.bool false : Value) = v)) ∧ (¬ (b2 = true) → (
  (.bool (!b3) : Value) = v)))) ∧ (¬ (b0 = true) → (
  (.bool false : Value) = v)))))) ∧ (¬ (x27 = 0) → (
  (.bool b0 : Value) = v)))))))))))) ∧ (¬ (b1 = true) → (
  (.bool false : Value) = v)))) ∧ (¬ (x12 = 0) → (
  ((x15 = 0) → (
  ∃ (x28 : Int), ∃ (x29 : Int), (∀ w' : World, Below w.heap.size w w' → Calls Tryd.prog 15 #[.int .i64 x8] w' (Vc.Ret (.agg #[.int .i64 x28, .int .u64 x29]) w')) ∧
  ∀ x30 : Int, x30 = IntKind.i64.wrap (0 - x9) →
  ∃ (x31 : Int), ∃ (x32 : Int), (∀ w' : World, Below w.heap.size w w' → Calls Tryd.prog 15 #[.int .i64 x30] w' (Vc.Ret (.agg #[.int .i64 x31, .int .u64 x32]) w')) ∧
  ∃ (x33 : Int), ∃ (x34 : Int), (∀ w' : World, Below w.heap.size w w' → Calls Tryd.prog 14 #[.agg #[.int .i64 x28, .int .u64 x29], .agg #[.int .i64 x31, .int .u64 x32]] w' (Vc.Ret (.agg #[.int .i64 x33, .int .u64 x34]) w')) ∧
  ∃ (b1 : Bool), (∀ w' : World, Below w.heap.size w w' → Calls Tryd.prog 33 #[.agg #[.int .i64 x33, .int .u64 x34], .int .i64 x13, .int .i64 x14, .int .i64 1] w' (Vc.Ret (.bool b1) w')) ∧
  ((b1 = true) → (
  ((x18 = 0) → (
  ∃ (x35 : Int), ∃ (x36 : Int), (∀ w' : World, Below w.heap.size w w' → Calls Tryd.prog 13 #[.int .i64 x8, .int .i64 x9] w' (Vc.Ret (.agg #[.int .i64 x35, .int .u64 x36]) w')) ∧
  ∃ (b2 : Bool), (∀ w' : World, Below w.heap.size w w' → Calls Tryd.prog 33 #[.agg #[.int .i64 x35, .int .u64 x36], .int .i64 x16, .int .i64 x17, .int .i64 4294967296] w' (Vc.Ret (.bool b2) w')) ∧
  ((b2 = true) → (
  ((x24 = 0) → (
  ∃ (x37 : Int), ∃ (x38 : Int), (∀ w' : World, Below w.heap.size w w' → Calls Tryd.prog 13 #[.int .i64 x8, .int .i64 x8] w' (Vc.Ret (.agg #[.int .i64 x37, .int .u64 x38]) w')) ∧
  ∃ (b3 : Bool), (∀ w' : World, Below w.heap.size w w' → Calls Tryd.prog 33 #[.agg #[.int .i64 x37, .int .u64 x38], .int .i64 x22, .int .i64 x23, .int .i64 4294967296] w' (Vc.Ret (.bool b3) w')) ∧
  ((b3 = true) → (
  ((x21 = 0) → (
  ∃ (x39 : Int), ∃ (x40 : Int), (∀ w' : World, Below w.heap.size w w' → Calls Tryd.prog 15 #[.int .i64 x8] w' (Vc.Ret (.agg #[.int .i64 x39, .int .u64 x40]) w')) ∧
  ∃ (x41 : Int), ∃ (x42 : Int), (∀ w' : World, Below w.heap.size w w' → Calls Tryd.prog 18 #[.agg #[.int .i64 x39, .int .u64 x40], .int .i64 32] w' (Vc.Ret (.agg #[.int .i64 x41, .int .u64 x42]) w')) ∧
  ((x9 < 0) → (
  ∀ x43 : Int, x43 = IntKind.i64.wrap (0 - x20) →
  ∀ x44 : Int, x44 = IntKind.i64.wrap (0 - x19) →
  ∀ x45 : Int, x45 = IntKind.i64.wrap (0 - x9) →
  ∃ (b4 : Bool), (∀ w' : World, Below w.heap.size w w' → Calls Tryd.prog 33 #[.agg #[.int .i64 x41, .int .u64 x42], .int .i64 x43, .int .i64 x44, .int .i64 x45] w' (Vc.Ret (.bool b4) w')) ∧
  ((b4 = true) → (
  ((x27 = 0) → (
  ((x8 < 0) → (
  (.bool b0 : Value) = v)) ∧ (¬ (x8 < 0) → (
  ∃ (x46 : Int), ∃ (x47 : Int), (∀ w' : World, Below w.heap.size w w' → Calls Tryd.prog 15 #[.int .i64 x8] w' (Vc.Ret (.agg #[.int .i64 x46, .int .u64 x47]) w')) ∧
  ∃ (x48 : Int), ∃ (x49 : Int), (∀ w' : World, Below w.heap.size w w' → Calls Tryd.prog 18 #[.agg #[.int .i64 x46, .int .u64 x47], .int .i64 32] w' (Vc.Ret (.agg #[.int .i64 x48, .int .u64 x49]) w')) ∧
  ∃ (x50 : Int), ∃ (x51 : Int), (∀ w' : World, Below w.heap.size w w' → Calls Tryd.prog 13 #[.int .i64 x25, .int .i64 x25] w' (Vc.Ret (.agg #[.int .i64 x50, .int .u64 x51]) w')) ∧
  ∃ (b5 : Bool), (∀ w' : World, Below w.heap.size w w' → Calls Tryd.prog 16 #[.agg #[.int .i64 x48, .int .u64 x49], .agg #[.int .i64 x50, .int .u64 x51]] w' (Vc.Ret (.bool b5) w')) ∧
  ∃ (x52 : Int), ∃ (x53 : Int), (∀ w' : World, Below w.heap.size w w' → Calls Tryd.prog 13 #[.int .i64 x26, .int .i64 x26] w' (Vc.Ret (.agg #[.int .i64 x52, .int .u64 x53]) w')) ∧
  ∃ (b6 : Bool), (∀ w' : World, Below w.heap.size w w' → Calls Tryd.prog 16 #[.agg #[.int .i64 x52, .int .u64 x53], .agg #[.int .i64 x48, .int .u64 x49]] w' (Vc.Ret (.bool b6) w')) ∧
  ((b0 = true) → (
  ((b5 = true) → (
  (.bool false : Value) = v)) ∧ (¬ (b5 = true) → (
  (.bool (!b6) : Value) = v)))) ∧ (¬ (b0 = true) → (
  (.bool false : Value) = v)))))) ∧ (¬ (x27 = 0) → (
  (.bool b0 : Value) = v)))) ∧ (¬ (b4 = true) → (
  (.bool false : Value) = v)))) ∧ (¬ (x9 < 0) → (
  ∃ (b4 : Bool), (∀ w' : World, Below w.heap.size w w' → Calls Tryd.prog 33 #[.agg #[.int .i64 x41, .int .u64 x42], .int .i64 x19, .int .i64 x20, .int .i64 x9] w' (Vc.Ret (.bool b4) w')) ∧
  ((b4 = true) → (
  ((x27 = 0) → (
  ((x8 < 0) → (
  (.bool b0 : Value) = v)) ∧ (¬ (x8 < 0) → (
  ∃ (x43 : Int), ∃ (x44 : Int), (∀ w' : World, Below w.heap.size w w' → Calls Tryd.prog 15 #[.int .i64 x8] w' (Vc.Ret (.agg #[.int .i64 x43, .int .u64 x44]) w')) ∧
  ∃ (x45 : Int), ∃ (x46 : Int), (∀ w' : World, Below w.heap.size w w' → Calls Tryd.prog 18 #[.agg #[.int .i64 x43, .int .u64 x44], .int .i64 32] w' (Vc.Ret (.agg #[.int .i64 x45, .int .u64 x46]) w')) ∧
  ∃ (x47 : Int), ∃ (x48 : Int), (∀ w' : World, Below w.heap.size w w' → Calls Tryd.prog 13 #[.int .i64 x25, .int .i64 x25] w' (Vc.Ret (.agg #[.int .i64 x47, .int .u64 x48]) w')) ∧
  ∃ (b5 : Bool), (∀ w' : World, Below w.heap.size w w' → Calls Tryd.prog 16 #[.agg #[.int .i64 x45, .int .u64 x46], .agg #[.int .i64 x47, .int .u64 x48]] w' (Vc.Ret (.bool b5) w')) ∧
  ∃ (x49 : Int), ∃ (x50 : Int), (∀ w' : World, Below w.heap.size w w' → Calls Tryd.prog 13 #[.int .i64 x26, .int .i64 x26] w' (Vc.Ret (.agg #[.int .i64 x49, .int .u64 x50]) w')) ∧
  ∃ (b6 : Bool), (∀ w' : World, Below w.heap.size w w' → Calls Tryd.prog 16 #[.agg #[.int .i64 x49, .int .u64 x50], .agg #[.int .i64 x45, .int .u64 x46]] w' (Vc.Ret (.bool b6) w')) ∧
  ((b0 = true) → (
  ((b5 = true) → (
  (.bool false : Value) = v)) ∧ (¬ (b5 = true) → (
  (.bool (!b6) : Value) = v)))) ∧ (¬ (b0 = true) → (
  (.bool false : Value) = v)))))) ∧ (¬ (x27 = 0) → (
  (.bool b0 : Value) = v)))) ∧ (¬ (b4 = true) → (
  (.bool false : Value) = v)))))) ∧ (¬ (x21 = 0) → (
  ((x27 = 0) → (
  ((x8 < 0) → (
  (.bool b0 : Value) = v)) ∧ (¬ (x8 < 0) → (
  ∃ (x39 : Int), ∃ (x40 : Int), (∀ w' : World, Below w.heap.size w w' → Calls Tryd.prog 15 #[.int .i64 x8] w' (Vc.Ret (.agg #[.int .i64 x39, .int .u64 x40]) w')) ∧
  ∃ (x41 : Int), ∃ (x42 : Int), (∀ w' : World, Below w.heap.size w w' → Calls Tryd.prog 18 #[.agg #[.int .i64 x39, .int .u64 x40], .int .i64 32] w' (Vc.Ret (.agg #[.int .i64 x41, .int .u64 x42]) w')) ∧
  ∃ (x43 : Int), ∃ (x44 : Int), (∀ w' : World, Below w.heap.size w w' → Calls Tryd.prog 13 #[.int .i64 x25, .int .i64 x25] w' (Vc.Ret (.agg #[.int .i64 x43, .int .u64 x44]) w')) ∧
  ∃ (b4 : Bool), (∀ w' : World, Below w.heap.size w w' → Calls Tryd.prog 16 #[.agg #[.int .i64 x41, .int .u64 x42], .agg #[.int .i64 x43, .int .u64 x44]] w' (Vc.Ret (.bool b4) w')) ∧
  ∃ (x45 : Int), ∃ (x46 : Int), (∀ w' : World, Below w.heap.size w w' → Calls Tryd.prog 13 #[.int .i64 x26, .int .i64 x26] w' (Vc.Ret (.agg #[.int .i64 x45, .int .u64 x46]) w')) ∧
  ∃ (b5 : Bool), (∀ w' : World, Below w.heap.size w w' → Calls Tryd.prog 16 #[.agg #[.int .i64 x45, .int .u64 x46], .agg #[.int .i64 x41, .int .u64 x42]] w' (Vc.Ret (.bool b5) w')) ∧
  ((b0 = true) → (
  ((b4 = true) → (
  (.bool false : Value) = v)) ∧ (¬ (b4 = true) → (
  (.bool (!b5) : Value) = v)))) ∧ (¬ (b0 = true) → (
  (.bool false : Value) = v)))))) ∧ (¬ (x27 = 0) → (
  (.bool b0 : Value) = v)))))) ∧ (¬ (b3 = true) → (
  (.bool false : Value) = v)))) ∧ (¬ (x24 = 0) → (
  ((x21 = 0) → (
  ∃ (x37 : Int), ∃ (x38 : Int), (∀ w' : World, Below w.heap.size w w' → Calls Tryd.prog 15 #[.int .i64 x8] w' (Vc.Ret (.agg #[.int .i64 x37, .int .u64 x38]) w')) ∧
  ∃ (x39 : Int), ∃ (x40 : Int), (∀ w' : World, Below w.heap.size w w' → Calls Tryd.prog 18 #[.agg #[.int .i64 x37, .int .u64 x38], .int .i64 32] w' (Vc.Ret (.agg #[.int .i64 x39, .int .u64 x40]) w')) ∧
  ((x9 < 0) → (
  ∀ x41 : Int, x41 = IntKind.i64.wrap (0 - x20) →
  ∀ x42 : Int, x42 = IntKind.i64.wrap (0 - x19) →
  ∀ x43 : Int, x43 = IntKind.i64.wrap (0 - x9) →
  ∃ (b3 : Bool), (∀ w' : World, Below w.heap.size w w' → Calls Tryd.prog 33 #[.agg #[.int .i64 x39, .int .u64 x40], .int .i64 x41, .int .i64 x42, .int .i64 x43] w' (Vc.Ret (.bool b3) w')) ∧
  ((b3 = true) → (
  ((x27 = 0) → (
  ((x8 < 0) → (
  (.bool b0 : Value) = v)) ∧ (¬ (x8 < 0) → (
  ∃ (x44 : Int), ∃ (x45 : Int), (∀ w' : World, Below w.heap.size w w' → Calls Tryd.prog 15 #[.int .i64 x8] w' (Vc.Ret (.agg #[.int .i64 x44, .int .u64 x45]) w')) ∧
  ∃ (x46 : Int), ∃ (x47 : Int), (∀ w' : World, Below w.heap.size w w' → Calls Tryd.prog 18 #[.agg #[.int .i64 x44, .int .u64 x45], .int .i64 32] w' (Vc.Ret (.agg #[.int .i64 x46, .int .u64 x47]) w')) ∧
  ∃ (x48 : Int), ∃ (x49 : Int), (∀ w' : World, Below w.heap.size w w' → Calls Tryd.prog 13 #[.int .i64 x25, .int .i64 x25] w' (Vc.Ret (.agg #[.int .i64 x48, .int .u64 x49]) w')) ∧
  ∃ (b4 : Bool), (∀ w' : World, Below w.heap.size w w' → Calls Tryd.prog 16 #[.agg #[.int .i64 x46, .int .u64 x47], .agg #[.int .i64 x48, .int .u64 x49]] w' (Vc.Ret (.bool b4) w')) ∧
  ∃ (x50 : Int), ∃ (x51 : Int), (∀ w' : World, Below w.heap.size w w' → Calls Tryd.prog 13 #[.int .i64 x26, .int .i64 x26] w' (Vc.Ret (.agg #[.int .i64 x50, .int .u64 x51]) w')) ∧
  ∃ (b5 : Bool), (∀ w' : World, Below w.heap.size w w' → Calls Tryd.prog 16 #[.agg #[.int .i64 x50, .int .u64 x51], .agg #[.int .i64 x46, .int .u64 x47]] w' (Vc.Ret (.bool b5) w')) ∧
  ((b0 = true) → (
  ((b4 = true) → (
  (.bool false : Value) = v)) ∧ (¬ (b4 = true) → (
  (.bool (!b5) : Value) = v)))) ∧ (¬ (b0 = true) → (
  (.bool false : Value) = v)))))) ∧ (¬ (x27 = 0) → (
  (.bool b0 : Value) = v)))) ∧ (¬ (b3 = true) → (
  (.bool false : Value) = v)))) ∧ (¬ (x9 < 0) → (
  ∃ (b3 : Bool), (∀ w' : World, Below w.heap.size w w' → Calls Tryd.prog 33 #[.agg #[.int .i64 x39, .int .u64 x40], .int .i64 x19, .int .i64 x20, .int .i64 x9] w' (Vc.Ret (.bool b3) w')) ∧
  ((b3 = true) → (
  ((x27 = 0) → (
  ((x8 < 0) → (
  (.bool b0 : Value) = v)) ∧ (¬ (x8 < 0) → (
  ∃ (x41 : Int), ∃ (x42 : Int), (∀ w' : World, Below w.heap.size w w' → Calls Tryd.prog 15 #[.int .i64 x8] w' (Vc.Ret (.agg #[.int .i64 x41, .int .u64 x42]) w')) ∧
  ∃ (x43 : Int), ∃ (x44 : Int), (∀ w' : World, Below w.heap.size w w' → Calls Tryd.prog 18 #[.agg #[.int .i64 x41, .int .u64 x42], .int .i64 32] w' (Vc.Ret (.agg #[.int .i64 x43, .int .u64 x44]) w')) ∧
  ∃ (x45 : Int), ∃ (x46 : Int), (∀ w' : World, Below w.heap.size w w' → Calls Tryd.prog 13 #[.int .i64 x25, .int .i64 x25] w' (Vc.Ret (.agg #[.int .i64 x45, .int .u64 x46]) w')) ∧
  ∃ (b4 : Bool), (∀ w' : World, Below w.heap.size w w' → Calls Tryd.prog 16 #[.agg #[.int .i64 x43, .int .u64 x44], .agg #[.int .i64 x45, .int .u64 x46]] w' (Vc.Ret (.bool b4) w')) ∧
  ∃ (x47 : Int), ∃ (x48 : Int), (∀ w' : World, Below w.heap.size w w' → Calls Tryd.prog 13 #[.int .i64 x26, .int .i64 x26] w' (Vc.Ret (.agg #[.int .i64 x47, .int .u64 x48]) w')) ∧
  ∃ (b5 : Bool), (∀ w' : World, Below w.heap.size w w' → Calls Tryd.prog 16 #[.agg #[.int .i64 x47, .int .u64 x48], .agg #[.int .i64 x43, .int .u64 x44]] w' (Vc.Ret (.bool b5) w')) ∧
  ((b0 = true) → (
  ((b4 = true) → (
  (.bool false : Value) = v)) ∧ (¬ (b4 = true) → (
  (.bool (!b5) : Value) = v)))) ∧ (¬ (b0 = true) → (
  (.bool false : Value) = v)))))) ∧ (¬ (x27 = 0) → (
  (.bool b0 : Value) = v)))) ∧ (¬ (b3 = true) → (
  (.bool false : Value) = v)))))) ∧ (¬ (x21 = 0) → (
  ((x27 = 0) → (
  ((x8 < 0) → (
  (.bool b0 : Value) = v)) ∧ (¬ (x8 < 0) → (
  ∃ (x37 : Int), ∃ (x38 : Int), (∀ w' : World, Below w.heap.size w w' → Calls Tryd.prog 15 #[.int .i64 x8] w' (Vc.Ret (.agg #[.int .i64 x37, .int .u64 x38]) w')) ∧
  ∃ (x39 : Int), ∃ (x40 : Int), (∀ w' : World, Below w.heap.size w w' → Calls Tryd.prog 18 #[.agg #[.int .i64 x37, .int .u64 x38], .int .i64 32] w' (Vc.Ret (.agg #[.int .i64 x39, .int .u64 x40]) w')) ∧
  ∃ (x41 : Int), ∃ (x42 : Int), (∀ w' : World, Below w.heap.size w w' → Calls Tryd.prog 13 #[.int .i64 x25, .int .i64 x25] w' (Vc.Ret (.agg #[.int .i64 x41, .int .u64 x42]) w')) ∧
  ∃ (b3 : Bool), (∀ w' : World, Below w.heap.size w w' → Calls Tryd.prog 16 #[.agg #[.int .i64 x39, .int .u64 x40], .agg #[.int .i64 x41, .int .u64 x42]] w' (Vc.Ret (.bool b3) w')) ∧
  ∃ (x43 : Int), ∃ (x44 : Int), (∀ w' : World, Below w.heap.size w w' → Calls Tryd.prog 13 #[.int .i64 x26, .int .i64 x26] w' (Vc.Ret (.agg #[.int .i64 x43, .int .u64 x44]) w')) ∧
  ∃ (b4 : Bool), (∀ w' : World, Below w.heap.size w w' → Calls Tryd.prog 16 #[.agg #[.int .i64 x43, .int .u64 x44], .agg #[.int .i64 x39, .int .u64 x40]] w' (Vc.Ret (.bool b4) w')) ∧
  ((b0 = true) → (
  ((b3 = true) → (
  (.bool false : Value) = v)) ∧ (¬ (b3 = true) → (
  (.bool (!b4) : Value) = v)))) ∧ (¬ (b0 = true) → (
  (.bool false : Value) = v)))))) ∧ (¬ (x27 = 0) → (
  (.bool b0 : Value) = v)))))))) ∧ (¬ (b2 = true) → (
  (.bool false : Value) = v)))) ∧ (¬ (x18 = 0) → (
  ((x24 = 0) → (
  ∃ (x35 : Int), ∃ (x36 : Int), (∀ w' : World, Below w.heap.size w w' → Calls Tryd.prog 13 #[.int .i64 x8, .int .i64 x8] w' (Vc.Ret (.agg #[.int .i64 x35, .int .u64 x36]) w')) ∧
  ∃ (b2 : Bool), (∀ w' : World, Below w.heap.size w w' → Calls Tryd.prog 33 #[.agg #[.int .i64 x35, .int .u64 x36], .int .i64 x22, .int .i64 x23, .int .i64 4294967296] w' (Vc.Ret (.bool b2) w')) ∧
  ((b2 = true) → (
  ((x21 = 0) → (
  ∃ (x37 : Int), ∃ (x38 : Int), (∀ w' : World, Below w.heap.size w w' → Calls Tryd.prog 15 #[.int .i64 x8] w' (Vc.Ret (.agg #[.int .i64 x37, .int .u64 x38]) w')) ∧
  ∃ (x39 : Int), ∃ (x40 : Int), (∀ w' : World, Below w.heap.size w w' → Calls Tryd.prog 18 #[.agg #[.int .i64 x37, .int .u64 x38], .int .i64 32] w' (Vc.Ret (.agg #[.int .i64 x39, .int .u64 x40]) w')) ∧
  ((x9 < 0) → (
  ∀ x41 : Int, x41 = IntKind.i64.wrap (0 - x20) →
  ∀ x42 : Int, x42 = IntKind.i64.wrap (0 - x19) →
  ∀ x43 : Int, x43 = IntKind.i64.wrap (0 - x9) →
  ∃ (b3 : Bool), (∀ w' : World, Below w.heap.size w w' → Calls Tryd.prog 33 #[.agg #[.int .i64 x39, .int .u64 x40], .int .i64 x41, .int .i64 x42, .int .i64 x43] w' (Vc.Ret (.bool b3) w')) ∧
  ((b3 = true) → (
  ((x27 = 0) → (
  ((x8 < 0) → (
  (.bool b0 : Value) = v)) ∧ (¬ (x8 < 0) → (
  ∃ (x44 : Int), ∃ (x45 : Int), (∀ w' : World, Below w.heap.size w w' → Calls Tryd.prog 15 #[.int .i64 x8] w' (Vc.Ret (.agg #[.int .i64 x44, .int .u64 x45]) w')) ∧
  ∃ (x46 : Int), ∃ (x47 : Int), (∀ w' : World, Below w.heap.size w w' → Calls Tryd.prog 18 #[.agg #[.int .i64 x44, .int .u64 x45], .int .i64 32] w' (Vc.Ret (.agg #[.int .i64 x46, .int .u64 x47]) w')) ∧
  ∃ (x48 : Int), ∃ (x49 : Int), (∀ w' : World, Below w.heap.size w w' → Calls Tryd.prog 13 #[.int .i64 x25, .int .i64 x25] w' (Vc.Ret (.agg #[.int .i64 x48, .int .u64 x49]) w')) ∧
  ∃ (b4 : Bool), (∀ w' : World, Below w.heap.size w w' → Calls Tryd.prog 16 #[.agg #[.int .i64 x46, .int .u64 x47], .agg #[.int .i64 x48, .int .u64 x49]] w' (Vc.Ret (.bool b4) w')) ∧
  ∃ (x50 : Int), ∃ (x51 : Int), (∀ w' : World, Below w.heap.size w w' → Calls Tryd.prog 13 #[.int .i64 x26, .int .i64 x26] w' (Vc.Ret (.agg #[.int .i64 x50, .int .u64 x51]) w')) ∧
  ∃ (b5 : Bool), (∀ w' : World, Below w.heap.size w w' → Calls Tryd.prog 16 #[.agg #[.int .i64 x50, .int .u64 x51], .agg #[.int .i64 x46, .int .u64 x47]] w' (Vc.Ret (.bool b5) w')) ∧
  ((b0 = true) → (
  ((b4 = true) → (
  (.bool false : Value) = v)) ∧ (¬ (b4 = true) → (
  (.bool (!b5) : Value) = v)))) ∧ (¬ (b0 = true) → (
  (.bool false : Value) = v)))))) ∧ (¬ (x27 = 0) → (
  (.bool b0 : Value) = v)))) ∧ (¬ (b3 = true) → (
  (.bool false : Value) = v)))) ∧ (¬ (x9 < 0) → (
  ∃ (b3 : Bool), (∀ w' : World, Below w.heap.size w w' → Calls Tryd.prog 33 #[.agg #[.int .i64 x39, .int .u64 x40], .int .i64 x19, .int .i64 x20, .int .i64 x9] w' (Vc.Ret (.bool b3) w')) ∧
  ((b3 = true) → (
  ((x27 = 0) → (
  ((x8 < 0) → (
  (.bool b0 : Value) = v)) ∧ (¬ (x8 < 0) → (
  ∃ (x41 : Int), ∃ (x42 : Int), (∀ w' : World, Below w.heap.size w w' → Calls Tryd.prog 15 #[.int .i64 x8] w' (Vc.Ret (.agg #[.int .i64 x41, .int .u64 x42]) w')) ∧
  ∃ (x43 : Int), ∃ (x44 : Int), (∀ w' : World, Below w.heap.size w w' → Calls Tryd.prog 18 #[.agg #[.int .i64 x41, .int .u64 x42], .int .i64 32] w' (Vc.Ret (.agg #[.int .i64 x43, .int .u64 x44]) w')) ∧
  ∃ (x45 : Int), ∃ (x46 : Int), (∀ w' : World, Below w.heap.size w w' → Calls Tryd.prog 13 #[.int .i64 x25, .int .i64 x25] w' (Vc.Ret (.agg #[.int .i64 x45, .int .u64 x46]) w')) ∧
  ∃ (b4 : Bool), (∀ w' : World, Below w.heap.size w w' → Calls Tryd.prog 16 #[.agg #[.int .i64 x43, .int .u64 x44], .agg #[.int .i64 x45, .int .u64 x46]] w' (Vc.Ret (.bool b4) w')) ∧
  ∃ (x47 : Int), ∃ (x48 : Int), (∀ w' : World, Below w.heap.size w w' → Calls Tryd.prog 13 #[.int .i64 x26, .int .i64 x26] w' (Vc.Ret (.agg #[.int .i64 x47, .int .u64 x48]) w')) ∧
  ∃ (b5 : Bool), (∀ w' : World, Below w.heap.size w w' → Calls Tryd.prog 16 #[.agg #[.int .i64 x47, .int .u64 x48], .agg #[.int .i64 x43, .int .u64 x44]] w' (Vc.Ret (.bool b5) w')) ∧
  ((b0 = true) → (
  ((b4 = true) → (
  (.bool false : Value) = v)) ∧ (¬ (b4 = true) → (
  (.bool (!b5) : Value) = v)))) ∧ (¬ (b0 = true) → (
  (.bool false : Value) = v)))))) ∧ (¬ (x27 = 0) → (
  (.bool b0 : Value) = v)))) ∧ (¬ (b3 = true) → (
  (.bool false : Value) = v)))))) ∧ (¬ (x21 = 0) → (
  ((x27 = 0) → (
  ((x8 < 0) → (
  (.bool b0 : Value) = v)) ∧ (¬ (x8 < 0) → (
  ∃ (x37 : Int), ∃ (x38 : Int), (∀ w' : World, Below w.heap.size w w' → Calls Tryd.prog 15 #[.int .i64 x8] w' (Vc.Ret (.agg #[.int .i64 x37, .int .u64 x38]) w')) ∧
  ∃ (x39 : Int), ∃ (x40 : Int), (∀ w' : World, Below w.heap.size w w' → Calls Tryd.prog 18 #[.agg #[.int .i64 x37, .int .u64 x38], .int .i64 32] w' (Vc.Ret (.agg #[.int .i64 x39, .int .u64 x40]) w')) ∧
  ∃ (x41 : Int), ∃ (x42 : Int), (∀ w' : World, Below w.heap.size w w' → Calls Tryd.prog 13 #[.int .i64 x25, .int .i64 x25] w' (Vc.Ret (.agg #[.int .i64 x41, .int .u64 x42]) w')) ∧
  ∃ (b3 : Bool), (∀ w' : World, Below w.heap.size w w' → Calls Tryd.prog 16 #[.agg #[.int .i64 x39, .int .u64 x40], .agg #[.int .i64 x41, .int .u64 x42]] w' (Vc.Ret (.bool b3) w')) ∧
  ∃ (x43 : Int), ∃ (x44 : Int), (∀ w' : World, Below w.heap.size w w' → Calls Tryd.prog 13 #[.int .i64 x26, .int .i64 x26] w' (Vc.Ret (.agg #[.int .i64 x43, .int .u64 x44]) w')) ∧
  ∃ (b4 : Bool), (∀ w' : World, Below w.heap.size w w' → Calls Tryd.prog 16 #[.agg #[.int .i64 x43, .int .u64 x44], .agg #[.int .i64 x39, .int .u64 x40]] w' (Vc.Ret (.bool b4) w')) ∧
  ((b0 = true) → (
  ((b3 = true) → (
  (.bool false : Value) = v)) ∧ (¬ (b3 = true) → (
  (.bool (!b4) : Value) = v)))) ∧ (¬ (b0 = true) → (
  (.bool false : Value) = v)))))) ∧ (¬ (x27 = 0) → (
  (.bool b0 : Value) = v)))))) ∧ (¬ (b2 = true) → (
  (.bool false : Value) = v)))) ∧ (¬ (x24 = 0) → (
  ((x21 = 0) → (
  ∃ (x35 : Int), ∃ (x36 : Int), (∀ w' : World, Below w.heap.size w w' → Calls Tryd.prog 15 #[.int .i64 x8] w' (Vc.Ret (.agg #[.int .i64 x35, .int .u64 x36]) w')) ∧
  ∃ (x37 : Int), ∃ (x38 : Int), (∀ w' : World, Below w.heap.size w w' → Calls Tryd.prog 18 #[.agg #[.int .i64 x35, .int .u64 x36], .int .i64 32] w' (Vc.Ret (.agg #[.int .i64 x37, .int .u64 x38]) w')) ∧
  ((x9 < 0) → (
  ∀ x39 : Int, x39 = IntKind.i64.wrap (0 - x20) →
  ∀ x40 : Int, x40 = IntKind.i64.wrap (0 - x19) →
  ∀ x41 : Int, x41 = IntKind.i64.wrap (0 - x9) →
  ∃ (b2 : Bool), (∀ w' : World, Below w.heap.size w w' → Calls Tryd.prog 33 #[.agg #[.int .i64 x37, .int .u64 x38], .int .i64 x39, .int .i64 x40, .int .i64 x41] w' (Vc.Ret (.bool b2) w')) ∧
  ((b2 = true) → (
  ((x27 = 0) → (
  ((x8 < 0) → (
  (.bool b0 : Value) = v)) ∧ (¬ (x8 < 0) → (
  ∃ (x42 : Int), ∃ (x43 : Int), (∀ w' : World, Below w.heap.size w w' → Calls Tryd.prog 15 #[.int .i64 x8] w' (Vc.Ret (.agg #[.int .i64 x42, .int .u64 x43]) w')) ∧
  ∃ (x44 : Int), ∃ (x45 : Int), (∀ w' : World, Below w.heap.size w w' → Calls Tryd.prog 18 #[.agg #[.int .i64 x42, .int .u64 x43], .int .i64 32] w' (Vc.Ret (.agg #[.int .i64 x44, .int .u64 x45]) w')) ∧
  ∃ (x46 : Int), ∃ (x47 : Int), (∀ w' : World, Below w.heap.size w w' → Calls Tryd.prog 13 #[.int .i64 x25, .int .i64 x25] w' (Vc.Ret (.agg #[.int .i64 x46, .int .u64 x47]) w')) ∧
  ∃ (b3 : Bool), (∀ w' : World, Below w.heap.size w w' → Calls Tryd.prog 16 #[.agg #[.int .i64 x44, .int .u64 x45], .agg #[.int .i64 x46, .int .u64 x47]] w' (Vc.Ret (.bool b3) w')) ∧
  ∃ (x48 : Int), ∃ (x49 : Int), (∀ w' : World, Below w.heap.size w w' → Calls Tryd.prog 13 #[.int .i64 x26, .int .i64 x26] w' (Vc.Ret (.agg #[.int .i64 x48, .int .u64 x49]) w')) ∧
  ∃ (b4 : Bool), (∀ w' : World, Below w.heap.size w w' → Calls Tryd.prog 16 #[.agg #[.int .i64 x48, .int .u64 x49], .agg #[.int .i64 x44, .int .u64 x45]] w' (Vc.Ret (.bool b4) w')) ∧
  ((b0 = true) → (
  ((b3 = true) → (
  (.bool false : Value) = v)) ∧ (¬ (b3 = true) → (
  (.bool (!b4) : Value) = v)))) ∧ (¬ (b0 = true) → (
  (.bool false : Value) = v)))))) ∧ (¬ (x27 = 0) → (
  (.bool b0 : Value) = v)))) ∧ (¬ (b2 = true) → (
  (.bool false : Value) = v)))) ∧ (¬ (x9 < 0) → (
  ∃ (b2 : Bool), (∀ w' : World, Below w.heap.size w w' → Calls Tryd.prog 33 #[.agg #[.int .i64 x37, .int .u64 x38], .int .i64 x19, .int .i64 x20, .int .i64 x9] w' (Vc.Ret (.bool b2) w')) ∧
  ((b2 = true) → (
  ((x27 = 0) → (
  ((x8 < 0) → (
  (.bool b0 : Value) = v)) ∧ (¬ (x8 < 0) → (
  ∃ (x39 : Int), ∃ (x40 : Int), (∀ w' : World, Below w.heap.size w w' → Calls Tryd.prog 15 #[.int .i64 x8] w' (Vc.Ret (.agg #[.int .i64 x39, .int .u64 x40]) w')) ∧
  ∃ (x41 : Int), ∃ (x42 : Int), (∀ w' : World, Below w.heap.size w w' → Calls Tryd.prog 18 #[.agg #[.int .i64 x39, .int .u64 x40], .int .i64 32] w' (Vc.Ret (.agg #[.int .i64 x41, .int .u64 x42]) w')) ∧
  ∃ (x43 : Int), ∃ (x44 : Int), (∀ w' : World, Below w.heap.size w w' → Calls Tryd.prog 13 #[.int .i64 x25, .int .i64 x25] w' (Vc.Ret (.agg #[.int .i64 x43, .int .u64 x44]) w')) ∧
  ∃ (b3 : Bool), (∀ w' : World, Below w.heap.size w w' → Calls Tryd.prog 16 #[.agg #[.int .i64 x41, .int .u64 x42], .agg #[.int .i64 x43, .int .u64 x44]] w' (Vc.Ret (.bool b3) w')) ∧
  ∃ (x45 : Int), ∃ (x46 : Int), (∀ w' : World, Below w.heap.size w w' → Calls Tryd.prog 13 #[.int .i64 x26, .int .i64 x26] w' (Vc.Ret (.agg #[.int .i64 x45, .int .u64 x46]) w')) ∧
  ∃ (b4 : Bool), (∀ w' : World, Below w.heap.size w w' → Calls Tryd.prog 16 #[.agg #[.int .i64 x45, .int .u64 x46], .agg #[.int .i64 x41, .int .u64 x42]] w' (Vc.Ret (.bool b4) w')) ∧
  ((b0 = true) → (
  ((b3 = true) → (
  (.bool false : Value) = v)) ∧ (¬ (b3 = true) → (
  (.bool (!b4) : Value) = v)))) ∧ (¬ (b0 = true) → (
  (.bool false : Value) = v)))))) ∧ (¬ (x27 = 0) → (
  (.bool b0 : Value) = v)))) ∧ (¬ (b2 = true) → (
  (.bool false : Value) = v)))))) ∧ (¬ (x21 = 0) → (
  ((x27 = 0) → (
  ((x8 < 0) → (
  (.bool b0 : Value) = v)) ∧ (¬ (x8 < 0) → (
  ∃ (x35 : Int), ∃ (x36 : Int), (∀ w' : World, Below w.heap.size w w' → Calls Tryd.prog 15 #[.int .i64 x8] w' (Vc.Ret (.agg #[.int .i64 x35, .int .u64 x36]) w')) ∧
  ∃ (x37 : Int), ∃ (x38 : Int), (∀ w' : World, Below w.heap.size w w' → Calls Tryd.prog 18 #[.agg #[.int .i64 x35, .int .u64 x36], .int .i64 32] w' (Vc.Ret (.agg #[.int .i64 x37, .int .u64 x38]) w')) ∧
  ∃ (x39 : Int), ∃ (x40 : Int), (∀ w' : World, Below w.heap.size w w' → Calls Tryd.prog 13 #[.int .i64 x25, .int .i64 x25] w' (Vc.Ret (.agg #[.int .i64 x39, .int .u64 x40]) w')) ∧
  ∃ (b2 : Bool), (∀ w' : World, Below w.heap.size w w' → Calls Tryd.prog 16 #[.agg #[.int .i64 x37, .int .u64 x38], .agg #[.int .i64 x39, .int .u64 x40]] w' (Vc.Ret (.bool b2) w')) ∧
  ∃ (x41 : Int), ∃ (x42 : Int), (∀ w' : World, Below w.heap.size w w' → Calls Tryd.prog 13 #[.int .i64 x26, .int .i64 x26] w' (Vc.Ret (.agg #[.int .i64 x41, .int .u64 x42]) w')) ∧
  ∃ (b3 : Bool), (∀ w' : World, Below w.heap.size w w' → Calls Tryd.prog 16 #[.agg #[.int .i64 x41, .int .u64 x42], .agg #[.int .i64 x37, .int .u64 x38]] w' (Vc.Ret (.bool b3) w')) ∧
  ((b0 = true) → (
  ((b2 = true) → (
  (.bool false : Value) = v)) ∧ (¬ (b2 = true) → (
  (.bool (!b3) : Value) = v)))) ∧ (¬ (b0 = true) → (
  (.bool false : Value) = v)))))) ∧ (¬ (x27 = 0) → (
  (.bool b0 : Value) = v)))))))))) ∧ (¬ (b1 = true) → (
  (.bool false : Value) = v)))) ∧ (¬ (x15 = 0) → (
  ((x18 = 0) → (
  ∃ (x28 : Int), ∃ (x29 : Int), (∀ w' : World, Below w.heap.size w w' → Calls Tryd.prog 13 #[.int .i64 x8, .int .i64 x9] w' (Vc.Ret (.agg #[.int .i64 x28, .int .u64 x29]) w')) ∧
  ∃ (b1 : Bool), (∀ w' : World, Below w.heap.size w w' → Calls Tryd.prog 33 #[.agg #[.int .i64 x28, .int .u64 x29], .int .i64 x16, .int .i64 x17, .int .i64 4294967296] w' (Vc.Ret (.bool b1) w')) ∧
  ((b1 = true) → (
  ((x24 = 0) → (
  ∃ (x30 : Int), ∃ (x31 : Int), (∀ w' : World, Below w.heap.size w w' → Calls Tryd.prog 13 #[.int .i64 x8, .int .i64 x8] w' (Vc.Ret (.agg #[.int .i64 x30, .int .u64 x31]) w')) ∧
  ∃ (b2 : Bool), (∀ w' : World, Below w.heap.size w w' → Calls Tryd.prog 33 #[.agg #[.int .i64 x30, .int .u64 x31], .int .i64 x22, .int .i64 x23, .int .i64 4294967296] w' (Vc.Ret (.bool b2) w')) ∧
  ((b2 = true) → (
  ((x21 = 0) → (
  ∃ (x32 : Int), ∃ (x33 : Int), (∀ w' : World, Below w.heap.size w w' → Calls Tryd.prog 15 #[.int .i64 x8] w' (Vc.Ret (.agg #[.int .i64 x32, .int .u64 x33]) w')) ∧
  ∃ (x34 : Int), ∃ (x35 : Int), (∀ w' : World, Below w.heap.size w w' → Calls Tryd.prog 18 #[.agg #[.int .i64 x32, .int .u64 x33], .int .i64 32] w' (Vc.Ret (.agg #[.int .i64 x34, .int .u64 x35]) w')) ∧
  ((x9 < 0) → (
  ∀ x36 : Int, x36 = IntKind.i64.wrap (0 - x20) →
  ∀ x37 : Int, x37 = IntKind.i64.wrap (0 - x19) →
  ∀ x38 : Int, x38 = IntKind.i64.wrap (0 - x9) →
  ∃ (b3 : Bool), (∀ w' : World, Below w.heap.size w w' → Calls Tryd.prog 33 #[.agg #[.int .i64 x34, .int .u64 x35], .int .i64 x36, .int .i64 x37, .int .i64 x38] w' (Vc.Ret (.bool b3) w')) ∧
  ((b3 = true) → (
  ((x27 = 0) → (
  ((x8 < 0) → (
  (.bool b0 : Value) = v)) ∧ (¬ (x8 < 0) → (
  ∃ (x39 : Int), ∃ (x40 : Int), (∀ w' : World, Below w.heap.size w w' → Calls Tryd.prog 15 #[.int .i64 x8] w' (Vc.Ret (.agg #[.int .i64 x39, .int .u64 x40]) w')) ∧
  ∃ (x41 : Int), ∃ (x42 : Int), (∀ w' : World, Below w.heap.size w w' → Calls Tryd.prog 18 #[.agg #[.int .i64 x39, .int .u64 x40], .int .i64 32] w' (Vc.Ret (.agg #[.int .i64 x41, .int .u64 x42]) w')) ∧
  ∃ (x43 : Int), ∃ (x44 : Int), (∀ w' : World, Below w.heap.size w w' → Calls Tryd.prog 13 #[.int .i64 x25, .int .i64 x25] w' (Vc.Ret (.agg #[.int .i64 x43, .int .u64 x44]) w')) ∧
  ∃ (b4 : Bool), (∀ w' : World, Below w.heap.size w w' → Calls Tryd.prog 16 #[.agg #[.int .i64 x41, .int .u64 x42], .agg #[.int .i64 x43, .int .u64 x44]] w' (Vc.Ret (.bool b4) w')) ∧
  ∃ (x45 : Int), ∃ (x46 : Int), (∀ w' : World, Below w.heap.size w w' → Calls Tryd.prog 13 #[.int .i64 x26, .int .i64 x26] w' (Vc.Ret (.agg #[.int .i64 x45, .int .u64 x46]) w')) ∧
  ∃ (b5 : Bool), (∀ w' : World, Below w.heap.size w w' → Calls Tryd.prog 16 #[.agg #[.int .i64 x45, .int .u64 x46], .agg #[.int .i64 x41, .int .u64 x42]] w' (Vc.Ret (.bool b5) w')) ∧
  ((b0 = true) → (
  ((b4 = true) → (
  (.bool false : Value) = v)) ∧ (¬ (b4 = true) → (
  (.bool (!b5) : Value) = v)))) ∧ (¬ (b0 = true) → (
  (.bool false : Value) = v)))))) ∧ (¬ (x27 = 0) → (
  (.bool b0 : Value) = v)))) ∧ (¬ (b3 = true) → (
  (.bool false : Value) = v)))) ∧ (¬ (x9 < 0) → (
  ∃ (b3 : Bool), (∀ w' : World, Below w.heap.size w w' → Calls Tryd.prog 33 #[.agg #[.int .i64 x34, .int .u64 x35], .int .i64 x19, .int .i64 x20, .int .i64 x9] w' (Vc.Ret (.bool b3) w')) ∧
  ((b3 = true) → (
  ((x27 = 0) → (
  ((x8 < 0) → (
  (.bool b0 : Value) = v)) ∧ (¬ (x8 < 0) → (
  ∃ (x36 : Int), ∃ (x37 : Int), (∀ w' : World, Below w.heap.size w w' → Calls Tryd.prog 15 #[.int .i64 x8] w' (Vc.Ret (.agg #[.int .i64 x36, .int .u64 x37]) w')) ∧
  ∃ (x38 : Int), ∃ (x39 : Int), (∀ w' : World, Below w.heap.size w w' → Calls Tryd.prog 18 #[.agg #[.int .i64 x36, .int .u64 x37], .int .i64 32] w' (Vc.Ret (.agg #[.int .i64 x38, .int .u64 x39]) w')) ∧
  ∃ (x40 : Int), ∃ (x41 : Int), (∀ w' : World, Below w.heap.size w w' → Calls Tryd.prog 13 #[.int .i64 x25, .int .i64 x25] w' (Vc.Ret (.agg #[.int .i64 x40, .int .u64 x41]) w')) ∧
  ∃ (b4 : Bool), (∀ w' : World, Below w.heap.size w w' → Calls Tryd.prog 16 #[.agg #[.int .i64 x38, .int .u64 x39], .agg #[.int .i64 x40, .int .u64 x41]] w' (Vc.Ret (.bool b4) w')) ∧
  ∃ (x42 : Int), ∃ (x43 : Int), (∀ w' : World, Below w.heap.size w w' → Calls Tryd.prog 13 #[.int .i64 x26, .int .i64 x26] w' (Vc.Ret (.agg #[.int .i64 x42, .int .u64 x43]) w')) ∧
  ∃ (b5 : Bool), (∀ w' : World, Below w.heap.size w w' → Calls Tryd.prog 16 #[.agg #[.int .i64 x42, .int .u64 x43], .agg #[.int .i64 x38, .int .u64 x39]] w' (Vc.Ret (.bool b5) w')) ∧
  ((b0 = true) → (
  ((b4 = true) → (
  (.bool false : Value) = v)) ∧ (¬ (b4 = true) → (
  (.bool (!b5) : Value) = v)))) ∧ (¬ (b0 = true) → (
  (.bool false : Value) = v)))))) ∧ (¬ (x27 = 0) → (
  (.bool b0 : Value) = v)))) ∧ (¬ (b3 = true) → (
  (.bool false : Value) = v)))))) ∧ (¬ (x21 = 0) → (
  ((x27 = 0) → (
  ((x8 < 0) → (
  (.bool b0 : Value) = v)) ∧ (¬ (x8 < 0) → (
  ∃ (x32 : Int), ∃ (x33 : Int), (∀ w' : World, Below w.heap.size w w' → Calls Tryd.prog 15 #[.int .i64 x8] w' (Vc.Ret (.agg #[.int .i64 x32, .int .u64 x33]) w')) ∧
  ∃ (x34 : Int), ∃ (x35 : Int), (∀ w' : World, Below w.heap.size w w' → Calls Tryd.prog 18 #[.agg #[.int .i64 x32, .int .u64 x33], .int .i64 32] w' (Vc.Ret (.agg #[.int .i64 x34, .int .u64 x35]) w')) ∧
  ∃ (x36 : Int), ∃ (x37 : Int), (∀ w' : World, Below w.heap.size w w' → Calls Tryd.prog 13 #[.int .i64 x25, .int .i64 x25] w' (Vc.Ret (.agg #[.int .i64 x36, .int .u64 x37]) w')) ∧
  ∃ (b3 : Bool), (∀ w' : World, Below w.heap.size w w' → Calls Tryd.prog 16 #[.agg #[.int .i64 x34, .int .u64 x35], .agg #[.int .i64 x36, .int .u64 x37]] w' (Vc.Ret (.bool b3) w')) ∧
  ∃ (x38 : Int), ∃ (x39 : Int), (∀ w' : World, Below w.heap.size w w' → Calls Tryd.prog 13 #[.int .i64 x26, .int .i64 x26] w' (Vc.Ret (.agg #[.int .i64 x38, .int .u64 x39]) w')) ∧
  ∃ (b4 : Bool), (∀ w' : World, Below w.heap.size w w' → Calls Tryd.prog 16 #[.agg #[.int .i64 x38, .int .u64 x39], .agg #[.int .i64 x34, .int .u64 x35]] w' (Vc.Ret (.bool b4) w')) ∧
  ((b0 = true) → (
  ((b3 = true) → (
  (.bool false : Value) = v)) ∧ (¬ (b3 = true) → (
  (.bool (!b4) : Value) = v)))) ∧ (¬ (b0 = true) → (
  (.bool false : Value) = v)))))) ∧ (¬ (x27 = 0) → (
  (.bool b0 : Value) = v)))))) ∧ (¬ (b2 = true) → (
  (.bool false : Value) = v)))) ∧ (¬ (x24 = 0) → (
  ((x21 = 0) → (
  ∃ (x30 : Int), ∃ (x31 : Int), (∀ w' : World, Below w.heap.size w w' → Calls Tryd.prog 15 #[.int .i64 x8] w' (Vc.Ret (.agg #[.int .i64 x30, .int .u64 x31]) w')) ∧
  ∃ (x32 : Int), ∃ (x33 : Int), (∀ w' : World, Below w.heap.size w w' → Calls Tryd.prog 18 #[.agg #[.int .i64 x30, .int .u64 x31], .int .i64 32] w' (Vc.Ret (.agg #[.int .i64 x32, .int .u64 x33]) w')) ∧
  ((x9 < 0) → (
  ∀ x34 : Int, x34 = IntKind.i64.wrap (0 - x20) →
  ∀ x35 : Int, x35 = IntKind.i64.wrap (0 - x19) →
  ∀ x36 : Int, x36 = IntKind.i64.wrap (0 - x9) →
  ∃ (b2 : Bool), (∀ w' : World, Below w.heap.size w w' → Calls Tryd.prog 33 #[.agg #[.int .i64 x32, .int .u64 x33], .int .i64 x34, .int .i64 x35, .int .i64 x36] w' (Vc.Ret (.bool b2) w')) ∧
  ((b2 = true) → (
  ((x27 = 0) → (
  ((x8 < 0) → (
  (.bool b0 : Value) = v)) ∧ (¬ (x8 < 0) → (
  ∃ (x37 : Int), ∃ (x38 : Int), (∀ w' : World, Below w.heap.size w w' → Calls Tryd.prog 15 #[.int .i64 x8] w' (Vc.Ret (.agg #[.int .i64 x37, .int .u64 x38]) w')) ∧
  ∃ (x39 : Int), ∃ (x40 : Int), (∀ w' : World, Below w.heap.size w w' → Calls Tryd.prog 18 #[.agg #[.int .i64 x37, .int .u64 x38], .int .i64 32] w' (Vc.Ret (.agg #[.int .i64 x39, .int .u64 x40]) w')) ∧
  ∃ (x41 : Int), ∃ (x42 : Int), (∀ w' : World, Below w.heap.size w w' → Calls Tryd.prog 13 #[.int .i64 x25, .int .i64 x25] w' (Vc.Ret (.agg #[.int .i64 x41, .int .u64 x42]) w')) ∧
  ∃ (b3 : Bool), (∀ w' : World, Below w.heap.size w w' → Calls Tryd.prog 16 #[.agg #[.int .i64 x39, .int .u64 x40], .agg #[.int .i64 x41, .int .u64 x42]] w' (Vc.Ret (.bool b3) w')) ∧
  ∃ (x43 : Int), ∃ (x44 : Int), (∀ w' : World, Below w.heap.size w w' → Calls Tryd.prog 13 #[.int .i64 x26, .int .i64 x26] w' (Vc.Ret (.agg #[.int .i64 x43, .int .u64 x44]) w')) ∧
  ∃ (b4 : Bool), (∀ w' : World, Below w.heap.size w w' → Calls Tryd.prog 16 #[.agg #[.int .i64 x43, .int .u64 x44], .agg #[.int .i64 x39, .int .u64 x40]] w' (Vc.Ret (.bool b4) w')) ∧
  ((b0 = true) → (
  ((b3 = true) → (
  (.bool false : Value) = v)) ∧ (¬ (b3 = true) → (
  (.bool (!b4) : Value) = v)))) ∧ (¬ (b0 = true) → (
  (.bool false : Value) = v)))))) ∧ (¬ (x27 = 0) → (
  (.bool b0 : Value) = v)))) ∧ (¬ (b2 = true) → (
  (.bool false : Value) = v)))) ∧ (¬ (x9 < 0) → (
  ∃ (b2 : Bool), (∀ w' : World, Below w.heap.size w w' → Calls Tryd.prog 33 #[.agg #[.int .i64 x32, .int .u64 x33], .int .i64 x19, .int .i64 x20, .int .i64 x9] w' (Vc.Ret (.bool b2) w')) ∧
  ((b2 = true) → (
  ((x27 = 0) → (
  ((x8 < 0) → (
  (.bool b0 : Value) = v)) ∧ (¬ (x8 < 0) → (
  ∃ (x34 : Int), ∃ (x35 : Int), (∀ w' : World, Below w.heap.size w w' → Calls Tryd.prog 15 #[.int .i64 x8] w' (Vc.Ret (.agg #[.int .i64 x34, .int .u64 x35]) w')) ∧
  ∃ (x36 : Int), ∃ (x37 : Int), (∀ w' : World, Below w.heap.size w w' → Calls Tryd.prog 18 #[.agg #[.int .i64 x34, .int .u64 x35], .int .i64 32] w' (Vc.Ret (.agg #[.int .i64 x36, .int .u64 x37]) w')) ∧
  ∃ (x38 : Int), ∃ (x39 : Int), (∀ w' : World, Below w.heap.size w w' → Calls Tryd.prog 13 #[.int .i64 x25, .int .i64 x25] w' (Vc.Ret (.agg #[.int .i64 x38, .int .u64 x39]) w')) ∧
  ∃ (b3 : Bool), (∀ w' : World, Below w.heap.size w w' → Calls Tryd.prog 16 #[.agg #[.int .i64 x36, .int .u64 x37], .agg #[.int .i64 x38, .int .u64 x39]] w' (Vc.Ret (.bool b3) w')) ∧
  ∃ (x40 : Int), ∃ (x41 : Int), (∀ w' : World, Below w.heap.size w w' → Calls Tryd.prog 13 #[.int .i64 x26, .int .i64 x26] w' (Vc.Ret (.agg #[.int .i64 x40, .int .u64 x41]) w')) ∧
  ∃ (b4 : Bool), (∀ w' : World, Below w.heap.size w w' → Calls Tryd.prog 16 #[.agg #[.int .i64 x40, .int .u64 x41], .agg #[.int .i64 x36, .int .u64 x37]] w' (Vc.Ret (.bool b4) w')) ∧
  ((b0 = true) → (
  ((b3 = true) → (
  (.bool false : Value) = v)) ∧ (¬ (b3 = true) → (
  (.bool (!b4) : Value) = v)))) ∧ (¬ (b0 = true) → (
  (.bool false : Value) = v)))))) ∧ (¬ (x27 = 0) → (
  (.bool b0 : Value) = v)))) ∧ (¬ (b2 = true) → (
  (.bool false : Value) = v)))))) ∧ (¬ (x21 = 0) → (
  ((x27 = 0) → (
  ((x8 < 0) → (
  (.bool b0 : Value) = v)) ∧ (¬ (x8 < 0) → (
  ∃ (x30 : Int), ∃ (x31 : Int), (∀ w' : World, Below w.heap.size w w' → Calls Tryd.prog 15 #[.int .i64 x8] w' (Vc.Ret (.agg #[.int .i64 x30, .int .u64 x31]) w')) ∧
  ∃ (x32 : Int), ∃ (x33 : Int), (∀ w' : World, Below w.heap.size w w' → Calls Tryd.prog 18 #[.agg #[.int .i64 x30, .int .u64 x31], .int .i64 32] w' (Vc.Ret (.agg #[.int .i64 x32, .int .u64 x33]) w')) ∧
  ∃ (x34 : Int), ∃ (x35 : Int), (∀ w' : World, Below w.heap.size w w' → Calls Tryd.prog 13 #[.int .i64 x25, .int .i64 x25] w' (Vc.Ret (.agg #[.int .i64 x34, .int .u64 x35]) w')) ∧
  ∃ (b2 : Bool), (∀ w' : World, Below w.heap.size w w' → Calls Tryd.prog 16 #[.agg #[.int .i64 x32, .int .u64 x33], .agg #[.int .i64 x34, .int .u64 x35]] w' (Vc.Ret (.bool b2) w')) ∧
  ∃ (x36 : Int), ∃ (x37 : Int), (∀ w' : World, Below w.heap.size w w' → Calls Tryd.prog 13 #[.int .i64 x26, .int .i64 x26] w' (Vc.Ret (.agg #[.int .i64 x36, .int .u64 x37]) w')) ∧
  ∃ (b3 : Bool), (∀ w' : World, Below w.heap.size w w' → Calls Tryd.prog 16 #[.agg #[.int .i64 x36, .int .u64 x37], .agg #[.int .i64 x32, .int .u64 x33]] w' (Vc.Ret (.bool b3) w')) ∧
  ((b0 = true) → (
  ((b2 = true) → (
  (.bool false : Value) = v)) ∧ (¬ (b2 = true) → (
  (.bool (!b3) : Value) = v)))) ∧ (¬ (b0 = true) → (
  (.bool false : Value) = v)))))) ∧ (¬ (x27 = 0) → (
  (.bool b0 : Value) = v)))))))) ∧ (¬ (b1 = true) → (
  (.bool false : Value) = v)))) ∧ (¬ (x18 = 0) → (
  ((x24 = 0) → (
  ∃ (x28 : Int), ∃ (x29 : Int), (∀ w' : World, Below w.heap.size w w' → Calls Tryd.prog 13 #[.int .i64 x8, .int .i64 x8] w' (Vc.Ret (.agg #[.int .i64 x28, .int .u64 x29]) w')) ∧
  ∃ (b1 : Bool), (∀ w' : World, Below w.heap.size w w' → Calls Tryd.prog 33 #[.agg #[.int .i64 x28, .int .u64 x29], .int .i64 x22, .int .i64 x23, .int .i64 4294967296] w' (Vc.Ret (.bool b1) w')) ∧
  ((b1 = true) → (
  ((x21 = 0) → (
  ∃ (x30 : Int), ∃ (x31 : Int), (∀ w' : World, Below w.heap.size w w' → Calls Tryd.prog 15 #[.int .i64 x8] w' (Vc.Ret (.agg #[.int .i64 x30, .int .u64 x31]) w')) ∧
  ∃ (x32 : Int), ∃ (x33 : Int), (∀ w' : World, Below w.heap.size w w' → Calls Tryd.prog 18 #[.agg #[.int .i64 x30, .int .u64 x31], .int .i64 32] w' (Vc.Ret (.agg #[.int .i64 x32, .int .u64 x33]) w')) ∧
  ((x9 < 0) → (
  ∀ x34 : Int, x34 = IntKind.i64.wrap (0 - x20) →
  ∀ x35 : Int, x35 = IntKind.i64.wrap (0 - x19) →
  ∀ x36 : Int, x36 = IntKind.i64.wrap (0 - x9) →
  ∃ (b2 : Bool), (∀ w' : World, Below w.heap.size w w' → Calls Tryd.prog 33 #[.agg #[.int .i64 x32, .int .u64 x33], .int .i64 x34, .int .i64 x35, .int .i64 x36] w' (Vc.Ret (.bool b2) w')) ∧
  ((b2 = true) → (
  ((x27 = 0) → (
  ((x8 < 0) → (
  (.bool b0 : Value) = v)) ∧ (¬ (x8 < 0) → (
  ∃ (x37 : Int), ∃ (x38 : Int), (∀ w' : World, Below w.heap.size w w' → Calls Tryd.prog 15 #[.int .i64 x8] w' (Vc.Ret (.agg #[.int .i64 x37, .int .u64 x38]) w')) ∧
  ∃ (x39 : Int), ∃ (x40 : Int), (∀ w' : World, Below w.heap.size w w' → Calls Tryd.prog 18 #[.agg #[.int .i64 x37, .int .u64 x38], .int .i64 32] w' (Vc.Ret (.agg #[.int .i64 x39, .int .u64 x40]) w')) ∧
  ∃ (x41 : Int), ∃ (x42 : Int), (∀ w' : World, Below w.heap.size w w' → Calls Tryd.prog 13 #[.int .i64 x25, .int .i64 x25] w' (Vc.Ret (.agg #[.int .i64 x41, .int .u64 x42]) w')) ∧
  ∃ (b3 : Bool), (∀ w' : World, Below w.heap.size w w' → Calls Tryd.prog 16 #[.agg #[.int .i64 x39, .int .u64 x40], .agg #[.int .i64 x41, .int .u64 x42]] w' (Vc.Ret (.bool b3) w')) ∧
  ∃ (x43 : Int), ∃ (x44 : Int), (∀ w' : World, Below w.heap.size w w' → Calls Tryd.prog 13 #[.int .i64 x26, .int .i64 x26] w' (Vc.Ret (.agg #[.int .i64 x43, .int .u64 x44]) w')) ∧
  ∃ (b4 : Bool), (∀ w' : World, Below w.heap.size w w' → Calls Tryd.prog 16 #[.agg #[.int .i64 x43, .int .u64 x44], .agg #[.int .i64 x39, .int .u64 x40]] w' (Vc.Ret (.bool b4) w')) ∧
  ((b0 = true) → (
  ((b3 = true) → (
  (.bool false : Value) = v)) ∧ (¬ (b3 = true) → (
  (.bool (!b4) : Value) = v)))) ∧ (¬ (b0 = true) → (
  (.bool false : Value) = v)))))) ∧ (¬ (x27 = 0) → (
  (.bool b0 : Value) = v)))) ∧ (¬ (b2 = true) → (
  (.bool false : Value) = v)))) ∧ (¬ (x9 < 0) → (
  ∃ (b2 : Bool), (∀ w' : World, Below w.heap.size w w' → Calls Tryd.prog 33 #[.agg #[.int .i64 x32, .int .u64 x33], .int .i64 x19, .int .i64 x20, .int .i64 x9] w' (Vc.Ret (.bool b2) w')) ∧
  ((b2 = true) → (
  ((x27 = 0) → (
  ((x8 < 0) → (
  (.bool b0 : Value) = v)) ∧ (¬ (x8 < 0) → (
  ∃ (x34 : Int), ∃ (x35 : Int), (∀ w' : World, Below w.heap.size w w' → Calls Tryd.prog 15 #[.int .i64 x8] w' (Vc.Ret (.agg #[.int .i64 x34, .int .u64 x35]) w')) ∧
  ∃ (x36 : Int), ∃ (x37 : Int), (∀ w' : World, Below w.heap.size w w' → Calls Tryd.prog 18 #[.agg #[.int .i64 x34, .int .u64 x35], .int .i64 32] w' (Vc.Ret (.agg #[.int .i64 x36, .int .u64 x37]) w')) ∧
  ∃ (x38 : Int), ∃ (x39 : Int), (∀ w' : World, Below w.heap.size w w' → Calls Tryd.prog 13 #[.int .i64 x25, .int .i64 x25] w' (Vc.Ret (.agg #[.int .i64 x38, .int .u64 x39]) w')) ∧
  ∃ (b3 : Bool), (∀ w' : World, Below w.heap.size w w' → Calls Tryd.prog 16 #[.agg #[.int .i64 x36, .int .u64 x37], .agg #[.int .i64 x38, .int .u64 x39]] w' (Vc.Ret (.bool b3) w')) ∧
  ∃ (x40 : Int), ∃ (x41 : Int), (∀ w' : World, Below w.heap.size w w' → Calls Tryd.prog 13 #[.int .i64 x26, .int .i64 x26] w' (Vc.Ret (.agg #[.int .i64 x40, .int .u64 x41]) w')) ∧
  ∃ (b4 : Bool), (∀ w' : World, Below w.heap.size w w' → Calls Tryd.prog 16 #[.agg #[.int .i64 x40, .int .u64 x41], .agg #[.int .i64 x36, .int .u64 x37]] w' (Vc.Ret (.bool b4) w')) ∧
  ((b0 = true) → (
  ((b3 = true) → (
  (.bool false : Value) = v)) ∧ (¬ (b3 = true) → (
  (.bool (!b4) : Value) = v)))) ∧ (¬ (b0 = true) → (
  (.bool false : Value) = v)))))) ∧ (¬ (x27 = 0) → (
  (.bool b0 : Value) = v)))) ∧ (¬ (b2 = true) → (
  (.bool false : Value) = v)))))) ∧ (¬ (x21 = 0) → (
  ((x27 = 0) → (
  ((x8 < 0) → (
  (.bool b0 : Value) = v)) ∧ (¬ (x8 < 0) → (
  ∃ (x30 : Int), ∃ (x31 : Int), (∀ w' : World, Below w.heap.size w w' → Calls Tryd.prog 15 #[.int .i64 x8] w' (Vc.Ret (.agg #[.int .i64 x30, .int .u64 x31]) w')) ∧
  ∃ (x32 : Int), ∃ (x33 : Int), (∀ w' : World, Below w.heap.size w w' → Calls Tryd.prog 18 #[.agg #[.int .i64 x30, .int .u64 x31], .int .i64 32] w' (Vc.Ret (.agg #[.int .i64 x32, .int .u64 x33]) w')) ∧
  ∃ (x34 : Int), ∃ (x35 : Int), (∀ w' : World, Below w.heap.size w w' → Calls Tryd.prog 13 #[.int .i64 x25, .int .i64 x25] w' (Vc.Ret (.agg #[.int .i64 x34, .int .u64 x35]) w')) ∧
  ∃ (b2 : Bool), (∀ w' : World, Below w.heap.size w w' → Calls Tryd.prog 16 #[.agg #[.int .i64 x32, .int .u64 x33], .agg #[.int .i64 x34, .int .u64 x35]] w' (Vc.Ret (.bool b2) w')) ∧
  ∃ (x36 : Int), ∃ (x37 : Int), (∀ w' : World, Below w.heap.size w w' → Calls Tryd.prog 13 #[.int .i64 x26, .int .i64 x26] w' (Vc.Ret (.agg #[.int .i64 x36, .int .u64 x37]) w')) ∧
  ∃ (b3 : Bool), (∀ w' : World, Below w.heap.size w w' → Calls Tryd.prog 16 #[.agg #[.int .i64 x36, .int .u64 x37], .agg #[.int .i64 x32, .int .u64 x33]] w' (Vc.Ret (.bool b3) w')) ∧
  ((b0 = true) → (
  ((b2 = true) → (
  (.bool false : Value) = v)) ∧ (¬ (b2 = true) → (
  (.bool (!b3) : Value) = v)))) ∧ (¬ (b0 = true) → (
  (.bool false : Value) = v)))))) ∧ (¬ (x27 = 0) → (
  (.bool b0 : Value) = v)))))) ∧ (¬ (b1 = true) → (
  (.bool false : Value) = v)))) ∧ (¬ (x24 = 0) → (
  ((x21 = 0) → (
  ∃ (x28 : Int), ∃ (x29 : Int), (∀ w' : World, Below w.heap.size w w' → Calls Tryd.prog 15 #[.int .i64 x8] w' (Vc.Ret (.agg #[.int .i64 x28, .int .u64 x29]) w')) ∧
  ∃ (x30 : Int), ∃ (x31 : Int), (∀ w' : World, Below w.heap.size w w' → Calls Tryd.prog 18 #[.agg #[.int .i64 x28, .int .u64 x29], .int .i64 32] w' (Vc.Ret (.agg #[.int .i64 x30, .int .u64 x31]) w')) ∧
  ((x9 < 0) → (
  ∀ x32 : Int, x32 = IntKind.i64.wrap (0 - x20) →
  ∀ x33 : Int, x33 = IntKind.i64.wrap (0 - x19) →
  ∀ x34 : Int, x34 = IntKind.i64.wrap (0 - x9) →
  ∃ (b1 : Bool), (∀ w' : World, Below w.heap.size w w' → Calls Tryd.prog 33 #[.agg #[.int .i64 x30, .int .u64 x31], .int .i64 x32, .int .i64 x33, .int .i64 x34] w' (Vc.Ret (.bool b1) w')) ∧
  ((b1 = true) → (
  ((x27 = 0) → (
  ((x8 < 0) → (
  (.bool b0 : Value) = v)) ∧ (¬ (x8 < 0) → (
  ∃ (x35 : Int), ∃ (x36 : Int), (∀ w' : World, Below w.heap.size w w' → Calls Tryd.prog 15 #[.int .i64 x8] w' (Vc.Ret (.agg #[.int .i64 x35, .int .u64 x36]) w')) ∧
  ∃ (x37 : Int), ∃ (x38 : Int), (∀ w' : World, Below w.heap.size w w' → Calls Tryd.prog 18 #[.agg #[.int .i64 x35, .int .u64 x36], .int .i64 32] w' (Vc.Ret (.agg #[.int .i64 x37, .int .u64 x38]) w')) ∧
  ∃ (x39 : Int), ∃ (x40 : Int), (∀ w' : World, Below w.heap.size w w' → Calls Tryd.prog 13 #[.int .i64 x25, .int .i64 x25] w' (Vc.Ret (.agg #[.int .i64 x39, .int .u64 x40]) w')) ∧
  ∃ (b2 : Bool), (∀ w' : World, Below w.heap.size w w' → Calls Tryd.prog 16 #[.agg #[.int .i64 x37, .int .u64 x38], .agg #[.int .i64 x39, .int .u64 x40]] w' (Vc.Ret (.bool b2) w')) ∧
  ∃ (x41 : Int), ∃ (x42 : Int), (∀ w' : World, Below w.heap.size w w' → Calls Tryd.prog 13 #[.int .i64 x26, .int .i64 x26] w' (Vc.Ret (.agg #[.int .i64 x41, .int .u64 x42]) w')) ∧
  ∃ (b3 : Bool), (∀ w' : World, Below w.heap.size w w' → Calls Tryd.prog 16 #[.agg #[.int .i64 x41, .int .u64 x42], .agg #[.int .i64 x37, .int .u64 x38]] w' (Vc.Ret (.bool b3) w')) ∧
  ((b0 = true) → (
  ((b2 = true) → (
  (.bool false : Value) = v)) ∧ (¬ (b2 = true) → (
  (.bool (!b3) : Value) = v)))) ∧ (¬ (b0 = true) → (
  (.bool false : Value) = v)))))) ∧ (¬ (x27 = 0) → (
  (.bool b0 : Value) = v)))) ∧ (¬ (b1 = true) → (
  (.bool false : Value) = v)))) ∧ (¬ (x9 < 0) → (
  ∃ (b1 : Bool), (∀ w' : World, Below w.heap.size w w' → Calls Tryd.prog 33 #[.agg #[.int .i64 x30, .int .u64 x31], .int .i64 x19, .int .i64 x20, .int .i64 x9] w' (Vc.Ret (.bool b1) w')) ∧
  ((b1 = true) → (
  ((x27 = 0) → (
  ((x8 < 0) → (
  (.bool b0 : Value) = v)) ∧ (¬ (x8 < 0) → (
  ∃ (x32 : Int), ∃ (x33 : Int), (∀ w' : World, Below w.heap.size w w' → Calls Tryd.prog 15 #[.int .i64 x8] w' (Vc.Ret (.agg #[.int .i64 x32, .int .u64 x33]) w')) ∧
  ∃ (x34 : Int), ∃ (x35 : Int), (∀ w' : World, Below w.heap.size w w' → Calls Tryd.prog 18 #[.agg #[.int .i64 x32, .int .u64 x33], .int .i64 32] w' (Vc.Ret (.agg #[.int .i64 x34, .int .u64 x35]) w')) ∧
  ∃ (x36 : Int), ∃ (x37 : Int), (∀ w' : World, Below w.heap.size w w' → Calls Tryd.prog 13 #[.int .i64 x25, .int .i64 x25] w' (Vc.Ret (.agg #[.int .i64 x36, .int .u64 x37]) w')) ∧
  ∃ (b2 : Bool), (∀ w' : World, Below w.heap.size w w' → Calls Tryd.prog 16 #[.agg #[.int .i64 x34, .int .u64 x35], .agg #[.int .i64 x36, .int .u64 x37]] w' (Vc.Ret (.bool b2) w')) ∧
  ∃ (x38 : Int), ∃ (x39 : Int), (∀ w' : World, Below w.heap.size w w' → Calls Tryd.prog 13 #[.int .i64 x26, .int .i64 x26] w' (Vc.Ret (.agg #[.int .i64 x38, .int .u64 x39]) w')) ∧
  ∃ (b3 : Bool), (∀ w' : World, Below w.heap.size w w' → Calls Tryd.prog 16 #[.agg #[.int .i64 x38, .int .u64 x39], .agg #[.int .i64 x34, .int .u64 x35]] w' (Vc.Ret (.bool b3) w')) ∧
  ((b0 = true) → (
  ((b2 = true) → (
  (.bool false : Value) = v)) ∧ (¬ (b2 = true) → (
  (.bool (!b3) : Value) = v)))) ∧ (¬ (b0 = true) → (
  (.bool false : Value) = v)))))) ∧ (¬ (x27 = 0) → (
  (.bool b0 : Value) = v)))) ∧ (¬ (b1 = true) → (
  (.bool false : Value) = v)))))) ∧ (¬ (x21 = 0) → (
  ((x27 = 0) → (
  ((x8 < 0) → (
  (.bool b0 : Value) = v)) ∧ (¬ (x8 < 0) → (
  ∃ (x28 : Int), ∃ (x29 : Int), (∀ w' : World, Below w.heap.size w w' → Calls Tryd.prog 15 #[.int .i64 x8] w' (Vc.Ret (.agg #[.int .i64 x28, .int .u64 x29]) w')) ∧
  ∃ (x30 : Int), ∃ (x31 : Int), (∀ w' : World, Below w.heap.size w w' → Calls Tryd.prog 18 #[.agg #[.int .i64 x28, .int .u64 x29], .int .i64 32] w' (Vc.Ret (.agg #[.int .i64 x30, .int .u64 x31]) w')) ∧
  ∃ (x32 : Int), ∃ (x33 : Int), (∀ w' : World, Below w.heap.size w w' → Calls Tryd.prog 13 #[.int .i64 x25, .int .i64 x25] w' (Vc.Ret (.agg #[.int .i64 x32, .int .u64 x33]) w')) ∧
  ∃ (b1 : Bool), (∀ w' : World, Below w.heap.size w w' → Calls Tryd.prog 16 #[.agg #[.int .i64 x30, .int .u64 x31], .agg #[.int .i64 x32, .int .u64 x33]] w' (Vc.Ret (.bool b1) w')) ∧
  ∃ (x34 : Int), ∃ (x35 : Int), (∀ w' : World, Below w.heap.size w w' → Calls Tryd.prog 13 #[.int .i64 x26, .int .i64 x26] w' (Vc.Ret (.agg #[.int .i64 x34, .int .u64 x35]) w')) ∧
  ∃ (b2 : Bool), (∀ w' : World, Below w.heap.size w w' → Calls Tryd.prog 16 #[.agg #[.int .i64 x34, .int .u64 x35], .agg #[.int .i64 x30, .int .u64 x31]] w' (Vc.Ret (.bool b2) w')) ∧
  ((b0 = true) → (
  ((b1 = true) → (
  (.bool false : Value) = v)) ∧ (¬ (b1 = true) → (
  (.bool (!b2) : Value) = v)))) ∧ (¬ (b0 = true) → (
  (.bool false : Value) = v)))))) ∧ (¬ (x27 = 0) → (
  (.bool b0 : Value) = v)))))))))))))) ∧ (¬ (b0 = true) → (
  (.bool b0 : Value) = v)))) ∧ (¬ (x7 = 0) → (
  (.bool b0 : Value) = v)))) ∧ (¬ (x6 = 0) → (
  (.bool b0 : Value) = v))) : Calls Tryd.prog 6 #[.agg #[.int .i64 x0, .int .i64 x1], .agg #[.int .i64 x2, .int .i64 x3], .agg #[.int .u64 x4, .int .u64 x5]] w (Vc.Ret v w) :=
  Vc.pure_of base [] 200 Tryd.func6 (b := (Tryd.f6.body).getD .skip) (by kernel_rfl) [.cv (.agg [.int .i64 (.var 0), .int .i64 (.var 1)]), .cv (.agg [.int .i64 (.var 2), .int .i64 (.var 3)]), .cv (.agg [.int .u64 (.var 4), .int .u64 (.var 5)])] ⟨6, 0, 0, 0, 0, 0, 0⟩ (Vc.envOf [x0, x1, x2, x3, x4, x5] [] [] []) (by kernel_rfl) (by kernel_rfl) (by kernel_rfl) h

theorem vc_ullagelaw01_pick (x0 x1 x2 : Int) (w : World) (v : Value) (h : 
  ∀ x3 : Int, x3 = IntKind.u64.wrap (x1) →
  ∀ x4 : Int, x4 = IntKind.u64.wrap (x0) →
  ∀ x5 : Int, x5 = IntKind.u64.wrap (x3 - x4) →
  ((x5 = 18446744073709551615) → (
  (.int .i64 x0 : Value) = v)) ∧ (¬ (x5 = 18446744073709551615) → (
  ∀ x6 : Int, x6 = IntKind.u64.wrap (x0) →
  ∀ x7 : Int, x7 = IntKind.u64.wrap (x5 + 1) →
  (x7 ≠ 0) ∧
  ∀ x8 : Int, x8 = Int.tmod x2 x7 →
  ∀ x9 : Int, x9 = IntKind.u64.wrap (x6 + x8) →
  ∀ x10 : Int, x10 = IntKind.i64.wrap (x9) →
  (.int .i64 x10 : Value) = v))) : Calls Tryd.prog 28 #[.agg #[.int .i64 x0, .int .i64 x1], .int .u64 x2] w (Vc.Ret v w) :=
  Vc.pure_of base [] 200 Tryd.func28 (b := (Tryd.f28.body).getD .skip) (by kernel_rfl) [.cv (.agg [.int .i64 (.var 0), .int .i64 (.var 1)]), .cv (.one (.int .u64 (.var 2)))] ⟨3, 0, 0, 0, 0, 0, 0⟩ (Vc.envOf [x0, x1, x2] [] [] []) (by kernel_rfl) (by kernel_rfl) (by kernel_rfl) h

theorem vc_ullagelaw01_between (x0 x1 x2 x3 x4 : Int) (w : World) (v : Value) (h : 
  ∃ (x5 : Int), ∃ (x6 : Int), (∀ w' : World, Below w.heap.size w w' → Calls Tryd.prog 13 #[.int .i64 x2, .int .i64 x4] w' (Vc.Ret (.agg #[.int .i64 x5, .int .u64 x6]) w')) ∧
  ∃ (b0 : Bool), (∀ w' : World, Below w.heap.size w w' → Calls Tryd.prog 16 #[.agg #[.int .i64 x0, .int .u64 x1], .agg #[.int .i64 x5, .int .u64 x6]] w' (Vc.Ret (.bool b0) w')) ∧
  ∃ (x7 : Int), ∃ (x8 : Int), (∀ w' : World, Below w.heap.size w w' → Calls Tryd.prog 13 #[.int .i64 x3, .int .i64 x4] w' (Vc.Ret (.agg #[.int .i64 x7, .int .u64 x8]) w')) ∧
  ∃ (b1 : Bool), (∀ w' : World, Below w.heap.size w w' → Calls Tryd.prog 16 #[.agg #[.int .i64 x7, .int .u64 x8], .agg #[.int .i64 x0, .int .u64 x1]] w' (Vc.Ret (.bool b1) w')) ∧
  ((b0 = true) → (
  (.bool false : Value) = v)) ∧ (¬ (b0 = true) → (
  (.bool (!b1) : Value) = v))) : Calls Tryd.prog 33 #[.agg #[.int .i64 x0, .int .u64 x1], .int .i64 x2, .int .i64 x3, .int .i64 x4] w (Vc.Ret v w) :=
  Vc.pure_of base [] 200 Tryd.func33 (b := (Tryd.f33.body).getD .skip) (by kernel_rfl) [.cv (.agg [.int .i64 (.var 0), .int .u64 (.var 1)]), .cv (.one (.int .i64 (.var 2))), .cv (.one (.int .i64 (.var 3))), .cv (.one (.int .i64 (.var 4)))] ⟨5, 0, 0, 0, 0, 0, 0⟩ (Vc.envOf [x0, x1, x2, x3, x4] [] [] []) (by kernel_rfl) (by kernel_rfl) (by kernel_rfl) h

end Go.Proofs.YtndeppnboolfiaaDoor
