/- What the walks of functions come to (written by program). -/
import Derived.Test.YtndeppnboolfiaaDoorGtG1
set_option linter.unusedVariables false
set_option maxRecDepth 100000
namespace Go.Proofs.YtndeppnboolfiaaDoor
open Go Go.RowKit
theorem vc_ullagelaw01_of (x0 x1 : Int) (w : World) (v : Value) (h : 
  ∀ x2 : Int, x2 = IntKind.i64.wrap (x0 * 4294967296) →
  ∀ x3 : Int, x3 = IntKind.i64.wrap (x1 * 4294967296) →
  (.agg #[.int .i64 x2, .int .i64 x3] : Value) = v) : Calls Tryd.prog 47 #[.int .i64 x0, .int .i64 x1] w (Vc.Ret v w) :=
  Vc.pure_of base [] 200 Tryd.func47 (b := (Tryd.f47.body).getD .skip) (by kernel_rfl) [.cv (.one (.int .i64 (.var 0))), .cv (.one (.int .i64 (.var 1)))] ⟨2, 0, 0, 0, 0, 0, 0⟩ (Vc.envOf [x0, x1] [] [] []) (by kernel_rfl) (by kernel_rfl) (by kernel_rfl) h

theorem vc_ullagelaw01_alive (w : World) (v : Value) (h : 
  ∃ (x0 : Int), ∃ (x1 : Int), ∃ (x2 : Int), (∀ w' : World, Below w.heap.size w w' → Calls Tryd.prog 12 #[.agg #[.int .i64 (-4294967296), .int .i64 8589934592], .agg #[.int .i64 12884901888, .int .i64 17179869184]] w' (Vc.Ret (.tuple #[.agg #[.int .i64 x0, .int .i64 x1], .int .i64 x2]) w')) ∧
  ∃ (x3 : Int), ∃ (x4 : Int), ∃ (x5 : Int), (∀ w' : World, Below w.heap.size w w' → Calls Tryd.prog 48 #[.int .i64 1, .int .i64 3] w' (Vc.Ret (.tuple #[.agg #[.int .i64 x3, .int .i64 x4], .int .i64 x5]) w')) ∧
  ∃ (x6 : Int), ∃ (x7 : Int), ∃ (x8 : Int), (∀ w' : World, Below w.heap.size w w' → Calls Tryd.prog 17 #[.agg #[.int .i64 (-38654705664), .int .i64 17179869184]] w' (Vc.Ret (.tuple #[.agg #[.int .i64 x6, .int .i64 x7], .int .i64 x8]) w')) ∧
  ((x2 = 0) → (
  ∃ (x9 : Int), ∃ (x10 : Int), (∀ w' : World, Below w.heap.size w w' → Calls Tryd.prog 47 #[.int .i64 (-4), .int .i64 8] w' (Vc.Ret (.agg #[.int .i64 x9, .int .i64 x10]) w')) ∧
  (((x0 = x9) ∧ (x1 = x10)) → (
  ((x5 = 0) → (
  (((x3 = 1431655765) ∧ (x4 = 1431655766)) → (
  ((x8 = 0) → (
  ∃ (x11 : Int), ∃ (x12 : Int), (∀ w' : World, Below w.heap.size w w' → Calls Tryd.prog 47 #[.int .i64 0, .int .i64 2] w' (Vc.Ret (.agg #[.int .i64 x11, .int .i64 x12]) w')) ∧
  (((x6 = x11) ∧ (x7 = x12)) → (
  ∃ (s0 : List UInt8), (∀ w' : World, Below w.heap.size w w' → Calls Tryd.prog 44 #[.int .i64 (-1073741824)] w' (Vc.Ret (.string ⟨s0.toArray⟩) w')) ∧
  (.bool (decide (s0 = ([45, 48, 46, 50, 53] : List UInt8))) : Value) = v)) ∧ (¬ ((x6 = x11) ∧ (x7 = x12)) → (
  (.bool false : Value) = v)))) ∧ (¬ (x8 = 0) → (
  (.bool false : Value) = v)))) ∧ (¬ ((x3 = 1431655765) ∧ (x4 = 1431655766)) → (
  (.bool false : Value) = v)))) ∧ (¬ (x5 = 0) → (
  (.bool false : Value) = v)))) ∧ (¬ ((x0 = x9) ∧ (x1 = x10)) → (
  (.bool false : Value) = v)))) ∧ (¬ (x2 = 0) → (
  (.bool false : Value) = v))) : Calls Tryd.prog 11 #[] w (Vc.Ret v w) :=
  Vc.pure_of (base_inl [47] (by kernel_rfl)) [] 200 Tryd.func11 (b := (Tryd.f11.body).getD .skip) (by kernel_rfl) [] ⟨0, 0, 0, 0, 0, 0, 0⟩ (Vc.envOf [] [] [] []) (by kernel_rfl) (by kernel_rfl) (by kernel_rfl) h

theorem vc_ullagelaw01_SpanTight (x0 x1 x2 x3 : Int) (w : World) (v : Value) (h : 
  ∃ (b0 : Bool), (∀ w' : World, Below w.heap.size w w' → Calls Tryd.prog 11 #[] w' (Vc.Ret (.bool b0) w')) ∧
  ∃ (x4 : Int), ∃ (x5 : Int), ∃ (x6 : Int), (∀ w' : World, Below w.heap.size w w' → Calls Tryd.prog 12 #[.agg #[.int .i64 x0, .int .i64 x1], .agg #[.int .i64 x2, .int .i64 x3]] w' (Vc.Ret (.tuple #[.agg #[.int .i64 x4, .int .i64 x5], .int .i64 x6]) w')) ∧
  ((x6 = 0) → (
  ((b0 = true) → (
  ∃ (x7 : Int), ∃ (x8 : Int), (∀ w' : World, Below w.heap.size w w' → Calls Tryd.prog 13 #[.int .i64 x0, .int .i64 x2] w' (Vc.Ret (.agg #[.int .i64 x7, .int .u64 x8]) w')) ∧
  ∃ (x9 : Int), ∃ (x10 : Int), (∀ w' : World, Below w.heap.size w w' → Calls Tryd.prog 13 #[.int .i64 x4, .int .i64 4294967296] w' (Vc.Ret (.agg #[.int .i64 x9, .int .u64 x10]) w')) ∧
  ∃ (x11 : Int), ∃ (x12 : Int), (∀ w' : World, Below w.heap.size w w' → Calls Tryd.prog 15 #[.int .i64 4294967296] w' (Vc.Ret (.agg #[.int .i64 x11, .int .u64 x12]) w')) ∧
  ∃ (x13 : Int), ∃ (x14 : Int), (∀ w' : World, Below w.heap.size w w' → Calls Tryd.prog 14 #[.agg #[.int .i64 x9, .int .u64 x10], .agg #[.int .i64 x11, .int .u64 x12]] w' (Vc.Ret (.agg #[.int .i64 x13, .int .u64 x14]) w')) ∧
  ∃ (x15 : Int), ∃ (x16 : Int), (∀ w' : World, Below w.heap.size w w' → Calls Tryd.prog 13 #[.int .i64 x5, .int .i64 4294967296] w' (Vc.Ret (.agg #[.int .i64 x15, .int .u64 x16]) w')) ∧
  ∃ (x17 : Int), ∃ (x18 : Int), (∀ w' : World, Below w.heap.size w w' → Calls Tryd.prog 15 #[.int .i64 (-4294967296)] w' (Vc.Ret (.agg #[.int .i64 x17, .int .u64 x18]) w')) ∧
  ∃ (x19 : Int), ∃ (x20 : Int), (∀ w' : World, Below w.heap.size w w' → Calls Tryd.prog 14 #[.agg #[.int .i64 x15, .int .u64 x16], .agg #[.int .i64 x17, .int .u64 x18]] w' (Vc.Ret (.agg #[.int .i64 x19, .int .u64 x20]) w')) ∧
  ∃ (b1 : Bool), (∀ w' : World, Below w.heap.size w w' → Calls Tryd.prog 16 #[.agg #[.int .i64 x7, .int .u64 x8], .agg #[.int .i64 x13, .int .u64 x14]] w' (Vc.Ret (.bool b1) w')) ∧
  ∃ (b2 : Bool), (∀ w' : World, Below w.heap.size w w' → Calls Tryd.prog 16 #[.agg #[.int .i64 x19, .int .u64 x20], .agg #[.int .i64 x7, .int .u64 x8]] w' (Vc.Ret (.bool b2) w')) ∧
  ∃ (x21 : Int), ∃ (x22 : Int), (∀ w' : World, Below w.heap.size w w' → Calls Tryd.prog 13 #[.int .i64 x0, .int .i64 x3] w' (Vc.Ret (.agg #[.int .i64 x21, .int .u64 x22]) w')) ∧
  ∃ (x23 : Int), ∃ (x24 : Int), (∀ w' : World, Below w.heap.size w w' → Calls Tryd.prog 13 #[.int .i64 x4, .int .i64 4294967296] w' (Vc.Ret (.agg #[.int .i64 x23, .int .u64 x24]) w')) ∧
  ∃ (x25 : Int), ∃ (x26 : Int), (∀ w' : World, Below w.heap.size w w' → Calls Tryd.prog 15 #[.int .i64 4294967296] w' (Vc.Ret (.agg #[.int .i64 x25, .int .u64 x26]) w')) ∧
  ∃ (x27 : Int), ∃ (x28 : Int), (∀ w' : World, Below w.heap.size w w' → Calls Tryd.prog 14 #[.agg #[.int .i64 x23, .int .u64 x24], .agg #[.int .i64 x25, .int .u64 x26]] w' (Vc.Ret (.agg #[.int .i64 x27, .int .u64 x28]) w')) ∧
  ∃ (x29 : Int), ∃ (x30 : Int), (∀ w' : World, Below w.heap.size w w' → Calls Tryd.prog 13 #[.int .i64 x5, .int .i64 4294967296] w' (Vc.Ret (.agg #[.int .i64 x29, .int .u64 x30]) w')) ∧
  ∃ (x31 : Int), ∃ (x32 : Int), (∀ w' : World, Below w.heap.size w w' → Calls Tryd.prog 15 #[.int .i64 (-4294967296)] w' (Vc.Ret (.agg #[.int .i64 x31, .int .u64 x32]) w')) ∧
  ∃ (x33 : Int), ∃ (x34 : Int), (∀ w' : World, Below w.heap.size w w' → Calls Tryd.prog 14 #[.agg #[.int .i64 x29, .int .u64 x30], .agg #[.int .i64 x31, .int .u64 x32]] w' (Vc.Ret (.agg #[.int .i64 x33, .int .u64 x34]) w')) ∧
  ((b1 = true) → (
  ((b2 = true) → (
  ∃ (x35 : Int), ∃ (x36 : Int), (∀ w' : World, Below w.heap.size w w' → Calls Tryd.prog 13 #[.int .i64 x1, .int .i64 x2] w' (Vc.Ret (.agg #[.int .i64 x35, .int .u64 x36]) w')) ∧
  ∃ (x37 : Int), ∃ (x38 : Int), (∀ w' : World, Below w.heap.size w w' → Calls Tryd.prog 13 #[.int .i64 x4, .int .i64 4294967296] w' (Vc.Ret (.agg #[.int .i64 x37, .int .u64 x38]) w')) ∧
  ∃ (x39 : Int), ∃ (x40 : Int), (∀ w' : World, Below w.heap.size w w' → Calls Tryd.prog 15 #[.int .i64 4294967296] w' (Vc.Ret (.agg #[.int .i64 x39, .int .u64 x40]) w')) ∧
  ∃ (x41 : Int), ∃ (x42 : Int), (∀ w' : World, Below w.heap.size w w' → Calls Tryd.prog 14 #[.agg #[.int .i64 x37, .int .u64 x38], .agg #[.int .i64 x39, .int .u64 x40]] w' (Vc.Ret (.agg #[.int .i64 x41, .int .u64 x42]) w')) ∧
  ∃ (x43 : Int), ∃ (x44 : Int), (∀ w' : World, Below w.heap.size w w' → Calls Tryd.prog 13 #[.int .i64 x5, .int .i64 4294967296] w' (Vc.Ret (.agg #[.int .i64 x43, .int .u64 x44]) w')) ∧
  ∃ (x45 : Int), ∃ (x46 : Int), (∀ w' : World, Below w.heap.size w w' → Calls Tryd.prog 15 #[.int .i64 (-4294967296)] w' (Vc.Ret (.agg #[.int .i64 x45, .int .u64 x46]) w')) ∧
  ∃ (x47 : Int), ∃ (x48 : Int), (∀ w' : World, Below w.heap.size w w' → Calls Tryd.prog 14 #[.agg #[.int .i64 x43, .int .u64 x44], .agg #[.int .i64 x45, .int .u64 x46]] w' (Vc.Ret (.agg #[.int .i64 x47, .int .u64 x48]) w')) ∧
  ∃ (x49 : Int), ∃ (x50 : Int), (∀ w' : World, Below w.heap.size w w' → Calls Tryd.prog 13 #[.int .i64 x1, .int .i64 x3] w' (Vc.Ret (.agg #[.int .i64 x49, .int .u64 x50]) w')) ∧
  ∃ (x51 : Int), ∃ (x52 : Int), (∀ w' : World, Below w.heap.size w w' → Calls Tryd.prog 13 #[.int .i64 x4, .int .i64 4294967296] w' (Vc.Ret (.agg #[.int .i64 x51, .int .u64 x52]) w')) ∧
  ∃ (x53 : Int), ∃ (x54 : Int), (∀ w' : World, Below w.heap.size w w' → Calls Tryd.prog 15 #[.int .i64 4294967296] w' (Vc.Ret (.agg #[.int .i64 x53, .int .u64 x54]) w')) ∧
  ∃ (x55 : Int), ∃ (x56 : Int), (∀ w' : World, Below w.heap.size w w' → Calls Tryd.prog 14 #[.agg #[.int .i64 x51, .int .u64 x52], .agg #[.int .i64 x53, .int .u64 x54]] w' (Vc.Ret (.agg #[.int .i64 x55, .int .u64 x56]) w')) ∧
  ∃ (x57 : Int), ∃ (x58 : Int), (∀ w' : World, Below w.heap.size w w' → Calls Tryd.prog 13 #[.int .i64 x5, .int .i64 4294967296] w' (Vc.Ret (.agg #[.int .i64 x57, .int .u64 x58]) w')) ∧
  ∃ (x59 : Int), ∃ (x60 : Int), (∀ w' : World, Below w.heap.size w w' → Calls Tryd.prog 15 #[.int .i64 (-4294967296)] w' (Vc.Ret (.agg #[.int .i64 x59, .int .u64 x60]) w')) ∧
  ∃ (x61 : Int), ∃ (x62 : Int), (∀ w' : World, Below w.heap.size w w' → Calls Tryd.prog 14 #[.agg #[.int .i64 x57, .int .u64 x58], .agg #[.int .i64 x59, .int .u64 x60]] w' (Vc.Ret (.agg #[.int .i64 x61, .int .u64 x62]) w')) ∧
  ∃ (x63 : Int), ∃ (x64 : Int), ∃ (x65 : Int), (∀ w' : World, Below w.heap.size w w' → Calls Tryd.prog 17 #[.agg #[.int .i64 x0, .int .i64 x1]] w' (Vc.Ret (.tuple #[.agg #[.int .i64 x63, .int .i64 x64], .int .i64 x65]) w')) ∧
  ((x65 = 0) → (
  ∀ x66 : Int, x66 = (if 0 > x0 then 0 else x0) →
  ∃ (x67 : Int), ∃ (x68 : Int), (∀ w' : World, Below w.heap.size w w' → Calls Tryd.prog 15 #[.int .i64 x66] w' (Vc.Ret (.agg #[.int .i64 x67, .int .u64 x68]) w')) ∧
  ∃ (x69 : Int), ∃ (x70 : Int), (∀ w' : World, Below w.heap.size w w' → Calls Tryd.prog 18 #[.agg #[.int .i64 x67, .int .u64 x68], .int .i64 32] w' (Vc.Ret (.agg #[.int .i64 x69, .int .u64 x70]) w')) ∧
  ∃ (x71 : Int), ∃ (x72 : Int), (∀ w' : World, Below w.heap.size w w' → Calls Tryd.prog 15 #[.int .i64 x1] w' (Vc.Ret (.agg #[.int .i64 x71, .int .u64 x72]) w')) ∧
  ∃ (x73 : Int), ∃ (x74 : Int), (∀ w' : World, Below w.heap.size w w' → Calls Tryd.prog 18 #[.agg #[.int .i64 x71, .int .u64 x72], .int .i64 32] w' (Vc.Ret (.agg #[.int .i64 x73, .int .u64 x74]) w')) ∧
  ∀ x75 : Int, x75 = IntKind.i64.wrap (x63 + 1) →
  ∀ x76 : Int, x76 = IntKind.i64.wrap (x63 + 1) →
  ∃ (x77 : Int), ∃ (x78 : Int), (∀ w' : World, Below w.heap.size w w' → Calls Tryd.prog 13 #[.int .i64 x75, .int .i64 x76] w' (Vc.Ret (.agg #[.int .i64 x77, .int .u64 x78]) w')) ∧
  ∃ (b3 : Bool), (∀ w' : World, Below w.heap.size w w' → Calls Tryd.prog 16 #[.agg #[.int .i64 x69, .int .u64 x70], .agg #[.int .i64 x77, .int .u64 x78]] w' (Vc.Ret (.bool b3) w')) ∧
  ((x64 = 0) → (
  ((b0 = true) → (
  ((b3 = true) → (
  (.bool true : Value) = v)) ∧ (¬ (b3 = true) → (
  (.bool false : Value) = v)))) ∧ (¬ (b0 = true) → (
  (.bool false : Value) = v)))) ∧ (¬ (x64 = 0) → (
  ∀ x79 : Int, x79 = IntKind.i64.wrap (x64 - 1) →
  ∀ x80 : Int, x80 = IntKind.i64.wrap (x64 - 1) →
  ∃ (x81 : Int), ∃ (x82 : Int), (∀ w' : World, Below w.heap.size w w' → Calls Tryd.prog 13 #[.int .i64 x79, .int .i64 x80] w' (Vc.Ret (.agg #[.int .i64 x81, .int .u64 x82]) w')) ∧
  ∃ (b4 : Bool), (∀ w' : World, Below w.heap.size w w' → Calls Tryd.prog 16 #[.agg #[.int .i64 x81, .int .u64 x82], .agg #[.int .i64 x73, .int .u64 x74]] w' (Vc.Ret (.bool b4) w')) ∧
  ((b0 = true) → (
  ((b3 = true) → (
  (.bool b4 : Value) = v)) ∧ (¬ (b3 = true) → (
  (.bool false : Value) = v)))) ∧ (¬ (b0 = true) → (
  (.bool false : Value) = v)))))) ∧ (¬ (x65 = 0) → (
  ((b0 = true) → (
  (.bool (decide (x1 < 0)) : Value) = v)) ∧ (¬ (b0 = true) → (
  (.bool false : Value) = v)))))) ∧ (¬ (b2 = true) → (
  ∃ (b3 : Bool), (∀ w' : World, Below w.heap.size w w' → Calls Tryd.prog 16 #[.agg #[.int .i64 x33, .int .u64 x34], .agg #[.int .i64 x21, .int .u64 x22]] w' (Vc.Ret (.bool b3) w')) ∧
  ∃ (x35 : Int), ∃ (x36 : Int), (∀ w' : World, Below w.heap.size w w' → Calls Tryd.prog 13 #[.int .i64 x1, .int .i64 x2] w' (Vc.Ret (.agg #[.int .i64 x35, .int .u64 x36]) w')) ∧
  ∃ (x37 : Int), ∃ (x38 : Int), (∀ w' : World, Below w.heap.size w w' → Calls Tryd.prog 13 #[.int .i64 x4, .int .i64 4294967296] w' (Vc.Ret (.agg #[.int .i64 x37, .int .u64 x38]) w')) ∧
  ∃ (x39 : Int), ∃ (x40 : Int), (∀ w' : World, Below w.heap.size w w' → Calls Tryd.prog 15 #[.int .i64 4294967296] w' (Vc.Ret (.agg #[.int .i64 x39, .int .u64 x40]) w')) ∧
  ∃ (x41 : Int), ∃ (x42 : Int), (∀ w' : World, Below w.heap.size w w' → Calls Tryd.prog 14 #[.agg #[.int .i64 x37, .int .u64 x38], .agg #[.int .i64 x39, .int .u64 x40]] w' (Vc.Ret (.agg #[.int .i64 x41, .int .u64 x42]) w')) ∧
  ∃ (x43 : Int), ∃ (x44 : Int), (∀ w' : World, Below w.heap.size w w' → Calls Tryd.prog 13 #[.int .i64 x5, .int .i64 4294967296] w' (Vc.Ret (.agg #[.int .i64 x43, .int .u64 x44]) w')) ∧
  ∃ (x45 : Int), ∃ (x46 : Int), (∀ w' : World, Below w.heap.size w w' → Calls Tryd.prog 15 #[.int .i64 (-4294967296)] w' (Vc.Ret (.agg #[.int .i64 x45, .int .u64 x46]) w')) ∧
  ∃ (x47 : Int), ∃ (x48 : Int), (∀ w' : World, Below w.heap.size w w' → Calls Tryd.prog 14 #[.agg #[.int .i64 x43, .int .u64 x44], .agg #[.int .i64 x45, .int .u64 x46]] w' (Vc.Ret (.agg #[.int .i64 x47, .int .u64 x48]) w')) ∧
  ((b3 = true) → (
  ∃ (x49 : Int), ∃ (x50 : Int), (∀ w' : World, Below w.heap.size w w' → Calls Tryd.prog 13 #[.int .i64 x1, .int .i64 x3] w' (Vc.Ret (.agg #[.int .i64 x49, .int .u64 x50]) w')) ∧
  ∃ (x51 : Int), ∃ (x52 : Int), (∀ w' : World, Below w.heap.size w w' → Calls Tryd.prog 13 #[.int .i64 x4, .int .i64 4294967296] w' (Vc.Ret (.agg #[.int .i64 x51, .int .u64 x52]) w')) ∧
  ∃ (x53 : Int), ∃ (x54 : Int), (∀ w' : World, Below w.heap.size w w' → Calls Tryd.prog 15 #[.int .i64 4294967296] w' (Vc.Ret (.agg #[.int .i64 x53, .int .u64 x54]) w')) ∧
  ∃ (x55 : Int), ∃ (x56 : Int), (∀ w' : World, Below w.heap.size w w' → Calls Tryd.prog 14 #[.agg #[.int .i64 x51, .int .u64 x52], .agg #[.int .i64 x53, .int .u64 x54]] w' (Vc.Ret (.agg #[.int .i64 x55, .int .u64 x56]) w')) ∧
  ∃ (x57 : Int), ∃ (x58 : Int), (∀ w' : World, Below w.heap.size w w' → Calls Tryd.prog 13 #[.int .i64 x5, .int .i64 4294967296] w' (Vc.Ret (.agg #[.int .i64 x57, .int .u64 x58]) w')) ∧
  ∃ (x59 : Int), ∃ (x60 : Int), (∀ w' : World, Below w.heap.size w w' → Calls Tryd.prog 15 #[.int .i64 (-4294967296)] w' (Vc.Ret (.agg #[.int .i64 x59, .int .u64 x60]) w')) ∧
  ∃ (x61 : Int), ∃ (x62 : Int), (∀ w' : World, Below w.heap.size w w' → Calls Tryd.prog 14 #[.agg #[.int .i64 x57, .int .u64 x58], .agg #[.int .i64 x59, .int .u64 x60]] w' (Vc.Ret (.agg #[.int .i64 x61, .int .u64 x62]) w')) ∧
  ∃ (x63 : Int), ∃ (x64 : Int), ∃ (x65 : Int), (∀ w' : World, Below w.heap.size w w' → Calls Tryd.prog 17 #[.agg #[.int .i64 x0, .int .i64 x1]] w' (Vc.Ret (.tuple #[.agg #[.int .i64 x63, .int .i64 x64], .int .i64 x65]) w')) ∧
  ((x65 = 0) → (
  ∀ x66 : Int, x66 = (if 0 > x0 then 0 else x0) →
  ∃ (x67 : Int), ∃ (x68 : Int), (∀ w' : World, Below w.heap.size w w' → Calls Tryd.prog 15 #[.int .i64 x66] w' (Vc.Ret (.agg #[.int .i64 x67, .int .u64 x68]) w')) ∧
  ∃ (x69 : Int), ∃ (x70 : Int), (∀ w' : World, Below w.heap.size w w' → Calls Tryd.prog 18 #[.agg #[.int .i64 x67, .int .u64 x68], .int .i64 32] w' (Vc.Ret (.agg #[.int .i64 x69, .int .u64 x70]) w')) ∧
  ∃ (x71 : Int), ∃ (x72 : Int), (∀ w' : World, Below w.heap.size w w' → Calls Tryd.prog 15 #[.int .i64 x1] w' (Vc.Ret (.agg #[.int .i64 x71, .int .u64 x72]) w')) ∧
  ∃ (x73 : Int), ∃ (x74 : Int), (∀ w' : World, Below w.heap.size w w' → Calls Tryd.prog 18 #[.agg #[.int .i64 x71, .int .u64 x72], .int .i64 32] w' (Vc.Ret (.agg #[.int .i64 x73, .int .u64 x74]) w')) ∧
  ∀ x75 : Int, x75 = IntKind.i64.wrap (x63 + 1) →
  ∀ x76 : Int, x76 = IntKind.i64.wrap (x63 + 1) →
  ∃ (x77 : Int), ∃ (x78 : Int), (∀ w' : World, Below w.heap.size w w' → Calls Tryd.prog 13 #[.int .i64 x75, .int .i64 x76] w' (Vc.Ret (.agg #[.int .i64 x77, .int .u64 x78]) w')) ∧
  ∃ (b4 : Bool), (∀ w' : World, Below w.heap.size w w' → Calls Tryd.prog 16 #[.agg #[.int .i64 x69, .int .u64 x70], .agg #[.int .i64 x77, .int .u64 x78]] w' (Vc.Ret (.bool b4) w')) ∧
  ((x64 = 0) → (
  ((b0 = true) → (
  ((b4 = true) → (
  (.bool true : Value) = v)) ∧ (¬ (b4 = true) → (
  (.bool false : Value) = v)))) ∧ (¬ (b0 = true) → (
  (.bool false : Value) = v)))) ∧ (¬ (x64 = 0) → (
  ∀ x79 : Int, x79 = IntKind.i64.wrap (x64 - 1) →
  ∀ x80 : Int, x80 = IntKind.i64.wrap (x64 - 1) →
  ∃ (x81 : Int), ∃ (x82 : Int), (∀ w' : World, Below w.heap.size w w' → Calls Tryd.prog 13 #[.int .i64 x79, .int .i64 x80] w' (Vc.Ret (.agg #[.int .i64 x81, .int .u64 x82]) w')) ∧
  ∃ (b5 : Bool), (∀ w' : World, Below w.heap.size w w' → Calls Tryd.prog 16 #[.agg #[.int .i64 x81, .int .u64 x82], .agg #[.int .i64 x73, .int .u64 x74]] w' (Vc.Ret (.bool b5) w')) ∧
  ((b0 = true) → (
  ((b4 = true) → (
  (.bool b5 : Value) = v)) ∧ (¬ (b4 = true) → (
  (.bool false : Value) = v)))) ∧ (¬ (b0 = true) → (
  (.bool false : Value) = v)))))) ∧ (¬ (x65 = 0) → (
  ((b0 = true) → (
  (.bool (decide (x1 < 0)) : Value) = v)) ∧ (¬ (b0 = true) → (
  (.bool false : Value) = v)))))) ∧ (¬ (b3 = true) → (
  ∃ (b4 : Bool), (∀ w' : World, Below w.heap.size w w' → Calls Tryd.prog 16 #[.agg #[.int .i64 x47, .int .u64 x48], .agg #[.int .i64 x35, .int .u64 x36]] w' (Vc.Ret (.bool b4) w')) ∧
  ∃ (x49 : Int), ∃ (x50 : Int), (∀ w' : World, Below w.heap.size w w' → Calls Tryd.prog 13 #[.int .i64 x1, .int .i64 x3] w' (Vc.Ret (.agg #[.int .i64 x49, .int .u64 x50]) w')) ∧
  ∃ (x51 : Int), ∃ (x52 : Int), (∀ w' : World, Below w.heap.size w w' → Calls Tryd.prog 13 #[.int .i64 x4, .int .i64 4294967296] w' (Vc.Ret (.agg #[.int .i64 x51, .int .u64 x52]) w')) ∧
  ∃ (x53 : Int), ∃ (x54 : Int), (∀ w' : World, Below w.heap.size w w' → Calls Tryd.prog 15 #[.int .i64 4294967296] w' (Vc.Ret (.agg #[.int .i64 x53, .int .u64 x54]) w')) ∧
  ∃ (x55 : Int), ∃ (x56 : Int), (∀ w' : World, Below w.heap.size w w' → Calls Tryd.prog 14 #[.agg #[.int .i64 x51, .int .u64 x52], .agg #[.int .i64 x53, .int .u64 x54]] w' (Vc.Ret (.agg #[.int .i64 x55, .int .u64 x56]) w')) ∧
  ∃ (x57 : Int), ∃ (x58 : Int), (∀ w' : World, Below w.heap.size w w' → Calls Tryd.prog 13 #[.int .i64 x5, .int .i64 4294967296] w' (Vc.Ret (.agg #[.int .i64 x57, .int .u64 x58]) w')) ∧
  ∃ (x59 : Int), ∃ (x60 : Int), (∀ w' : World, Below w.heap.size w w' → Calls Tryd.prog 15 #[.int .i64 (-4294967296)] w' (Vc.Ret (.agg #[.int .i64 x59, .int .u64 x60]) w')) ∧
  ∃ (x61 : Int), ∃ (x62 : Int), (∀ w' : World, Below w.heap.size w w' → Calls Tryd.prog 14 #[.agg #[.int .i64 x57, .int .u64 x58], .agg #[.int .i64 x59, .int .u64 x60]] w' (Vc.Ret (.agg #[.int .i64 x61, .int .u64 x62]) w')) ∧
  ((b4 = true) → (
  ∃ (x63 : Int), ∃ (x64 : Int), ∃ (x65 : Int), (∀ w' : World, Below w.heap.size w w' → Calls Tryd.prog 17 #[.agg #[.int .i64 x0, .int .i64 x1]] w' (Vc.Ret (.tuple #[.agg #[.int .i64 x63, .int .i64 x64], .int .i64 x65]) w')) ∧
  ((x65 = 0) → (
  ∀ x66 : Int, x66 = (if 0 > x0 then 0 else x0) →
  ∃ (x67 : Int), ∃ (x68 : Int), (∀ w' : World, Below w.heap.size w w' → Calls Tryd.prog 15 #[.int .i64 x66] w' (Vc.Ret (.agg #[.int .i64 x67, .int .u64 x68]) w')) ∧
  ∃ (x69 : Int), ∃ (x70 : Int), (∀ w' : World, Below w.heap.size w w' → Calls Tryd.prog 18 #[.agg #[.int .i64 x67, .int .u64 x68], .int .i64 32] w' (Vc.Ret (.agg #[.int .i64 x69, .int .u64 x70]) w')) ∧
  ∃ (x71 : Int), ∃ (x72 : Int), (∀ w' : World, Below w.heap.size w w' → Calls Tryd.prog 15 #[.int .i64 x1] w' (Vc.Ret (.agg #[.int .i64 x71, .int .u64 x72]) w')) ∧
  ∃ (x73 : Int), ∃ (x74 : Int), (∀ w' : World, Below w.heap.size w w' → Calls Tryd.prog 18 #[.agg #[.int .i64 x71, .int .u64 x72], .int .i64 32] w' (Vc.Ret (.agg #[.int .i64 x73, .int .u64 x74]) w')) ∧
  ∀ x75 : Int, x75 = IntKind.i64.wrap (x63 + 1) →
  ∀ x76 : Int, x76 = IntKind.i64.wrap (x63 + 1) →
  ∃ (x77 : Int), ∃ (x78 : Int), (∀ w' : World, Below w.heap.size w w' → Calls Tryd.prog 13 #[.int .i64 x75, .int .i64 x76] w' (Vc.Ret (.agg #[.int .i64 x77, .int .u64 x78]) w')) ∧
  ∃ (b5 : Bool), (∀ w' : World, Below w.heap.size w w' → Calls Tryd.prog 16 #[.agg #[.int .i64 x69, .int .u64 x70], .agg #[.int .i64 x77, .int .u64 x78]] w' (Vc.Ret (.bool b5) w')) ∧
  ((x64 = 0) → (
  ((b0 = true) → (
  ((b5 = true) → (
  (.bool true : Value) = v)) ∧ (¬ (b5 = true) → (
  (.bool false : Value) = v)))) ∧ (¬ (b0 = true) → (
  (.bool false : Value) = v)))) ∧ (¬ (x64 = 0) → (
  ∀ x79 : Int, x79 = IntKind.i64.wrap (x64 - 1) →
  ∀ x80 : Int, x80 = IntKind.i64.wrap (x64 - 1) →
  ∃ (x81 : Int), ∃ (x82 : Int), (∀ w' : World, Below w.heap.size w w' → Calls Tryd.prog 13 #[.int .i64 x79, .int .i64 x80] w' (Vc.Ret (.agg #[.int .i64 x81, .int .u64 x82]) w')) ∧
  ∃ (b6 : Bool), (∀ w' : World, Below w.heap.size w w' → Calls Tryd.prog 16 #[.agg #[.int .i64 x81, .int .u64 x82], .agg #[.int .i64 x73, .int .u64 x74]] w' (Vc.Ret (.bool b6) w')) ∧
  ((b0 = true) → (
  ((b5 = true) → (
  (.bool b6 : Value) = v)) ∧ (¬ (b5 = true) → (
  (.bool false : Value) = v)))) ∧ (¬ (b0 = true) → (
  (.bool false : Value) = v)))))) ∧ (¬ (x65 = 0) → (
  ((b0 = true) → (
  (.bool (decide (x1 < 0)) : Value) = v)) ∧ (¬ (b0 = true) → (
  (.bool false : Value) = v)))))) ∧ (¬ (b4 = true) → (
  ∃ (b5 : Bool), (∀ w' : World, Below w.heap.size w w' → Calls Tryd.prog 16 #[.agg #[.int .i64 x61, .int .u64 x62], .agg #[.int .i64 x49, .int .u64 x50]] w' (Vc.Ret (.bool b5) w')) ∧
  ∃ (x63 : Int), ∃ (x64 : Int), ∃ (x65 : Int), (∀ w' : World, Below w.heap.size w w' → Calls Tryd.prog 17 #[.agg #[.int .i64 x0, .int .i64 x1]] w' (Vc.Ret (.tuple #[.agg #[.int .i64 x63, .int .i64 x64], .int .i64 x65]) w')) ∧
  ((x65 = 0) → (
  ∀ x66 : Int, x66 = (if 0 > x0 then 0 else x0) →
  ∃ (x67 : Int), ∃ (x68 : Int), (∀ w' : World, Below w.heap.size w w' → Calls Tryd.prog 15 #[.int .i64 x66] w' (Vc.Ret (.agg #[.int .i64 x67, .int .u64 x68]) w')) ∧
  ∃ (x69 : Int), ∃ (x70 : Int), (∀ w' : World, Below w.heap.size w w' → Calls Tryd.prog 18 #[.agg #[.int .i64 x67, .int .u64 x68], .int .i64 32] w' (Vc.Ret (.agg #[.int .i64 x69, .int .u64 x70]) w')) ∧
  ∃ (x71 : Int), ∃ (x72 : Int), (∀ w' : World, Below w.heap.size w w' → Calls Tryd.prog 15 #[.int .i64 x1] w' (Vc.Ret (.agg #[.int .i64 x71, .int .u64 x72]) w')) ∧
  ∃ (x73 : Int), ∃ (x74 : Int), (∀ w' : World, Below w.heap.size w w' → Calls Tryd.prog 18 #[.agg #[.int .i64 x71, .int .u64 x72], .int .i64 32] w' (Vc.Ret (.agg #[.int .i64 x73, .int .u64 x74]) w')) ∧
  ∀ x75 : Int, x75 = IntKind.i64.wrap (x63 + 1) →
  ∀ x76 : Int, x76 = IntKind.i64.wrap (x63 + 1) →
  ∃ (x77 : Int), ∃ (x78 : Int), (∀ w' : World, Below w.heap.size w w' → Calls Tryd.prog 13 #[.int .i64 x75, .int .i64 x76] w' (Vc.Ret (.agg #[.int .i64 x77, .int .u64 x78]) w')) ∧
  ∃ (b6 : Bool), (∀ w' : World, Below w.heap.size w w' → Calls Tryd.prog 16 #[.agg #[.int .i64 x69, .int .u64 x70], .agg #[.int .i64 x77, .int .u64 x78]] w' (Vc.Ret (.bool b6) w')) ∧
  ((x64 = 0) → (
  ((b0 = true) → (
  ((b5 = true) → (
  ((b6 = true) → (
  (.bool true : Value) = v)) ∧ (¬ (b6 = true) → (
  (.bool false : Value) = v)))) ∧ (¬ (b5 = true) → (
  (.bool false : Value) = v)))) ∧ (¬ (b0 = true) → (
  (.bool false : Value) = v)))) ∧ (¬ (x64 = 0) → (
  ∀ x79 : Int, x79 = IntKind.i64.wrap (x64 - 1) →
  ∀ x80 : Int, x80 = IntKind.i64.wrap (x64 - 1) →
  ∃ (x81 : Int), ∃ (x82 : Int), (∀ w' : World, Below w.heap.size w w' → Calls Tryd.prog 13 #[.int .i64 x79, .int .i64 x80] w' (Vc.Ret (.agg #[.int .i64 x81, .int .u64 x82]) w')) ∧
  ∃ (b7 : Bool), (∀ w' : World, Below w.heap.size w w' → Calls Tryd.prog 16 #[.agg #[.int .i64 x81, .int .u64 x82], .agg #[.int .i64 x73, .int .u64 x74]] w' (Vc.Ret (.bool b7) w')) ∧
  ((b0 = true) → (
  ((b5 = true) → (
  ((b6 = true) → (
  (.bool b7 : Value) = v)) ∧ (¬ (b6 = true) → (
  (.bool false : Value) = v)))) ∧ (¬ (b5 = true) → (
  (.bool false : Value) = v)))) ∧ (¬ (b0 = true) → (
  (.bool false : Value) = v)))))) ∧ (¬ (x65 = 0) → (
  ((b0 = true) → (
  ((b5 = true) → (
  (.bool (decide (x1 < 0)) : Value) = v)) ∧ (¬ (b5 = true) → (
  (.bool false : Value) = v)))) ∧ (¬ (b0 = true) → (
  (.bool false : Value) = v)))))))))))) ∧ (¬ (b1 = true) → (
  ∃ (b3 : Bool), (∀ w' : World, Below w.heap.size w w' → Calls Tryd.prog 16 #[.agg #[.int .i64 x21, .int .u64 x22], .agg #[.int .i64 x27, .int .u64 x28]] w' (Vc.Ret (.bool b3) w')) ∧
  ((b2 = true) → (
  ∃ (x35 : Int), ∃ (x36 : Int), (∀ w' : World, Below w.heap.size w w' → Calls Tryd.prog 13 #[.int .i64 x1, .int .i64 x2] w' (Vc.Ret (.agg #[.int .i64 x35, .int .u64 x36]) w')) ∧
  ∃ (x37 : Int), ∃ (x38 : Int), (∀ w' : World, Below w.heap.size w w' → Calls Tryd.prog 13 #[.int .i64 x4, .int .i64 4294967296] w' (Vc.Ret (.agg #[.int .i64 x37, .int .u64 x38]) w')) ∧
  ∃ (x39 : Int), ∃ (x40 : Int), (∀ w' : World, Below w.heap.size w w' → Calls Tryd.prog 15 #[.int .i64 4294967296] w' (Vc.Ret (.agg #[.int .i64 x39, .int .u64 x40]) w')) ∧
  ∃ (x41 : Int), ∃ (x42 : Int), (∀ w' : World, Below w.heap.size w w' → Calls Tryd.prog 14 #[.agg #[.int .i64 x37, .int .u64 x38], .agg #[.int .i64 x39, .int .u64 x40]] w' (Vc.Ret (.agg #[.int .i64 x41, .int .u64 x42]) w')) ∧
  ∃ (x43 : Int), ∃ (x44 : Int), (∀ w' : World, Below w.heap.size w w' → Calls Tryd.prog 13 #[.int .i64 x5, .int .i64 4294967296] w' (Vc.Ret (.agg #[.int .i64 x43, .int .u64 x44]) w')) ∧
  ∃ (x45 : Int), ∃ (x46 : Int), (∀ w' : World, Below w.heap.size w w' → Calls Tryd.prog 15 #[.int .i64 (-4294967296)] w' (Vc.Ret (.agg #[.int .i64 x45, .int .u64 x46]) w')) ∧
  ∃ (x47 : Int), ∃ (x48 : Int), (∀ w' : World, Below w.heap.size w w' → Calls Tryd.prog 14 #[.agg #[.int .i64 x43, .int .u64 x44], .agg #[.int .i64 x45, .int .u64 x46]] w' (Vc.Ret (.agg #[.int .i64 x47, .int .u64 x48]) w')) ∧
  ((b3 = true) → (
  ∃ (x49 : Int), ∃ (x50 : Int), (∀ w' : World, Below w.heap.size w w' → Calls Tryd.prog 13 #[.int .i64 x1, .int .i64 x3] w' (Vc.Ret (.agg #[.int .i64 x49, .int .u64 x50]) w')) ∧
  ∃ (x51 : Int), ∃ (x52 : Int), (∀ w' : World, Below w.heap.size w w' → Calls Tryd.prog 13 #[.int .i64 x4, .int .i64 4294967296] w' (Vc.Ret (.agg #[.int .i64 x51, .int .u64 x52]) w')) ∧
  ∃ (x53 : Int), ∃ (x54 : Int), (∀ w' : World, Below w.heap.size w w' → Calls Tryd.prog 15 #[.int .i64 4294967296] w' (Vc.Ret (.agg #[.int .i64 x53, .int .u64 x54]) w')) ∧
  ∃ (x55 : Int), ∃ (x56 : Int), (∀ w' : World, Below w.heap.size w w' → Calls Tryd.prog 14 #[.agg #[.int .i64 x51, .int .u64 x52], .agg #[.int .i64 x53, .int .u64 x54]] w' (Vc.Ret (.agg #[.int .i64 x55, .int .u64 x56]) w')) ∧
  ∃ (x57 : Int), ∃ (x58 : Int), (∀ w' : World, Below w.heap.size w w' → Calls Tryd.prog 13 #[.int .i64 x5, .int .i64 4294967296] w' (Vc.Ret (.agg #[.int .i64 x57, .int .u64 x58]) w')) ∧
  ∃ (x59 : Int), ∃ (x60 : Int), (∀ w' : World, Below w.heap.size w w' → Calls Tryd.prog 15 #[.int .i64 (-4294967296)] w' (Vc.Ret (.agg #[.int .i64 x59, .int .u64 x60]) w')) ∧
  ∃ (x61 : Int), ∃ (x62 : Int), (∀ w' : World, Below w.heap.size w w' → Calls Tryd.prog 14 #[.agg #[.int .i64 x57, .int .u64 x58], .agg #[.int .i64 x59, .int .u64 x60]] w' (Vc.Ret (.agg #[.int .i64 x61, .int .u64 x62]) w')) ∧
  ∃ (x63 : Int), ∃ (x64 : Int), ∃ (x65 : Int), (∀ w' : World, Below w.heap.size w w' → Calls Tryd.prog 17 #[.agg #[.int .i64 x0, .int .i64 x1]] w' (Vc.Ret (.tuple #[.agg #[.int .i64 x63, .int .i64 x64], .int .i64 x65]) w')) ∧
  ((x65 = 0) → (
  ∀ x66 : Int, x66 = (if 0 > x0 then 0 else x0) →
  ∃ (x67 : Int), ∃ (x68 : Int), (∀ w' : World, Below w.heap.size w w' → Calls Tryd.prog 15 #[.int .i64 x66] w' (Vc.Ret (.agg #[.int .i64 x67, .int .u64 x68]) w')) ∧
  ∃ (x69 : Int), ∃ (x70 : Int), (∀ w' : World, Below w.heap.size w w' → Calls Tryd.prog 18 #[.agg #[.int .i64 x67, .int .u64 x68], .int .i64 32] w' (Vc.Ret (.agg #[.int .i64 x69, .int .u64 x70]) w')) ∧
  ∃ (x71 : Int), ∃ (x72 : Int), (∀ w' : World, Below w.heap.size w w' → Calls Tryd.prog 15 #[.int .i64 x1] w' (Vc.Ret (.agg #[.int .i64 x71, .int .u64 x72]) w')) ∧
  ∃ (x73 : Int), ∃ (x74 : Int), (∀ w' : World, Below w.heap.size w w' → Calls Tryd.prog 18 #[.agg #[.int .i64 x71, .int .u64 x72], .int .i64 32] w' (Vc.Ret (.agg #[.int .i64 x73, .int .u64 x74]) w')) ∧
  ∀ x75 : Int, x75 = IntKind.i64.wrap (x63 + 1) →
  ∀ x76 : Int, x76 = IntKind.i64.wrap (x63 + 1) →
  ∃ (x77 : Int), ∃ (x78 : Int), (∀ w' : World, Below w.heap.size w w' → Calls Tryd.prog 13 #[.int .i64 x75, .int .i64 x76] w' (Vc.Ret (.agg #[.int .i64 x77, .int .u64 x78]) w')) ∧
  ∃ (b4 : Bool), (∀ w' : World, Below w.heap.size w w' → Calls Tryd.prog 16 #[.agg #[.int .i64 x69, .int .u64 x70], .agg #[.int .i64 x77, .int .u64 x78]] w' (Vc.Ret (.bool b4) w')) ∧
  ((x64 = 0) → (
  ((b0 = true) → (
  ((b4 = true) → (
  (.bool true : Value) = v)) ∧ (¬ (b4 = true) → (
  (.bool false : Value) = v)))) ∧ (¬ (b0 = true) → (
  (.bool false : Value) = v)))) ∧ (¬ (x64 = 0) → (
  ∀ x79 : Int, x79 = IntKind.i64.wrap (x64 - 1) →
  ∀ x80 : Int, x80 = IntKind.i64.wrap (x64 - 1) →
  ∃ (x81 : Int), ∃ (x82 : Int), (∀ w' : World, Below w.heap.size w w' → Calls Tryd.prog 13 #[.int .i64 x79, .int .i64 x80] w' (Vc.Ret (.agg #[.int .i64 x81, .int .u64 x82]) w')) ∧
  ∃ (b5 : Bool), (∀ w' : World, Below w.heap.size w w' → Calls Tryd.prog 16 #[.agg #[.int .i64 x81, .int .u64 x82], .agg #[.int .i64 x73, .int .u64 x74]] w' (Vc.Ret (.bool b5) w')) ∧
  ((b0 = true) → (
  ((b4 = true) → (
  (.bool b5 : Value) = v)) ∧ (¬ (b4 = true) → (
  (.bool false : Value) = v)))) ∧ (¬ (b0 = true) → (
  (.bool false : Value) = v)))))) ∧ (¬ (x65 = 0) → (
  ((b0 = true) → (
  (.bool (decide (x1 < 0)) : Value) = v)) ∧ (¬ (b0 = true) → (
  (.bool false : Value) = v)))))) ∧ (¬ (b3 = true) → (
  ∃ (b4 : Bool), (∀ w' : World, Below w.heap.size w w' → Calls Tryd.prog 16 #[.agg #[.int .i64 x35, .int .u64 x36], .agg #[.int .i64 x41, .int .u64 x42]] w' (Vc.Ret (.bool b4) w')) ∧
  ∃ (x49 : Int), ∃ (x50 : Int), (∀ w' : World, Below w.heap.size w w' → Calls Tryd.prog 13 #[.int .i64 x1, .int .i64 x3] w' (Vc.Ret (.agg #[.int .i64 x49, .int .u64 x50]) w')) ∧
  ∃ (x51 : Int), ∃ (x52 : Int), (∀ w' : World, Below w.heap.size w w' → Calls Tryd.prog 13 #[.int .i64 x4, .int .i64 4294967296] w' (Vc.Ret (.agg #[.int .i64 x51, .int .u64 x52]) w')) ∧
  ∃ (x53 : Int), ∃ (x54 : Int), (∀ w' : World, Below w.heap.size w w' → Calls Tryd.prog 15 #[.int .i64 4294967296] w' (Vc.Ret (.agg #[.int .i64 x53, .int .u64 x54]) w')) ∧
  ∃ (x55 : Int), ∃ (x56 : Int), (∀ w' : World, Below w.heap.size w w' → Calls Tryd.prog 14 #[.agg #[.int .i64 x51, .int .u64 x52], .agg #[.int .i64 x53, .int .u64 x54]] w' (Vc.Ret (.agg #[.int .i64 x55, .int .u64 x56]) w')) ∧
  ∃ (x57 : Int), ∃ (x58 : Int), (∀ w' : World, Below w.heap.size w w' → Calls Tryd.prog 13 #[.int .i64 x5, .int .i64 4294967296] w' (Vc.Ret (.agg #[.int .i64 x57, .int .u64 x58]) w')) ∧
  ∃ (x59 : Int), ∃ (x60 : Int), (∀ w' : World, Below w.heap.size w w' → Calls Tryd.prog 15 #[.int .i64 (-4294967296)] w' (Vc.Ret (.agg #[.int .i64 x59, .int .u64 x60]) w')) ∧
  ∃ (x61 : Int), ∃ (x62 : Int), (∀ w' : World, Below w.heap.size w w' → Calls Tryd.prog 14 #[.agg #[.int .i64 x57, .int .u64 x58], .agg #[.int .i64 x59, .int .u64 x60]] w' (Vc.Ret (.agg #[.int .i64 x61, .int .u64 x62]) w')) ∧
  ((b4 = true) → (
  ∃ (x63 : Int), ∃ (x64 : Int), ∃ (x65 : Int), (∀ w' : World, Below w.heap.size w w' → Calls Tryd.prog 17 #[.agg #[.int .i64 x0, .int .i64 x1]] w' (Vc.Ret (.tuple #[.agg #[.int .i64 x63, .int .i64 x64], .int .i64 x65]) w')) ∧
  ((x65 = 0) → (
  ∀ x66 : Int, x66 = (if 0 > x0 then 0 else x0) →
  ∃ (x67 : Int), ∃ (x68 : Int), (∀ w' : World, Below w.heap.size w w' → Calls Tryd.prog 15 #[.int .i64 x66] w' (Vc.Ret (.agg #[.int .i64 x67, .int .u64 x68]) w')) ∧
  ∃ (x69 : Int), ∃ (x70 : Int), (∀ w' : World, Below w.heap.size w w' → Calls Tryd.prog 18 #[.agg #[.int .i64 x67, .int .u64 x68], .int .i64 32] w' (Vc.Ret (.agg #[.int .i64 x69, .int .u64 x70]) w')) ∧
  ∃ (x71 : Int), ∃ (x72 : Int), (∀ w' : World, Below w.heap.size w w' → Calls Tryd.prog 15 #[.int .i64 x1] w' (Vc.Ret (.agg #[.int .i64 x71, .int .u64 x72]) w')) ∧
  ∃ (x73 : Int), ∃ (x74 : Int), (∀ w' : World, Below w.heap.size w w' → Calls Tryd.prog 18 #[.agg #[.int .i64 x71, .int .u64 x72], .int .i64 32] w' (Vc.Ret (.agg #[.int .i64 x73, .int .u64 x74]) w')) ∧
  ∀ x75 : Int, x75 = IntKind.i64.wrap (x63 + 1) →
  ∀ x76 : Int, x76 = IntKind.i64.wrap (x63 + 1) →
  ∃ (x77 : Int), ∃ (x78 : Int), (∀ w' : World, Below w.heap.size w w' → Calls Tryd.prog 13 #[.int .i64 x75, .int .i64 x76] w' (Vc.Ret (.agg #[.int .i64 x77, .int .u64 x78]) w')) ∧
  ∃ (b5 : Bool), (∀ w' : World, Below w.heap.size w w' → Calls Tryd.prog 16 #[.agg #[.int .i64 x69, .int .u64 x70], .agg #[.int .i64 x77, .int .u64 x78]] w' (Vc.Ret (.bool b5) w')) ∧
  ((x64 = 0) → (
  ((b0 = true) → (
  ((b5 = true) → (
  (.bool true : Value) = v)) ∧ (¬ (b5 = true) → (
  (.bool false : Value) = v)))) ∧ (¬ (b0 = true) → (
  (.bool false : Value) = v)))) ∧ (¬ (x64 = 0) → (
  ∀ x79 : Int, x79 = IntKind.i64.wrap (x64 - 1) →
  ∀ x80 : Int, x80 = IntKind.i64.wrap (x64 - 1) →
  ∃ (x81 : Int), ∃ (x82 : Int), (∀ w' : World, Below w.heap.size w w' → Calls Tryd.prog 13 #[.int .i64 x79, .int .i64 x80] w' (Vc.Ret (.agg #[.int .i64 x81, .int .u64 x82]) w')) ∧
  ∃ (b6 : Bool), (∀ w' : World, Below w.heap.size w w' → Calls Tryd.prog 16 #[.agg #[.int .i64 x81, .int .u64 x82], .agg #[.int .i64 x73, .int .u64 x74]] w' (Vc.Ret (.bool b6) w')) ∧
  ((b0 = true) → (
  ((b5 = true) → (
  (.bool b6 : Value) = v)) ∧ (¬ (b5 = true) → (
  (.bool false : Value) = v)))) ∧ (¬ (b0 = true) → (
  (.bool false : Value) = v)))))) ∧ (¬ (x65 = 0) → (
  ((b0 = true) → (
  (.bool (decide (x1 < 0)) : Value) = v)) ∧ (¬ (b0 = true) → (
  (.bool false : Value) = v)))))) ∧ (¬ (b4 = true) → (
  ∃ (b5 : Bool), (∀ w' : World, Below w.heap.size w w' → Calls Tryd.prog 16 #[.agg #[.int .i64 x49, .int .u64 x50], .agg #[.int .i64 x55, .int .u64 x56]] w' (Vc.Ret (.bool b5) w')) ∧
  ∃ (x63 : Int), ∃ (x64 : Int), ∃ (x65 : Int), (∀ w' : World, Below w.heap.size w w' → Calls Tryd.prog 17 #[.agg #[.int .i64 x0, .int .i64 x1]] w' (Vc.Ret (.tuple #[.agg #[.int .i64 x63, .int .i64 x64], .int .i64 x65]) w')) ∧
  ((x65 = 0) → (
  ∀ x66 : Int, x66 = (if 0 > x0 then 0 else x0) →
  ∃ (x67 : Int), ∃ (x68 : Int), (∀ w' : World, Below w.heap.size w w' → Calls Tryd.prog 15 #[.int .i64 x66] w' (Vc.Ret (.agg #[.int .i64 x67, .int .u64 x68]) w')) ∧
  ∃ (x69 : Int), ∃ (x70 : Int), (∀ w' : World, Below w.heap.size w w' → Calls Tryd.prog 18 #[.agg #[.int .i64 x67, .int .u64 x68], .int .i64 32] w' (Vc.Ret (.agg #[.int .i64 x69, .int .u64 x70]) w')) ∧
  ∃ (x71 : Int), ∃ (x72 : Int), (∀ w' : World, Below w.heap.size w w' → Calls Tryd.prog 15 #[.int .i64 x1] w' (Vc.Ret (.agg #[.int .i64 x71, .int .u64 x72]) w')) ∧
  ∃ (x73 : Int), ∃ (x74 : Int), (∀ w' : World, Below w.heap.size w w' → Calls Tryd.prog 18 #[.agg #[.int .i64 x71, .int .u64 x72], .int .i64 32] w' (Vc.Ret (.agg #[.int .i64 x73, .int .u64 x74]) w')) ∧
  ∀ x75 : Int, x75 = IntKind.i64.wrap (x63 + 1) →
  ∀ x76 : Int, x76 = IntKind.i64.wrap (x63 + 1) →
  ∃ (x77 : Int), ∃ (x78 : Int), (∀ w' : World, Below w.heap.size w w' → Calls Tryd.prog 13 #[.int .i64 x75, .int .i64 x76] w' (Vc.Ret (.agg #[.int .i64 x77, .int .u64 x78]) w')) ∧
  ∃ (b6 : Bool), (∀ w' : World, Below w.heap.size w w' → Calls Tryd.prog 16 #[.agg #[.int .i64 x69, .int .u64 x70], .agg #[.int .i64 x77, .int .u64 x78]] w' (Vc.Ret (.bool b6) w')) ∧
  ((x64 = 0) → (
  ((b0 = true) → (
  ((b5 = true) → (
  ((b6 = true) → (
  (.bool true : Value) = v)) ∧ (¬ (b6 = true) → (
  (.bool false : Value) = v)))) ∧ (¬ (b5 = true) → (
  (.bool false : Value) = v)))) ∧ (¬ (b0 = true) → (
  (.bool false : Value) = v)))) ∧ (¬ (x64 = 0) → (
  ∀ x79 : Int, x79 = IntKind.i64.wrap (x64 - 1) →
  ∀ x80 : Int, x80 = IntKind.i64.wrap (x64 - 1) →
  ∃ (x81 : Int), ∃ (x82 : Int), (∀ w' : World, Below w.heap.size w w' → Calls Tryd.prog 13 #[.int .i64 x79, .int .i64 x80] w' (Vc.Ret (.agg #[.int .i64 x81, .int .u64 x82]) w')) ∧
  ∃ (b7 : Bool), (∀ w' : World, Below w.heap.size w w' → Calls Tryd.prog 16 #[.agg #[.int .i64 x81, .int .u64 x82], .agg #[.int .i64 x73, .int .u64 x74]] w' (Vc.Ret (.bool b7) w')) ∧
  ((b0 = true) → (
  ((b5 = true) → (
  ((b6 = true) → (
  (.bool b7 : Value) = v)) ∧ (¬ (b6 = true) → (
  (.bool false : Value) = v)))) ∧ (¬ (b5 = true) → (
  (.bool false : Value) = v)))) ∧ (¬ (b0 = true) → (
  (.bool false : Value) = v)))))) ∧ (¬ (x65 = 0) → (
  ((b0 = true) → (
  ((b5 = true) → (
  (.bool (decide (x1 < 0)) : Value) = v)) ∧ (¬ (b5 = true) → (
  (.bool false : Value) = v)))) ∧ (¬ (b0 = true) → (
  (.bool false : Value) = v)))))))))) ∧ (¬ (b2 = true) → (
  ∃ (b4 : Bool), (∀ w' : World, Below w.heap.size w w' → Calls Tryd.prog 16 #[.agg #[.int .i64 x33, .int .u64 x34], .agg #[.int .i64 x21, .int .u64 x22]] w' (Vc.Ret (.bool b4) w')) ∧
  ∃ (x35 : Int), ∃ (x36 : Int), (∀ w' : World, Below w.heap.size w w' → Calls Tryd.prog 13 #[.int .i64 x1, .int .i64 x2] w' (Vc.Ret (.agg #[.int .i64 x35, .int .u64 x36]) w')) ∧
  ∃ (x37 : Int), ∃ (x38 : Int), (∀ w' : World, Below w.heap.size w w' → Calls Tryd.prog 13 #[.int .i64 x4, .int .i64 4294967296] w' (Vc.Ret (.agg #[.int .i64 x37, .int .u64 x38]) w')) ∧
  ∃ (x39 : Int), ∃ (x40 : Int), (∀ w' : World, Below w.heap.size w w' → Calls Tryd.prog 15 #[.int .i64 4294967296] w' (Vc.Ret (.agg #[.int .i64 x39, .int .u64 x40]) w')) ∧
  ∃ (x41 : Int), ∃ (x42 : Int), (∀ w' : World, Below w.heap.size w w' → Calls Tryd.prog 14 #[.agg #[.int .i64 x37, .int .u64 x38], .agg #[.int .i64 x39, .int .u64 x40]] w' (Vc.Ret (.agg #[.int .i64 x41, .int .u64 x42]) w')) ∧
  ∃ (x43 : Int), ∃ (x44 : Int), (∀ w' : World, Below w.heap.size w w' → Calls Tryd.prog 13 #[.int .i64 x5, .int .i64 4294967296] w' (Vc.Ret (.agg #[.int .i64 x43, .int .u64 x44]) w')) ∧
  ∃ (x45 : Int), ∃ (x46 : Int), (∀ w' : World, Below w.heap.size w w' → Calls Tryd.prog 15 #[.int .i64 (-4294967296)] w' (Vc.Ret (.agg #[.int .i64 x45, .int .u64 x46]) w')) ∧
  ∃ (x47 : Int), ∃ (x48 : Int), (∀ w' : World, Below w.heap.size w w' → Calls Tryd.prog 14 #[.agg #[.int .i64 x43, .int .u64 x44], .agg #[.int .i64 x45, .int .u64 x46]] w' (Vc.Ret (.agg #[.int .i64 x47, .int .u64 x48]) w')) ∧
  ((b3 = true) → (
  ((b4 = true) → (
  ∃ (x49 : Int), ∃ (x50 : Int), (∀ w' : World, Below w.heap.size w w' → Calls Tryd.prog 13 #[.int .i64 x1, .int .i64 x3] w' (Vc.Ret (.agg #[.int .i64 x49, .int .u64 x50]) w')) ∧
  ∃ (x51 : Int), ∃ (x52 : Int), (∀ w' : World, Below w.heap.size w w' → Calls Tryd.prog 13 #[.int .i64 x4, .int .i64 4294967296] w' (Vc.Ret (.agg #[.int .i64 x51, .int .u64 x52]) w')) ∧
  ∃ (x53 : Int), ∃ (x54 : Int), (∀ w' : World, Below w.heap.size w w' → Calls Tryd.prog 15 #[.int .i64 4294967296] w' (Vc.Ret (.agg #[.int .i64 x53, .int .u64 x54]) w')) ∧
  ∃ (x55 : Int), ∃ (x56 : Int), (∀ w' : World, Below w.heap.size w w' → Calls Tryd.prog 14 #[.agg #[.int .i64 x51, .int .u64 x52], .agg #[.int .i64 x53, .int .u64 x54]] w' (Vc.Ret (.agg #[.int .i64 x55, .int .u64 x56]) w')) ∧
  ∃ (x57 : Int), ∃ (x58 : Int), (∀ w' : World, Below w.heap.size w w' → Calls Tryd.prog 13 #[.int .i64 x5, .int .i64 4294967296] w' (Vc.Ret (.agg #[.int .i64 x57, .int .u64 x58]) w')) ∧
  ∃ (x59 : Int), ∃ (x60 : Int), (∀ w' : World, Below w.heap.size w w' → Calls Tryd.prog 15 #[.int .i64 (-4294967296)] w' (Vc.Ret (.agg #[.int .i64 x59, .int .u64 x60]) w')) ∧
  ∃ (x61 : Int), ∃ (x62 : Int), (∀ w' : World, Below w.heap.size w w' → Calls Tryd.prog 14 #[.agg #[.int .i64 x57, .int .u64 x58], .agg #[.int .i64 x59, .int .u64 x60]] w' (Vc.Ret (.agg #[.int .i64 x61, .int .u64 x62]) w')) ∧
  ∃ (x63 : Int), ∃ (x64 : Int), ∃ (x65 : Int), (∀ w' : World, Below w.heap.size w w' → Calls Tryd.prog 17 #[.agg #[.int .i64 x0, .int .i64 x1]] w' (Vc.Ret (.tuple #[.agg #[.int .i64 x63, .int .i64 x64], .int .i64 x65]) w')) ∧
  ((x65 = 0) → (
  ∀ x66 : Int, x66 = (if 0 > x0 then 0 else x0) →
  ∃ (x67 : Int), ∃ (x68 : Int), (∀ w' : World, Below w.heap.size w w' → Calls Tryd.prog 15 #[.int .i64 x66] w' (Vc.Ret (.agg #[.int .i64 x67, .int .u64 x68]) w')) ∧
  ∃ (x69 : Int), ∃ (x70 : Int), (∀ w' : World, Below w.heap.size w w' → Calls Tryd.prog 18 #[.agg #[.int .i64 x67, .int .u64 x68], .int .i64 32] w' (Vc.Ret (.agg #[.int .i64 x69, .int .u64 x70]) w')) ∧
  ∃ (x71 : Int), ∃ (x72 : Int), (∀ w' : World, Below w.heap.size w w' → Calls Tryd.prog 15 #[.int .i64 x1] w' (Vc.Ret (.agg #[.int .i64 x71, .int .u64 x72]) w')) ∧
  ∃ (x73 : Int), ∃ (x74 : Int), (∀ w' : World, Below w.heap.size w w' → Calls Tryd.prog 18 #[.agg #[.int .i64 x71, .int .u64 x72], .int .i64 32] w' (Vc.Ret (.agg #[.int .i64 x73, .int .u64 x74]) w')) ∧
  ∀ x75 : Int, x75 = IntKind.i64.wrap (x63 + 1) →
  ∀ x76 : Int, x76 = IntKind.i64.wrap (x63 + 1) →
  ∃ (x77 : Int), ∃ (x78 : Int), (∀ w' : World, Below w.heap.size w w' → Calls Tryd.prog 13 #[.int .i64 x75, .int .i64 x76] w' (Vc.Ret (.agg #[.int .i64 x77, .int .u64 x78]) w')) ∧
  ∃ (b5 : Bool), (∀ w' : World, Below w.heap.size w w' → Calls Tryd.prog 16 #[.agg #[.int .i64 x69, .int .u64 x70], .agg #[.int .i64 x77, .int .u64 x78]] w' (Vc.Ret (.bool b5) w')) ∧
  ((x64 = 0) → (
  ((b0 = true) → (
  ((b5 = true) → (
  (.bool true : Value) = v)) ∧ (¬ (b5 = true) → (
  (.bool false : Value) = v)))) ∧ (¬ (b0 = true) → (
  (.bool false : Value) = v)))) ∧ (¬ (x64 = 0) → (
  ∀ x79 : Int, x79 = IntKind.i64.wrap (x64 - 1) →
  ∀ x80 : Int, x80 = IntKind.i64.wrap (x64 - 1) →
  ∃ (x81 : Int), ∃ (x82 : Int), (∀ w' : World, Below w.heap.size w w' → Calls Tryd.prog 13 #[.int .i64 x79, .int .i64 x80] w' (Vc.Ret (.agg #[.int .i64 x81, .int .u64 x82]) w')) ∧
  ∃ (b6 : Bool), (∀ w' : World, Below w.heap.size w w' → Calls Tryd.prog 16 #[.agg #[.int .i64 x81, .int .u64 x82], .agg #[.int .i64 x73, .int .u64 x74]] w' (Vc.Ret (.bool b6) w')) ∧
  ((b0 = true) → (
  ((b5 = true) → (
  (.bool b6 : Value) = v)) ∧ (¬ (b5 = true) → (
  (.bool false : Value) = v)))) ∧ (¬ (b0 = true) → (
  (.bool false : Value) = v)))))) ∧ (¬ (x65 = 0) → (
  ((b0 = true) → (
  (.bool (decide (x1 < 0)) : Value) = v)) ∧ (¬ (b0 = true) → (
  (.bool false : Value) = v)))))) ∧ (¬ (b4 = true) → (
  ∃ (b5 : Bool), (∀ w' : World, Below w.heap.size w w' → Calls Tryd.prog 16 #[.agg #[.int .i64 x47, .int .u64 x48], .agg #[.int .i64 x35, .int .u64 x36]] w' (Vc.Ret (.bool b5) w')) ∧
  ∃ (x49 : Int), ∃ (x50 : Int), (∀ w' : World, Below w.heap.size w w' → Calls Tryd.prog 13 #[.int .i64 x1, .int .i64 x3] w' (Vc.Ret (.agg #[.int .i64 x49, .int .u64 x50]) w')) ∧
  ∃ (x51 : Int), ∃ (x52 : Int), (∀ w' : World, Below w.heap.size w w' → Calls Tryd.prog 13 #[.int .i64 x4, .int .i64 4294967296] w' (Vc.Ret (.agg #[.int .i64 x51, .int .u64 x52]) w')) ∧
  ∃ (x53 : Int), ∃ (x54 : Int), (∀ w' : World, Below w.heap.size w w' → Calls Tryd.prog 15 #[.int .i64 4294967296] w' (Vc.Ret (.agg #[.int .i64 x53, .int .u64 x54]) w')) ∧
  ∃ (x55 : Int), ∃ (x56 : Int), (∀ w' : World, Below w.heap.size w w' → Calls Tryd.prog 14 #[.agg #[.int .i64 x51, .int .u64 x52], .agg #[.int .i64 x53, .int .u64 x54]] w' (Vc.Ret (.agg #[.int .i64 x55, .int .u64 x56]) w')) ∧
  ∃ (x57 : Int), ∃ (x58 : Int), (∀ w' : World, Below w.heap.size w w' → Calls Tryd.prog 13 #[.int .i64 x5, .int .i64 4294967296] w' (Vc.Ret (.agg #[.int .i64 x57, .int .u64 x58]) w')) ∧
  ∃ (x59 : Int), ∃ (x60 : Int), (∀ w' : World, Below w.heap.size w w' → Calls Tryd.prog 15 #[.int .i64 (-4294967296)] w' (Vc.Ret (.agg #[.int .i64 x59, .int .u64 x60]) w')) ∧
  ∃ (x61 : Int), ∃ (x62 : Int), (∀ w' : World, Below w.heap.size w w' → Calls Tryd.prog 14 #[.agg #[.int .i64 x57, .int .u64 x58], .agg #[.int .i64 x59, .int .u64 x60]] w' (Vc.Ret (.agg #[.int .i64 x61, .int .u64 x62]) w')) ∧
  ((b5 = true) → (
  ∃ (x63 : Int), ∃ (x64 : Int), ∃ (x65 : Int), (∀ w' : World, Below w.heap.size w w' → Calls Tryd.prog 17 #[.agg #[.int .i64 x0, .int .i64 x1]] w' (Vc.Ret (.tuple #[.agg #[.int .i64 x63, .int .i64 x64], .int .i64 x65]) w')) ∧
  ((x65 = 0) → (
  ∀ x66 : Int, x66 = (if 0 > x0 then 0 else x0) →
  ∃ (x67 : Int), ∃ (x68 : Int), (∀ w' : World, Below w.heap.size w w' → Calls Tryd.prog 15 #[.int .i64 x66] w' (Vc.Ret (.agg #[.int .i64 x67, .int .u64 x68]) w')) ∧
  ∃ (x69 : Int), ∃ (x70 : Int), (∀ w' : World, Below w.heap.size w w' → Calls Tryd.prog 18 #[.agg #[.int .i64 x67, .int .u64 x68], .int .i64 32] w' (Vc.Ret (.agg #[.int .i64 x69, .int .u64 x70]) w')) ∧
  ∃ (x71 : Int), ∃ (x72 : Int), (∀ w' : World, Below w.heap.size w w' → Calls Tryd.prog 15 #[.int .i64 x1] w' (Vc.Ret (.agg #[.int .i64 x71, .int .u64 x72]) w')) ∧
  ∃ (x73 : Int), ∃ (x74 : Int), (∀ w' : World, Below w.heap.size w w' → Calls Tryd.prog 18 #[.agg #[.int .i64 x71, .int .u64 x72], .int .i64 32] w' (Vc.Ret (.agg #[.int .i64 x73, .int .u64 x74]) w')) ∧
  ∀ x75 : Int, x75 = IntKind.i64.wrap (x63 + 1) →
  ∀ x76 : Int, x76 = IntKind.i64.wrap (x63 + 1) →
  ∃ (x77 : Int), ∃ (x78 : Int), (∀ w' : World, Below w.heap.size w w' → Calls Tryd.prog 13 #[.int .i64 x75, .int .i64 x76] w' (Vc.Ret (.agg #[.int .i64 x77, .int .u64 x78]) w')) ∧
  ∃ (b6 : Bool), (∀ w' : World, Below w.heap.size w w' → Calls Tryd.prog 16 #[.agg #[.int .i64 x69, .int .u64 x70], .agg #[.int .i64 x77, .int .u64 x78]] w' (Vc.Ret (.bool b6) w')) ∧
  ((x64 = 0) → (
  ((b0 = true) → (
  ((b6 = true) → (
  (.bool true : Value) = v)) ∧ (¬ (b6 = true) → (
  (.bool false : Value) = v)))) ∧ (¬ (b0 = true) → (
  (.bool false : Value) = v)))) ∧ (¬ (x64 = 0) → (
  ∀ x79 : Int, x79 = IntKind.i64.wrap (x64 - 1) →
  ∀ x80 : Int, x80 = IntKind.i64.wrap (x64 - 1) →
  ∃ (x81 : Int), ∃ (x82 : Int), (∀ w' : World, Below w.heap.size w w' → Calls Tryd.prog 13 #[.int .i64 x79, .int .i64 x80] w' (Vc.Ret (.agg #[.int .i64 x81, .int .u64 x82]) w')) ∧
  ∃ (b7 : Bool), (∀ w' : World, Below w.heap.size w w' → Calls Tryd.prog 16 #[.agg #[.int .i64 x81, .int .u64 x82], .agg #[.int .i64 x73, .int .u64 x74]] w' (Vc.Ret (.bool b7) w')) ∧
  ((b0 = true) → (
  ((b6 = true) → (
  (.bool b7 : Value) = v)) ∧ (¬ (b6 = true) → (
  (.bool false : Value) = v)))) ∧ (¬ (b0 = true) → (
  (.bool false : Value) = v)))))) ∧ (¬ (x65 = 0) → (
  ((b0 = true) → (
  (.bool (decide (x1 < 0)) : Value) = v)) ∧ (¬ (b0 = true) → (
  (.bool false : Value) = v)))))) ∧ (¬ (b5 = true) → (
  ∃ (b6 : Bool), (∀ w' : World, Below w.heap.size w w' → Calls Tryd.prog 16 #[.agg #[.int .i64 x61, .int .u64 x62], .agg #[.int .i64 x49, .int .u64 x50]] w' (Vc.Ret (.bool b6) w')) ∧
  ∃ (x63 : Int), ∃ (x64 : Int), ∃ (x65 : Int), (∀ w' : World, Below w.heap.size w w' → Calls Tryd.prog 17 #[.agg #[.int .i64 x0, .int .i64 x1]] w' (Vc.Ret (.tuple #[.agg #[.int .i64 x63, .int .i64 x64], .int .i64 x65]) w')) ∧
  ((x65 = 0) → (
  ∀ x66 : Int, x66 = (if 0 > x0 then 0 else x0) →
  ∃ (x67 : Int), ∃ (x68 : Int), (∀ w' : World, Below w.heap.size w w' → Calls Tryd.prog 15 #[.int .i64 x66] w' (Vc.Ret (.agg #[.int .i64 x67, .int .u64 x68]) w')) ∧
  ∃ (x69 : Int), ∃ (x70 : Int), (∀ w' : World, Below w.heap.size w w' → Calls Tryd.prog 18 #[.agg #[.int .i64 x67, .int .u64 x68], .int .i64 32] w' (Vc.Ret (.agg #[.int .i64 x69, .int .u64 x70]) w')) ∧
  ∃ (x71 : Int), ∃ (x72 : Int), (∀ w' : World, Below w.heap.size w w' → Calls Tryd.prog 15 #[.int .i64 x1] w' (Vc.Ret (.agg #[.int .i64 x71, .int .u64 x72]) w')) ∧
  ∃ (x73 : Int), ∃ (x74 : Int), (∀ w' : World, Below w.heap.size w w' → Calls Tryd.prog 18 #[.agg #[.int .i64 x71, .int .u64 x72], .int .i64 32] w' (Vc.Ret (.agg #[.int .i64 x73, .int .u64 x74]) w')) ∧
  ∀ x75 : Int, x75 = IntKind.i64.wrap (x63 + 1) →
  ∀ x76 : Int, x76 = IntKind.i64.wrap (x63 + 1) →
  ∃ (x77 : Int), ∃ (x78 : Int), (∀ w' : World, Below w.heap.size w w' → Calls Tryd.prog 13 #[.int .i64 x75, .int .i64 x76] w' (Vc.Ret (.agg #[.int .i64 x77, .int .u64 x78]) w')) ∧
  ∃ (b7 : Bool), (∀ w' : World, Below w.heap.size w w' → Calls Tryd.prog 16 #[.agg #[.int .i64 x69, .int .u64 x70], .agg #[.int .i64 x77, .int .u64 x78]] w' (Vc.Ret (.bool b7) w')) ∧
  ((x64 = 0) → (
  ((b0 = true) → (
  ((b6 = true) → (
  ((b7 = true) → (
  (.bool true : Value) = v)) ∧ (¬ (b7 = true) → (
  (.bool false : Value) = v)))) ∧ (¬ (b6 = true) → (
  (.bool false : Value) = v)))) ∧ (¬ (b0 = true) → (
  (.bool false : Value) = v)))) ∧ (¬ (x64 = 0) → (
  ∀ x79 : Int, x79 = IntKind.i64.wrap (x64 - 1) →
  ∀ x80 : Int, x80 = IntKind.i64.wrap (x64 - 1) →
  ∃ (x81 : Int), ∃ (x82 : Int), (∀ w' : World, Below w.heap.size w w' → Calls Tryd.prog 13 #[.int .i64 x79, .int .i64 x80] w' (Vc.Ret (.agg #[.int .i64 x81, .int .u64 x82]) w')) ∧
  ∃ (b8 : Bool), (∀ w' : World, Below w.heap.size w w' → Calls Tryd.prog 16 #[.agg #[.int .i64 x81, .int .u64 x82], .agg #[.int .i64 x73, .int .u64 x74]] w' (Vc.Ret (.bool b8) w')) ∧
  ((b0 = true) → (
  ((b6 = true) → (
  ((b7 = true) → (
  (.bool b8 : Value) = v)) ∧ (¬ (b7 = true) → (
  (.bool false : Value) = v)))) ∧ (¬ (b6 = true) → (
  (.bool false : Value) = v)))) ∧ (¬ (b0 = true) → (
  (.bool false : Value) = v)))))) ∧ (¬ (x65 = 0) → (
  ((b0 = true) → (
  ((b6 = true) → (
  (.bool (decide (x1 < 0)) : Value) = v)) ∧ (¬ (b6 = true) → (
  (.bool false : Value) = v)))) ∧ (¬ (b0 = true) → (
  (.bool false : Value) = v)))))))))) ∧ (¬ (b3 = true) → (
  ∃ (b5 : Bool), (∀ w' : World, Below w.heap.size w w' → Calls Tryd.prog 16 #[.agg #[.int .i64 x35, .int .u64 x36], .agg #[.int .i64 x41, .int .u64 x42]] w' (Vc.Ret (.bool b5) w')) ∧
  ((b4 = true) → (
  ∃ (x49 : Int), ∃ (x50 : Int), (∀ w' : World, Below w.heap.size w w' → Calls Tryd.prog 13 #[.int .i64 x1, .int .i64 x3] w' (Vc.Ret (.agg #[.int .i64 x49, .int .u64 x50]) w')) ∧
  ∃ (x51 : Int), ∃ (x52 : Int), (∀ w' : World, Below w.heap.size w w' → Calls Tryd.prog 13 #[.int .i64 x4, .int .i64 4294967296] w' (Vc.Ret (.agg #[.int .i64 x51, .int .u64 x52]) w')) ∧
  ∃ (x53 : Int), ∃ (x54 : Int), (∀ w' : World, Below w.heap.size w w' → Calls Tryd.prog 15 #[.int .i64 4294967296] w' (Vc.Ret (.agg #[.int .i64 x53, .int .u64 x54]) w')) ∧
  ∃ (x55 : Int), ∃ (x56 : Int), (∀ w' : World, Below w.heap.size w w' → Calls Tryd.prog 14 #[.agg #[.int .i64 x51, .int .u64 x52], .agg #[.int .i64 x53, .int .u64 x54]] w' (Vc.Ret (.agg #[.int .i64 x55, .int .u64 x56]) w')) ∧
  ∃ (x57 : Int), ∃ (x58 : Int), (∀ w' : World, Below w.heap.size w w' → Calls Tryd.prog 13 #[.int .i64 x5, .int .i64 4294967296] w' (Vc.Ret (.agg #[.int .i64 x57, .int .u64 x58]) w')) ∧
  ∃ (x59 : Int), ∃ (x60 : Int), (∀ w' : World, Below w.heap.size w w' → Calls Tryd.prog 15 #[.int .i64 (-4294967296)] w' (Vc.Ret (.agg #[.int .i64 x59, .int .u64 x60]) w')) ∧
  ∃ (x61 : Int), ∃ (x62 : Int), (∀ w' : World, Below w.heap.size w w' → Calls Tryd.prog 14 #[.agg #[.int .i64 x57, .int .u64 x58], .agg #[.int .i64 x59, .int .u64 x60]] w' (Vc.Ret (.agg #[.int .i64 x61, .int .u64 x62]) w')) ∧
  ((b5 = true) → (
  ∃ (x63 : Int), ∃ (x64 : Int), ∃ (x65 : Int), (∀ w' : World, Below w.heap.size w w' → Calls Tryd.prog 17 #[.agg #[.int .i64 x0, .int .i64 x1]] w' (Vc.Ret (.tuple #[.agg #[.int .i64 x63, .int .i64 x64], .int .i64 x65]) w')) ∧
  ((x65 = 0) → (
  ∀ x66 : Int, x66 = (if 0 > x0 then 0 else x0) →
  ∃ (x67 : Int), ∃ (x68 : Int), (∀ w' : World, Below w.heap.size w w' → Calls Tryd.prog 15 #[.int .i64 x66] w' (Vc.Ret (.agg #[.int .i64 x67, .int .u64 x68]) w')) ∧
  ∃ (x69 : Int), ∃ (x70 : Int), (∀ w' : World, Below w.heap.size w w' → Calls Tryd.prog 18 #[.agg #[.int .i64 x67, .int .u64 x68], .int .i64 32] w' (Vc.Ret (.agg #[.int .i64 x69, .int .u64 x70]) w')) ∧
  ∃ (x71 : Int), ∃ (x72 : Int), (∀ w' : World, Below w.heap.size w w' → Calls Tryd.prog 15 #[.int .i64 x1] w' (Vc.Ret (.agg #[.int .i64 x71, .int .u64 x72]) w')) ∧
  ∃ (x73 : Int), ∃ (x74 : Int), (∀ w' : World, Below w.heap.size w w' → Calls Tryd.prog 18 #[.agg #[.int .i64 x71, .int .u64 x72], .int .i64 32] w' (Vc.Ret (.agg #[.int .i64 x73, .int .u64 x74]) w')) ∧
  ∀ x75 : Int, x75 = IntKind.i64.wrap (x63 + 1) →
  ∀ x76 : Int, x76 = IntKind.i64.wrap (x63 + 1) →
  ∃ (x77 : Int), ∃ (x78 : Int), (∀ w' : World, Below w.heap.size w w' → Calls Tryd.prog 13 #[.int .i64 x75, .int .i64 x76] w' (Vc.Ret (.agg #[.int .i64 x77, .int .u64 x78]) w')) ∧
  ∃ (b6 : Bool), (∀ w' : World, Below w.heap.size w w' → Calls Tryd.prog 16 #[.agg #[.int .i64 x69, .int .u64 x70], .agg #[.int .i64 x77, .int .u64 x78]] w' (Vc.Ret (.bool b6) w')) ∧
  ((x64 = 0) → (
  ((b0 = true) → (
  ((b6 = true) → (
  (.bool true : Value) = v)) ∧ (¬ (b6 = true) → (
  (.bool false : Value) = v)))) ∧ (¬ (b0 = true) → (
  (.bool false : Value) = v)))) ∧ (¬ (x64 = 0) → (
  ∀ x79 : Int, x79 = IntKind.i64.wrap (x64 - 1) →
  ∀ x80 : Int, x80 = IntKind.i64.wrap (x64 - 1) →
  ∃ (x81 : Int), ∃ (x82 : Int), (∀ w' : World, Below w.heap.size w w' → Calls Tryd.prog 13 #[.int .i64 x79, .int .i64 x80] w' (Vc.Ret (.agg #[.int .i64 x81, .int .u64 x82]) w')) ∧
  ∃ (b7 : Bool), (∀ w' : World, Below w.heap.size w w' → Calls Tryd.prog 16 #[.agg #[.int .i64 x81, .int .u64 x82], .agg #[.int .i64 x73, .int .u64 x74]] w' (Vc.Ret (.bool b7) w')) ∧
  ((b0 = true) → (
  ((b6 = true) → (
  (.bool b7 : Value) = v)) ∧ (¬ (b6 = true) → (
  (.bool false : Value) = v)))) ∧ (¬ (b0 = true) → (
  (.bool false : Value) = v)))))) ∧ (¬ (x65 = 0) → (
  ((b0 = true) → (
  (.bool (decide (x1 < 0)) : Value) = v)) ∧ (¬ (b0 = true) → (
  (.bool false : Value) = v)))))) ∧ (¬ (b5 = true) → (
  ∃ (b6 : Bool), (∀ w' : World, Below w.heap.size w w' → Calls Tryd.prog 16 #[.agg #[.int .i64 x49, .int .u64 x50], .agg #[.int .i64 x55, .int .u64 x56]] w' (Vc.Ret (.bool b6) w')) ∧
  ∃ (x63 : Int), ∃ (x64 : Int), ∃ (x65 : Int), (∀ w' : World, Below w.heap.size w w' → Calls Tryd.prog 17 #[.agg #[.int .i64 x0, .int .i64 x1]] w' (Vc.Ret (.tuple #[.agg #[.int .i64 x63, .int .i64 x64], .int .i64 x65]) w')) ∧
  ((x65 = 0) → (
  ∀ x66 : Int, x66 = (if 0 > x0 then 0 else x0) →
  ∃ (x67 : Int), ∃ (x68 : Int), (∀ w' : World, Below w.heap.size w w' → Calls Tryd.prog 15 #[.int .i64 x66] w' (Vc.Ret (.agg #[.int .i64 x67, .int .u64 x68]) w')) ∧
  ∃ (x69 : Int), ∃ (x70 : Int), (∀ w' : World, Below w.heap.size w w' → Calls Tryd.prog 18 #[.agg #[.int .i64 x67, .int .u64 x68], .int .i64 32] w' (Vc.Ret (.agg #[.int .i64 x69, .int .u64 x70]) w')) ∧
  ∃ (x71 : Int), ∃ (x72 : Int), (∀ w' : World, Below w.heap.size w w' → Calls Tryd.prog 15 #[.int .i64 x1] w' (Vc.Ret (.agg #[.int .i64 x71, .int .u64 x72]) w')) ∧
  ∃ (x73 : Int), ∃ (x74 : Int), (∀ w' : World, Below w.heap.size w w' → Calls Tryd.prog 18 #[.agg #[.int .i64 x71, .int .u64 x72], .int .i64 32] w' (Vc.Ret (.agg #[.int .i64 x73, .int .u64 x74]) w')) ∧
  ∀ x75 : Int, x75 = IntKind.i64.wrap (x63 + 1) →
  ∀ x76 : Int, x76 = IntKind.i64.wrap (x63 + 1) →
  ∃ (x77 : Int), ∃ (x78 : Int), (∀ w' : World, Below w.heap.size w w' → Calls Tryd.prog 13 #[.int .i64 x75, .int .i64 x76] w' (Vc.Ret (.agg #[.int .i64 x77, .int .u64 x78]) w')) ∧
  ∃ (b7 : Bool), (∀ w' : World, Below w.heap.size w w' → Calls Tryd.prog 16 #[.agg #[.int .i64 x69, .int .u64 x70], .agg #[.int .i64 x77, .int .u64 x78]] w' (Vc.Ret (.bool b7) w')) ∧
  ((x64 = 0) → (
  ((b0 = true) → (
  ((b6 = true) → (
  ((b7 = true) → (
  (.bool true : Value) = v)) ∧ (¬ (b7 = true) → (
  (.bool false : Value) = v)))) ∧ (¬ (b6 = true) → (
  (.bool false : Value) = v)))) ∧ (¬ (b0 = true) → (
  (.bool false : Value) = v)))) ∧ (¬ (x64 = 0) → (
  ∀ x79 : Int, x79 = IntKind.i64.wrap (x64 - 1) →
  ∀ x80 : Int, x80 = IntKind.i64.wrap (x64 - 1) →
  ∃ (x81 : Int), ∃ (x82 : Int), (∀ w' : World, Below w.heap.size w w' → Calls Tryd.prog 13 #[.int .i64 x79, .int .i64 x80] w' (Vc.Ret (.agg #[.int .i64 x81, .int .u64 x82]) w')) ∧
  ∃ (b8 : Bool), (∀ w' : World, Below w.heap.size w w' → Calls Tryd.prog 16 #[.agg #[.int .i64 x81, .int .u64 x82], .agg #[.int .i64 x73, .int .u64 x74]] w' (Vc.Ret (.bool b8) w')) ∧
  ((b0 = true) → (
  ((b6 = true) → (
  ((b7 = true) → (
  (.bool b8 : Value) = v)) ∧ (¬ (b7 = true) → (
  (.bool false : Value) = v)))) ∧ (¬ (b6 = true) → (
  (.bool false : Value) = v)))) ∧ (¬ (b0 = true) → (
  (.bool false : Value) = v)))))) ∧ (¬ (x65 = 0) → (
  ((b0 = true) → (
  ((b6 = true) → (
  (.bool (decide (x1 < 0)) : Value) = v)) ∧ (¬ (b6 = true) → (
  (.bool false : Value) = v)))) ∧ (¬ (b0 = true) → (
  (.bool false : Value) = v)))))))) ∧ (¬ (b4 = true) → (
  ∃ (b6 : Bool), (∀ w' : World, Below w.heap.size w w' → Calls Tryd.prog 16 #[.agg #[.int .i64 x47, .int .u64 x48], .agg #[.int .i64 x35, .int .u64 x36]] w' (Vc.Ret (.bool b6) w')) ∧
  ∃ (x49 : Int), ∃ (x50 : Int), (∀ w' : World, Below w.heap.size w w' → Calls Tryd.prog 13 #[.int .i64 x1, .int .i64 x3] w' (Vc.Ret (.agg #[.int .i64 x49, .int .u64 x50]) w')) ∧
  ∃ (x51 : Int), ∃ (x52 : Int), (∀ w' : World, Below w.heap.size w w' → Calls Tryd.prog 13 #[.int .i64 x4, .int .i64 4294967296] w' (Vc.Ret (.agg #[.int .i64 x51, .int .u64 x52]) w')) ∧
  ∃ (x53 : Int), ∃ (x54 : Int), (∀ w' : World, Below w.heap.size w w' → Calls Tryd.prog 15 #[.int .i64 4294967296] w' (Vc.Ret (.agg #[.int .i64 x53, .int .u64 x54]) w')) ∧
  ∃ (x55 : Int), ∃ (x56 : Int), (∀ w' : World, Below w.heap.size w w' → Calls Tryd.prog 14 #[.agg #[.int .i64 x51, .int .u64 x52], .agg #[.int .i64 x53, .int .u64 x54]] w' (Vc.Ret (.agg #[.int .i64 x55, .int .u64 x56]) w')) ∧
  ∃ (x57 : Int), ∃ (x58 : Int), (∀ w' : World, Below w.heap.size w w' → Calls Tryd.prog 13 #[.int .i64 x5, .int .i64 4294967296] w' (Vc.Ret (.agg #[.int .i64 x57, .int .u64 x58]) w')) ∧
  ∃ (x59 : Int), ∃ (x60 : Int), (∀ w' : World, Below w.heap.size w w' → Calls Tryd.prog 15 #[.int .i64 (-4294967296)] w' (Vc.Ret (.agg #[.int .i64 x59, .int .u64 x60]) w')) ∧
  ∃ (x61 : Int), ∃ (x62 : Int), (∀ w' : World, Below w.heap.size w w' → Calls Tryd.prog 14 #[.agg #[.int .i64 x57, .int .u64 x58], .agg #[.int .i64 x59, .int .u64 x60]] w' (Vc.Ret (.agg #[.int .i64 x61, .int .u64 x62]) w')) ∧
  ((b5 = true) → (
  ((b6 = true) → (
  ∃ (x63 : Int), ∃ (x64 : Int), ∃ (x65 : Int), (∀ w' : World, Below w.heap.size w w' → Calls Tryd.prog 17 #[.agg #[.int .i64 x0, .int .i64 x1]] w' (Vc.Ret (.tuple #[.agg #[.int .i64 x63, .int .i64 x64], .int .i64 x65]) w')) ∧
  ((x65 = 0) → (
  ∀ x66 : Int, x66 = (if 0 > x0 then 0 else x0) →
  ∃ (x67 : Int), ∃ (x68 : Int), (∀ w' : World, Below w.heap.size w w' → Calls Tryd.prog 15 #[.int .i64 x66] w' (Vc.Ret (.agg #[.int .i64 x67, .int .u64 x68]) w')) ∧
  ∃ (x69 : Int), ∃ (x70 : Int), (∀ w' : World, Below w.heap.size w w' → Calls Tryd.prog 18 #[.agg #[.int .i64 x67, .int .u64 x68], .int .i64 32] w' (Vc.Ret (.agg #[.int .i64 x69, .int .u64 x70]) w')) ∧
  ∃ (x71 : Int), ∃ (x72 : Int), (∀ w' : World, Below w.heap.size w w' → Calls Tryd.prog 15 #[.int .i64 x1] w' (Vc.Ret (.agg #[.int .i64 x71, .int .u64 x72]) w')) ∧
  ∃ (x73 : Int), ∃ (x74 : Int), (∀ w' : World, Below w.heap.size w w' → Calls Tryd.prog 18 #[.agg #[.int .i64 x71, .int .u64 x72], .int .i64 32] w' (Vc.Ret (.agg #[.int .i64 x73, .int .u64 x74]) w')) ∧
  ∀ x75 : Int, x75 = IntKind.i64.wrap (x63 + 1) →
  ∀ x76 : Int, x76 = IntKind.i64.wrap (x63 + 1) →
  ∃ (x77 : Int), ∃ (x78 : Int), (∀ w' : World, Below w.heap.size w w' → Calls Tryd.prog 13 #[.int .i64 x75, .int .i64 x76] w' (Vc.Ret (.agg #[.int .i64 x77, .int .u64 x78]) w')) ∧
  ∃ (b7 : Bool), (∀ w' : World, Below w.heap.size w w' → Calls Tryd.prog 16 #[.agg #[.int .i64 x69, .int .u64 x70], .agg #[.int .i64 x77, .int .u64 x78]] w' (Vc.Ret (.bool b7) w')) ∧
  ((x64 = 0) → (
  ((b0 = true) → (
  ((b7 = true) → (
  (.bool true : Value) = v)) ∧ (¬ (b7 = true) → (
  (.bool false : Value) = v)))) ∧ (¬ (b0 = true) → (
  (.bool false : Value) = v)))) ∧ (¬ (x64 = 0) → (
  ∀ x79 : Int, x79 = IntKind.i64.wrap (x64 - 1) →
  ∀ x80 : Int, x80 = IntKind.i64.wrap (x64 - 1) →
  ∃ (x81 : Int), ∃ (x82 : Int), (∀ w' : World, Below w.heap.size w w' → Calls Tryd.prog 13 #[.int .i64 x79, .int .i64 x80] w' (Vc.Ret (.agg #[.int .i64 x81, .int .u64 x82]) w')) ∧
  ∃ (b8 : Bool), (∀ w' : World, Below w.heap.size w w' → Calls Tryd.prog 16 #[.agg #[.int .i64 x81, .int .u64 x82], .agg #[.int .i64 x73, .int .u64 x74]] w' (Vc.Ret (.bool b8) w')) ∧
  ((b0 = true) → (
  ((b7 = true) → (
  (.bool b8 : Value) = v)) ∧ (¬ (b7 = true) → (
  (.bool false : Value) = v)))) ∧ (¬ (b0 = true) → (
  (.bool false : Value) = v)))))) ∧ (¬ (x65 = 0) → (
  ((b0 = true) → (
  (.bool (decide (x1 < 0)) : Value) = v)) ∧ (¬ (b0 = true) → (
  (.bool false : Value) = v)))))) ∧ (¬ (b6 = true) → (
  ∃ (b7 : Bool), (∀ w' : World, Below w.heap.size w w' → Calls Tryd.prog 16 #[.agg #[.int .i64 x61, .int .u64 x62], .agg #[.int .i64 x49, .int .u64 x50]] w' (Vc.Ret (.bool b7) w')) ∧
  ∃ (x63 : Int), ∃ (x64 : Int), ∃ (x65 : Int), (∀ w' : World, Below w.heap.size w w' → Calls Tryd.prog 17 #[.agg #[.int .i64 x0, .int .i64 x1]] w' (Vc.Ret (.tuple #[.agg #[.int .i64 x63, .int .i64 x64], .int .i64 x65]) w')) ∧
  ((x65 = 0) → (
  ∀ x66 : Int, x66 = (if 0 > x0 then 0 else x0) →
  ∃ (x67 : Int), ∃ (x68 : Int), (∀ w' : World, Below w.heap.size w w' → Calls Tryd.prog 15 #[.int .i64 x66] w' (Vc.Ret (.agg #[.int .i64 x67, .int .u64 x68]) w')) ∧
  ∃ (x69 : Int), ∃ (x70 : Int), (∀ w' : World, Below w.heap.size w w' → Calls Tryd.prog 18 #[.agg #[.int .i64 x67, .int .u64 x68], .int .i64 32] w' (Vc.Ret (.agg #[.int .i64 x69, .int .u64 x70]) w')) ∧
  ∃ (x71 : Int), ∃ (x72 : Int), (∀ w' : World, Below w.heap.size w w' → Calls Tryd.prog 15 #[.int .i64 x1] w' (Vc.Ret (.agg #[.int .i64 x71, .int .u64 x72]) w')) ∧
  ∃ (x73 : Int), ∃ (x74 : Int), (∀ w' : World, Below w.heap.size w w' → Calls Tryd.prog 18 #[.agg #[.int .i64 x71, .int .u64 x72], .int .i64 32] w' (Vc.Ret (.agg #[.int .i64 x73, .int .u64 x74]) w')) ∧
  ∀ x75 : Int, x75 = IntKind.i64.wrap (x63 + 1) →
  ∀ x76 : Int, x76 = IntKind.i64.wrap (x63 + 1) →
  ∃ (x77 : Int), ∃ (x78 : Int), (∀ w' : World, Below w.heap.size w w' → Calls Tryd.prog 13 #[.int .i64 x75, .int .i64 x76] w' (Vc.Ret (.agg #[.int .i64 x77, .int .u64 x78]) w')) ∧
  ∃ (b8 : Bool), (∀ w' : World, Below w.heap.size w w' → Calls Tryd.prog 16 #[.agg #[.int .i64 x69, .int .u64 x70], .agg #[.int .i64 x77, .int .u64 x78]] w' (Vc.Ret (.bool b8) w')) ∧
  ((x64 = 0) → (
  ((b0 = true) → (
  ((b7 = true) → (
  ((b8 = true) → (
  (.bool true : Value) = v)) ∧ (¬ (b8 = true) → (
  (.bool false : Value) = v)))) ∧ (¬ (b7 = true) → (
  (.bool false : Value) = v)))) ∧ (¬ (b0 = true) → (
  (.bool false : Value) = v)))) ∧ (¬ (x64 = 0) → (
  ∀ x79 : Int, x79 = IntKind.i64.wrap (x64 - 1) →
  ∀ x80 : Int, x80 = IntKind.i64.wrap (x64 - 1) →
  ∃ (x81 : Int), ∃ (x82 : Int), (∀ w' : World, Below w.heap.size w w' → Calls Tryd.prog 13 #[.int .i64 x79, .int .i64 x80] w' (Vc.Ret (.agg #[.int .i64 x81, .int .u64 x82]) w')) ∧
  ∃ (b9 : Bool), (∀ w' : World, Below w.heap.size w w' → Calls Tryd.prog 16 #[.agg #[.int .i64 x81, .int .u64 x82], .agg #[.int .i64 x73, .int .u64 x74]] w' (Vc.Ret (.bool b9) w')) ∧
  ((b0 = true) → (
  ((b7 = true) → (
  ((b8 = true) → (
  (.bool b9 : Value) = v)) ∧ (¬ (b8 = true) → (
  (.bool false : Value) = v)))) ∧ (¬ (b7 = true) → (
  (.bool false : Value) = v)))) ∧ (¬ (b0 = true) → (
  (.bool false : Value) = v)))))) ∧ (¬ (x65 = 0) → (
  ((b0 = true) → (
  ((b7 = true) → (
  (.bool (decide (x1 < 0)) : Value) = v)) ∧ (¬ (b7 = true) → (
  (.bool false : Value) = v)))) ∧ (¬ (b0 = true) → (
  (.bool false : Value) = v)))))))) ∧ (¬ (b5 = true) → (
  ∃ (b7 : Bool), (∀ w' : World, Below w.heap.size w w' → Calls Tryd.prog 16 #[.agg #[.int .i64 x49, .int .u64 x50], .agg #[.int .i64 x55, .int .u64 x56]] w' (Vc.Ret (.bool b7) w')) ∧
  ((b6 = true) → (
  ∃ (x63 : Int), ∃ (x64 : Int), ∃ (x65 : Int), (∀ w' : World, Below w.heap.size w w' → Calls Tryd.prog 17 #[.agg #[.int .i64 x0, .int .i64 x1]] w' (Vc.Ret (.tuple #[.agg #[.int .i64 x63, .int .i64 x64], .int .i64 x65]) w')) ∧
  ((x65 = 0) → (
  ∀ x66 : Int, x66 = (if 0 > x0 then 0 else x0) →
  ∃ (x67 : Int), ∃ (x68 : Int), (∀ w' : World, Below w.heap.size w w' → Calls Tryd.prog 15 #[.int .i64 x66] w' (Vc.Ret (.agg #[.int .i64 x67, .int .u64 x68]) w')) ∧
  ∃ (x69 : Int), ∃ (x70 : Int), (∀ w' : World, Below w.heap.size w w' → Calls Tryd.prog 18 #[.agg #[.int .i64 x67, .int .u64 x68], .int .i64 32] w' (Vc.Ret (.agg #[.int .i64 x69, .int .u64 x70]) w')) ∧
  ∃ (x71 : Int), ∃ (x72 : Int), (∀ w' : World, Below w.heap.size w w' → Calls Tryd.prog 15 #[.int .i64 x1] w' (Vc.Ret (.agg #[.int .i64 x71, .int .u64 x72]) w')) ∧
  ∃ (x73 : Int), ∃ (x74 : Int), (∀ w' : World, Below w.heap.size w w' → Calls Tryd.prog 18 #[.agg #[.int .i64 x71, .int .u64 x72], .int .i64 32] w' (Vc.Ret (.agg #[.int .i64 x73, .int .u64 x74]) w')) ∧
  ∀ x75 : Int, x75 = IntKind.i64.wrap (x63 + 1) →
  ∀ x76 : Int, x76 = IntKind.i64.wrap (x63 + 1) →
  ∃ (x77 : Int), ∃ (x78 : Int), (∀ w' : World, Below w.heap.size w w' → Calls Tryd.prog 13 #[.int .i64 x75, .int .i64 x76] w' (Vc.Ret (.agg #[.int .i64 x77, .int .u64 x78]) w')) ∧
  ∃ (b8 : Bool), (∀ w' : World, Below w.heap.size w w' → Calls Tryd.prog 16 #[.agg #[.int .i64 x69, .int .u64 x70], .agg #[.int .i64 x77, .int .u64 x78]] w' (Vc.Ret (.bool b8) w')) ∧
  ((x64 = 0) → (
  ((b0 = true) → (
  ((b7 = true) → (
  ((b8 = true) → (
  (.bool true : Value) = v)) ∧ (¬ (b8 = true) → (
  (.bool false : Value) = v)))) ∧ (¬ (b7 = true) → (
  (.bool false : Value) = v)))) ∧ (¬ (b0 = true) → (
  (.bool false : Value) = v)))) ∧ (¬ (x64 = 0) → (
  ∀ x79 : Int, x79 = IntKind.i64.wrap (x64 - 1) →
  ∀ x80 : Int, x80 = IntKind.i64.wrap (x64 - 1) →
  ∃ (x81 : Int), ∃ (x82 : Int), (∀ w' : World, Below w.heap.size w w' → Calls Tryd.prog 13 #[.int .i64 x79, .int .i64 x80] w' (Vc.Ret (.agg #[.int .i64 x81, .int .u64 x82]) w')) ∧
  ∃ (b9 : Bool), (∀ w' : World, Below w.heap.size w w' → Calls Tryd.prog 16 #[.agg #[.int .i64 x81, .int .u64 x82], .agg #[.int .i64 x73, .int .u64 x74]] w' (Vc.Ret (.bool b9) w')) ∧
  ((b0 = true) → (
  ((b7 = true) → (
  ((b8 = true) → (
  (.bool b9 : Value) = v)) ∧ (¬ (b8 = true) → (
  (.bool false : Value) = v)))) ∧ (¬ (b7 = true) → (
  (.bool false : Value) = v)))) ∧ (¬ (b0 = true) → (
  (.bool false : Value) = v)))))) ∧ (¬ (x65 = 0) → (
  ((b0 = true) → (
  ((b7 = true) → (
  (.bool (decide (x1 < 0)) : Value) = v)) ∧ (¬ (b7 = true) → (
  (.bool false : Value) = v)))) ∧ (¬ (b0 = true) → (
  (.bool false : Value) = v)))))) ∧ (¬ (b6 = true) → (
  ∃ (b8 : Bool), (∀ w' : World, Below w.heap.size w w' → Calls Tryd.prog 16 #[.agg #[.int .i64 x61, .int .u64 x62], .agg #[.int .i64 x49, .int .u64 x50]] w' (Vc.Ret (.bool b8) w')) ∧
  ∃ (x63 : Int), ∃ (x64 : Int), ∃ (x65 : Int), (∀ w' : World, Below w.heap.size w w' → Calls Tryd.prog 17 #[.agg #[.int .i64 x0, .int .i64 x1]] w' (Vc.Ret (.tuple #[.agg #[.int .i64 x63, .int .i64 x64], .int .i64 x65]) w')) ∧
  ((x65 = 0) → (
  ∀ x66 : Int, x66 = (if 0 > x0 then 0 else x0) →
  ∃ (x67 : Int), ∃ (x68 : Int), (∀ w' : World, Below w.heap.size w w' → Calls Tryd.prog 15 #[.int .i64 x66] w' (Vc.Ret (.agg #[.int .i64 x67, .int .u64 x68]) w')) ∧
  ∃ (x69 : Int), ∃ (x70 : Int), (∀ w' : World, Below w.heap.size w w' → Calls Tryd.prog 18 #[.agg #[.int .i64 x67, .int .u64 x68], .int .i64 32] w' (Vc.Ret (.agg #[.int .i64 x69, .int .u64 x70]) w')) ∧
  ∃ (x71 : Int), ∃ (x72 : Int), (∀ w' : World, Below w.heap.size w w' → Calls Tryd.prog 15 #[.int .i64 x1] w' (Vc.Ret (.agg #[.int .i64 x71, .int .u64 x72]) w')) ∧
  ∃ (x73 : Int), ∃ (x74 : Int), (∀ w' : World, Below w.heap.size w w' → Calls Tryd.prog 18 #[.agg #[.int .i64 x71, .int .u64 x72], .int .i64 32] w' (Vc.Ret (.agg #[.int .i64 x73, .int .u64 x74]) w')) ∧
  ∀ x75 : Int, x75 = IntKind.i64.wrap (x63 + 1) →
  ∀ x76 : Int, x76 = IntKind.i64.wrap (x63 + 1) →
  ∃ (x77 : Int), ∃ (x78 : Int), (∀ w' : World, Below w.heap.size w w' → Calls Tryd.prog 13 #[.int .i64 x75, .int .i64 x76] w' (Vc.Ret (.agg #[.int .i64 x77, .int .u64 x78]) w')) ∧
  ∃ (b9 : Bool), (∀ w' : World, Below w.heap.size w w' → Calls Tryd.prog 16 #[.agg #[.int .i64 x69, .int .u64 x70], .agg #[.int .i64 x77, .int .u64 x78]] w' (Vc.Ret (.bool b9) w')) ∧
  ((x64 = 0) → (
  ((b0 = true) → (
  ((b7 = true) → (
  ((b8 = true) → (
  ((b9 = true) → (
  (.bool true : Value) = v)) ∧ (¬ (b9 = true) → (
  (.bool false : Value) = v)))) ∧ (¬ (b8 = true) → (
  (.bool false : Value) = v)))) ∧ (¬ (b7 = true) → (
  (.bool false : Value) = v)))) ∧ (¬ (b0 = true) → (
  (.bool false : Value) = v)))) ∧ (¬ (x64 = 0) → (
  ∀ x79 : Int, x79 = IntKind.i64.wrap (x64 - 1) →
  ∀ x80 : Int, x80 = IntKind.i64.wrap (x64 - 1) →
  ∃ (x81 : Int), ∃ (x82 : Int), (∀ w' : World, Below w.heap.size w w' → Calls Tryd.prog 13 #[.int .i64 x79, .int .i64 x80] w' (Vc.Ret (.agg #[.int .i64 x81, .int .u64 x82]) w')) ∧
  ∃ (b10 : Bool), (∀ w' : World, Below w.heap.size w w' → Calls Tryd.prog 16 #[.agg #[.int .i64 x81, .int .u64 x82], .agg #[.int .i64 x73, .int .u64 x74]] w' (Vc.Ret (.bool b10) w')) ∧
  ((b0 = true) → (
  ((b7 = true) → (
  ((b8 = true) → (
  ((b9 = true) → (
  (.bool b10 : Value) = v)) ∧ (¬ (b9 = true) → (
  (.bool false : Value) = v)))) ∧ (¬ (b8 = true) → (
  (.bool false : Value) = v)))) ∧ (¬ (b7 = true) → (
  (.bool false : Value) = v)))) ∧ (¬ (b0 = true) → (
  (.bool false : Value) = v)))))) ∧ (¬ (x65 = 0) → (
  ((b0 = true) → (
  ((b7 = true) → (
  ((b8 = true) → (
  (.bool (decide (x1 < 0)) : Value) = v)) ∧ (¬ (b8 = true) → (
  (.bool false : Value) = v)))) ∧ (¬ (b7 = true) → (
  (.bool false : Value) = v)))) ∧ (¬ (b0 = true) → (
  (.bool false : Value) = v)))))))))))))))))) ∧ (¬ (b0 = true) → (
  (.bool b0 : Value) = v)))) ∧ (¬ (x6 = 0) → (
  (.bool b0 : Value) = v))) : Calls Tryd.prog 3 #[.agg #[.int .i64 x0, .int .i64 x1], .agg #[.int .i64 x2, .int .i64 x3]] w (Vc.Ret v w) :=
  Vc.pure_of base [(1000000000008, .unroll), (1000000000011, .unroll)] 200 Tryd.func3 (b := (Tryd.f3.body).getD .skip) (by kernel_rfl) [.cv (.agg [.int .i64 (.var 0), .int .i64 (.var 1)]), .cv (.agg [.int .i64 (.var 2), .int .i64 (.var 3)])] ⟨4, 0, 0, 0, 0, 0, 0⟩ (Vc.envOf [x0, x1, x2, x3] [] [] []) (by kernel_rfl) (by kernel_rfl) (by kernel_rfl) h

end Go.Proofs.YtndeppnboolfiaaDoor
