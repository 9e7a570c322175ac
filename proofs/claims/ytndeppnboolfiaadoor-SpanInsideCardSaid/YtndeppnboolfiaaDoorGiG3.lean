/- What the walks of functions come to (written by program). -/
import Derived.Test.YtndeppnboolfiaaDoorGiG1
set_option linter.unusedVariables false
set_option maxRecDepth 100000
namespace Go.Proofs.YtndeppnboolfiaaDoor
open Go Go.RowKit
theorem vc_ullagelaw01_of (x0 x1 : Int) (w : World) (v : Value) (h : 
  ∀ x2 : Int, x2 = IntKind.i64.wrap (x0 * 4294967296) →
  ∀ x3 : Int, x3 = IntKind.i64.wrap (x1 * 4294967296) →
  (.agg #[.int .i64 x2, .int .i64 x3] : Value) = v) : Calls Tryd.prog 47 #[.int .i64 x0, .int .i64 x1] w (Vc.Ret v w) :=
  Vc.pure_of base [] 200 Tryd.func47 (b := (Tryd.f47.body).getD .skip) (by kernel_rfl) [.cv (.one (.int .i64 (.var 0))), .cv (.one (.int .i64 (.var 1)))] ⟨2, 0, 0, 0, 0, 0, 0⟩ (Vc.envOf [x0, x1] [] [] []) (by kernel_rfl) (by kernel_rfl) (by kernel_rfl) h

theorem vc_ullagelaw01_alive (w : World) (v : Value) (h : 
  ∃ (x0 : Int), ∃ (x1 : Int), ∃ (x2 : Int), (∀ w' : World, Below w.heap.size w w' → Calls Tryd.prog 12 #[.agg #[.int .i64 (-4294967296), .int .i64 8589934592], .agg #[.int .i64 12884901888, .int .i64 17179869184]] w' (Vc.Ret (.tuple #[.agg #[.int .i64 x0, .int .i64 x1], .int .i64 x2]) w')) ∧
  ∃ (x3 : Int), ∃ (x4 : Int), ∃ (x5 : Int), (∀ w' : World, Below w.heap.size w w' → Calls Tryd.prog 48 #[.int .i64 1, .int .i64 3] w' (Vc.Ret (.tuple #[.agg #[.int .i64 x3, .int .i64 x4], .int .i64 x5]) w')) ∧
  ∃ (x6 : Int), ∃ (x7 : Int), ∃ (x8 : Int), (∀ w' : World, Below w.heap.size w w' → Calls Tryd.prog 17 #[.agg #[.int .i64 (-38654705664), .int .i64 17179869184]] w' (Vc.Ret (.tuple #[.agg #[.int .i64 x6, .int .i64 x7], .int .i64 x8]) w')) ∧
  ((x2 = 0) → (
  ∃ (x9 : Int), ∃ (x10 : Int), (∀ w' : World, Below w.heap.size w w' → Calls Tryd.prog 47 #[.int .i64 (-4), .int .i64 8] w' (Vc.Ret (.agg #[.int .i64 x9, .int .i64 x10]) w')) ∧
  (((x0 = x9) ∧ (x1 = x10)) → (
  ((x5 = 0) → (
  (((x3 = 1431655765) ∧ (x4 = 1431655766)) → (
  ((x8 = 0) → (
  ∃ (x11 : Int), ∃ (x12 : Int), (∀ w' : World, Below w.heap.size w w' → Calls Tryd.prog 47 #[.int .i64 0, .int .i64 2] w' (Vc.Ret (.agg #[.int .i64 x11, .int .i64 x12]) w')) ∧
  (((x6 = x11) ∧ (x7 = x12)) → (
  ∃ (s0 : List UInt8), (∀ w' : World, Below w.heap.size w w' → Calls Tryd.prog 44 #[.int .i64 (-1073741824)] w' (Vc.Ret (.string ⟨s0.toArray⟩) w')) ∧
  (.bool (decide (s0 = ([45, 48, 46, 50, 53] : List UInt8))) : Value) = v)) ∧ (¬ ((x6 = x11) ∧ (x7 = x12)) → (
  (.bool false : Value) = v)))) ∧ (¬ (x8 = 0) → (
  (.bool false : Value) = v)))) ∧ (¬ ((x3 = 1431655765) ∧ (x4 = 1431655766)) → (
  (.bool false : Value) = v)))) ∧ (¬ (x5 = 0) → (
  (.bool false : Value) = v)))) ∧ (¬ ((x0 = x9) ∧ (x1 = x10)) → (
  (.bool false : Value) = v)))) ∧ (¬ (x2 = 0) → (
  (.bool false : Value) = v))) : Calls Tryd.prog 11 #[] w (Vc.Ret v w) :=
  Vc.pure_of (base_inl [47] (by kernel_rfl)) [] 200 Tryd.func11 (b := (Tryd.f11.body).getD .skip) (by kernel_rfl) [] ⟨0, 0, 0, 0, 0, 0, 0⟩ (Vc.envOf [] [] [] []) (by kernel_rfl) (by kernel_rfl) (by kernel_rfl) h

theorem vc_ullagelaw01_SpanInside (x0 x1 x2 x3 x4 x5 x6 x7 : Int) (w : World) (v : Value) (h : 
  ∃ (b0 : Bool), (∀ w' : World, Below w.heap.size w w' → Calls Tryd.prog 11 #[] w' (Vc.Ret (.bool b0) w')) ∧
  ∃ (x8 : Int), (∀ w' : World, Below w.heap.size w w' → Calls Tryd.prog 19 #[.agg #[.int .i64 x0, .int .i64 x1]] w' (Vc.Ret (.int .i64 x8) w')) ∧
  ((x8 = 0) → (
  ∃ (x9 : Int), (∀ w' : World, Below w.heap.size w w' → Calls Tryd.prog 19 #[.agg #[.int .i64 x2, .int .i64 x3]] w' (Vc.Ret (.int .i64 x9) w')) ∧
  ((x9 = 0) → (
  ((b0 = true) → (
  ∃ (x10 : Int), ∃ (x11 : Int), (∀ w' : World, Below w.heap.size w w' → Calls Tryd.prog 37 #[.agg #[.int .i64 x0, .int .i64 x1], .agg #[.int .u64 x4, .int .u64 x5]] w' (Vc.Ret (.agg #[.int .i64 x10, .int .i64 x11]) w')) ∧
  ∃ (x12 : Int), ∃ (x13 : Int), (∀ w' : World, Below w.heap.size w w' → Calls Tryd.prog 37 #[.agg #[.int .i64 x2, .int .i64 x3], .agg #[.int .u64 x6, .int .u64 x7]] w' (Vc.Ret (.agg #[.int .i64 x12, .int .i64 x13]) w')) ∧
  ∃ (x14 : Int), ∃ (x15 : Int), ∃ (x16 : Int), (∀ w' : World, Below w.heap.size w w' → Calls Tryd.prog 29 #[.agg #[.int .i64 x10, .int .i64 x11], .agg #[.int .i64 x12, .int .i64 x13]] w' (Vc.Ret (.tuple #[.agg #[.int .i64 x14, .int .i64 x15], .int .i64 x16]) w')) ∧
  ∃ (x17 : Int), ∃ (x18 : Int), ∃ (x19 : Int), (∀ w' : World, Below w.heap.size w w' → Calls Tryd.prog 29 #[.agg #[.int .i64 x0, .int .i64 x1], .agg #[.int .i64 x2, .int .i64 x3]] w' (Vc.Ret (.tuple #[.agg #[.int .i64 x17, .int .i64 x18], .int .i64 x19]) w')) ∧
  ∃ (b1 : Bool), (∀ w' : World, Below w.heap.size w w' → Calls Tryd.prog 40 #[.agg #[.int .i64 x14, .int .i64 x15], .int .i64 x16, .agg #[.int .i64 x17, .int .i64 x18], .int .i64 x19] w' (Vc.Ret (.bool b1) w')) ∧
  ((b1 = true) → (
  ∃ (x20 : Int), ∃ (x21 : Int), ∃ (x22 : Int), (∀ w' : World, Below w.heap.size w w' → Calls Tryd.prog 30 #[.agg #[.int .i64 x10, .int .i64 x11], .agg #[.int .i64 x12, .int .i64 x13]] w' (Vc.Ret (.tuple #[.agg #[.int .i64 x20, .int .i64 x21], .int .i64 x22]) w')) ∧
  ∃ (x23 : Int), ∃ (x24 : Int), ∃ (x25 : Int), (∀ w' : World, Below w.heap.size w w' → Calls Tryd.prog 30 #[.agg #[.int .i64 x0, .int .i64 x1], .agg #[.int .i64 x2, .int .i64 x3]] w' (Vc.Ret (.tuple #[.agg #[.int .i64 x23, .int .i64 x24], .int .i64 x25]) w')) ∧
  ∃ (b2 : Bool), (∀ w' : World, Below w.heap.size w w' → Calls Tryd.prog 40 #[.agg #[.int .i64 x20, .int .i64 x21], .int .i64 x22, .agg #[.int .i64 x23, .int .i64 x24], .int .i64 x25] w' (Vc.Ret (.bool b2) w')) ∧
  ((b2 = true) → (
  ∃ (x26 : Int), ∃ (x27 : Int), ∃ (x28 : Int), (∀ w' : World, Below w.heap.size w w' → Calls Tryd.prog 12 #[.agg #[.int .i64 x10, .int .i64 x11], .agg #[.int .i64 x12, .int .i64 x13]] w' (Vc.Ret (.tuple #[.agg #[.int .i64 x26, .int .i64 x27], .int .i64 x28]) w')) ∧
  ∃ (x29 : Int), ∃ (x30 : Int), ∃ (x31 : Int), (∀ w' : World, Below w.heap.size w w' → Calls Tryd.prog 12 #[.agg #[.int .i64 x0, .int .i64 x1], .agg #[.int .i64 x2, .int .i64 x3]] w' (Vc.Ret (.tuple #[.agg #[.int .i64 x29, .int .i64 x30], .int .i64 x31]) w')) ∧
  ∃ (b3 : Bool), (∀ w' : World, Below w.heap.size w w' → Calls Tryd.prog 40 #[.agg #[.int .i64 x26, .int .i64 x27], .int .i64 x28, .agg #[.int .i64 x29, .int .i64 x30], .int .i64 x31] w' (Vc.Ret (.bool b3) w')) ∧
  ((b3 = true) → (
  ∃ (x32 : Int), ∃ (x33 : Int), ∃ (x34 : Int), (∀ w' : World, Below w.heap.size w w' → Calls Tryd.prog 31 #[.agg #[.int .i64 x10, .int .i64 x11], .agg #[.int .i64 x12, .int .i64 x13]] w' (Vc.Ret (.tuple #[.agg #[.int .i64 x32, .int .i64 x33], .int .i64 x34]) w')) ∧
  ∃ (x35 : Int), ∃ (x36 : Int), ∃ (x37 : Int), (∀ w' : World, Below w.heap.size w w' → Calls Tryd.prog 31 #[.agg #[.int .i64 x0, .int .i64 x1], .agg #[.int .i64 x2, .int .i64 x3]] w' (Vc.Ret (.tuple #[.agg #[.int .i64 x35, .int .i64 x36], .int .i64 x37]) w')) ∧
  ∃ (b4 : Bool), (∀ w' : World, Below w.heap.size w w' → Calls Tryd.prog 40 #[.agg #[.int .i64 x32, .int .i64 x33], .int .i64 x34, .agg #[.int .i64 x35, .int .i64 x36], .int .i64 x37] w' (Vc.Ret (.bool b4) w')) ∧
  ((b4 = true) → (
  ∃ (x38 : Int), ∃ (x39 : Int), ∃ (x40 : Int), (∀ w' : World, Below w.heap.size w w' → Calls Tryd.prog 38 #[.agg #[.int .i64 x10, .int .i64 x11], .agg #[.int .i64 x12, .int .i64 x13]] w' (Vc.Ret (.tuple #[.agg #[.int .i64 x38, .int .i64 x39], .int .i64 x40]) w')) ∧
  ∃ (x41 : Int), ∃ (x42 : Int), ∃ (x43 : Int), (∀ w' : World, Below w.heap.size w w' → Calls Tryd.prog 38 #[.agg #[.int .i64 x0, .int .i64 x1], .agg #[.int .i64 x2, .int .i64 x3]] w' (Vc.Ret (.tuple #[.agg #[.int .i64 x41, .int .i64 x42], .int .i64 x43]) w')) ∧
  ∃ (b5 : Bool), (∀ w' : World, Below w.heap.size w w' → Calls Tryd.prog 40 #[.agg #[.int .i64 x38, .int .i64 x39], .int .i64 x40, .agg #[.int .i64 x41, .int .i64 x42], .int .i64 x43] w' (Vc.Ret (.bool b5) w')) ∧
  ((b5 = true) → (
  ∃ (x44 : Int), ∃ (x45 : Int), ∃ (x46 : Int), (∀ w' : World, Below w.heap.size w w' → Calls Tryd.prog 39 #[.agg #[.int .i64 x10, .int .i64 x11], .agg #[.int .i64 x12, .int .i64 x13]] w' (Vc.Ret (.tuple #[.agg #[.int .i64 x44, .int .i64 x45], .int .i64 x46]) w')) ∧
  ∃ (x47 : Int), ∃ (x48 : Int), ∃ (x49 : Int), (∀ w' : World, Below w.heap.size w w' → Calls Tryd.prog 39 #[.agg #[.int .i64 x0, .int .i64 x1], .agg #[.int .i64 x2, .int .i64 x3]] w' (Vc.Ret (.tuple #[.agg #[.int .i64 x47, .int .i64 x48], .int .i64 x49]) w')) ∧
  ∃ (b6 : Bool), (∀ w' : World, Below w.heap.size w w' → Calls Tryd.prog 40 #[.agg #[.int .i64 x44, .int .i64 x45], .int .i64 x46, .agg #[.int .i64 x47, .int .i64 x48], .int .i64 x49] w' (Vc.Ret (.bool b6) w')) ∧
  ((b6 = true) → (
  ∃ (x50 : Int), ∃ (x51 : Int), ∃ (x52 : Int), (∀ w' : World, Below w.heap.size w w' → Calls Tryd.prog 21 #[.agg #[.int .i64 x10, .int .i64 x11], .agg #[.int .i64 x12, .int .i64 x13]] w' (Vc.Ret (.tuple #[.agg #[.int .i64 x50, .int .i64 x51], .int .i64 x52]) w')) ∧
  ∃ (x53 : Int), ∃ (x54 : Int), ∃ (x55 : Int), (∀ w' : World, Below w.heap.size w w' → Calls Tryd.prog 21 #[.agg #[.int .i64 x0, .int .i64 x1], .agg #[.int .i64 x2, .int .i64 x3]] w' (Vc.Ret (.tuple #[.agg #[.int .i64 x53, .int .i64 x54], .int .i64 x55]) w')) ∧
  ∃ (b7 : Bool), (∀ w' : World, Below w.heap.size w w' → Calls Tryd.prog 40 #[.agg #[.int .i64 x50, .int .i64 x51], .int .i64 x52, .agg #[.int .i64 x53, .int .i64 x54], .int .i64 x55] w' (Vc.Ret (.bool b7) w')) ∧
  ((b7 = true) → (
  ∃ (x56 : Int), ∃ (x57 : Int), ∃ (x58 : Int), (∀ w' : World, Below w.heap.size w w' → Calls Tryd.prog 35 #[.agg #[.int .i64 x10, .int .i64 x11]] w' (Vc.Ret (.tuple #[.agg #[.int .i64 x56, .int .i64 x57], .int .i64 x58]) w')) ∧
  ∃ (x59 : Int), ∃ (x60 : Int), ∃ (x61 : Int), (∀ w' : World, Below w.heap.size w w' → Calls Tryd.prog 35 #[.agg #[.int .i64 x0, .int .i64 x1]] w' (Vc.Ret (.tuple #[.agg #[.int .i64 x59, .int .i64 x60], .int .i64 x61]) w')) ∧
  ∃ (b8 : Bool), (∀ w' : World, Below w.heap.size w w' → Calls Tryd.prog 40 #[.agg #[.int .i64 x56, .int .i64 x57], .int .i64 x58, .agg #[.int .i64 x59, .int .i64 x60], .int .i64 x61] w' (Vc.Ret (.bool b8) w')) ∧
  ((b8 = true) → (
  ∃ (x62 : Int), ∃ (x63 : Int), ∃ (x64 : Int), (∀ w' : World, Below w.heap.size w w' → Calls Tryd.prog 32 #[.agg #[.int .i64 x10, .int .i64 x11]] w' (Vc.Ret (.tuple #[.agg #[.int .i64 x62, .int .i64 x63], .int .i64 x64]) w')) ∧
  ∃ (x65 : Int), ∃ (x66 : Int), ∃ (x67 : Int), (∀ w' : World, Below w.heap.size w w' → Calls Tryd.prog 32 #[.agg #[.int .i64 x0, .int .i64 x1]] w' (Vc.Ret (.tuple #[.agg #[.int .i64 x65, .int .i64 x66], .int .i64 x67]) w')) ∧
  ∃ (b9 : Bool), (∀ w' : World, Below w.heap.size w w' → Calls Tryd.prog 40 #[.agg #[.int .i64 x62, .int .i64 x63], .int .i64 x64, .agg #[.int .i64 x65, .int .i64 x66], .int .i64 x67] w' (Vc.Ret (.bool b9) w')) ∧
  ((b9 = true) → (
  ∃ (x68 : Int), ∃ (x69 : Int), ∃ (x70 : Int), (∀ w' : World, Below w.heap.size w w' → Calls Tryd.prog 41 #[.agg #[.int .i64 x10, .int .i64 x11]] w' (Vc.Ret (.tuple #[.agg #[.int .i64 x68, .int .i64 x69], .int .i64 x70]) w')) ∧
  ∃ (x71 : Int), ∃ (x72 : Int), ∃ (x73 : Int), (∀ w' : World, Below w.heap.size w w' → Calls Tryd.prog 41 #[.agg #[.int .i64 x0, .int .i64 x1]] w' (Vc.Ret (.tuple #[.agg #[.int .i64 x71, .int .i64 x72], .int .i64 x73]) w')) ∧
  ∃ (b10 : Bool), (∀ w' : World, Below w.heap.size w w' → Calls Tryd.prog 40 #[.agg #[.int .i64 x68, .int .i64 x69], .int .i64 x70, .agg #[.int .i64 x71, .int .i64 x72], .int .i64 x73] w' (Vc.Ret (.bool b10) w')) ∧
  ((b10 = true) → (
  ∃ (x74 : Int), ∃ (x75 : Int), ∃ (x76 : Int), ∃ (x77 : Int), ∃ (x78 : Int), (∀ w' : World, Below w.heap.size w w' → Calls Tryd.prog 34 #[.agg #[.int .i64 x10, .int .i64 x11]] w' (Vc.Ret (.tuple #[.agg #[.int .i64 x74, .int .i64 x75], .agg #[.int .i64 x76, .int .i64 x77], .int .i64 x78]) w')) ∧
  ∃ (x79 : Int), ∃ (x80 : Int), ∃ (x81 : Int), ∃ (x82 : Int), ∃ (x83 : Int), (∀ w' : World, Below w.heap.size w w' → Calls Tryd.prog 34 #[.agg #[.int .i64 x0, .int .i64 x1]] w' (Vc.Ret (.tuple #[.agg #[.int .i64 x79, .int .i64 x80], .agg #[.int .i64 x81, .int .i64 x82], .int .i64 x83]) w')) ∧
  ((b0 = true) → (
  ∃ (b11 : Bool), (∀ w' : World, Below w.heap.size w w' → Calls Tryd.prog 40 #[.agg #[.int .i64 x74, .int .i64 x75], .int .i64 x78, .agg #[.int .i64 x79, .int .i64 x80], .int .i64 x83] w' (Vc.Ret (.bool b11) w')) ∧
  ((b11 = true) → (
  ∃ (b12 : Bool), (∀ w' : World, Below w.heap.size w w' → Calls Tryd.prog 40 #[.agg #[.int .i64 x76, .int .i64 x77], .int .i64 x78, .agg #[.int .i64 x81, .int .i64 x82], .int .i64 x83] w' (Vc.Ret (.bool b12) w')) ∧
  (.bool b12 : Value) = v)) ∧ (¬ (b11 = true) → (
  (.bool false : Value) = v)))) ∧ (¬ (b0 = true) → (
  (.bool false : Value) = v)))) ∧ (¬ (b10 = true) → (
  (.bool false : Value) = v)))) ∧ (¬ (b9 = true) → (
  (.bool false : Value) = v)))) ∧ (¬ (b8 = true) → (
  (.bool false : Value) = v)))) ∧ (¬ (b7 = true) → (
  (.bool false : Value) = v)))) ∧ (¬ (b6 = true) → (
  (.bool false : Value) = v)))) ∧ (¬ (b5 = true) → (
  (.bool false : Value) = v)))) ∧ (¬ (b4 = true) → (
  (.bool false : Value) = v)))) ∧ (¬ (b3 = true) → (
  (.bool false : Value) = v)))) ∧ (¬ (b2 = true) → (
  (.bool false : Value) = v)))) ∧ (¬ (b1 = true) → (
  (.bool false : Value) = v)))) ∧ (¬ (b0 = true) → (
  (.bool b0 : Value) = v)))) ∧ (¬ (x9 = 0) → (
  (.bool b0 : Value) = v)))) ∧ (¬ (x8 = 0) → (
  (.bool b0 : Value) = v))) : Calls Tryd.prog 8 #[.agg #[.int .i64 x0, .int .i64 x1], .agg #[.int .i64 x2, .int .i64 x3], .agg #[.int .u64 x4, .int .u64 x5, .int .u64 x6, .int .u64 x7]] w (Vc.Ret v w) :=
  Vc.pure_of base [(1000000000006, .unroll), (1000000000014, .unroll)] 200 Tryd.func8 (b := (Tryd.f8.body).getD .skip) (by kernel_rfl) [.cv (.agg [.int .i64 (.var 0), .int .i64 (.var 1)]), .cv (.agg [.int .i64 (.var 2), .int .i64 (.var 3)]), .cv (.agg [.int .u64 (.var 4), .int .u64 (.var 5), .int .u64 (.var 6), .int .u64 (.var 7)])] ⟨8, 0, 0, 0, 0, 0, 0⟩ (Vc.envOf [x0, x1, x2, x3, x4, x5, x6, x7] [] [] []) (by kernel_rfl) (by kernel_rfl) (by kernel_rfl) h

theorem vc_ullagelaw01_pick (x0 x1 x2 : Int) (w : World) (v : Value) (h : 
  ∀ x3 : Int, x3 = IntKind.u64.wrap (x1) →
  ∀ x4 : Int, x4 = IntKind.u64.wrap (x0) →
  ∀ x5 : Int, x5 = IntKind.u64.wrap (x3 - x4) →
  ((x5 = 18446744073709551615) → (
  (.int .i64 x0 : Value) = v)) ∧ (¬ (x5 = 18446744073709551615) → (
  ∀ x6 : Int, x6 = IntKind.u64.wrap (x0) →
  ∀ x7 : Int, x7 = IntKind.u64.wrap (x5 + 1) →
  (x7 ≠ 0) ∧
  ∀ x8 : Int, x8 = Int.tmod x2 x7 →
  ∀ x9 : Int, x9 = IntKind.u64.wrap (x6 + x8) →
  ∀ x10 : Int, x10 = IntKind.i64.wrap (x9) →
  (.int .i64 x10 : Value) = v))) : Calls Tryd.prog 28 #[.agg #[.int .i64 x0, .int .i64 x1], .int .u64 x2] w (Vc.Ret v w) :=
  Vc.pure_of base [] 200 Tryd.func28 (b := (Tryd.f28.body).getD .skip) (by kernel_rfl) [.cv (.agg [.int .i64 (.var 0), .int .i64 (.var 1)]), .cv (.one (.int .u64 (.var 2)))] ⟨3, 0, 0, 0, 0, 0, 0⟩ (Vc.envOf [x0, x1, x2] [] [] []) (by kernel_rfl) (by kernel_rfl) (by kernel_rfl) h

theorem vc_ullagelaw01_inner (x0 x1 x2 x3 : Int) (w : World) (v : Value) (h : 
  ∃ (x4 : Int), (∀ w' : World, Below w.heap.size w w' → Calls Tryd.prog 28 #[.agg #[.int .i64 x0, .int .i64 x1], .int .u64 x2] w' (Vc.Ret (.int .i64 x4) w')) ∧
  ∃ (x5 : Int), (∀ w' : World, Below w.heap.size w w' → Calls Tryd.prog 28 #[.agg #[.int .i64 x0, .int .i64 x1], .int .u64 x3] w' (Vc.Ret (.int .i64 x5) w')) ∧
  ∀ x6 : Int, x6 = (if x5 < x4 then x5 else x4) →
  ∀ x7 : Int, x7 = (if x5 > x4 then x5 else x4) →
  (.agg #[.int .i64 x6, .int .i64 x7] : Value) = v) : Calls Tryd.prog 37 #[.agg #[.int .i64 x0, .int .i64 x1], .agg #[.int .u64 x2, .int .u64 x3]] w (Vc.Ret v w) :=
  Vc.pure_of base [] 200 Tryd.func37 (b := (Tryd.f37.body).getD .skip) (by kernel_rfl) [.cv (.agg [.int .i64 (.var 0), .int .i64 (.var 1)]), .cv (.agg [.int .u64 (.var 2), .int .u64 (.var 3)])] ⟨4, 0, 0, 0, 0, 0, 0⟩ (Vc.envOf [x0, x1, x2, x3] [] [] []) (by kernel_rfl) (by kernel_rfl) (by kernel_rfl) h

theorem vc_ullagelaw01_within (x0 x1 x2 x3 x4 x5 : Int) (w : World) (v : Value) (h : 
  ((x5 = 0) → (
  ((x2 = 0) → (
  ∃ (b0 : Bool), (∀ w' : World, Below w.heap.size w w' → Calls Tryd.prog 24 #[.agg #[.int .i64 x0, .int .i64 x1], .agg #[.int .i64 x3, .int .i64 x4]] w' (Vc.Ret (.bool b0) w')) ∧
  (.bool b0 : Value) = v)) ∧ (¬ (x2 = 0) → (
  (.bool false : Value) = v)))) ∧ (¬ (x5 = 0) → (
  (.bool true : Value) = v))) : Calls Tryd.prog 40 #[.agg #[.int .i64 x0, .int .i64 x1], .int .i64 x2, .agg #[.int .i64 x3, .int .i64 x4], .int .i64 x5] w (Vc.Ret v w) :=
  Vc.pure_of base [] 200 Tryd.func40 (b := (Tryd.f40.body).getD .skip) (by kernel_rfl) [.cv (.agg [.int .i64 (.var 0), .int .i64 (.var 1)]), .cv (.one (.int .i64 (.var 2))), .cv (.agg [.int .i64 (.var 3), .int .i64 (.var 4)]), .cv (.one (.int .i64 (.var 5)))] ⟨6, 0, 0, 0, 0, 0, 0⟩ (Vc.envOf [x0, x1, x2, x3, x4, x5] [] [] []) (by kernel_rfl) (by kernel_rfl) (by kernel_rfl) h

end Go.Proofs.YtndeppnboolfiaaDoor
