/- What the walks of functions come to (written by program). -/
import Derived.Test.YtndeppnboolfiaaDoorGpG1
set_option linter.unusedVariables false
set_option maxRecDepth 100000
namespace Go.Proofs.YtndeppnboolfiaaDoor
open Go Go.RowKit
theorem vc_ullagelaw01_of (x0 x1 : Int) (w : World) (v : Value) (h : 
  ∀ x2 : Int, x2 = IntKind.i64.wrap (x0 * 4294967296) →
  ∀ x3 : Int, x3 = IntKind.i64.wrap (x1 * 4294967296) →
  (.agg #[.int .i64 x2, .int .i64 x3] : Value) = v) : Calls Tryd.prog 47 #[.int .i64 x0, .int .i64 x1] w (Vc.Ret v w) :=
  Vc.pure_of base [] 200 Tryd.func47 (b := (Tryd.f47.body).getD .skip) (by kernel_rfl) [.cv (.one (.int .i64 (.var 0))), .cv (.one (.int .i64 (.var 1)))] ⟨2, 0, 0, 0, 0, 0, 0⟩ (Vc.envOf [x0, x1] [] [] []) (by kernel_rfl) (by kernel_rfl) (by kernel_rfl) h

theorem vc_ullagelaw01_alive (w : World) (v : Value) (h : 
  ∃ (x0 : Int), ∃ (x1 : Int), ∃ (x2 : Int), (∀ w' : World, Below w.heap.size w w' → Calls Tryd.prog 12 #[.agg #[.int .i64 (-4294967296), .int .i64 8589934592], .agg #[.int .i64 12884901888, .int .i64 17179869184]] w' (Vc.Ret (.tuple #[.agg #[.int .i64 x0, .int .i64 x1], .int .i64 x2]) w')) ∧
  ∃ (x3 : Int), ∃ (x4 : Int), ∃ (x5 : Int), (∀ w' : World, Below w.heap.size w w' → Calls Tryd.prog 48 #[.int .i64 1, .int .i64 3] w' (Vc.Ret (.tuple #[.agg #[.int .i64 x3, .int .i64 x4], .int .i64 x5]) w')) ∧
  ∃ (x6 : Int), ∃ (x7 : Int), ∃ (x8 : Int), (∀ w' : World, Below w.heap.size w w' → Calls Tryd.prog 17 #[.agg #[.int .i64 (-38654705664), .int .i64 17179869184]] w' (Vc.Ret (.tuple #[.agg #[.int .i64 x6, .int .i64 x7], .int .i64 x8]) w')) ∧
  ((x2 = 0) → (
  ∃ (x9 : Int), ∃ (x10 : Int), (∀ w' : World, Below w.heap.size w w' → Calls Tryd.prog 47 #[.int .i64 (-4), .int .i64 8] w' (Vc.Ret (.agg #[.int .i64 x9, .int .i64 x10]) w')) ∧
  (((x0 = x9) ∧ (x1 = x10)) → (
  ((x5 = 0) → (
  (((x3 = 1431655765) ∧ (x4 = 1431655766)) → (
  ((x8 = 0) → (
  ∃ (x11 : Int), ∃ (x12 : Int), (∀ w' : World, Below w.heap.size w w' → Calls Tryd.prog 47 #[.int .i64 0, .int .i64 2] w' (Vc.Ret (.agg #[.int .i64 x11, .int .i64 x12]) w')) ∧
  (((x6 = x11) ∧ (x7 = x12)) → (
  ∃ (s0 : List UInt8), (∀ w' : World, Below w.heap.size w w' → Calls Tryd.prog 44 #[.int .i64 (-1073741824)] w' (Vc.Ret (.string ⟨s0.toArray⟩) w')) ∧
  (.bool (decide (s0 = ([45, 48, 46, 50, 53] : List UInt8))) : Value) = v)) ∧ (¬ ((x6 = x11) ∧ (x7 = x12)) → (
  (.bool false : Value) = v)))) ∧ (¬ (x8 = 0) → (
  (.bool false : Value) = v)))) ∧ (¬ ((x3 = 1431655765) ∧ (x4 = 1431655766)) → (
  (.bool false : Value) = v)))) ∧ (¬ (x5 = 0) → (
  (.bool false : Value) = v)))) ∧ (¬ ((x0 = x9) ∧ (x1 = x10)) → (
  (.bool false : Value) = v)))) ∧ (¬ (x2 = 0) → (
  (.bool false : Value) = v))) : Calls Tryd.prog 11 #[] w (Vc.Ret v w) :=
  Vc.pure_of (base_inl [47] (by kernel_rfl)) [] 200 Tryd.func11 (b := (Tryd.f11.body).getD .skip) (by kernel_rfl) [] ⟨0, 0, 0, 0, 0, 0, 0⟩ (Vc.envOf [] [] [] []) (by kernel_rfl) (by kernel_rfl) (by kernel_rfl) h

theorem vc_ullagelaw01_SpanParts (x0 x1 x2 x3 : Int) (w : World) (v : Value) (h : 
  ∃ (b0 : Bool), (∀ w' : World, Below w.heap.size w w' → Calls Tryd.prog 11 #[] w' (Vc.Ret (.bool b0) w')) ∧
  ∃ (x4 : Int), (∀ w' : World, Below w.heap.size w w' → Calls Tryd.prog 19 #[.agg #[.int .i64 x0, .int .i64 x1]] w' (Vc.Ret (.int .i64 x4) w')) ∧
  ((x4 = 0) → (
  ∃ (x5 : Int), (∀ w' : World, Below w.heap.size w w' → Calls Tryd.prog 19 #[.agg #[.int .i64 x2, .int .i64 x3]] w' (Vc.Ret (.int .i64 x5) w')) ∧
  ((x5 = 0) → (
  ((b0 = true) → (
  ∃ (x6 : Int), ∃ (x7 : Int), ∃ (x8 : Int), ∃ (x9 : Int), ∃ (x10 : Int), (∀ w' : World, Below w.heap.size w w' → Calls Tryd.prog 20 #[.agg #[.int .i64 x0, .int .i64 x1]] w' (Vc.Ret (.tuple #[.agg #[.int .i64 x6, .int .i64 x7], .agg #[.int .i64 x8, .int .i64 x9], .int .i64 x10]) w')) ∧
  ∃ (x11 : Int), ∃ (x12 : Int), ∃ (x13 : Int), (∀ w' : World, Below w.heap.size w w' → Calls Tryd.prog 21 #[.agg #[.int .i64 x6, .int .i64 x7], .agg #[.int .i64 x8, .int .i64 x9]] w' (Vc.Ret (.tuple #[.agg #[.int .i64 x11, .int .i64 x12], .int .i64 x13]) w')) ∧
  ∃ (x14 : Int), ∃ (x15 : Int), (∀ w' : World, Below w.heap.size w w' → Calls Tryd.prog 22 #[.agg #[.int .i64 x0, .int .i64 x1]] w' (Vc.Ret (.tuple #[.int .i64 x14, .int .i64 x15]) w')) ∧
  ∃ (x16 : Int), ∃ (x17 : Int), ∃ (x18 : Int), (∀ w' : World, Below w.heap.size w w' → Calls Tryd.prog 21 #[.agg #[.int .i64 x0, .int .i64 x1], .agg #[.int .i64 x2, .int .i64 x3]] w' (Vc.Ret (.tuple #[.agg #[.int .i64 x16, .int .i64 x17], .int .i64 x18]) w')) ∧
  ∃ (x19 : Int), ∃ (x20 : Int), ∃ (x21 : Int), (∀ w' : World, Below w.heap.size w w' → Calls Tryd.prog 23 #[.agg #[.int .i64 x0, .int .i64 x1], .agg #[.int .i64 x2, .int .i64 x3]] w' (Vc.Ret (.tuple #[.agg #[.int .i64 x19, .int .i64 x20], .int .i64 x21]) w')) ∧
  ((x10 = 0) → (
  ((x13 = 0) → (
  ((x15 = 0) → (
  (((x11 = x0) ∧ (x12 = x1)) → (
  ((x7 = x14) → (
  ((x21 = 0) → (
  ∃ (b1 : Bool), (∀ w' : World, Below w.heap.size w w' → Calls Tryd.prog 24 #[.agg #[.int .i64 x19, .int .i64 x20], .agg #[.int .i64 x0, .int .i64 x1]] w' (Vc.Ret (.bool b1) w')) ∧
  ((b1 = true) → (
  ∃ (b2 : Bool), (∀ w' : World, Below w.heap.size w w' → Calls Tryd.prog 24 #[.agg #[.int .i64 x19, .int .i64 x20], .agg #[.int .i64 x2, .int .i64 x3]] w' (Vc.Ret (.bool b2) w')) ∧
  ((b2 = true) → (
  ∃ (x22 : Int), (∀ w' : World, Below w.heap.size w w' → Calls Tryd.prog 25 #[.agg #[.int .i64 x0, .int .i64 x1], .agg #[.int .i64 x2, .int .i64 x3]] w' (Vc.Ret (.int .i64 x22) w')) ∧
  ((x22 = 0) → (
  ∃ (x23 : Int), (∀ w' : World, Below w.heap.size w w' → Calls Tryd.prog 25 #[.agg #[.int .i64 x2, .int .i64 x3], .agg #[.int .i64 x0, .int .i64 x1]] w' (Vc.Ret (.int .i64 x23) w')) ∧
  ((x21 = 7) → (
  ∃ (x24 : Int), (∀ w' : World, Below w.heap.size w w' → Calls Tryd.prog 25 #[.agg #[.int .i64 x0, .int .i64 x1], .agg #[.int .i64 x2, .int .i64 x3]] w' (Vc.Ret (.int .i64 x24) w')) ∧
  ∃ (x25 : Int), (∀ w' : World, Below w.heap.size w w' → Calls Tryd.prog 25 #[.agg #[.int .i64 x2, .int .i64 x3], .agg #[.int .i64 x0, .int .i64 x1]] w' (Vc.Ret (.int .i64 x25) w')) ∧
  ∀ x26 : Int, x26 = IntKind.i64.wrap (0 - x25) →
  ((x24 = x26) → (
  ∃ (x27 : Int), (∀ w' : World, Below w.heap.size w w' → Calls Tryd.prog 25 #[.agg #[.int .i64 x0, .int .i64 x1], .agg #[.int .i64 x2, .int .i64 x3]] w' (Vc.Ret (.int .i64 x27) w')) ∧
  ((b0 = true) → (
  ((x8 = x14) → (
  ((x18 = 0) → (
  ∃ (b3 : Bool), (∀ w' : World, Below w.heap.size w w' → Calls Tryd.prog 24 #[.agg #[.int .i64 x0, .int .i64 x1], .agg #[.int .i64 x16, .int .i64 x17]] w' (Vc.Ret (.bool b3) w')) ∧
  ((b3 = true) → (
  ∃ (b4 : Bool), (∀ w' : World, Below w.heap.size w w' → Calls Tryd.prog 24 #[.agg #[.int .i64 x2, .int .i64 x3], .agg #[.int .i64 x16, .int .i64 x17]] w' (Vc.Ret (.bool b4) w')) ∧
  ((b4 = true) → (
  ((x23 = 0) → (
  (.bool true : Value) = v)) ∧ (¬ (x23 = 0) → (
  (.bool (x27 != 0) : Value) = v)))) ∧ (¬ (b4 = true) → (
  (.bool false : Value) = v)))) ∧ (¬ (b3 = true) → (
  (.bool false : Value) = v)))) ∧ (¬ (x18 = 0) → (
  (.bool false : Value) = v)))) ∧ (¬ (x8 = x14) → (
  (.bool false : Value) = v)))) ∧ (¬ (b0 = true) → (
  (.bool false : Value) = v)))) ∧ (¬ (x24 = x26) → (
  ((b0 = true) → (
  ((x8 = x14) → (
  ((x18 = 0) → (
  ∃ (b3 : Bool), (∀ w' : World, Below w.heap.size w w' → Calls Tryd.prog 24 #[.agg #[.int .i64 x0, .int .i64 x1], .agg #[.int .i64 x16, .int .i64 x17]] w' (Vc.Ret (.bool b3) w')) ∧
  ((b3 = true) → (
  ∃ (b4 : Bool), (∀ w' : World, Below w.heap.size w w' → Calls Tryd.prog 24 #[.agg #[.int .i64 x2, .int .i64 x3], .agg #[.int .i64 x16, .int .i64 x17]] w' (Vc.Ret (.bool b4) w')) ∧
  ((b4 = true) → (
  ((x23 = 0) → (
  (.bool true : Value) = v)) ∧ (¬ (x23 = 0) → (
  (.bool false : Value) = v)))) ∧ (¬ (b4 = true) → (
  (.bool false : Value) = v)))) ∧ (¬ (b3 = true) → (
  (.bool false : Value) = v)))) ∧ (¬ (x18 = 0) → (
  (.bool false : Value) = v)))) ∧ (¬ (x8 = x14) → (
  (.bool false : Value) = v)))) ∧ (¬ (b0 = true) → (
  (.bool false : Value) = v)))))) ∧ (¬ (x21 = 7) → (
  ((b0 = true) → (
  ((x8 = x14) → (
  ((x18 = 0) → (
  ∃ (b3 : Bool), (∀ w' : World, Below w.heap.size w w' → Calls Tryd.prog 24 #[.agg #[.int .i64 x0, .int .i64 x1], .agg #[.int .i64 x16, .int .i64 x17]] w' (Vc.Ret (.bool b3) w')) ∧
  ((b3 = true) → (
  ∃ (b4 : Bool), (∀ w' : World, Below w.heap.size w w' → Calls Tryd.prog 24 #[.agg #[.int .i64 x2, .int .i64 x3], .agg #[.int .i64 x16, .int .i64 x17]] w' (Vc.Ret (.bool b4) w')) ∧
  ((b4 = true) → (
  ((x23 = 0) → (
  (.bool true : Value) = v)) ∧ (¬ (x23 = 0) → (
  (.bool false : Value) = v)))) ∧ (¬ (b4 = true) → (
  (.bool false : Value) = v)))) ∧ (¬ (b3 = true) → (
  (.bool false : Value) = v)))) ∧ (¬ (x18 = 0) → (
  (.bool false : Value) = v)))) ∧ (¬ (x8 = x14) → (
  (.bool false : Value) = v)))) ∧ (¬ (b0 = true) → (
  (.bool false : Value) = v)))))) ∧ (¬ (x22 = 0) → (
  ((x21 = 7) → (
  ∃ (x23 : Int), (∀ w' : World, Below w.heap.size w w' → Calls Tryd.prog 25 #[.agg #[.int .i64 x0, .int .i64 x1], .agg #[.int .i64 x2, .int .i64 x3]] w' (Vc.Ret (.int .i64 x23) w')) ∧
  ∃ (x24 : Int), (∀ w' : World, Below w.heap.size w w' → Calls Tryd.prog 25 #[.agg #[.int .i64 x2, .int .i64 x3], .agg #[.int .i64 x0, .int .i64 x1]] w' (Vc.Ret (.int .i64 x24) w')) ∧
  ∀ x25 : Int, x25 = IntKind.i64.wrap (0 - x24) →
  ((x23 = x25) → (
  ∃ (x26 : Int), (∀ w' : World, Below w.heap.size w w' → Calls Tryd.prog 25 #[.agg #[.int .i64 x0, .int .i64 x1], .agg #[.int .i64 x2, .int .i64 x3]] w' (Vc.Ret (.int .i64 x26) w')) ∧
  ((b0 = true) → (
  ((x8 = x14) → (
  ((x18 = 0) → (
  ∃ (b3 : Bool), (∀ w' : World, Below w.heap.size w w' → Calls Tryd.prog 24 #[.agg #[.int .i64 x0, .int .i64 x1], .agg #[.int .i64 x16, .int .i64 x17]] w' (Vc.Ret (.bool b3) w')) ∧
  ((b3 = true) → (
  ∃ (b4 : Bool), (∀ w' : World, Below w.heap.size w w' → Calls Tryd.prog 24 #[.agg #[.int .i64 x2, .int .i64 x3], .agg #[.int .i64 x16, .int .i64 x17]] w' (Vc.Ret (.bool b4) w')) ∧
  ((b4 = true) → (
  (.bool (x26 != 0) : Value) = v)) ∧ (¬ (b4 = true) → (
  (.bool false : Value) = v)))) ∧ (¬ (b3 = true) → (
  (.bool false : Value) = v)))) ∧ (¬ (x18 = 0) → (
  (.bool false : Value) = v)))) ∧ (¬ (x8 = x14) → (
  (.bool false : Value) = v)))) ∧ (¬ (b0 = true) → (
  (.bool false : Value) = v)))) ∧ (¬ (x23 = x25) → (
  ((b0 = true) → (
  ((x8 = x14) → (
  ((x18 = 0) → (
  ∃ (b3 : Bool), (∀ w' : World, Below w.heap.size w w' → Calls Tryd.prog 24 #[.agg #[.int .i64 x0, .int .i64 x1], .agg #[.int .i64 x16, .int .i64 x17]] w' (Vc.Ret (.bool b3) w')) ∧
  ((b3 = true) → (
  ∃ (b4 : Bool), (∀ w' : World, Below w.heap.size w w' → Calls Tryd.prog 24 #[.agg #[.int .i64 x2, .int .i64 x3], .agg #[.int .i64 x16, .int .i64 x17]] w' (Vc.Ret (.bool b4) w')) ∧
  ((b4 = true) → (
  (.bool false : Value) = v)) ∧ (¬ (b4 = true) → (
  (.bool false : Value) = v)))) ∧ (¬ (b3 = true) → (
  (.bool false : Value) = v)))) ∧ (¬ (x18 = 0) → (
  (.bool false : Value) = v)))) ∧ (¬ (x8 = x14) → (
  (.bool false : Value) = v)))) ∧ (¬ (b0 = true) → (
  (.bool false : Value) = v)))))) ∧ (¬ (x21 = 7) → (
  ((b0 = true) → (
  ((x8 = x14) → (
  ((x18 = 0) → (
  ∃ (b3 : Bool), (∀ w' : World, Below w.heap.size w w' → Calls Tryd.prog 24 #[.agg #[.int .i64 x0, .int .i64 x1], .agg #[.int .i64 x16, .int .i64 x17]] w' (Vc.Ret (.bool b3) w')) ∧
  ((b3 = true) → (
  ∃ (b4 : Bool), (∀ w' : World, Below w.heap.size w w' → Calls Tryd.prog 24 #[.agg #[.int .i64 x2, .int .i64 x3], .agg #[.int .i64 x16, .int .i64 x17]] w' (Vc.Ret (.bool b4) w')) ∧
  ((b4 = true) → (
  (.bool false : Value) = v)) ∧ (¬ (b4 = true) → (
  (.bool false : Value) = v)))) ∧ (¬ (b3 = true) → (
  (.bool false : Value) = v)))) ∧ (¬ (x18 = 0) → (
  (.bool false : Value) = v)))) ∧ (¬ (x8 = x14) → (
  (.bool false : Value) = v)))) ∧ (¬ (b0 = true) → (
  (.bool false : Value) = v)))))))) ∧ (¬ (b2 = true) → (
  ((x21 = 7) → (
  ∃ (x22 : Int), (∀ w' : World, Below w.heap.size w w' → Calls Tryd.prog 25 #[.agg #[.int .i64 x0, .int .i64 x1], .agg #[.int .i64 x2, .int .i64 x3]] w' (Vc.Ret (.int .i64 x22) w')) ∧
  ∃ (x23 : Int), (∀ w' : World, Below w.heap.size w w' → Calls Tryd.prog 25 #[.agg #[.int .i64 x2, .int .i64 x3], .agg #[.int .i64 x0, .int .i64 x1]] w' (Vc.Ret (.int .i64 x23) w')) ∧
  ∀ x24 : Int, x24 = IntKind.i64.wrap (0 - x23) →
  ((x22 = x24) → (
  ∃ (x25 : Int), (∀ w' : World, Below w.heap.size w w' → Calls Tryd.prog 25 #[.agg #[.int .i64 x0, .int .i64 x1], .agg #[.int .i64 x2, .int .i64 x3]] w' (Vc.Ret (.int .i64 x25) w')) ∧
  ((b0 = true) → (
  ((x8 = x14) → (
  ((x18 = 0) → (
  ∃ (b3 : Bool), (∀ w' : World, Below w.heap.size w w' → Calls Tryd.prog 24 #[.agg #[.int .i64 x0, .int .i64 x1], .agg #[.int .i64 x16, .int .i64 x17]] w' (Vc.Ret (.bool b3) w')) ∧
  ((b3 = true) → (
  ∃ (b4 : Bool), (∀ w' : World, Below w.heap.size w w' → Calls Tryd.prog 24 #[.agg #[.int .i64 x2, .int .i64 x3], .agg #[.int .i64 x16, .int .i64 x17]] w' (Vc.Ret (.bool b4) w')) ∧
  ((b4 = true) → (
  (.bool (x25 != 0) : Value) = v)) ∧ (¬ (b4 = true) → (
  (.bool false : Value) = v)))) ∧ (¬ (b3 = true) → (
  (.bool false : Value) = v)))) ∧ (¬ (x18 = 0) → (
  (.bool false : Value) = v)))) ∧ (¬ (x8 = x14) → (
  (.bool false : Value) = v)))) ∧ (¬ (b0 = true) → (
  (.bool false : Value) = v)))) ∧ (¬ (x22 = x24) → (
  ((b0 = true) → (
  ((x8 = x14) → (
  ((x18 = 0) → (
  ∃ (b3 : Bool), (∀ w' : World, Below w.heap.size w w' → Calls Tryd.prog 24 #[.agg #[.int .i64 x0, .int .i64 x1], .agg #[.int .i64 x16, .int .i64 x17]] w' (Vc.Ret (.bool b3) w')) ∧
  ((b3 = true) → (
  ∃ (b4 : Bool), (∀ w' : World, Below w.heap.size w w' → Calls Tryd.prog 24 #[.agg #[.int .i64 x2, .int .i64 x3], .agg #[.int .i64 x16, .int .i64 x17]] w' (Vc.Ret (.bool b4) w')) ∧
  ((b4 = true) → (
  (.bool false : Value) = v)) ∧ (¬ (b4 = true) → (
  (.bool false : Value) = v)))) ∧ (¬ (b3 = true) → (
  (.bool false : Value) = v)))) ∧ (¬ (x18 = 0) → (
  (.bool false : Value) = v)))) ∧ (¬ (x8 = x14) → (
  (.bool false : Value) = v)))) ∧ (¬ (b0 = true) → (
  (.bool false : Value) = v)))))) ∧ (¬ (x21 = 7) → (
  ((b0 = true) → (
  ((x8 = x14) → (
  ((x18 = 0) → (
  ∃ (b3 : Bool), (∀ w' : World, Below w.heap.size w w' → Calls Tryd.prog 24 #[.agg #[.int .i64 x0, .int .i64 x1], .agg #[.int .i64 x16, .int .i64 x17]] w' (Vc.Ret (.bool b3) w')) ∧
  ((b3 = true) → (
  ∃ (b4 : Bool), (∀ w' : World, Below w.heap.size w w' → Calls Tryd.prog 24 #[.agg #[.int .i64 x2, .int .i64 x3], .agg #[.int .i64 x16, .int .i64 x17]] w' (Vc.Ret (.bool b4) w')) ∧
  ((b4 = true) → (
  (.bool false : Value) = v)) ∧ (¬ (b4 = true) → (
  (.bool false : Value) = v)))) ∧ (¬ (b3 = true) → (
  (.bool false : Value) = v)))) ∧ (¬ (x18 = 0) → (
  (.bool false : Value) = v)))) ∧ (¬ (x8 = x14) → (
  (.bool false : Value) = v)))) ∧ (¬ (b0 = true) → (
  (.bool false : Value) = v)))))))) ∧ (¬ (b1 = true) → (
  ((x21 = 7) → (
  ∃ (x22 : Int), (∀ w' : World, Below w.heap.size w w' → Calls Tryd.prog 25 #[.agg #[.int .i64 x0, .int .i64 x1], .agg #[.int .i64 x2, .int .i64 x3]] w' (Vc.Ret (.int .i64 x22) w')) ∧
  ∃ (x23 : Int), (∀ w' : World, Below w.heap.size w w' → Calls Tryd.prog 25 #[.agg #[.int .i64 x2, .int .i64 x3], .agg #[.int .i64 x0, .int .i64 x1]] w' (Vc.Ret (.int .i64 x23) w')) ∧
  ∀ x24 : Int, x24 = IntKind.i64.wrap (0 - x23) →
  ((x22 = x24) → (
  ∃ (x25 : Int), (∀ w' : World, Below w.heap.size w w' → Calls Tryd.prog 25 #[.agg #[.int .i64 x0, .int .i64 x1], .agg #[.int .i64 x2, .int .i64 x3]] w' (Vc.Ret (.int .i64 x25) w')) ∧
  ((b0 = true) → (
  ((x8 = x14) → (
  ((x18 = 0) → (
  ∃ (b2 : Bool), (∀ w' : World, Below w.heap.size w w' → Calls Tryd.prog 24 #[.agg #[.int .i64 x0, .int .i64 x1], .agg #[.int .i64 x16, .int .i64 x17]] w' (Vc.Ret (.bool b2) w')) ∧
  ((b2 = true) → (
  ∃ (b3 : Bool), (∀ w' : World, Below w.heap.size w w' → Calls Tryd.prog 24 #[.agg #[.int .i64 x2, .int .i64 x3], .agg #[.int .i64 x16, .int .i64 x17]] w' (Vc.Ret (.bool b3) w')) ∧
  ((b3 = true) → (
  (.bool (x25 != 0) : Value) = v)) ∧ (¬ (b3 = true) → (
  (.bool false : Value) = v)))) ∧ (¬ (b2 = true) → (
  (.bool false : Value) = v)))) ∧ (¬ (x18 = 0) → (
  (.bool false : Value) = v)))) ∧ (¬ (x8 = x14) → (
  (.bool false : Value) = v)))) ∧ (¬ (b0 = true) → (
  (.bool false : Value) = v)))) ∧ (¬ (x22 = x24) → (
  ((b0 = true) → (
  ((x8 = x14) → (
  ((x18 = 0) → (
  ∃ (b2 : Bool), (∀ w' : World, Below w.heap.size w w' → Calls Tryd.prog 24 #[.agg #[.int .i64 x0, .int .i64 x1], .agg #[.int .i64 x16, .int .i64 x17]] w' (Vc.Ret (.bool b2) w')) ∧
  ((b2 = true) → (
  ∃ (b3 : Bool), (∀ w' : World, Below w.heap.size w w' → Calls Tryd.prog 24 #[.agg #[.int .i64 x2, .int .i64 x3], .agg #[.int .i64 x16, .int .i64 x17]] w' (Vc.Ret (.bool b3) w')) ∧
  ((b3 = true) → (
  (.bool false : Value) = v)) ∧ (¬ (b3 = true) → (
  (.bool false : Value) = v)))) ∧ (¬ (b2 = true) → (
  (.bool false : Value) = v)))) ∧ (¬ (x18 = 0) → (
  (.bool false : Value) = v)))) ∧ (¬ (x8 = x14) → (
  (.bool false : Value) = v)))) ∧ (¬ (b0 = true) → (
  (.bool false : Value) = v)))))) ∧ (¬ (x21 = 7) → (
  ((b0 = true) → (
  ((x8 = x14) → (
  ((x18 = 0) → (
  ∃ (b2 : Bool), (∀ w' : World, Below w.heap.size w w' → Calls Tryd.prog 24 #[.agg #[.int .i64 x0, .int .i64 x1], .agg #[.int .i64 x16, .int .i64 x17]] w' (Vc.Ret (.bool b2) w')) ∧
  ((b2 = true) → (
  ∃ (b3 : Bool), (∀ w' : World, Below w.heap.size w w' → Calls Tryd.prog 24 #[.agg #[.int .i64 x2, .int .i64 x3], .agg #[.int .i64 x16, .int .i64 x17]] w' (Vc.Ret (.bool b3) w')) ∧
  ((b3 = true) → (
  (.bool false : Value) = v)) ∧ (¬ (b3 = true) → (
  (.bool false : Value) = v)))) ∧ (¬ (b2 = true) → (
  (.bool false : Value) = v)))) ∧ (¬ (x18 = 0) → (
  (.bool false : Value) = v)))) ∧ (¬ (x8 = x14) → (
  (.bool false : Value) = v)))) ∧ (¬ (b0 = true) → (
  (.bool false : Value) = v)))))))) ∧ (¬ (x21 = 0) → (
  ((x21 = 7) → (
  ∃ (x22 : Int), (∀ w' : World, Below w.heap.size w w' → Calls Tryd.prog 25 #[.agg #[.int .i64 x0, .int .i64 x1], .agg #[.int .i64 x2, .int .i64 x3]] w' (Vc.Ret (.int .i64 x22) w')) ∧
  ∃ (x23 : Int), (∀ w' : World, Below w.heap.size w w' → Calls Tryd.prog 25 #[.agg #[.int .i64 x2, .int .i64 x3], .agg #[.int .i64 x0, .int .i64 x1]] w' (Vc.Ret (.int .i64 x23) w')) ∧
  ∀ x24 : Int, x24 = IntKind.i64.wrap (0 - x23) →
  ((x22 = x24) → (
  ∃ (x25 : Int), (∀ w' : World, Below w.heap.size w w' → Calls Tryd.prog 25 #[.agg #[.int .i64 x0, .int .i64 x1], .agg #[.int .i64 x2, .int .i64 x3]] w' (Vc.Ret (.int .i64 x25) w')) ∧
  ((b0 = true) → (
  ((x8 = x14) → (
  ((x18 = 0) → (
  ∃ (b1 : Bool), (∀ w' : World, Below w.heap.size w w' → Calls Tryd.prog 24 #[.agg #[.int .i64 x0, .int .i64 x1], .agg #[.int .i64 x16, .int .i64 x17]] w' (Vc.Ret (.bool b1) w')) ∧
  ((b1 = true) → (
  ∃ (b2 : Bool), (∀ w' : World, Below w.heap.size w w' → Calls Tryd.prog 24 #[.agg #[.int .i64 x2, .int .i64 x3], .agg #[.int .i64 x16, .int .i64 x17]] w' (Vc.Ret (.bool b2) w')) ∧
  ((b2 = true) → (
  (.bool (x25 != 0) : Value) = v)) ∧ (¬ (b2 = true) → (
  (.bool false : Value) = v)))) ∧ (¬ (b1 = true) → (
  (.bool false : Value) = v)))) ∧ (¬ (x18 = 0) → (
  (.bool false : Value) = v)))) ∧ (¬ (x8 = x14) → (
  (.bool false : Value) = v)))) ∧ (¬ (b0 = true) → (
  (.bool false : Value) = v)))) ∧ (¬ (x22 = x24) → (
  ((b0 = true) → (
  ((x8 = x14) → (
  ((x18 = 0) → (
  ∃ (b1 : Bool), (∀ w' : World, Below w.heap.size w w' → Calls Tryd.prog 24 #[.agg #[.int .i64 x0, .int .i64 x1], .agg #[.int .i64 x16, .int .i64 x17]] w' (Vc.Ret (.bool b1) w')) ∧
  ((b1 = true) → (
  ∃ (b2 : Bool), (∀ w' : World, Below w.heap.size w w' → Calls Tryd.prog 24 #[.agg #[.int .i64 x2, .int .i64 x3], .agg #[.int .i64 x16, .int .i64 x17]] w' (Vc.Ret (.bool b2) w')) ∧
  ((b2 = true) → (
  (.bool false : Value) = v)) ∧ (¬ (b2 = true) → (
  (.bool false : Value) = v)))) ∧ (¬ (b1 = true) → (
  (.bool false : Value) = v)))) ∧ (¬ (x18 = 0) → (
  (.bool false : Value) = v)))) ∧ (¬ (x8 = x14) → (
  (.bool false : Value) = v)))) ∧ (¬ (b0 = true) → (
  (.bool false : Value) = v)))))) ∧ (¬ (x21 = 7) → (
  ((b0 = true) → (
  ((x8 = x14) → (
  ((x18 = 0) → (
  ∃ (b1 : Bool), (∀ w' : World, Below w.heap.size w w' → Calls Tryd.prog 24 #[.agg #[.int .i64 x0, .int .i64 x1], .agg #[.int .i64 x16, .int .i64 x17]] w' (Vc.Ret (.bool b1) w')) ∧
  ((b1 = true) → (
  ∃ (b2 : Bool), (∀ w' : World, Below w.heap.size w w' → Calls Tryd.prog 24 #[.agg #[.int .i64 x2, .int .i64 x3], .agg #[.int .i64 x16, .int .i64 x17]] w' (Vc.Ret (.bool b2) w')) ∧
  ((b2 = true) → (
  (.bool false : Value) = v)) ∧ (¬ (b2 = true) → (
  (.bool false : Value) = v)))) ∧ (¬ (b1 = true) → (
  (.bool false : Value) = v)))) ∧ (¬ (x18 = 0) → (
  (.bool false : Value) = v)))) ∧ (¬ (x8 = x14) → (
  (.bool false : Value) = v)))) ∧ (¬ (b0 = true) → (
  (.bool false : Value) = v)))))))) ∧ (¬ (x7 = x14) → (
  ((x21 = 0) → (
  ∃ (b1 : Bool), (∀ w' : World, Below w.heap.size w w' → Calls Tryd.prog 24 #[.agg #[.int .i64 x19, .int .i64 x20], .agg #[.int .i64 x0, .int .i64 x1]] w' (Vc.Ret (.bool b1) w')) ∧
  ((b1 = true) → (
  ∃ (b2 : Bool), (∀ w' : World, Below w.heap.size w w' → Calls Tryd.prog 24 #[.agg #[.int .i64 x19, .int .i64 x20], .agg #[.int .i64 x2, .int .i64 x3]] w' (Vc.Ret (.bool b2) w')) ∧
  ((b2 = true) → (
  ∃ (x22 : Int), (∀ w' : World, Below w.heap.size w w' → Calls Tryd.prog 25 #[.agg #[.int .i64 x0, .int .i64 x1], .agg #[.int .i64 x2, .int .i64 x3]] w' (Vc.Ret (.int .i64 x22) w')) ∧
  ((x22 = 0) → (
  ∃ (x23 : Int), (∀ w' : World, Below w.heap.size w w' → Calls Tryd.prog 25 #[.agg #[.int .i64 x2, .int .i64 x3], .agg #[.int .i64 x0, .int .i64 x1]] w' (Vc.Ret (.int .i64 x23) w')) ∧
  ((x21 = 7) → (
  ∃ (x24 : Int), (∀ w' : World, Below w.heap.size w w' → Calls Tryd.prog 25 #[.agg #[.int .i64 x0, .int .i64 x1], .agg #[.int .i64 x2, .int .i64 x3]] w' (Vc.Ret (.int .i64 x24) w')) ∧
  ∃ (x25 : Int), (∀ w' : World, Below w.heap.size w w' → Calls Tryd.prog 25 #[.agg #[.int .i64 x2, .int .i64 x3], .agg #[.int .i64 x0, .int .i64 x1]] w' (Vc.Ret (.int .i64 x25) w')) ∧
  ∀ x26 : Int, x26 = IntKind.i64.wrap (0 - x25) →
  ((x24 = x26) → (
  ∃ (x27 : Int), (∀ w' : World, Below w.heap.size w w' → Calls Tryd.prog 25 #[.agg #[.int .i64 x0, .int .i64 x1], .agg #[.int .i64 x2, .int .i64 x3]] w' (Vc.Ret (.int .i64 x27) w')) ∧
  ((b0 = true) → (
  (.bool false : Value) = v)) ∧ (¬ (b0 = true) → (
  (.bool false : Value) = v)))) ∧ (¬ (x24 = x26) → (
  ((b0 = true) → (
  (.bool false : Value) = v)) ∧ (¬ (b0 = true) → (
  (.bool false : Value) = v)))))) ∧ (¬ (x21 = 7) → (
  ((b0 = true) → (
  (.bool false : Value) = v)) ∧ (¬ (b0 = true) → (
  (.bool false : Value) = v)))))) ∧ (¬ (x22 = 0) → (
  ((x21 = 7) → (
  ∃ (x23 : Int), (∀ w' : World, Below w.heap.size w w' → Calls Tryd.prog 25 #[.agg #[.int .i64 x0, .int .i64 x1], .agg #[.int .i64 x2, .int .i64 x3]] w' (Vc.Ret (.int .i64 x23) w')) ∧
  ∃ (x24 : Int), (∀ w' : World, Below w.heap.size w w' → Calls Tryd.prog 25 #[.agg #[.int .i64 x2, .int .i64 x3], .agg #[.int .i64 x0, .int .i64 x1]] w' (Vc.Ret (.int .i64 x24) w')) ∧
  ∀ x25 : Int, x25 = IntKind.i64.wrap (0 - x24) →
  ((x23 = x25) → (
  ∃ (x26 : Int), (∀ w' : World, Below w.heap.size w w' → Calls Tryd.prog 25 #[.agg #[.int .i64 x0, .int .i64 x1], .agg #[.int .i64 x2, .int .i64 x3]] w' (Vc.Ret (.int .i64 x26) w')) ∧
  ((b0 = true) → (
  (.bool false : Value) = v)) ∧ (¬ (b0 = true) → (
  (.bool false : Value) = v)))) ∧ (¬ (x23 = x25) → (
  ((b0 = true) → (
  (.bool false : Value) = v)) ∧ (¬ (b0 = true) → (
  (.bool false : Value) = v)))))) ∧ (¬ (x21 = 7) → (
  ((b0 = true) → (
  (.bool false : Value) = v)) ∧ (¬ (b0 = true) → (
  (.bool false : Value) = v)))))))) ∧ (¬ (b2 = true) → (
  ((x21 = 7) → (
  ∃ (x22 : Int), (∀ w' : World, Below w.heap.size w w' → Calls Tryd.prog 25 #[.agg #[.int .i64 x0, .int .i64 x1], .agg #[.int .i64 x2, .int .i64 x3]] w' (Vc.Ret (.int .i64 x22) w')) ∧
  ∃ (x23 : Int), (∀ w' : World, Below w.heap.size w w' → Calls Tryd.prog 25 #[.agg #[.int .i64 x2, .int .i64 x3], .agg #[.int .i64 x0, .int .i64 x1]] w' (Vc.Ret (.int .i64 x23) w')) ∧
  ∀ x24 : Int, x24 = IntKind.i64.wrap (0 - x23) →
  ((x22 = x24) → (
  ∃ (x25 : Int), (∀ w' : World, Below w.heap.size w w' → Calls Tryd.prog 25 #[.agg #[.int .i64 x0, .int .i64 x1], .agg #[.int .i64 x2, .int .i64 x3]] w' (Vc.Ret (.int .i64 x25) w')) ∧
  ((b0 = true) → (
  (.bool false : Value) = v)) ∧ (¬ (b0 = true) → (
  (.bool false : Value) = v)))) ∧ (¬ (x22 = x24) → (
  ((b0 = true) → (
  (.bool false : Value) = v)) ∧ (¬ (b0 = true) → (
  (.bool false : Value) = v)))))) ∧ (¬ (x21 = 7) → (
  ((b0 = true) → (
  (.bool false : Value) = v)) ∧ (¬ (b0 = true) → (
  (.bool false : Value) = v)))))))) ∧ (¬ (b1 = true) → (
  ((x21 = 7) → (
  ∃ (x22 : Int), (∀ w' : World, Below w.heap.size w w' → Calls Tryd.prog 25 #[.agg #[.int .i64 x0, .int .i64 x1], .agg #[.int .i64 x2, .int .i64 x3]] w' (Vc.Ret (.int .i64 x22) w')) ∧
  ∃ (x23 : Int), (∀ w' : World, Below w.heap.size w w' → Calls Tryd.prog 25 #[.agg #[.int .i64 x2, .int .i64 x3], .agg #[.int .i64 x0, .int .i64 x1]] w' (Vc.Ret (.int .i64 x23) w')) ∧
  ∀ x24 : Int, x24 = IntKind.i64.wrap (0 - x23) →
  ((x22 = x24) → (
  ∃ (x25 : Int), (∀ w' : World, Below w.heap.size w w' → Calls Tryd.prog 25 #[.agg #[.int .i64 x0, .int .i64 x1], .agg #[.int .i64 x2, .int .i64 x3]] w' (Vc.Ret (.int .i64 x25) w')) ∧
  ((b0 = true) → (
  (.bool false : Value) = v)) ∧ (¬ (b0 = true) → (
  (.bool false : Value) = v)))) ∧ (¬ (x22 = x24) → (
  ((b0 = true) → (
  (.bool false : Value) = v)) ∧ (¬ (b0 = true) → (
  (.bool false : Value) = v)))))) ∧ (¬ (x21 = 7) → (
  ((b0 = true) → (
  (.bool false : Value) = v)) ∧ (¬ (b0 = true) → (
  (.bool false : Value) = v)))))))) ∧ (¬ (x21 = 0) → (
  ((x21 = 7) → (
  ∃ (x22 : Int), (∀ w' : World, Below w.heap.size w w' → Calls Tryd.prog 25 #[.agg #[.int .i64 x0, .int .i64 x1], .agg #[.int .i64 x2, .int .i64 x3]] w' (Vc.Ret (.int .i64 x22) w')) ∧
  ∃ (x23 : Int), (∀ w' : World, Below w.heap.size w w' → Calls Tryd.prog 25 #[.agg #[.int .i64 x2, .int .i64 x3], .agg #[.int .i64 x0, .int .i64 x1]] w' (Vc.Ret (.int .i64 x23) w')) ∧
  ∀ x24 : Int, x24 = IntKind.i64.wrap (0 - x23) →
  ((x22 = x24) → (
  ∃ (x25 : Int), (∀ w' : World, Below w.heap.size w w' → Calls Tryd.prog 25 #[.agg #[.int .i64 x0, .int .i64 x1], .agg #[.int .i64 x2, .int .i64 x3]] w' (Vc.Ret (.int .i64 x25) w')) ∧
  ((b0 = true) → (
  (.bool false : Value) = v)) ∧ (¬ (b0 = true) → (
  (.bool false : Value) = v)))) ∧ (¬ (x22 = x24) → (
  ((b0 = true) → (
  (.bool false : Value) = v)) ∧ (¬ (b0 = true) → (
  (.bool false : Value) = v)))))) ∧ (¬ (x21 = 7) → (
  ((b0 = true) → (
  (.bool false : Value) = v)) ∧ (¬ (b0 = true) → (
  (.bool false : Value) = v)))))))))) ∧ (¬ ((x11 = x0) ∧ (x12 = x1)) → (
  ((x21 = 0) → (
  ∃ (b1 : Bool), (∀ w' : World, Below w.heap.size w w' → Calls Tryd.prog 24 #[.agg #[.int .i64 x19, .int .i64 x20], .agg #[.int .i64 x0, .int .i64 x1]] w' (Vc.Ret (.bool b1) w')) ∧
  ((b1 = true) → (
  ∃ (b2 : Bool), (∀ w' : World, Below w.heap.size w w' → Calls Tryd.prog 24 #[.agg #[.int .i64 x19, .int .i64 x20], .agg #[.int .i64 x2, .int .i64 x3]] w' (Vc.Ret (.bool b2) w')) ∧
  ((b2 = true) → (
  ∃ (x22 : Int), (∀ w' : World, Below w.heap.size w w' → Calls Tryd.prog 25 #[.agg #[.int .i64 x0, .int .i64 x1], .agg #[.int .i64 x2, .int .i64 x3]] w' (Vc.Ret (.int .i64 x22) w')) ∧
  ((x22 = 0) → (
  ∃ (x23 : Int), (∀ w' : World, Below w.heap.size w w' → Calls Tryd.prog 25 #[.agg #[.int .i64 x2, .int .i64 x3], .agg #[.int .i64 x0, .int .i64 x1]] w' (Vc.Ret (.int .i64 x23) w')) ∧
  ((x21 = 7) → (
  ∃ (x24 : Int), (∀ w' : World, Below w.heap.size w w' → Calls Tryd.prog 25 #[.agg #[.int .i64 x0, .int .i64 x1], .agg #[.int .i64 x2, .int .i64 x3]] w' (Vc.Ret (.int .i64 x24) w')) ∧
  ∃ (x25 : Int), (∀ w' : World, Below w.heap.size w w' → Calls Tryd.prog 25 #[.agg #[.int .i64 x2, .int .i64 x3], .agg #[.int .i64 x0, .int .i64 x1]] w' (Vc.Ret (.int .i64 x25) w')) ∧
  ∀ x26 : Int, x26 = IntKind.i64.wrap (0 - x25) →
  ((x24 = x26) → (
  ∃ (x27 : Int), (∀ w' : World, Below w.heap.size w w' → Calls Tryd.prog 25 #[.agg #[.int .i64 x0, .int .i64 x1], .agg #[.int .i64 x2, .int .i64 x3]] w' (Vc.Ret (.int .i64 x27) w')) ∧
  ((b0 = true) → (
  (.bool false : Value) = v)) ∧ (¬ (b0 = true) → (
  (.bool false : Value) = v)))) ∧ (¬ (x24 = x26) → (
  ((b0 = true) → (
  (.bool false : Value) = v)) ∧ (¬ (b0 = true) → (
  (.bool false : Value) = v)))))) ∧ (¬ (x21 = 7) → (
  ((b0 = true) → (
  (.bool false : Value) = v)) ∧ (¬ (b0 = true) → (
  (.bool false : Value) = v)))))) ∧ (¬ (x22 = 0) → (
  ((x21 = 7) → (
  ∃ (x23 : Int), (∀ w' : World, Below w.heap.size w w' → Calls Tryd.prog 25 #[.agg #[.int .i64 x0, .int .i64 x1], .agg #[.int .i64 x2, .int .i64 x3]] w' (Vc.Ret (.int .i64 x23) w')) ∧
  ∃ (x24 : Int), (∀ w' : World, Below w.heap.size w w' → Calls Tryd.prog 25 #[.agg #[.int .i64 x2, .int .i64 x3], .agg #[.int .i64 x0, .int .i64 x1]] w' (Vc.Ret (.int .i64 x24) w')) ∧
  ∀ x25 : Int, x25 = IntKind.i64.wrap (0 - x24) →
  ((x23 = x25) → (
  ∃ (x26 : Int), (∀ w' : World, Below w.heap.size w w' → Calls Tryd.prog 25 #[.agg #[.int .i64 x0, .int .i64 x1], .agg #[.int .i64 x2, .int .i64 x3]] w' (Vc.Ret (.int .i64 x26) w')) ∧
  ((b0 = true) → (
  (.bool false : Value) = v)) ∧ (¬ (b0 = true) → (
  (.bool false : Value) = v)))) ∧ (¬ (x23 = x25) → (
  ((b0 = true) → (
  (.bool false : Value) = v)) ∧ (¬ (b0 = true) → (
  (.bool false : Value) = v)))))) ∧ (¬ (x21 = 7) → (
  ((b0 = true) → (
  (.bool false : Value) = v)) ∧ (¬ (b0 = true) → (
  (.bool false : Value) = v)))))))) ∧ (¬ (b2 = true) → (
  ((x21 = 7) → (
  ∃ (x22 : Int), (∀ w' : World, Below w.heap.size w w' → Calls Tryd.prog 25 #[.agg #[.int .i64 x0, .int .i64 x1], .agg #[.int .i64 x2, .int .i64 x3]] w' (Vc.Ret (.int .i64 x22) w')) ∧
  ∃ (x23 : Int), (∀ w' : World, Below w.heap.size w w' → Calls Tryd.prog 25 #[.agg #[.int .i64 x2, .int .i64 x3], .agg #[.int .i64 x0, .int .i64 x1]] w' (Vc.Ret (.int .i64 x23) w')) ∧
  ∀ x24 : Int, x24 = IntKind.i64.wrap (0 - x23) →
  ((x22 = x24) → (
  ∃ (x25 : Int), (∀ w' : World, Below w.heap.size w w' → Calls Tryd.prog 25 #[.agg #[.int .i64 x0, .int .i64 x1], .agg #[.int .i64 x2, .int .i64 x3]] w' (Vc.Ret (.int .i64 x25) w')) ∧
  ((b0 = true) → (
  (.bool false : Value) = v)) ∧ (¬ (b0 = true) → (
  (.bool false : Value) = v)))) ∧ (¬ (x22 = x24) → (
  ((b0 = true) → (
  (.bool false : Value) = v)) ∧ (¬ (b0 = true) → (
  (.bool false : Value) = v)))))) ∧ (¬ (x21 = 7) → (
  ((b0 = true) → (
  (.bool false : Value) = v)) ∧ (¬ (b0 = true) → (
  (.bool false : Value) = v)))))))) ∧ (¬ (b1 = true) → (
  ((x21 = 7) → (
  ∃ (x22 : Int), (∀ w' : World, Below w.heap.size w w' → Calls Tryd.prog 25 #[.agg #[.int .i64 x0, .int .i64 x1], .agg #[.int .i64 x2, .int .i64 x3]] w' (Vc.Ret (.int .i64 x22) w')) ∧
  ∃ (x23 : Int), (∀ w' : World, Below w.heap.size w w' → Calls Tryd.prog 25 #[.agg #[.int .i64 x2, .int .i64 x3], .agg #[.int .i64 x0, .int .i64 x1]] w' (Vc.Ret (.int .i64 x23) w')) ∧
  ∀ x24 : Int, x24 = IntKind.i64.wrap (0 - x23) →
  ((x22 = x24) → (
  ∃ (x25 : Int), (∀ w' : World, Below w.heap.size w w' → Calls Tryd.prog 25 #[.agg #[.int .i64 x0, .int .i64 x1], .agg #[.int .i64 x2, .int .i64 x3]] w' (Vc.Ret (.int .i64 x25) w')) ∧
  ((b0 = true) → (
  (.bool false : Value) = v)) ∧ (¬ (b0 = true) → (
  (.bool false : Value) = v)))) ∧ (¬ (x22 = x24) → (
  ((b0 = true) → (
  (.bool false : Value) = v)) ∧ (¬ (b0 = true) → (
  (.bool false : Value) = v)))))) ∧ (¬ (x21 = 7) → (
  ((b0 = true) → (
  (.bool false : Value) = v)) ∧ (¬ (b0 = true) → (
  (.bool false : Value) = v)))))))) ∧ (¬ (x21 = 0) → (
  ((x21 = 7) → (
  ∃ (x22 : Int), (∀ w' : World, Below w.heap.size w w' → Calls Tryd.prog 25 #[.agg #[.int .i64 x0, .int .i64 x1], .agg #[.int .i64 x2, .int .i64 x3]] w' (Vc.Ret (.int .i64 x22) w')) ∧
  ∃ (x23 : Int), (∀ w' : World, Below w.heap.size w w' → Calls Tryd.prog 25 #[.agg #[.int .i64 x2, .int .i64 x3], .agg #[.int .i64 x0, .int .i64 x1]] w' (Vc.Ret (.int .i64 x23) w')) ∧
  ∀ x24 : Int, x24 = IntKind.i64.wrap (0 - x23) →
  ((x22 = x24) → (
  ∃ (x25 : Int), (∀ w' : World, Below w.heap.size w w' → Calls Tryd.prog 25 #[.agg #[.int .i64 x0, .int .i64 x1], .agg #[.int .i64 x2, .int .i64 x3]] w' (Vc.Ret (.int .i64 x25) w')) ∧
  ((b0 = true) → (
  (.bool false : Value) = v)) ∧ (¬ (b0 = true) → (
  (.bool false : Value) = v)))) ∧ (¬ (x22 = x24) → (
  ((b0 = true) → (
  (.bool false : Value) = v)) ∧ (¬ (b0 = true) → (
  (.bool false : Value) = v)))))) ∧ (¬ (x21 = 7) → (
  ((b0 = true) → (
  (.bool false : Value) = v)) ∧ (¬ (b0 = true) → (
  (.bool false : Value) = v)))))))))) ∧ (¬ (x15 = 0) → (
  ((x21 = 0) → (
  ∃ (b1 : Bool), (∀ w' : World, Below w.heap.size w w' → Calls Tryd.prog 24 #[.agg #[.int .i64 x19, .int .i64 x20], .agg #[.int .i64 x0, .int .i64 x1]] w' (Vc.Ret (.bool b1) w')) ∧
  ((b1 = true) → (
  ∃ (b2 : Bool), (∀ w' : World, Below w.heap.size w w' → Calls Tryd.prog 24 #[.agg #[.int .i64 x19, .int .i64 x20], .agg #[.int .i64 x2, .int .i64 x3]] w' (Vc.Ret (.bool b2) w')) ∧
  ((b2 = true) → (
  ∃ (x22 : Int), (∀ w' : World, Below w.heap.size w w' → Calls Tryd.prog 25 #[.agg #[.int .i64 x0, .int .i64 x1], .agg #[.int .i64 x2, .int .i64 x3]] w' (Vc.Ret (.int .i64 x22) w')) ∧
  ((x22 = 0) → (
  ∃ (x23 : Int), (∀ w' : World, Below w.heap.size w w' → Calls Tryd.prog 25 #[.agg #[.int .i64 x2, .int .i64 x3], .agg #[.int .i64 x0, .int .i64 x1]] w' (Vc.Ret (.int .i64 x23) w')) ∧
  ((x21 = 7) → (
  ∃ (x24 : Int), (∀ w' : World, Below w.heap.size w w' → Calls Tryd.prog 25 #[.agg #[.int .i64 x0, .int .i64 x1], .agg #[.int .i64 x2, .int .i64 x3]] w' (Vc.Ret (.int .i64 x24) w')) ∧
  ∃ (x25 : Int), (∀ w' : World, Below w.heap.size w w' → Calls Tryd.prog 25 #[.agg #[.int .i64 x2, .int .i64 x3], .agg #[.int .i64 x0, .int .i64 x1]] w' (Vc.Ret (.int .i64 x25) w')) ∧
  ∀ x26 : Int, x26 = IntKind.i64.wrap (0 - x25) →
  ((x24 = x26) → (
  ∃ (x27 : Int), (∀ w' : World, Below w.heap.size w w' → Calls Tryd.prog 25 #[.agg #[.int .i64 x0, .int .i64 x1], .agg #[.int .i64 x2, .int .i64 x3]] w' (Vc.Ret (.int .i64 x27) w')) ∧
  ((b0 = true) → (
  (.bool false : Value) = v)) ∧ (¬ (b0 = true) → (
  (.bool false : Value) = v)))) ∧ (¬ (x24 = x26) → (
  ((b0 = true) → (
  (.bool false : Value) = v)) ∧ (¬ (b0 = true) → (
  (.bool false : Value) = v)))))) ∧ (¬ (x21 = 7) → (
  ((b0 = true) → (
  (.bool false : Value) = v)) ∧ (¬ (b0 = true) → (
  (.bool false : Value) = v)))))) ∧ (¬ (x22 = 0) → (
  ((x21 = 7) → (
  ∃ (x23 : Int), (∀ w' : World, Below w.heap.size w w' → Calls Tryd.prog 25 #[.agg #[.int .i64 x0, .int .i64 x1], .agg #[.int .i64 x2, .int .i64 x3]] w' (Vc.Ret (.int .i64 x23) w')) ∧
  ∃ (x24 : Int), (∀ w' : World, Below w.heap.size w w' → Calls Tryd.prog 25 #[.agg #[.int .i64 x2, .int .i64 x3], .agg #[.int .i64 x0, .int .i64 x1]] w' (Vc.Ret (.int .i64 x24) w')) ∧
  ∀ x25 : Int, x25 = IntKind.i64.wrap (0 - x24) →
  ((x23 = x25) → (
  ∃ (x26 : Int), (∀ w' : World, Below w.heap.size w w' → Calls Tryd.prog 25 #[.agg #[.int .i64 x0, .int .i64 x1], .agg #[.int .i64 x2, .int .i64 x3]] w' (Vc.Ret (.int .i64 x26) w')) ∧
  ((b0 = true) → (
  (.bool false : Value) = v)) ∧ (¬ (b0 = true) → (
  (.bool false : Value) = v)))) ∧ (¬ (x23 = x25) → (
  ((b0 = true) → (
  (.bool false : Value) = v)) ∧ (¬ (b0 = true) → (
  (.bool false : Value) = v)))))) ∧ (¬ (x21 = 7) → (
  ((b0 = true) → (
  (.bool false : Value) = v)) ∧ (¬ (b0 = true) → (
  (.bool false : Value) = v)))))))) ∧ (¬ (b2 = true) → (
  ((x21 = 7) → (
  ∃ (x22 : Int), (∀ w' : World, Below w.heap.size w w' → Calls Tryd.prog 25 #[.agg #[.int .i64 x0, .int .i64 x1], .agg #[.int .i64 x2, .int .i64 x3]] w' (Vc.Ret (.int .i64 x22) w')) ∧
  ∃ (x23 : Int), (∀ w' : World, Below w.heap.size w w' → Calls Tryd.prog 25 #[.agg #[.int .i64 x2, .int .i64 x3], .agg #[.int .i64 x0, .int .i64 x1]] w' (Vc.Ret (.int .i64 x23) w')) ∧
  ∀ x24 : Int, x24 = IntKind.i64.wrap (0 - x23) →
  ((x22 = x24) → (
  ∃ (x25 : Int), (∀ w' : World, Below w.heap.size w w' → Calls Tryd.prog 25 #[.agg #[.int .i64 x0, .int .i64 x1], .agg #[.int .i64 x2, .int .i64 x3]] w' (Vc.Ret (.int .i64 x25) w')) ∧
  ((b0 = true) → (
  (.bool false : Value) = v)) ∧ (¬ (b0 = true) → (
  (.bool false : Value) = v)))) ∧ (¬ (x22 = x24) → (
  ((b0 = true) → (
  (.bool false : Value) = v)) ∧ (¬ (b0 = true) → (
  (.bool false : Value) = v)))))) ∧ (¬ (x21 = 7) → (
  ((b0 = true) → (
  (.bool false : Value) = v)) ∧ (¬ (b0 = true) → (
  (.bool false : Value) = v)))))))) ∧ (¬ (b1 = true) → (
  ((x21 = 7) → (
  ∃ (x22 : Int), (∀ w' : World, Below w.heap.size w w' → Calls Tryd.prog 25 #[.agg #[.int .i64 x0, .int .i64 x1], .agg #[.int .i64 x2, .int .i64 x3]] w' (Vc.Ret (.int .i64 x22) w')) ∧
  ∃ (x23 : Int), (∀ w' : World, Below w.heap.size w w' → Calls Tryd.prog 25 #[.agg #[.int .i64 x2, .int .i64 x3], .agg #[.int .i64 x0, .int .i64 x1]] w' (Vc.Ret (.int .i64 x23) w')) ∧
  ∀ x24 : Int, x24 = IntKind.i64.wrap (0 - x23) →
  ((x22 = x24) → (
  ∃ (x25 : Int), (∀ w' : World, Below w.heap.size w w' → Calls Tryd.prog 25 #[.agg #[.int .i64 x0, .int .i64 x1], .agg #[.int .i64 x2, .int .i64 x3]] w' (Vc.Ret (.int .i64 x25) w')) ∧
  ((b0 = true) → (
  (.bool false : Value) = v)) ∧ (¬ (b0 = true) → (
  (.bool false : Value) = v)))) ∧ (¬ (x22 = x24) → (
  ((b0 = true) → (
  (.bool false : Value) = v)) ∧ (¬ (b0 = true) → (
  (.bool false : Value) = v)))))) ∧ (¬ (x21 = 7) → (
  ((b0 = true) → (
  (.bool false : Value) = v)) ∧ (¬ (b0 = true) → (
  (.bool false : Value) = v)))))))) ∧ (¬ (x21 = 0) → (
  ((x21 = 7) → (
  ∃ (x22 : Int), (∀ w' : World, Below w.heap.size w w' → Calls Tryd.prog 25 #[.agg #[.int .i64 x0, .int .i64 x1], .agg #[.int .i64 x2, .int .i64 x3]] w' (Vc.Ret (.int .i64 x22) w')) ∧
  ∃ (x23 : Int), (∀ w' : World, Below w.heap.size w w' → Calls Tryd.prog 25 #[.agg #[.int .i64 x2, .int .i64 x3], .agg #[.int .i64 x0, .int .i64 x1]] w' (Vc.Ret (.int .i64 x23) w')) ∧
  ∀ x24 : Int, x24 = IntKind.i64.wrap (0 - x23) →
  ((x22 = x24) → (
  ∃ (x25 : Int), (∀ w' : World, Below w.heap.size w w' → Calls Tryd.prog 25 #[.agg #[.int .i64 x0, .int .i64 x1], .agg #[.int .i64 x2, .int .i64 x3]] w' (Vc.Ret (.int .i64 x25) w')) ∧
  ((b0 = true) → (
  (.bool false : Value) = v)) ∧ (¬ (b0 = true) → (
  (.bool false : Value) = v)))) ∧ (¬ (x22 = x24) → (
  ((b0 = true) → (
  (.bool false : Value) = v)) ∧ (¬ (b0 = true) → (
  (.bool false : Value) = v)))))) ∧ (¬ (x21 = 7) → (
  ((b0 = true) → (
  (.bool false : Value) = v)) ∧ (¬ (b0 = true) → (
  (.bool false : Value) = v)))))))))) ∧ (¬ (x13 = 0) → (
  ((x21 = 0) → (
  ∃ (b1 : Bool), (∀ w' : World, Below w.heap.size w w' → Calls Tryd.prog 24 #[.agg #[.int .i64 x19, .int .i64 x20], .agg #[.int .i64 x0, .int .i64 x1]] w' (Vc.Ret (.bool b1) w')) ∧
  ((b1 = true) → (
  ∃ (b2 : Bool), (∀ w' : World, Below w.heap.size w w' → Calls Tryd.prog 24 #[.agg #[.int .i64 x19, .int .i64 x20], .agg #[.int .i64 x2, .int .i64 x3]] w' (Vc.Ret (.bool b2) w')) ∧
  ((b2 = true) → (
  ∃ (x22 : Int), (∀ w' : World, Below w.heap.size w w' → Calls Tryd.prog 25 #[.agg #[.int .i64 x0, .int .i64 x1], .agg #[.int .i64 x2, .int .i64 x3]] w' (Vc.Ret (.int .i64 x22) w')) ∧
  ((x22 = 0) → (
  ∃ (x23 : Int), (∀ w' : World, Below w.heap.size w w' → Calls Tryd.prog 25 #[.agg #[.int .i64 x2, .int .i64 x3], .agg #[.int .i64 x0, .int .i64 x1]] w' (Vc.Ret (.int .i64 x23) w')) ∧
  ((x21 = 7) → (
  ∃ (x24 : Int), (∀ w' : World, Below w.heap.size w w' → Calls Tryd.prog 25 #[.agg #[.int .i64 x0, .int .i64 x1], .agg #[.int .i64 x2, .int .i64 x3]] w' (Vc.Ret (.int .i64 x24) w')) ∧
  ∃ (x25 : Int), (∀ w' : World, Below w.heap.size w w' → Calls Tryd.prog 25 #[.agg #[.int .i64 x2, .int .i64 x3], .agg #[.int .i64 x0, .int .i64 x1]] w' (Vc.Ret (.int .i64 x25) w')) ∧
  ∀ x26 : Int, x26 = IntKind.i64.wrap (0 - x25) →
  ((x24 = x26) → (
  ∃ (x27 : Int), (∀ w' : World, Below w.heap.size w w' → Calls Tryd.prog 25 #[.agg #[.int .i64 x0, .int .i64 x1], .agg #[.int .i64 x2, .int .i64 x3]] w' (Vc.Ret (.int .i64 x27) w')) ∧
  ((b0 = true) → (
  (.bool false : Value) = v)) ∧ (¬ (b0 = true) → (
  (.bool false : Value) = v)))) ∧ (¬ (x24 = x26) → (
  ((b0 = true) → (
  (.bool false : Value) = v)) ∧ (¬ (b0 = true) → (
  (.bool false : Value) = v)))))) ∧ (¬ (x21 = 7) → (
  ((b0 = true) → (
  (.bool false : Value) = v)) ∧ (¬ (b0 = true) → (
  (.bool false : Value) = v)))))) ∧ (¬ (x22 = 0) → (
  ((x21 = 7) → (
  ∃ (x23 : Int), (∀ w' : World, Below w.heap.size w w' → Calls Tryd.prog 25 #[.agg #[.int .i64 x0, .int .i64 x1], .agg #[.int .i64 x2, .int .i64 x3]] w' (Vc.Ret (.int .i64 x23) w')) ∧
  ∃ (x24 : Int), (∀ w' : World, Below w.heap.size w w' → Calls Tryd.prog 25 #[.agg #[.int .i64 x2, .int .i64 x3], .agg #[.int .i64 x0, .int .i64 x1]] w' (Vc.Ret (.int .i64 x24) w')) ∧
  ∀ x25 : Int, x25 = IntKind.i64.wrap (0 - x24) →
  ((x23 = x25) → (
  ∃ (x26 : Int), (∀ w' : World, Below w.heap.size w w' → Calls Tryd.prog 25 #[.agg #[.int .i64 x0, .int .i64 x1], .agg #[.int .i64 x2, .int .i64 x3]] w' (Vc.Ret (.int .i64 x26) w')) ∧
  ((b0 = true) → (
  (.bool false : Value) = v)) ∧ (¬ (b0 = true) → (
  (.bool false : Value) = v)))) ∧ (¬ (x23 = x25) → (
  ((b0 = true) → (
  (.bool false : Value) = v)) ∧ (¬ (b0 = true) → (
  (.bool false : Value) = v)))))) ∧ (¬ (x21 = 7) → (
  ((b0 = true) → (
  (.bool false : Value) = v)) ∧ (¬ (b0 = true) → (
  (.bool false : Value) = v)))))))) ∧ (¬ (b2 = true) → (
  ((x21 = 7) → (
  ∃ (x22 : Int), (∀ w' : World, Below w.heap.size w w' → Calls Tryd.prog 25 #[.agg #[.int .i64 x0, .int .i64 x1], .agg #[.int .i64 x2, .int .i64 x3]] w' (Vc.Ret (.int .i64 x22) w')) ∧
  ∃ (x23 : Int), (∀ w' : World, Below w.heap.size w w' → Calls Tryd.prog 25 #[.agg #[.int .i64 x2, .int .i64 x3], .agg #[.int .i64 x0, .int .i64 x1]] w' (Vc.Ret (.int .i64 x23) w')) ∧
  ∀ x24 : Int, x24 = IntKind.i64.wrap (0 - x23) →
  ((x22 = x24) → (
  ∃ (x25 : Int), (∀ w' : World, Below w.heap.size w w' → Calls Tryd.prog 25 #[.agg #[.int .i64 x0, .int .i64 x1], .agg #[.int .i64 x2, .int .i64 x3]] w' (Vc.Ret (.int .i64 x25) w')) ∧
  ((b0 = true) → (
  (.bool false : Value) = v)) ∧ (¬ (b0 = true) → (
  (.bool false : Value) = v)))) ∧ (¬ (x22 = x24) → (
  ((b0 = true) → (
  (.bool false : Value) = v)) ∧ (¬ (b0 = true) → (
  (.bool false : Value) = v)))))) ∧ (¬ (x21 = 7) → (
  ((b0 = true) → (
  (.bool false : Value) = v)) ∧ (¬ (b0 = true) → (
  (.bool false : Value) = v)))))))) ∧ (¬ (b1 = true) → (
  ((x21 = 7) → (
  ∃ (x22 : Int), (∀ w' : World, Below w.heap.size w w' → Calls Tryd.prog 25 #[.agg #[.int .i64 x0, .int .i64 x1], .agg #[.int .i64 x2, .int .i64 x3]] w' (Vc.Ret (.int .i64 x22) w')) ∧
  ∃ (x23 : Int), (∀ w' : World, Below w.heap.size w w' → Calls Tryd.prog 25 #[.agg #[.int .i64 x2, .int .i64 x3], .agg #[.int .i64 x0, .int .i64 x1]] w' (Vc.Ret (.int .i64 x23) w')) ∧
  ∀ x24 : Int, x24 = IntKind.i64.wrap (0 - x23) →
  ((x22 = x24) → (
  ∃ (x25 : Int), (∀ w' : World, Below w.heap.size w w' → Calls Tryd.prog 25 #[.agg #[.int .i64 x0, .int .i64 x1], .agg #[.int .i64 x2, .int .i64 x3]] w' (Vc.Ret (.int .i64 x25) w')) ∧
  ((b0 = true) → (
  (.bool false : Value) = v)) ∧ (¬ (b0 = true) → (
  (.bool false : Value) = v)))) ∧ (¬ (x22 = x24) → (
  ((b0 = true) → (
  (.bool false : Value) = v)) ∧ (¬ (b0 = true) → (
  (.bool false : Value) = v)))))) ∧ (¬ (x21 = 7) → (
  ((b0 = true) → (
  (.bool false : Value) = v)) ∧ (¬ (b0 = true) → (
  (.bool false : Value) = v)))))))) ∧ (¬ (x21 = 0) → (
  ((x21 = 7) → (
  ∃ (x22 : Int), (∀ w' : World, Below w.heap.size w w' → Calls Tryd.prog 25 #[.agg #[.int .i64 x0, .int .i64 x1], .agg #[.int .i64 x2, .int .i64 x3]] w' (Vc.Ret (.int .i64 x22) w')) ∧
  ∃ (x23 : Int), (∀ w' : World, Below w.heap.size w w' → Calls Tryd.prog 25 #[.agg #[.int .i64 x2, .int .i64 x3], .agg #[.int .i64 x0, .int .i64 x1]] w' (Vc.Ret (.int .i64 x23) w')) ∧
  ∀ x24 : Int, x24 = IntKind.i64.wrap (0 - x23) →
  ((x22 = x24) → (
  ∃ (x25 : Int), (∀ w' : World, Below w.heap.size w w' → Calls Tryd.prog 25 #[.agg #[.int .i64 x0, .int .i64 x1], .agg #[.int .i64 x2, .int .i64 x3]] w' (Vc.Ret (.int .i64 x25) w')) ∧
  ((b0 = true) → (
  (.bool false : Value) = v)) ∧ (¬ (b0 = true) → (
  (.bool false : Value) = v)))) ∧ (¬ (x22 = x24) → (
  ((b0 = true) → (
  (.bool false : Value) = v)) ∧ (¬ (b0 = true) → (
  (.bool false : Value) = v)))))) ∧ (¬ (x21 = 7) → (
  ((b0 = true) → (
  (.bool false : Value) = v)) ∧ (¬ (b0 = true) → (
  (.bool false : Value) = v)))))))))) ∧ (¬ (x10 = 0) → (
  ((x21 = 0) → (
  ∃ (b1 : Bool), (∀ w' : World, Below w.heap.size w w' → Calls Tryd.prog 24 #[.agg #[.int .i64 x19, .int .i64 x20], .agg #[.int .i64 x0, .int .i64 x1]] w' (Vc.Ret (.bool b1) w')) ∧
  ((b1 = true) → (
  ∃ (b2 : Bool), (∀ w' : World, Below w.heap.size w w' → Calls Tryd.prog 24 #[.agg #[.int .i64 x19, .int .i64 x20], .agg #[.int .i64 x2, .int .i64 x3]] w' (Vc.Ret (.bool b2) w')) ∧
  ((b2 = true) → (
  ∃ (x22 : Int), (∀ w' : World, Below w.heap.size w w' → Calls Tryd.prog 25 #[.agg #[.int .i64 x0, .int .i64 x1], .agg #[.int .i64 x2, .int .i64 x3]] w' (Vc.Ret (.int .i64 x22) w')) ∧
  ((x22 = 0) → (
  ∃ (x23 : Int), (∀ w' : World, Below w.heap.size w w' → Calls Tryd.prog 25 #[.agg #[.int .i64 x2, .int .i64 x3], .agg #[.int .i64 x0, .int .i64 x1]] w' (Vc.Ret (.int .i64 x23) w')) ∧
  ((x21 = 7) → (
  ∃ (x24 : Int), (∀ w' : World, Below w.heap.size w w' → Calls Tryd.prog 25 #[.agg #[.int .i64 x0, .int .i64 x1], .agg #[.int .i64 x2, .int .i64 x3]] w' (Vc.Ret (.int .i64 x24) w')) ∧
  ∃ (x25 : Int), (∀ w' : World, Below w.heap.size w w' → Calls Tryd.prog 25 #[.agg #[.int .i64 x2, .int .i64 x3], .agg #[.int .i64 x0, .int .i64 x1]] w' (Vc.Ret (.int .i64 x25) w')) ∧
  ∀ x26 : Int, x26 = IntKind.i64.wrap (0 - x25) →
  ((x24 = x26) → (
  ∃ (x27 : Int), (∀ w' : World, Below w.heap.size w w' → Calls Tryd.prog 25 #[.agg #[.int .i64 x0, .int .i64 x1], .agg #[.int .i64 x2, .int .i64 x3]] w' (Vc.Ret (.int .i64 x27) w')) ∧
  ((b0 = true) → (
  (.bool false : Value) = v)) ∧ (¬ (b0 = true) → (
  (.bool false : Value) = v)))) ∧ (¬ (x24 = x26) → (
  ((b0 = true) → (
  (.bool false : Value) = v)) ∧ (¬ (b0 = true) → (
  (.bool false : Value) = v)))))) ∧ (¬ (x21 = 7) → (
  ((b0 = true) → (
  (.bool false : Value) = v)) ∧ (¬ (b0 = true) → (
  (.bool false : Value) = v)))))) ∧ (¬ (x22 = 0) → (
  ((x21 = 7) → (
  ∃ (x23 : Int), (∀ w' : World, Below w.heap.size w w' → Calls Tryd.prog 25 #[.agg #[.int .i64 x0, .int .i64 x1], .agg #[.int .i64 x2, .int .i64 x3]] w' (Vc.Ret (.int .i64 x23) w')) ∧
  ∃ (x24 : Int), (∀ w' : World, Below w.heap.size w w' → Calls Tryd.prog 25 #[.agg #[.int .i64 x2, .int .i64 x3], .agg #[.int .i64 x0, .int .i64 x1]] w' (Vc.Ret (.int .i64 x24) w')) ∧
  ∀ x25 : Int, x25 = IntKind.i64.wrap (0 - x24) →
  ((x23 = x25) → (
  ∃ (x26 : Int), (∀ w' : World, Below w.heap.size w w' → Calls Tryd.prog 25 #[.agg #[.int .i64 x0, .int .i64 x1], .agg #[.int .i64 x2, .int .i64 x3]] w' (Vc.Ret (.int .i64 x26) w')) ∧
  ((b0 = true) → (
  (.bool false : Value) = v)) ∧ (¬ (b0 = true) → (
  (.bool false : Value) = v)))) ∧ (¬ (x23 = x25) → (
  ((b0 = true) → (
  (.bool false : Value) = v)) ∧ (¬ (b0 = true) → (
  (.bool false : Value) = v)))))) ∧ (¬ (x21 = 7) → (
  ((b0 = true) → (
  (.bool false : Value) = v)) ∧ (¬ (b0 = true) → (
  (.bool false : Value) = v)))))))) ∧ (¬ (b2 = true) → (
  ((x21 = 7) → (
  ∃ (x22 : Int), (∀ w' : World, Below w.heap.size w w' → Calls Tryd.prog 25 #[.agg #[.int .i64 x0, .int .i64 x1], .agg #[.int .i64 x2, .int .i64 x3]] w' (Vc.Ret (.int .i64 x22) w')) ∧
  ∃ (x23 : Int), (∀ w' : World, Below w.heap.size w w' → Calls Tryd.prog 25 #[.agg #[.int .i64 x2, .int .i64 x3], .agg #[.int .i64 x0, .int .i64 x1]] w' (Vc.Ret (.int .i64 x23) w')) ∧
  ∀ x24 : Int, x24 = IntKind.i64.wrap (0 - x23) →
  ((x22 = x24) → (
  ∃ (x25 : Int), (∀ w' : World, Below w.heap.size w w' → Calls Tryd.prog 25 #[.agg #[.int .i64 x0, .int .i64 x1], .agg #[.int .i64 x2, .int .i64 x3]] w' (Vc.Ret (.int .i64 x25) w')) ∧
  ((b0 = true) → (
  (.bool false : Value) = v)) ∧ (¬ (b0 = true) → (
  (.bool false : Value) = v)))) ∧ (¬ (x22 = x24) → (
  ((b0 = true) → (
  (.bool false : Value) = v)) ∧ (¬ (b0 = true) → (
  (.bool false : Value) = v)))))) ∧ (¬ (x21 = 7) → (
  ((b0 = true) → (
  (.bool false : Value) = v)) ∧ (¬ (b0 = true) → (
  (.bool false : Value) = v)))))))) ∧ (¬ (b1 = true) → (
  ((x21 = 7) → (
  ∃ (x22 : Int), (∀ w' : World, Below w.heap.size w w' → Calls Tryd.prog 25 #[.agg #[.int .i64 x0, .int .i64 x1], .agg #[.int .i64 x2, .int .i64 x3]] w' (Vc.Ret (.int .i64 x22) w')) ∧
  ∃ (x23 : Int), (∀ w' : World, Below w.heap.size w w' → Calls Tryd.prog 25 #[.agg #[.int .i64 x2, .int .i64 x3], .agg #[.int .i64 x0, .int .i64 x1]] w' (Vc.Ret (.int .i64 x23) w')) ∧
  ∀ x24 : Int, x24 = IntKind.i64.wrap (0 - x23) →
  ((x22 = x24) → (
  ∃ (x25 : Int), (∀ w' : World, Below w.heap.size w w' → Calls Tryd.prog 25 #[.agg #[.int .i64 x0, .int .i64 x1], .agg #[.int .i64 x2, .int .i64 x3]] w' (Vc.Ret (.int .i64 x25) w')) ∧
  ((b0 = true) → (
  (.bool false : Value) = v)) ∧ (¬ (b0 = true) → (
  (.bool false : Value) = v)))) ∧ (¬ (x22 = x24) → (
  ((b0 = true) → (
  (.bool false : Value) = v)) ∧ (¬ (b0 = true) → (
  (.bool false : Value) = v)))))) ∧ (¬ (x21 = 7) → (
  ((b0 = true) → (
  (.bool false : Value) = v)) ∧ (¬ (b0 = true) → (
  (.bool false : Value) = v)))))))) ∧ (¬ (x21 = 0) → (
  ((x21 = 7) → (
  ∃ (x22 : Int), (∀ w' : World, Below w.heap.size w w' → Calls Tryd.prog 25 #[.agg #[.int .i64 x0, .int .i64 x1], .agg #[.int .i64 x2, .int .i64 x3]] w' (Vc.Ret (.int .i64 x22) w')) ∧
  ∃ (x23 : Int), (∀ w' : World, Below w.heap.size w w' → Calls Tryd.prog 25 #[.agg #[.int .i64 x2, .int .i64 x3], .agg #[.int .i64 x0, .int .i64 x1]] w' (Vc.Ret (.int .i64 x23) w')) ∧
  ∀ x24 : Int, x24 = IntKind.i64.wrap (0 - x23) →
  ((x22 = x24) → (
  ∃ (x25 : Int), (∀ w' : World, Below w.heap.size w w' → Calls Tryd.prog 25 #[.agg #[.int .i64 x0, .int .i64 x1], .agg #[.int .i64 x2, .int .i64 x3]] w' (Vc.Ret (.int .i64 x25) w')) ∧
  ((b0 = true) → (
  (.bool false : Value) = v)) ∧ (¬ (b0 = true) → (
  (.bool false : Value) = v)))) ∧ (¬ (x22 = x24) → (
  ((b0 = true) → (
  (.bool false : Value) = v)) ∧ (¬ (b0 = true) → (
  (.bool false : Value) = v)))))) ∧ (¬ (x21 = 7) → (
  ((b0 = true) → (
  (.bool false : Value) = v)) ∧ (¬ (b0 = true) → (
  (.bool false : Value) = v)))))))))) ∧ (¬ (b0 = true) → (
  (.bool b0 : Value) = v)))) ∧ (¬ (x5 = 0) → (
  (.bool b0 : Value) = v)))) ∧ (¬ (x4 = 0) → (
  (.bool b0 : Value) = v))) : Calls Tryd.prog 4 #[.agg #[.int .i64 x0, .int .i64 x1], .agg #[.int .i64 x2, .int .i64 x3]] w (Vc.Ret v w) :=
  Vc.pure_of base [] 200 Tryd.func4 (b := (Tryd.f4.body).getD .skip) (by kernel_rfl) [.cv (.agg [.int .i64 (.var 0), .int .i64 (.var 1)]), .cv (.agg [.int .i64 (.var 2), .int .i64 (.var 3)])] ⟨4, 0, 0, 0, 0, 0, 0⟩ (Vc.envOf [x0, x1, x2, x3] [] [] []) (by kernel_rfl) (by kernel_rfl) (by kernel_rfl) h

end Go.Proofs.YtndeppnboolfiaaDoor
