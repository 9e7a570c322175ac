/- What the walks of functions come to (written by program). -/
import Derived.Test.YtpjajgeajncdgaaFkG1
set_option linter.unusedVariables false
set_option maxRecDepth 100000
namespace Go.Proofs.Ytpjajgeajncdgaa
open Go Go.RowKit
theorem vc_safety_within (x0 x1 x2 : Int) (w : World) (v : Value) (h : 
  ((x1 ≤ x0) → (
  (.bool (decide (x0 ≤ x2)) : Value) = v)) ∧ (¬ (x1 ≤ x0) → (
  (.bool false : Value) = v))) : Calls Try.prog 22 #[.int .i64 x0, .int .i64 x1, .int .i64 x2] w (Vc.Ret v w) :=
  Vc.pure_of base [] 200 Try.func22 (b := (Try.f22.body).getD .skip) (by kernel_rfl) [.cv (.one (.int .i64 (.var 0))), .cv (.one (.int .i64 (.var 1))), .cv (.one (.int .i64 (.var 2)))] ⟨3, 0, 0, 0, 0, 0, 0⟩ (Vc.envOf [x0, x1, x2] [] [] []) (by kernel_rfl) (by kernel_rfl) (by kernel_rfl) h

theorem vc_safety_left (x0 x1 x2 x3 x4 x5 : Int) (w : World) (v : Value) (h : 
  ∀ x6 : Int, x6 = IntKind.i64.wrap (x2 - x0) →
  ∀ x7 : Int, x7 = IntKind.i64.wrap (x5 - x1) →
  ∀ x8 : Int, x8 = IntKind.i64.wrap (x6 * x7) →
  ∀ x9 : Int, x9 = IntKind.i64.wrap (x3 - x1) →
  ∀ x10 : Int, x10 = IntKind.i64.wrap (x4 - x0) →
  ∀ x11 : Int, x11 = IntKind.i64.wrap (x9 * x10) →
  ∀ x12 : Int, x12 = IntKind.i64.wrap (x8 - x11) →
  (.int .i64 x12 : Value) = v) : Calls Try.prog 41 #[.agg #[.int .i64 x0, .int .i64 x1], .agg #[.int .i64 x2, .int .i64 x3], .agg #[.int .i64 x4, .int .i64 x5]] w (Vc.Ret v w) :=
  Vc.pure_of base [] 200 Try.func41 (b := (Try.f41.body).getD .skip) (by kernel_rfl) [.cv (.agg [.int .i64 (.var 0), .int .i64 (.var 1)]), .cv (.agg [.int .i64 (.var 2), .int .i64 (.var 3)]), .cv (.agg [.int .i64 (.var 4), .int .i64 (.var 5)])] ⟨6, 0, 0, 0, 0, 0, 0⟩ (Vc.envOf [x0, x1, x2, x3, x4, x5] [] [] []) (by kernel_rfl) (by kernel_rfl) (by kernel_rfl) h

theorem vc_safety_size (x0 : Int) (w : World) (v : Value) (h : 
  ∀ x1 : Int, x1 = IntKind.i64.wrap (0 - x0) →
  ∀ x2 : Int, x2 = (if x1 > x0 then x1 else x0) →
  (.int .i64 x2 : Value) = v) : Calls Try.prog 48 #[.int .i64 x0] w (Vc.Ret v w) :=
  Vc.pure_of base [] 200 Try.func48 (b := (Try.f48.body).getD .skip) (by kernel_rfl) [.cv (.one (.int .i64 (.var 0)))] ⟨1, 0, 0, 0, 0, 0, 0⟩ (Vc.envOf [x0] [] [] []) (by kernel_rfl) (by kernel_rfl) (by kernel_rfl) h

theorem vc_safety_checkRect (x0 x1 x2 x3 : Int) (w : World) (v : Value) (h : 
  ∃ (b0 : Bool), (∀ w' : World, Below w.heap.size w w' → Calls Try.prog 22 #[.int .i64 x0, .int .i64 (-536870912), .int .i64 x2] w' (Vc.Ret (.bool b0) w')) ∧
  ((b0 = true) → (
  ((x2 ≤ 536870912) → (
  ∃ (b1 : Bool), (∀ w' : World, Below w.heap.size w w' → Calls Try.prog 22 #[.int .i64 x1, .int .i64 (-536870912), .int .i64 x3] w' (Vc.Ret (.bool b1) w')) ∧
  ((b1 = true) → (
  (.bool (decide (x3 ≤ 536870912)) : Value) = v)) ∧ (¬ (b1 = true) → (
  (.bool false : Value) = v)))) ∧ (¬ (x2 ≤ 536870912) → (
  (.bool false : Value) = v)))) ∧ (¬ (b0 = true) → (
  (.bool false : Value) = v))) : Calls Try.prog 19 #[.agg #[.int .i64 x0, .int .i64 x1, .int .i64 x2, .int .i64 x3]] w (Vc.Ret v w) :=
  Vc.pure_of base [] 200 Try.func19 (b := (Try.f19.body).getD .skip) (by kernel_rfl) [.cv (.agg [.int .i64 (.var 0), .int .i64 (.var 1), .int .i64 (.var 2), .int .i64 (.var 3)])] ⟨4, 0, 0, 0, 0, 0, 0⟩ (Vc.envOf [x0, x1, x2, x3] [] [] []) (by kernel_rfl) (by kernel_rfl) (by kernel_rfl) h

theorem vc_safety_grown (x0 x1 x2 x3 x4 : Int) (w : World) (v : Value) (h : 
  ∀ x5 : Int, x5 = IntKind.i64.wrap (x0 - x4) →
  ∀ x6 : Int, x6 = IntKind.i64.wrap (x1 - x4) →
  ∀ x7 : Int, x7 = IntKind.i64.wrap (x2 + x4) →
  ∀ x8 : Int, x8 = IntKind.i64.wrap (x3 + x4) →
  (.agg #[.int .i64 x5, .int .i64 x6, .int .i64 x7, .int .i64 x8] : Value) = v) : Calls Try.prog 25 #[.agg #[.int .i64 x0, .int .i64 x1, .int .i64 x2, .int .i64 x3], .int .i64 x4] w (Vc.Ret v w) :=
  Vc.pure_of base [] 200 Try.func25 (b := (Try.f25.body).getD .skip) (by kernel_rfl) [.cv (.agg [.int .i64 (.var 0), .int .i64 (.var 1), .int .i64 (.var 2), .int .i64 (.var 3)]), .cv (.one (.int .i64 (.var 4)))] ⟨5, 0, 0, 0, 0, 0, 0⟩ (Vc.envOf [x0, x1, x2, x3, x4] [] [] []) (by kernel_rfl) (by kernel_rfl) (by kernel_rfl) h

theorem vc_safety_CheckZone_3 (x0 x1 x2 x3 : Int) (w : World) (v : Value) (h : 
  ((x1 < x3) → (
  (.bool true : Value) = v)) ∧ (¬ (x1 < x3) → (
  ((x3 = x1) → (
  (.bool (decide (x2 > x0)) : Value) = v)) ∧ (¬ (x3 = x1) → (
  (.bool false : Value) = v))))) : Calls Try.prog 39 #[.agg #[.int .i64 x0, .int .i64 x1], .agg #[.int .i64 x2, .int .i64 x3]] w (Vc.Ret v w) :=
  Vc.pure_of base [] 200 Try.func39 (b := (Try.f39.body).getD .skip) (by kernel_rfl) [.cv (.agg [.int .i64 (.var 0), .int .i64 (.var 1)]), .cv (.agg [.int .i64 (.var 2), .int .i64 (.var 3)])] ⟨4, 0, 0, 0, 0, 0, 0⟩ (Vc.envOf [x0, x1, x2, x3] [] [] []) (by kernel_rfl) (by kernel_rfl) (by kernel_rfl) h

theorem vc_safety_CheckZone (p0 : Nat × Nat) (x0 x1 : Int) (b0 : Bool) (s0 : List UInt8) (w : World) (v : Value) (h : 
  ∀ x2 : Int, x2 = ((s0.length : Nat) : Int) →
  ((1 ≤ x2) → (
  ((x2 ≤ 32) → (
  (0 ≤ x0) ∧
  ((¬ (b0 = true)) ∨ (x0 = 0)) ∧
  ((3 ≤ x0) → (
  ((x0 ≤ 16) → (
  (0 ≤ x0) ∧
  ((¬ (b0 = true)) ∨ (x0 = 0)) ∧
  ∃ (Ix3 : List Vc.Vl → Prop) (mx3 : List Vc.Vl → Nat), Ix3 [.i 0, .i 0] ∧ ∀ (x3 : Int) (x4 : Int), Ix3 [.i x3, .i x4] → (
  ((x4 < x0) → (
  (¬ (b0 = true)) ∧
  (0 ≤ x4) ∧
  (x4 < x0) ∧
  ∃ (x5 : Int), w.cell? ⟨p0.1, p0.2 + (Int.toNat x4) * 2 + 0, none⟩ = some (.int .i64 x5) ∧
  ∃ (x6 : Int), w.cell? ⟨p0.1, p0.2 + (Int.toNat x4) * 2 + 1, none⟩ = some (.int .i64 x6) ∧
  (((-268435456) ≤ x5) → (
  ((x5 ≤ 268435456) → (
  (((-268435456) ≤ x6) → (
  ((x6 ≤ 268435456) → (
  ∀ x7 : Int, x7 = IntKind.i64.wrap (x4 + 1) →
  Ix3 [.i x3, .i x7] ∧ mx3 [.i x3, .i x7] < mx3 [.i x3, .i x4])) ∧ (¬ (x6 ≤ 268435456) → (
  ((0 ≤ x4) → (
  (.bool false : Value) = v)) ∧ (¬ (0 ≤ x4) → (
  (0 ≤ x0) ∧
  ((¬ (b0 = true)) ∨ (x0 = 0)) ∧
  ∀ x7 : Int, x7 = IntKind.i64.wrap (x0 - 1) →
  (¬ (b0 = true)) ∧
  (0 ≤ x7) ∧
  (x7 < x0) ∧
  ∃ (x8 : Int), w.cell? ⟨p0.1, p0.2 + (Int.toNat x7) * 2 + 0, none⟩ = some (.int .i64 x8) ∧
  ∃ (x9 : Int), w.cell? ⟨p0.1, p0.2 + (Int.toNat x7) * 2 + 1, none⟩ = some (.int .i64 x9) ∧
  (0 ≤ x0) ∧
  ((¬ (b0 = true)) ∨ (x0 = 0)) ∧
  ∃ (Ix10 : List Vc.Vl → Prop) (mx10 : List Vc.Vl → Nat), Ix10 [.i 0, .i x8, .i x9, .i 0] ∧ ∀ (x10 : Int) (x11 : Int) (x12 : Int) (x13 : Int), Ix10 [.i x10, .i x11, .i x12, .i x13] → (
  ((x10 < x0) → (
  (¬ (b0 = true)) ∧
  (0 ≤ x10) ∧
  (x10 < x0) ∧
  ∃ (x14 : Int), w.cell? ⟨p0.1, p0.2 + (Int.toNat x10) * 2 + 0, none⟩ = some (.int .i64 x14) ∧
  ∃ (x15 : Int), w.cell? ⟨p0.1, p0.2 + (Int.toNat x10) * 2 + 1, none⟩ = some (.int .i64 x15) ∧
  ∀ x16 : Int, x16 = IntKind.i64.wrap (x10 + 1) →
  (0 ≤ x0) ∧
  ((¬ (b0 = true)) ∨ (x0 = 0)) ∧
  (x0 ≠ 0) ∧
  ∀ x17 : Int, x17 = Int.tmod x16 x0 →
  (¬ (b0 = true)) ∧
  (0 ≤ x17) ∧
  (x17 < x0) ∧
  ∃ (x18 : Int), w.cell? ⟨p0.1, p0.2 + (Int.toNat x17) * 2 + 0, none⟩ = some (.int .i64 x18) ∧
  ∃ (x19 : Int), w.cell? ⟨p0.1, p0.2 + (Int.toNat x17) * 2 + 1, none⟩ = some (.int .i64 x19) ∧
  ∃ (x20 : Int), (∀ w' : World, Below w.heap.size w w' → Calls Try.prog 41 #[.agg #[.int .i64 x11, .int .i64 x12], .agg #[.int .i64 x14, .int .i64 x15], .agg #[.int .i64 x18, .int .i64 x19]] w' (Vc.Ret (.int .i64 x20) w')) ∧
  ((x20 ≤ 0) → (
  (.bool false : Value) = v)) ∧ (¬ (x20 ≤ 0) → (
  ∃ (b1 : Bool), (∀ w' : World, Below w.heap.size w w' → Calls Try.prog 39 #[.agg #[.int .i64 x11, .int .i64 x12], .agg #[.int .i64 x14, .int .i64 x15]] w' (Vc.Ret (.bool b1) w')) ∧
  ((x15 < x19) → (
  ((b1 = true) → (
  ∀ x21 : Int, x21 = IntKind.i64.wrap (x10 + 1) →
  Ix10 [.i x21, .i x14, .i x15, .i x13] ∧ mx10 [.i x21, .i x14, .i x15, .i x13] < mx10 [.i x10, .i x11, .i x12, .i x13])) ∧ (¬ (b1 = true) → (
  ∀ x21 : Int, x21 = IntKind.i64.wrap (x13 + 1) →
  ∀ x22 : Int, x22 = IntKind.i64.wrap (x10 + 1) →
  Ix10 [.i x22, .i x14, .i x15, .i x21] ∧ mx10 [.i x22, .i x14, .i x15, .i x21] < mx10 [.i x10, .i x11, .i x12, .i x13])))) ∧ (¬ (x15 < x19) → (
  ((x19 = x15) → (
  ((((b1 = true) ↔ (x14 < x18))) → (
  ∀ x21 : Int, x21 = IntKind.i64.wrap (x10 + 1) →
  Ix10 [.i x21, .i x14, .i x15, .i x13] ∧ mx10 [.i x21, .i x14, .i x15, .i x13] < mx10 [.i x10, .i x11, .i x12, .i x13])) ∧ (¬ (((b1 = true) ↔ (x14 < x18))) → (
  ∀ x21 : Int, x21 = IntKind.i64.wrap (x13 + 1) →
  ∀ x22 : Int, x22 = IntKind.i64.wrap (x10 + 1) →
  Ix10 [.i x22, .i x14, .i x15, .i x21] ∧ mx10 [.i x22, .i x14, .i x15, .i x21] < mx10 [.i x10, .i x11, .i x12, .i x13])))) ∧ (¬ (x19 = x15) → (
  ((b1 = true) → (
  ∀ x21 : Int, x21 = IntKind.i64.wrap (x13 + 1) →
  ∀ x22 : Int, x22 = IntKind.i64.wrap (x10 + 1) →
  Ix10 [.i x22, .i x14, .i x15, .i x21] ∧ mx10 [.i x22, .i x14, .i x15, .i x21] < mx10 [.i x10, .i x11, .i x12, .i x13])) ∧ (¬ (b1 = true) → (
  ∀ x21 : Int, x21 = IntKind.i64.wrap (x10 + 1) →
  Ix10 [.i x21, .i x14, .i x15, .i x13] ∧ mx10 [.i x21, .i x14, .i x15, .i x13] < mx10 [.i x10, .i x11, .i x12, .i x13])))))))))) ∧ (¬ (x10 < x0) → (
  (.bool (x13 == 2) : Value) = v))))))))) ∧ (¬ ((-268435456) ≤ x6) → (
  ((0 ≤ x4) → (
  (.bool false : Value) = v)) ∧ (¬ (0 ≤ x4) → (
  (0 ≤ x0) ∧
  ((¬ (b0 = true)) ∨ (x0 = 0)) ∧
  ∀ x7 : Int, x7 = IntKind.i64.wrap (x0 - 1) →
  (¬ (b0 = true)) ∧
  (0 ≤ x7) ∧
  (x7 < x0) ∧
  ∃ (x8 : Int), w.cell? ⟨p0.1, p0.2 + (Int.toNat x7) * 2 + 0, none⟩ = some (.int .i64 x8) ∧
  ∃ (x9 : Int), w.cell? ⟨p0.1, p0.2 + (Int.toNat x7) * 2 + 1, none⟩ = some (.int .i64 x9) ∧
  (0 ≤ x0) ∧
  ((¬ (b0 = true)) ∨ (x0 = 0)) ∧
  ∃ (Ix10 : List Vc.Vl → Prop) (mx10 : List Vc.Vl → Nat), Ix10 [.i 0, .i x8, .i x9, .i 0] ∧ ∀ (x10 : Int) (x11 : Int) (x12 : Int) (x13 : Int), Ix10 [.i x10, .i x11, .i x12, .i x13] → (
  ((x10 < x0) → (
  (¬ (b0 = true)) ∧
  (0 ≤ x10) ∧
  (x10 < x0) ∧
  ∃ (x14 : Int), w.cell? ⟨p0.1, p0.2 + (Int.toNat x10) * 2 + 0, none⟩ = some (.int .i64 x14) ∧
  ∃ (x15 : Int), w.cell? ⟨p0.1, p0.2 + (Int.toNat x10) * 2 + 1, none⟩ = some (.int .i64 x15) ∧
  ∀ x16 : Int, x16 = IntKind.i64.wrap (x10 + 1) →
  (0 ≤ x0) ∧
  ((¬ (b0 = true)) ∨ (x0 = 0)) ∧
  (x0 ≠ 0) ∧
  ∀ x17 : Int, x17 = Int.tmod x16 x0 →
  (¬ (b0 = true)) ∧
  (0 ≤ x17) ∧
  (x17 < x0) ∧
  ∃ (x18 : Int), w.cell? ⟨p0.1, p0.2 + (Int.toNat x17) * 2 + 0, none⟩ = some (.int .i64 x18) ∧
  ∃ (x19 : Int), w.cell? ⟨p0.1, p0.2 + (Int.toNat x17) * 2 + 1, none⟩ = some (.int .i64 x19) ∧
  ∃ (x20 : Int), (∀ w' : World, Below w.heap.size w w' → Calls Try.prog 41 #[.agg #[.int .i64 x11, .int .i64 x12], .agg #[.int .i64 x14, .int .i64 x15], .agg #[.int .i64 x18, .int .i64 x19]] w' (Vc.Ret (.int .i64 x20) w')) ∧
  ((x20 ≤ 0) → (
  (.bool false : Value) = v)) ∧ (¬ (x20 ≤ 0) → (
  ∃ (b1 : Bool), (∀ w' : World, Below w.heap.size w w' → Calls Try.prog 39 #[.agg #[.int .i64 x11, .int .i64 x12], .agg #[.int .i64 x14, .int .i64 x15]] w' (Vc.Ret (.bool b1) w')) ∧
  ((x15 < x19) → (
  ((b1 = true) → (
  ∀ x21 : Int, x21 = IntKind.i64.wrap (x10 + 1) →
  Ix10 [.i x21, .i x14, .i x15, .i x13] ∧ mx10 [.i x21, .i x14, .i x15, .i x13] < mx10 [.i x10, .i x11, .i x12, .i x13])) ∧ (¬ (b1 = true) → (
  ∀ x21 : Int, x21 = IntKind.i64.wrap (x13 + 1) →
  ∀ x22 : Int, x22 = IntKind.i64.wrap (x10 + 1) →
  Ix10 [.i x22, .i x14, .i x15, .i x21] ∧ mx10 [.i x22, .i x14, .i x15, .i x21] < mx10 [.i x10, .i x11, .i x12, .i x13])))) ∧ (¬ (x15 < x19) → (
  ((x19 = x15) → (
  ((((b1 = true) ↔ (x14 < x18))) → (
  ∀ x21 : Int, x21 = IntKind.i64.wrap (x10 + 1) →
  Ix10 [.i x21, .i x14, .i x15, .i x13] ∧ mx10 [.i x21, .i x14, .i x15, .i x13] < mx10 [.i x10, .i x11, .i x12, .i x13])) ∧ (¬ (((b1 = true) ↔ (x14 < x18))) → (
  ∀ x21 : Int, x21 = IntKind.i64.wrap (x13 + 1) →
  ∀ x22 : Int, x22 = IntKind.i64.wrap (x10 + 1) →
  Ix10 [.i x22, .i x14, .i x15, .i x21] ∧ mx10 [.i x22, .i x14, .i x15, .i x21] < mx10 [.i x10, .i x11, .i x12, .i x13])))) ∧ (¬ (x19 = x15) → (
  ((b1 = true) → (
  ∀ x21 : Int, x21 = IntKind.i64.wrap (x13 + 1) →
  ∀ x22 : Int, x22 = IntKind.i64.wrap (x10 + 1) →
  Ix10 [.i x22, .i x14, .i x15, .i x21] ∧ mx10 [.i x22, .i x14, .i x15, .i x21] < mx10 [.i x10, .i x11, .i x12, .i x13])) ∧ (¬ (b1 = true) → (
  ∀ x21 : Int, x21 = IntKind.i64.wrap (x10 + 1) →
  Ix10 [.i x21, .i x14, .i x15, .i x13] ∧ mx10 [.i x21, .i x14, .i x15, .i x13] < mx10 [.i x10, .i x11, .i x12, .i x13])))))))))) ∧ (¬ (x10 < x0) → (
  (.bool (x13 == 2) : Value) = v))))))))) ∧ (¬ (x5 ≤ 268435456) → (
  ((0 ≤ x4) → (
  (.bool false : Value) = v)) ∧ (¬ (0 ≤ x4) → (
  (0 ≤ x0) ∧
  ((¬ (b0 = true)) ∨ (x0 = 0)) ∧
  ∀ x7 : Int, x7 = IntKind.i64.wrap (x0 - 1) →
  (¬ (b0 = true)) ∧
  (0 ≤ x7) ∧
  (x7 < x0) ∧
  ∃ (x8 : Int), w.cell? ⟨p0.1, p0.2 + (Int.toNat x7) * 2 + 0, none⟩ = some (.int .i64 x8) ∧
  ∃ (x9 : Int), w.cell? ⟨p0.1, p0.2 + (Int.toNat x7) * 2 + 1, none⟩ = some (.int .i64 x9) ∧
  (0 ≤ x0) ∧
  ((¬ (b0 = true)) ∨ (x0 = 0)) ∧
  ∃ (Ix10 : List Vc.Vl → Prop) (mx10 : List Vc.Vl → Nat), Ix10 [.i 0, .i x8, .i x9, .i 0] ∧ ∀ (x10 : Int) (x11 : Int) (x12 : Int) (x13 : Int), Ix10 [.i x10, .i x11, .i x12, .i x13] → (
  ((x10 < x0) → (
  (¬ (b0 = true)) ∧
  (0 ≤ x10) ∧
  (x10 < x0) ∧
  ∃ (x14 : Int), w.cell? ⟨p0.1, p0.2 + (Int.toNat x10) * 2 + 0, none⟩ = some (.int .i64 x14) ∧
  ∃ (x15 : Int), w.cell? ⟨p0.1, p0.2 + (Int.toNat x10) * 2 + 1, none⟩ = some (.int .i64 x15) ∧
  ∀ x16 : Int, x16 = IntKind.i64.wrap (x10 + 1) →
  (0 ≤ x0) ∧
  ((¬ (b0 = true)) ∨ (x0 = 0)) ∧
  (x0 ≠ 0) ∧
  ∀ x17 : Int, x17 = Int.tmod x16 x0 →
  (¬ (b0 = true)) ∧
  (0 ≤ x17) ∧
  (x17 < x0) ∧
  ∃ (x18 : Int), w.cell? ⟨p0.1, p0.2 + (Int.toNat x17) * 2 + 0, none⟩ = some (.int .i64 x18) ∧
  ∃ (x19 : Int), w.cell? ⟨p0.1, p0.2 + (Int.toNat x17) * 2 + 1, none⟩ = some (.int .i64 x19) ∧
  ∃ (x20 : Int), (∀ w' : World, Below w.heap.size w w' → Calls Try.prog 41 #[.agg #[.int .i64 x11, .int .i64 x12], .agg #[.int .i64 x14, .int .i64 x15], .agg #[.int .i64 x18, .int .i64 x19]] w' (Vc.Ret (.int .i64 x20) w')) ∧
  ((x20 ≤ 0) → (
  (.bool false : Value) = v)) ∧ (¬ (x20 ≤ 0) → (
  ∃ (b1 : Bool), (∀ w' : World, Below w.heap.size w w' → Calls Try.prog 39 #[.agg #[.int .i64 x11, .int .i64 x12], .agg #[.int .i64 x14, .int .i64 x15]] w' (Vc.Ret (.bool b1) w')) ∧
  ((x15 < x19) → (
  ((b1 = true) → (
  ∀ x21 : Int, x21 = IntKind.i64.wrap (x10 + 1) →
  Ix10 [.i x21, .i x14, .i x15, .i x13] ∧ mx10 [.i x21, .i x14, .i x15, .i x13] < mx10 [.i x10, .i x11, .i x12, .i x13])) ∧ (¬ (b1 = true) → (
  ∀ x21 : Int, x21 = IntKind.i64.wrap (x13 + 1) →
  ∀ x22 : Int, x22 = IntKind.i64.wrap (x10 + 1) →
  Ix10 [.i x22, .i x14, .i x15, .i x21] ∧ mx10 [.i x22, .i x14, .i x15, .i x21] < mx10 [.i x10, .i x11, .i x12, .i x13])))) ∧ (¬ (x15 < x19) → (
  ((x19 = x15) → (
  ((((b1 = true) ↔ (x14 < x18))) → (
  ∀ x21 : Int, x21 = IntKind.i64.wrap (x10 + 1) →
  Ix10 [.i x21, .i x14, .i x15, .i x13] ∧ mx10 [.i x21, .i x14, .i x15, .i x13] < mx10 [.i x10, .i x11, .i x12, .i x13])) ∧ (¬ (((b1 = true) ↔ (x14 < x18))) → (
  ∀ x21 : Int, x21 = IntKind.i64.wrap (x13 + 1) →
  ∀ x22 : Int, x22 = IntKind.i64.wrap (x10 + 1) →
  Ix10 [.i x22, .i x14, .i x15, .i x21] ∧ mx10 [.i x22, .i x14, .i x15, .i x21] < mx10 [.i x10, .i x11, .i x12, .i x13])))) ∧ (¬ (x19 = x15) → (
  ((b1 = true) → (
  ∀ x21 : Int, x21 = IntKind.i64.wrap (x13 + 1) →
  ∀ x22 : Int, x22 = IntKind.i64.wrap (x10 + 1) →
  Ix10 [.i x22, .i x14, .i x15, .i x21] ∧ mx10 [.i x22, .i x14, .i x15, .i x21] < mx10 [.i x10, .i x11, .i x12, .i x13])) ∧ (¬ (b1 = true) → (
  ∀ x21 : Int, x21 = IntKind.i64.wrap (x10 + 1) →
  Ix10 [.i x21, .i x14, .i x15, .i x13] ∧ mx10 [.i x21, .i x14, .i x15, .i x13] < mx10 [.i x10, .i x11, .i x12, .i x13])))))))))) ∧ (¬ (x10 < x0) → (
  (.bool (x13 == 2) : Value) = v))))))))) ∧ (¬ ((-268435456) ≤ x5) → (
  ((0 ≤ x4) → (
  (.bool false : Value) = v)) ∧ (¬ (0 ≤ x4) → (
  (0 ≤ x0) ∧
  ((¬ (b0 = true)) ∨ (x0 = 0)) ∧
  ∀ x7 : Int, x7 = IntKind.i64.wrap (x0 - 1) →
  (¬ (b0 = true)) ∧
  (0 ≤ x7) ∧
  (x7 < x0) ∧
  ∃ (x8 : Int), w.cell? ⟨p0.1, p0.2 + (Int.toNat x7) * 2 + 0, none⟩ = some (.int .i64 x8) ∧
  ∃ (x9 : Int), w.cell? ⟨p0.1, p0.2 + (Int.toNat x7) * 2 + 1, none⟩ = some (.int .i64 x9) ∧
  (0 ≤ x0) ∧
  ((¬ (b0 = true)) ∨ (x0 = 0)) ∧
  ∃ (Ix10 : List Vc.Vl → Prop) (mx10 : List Vc.Vl → Nat), Ix10 [.i 0, .i x8, .i x9, .i 0] ∧ ∀ (x10 : Int) (x11 : Int) (x12 : Int) (x13 : Int), Ix10 [.i x10, .i x11, .i x12, .i x13] → (
  ((x10 < x0) → (
  (¬ (b0 = true)) ∧
  (0 ≤ x10) ∧
  (x10 < x0) ∧
  ∃ (x14 : Int), w.cell? ⟨p0.1, p0.2 + (Int.toNat x10) * 2 + 0, none⟩ = some (.int .i64 x14) ∧
  ∃ (x15 : Int), w.cell? ⟨p0.1, p0.2 + (Int.toNat x10) * 2 + 1, none⟩ = some (.int .i64 x15) ∧
  ∀ x16 : Int, x16 = IntKind.i64.wrap (x10 + 1) →
  (0 ≤ x0) ∧
  ((¬ (b0 = true)) ∨ (x0 = 0)) ∧
  (x0 ≠ 0) ∧
  ∀ x17 : Int, x17 = Int.tmod x16 x0 →
  (¬ (b0 = true)) ∧
  (0 ≤ x17) ∧
  (x17 < x0) ∧
  ∃ (x18 : Int), w.cell? ⟨p0.1, p0.2 + (Int.toNat x17) * 2 + 0, none⟩ = some (.int .i64 x18) ∧
  ∃ (x19 : Int), w.cell? ⟨p0.1, p0.2 + (Int.toNat x17) * 2 + 1, none⟩ = some (.int .i64 x19) ∧
  ∃ (x20 : Int), (∀ w' : World, Below w.heap.size w w' → Calls Try.prog 41 #[.agg #[.int .i64 x11, .int .i64 x12], .agg #[.int .i64 x14, .int .i64 x15], .agg #[.int .i64 x18, .int .i64 x19]] w' (Vc.Ret (.int .i64 x20) w')) ∧
  ((x20 ≤ 0) → (
  (.bool false : Value) = v)) ∧ (¬ (x20 ≤ 0) → (
  ∃ (b1 : Bool), (∀ w' : World, Below w.heap.size w w' → Calls Try.prog 39 #[.agg #[.int .i64 x11, .int .i64 x12], .agg #[.int .i64 x14, .int .i64 x15]] w' (Vc.Ret (.bool b1) w')) ∧
  ((x15 < x19) → (
  ((b1 = true) → (
  ∀ x21 : Int, x21 = IntKind.i64.wrap (x10 + 1) →
  Ix10 [.i x21, .i x14, .i x15, .i x13] ∧ mx10 [.i x21, .i x14, .i x15, .i x13] < mx10 [.i x10, .i x11, .i x12, .i x13])) ∧ (¬ (b1 = true) → (
  ∀ x21 : Int, x21 = IntKind.i64.wrap (x13 + 1) →
  ∀ x22 : Int, x22 = IntKind.i64.wrap (x10 + 1) →
  Ix10 [.i x22, .i x14, .i x15, .i x21] ∧ mx10 [.i x22, .i x14, .i x15, .i x21] < mx10 [.i x10, .i x11, .i x12, .i x13])))) ∧ (¬ (x15 < x19) → (
  ((x19 = x15) → (
  ((((b1 = true) ↔ (x14 < x18))) → (
  ∀ x21 : Int, x21 = IntKind.i64.wrap (x10 + 1) →
  Ix10 [.i x21, .i x14, .i x15, .i x13] ∧ mx10 [.i x21, .i x14, .i x15, .i x13] < mx10 [.i x10, .i x11, .i x12, .i x13])) ∧ (¬ (((b1 = true) ↔ (x14 < x18))) → (
  ∀ x21 : Int, x21 = IntKind.i64.wrap (x13 + 1) →
  ∀ x22 : Int, x22 = IntKind.i64.wrap (x10 + 1) →
  Ix10 [.i x22, .i x14, .i x15, .i x21] ∧ mx10 [.i x22, .i x14, .i x15, .i x21] < mx10 [.i x10, .i x11, .i x12, .i x13])))) ∧ (¬ (x19 = x15) → (
  ((b1 = true) → (
  ∀ x21 : Int, x21 = IntKind.i64.wrap (x13 + 1) →
  ∀ x22 : Int, x22 = IntKind.i64.wrap (x10 + 1) →
  Ix10 [.i x22, .i x14, .i x15, .i x21] ∧ mx10 [.i x22, .i x14, .i x15, .i x21] < mx10 [.i x10, .i x11, .i x12, .i x13])) ∧ (¬ (b1 = true) → (
  ∀ x21 : Int, x21 = IntKind.i64.wrap (x10 + 1) →
  Ix10 [.i x21, .i x14, .i x15, .i x13] ∧ mx10 [.i x21, .i x14, .i x15, .i x13] < mx10 [.i x10, .i x11, .i x12, .i x13])))))))))) ∧ (¬ (x10 < x0) → (
  (.bool (x13 == 2) : Value) = v))))))))) ∧ (¬ (x4 < x0) → (
  (0 ≤ x0) ∧
  ((¬ (b0 = true)) ∨ (x0 = 0)) ∧
  ∀ x5 : Int, x5 = IntKind.i64.wrap (x0 - 1) →
  (¬ (b0 = true)) ∧
  (0 ≤ x5) ∧
  (x5 < x0) ∧
  ∃ (x6 : Int), w.cell? ⟨p0.1, p0.2 + (Int.toNat x5) * 2 + 0, none⟩ = some (.int .i64 x6) ∧
  ∃ (x7 : Int), w.cell? ⟨p0.1, p0.2 + (Int.toNat x5) * 2 + 1, none⟩ = some (.int .i64 x7) ∧
  (0 ≤ x0) ∧
  ((¬ (b0 = true)) ∨ (x0 = 0)) ∧
  ∃ (Ix8 : List Vc.Vl → Prop) (mx8 : List Vc.Vl → Nat), Ix8 [.i 0, .i x6, .i x7, .i 0] ∧ ∀ (x8 : Int) (x9 : Int) (x10 : Int) (x11 : Int), Ix8 [.i x8, .i x9, .i x10, .i x11] → (
  ((x8 < x0) → (
  (¬ (b0 = true)) ∧
  (0 ≤ x8) ∧
  (x8 < x0) ∧
  ∃ (x12 : Int), w.cell? ⟨p0.1, p0.2 + (Int.toNat x8) * 2 + 0, none⟩ = some (.int .i64 x12) ∧
  ∃ (x13 : Int), w.cell? ⟨p0.1, p0.2 + (Int.toNat x8) * 2 + 1, none⟩ = some (.int .i64 x13) ∧
  ∀ x14 : Int, x14 = IntKind.i64.wrap (x8 + 1) →
  (0 ≤ x0) ∧
  ((¬ (b0 = true)) ∨ (x0 = 0)) ∧
  (x0 ≠ 0) ∧
  ∀ x15 : Int, x15 = Int.tmod x14 x0 →
  (¬ (b0 = true)) ∧
  (0 ≤ x15) ∧
  (x15 < x0) ∧
  ∃ (x16 : Int), w.cell? ⟨p0.1, p0.2 + (Int.toNat x15) * 2 + 0, none⟩ = some (.int .i64 x16) ∧
  ∃ (x17 : Int), w.cell? ⟨p0.1, p0.2 + (Int.toNat x15) * 2 + 1, none⟩ = some (.int .i64 x17) ∧
  ∃ (x18 : Int), (∀ w' : World, Below w.heap.size w w' → Calls Try.prog 41 #[.agg #[.int .i64 x9, .int .i64 x10], .agg #[.int .i64 x12, .int .i64 x13], .agg #[.int .i64 x16, .int .i64 x17]] w' (Vc.Ret (.int .i64 x18) w')) ∧
  ((x18 ≤ 0) → (
  (.bool false : Value) = v)) ∧ (¬ (x18 ≤ 0) → (
  ∃ (b1 : Bool), (∀ w' : World, Below w.heap.size w w' → Calls Try.prog 39 #[.agg #[.int .i64 x9, .int .i64 x10], .agg #[.int .i64 x12, .int .i64 x13]] w' (Vc.Ret (.bool b1) w')) ∧
  ((x13 < x17) → (
  ((b1 = true) → (
  ∀ x19 : Int, x19 = IntKind.i64.wrap (x8 + 1) →
  Ix8 [.i x19, .i x12, .i x13, .i x11] ∧ mx8 [.i x19, .i x12, .i x13, .i x11] < mx8 [.i x8, .i x9, .i x10, .i x11])) ∧ (¬ (b1 = true) → (
  ∀ x19 : Int, x19 = IntKind.i64.wrap (x11 + 1) →
  ∀ x20 : Int, x20 = IntKind.i64.wrap (x8 + 1) →
  Ix8 [.i x20, .i x12, .i x13, .i x19] ∧ mx8 [.i x20, .i x12, .i x13, .i x19] < mx8 [.i x8, .i x9, .i x10, .i x11])))) ∧ (¬ (x13 < x17) → (
  ((x17 = x13) → (
  ((((b1 = true) ↔ (x12 < x16))) → (
  ∀ x19 : Int, x19 = IntKind.i64.wrap (x8 + 1) →
  Ix8 [.i x19, .i x12, .i x13, .i x11] ∧ mx8 [.i x19, .i x12, .i x13, .i x11] < mx8 [.i x8, .i x9, .i x10, .i x11])) ∧ (¬ (((b1 = true) ↔ (x12 < x16))) → (
  ∀ x19 : Int, x19 = IntKind.i64.wrap (x11 + 1) →
  ∀ x20 : Int, x20 = IntKind.i64.wrap (x8 + 1) →
  Ix8 [.i x20, .i x12, .i x13, .i x19] ∧ mx8 [.i x20, .i x12, .i x13, .i x19] < mx8 [.i x8, .i x9, .i x10, .i x11])))) ∧ (¬ (x17 = x13) → (
  ((b1 = true) → (
  ∀ x19 : Int, x19 = IntKind.i64.wrap (x11 + 1) →
  ∀ x20 : Int, x20 = IntKind.i64.wrap (x8 + 1) →
  Ix8 [.i x20, .i x12, .i x13, .i x19] ∧ mx8 [.i x20, .i x12, .i x13, .i x19] < mx8 [.i x8, .i x9, .i x10, .i x11])) ∧ (¬ (b1 = true) → (
  ∀ x19 : Int, x19 = IntKind.i64.wrap (x8 + 1) →
  Ix8 [.i x19, .i x12, .i x13, .i x11] ∧ mx8 [.i x19, .i x12, .i x13, .i x11] < mx8 [.i x8, .i x9, .i x10, .i x11])))))))))) ∧ (¬ (x8 < x0) → (
  (.bool (x11 == 2) : Value) = v)))))))) ∧ (¬ (x0 ≤ 16) → (
  (.bool false : Value) = v)))) ∧ (¬ (3 ≤ x0) → (
  (.bool false : Value) = v)))) ∧ (¬ (x2 ≤ 32) → (
  (.bool false : Value) = v)))) ∧ (¬ (1 ≤ x2) → (
  (.bool false : Value) = v))) : Calls Try.prog 20 #[.agg #[.string ⟨s0.toArray⟩, (if b0 = true then .slice none 0 0 else .slice (some (Vc.qad p0 (Int.toNat x0) (Int.toNat x1))) (Int.toNat x0) (Int.toNat x1) : Value)]] w (Vc.Ret v w) :=
  Vc.pure_of (base_inl [37, 69, 38, 36, 22, 40, 70, 39] (by kernel_rfl)) [(1000000000002, .inv [] [4, 8] [9, 10, 5, 11, 12, 13, 14, 15, 16, 17, 18]), (1000000000001, .inva [[(4, 0), (4, 1), (5, 0)], [(5, 0), (5, 1), (6, 0)]] [] [7] [8, 9, 10, 11, 4, 3, 12, 13, 14, 15, 16, 17, 18, 19, 20, 21, 22, 23, 24])] 200 Try.func20 (b := (Try.f20.body).getD .skip) (by kernel_rfl) [.cv (.agg [.sv 0, .qsl 0 0 2 (.var 0) (.var 1)])] ⟨2, 1, 0, 1, 0, 1, 0⟩ (Vc.envOf [x0, x1] [b0] [] [p0] [s0]) (by kernel_rfl) (by kernel_rfl) (by kernel_rfl) h

theorem vc_safety_contains (p0 : Nat × Nat) (x0 x1 x2 x3 : Int) (b0 : Bool) (s0 : List UInt8) (w : World) (v : Value) (h : 
  (0 ≤ x0) ∧
  ((¬ (b0 = true)) ∨ (x0 = 0)) ∧
  ∃ (Ix4 : List Vc.Vl → Prop) (mx4 : List Vc.Vl → Nat), Ix4 [.i 0] ∧ ∀ (x4 : Int), Ix4 [.i x4] → (
  ((x4 < x0) → (
  (¬ (b0 = true)) ∧
  (0 ≤ x4) ∧
  (x4 < x0) ∧
  ∃ (x5 : Int), w.cell? ⟨p0.1, p0.2 + (Int.toNat x4) * 2 + 0, none⟩ = some (.int .i64 x5) ∧
  ∃ (x6 : Int), w.cell? ⟨p0.1, p0.2 + (Int.toNat x4) * 2 + 1, none⟩ = some (.int .i64 x6) ∧
  ∀ x7 : Int, x7 = IntKind.i64.wrap (x4 + 1) →
  (0 ≤ x0) ∧
  ((¬ (b0 = true)) ∨ (x0 = 0)) ∧
  (x0 ≠ 0) ∧
  ∀ x8 : Int, x8 = Int.tmod x7 x0 →
  (¬ (b0 = true)) ∧
  (0 ≤ x8) ∧
  (x8 < x0) ∧
  ∃ (x9 : Int), w.cell? ⟨p0.1, p0.2 + (Int.toNat x8) * 2 + 0, none⟩ = some (.int .i64 x9) ∧
  ∃ (x10 : Int), w.cell? ⟨p0.1, p0.2 + (Int.toNat x8) * 2 + 1, none⟩ = some (.int .i64 x10) ∧
  ∃ (x11 : Int), (∀ w' : World, Below w.heap.size w w' → Calls Try.prog 41 #[.agg #[.int .i64 x5, .int .i64 x6], .agg #[.int .i64 x9, .int .i64 x10], .agg #[.int .i64 x2, .int .i64 x3]] w' (Vc.Ret (.int .i64 x11) w')) ∧
  ((x11 < 0) → (
  (.bool false : Value) = v)) ∧ (¬ (x11 < 0) → (
  ∀ x12 : Int, x12 = IntKind.i64.wrap (x4 + 1) →
  Ix4 [.i x12] ∧ mx4 [.i x12] < mx4 [.i x4])))) ∧ (¬ (x4 < x0) → (
  (.bool true : Value) = v)))) : Calls Try.prog 44 #[.agg #[.string ⟨s0.toArray⟩, (if b0 = true then .slice none 0 0 else .slice (some (Vc.qad p0 (Int.toNat x0) (Int.toNat x1))) (Int.toNat x0) (Int.toNat x1) : Value)], .agg #[.int .i64 x2, .int .i64 x3]] w (Vc.Ret v w) :=
  Vc.pure_of (base_inl [40, 70] (by kernel_rfl)) [(1000000000001, .inv [] [7] [8, 9, 10, 11, 4, 3, 12, 13, 14, 15, 16, 17, 18, 19, 20, 21, 22, 23, 24])] 200 Try.func44 (b := (Try.f44.body).getD .skip) (by kernel_rfl) [.cv (.agg [.sv 0, .qsl 0 0 2 (.var 0) (.var 1)]), .cv (.agg [.int .i64 (.var 2), .int .i64 (.var 3)])] ⟨4, 1, 0, 1, 0, 1, 0⟩ (Vc.envOf [x0, x1, x2, x3] [b0] [] [p0] [s0]) (by kernel_rfl) (by kernel_rfl) (by kernel_rfl) h

theorem vc_safety_CheckPlan (p0 p1 p2 : Nat × Nat) (x0 x1 x2 x3 x4 x5 x6 x7 x8 x9 : Int) (b0 b1 b2 : Bool) (s0 : List UInt8) (w : World) (v : Value) (h : 
  ∃ (b3 : Bool), (∀ w' : World, Below w.heap.size w w' → Calls Try.prog 20 #[.agg #[.string ⟨s0.toArray⟩, (if b0 = true then .slice none 0 0 else .slice (some (Vc.qad p0 (Int.toNat x0) (Int.toNat x1))) (Int.toNat x0) (Int.toNat x1) : Value)]] w' (Vc.Ret (.bool b3) w')) ∧
  ((b3 = true) → (
  (0 ≤ x2) ∧
  ((¬ (b1 = true)) ∨ (x2 = 0)) ∧
  ((16 < x2) → (
  (.bool false : Value) = v)) ∧ (¬ (16 < x2) → (
  (0 ≤ x4) ∧
  ((¬ (b2 = true)) ∨ (x4 = 0)) ∧
  ((16 < x4) → (
  (.bool false : Value) = v)) ∧ (¬ (16 < x4) → (
  (0 ≤ x2) ∧
  ((¬ (b1 = true)) ∨ (x2 = 0)) ∧
  ∃ (Ix10 : List Vc.Vl → Prop) (mx10 : List Vc.Vl → Nat), Ix10 [.i 0, .i 0] ∧ ∀ (x10 : Int) (x11 : Int), Ix10 [.i x10, .i x11] → (
  ((x11 < x2) → (
  (¬ (b1 = true)) ∧
  (0 ≤ x11) ∧
  (x11 < x2) ∧
  ∃ (s1 : List UInt8), w.cell? ⟨p1.1, p1.2 + (Int.toNat x11) * 2 + 0, none⟩ = some (.string ⟨s1.toArray⟩) ∧
  ∃ (b4 : Bool) (p3 : Nat × Nat) (x12 x13 : Int), w.cell? ⟨p1.1, p1.2 + (Int.toNat x11) * 2 + 1, none⟩ = some ((if b4 = true then .slice none 0 0 else .slice (some (Vc.qad p3 (Int.toNat x12) (Int.toNat x13))) (Int.toNat x12) (Int.toNat x13) : Value)) ∧
  ∃ (b5 : Bool), (∀ w' : World, Below w.heap.size w w' → Calls Try.prog 20 #[.agg #[.string ⟨s1.toArray⟩, (if b4 = true then .slice none 0 0 else .slice (some (Vc.qad p3 (Int.toNat x12) (Int.toNat x13))) (Int.toNat x12) (Int.toNat x13) : Value)]] w' (Vc.Ret (.bool b5) w')) ∧
  ((b5 = true) → (
  ∀ x14 : Int, x14 = IntKind.i64.wrap (x11 + 1) →
  Ix10 [.i x10, .i x14] ∧ mx10 [.i x10, .i x14] < mx10 [.i x10, .i x11])) ∧ (¬ (b5 = true) → (
  ((0 ≤ x11) → (
  (.bool false : Value) = v)) ∧ (¬ (0 ≤ x11) → (
  (0 ≤ x4) ∧
  ((¬ (b2 = true)) ∨ (x4 = 0)) ∧
  ∃ (Ix14 : List Vc.Vl → Prop) (mx14 : List Vc.Vl → Nat), Ix14 [.i 0, .i 0] ∧ ∀ (x14 : Int) (x15 : Int), Ix14 [.i x14, .i x15] → (
  ((x15 < x4) → (
  (¬ (b2 = true)) ∧
  (0 ≤ x15) ∧
  (x15 < x4) ∧
  ∃ (s2 : List UInt8), w.cell? ⟨p2.1, p2.2 + (Int.toNat x15) * 4 + 0, none⟩ = some (.string ⟨s2.toArray⟩) ∧
  ∃ (b6 : Bool) (p4 : Nat × Nat) (x16 x17 : Int), w.cell? ⟨p2.1, p2.2 + (Int.toNat x15) * 4 + 1, none⟩ = some ((if b6 = true then .slice none 0 0 else .slice (some (Vc.qad p4 (Int.toNat x16) (Int.toNat x17))) (Int.toNat x16) (Int.toNat x17) : Value)) ∧
  ∃ (x18 : Int), w.cell? ⟨p2.1, p2.2 + (Int.toNat x15) * 4 + 2, none⟩ = some (.int .i64 x18) ∧
  ∃ (x19 : Int), w.cell? ⟨p2.1, p2.2 + (Int.toNat x15) * 4 + 3, none⟩ = some (.int .i64 x19) ∧
  ∃ (b7 : Bool), (∀ w' : World, Below w.heap.size w w' → Calls Try.prog 20 #[.agg #[.string ⟨s2.toArray⟩, (if b6 = true then .slice none 0 0 else .slice (some (Vc.qad p4 (Int.toNat x16) (Int.toNat x17))) (Int.toNat x16) (Int.toNat x17) : Value)]] w' (Vc.Ret (.bool b7) w')) ∧
  ((b7 = true) → (
  ∃ (b8 : Bool), (∀ w' : World, Below w.heap.size w w' → Calls Try.prog 22 #[.int .i64 x18, .int .i64 0, .int .i64 1073741824] w' (Vc.Ret (.bool b8) w')) ∧
  ((b8 = true) → (
  ∃ (b9 : Bool), (∀ w' : World, Below w.heap.size w w' → Calls Try.prog 22 #[.int .i64 x19, .int .i64 1, .int .i64 1073741824] w' (Vc.Ret (.bool b9) w')) ∧
  ((b9 = true) → (
  ∀ x20 : Int, x20 = IntKind.i64.wrap (x15 + 1) →
  Ix14 [.i x14, .i x20] ∧ mx14 [.i x14, .i x20] < mx14 [.i x14, .i x15])) ∧ (¬ (b9 = true) → (
  ((0 ≤ x15) → (
  (.bool false : Value) = v)) ∧ (¬ (0 ≤ x15) → (
  ∃ (b10 : Bool), (∀ w' : World, Below w.heap.size w w' → Calls Try.prog 22 #[.int .i64 x6, .int .i64 0, .int .i64 268435456] w' (Vc.Ret (.bool b10) w')) ∧
  ((b10 = true) → (
  ∃ (b11 : Bool), (∀ w' : World, Below w.heap.size w w' → Calls Try.prog 22 #[.int .i64 x8, .int .i64 0, .int .i64 268435456] w' (Vc.Ret (.bool b11) w')) ∧
  ((b11 = true) → (
  ∃ (b12 : Bool), (∀ w' : World, Below w.heap.size w w' → Calls Try.prog 22 #[.int .i64 x9, .int .i64 0, .int .i64 268435456] w' (Vc.Ret (.bool b12) w')) ∧
  ((b12 = true) → (
  ∃ (b13 : Bool), (∀ w' : World, Below w.heap.size w w' → Calls Try.prog 22 #[.int .i64 x7, .int .i64 0, .int .i64 1000] w' (Vc.Ret (.bool b13) w')) ∧
  (.bool b13 : Value) = v)) ∧ (¬ (b12 = true) → (
  (.bool false : Value) = v)))) ∧ (¬ (b11 = true) → (
  (.bool false : Value) = v)))) ∧ (¬ (b10 = true) → (
  (.bool false : Value) = v)))))))) ∧ (¬ (b8 = true) → (
  ((0 ≤ x15) → (
  (.bool false : Value) = v)) ∧ (¬ (0 ≤ x15) → (
  ∃ (b9 : Bool), (∀ w' : World, Below w.heap.size w w' → Calls Try.prog 22 #[.int .i64 x6, .int .i64 0, .int .i64 268435456] w' (Vc.Ret (.bool b9) w')) ∧
  ((b9 = true) → (
  ∃ (b10 : Bool), (∀ w' : World, Below w.heap.size w w' → Calls Try.prog 22 #[.int .i64 x8, .int .i64 0, .int .i64 268435456] w' (Vc.Ret (.bool b10) w')) ∧
  ((b10 = true) → (
  ∃ (b11 : Bool), (∀ w' : World, Below w.heap.size w w' → Calls Try.prog 22 #[.int .i64 x9, .int .i64 0, .int .i64 268435456] w' (Vc.Ret (.bool b11) w')) ∧
  ((b11 = true) → (
  ∃ (b12 : Bool), (∀ w' : World, Below w.heap.size w w' → Calls Try.prog 22 #[.int .i64 x7, .int .i64 0, .int .i64 1000] w' (Vc.Ret (.bool b12) w')) ∧
  (.bool b12 : Value) = v)) ∧ (¬ (b11 = true) → (
  (.bool false : Value) = v)))) ∧ (¬ (b10 = true) → (
  (.bool false : Value) = v)))) ∧ (¬ (b9 = true) → (
  (.bool false : Value) = v)))))))) ∧ (¬ (b7 = true) → (
  ((0 ≤ x15) → (
  (.bool false : Value) = v)) ∧ (¬ (0 ≤ x15) → (
  ∃ (b8 : Bool), (∀ w' : World, Below w.heap.size w w' → Calls Try.prog 22 #[.int .i64 x6, .int .i64 0, .int .i64 268435456] w' (Vc.Ret (.bool b8) w')) ∧
  ((b8 = true) → (
  ∃ (b9 : Bool), (∀ w' : World, Below w.heap.size w w' → Calls Try.prog 22 #[.int .i64 x8, .int .i64 0, .int .i64 268435456] w' (Vc.Ret (.bool b9) w')) ∧
  ((b9 = true) → (
  ∃ (b10 : Bool), (∀ w' : World, Below w.heap.size w w' → Calls Try.prog 22 #[.int .i64 x9, .int .i64 0, .int .i64 268435456] w' (Vc.Ret (.bool b10) w')) ∧
  ((b10 = true) → (
  ∃ (b11 : Bool), (∀ w' : World, Below w.heap.size w w' → Calls Try.prog 22 #[.int .i64 x7, .int .i64 0, .int .i64 1000] w' (Vc.Ret (.bool b11) w')) ∧
  (.bool b11 : Value) = v)) ∧ (¬ (b10 = true) → (
  (.bool false : Value) = v)))) ∧ (¬ (b9 = true) → (
  (.bool false : Value) = v)))) ∧ (¬ (b8 = true) → (
  (.bool false : Value) = v)))))))) ∧ (¬ (x15 < x4) → (
  ∃ (b6 : Bool), (∀ w' : World, Below w.heap.size w w' → Calls Try.prog 22 #[.int .i64 x6, .int .i64 0, .int .i64 268435456] w' (Vc.Ret (.bool b6) w')) ∧
  ((b6 = true) → (
  ∃ (b7 : Bool), (∀ w' : World, Below w.heap.size w w' → Calls Try.prog 22 #[.int .i64 x8, .int .i64 0, .int .i64 268435456] w' (Vc.Ret (.bool b7) w')) ∧
  ((b7 = true) → (
  ∃ (b8 : Bool), (∀ w' : World, Below w.heap.size w w' → Calls Try.prog 22 #[.int .i64 x9, .int .i64 0, .int .i64 268435456] w' (Vc.Ret (.bool b8) w')) ∧
  ((b8 = true) → (
  ∃ (b9 : Bool), (∀ w' : World, Below w.heap.size w w' → Calls Try.prog 22 #[.int .i64 x7, .int .i64 0, .int .i64 1000] w' (Vc.Ret (.bool b9) w')) ∧
  (.bool b9 : Value) = v)) ∧ (¬ (b8 = true) → (
  (.bool false : Value) = v)))) ∧ (¬ (b7 = true) → (
  (.bool false : Value) = v)))) ∧ (¬ (b6 = true) → (
  (.bool false : Value) = v))))))))))) ∧ (¬ (x11 < x2) → (
  (0 ≤ x4) ∧
  ((¬ (b2 = true)) ∨ (x4 = 0)) ∧
  ∃ (Ix12 : List Vc.Vl → Prop) (mx12 : List Vc.Vl → Nat), Ix12 [.i 0, .i 0] ∧ ∀ (x12 : Int) (x13 : Int), Ix12 [.i x12, .i x13] → (
  ((x13 < x4) → (
  (¬ (b2 = true)) ∧
  (0 ≤ x13) ∧
  (x13 < x4) ∧
  ∃ (s1 : List UInt8), w.cell? ⟨p2.1, p2.2 + (Int.toNat x13) * 4 + 0, none⟩ = some (.string ⟨s1.toArray⟩) ∧
  ∃ (b4 : Bool) (p3 : Nat × Nat) (x14 x15 : Int), w.cell? ⟨p2.1, p2.2 + (Int.toNat x13) * 4 + 1, none⟩ = some ((if b4 = true then .slice none 0 0 else .slice (some (Vc.qad p3 (Int.toNat x14) (Int.toNat x15))) (Int.toNat x14) (Int.toNat x15) : Value)) ∧
  ∃ (x16 : Int), w.cell? ⟨p2.1, p2.2 + (Int.toNat x13) * 4 + 2, none⟩ = some (.int .i64 x16) ∧
  ∃ (x17 : Int), w.cell? ⟨p2.1, p2.2 + (Int.toNat x13) * 4 + 3, none⟩ = some (.int .i64 x17) ∧
  ∃ (b5 : Bool), (∀ w' : World, Below w.heap.size w w' → Calls Try.prog 20 #[.agg #[.string ⟨s1.toArray⟩, (if b4 = true then .slice none 0 0 else .slice (some (Vc.qad p3 (Int.toNat x14) (Int.toNat x15))) (Int.toNat x14) (Int.toNat x15) : Value)]] w' (Vc.Ret (.bool b5) w')) ∧
  ((b5 = true) → (
  ∃ (b6 : Bool), (∀ w' : World, Below w.heap.size w w' → Calls Try.prog 22 #[.int .i64 x16, .int .i64 0, .int .i64 1073741824] w' (Vc.Ret (.bool b6) w')) ∧
  ((b6 = true) → (
  ∃ (b7 : Bool), (∀ w' : World, Below w.heap.size w w' → Calls Try.prog 22 #[.int .i64 x17, .int .i64 1, .int .i64 1073741824] w' (Vc.Ret (.bool b7) w')) ∧
  ((b7 = true) → (
  ∀ x18 : Int, x18 = IntKind.i64.wrap (x13 + 1) →
  Ix12 [.i x12, .i x18] ∧ mx12 [.i x12, .i x18] < mx12 [.i x12, .i x13])) ∧ (¬ (b7 = true) → (
  ((0 ≤ x13) → (
  (.bool false : Value) = v)) ∧ (¬ (0 ≤ x13) → (
  ∃ (b8 : Bool), (∀ w' : World, Below w.heap.size w w' → Calls Try.prog 22 #[.int .i64 x6, .int .i64 0, .int .i64 268435456] w' (Vc.Ret (.bool b8) w')) ∧
  ((b8 = true) → (
  ∃ (b9 : Bool), (∀ w' : World, Below w.heap.size w w' → Calls Try.prog 22 #[.int .i64 x8, .int .i64 0, .int .i64 268435456] w' (Vc.Ret (.bool b9) w')) ∧
  ((b9 = true) → (
  ∃ (b10 : Bool), (∀ w' : World, Below w.heap.size w w' → Calls Try.prog 22 #[.int .i64 x9, .int .i64 0, .int .i64 268435456] w' (Vc.Ret (.bool b10) w')) ∧
  ((b10 = true) → (
  ∃ (b11 : Bool), (∀ w' : World, Below w.heap.size w w' → Calls Try.prog 22 #[.int .i64 x7, .int .i64 0, .int .i64 1000] w' (Vc.Ret (.bool b11) w')) ∧
  (.bool b11 : Value) = v)) ∧ (¬ (b10 = true) → (
  (.bool false : Value) = v)))) ∧ (¬ (b9 = true) → (
  (.bool false : Value) = v)))) ∧ (¬ (b8 = true) → (
  (.bool false : Value) = v)))))))) ∧ (¬ (b6 = true) → (
  ((0 ≤ x13) → (
  (.bool false : Value) = v)) ∧ (¬ (0 ≤ x13) → (
  ∃ (b7 : Bool), (∀ w' : World, Below w.heap.size w w' → Calls Try.prog 22 #[.int .i64 x6, .int .i64 0, .int .i64 268435456] w' (Vc.Ret (.bool b7) w')) ∧
  ((b7 = true) → (
  ∃ (b8 : Bool), (∀ w' : World, Below w.heap.size w w' → Calls Try.prog 22 #[.int .i64 x8, .int .i64 0, .int .i64 268435456] w' (Vc.Ret (.bool b8) w')) ∧
  ((b8 = true) → (
  ∃ (b9 : Bool), (∀ w' : World, Below w.heap.size w w' → Calls Try.prog 22 #[.int .i64 x9, .int .i64 0, .int .i64 268435456] w' (Vc.Ret (.bool b9) w')) ∧
  ((b9 = true) → (
  ∃ (b10 : Bool), (∀ w' : World, Below w.heap.size w w' → Calls Try.prog 22 #[.int .i64 x7, .int .i64 0, .int .i64 1000] w' (Vc.Ret (.bool b10) w')) ∧
  (.bool b10 : Value) = v)) ∧ (¬ (b9 = true) → (
  (.bool false : Value) = v)))) ∧ (¬ (b8 = true) → (
  (.bool false : Value) = v)))) ∧ (¬ (b7 = true) → (
  (.bool false : Value) = v)))))))) ∧ (¬ (b5 = true) → (
  ((0 ≤ x13) → (
  (.bool false : Value) = v)) ∧ (¬ (0 ≤ x13) → (
  ∃ (b6 : Bool), (∀ w' : World, Below w.heap.size w w' → Calls Try.prog 22 #[.int .i64 x6, .int .i64 0, .int .i64 268435456] w' (Vc.Ret (.bool b6) w')) ∧
  ((b6 = true) → (
  ∃ (b7 : Bool), (∀ w' : World, Below w.heap.size w w' → Calls Try.prog 22 #[.int .i64 x8, .int .i64 0, .int .i64 268435456] w' (Vc.Ret (.bool b7) w')) ∧
  ((b7 = true) → (
  ∃ (b8 : Bool), (∀ w' : World, Below w.heap.size w w' → Calls Try.prog 22 #[.int .i64 x9, .int .i64 0, .int .i64 268435456] w' (Vc.Ret (.bool b8) w')) ∧
  ((b8 = true) → (
  ∃ (b9 : Bool), (∀ w' : World, Below w.heap.size w w' → Calls Try.prog 22 #[.int .i64 x7, .int .i64 0, .int .i64 1000] w' (Vc.Ret (.bool b9) w')) ∧
  (.bool b9 : Value) = v)) ∧ (¬ (b8 = true) → (
  (.bool false : Value) = v)))) ∧ (¬ (b7 = true) → (
  (.bool false : Value) = v)))) ∧ (¬ (b6 = true) → (
  (.bool false : Value) = v)))))))) ∧ (¬ (x13 < x4) → (
  ∃ (b4 : Bool), (∀ w' : World, Below w.heap.size w w' → Calls Try.prog 22 #[.int .i64 x6, .int .i64 0, .int .i64 268435456] w' (Vc.Ret (.bool b4) w')) ∧
  ((b4 = true) → (
  ∃ (b5 : Bool), (∀ w' : World, Below w.heap.size w w' → Calls Try.prog 22 #[.int .i64 x8, .int .i64 0, .int .i64 268435456] w' (Vc.Ret (.bool b5) w')) ∧
  ((b5 = true) → (
  ∃ (b6 : Bool), (∀ w' : World, Below w.heap.size w w' → Calls Try.prog 22 #[.int .i64 x9, .int .i64 0, .int .i64 268435456] w' (Vc.Ret (.bool b6) w')) ∧
  ((b6 = true) → (
  ∃ (b7 : Bool), (∀ w' : World, Below w.heap.size w w' → Calls Try.prog 22 #[.int .i64 x7, .int .i64 0, .int .i64 1000] w' (Vc.Ret (.bool b7) w')) ∧
  (.bool b7 : Value) = v)) ∧ (¬ (b6 = true) → (
  (.bool false : Value) = v)))) ∧ (¬ (b5 = true) → (
  (.bool false : Value) = v)))) ∧ (¬ (b4 = true) → (
  (.bool false : Value) = v)))))))))))))) ∧ (¬ (b3 = true) → (
  (.bool false : Value) = v))) : Calls Try.prog 24 #[.agg #[.string ⟨s0.toArray⟩, (if b0 = true then .slice none 0 0 else .slice (some (Vc.qad p0 (Int.toNat x0) (Int.toNat x1))) (Int.toNat x0) (Int.toNat x1) : Value), (if b1 = true then .slice none 0 0 else .slice (some (Vc.qad p1 (Int.toNat x2) (Int.toNat x3))) (Int.toNat x2) (Int.toNat x3) : Value), (if b2 = true then .slice none 0 0 else .slice (some (Vc.qad p2 (Int.toNat x4) (Int.toNat x5))) (Int.toNat x4) (Int.toNat x5) : Value), .int .i64 x6, .int .i64 x7, .int .i64 x8, .int .i64 x9]] w (Vc.Ret v w) :=
  Vc.pure_of (base_inl [50, 71, 52, 72, 49, 51, 53] (by kernel_rfl)) [(1000000000002, .inv [] [4, 8] [9, 10, 5, 11, 12, 13, 14, 15, 16, 17, 18]), (1000000000002, .inv [] [4, 8] [9, 10, 5, 11, 12, 13, 14, 15, 16, 17, 18])] 200 Try.func24 (b := (Try.f24.body).getD .skip) (by kernel_rfl) [.cv (.agg [.sv 0, .qsl 0 0 2 (.var 0) (.var 1), .qsl 1 1 2 (.var 2) (.var 3), .qsl 2 2 4 (.var 4) (.var 5), .int .i64 (.var 6), .int .i64 (.var 7), .int .i64 (.var 8), .int .i64 (.var 9)])] ⟨10, 3, 0, 3, 0, 1, 0⟩ (Vc.envOf [x0, x1, x2, x3, x4, x5, x6, x7, x8, x9] [b0, b1, b2] [] [p0, p1, p2] [s0]) (by kernel_rfl) (by kernel_rfl) (by kernel_rfl) h

theorem vc_safety_side (p0 : Nat × Nat) (x0 x1 x2 x3 x4 x5 : Int) (b0 : Bool) (s0 : List UInt8) (w : World) (v : Value) (h : 
  ∃ (b1 : Bool), (∀ w' : World, Below w.heap.size w w' → Calls Try.prog 44 #[.agg #[.string ⟨s0.toArray⟩, (if b0 = true then .slice none 0 0 else .slice (some (Vc.qad p0 (Int.toNat x0) (Int.toNat x1))) (Int.toNat x0) (Int.toNat x1) : Value)], .agg #[.int .i64 x2, .int .i64 x3]] w' (Vc.Ret (.bool b1) w')) ∧
  ((b1 = true) → (
  ∃ (b2 : Bool), (∀ w' : World, Below w.heap.size w w' → Calls Try.prog 44 #[.agg #[.string ⟨s0.toArray⟩, (if b0 = true then .slice none 0 0 else .slice (some (Vc.qad p0 (Int.toNat x0) (Int.toNat x1))) (Int.toNat x0) (Int.toNat x1) : Value)], .agg #[.int .i64 x4, .int .i64 x3]] w' (Vc.Ret (.bool b2) w')) ∧
  ((b2 = true) → (
  ∃ (b3 : Bool), (∀ w' : World, Below w.heap.size w w' → Calls Try.prog 44 #[.agg #[.string ⟨s0.toArray⟩, (if b0 = true then .slice none 0 0 else .slice (some (Vc.qad p0 (Int.toNat x0) (Int.toNat x1))) (Int.toNat x0) (Int.toNat x1) : Value)], .agg #[.int .i64 x4, .int .i64 x5]] w' (Vc.Ret (.bool b3) w')) ∧
  ((b3 = true) → (
  ∃ (b4 : Bool), (∀ w' : World, Below w.heap.size w w' → Calls Try.prog 44 #[.agg #[.string ⟨s0.toArray⟩, (if b0 = true then .slice none 0 0 else .slice (some (Vc.qad p0 (Int.toNat x0) (Int.toNat x1))) (Int.toNat x0) (Int.toNat x1) : Value)], .agg #[.int .i64 x2, .int .i64 x5]] w' (Vc.Ret (.bool b4) w')) ∧
  ((b4 = true) → (
  (.int .i64 1 : Value) = v)) ∧ (¬ (b4 = true) → (
  ∃ (b5 : Bool), (∀ (β : Nat → Nat) (w' : World), Below w.heap.size w w' → ((w.heap.size ≤ β 3 ∧ w'.heap[β 3]? = some (.cells #[.int .i64 x2, .int .i64 x3, .int .i64 x4, .int .i64 x3, .int .i64 x4, .int .i64 x5, .int .i64 x2, .int .i64 x5] 35)) ∧ True) → Calls Try.prog 23 #[(if b0 = true then .slice none 0 0 else .slice (some (Vc.qad p0 (Int.toNat x0) (Int.toNat x1))) (Int.toNat x0) (Int.toNat x1) : Value), .slice (some ⟨β 3, 0, none⟩) 4 4, .int .i64 0] w' (Vc.Ret (.bool b5) w')) ∧
  ((b5 = true) → (
  (.int .i64 (-1) : Value) = v)) ∧ (¬ (b5 = true) → (
  (.int .i64 0 : Value) = v)))))) ∧ (¬ (b3 = true) → (
  ∃ (b4 : Bool), (∀ (β : Nat → Nat) (w' : World), Below w.heap.size w w' → ((w.heap.size ≤ β 3 ∧ w'.heap[β 3]? = some (.cells #[.int .i64 x2, .int .i64 x3, .int .i64 x4, .int .i64 x3, .int .i64 x4, .int .i64 x5, .int .i64 x2, .int .i64 x5] 35)) ∧ True) → Calls Try.prog 23 #[(if b0 = true then .slice none 0 0 else .slice (some (Vc.qad p0 (Int.toNat x0) (Int.toNat x1))) (Int.toNat x0) (Int.toNat x1) : Value), .slice (some ⟨β 3, 0, none⟩) 4 4, .int .i64 0] w' (Vc.Ret (.bool b4) w')) ∧
  ((b4 = true) → (
  (.int .i64 (-1) : Value) = v)) ∧ (¬ (b4 = true) → (
  (.int .i64 0 : Value) = v)))))) ∧ (¬ (b2 = true) → (
  ∃ (b3 : Bool), (∀ (β : Nat → Nat) (w' : World), Below w.heap.size w w' → ((w.heap.size ≤ β 3 ∧ w'.heap[β 3]? = some (.cells #[.int .i64 x2, .int .i64 x3, .int .i64 x4, .int .i64 x3, .int .i64 x4, .int .i64 x5, .int .i64 x2, .int .i64 x5] 35)) ∧ True) → Calls Try.prog 23 #[(if b0 = true then .slice none 0 0 else .slice (some (Vc.qad p0 (Int.toNat x0) (Int.toNat x1))) (Int.toNat x0) (Int.toNat x1) : Value), .slice (some ⟨β 3, 0, none⟩) 4 4, .int .i64 0] w' (Vc.Ret (.bool b3) w')) ∧
  ((b3 = true) → (
  (.int .i64 (-1) : Value) = v)) ∧ (¬ (b3 = true) → (
  (.int .i64 0 : Value) = v)))))) ∧ (¬ (b1 = true) → (
  ∃ (b2 : Bool), (∀ (β : Nat → Nat) (w' : World), Below w.heap.size w w' → ((w.heap.size ≤ β 3 ∧ w'.heap[β 3]? = some (.cells #[.int .i64 x2, .int .i64 x3, .int .i64 x4, .int .i64 x3, .int .i64 x4, .int .i64 x5, .int .i64 x2, .int .i64 x5] 35)) ∧ True) → Calls Try.prog 23 #[(if b0 = true then .slice none 0 0 else .slice (some (Vc.qad p0 (Int.toNat x0) (Int.toNat x1))) (Int.toNat x0) (Int.toNat x1) : Value), .slice (some ⟨β 3, 0, none⟩) 4 4, .int .i64 0] w' (Vc.Ret (.bool b2) w')) ∧
  ((b2 = true) → (
  (.int .i64 (-1) : Value) = v)) ∧ (¬ (b2 = true) → (
  (.int .i64 0 : Value) = v))))) : Calls Try.prog 21 #[.agg #[.string ⟨s0.toArray⟩, (if b0 = true then .slice none 0 0 else .slice (some (Vc.qad p0 (Int.toNat x0) (Int.toNat x1))) (Int.toNat x0) (Int.toNat x1) : Value)], .agg #[.int .i64 x2, .int .i64 x3, .int .i64 x4, .int .i64 x5]] w (Vc.Ret v w) :=
  Vc.pure_of (base_inl [42, 37, 69, 43] (by kernel_rfl)) [(1000000000002, .unroll)] 200 Try.func21 (b := (Try.f21.body).getD .skip) (by kernel_rfl) [.cv (.agg [.sv 0, .qsl 0 0 2 (.var 0) (.var 1)]), .cv (.agg [.int .i64 (.var 2), .int .i64 (.var 3), .int .i64 (.var 4), .int .i64 (.var 5)])] ⟨6, 1, 0, 1, 0, 1, 0⟩ (Vc.envOf [x0, x1, x2, x3, x4, x5] [b0] [] [p0] [s0]) (by kernel_rfl) (by kernel_rfl) (by kernel_rfl) h

theorem vc_safety_Side (p0 : Nat × Nat) (x0 x1 x2 x3 x4 x5 : Int) (b0 : Bool) (s0 : List UInt8) (w : World) (v : Value) (h : 
  ∃ (b1 : Bool), (∀ w' : World, Below w.heap.size w w' → Calls Try.prog 20 #[.agg #[.string ⟨s0.toArray⟩, (if b0 = true then .slice none 0 0 else .slice (some (Vc.qad p0 (Int.toNat x0) (Int.toNat x1))) (Int.toNat x0) (Int.toNat x1) : Value)]] w' (Vc.Ret (.bool b1) w')) ∧
  ((b1 = true) → (
  ∃ (b2 : Bool), (∀ w' : World, Below w.heap.size w w' → Calls Try.prog 19 #[.agg #[.int .i64 x2, .int .i64 x3, .int .i64 x4, .int .i64 x5]] w' (Vc.Ret (.bool b2) w')) ∧
  ((b2 = true) → (
  ∃ (x6 : Int), (∀ w' : World, Below w.heap.size w w' → Calls Try.prog 21 #[.agg #[.string ⟨s0.toArray⟩, (if b0 = true then .slice none 0 0 else .slice (some (Vc.qad p0 (Int.toNat x0) (Int.toNat x1))) (Int.toNat x0) (Int.toNat x1) : Value)], .agg #[.int .i64 x2, .int .i64 x3, .int .i64 x4, .int .i64 x5]] w' (Vc.Ret (.int .i64 x6) w')) ∧
  (.tuple #[.int .i64 x6, .int .i64 0] : Value) = v)) ∧ (¬ (b2 = true) → (
  (.tuple #[.int .i64 0, .int .i64 2] : Value) = v)))) ∧ (¬ (b1 = true) → (
  (.tuple #[.int .i64 0, .int .i64 2] : Value) = v))) : Calls Try.prog 7 #[.agg #[.string ⟨s0.toArray⟩, (if b0 = true then .slice none 0 0 else .slice (some (Vc.qad p0 (Int.toNat x0) (Int.toNat x1))) (Int.toNat x0) (Int.toNat x1) : Value)], .agg #[.int .i64 x2, .int .i64 x3, .int .i64 x4, .int .i64 x5]] w (Vc.Ret v w) :=
  Vc.pure_of base [] 200 Try.func7 (b := (Try.f7.body).getD .skip) (by kernel_rfl) [.cv (.agg [.sv 0, .qsl 0 0 2 (.var 0) (.var 1)]), .cv (.agg [.int .i64 (.var 2), .int .i64 (.var 3), .int .i64 (.var 4), .int .i64 (.var 5)])] ⟨6, 1, 0, 1, 0, 1, 0⟩ (Vc.envOf [x0, x1, x2, x3, x4, x5] [b0] [] [p0] [s0]) (by kernel_rfl) (by kernel_rfl) (by kernel_rfl) h

theorem vc_safety_Apart (p0 p1 : Nat × Nat) (x0 x1 x2 x3 x4 : Int) (b0 b1 : Bool) (s0 s1 : List UInt8) (w : World) (v : Value) (h : 
  ∃ (b2 : Bool), (∀ w' : World, Below w.heap.size w w' → Calls Try.prog 20 #[.agg #[.string ⟨s0.toArray⟩, (if b0 = true then .slice none 0 0 else .slice (some (Vc.qad p0 (Int.toNat x0) (Int.toNat x1))) (Int.toNat x0) (Int.toNat x1) : Value)]] w' (Vc.Ret (.bool b2) w')) ∧
  ((b2 = true) → (
  ∃ (b3 : Bool), (∀ w' : World, Below w.heap.size w w' → Calls Try.prog 20 #[.agg #[.string ⟨s1.toArray⟩, (if b1 = true then .slice none 0 0 else .slice (some (Vc.qad p1 (Int.toNat x2) (Int.toNat x3))) (Int.toNat x2) (Int.toNat x3) : Value)]] w' (Vc.Ret (.bool b3) w')) ∧
  ((b3 = true) → (
  ∃ (b4 : Bool), (∀ w' : World, Below w.heap.size w w' → Calls Try.prog 22 #[.int .i64 x4, .int .i64 0, .int .i64 1099511627776] w' (Vc.Ret (.bool b4) w')) ∧
  ((b4 = true) → (
  ((536870912 ≤ x4) → (
  (.tuple #[.bool false, .int .i64 0] : Value) = v)) ∧ (¬ (536870912 ≤ x4) → (
  ∃ (b5 : Bool), (∀ w' : World, Below w.heap.size w w' → Calls Try.prog 23 #[(if b0 = true then .slice none 0 0 else .slice (some (Vc.qad p0 (Int.toNat x0) (Int.toNat x1))) (Int.toNat x0) (Int.toNat x1) : Value), (if b1 = true then .slice none 0 0 else .slice (some (Vc.qad p1 (Int.toNat x2) (Int.toNat x3))) (Int.toNat x2) (Int.toNat x3) : Value), .int .i64 x4] w' (Vc.Ret (.bool b5) w')) ∧
  (.tuple #[.bool b5, .int .i64 0] : Value) = v)))) ∧ (¬ (b4 = true) → (
  (.tuple #[.bool false, .int .i64 4] : Value) = v)))) ∧ (¬ (b3 = true) → (
  (.tuple #[.bool false, .int .i64 2] : Value) = v)))) ∧ (¬ (b2 = true) → (
  (.tuple #[.bool false, .int .i64 2] : Value) = v))) : Calls Try.prog 10 #[.agg #[.string ⟨s0.toArray⟩, (if b0 = true then .slice none 0 0 else .slice (some (Vc.qad p0 (Int.toNat x0) (Int.toNat x1))) (Int.toNat x0) (Int.toNat x1) : Value)], .agg #[.string ⟨s1.toArray⟩, (if b1 = true then .slice none 0 0 else .slice (some (Vc.qad p1 (Int.toNat x2) (Int.toNat x3))) (Int.toNat x2) (Int.toNat x3) : Value)], .int .i64 x4] w (Vc.Ret v w) :=
  Vc.pure_of base [] 200 Try.func10 (b := (Try.f10.body).getD .skip) (by kernel_rfl) [.cv (.agg [.sv 0, .qsl 0 0 2 (.var 0) (.var 1)]), .cv (.agg [.sv 1, .qsl 1 1 2 (.var 2) (.var 3)]), .cv (.one (.int .i64 (.var 4)))] ⟨5, 2, 0, 2, 0, 2, 0⟩ (Vc.envOf [x0, x1, x2, x3, x4] [b0, b1] [] [p0, p1] [s0, s1]) (by kernel_rfl) (by kernel_rfl) (by kernel_rfl) h

theorem vc_safety_Risk (p0 p1 p2 : Nat × Nat) (x0 x1 x2 x3 x4 x5 x6 x7 x8 x9 x10 x11 x12 x13 : Int) (b0 b1 b2 : Bool) (s0 : List UInt8) (w : World) (v : Value) (h : 
  ∃ (b3 : Bool), (∀ w' : World, Below w.heap.size w w' → Calls Try.prog 24 #[.agg #[.string ⟨s0.toArray⟩, (if b0 = true then .slice none 0 0 else .slice (some (Vc.qad p0 (Int.toNat x0) (Int.toNat x1))) (Int.toNat x0) (Int.toNat x1) : Value), (if b1 = true then .slice none 0 0 else .slice (some (Vc.qad p1 (Int.toNat x2) (Int.toNat x3))) (Int.toNat x2) (Int.toNat x3) : Value), (if b2 = true then .slice none 0 0 else .slice (some (Vc.qad p2 (Int.toNat x4) (Int.toNat x5))) (Int.toNat x4) (Int.toNat x5) : Value), .int .i64 x6, .int .i64 x7, .int .i64 x8, .int .i64 x9]] w' (Vc.Ret (.bool b3) w')) ∧
  ((b3 = true) → (
  ∃ (b4 : Bool), (∀ w' : World, Below w.heap.size w w' → Calls Try.prog 19 #[.agg #[.int .i64 x10, .int .i64 x11, .int .i64 x12, .int .i64 x13]] w' (Vc.Ret (.bool b4) w')) ∧
  ((b4 = true) → (
  (0 ≤ x4) ∧
  ((¬ (b2 = true)) ∨ (x4 = 0)) ∧
  ∃ (Ix14 : List Vc.Vl → Prop) (mx14 : List Vc.Vl → Nat), Ix14 [.i 0, .i 0] ∧ ∀ (x14 : Int) (x15 : Int), Ix14 [.i x14, .i x15] → (
  ((x15 < x4) → (
  (¬ (b2 = true)) ∧
  (0 ≤ x15) ∧
  (x15 < x4) ∧
  ∃ (s1 : List UInt8), w.cell? ⟨p2.1, p2.2 + (Int.toNat x15) * 4 + 0, none⟩ = some (.string ⟨s1.toArray⟩) ∧
  ∃ (b5 : Bool) (p3 : Nat × Nat) (x16 x17 : Int), w.cell? ⟨p2.1, p2.2 + (Int.toNat x15) * 4 + 1, none⟩ = some ((if b5 = true then .slice none 0 0 else .slice (some (Vc.qad p3 (Int.toNat x16) (Int.toNat x17))) (Int.toNat x16) (Int.toNat x17) : Value)) ∧
  ∃ (x18 : Int), w.cell? ⟨p2.1, p2.2 + (Int.toNat x15) * 4 + 2, none⟩ = some (.int .i64 x18) ∧
  ∃ (x19 : Int), w.cell? ⟨p2.1, p2.2 + (Int.toNat x15) * 4 + 3, none⟩ = some (.int .i64 x19) ∧
  ∃ (x20 : Int), ∃ (x21 : Int), ∃ (x22 : Int), ∃ (x23 : Int), (∀ w' : World, Below w.heap.size w w' → Calls Try.prog 25 #[.agg #[.int .i64 x10, .int .i64 x11, .int .i64 x12, .int .i64 x13], .int .i64 x8] w' (Vc.Ret (.agg #[.int .i64 x20, .int .i64 x21, .int .i64 x22, .int .i64 x23]) w')) ∧
  ∃ (x24 : Int), (∀ w' : World, Below w.heap.size w w' → Calls Try.prog 21 #[.agg #[.string ⟨s1.toArray⟩, (if b5 = true then .slice none 0 0 else .slice (some (Vc.qad p3 (Int.toNat x16) (Int.toNat x17))) (Int.toNat x16) (Int.toNat x17) : Value)], .agg #[.int .i64 x20, .int .i64 x21, .int .i64 x22, .int .i64 x23]] w' (Vc.Ret (.int .i64 x24) w')) ∧
  ((0 ≤ x24) → (
  ∀ x25 : Int, x25 = IntKind.i64.wrap (x18 * x9) →
  ∀ x26 : Int, x26 = IntKind.i64.wrap (x25 + x19) →
  ∀ x27 : Int, x27 = IntKind.i64.wrap (x26 - 1) →
  (x19 ≠ 0) ∧
  ∀ x28 : Int, x28 = IntKind.i64.wrap (Int.tdiv x27 x19) →
  ∀ x29 : Int, x29 = (if x28 < x18 then x28 else x18) →
  ∀ x30 : Int, x30 = IntKind.i64.wrap (x14 + x29) →
  ∀ x31 : Int, x31 = IntKind.i64.wrap (x15 + 1) →
  Ix14 [.i x30, .i x31] ∧ mx14 [.i x30, .i x31] < mx14 [.i x14, .i x15])) ∧ (¬ (0 ≤ x24) → (
  ∀ x25 : Int, x25 = IntKind.i64.wrap (x15 + 1) →
  Ix14 [.i x14, .i x25] ∧ mx14 [.i x14, .i x25] < mx14 [.i x14, .i x15])))) ∧ (¬ (x15 < x4) → (
  (.tuple #[.int .i64 x14, .int .i64 0] : Value) = v))))) ∧ (¬ (b4 = true) → (
  (.tuple #[.int .i64 0, .int .i64 2] : Value) = v)))) ∧ (¬ (b3 = true) → (
  (.tuple #[.int .i64 0, .int .i64 2] : Value) = v))) : Calls Try.prog 12 #[.agg #[.string ⟨s0.toArray⟩, (if b0 = true then .slice none 0 0 else .slice (some (Vc.qad p0 (Int.toNat x0) (Int.toNat x1))) (Int.toNat x0) (Int.toNat x1) : Value), (if b1 = true then .slice none 0 0 else .slice (some (Vc.qad p1 (Int.toNat x2) (Int.toNat x3))) (Int.toNat x2) (Int.toNat x3) : Value), (if b2 = true then .slice none 0 0 else .slice (some (Vc.qad p2 (Int.toNat x4) (Int.toNat x5))) (Int.toNat x4) (Int.toNat x5) : Value), .int .i64 x6, .int .i64 x7, .int .i64 x8, .int .i64 x9], .agg #[.int .i64 x10, .int .i64 x11, .int .i64 x12, .int .i64 x13]] w (Vc.Ret v w) :=
  Vc.pure_of base [(1000000000005, .inv [] [6, 20] [21, 22, 23, 8, 24, 25, 26, 27, 28, 29, 30, 31, 32, 33, 34, 35, 36, 37, 38, 39, 40, 41, 42, 43, 44, 45, 46, 47, 48, 49])] 200 Try.func12 (b := (Try.f12.body).getD .skip) (by kernel_rfl) [.cv (.agg [.sv 0, .qsl 0 0 2 (.var 0) (.var 1), .qsl 1 1 2 (.var 2) (.var 3), .qsl 2 2 4 (.var 4) (.var 5), .int .i64 (.var 6), .int .i64 (.var 7), .int .i64 (.var 8), .int .i64 (.var 9)]), .cv (.agg [.int .i64 (.var 10), .int .i64 (.var 11), .int .i64 (.var 12), .int .i64 (.var 13)])] ⟨14, 3, 0, 3, 0, 1, 0⟩ (Vc.envOf [x0, x1, x2, x3, x4, x5, x6, x7, x8, x9, x10, x11, x12, x13] [b0, b1, b2] [] [p0, p1, p2] [s0]) (by kernel_rfl) (by kernel_rfl) (by kernel_rfl) h

theorem vc_safety_Impact (x0 x1 x2 x3 x4 x5 x6 x7 x8 x9 x10 x11 x12 x13 x14 x15 x16 x17 : Int) (w : World) (v : Value) (h : 
  ∃ (b0 : Bool), (∀ w' : World, Below w.heap.size w w' → Calls Try.prog 15 #[.agg #[.int .i64 x0, .int .i64 x1, .int .i64 x2, .int .i64 x3, .int .i64 x4, .int .i64 x5, .int .i64 x6, .int .i64 x7, .int .i64 x8, .int .i64 x9, .int .i64 x10, .int .i64 x11, .int .i64 x12, .int .i64 x13, .int .i64 x14, .int .i64 x15, .int .i64 x16, .int .i64 x17]] w' (Vc.Ret (.bool b0) w')) ∧
  ((b0 = true) → (
  ∃ (x18 : Int), ∃ (x19 : Int), ∃ (x20 : Int), (∀ w' : World, Below w.heap.size w w' → Calls Try.prog 30 #[.agg #[.int .i64 x10, .int .i64 x11], .agg #[.int .i64 x10, .int .i64 x11]] w' (Vc.Ret (.tuple #[.agg #[.int .i64 x18, .int .i64 x19], .int .i64 x20]) w')) ∧
  ((x20 = 0) → (
  ∃ (x21 : Int), ∃ (x22 : Int), ∃ (x23 : Int), (∀ w' : World, Below w.heap.size w w' → Calls Try.prog 31 #[.agg #[.int .i64 x12, .int .i64 x13], .agg #[.int .i64 x12, .int .i64 x13]] w' (Vc.Ret (.tuple #[.agg #[.int .i64 x21, .int .i64 x22], .int .i64 x23]) w')) ∧
  ((x23 = 0) → (
  ∃ (x24 : Int), ∃ (x25 : Int), ∃ (x26 : Int), (∀ w' : World, Below w.heap.size w w' → Calls Try.prog 32 #[.agg #[.int .i64 x21, .int .i64 x22], .agg #[.int .i64 x4, .int .i64 x5]] w' (Vc.Ret (.tuple #[.agg #[.int .i64 x24, .int .i64 x25], .int .i64 x26]) w')) ∧
  ((x26 = 0) → (
  ∃ (x27 : Int), ∃ (x28 : Int), ∃ (x29 : Int), (∀ w' : World, Below w.heap.size w w' → Calls Try.prog 33 #[.agg #[.int .i64 x18, .int .i64 x19], .agg #[.int .i64 x24, .int .i64 x25]] w' (Vc.Ret (.tuple #[.agg #[.int .i64 x27, .int .i64 x28], .int .i64 x29]) w')) ∧
  ((x29 = 0) → (
  ∃ (x30 : Int), ∃ (x31 : Int), ∃ (x32 : Int), (∀ w' : World, Below w.heap.size w w' → Calls Try.prog 34 #[.agg #[.int .i64 x27, .int .i64 x28], .agg #[.int .i64 x27, .int .i64 x28]] w' (Vc.Ret (.tuple #[.agg #[.int .i64 x30, .int .i64 x31], .int .i64 x32]) w')) ∧
  ((x32 = 0) → (
  ∃ (x33 : Int), ∃ (x34 : Int), ∃ (x35 : Int), (∀ w' : World, Below w.heap.size w w' → Calls Try.prog 33 #[.agg #[.int .i64 x10, .int .i64 x11], .agg #[.int .i64 x30, .int .i64 x31]] w' (Vc.Ret (.tuple #[.agg #[.int .i64 x33, .int .i64 x34], .int .i64 x35]) w')) ∧
  ((x35 = 0) → (
  ∃ (x36 : Int), ∃ (x37 : Int), ∃ (x38 : Int), (∀ w' : World, Below w.heap.size w w' → Calls Try.prog 35 #[.agg #[.int .i64 x33, .int .i64 x34], .agg #[.int .i64 x12, .int .i64 x13]] w' (Vc.Ret (.tuple #[.agg #[.int .i64 x36, .int .i64 x37], .int .i64 x38]) w')) ∧
  ((x38 = 0) → (
  ∃ (x39 : Int), ∃ (x40 : Int), ∃ (x41 : Int), (∀ w' : World, Below w.heap.size w w' → Calls Try.prog 32 #[.agg #[.int .i64 x6, .int .i64 x7], .agg #[.int .i64 x36, .int .i64 x37]] w' (Vc.Ret (.tuple #[.agg #[.int .i64 x39, .int .i64 x40], .int .i64 x41]) w')) ∧
  ((x41 = 0) → (
  ∃ (x42 : Int), ∃ (x43 : Int), ∃ (x44 : Int), (∀ w' : World, Below w.heap.size w w' → Calls Try.prog 33 #[.agg #[.int .i64 x0, .int .i64 x1], .agg #[.int .i64 x39, .int .i64 x40]] w' (Vc.Ret (.tuple #[.agg #[.int .i64 x42, .int .i64 x43], .int .i64 x44]) w')) ∧
  ((x44 = 0) → (
  ∃ (x45 : Int), ∃ (x46 : Int), ∃ (x47 : Int), (∀ w' : World, Below w.heap.size w w' → Calls Try.prog 32 #[.agg #[.int .i64 x14, .int .i64 x15], .agg #[.int .i64 x36, .int .i64 x37]] w' (Vc.Ret (.tuple #[.agg #[.int .i64 x45, .int .i64 x46], .int .i64 x47]) w')) ∧
  ((x47 = 0) → (
  ∃ (x48 : Int), ∃ (x49 : Int), ∃ (x50 : Int), (∀ w' : World, Below w.heap.size w w' → Calls Try.prog 33 #[.agg #[.int .i64 x42, .int .i64 x43], .agg #[.int .i64 x45, .int .i64 x46]] w' (Vc.Ret (.tuple #[.agg #[.int .i64 x48, .int .i64 x49], .int .i64 x50]) w')) ∧
  ((x50 = 0) → (
  ∃ (x51 : Int), ∃ (x52 : Int), ∃ (x53 : Int), (∀ w' : World, Below w.heap.size w w' → Calls Try.prog 32 #[.agg #[.int .i64 x8, .int .i64 x9], .agg #[.int .i64 x36, .int .i64 x37]] w' (Vc.Ret (.tuple #[.agg #[.int .i64 x51, .int .i64 x52], .int .i64 x53]) w')) ∧
  ((x53 = 0) → (
  ∃ (x54 : Int), ∃ (x55 : Int), ∃ (x56 : Int), (∀ w' : World, Below w.heap.size w w' → Calls Try.prog 33 #[.agg #[.int .i64 x2, .int .i64 x3], .agg #[.int .i64 x51, .int .i64 x52]] w' (Vc.Ret (.tuple #[.agg #[.int .i64 x54, .int .i64 x55], .int .i64 x56]) w')) ∧
  ((x56 = 0) → (
  ∃ (x57 : Int), ∃ (x58 : Int), ∃ (x59 : Int), (∀ w' : World, Below w.heap.size w w' → Calls Try.prog 32 #[.agg #[.int .i64 x16, .int .i64 x17], .agg #[.int .i64 x36, .int .i64 x37]] w' (Vc.Ret (.tuple #[.agg #[.int .i64 x57, .int .i64 x58], .int .i64 x59]) w')) ∧
  ((x59 = 0) → (
  ∃ (x60 : Int), ∃ (x61 : Int), ∃ (x62 : Int), (∀ w' : World, Below w.heap.size w w' → Calls Try.prog 33 #[.agg #[.int .i64 x54, .int .i64 x55], .agg #[.int .i64 x57, .int .i64 x58]] w' (Vc.Ret (.tuple #[.agg #[.int .i64 x60, .int .i64 x61], .int .i64 x62]) w')) ∧
  ((x62 = 0) → (
  ((x62 = 0) → (
  ∃ (x63 : Int), (∀ w' : World, Below w.heap.size w w' → Calls Try.prog 17 #[.int .i64 x48] w' (Vc.Ret (.int .i64 x63) w')) ∧
  ∃ (x64 : Int), (∀ w' : World, Below w.heap.size w w' → Calls Try.prog 17 #[.int .i64 x60] w' (Vc.Ret (.int .i64 x64) w')) ∧
  ∃ (x65 : Int), (∀ w' : World, Below w.heap.size w w' → Calls Try.prog 18 #[.int .i64 x49] w' (Vc.Ret (.int .i64 x65) w')) ∧
  ∃ (x66 : Int), (∀ w' : World, Below w.heap.size w w' → Calls Try.prog 18 #[.int .i64 x61] w' (Vc.Ret (.int .i64 x66) w')) ∧
  ∃ (b1 : Bool), (∀ w' : World, Below w.heap.size w w' → Calls Try.prog 19 #[.agg #[.int .i64 x63, .int .i64 x64, .int .i64 x65, .int .i64 x66]] w' (Vc.Ret (.bool b1) w')) ∧
  ((b1 = true) → (
  (.tuple #[.agg #[.int .i64 x63, .int .i64 x64, .int .i64 x65, .int .i64 x66], .int .i64 0] : Value) = v)) ∧ (¬ (b1 = true) → (
  (.tuple #[.agg #[.int .i64 0, .int .i64 0, .int .i64 0, .int .i64 0], .int .i64 4] : Value) = v)))) ∧ (¬ (x62 = 0) → (
  (.tuple #[.agg #[.int .i64 0, .int .i64 0, .int .i64 0, .int .i64 0], .int .i64 x62] : Value) = v)))) ∧ (¬ (x62 = 0) → (
  ((x62 = 0) → (
  ∃ (x63 : Int), (∀ w' : World, Below w.heap.size w w' → Calls Try.prog 17 #[.int .i64 x48] w' (Vc.Ret (.int .i64 x63) w')) ∧
  ∃ (x64 : Int), (∀ w' : World, Below w.heap.size w w' → Calls Try.prog 17 #[.int .i64 x60] w' (Vc.Ret (.int .i64 x64) w')) ∧
  ∃ (x65 : Int), (∀ w' : World, Below w.heap.size w w' → Calls Try.prog 18 #[.int .i64 x49] w' (Vc.Ret (.int .i64 x65) w')) ∧
  ∃ (x66 : Int), (∀ w' : World, Below w.heap.size w w' → Calls Try.prog 18 #[.int .i64 x61] w' (Vc.Ret (.int .i64 x66) w')) ∧
  ∃ (b1 : Bool), (∀ w' : World, Below w.heap.size w w' → Calls Try.prog 19 #[.agg #[.int .i64 x63, .int .i64 x64, .int .i64 x65, .int .i64 x66]] w' (Vc.Ret (.bool b1) w')) ∧
  ((b1 = true) → (
  (.tuple #[.agg #[.int .i64 x63, .int .i64 x64, .int .i64 x65, .int .i64 x66], .int .i64 0] : Value) = v)) ∧ (¬ (b1 = true) → (
  (.tuple #[.agg #[.int .i64 0, .int .i64 0, .int .i64 0, .int .i64 0], .int .i64 4] : Value) = v)))) ∧ (¬ (x62 = 0) → (
  (.tuple #[.agg #[.int .i64 0, .int .i64 0, .int .i64 0, .int .i64 0], .int .i64 x62] : Value) = v)))))) ∧ (¬ (x59 = 0) → (
  ((x59 = 0) → (
  ∃ (x60 : Int), (∀ w' : World, Below w.heap.size w w' → Calls Try.prog 17 #[.int .i64 x48] w' (Vc.Ret (.int .i64 x60) w')) ∧
  ∃ (x61 : Int), (∀ w' : World, Below w.heap.size w w' → Calls Try.prog 17 #[.int .i64 x54] w' (Vc.Ret (.int .i64 x61) w')) ∧
  ∃ (x62 : Int), (∀ w' : World, Below w.heap.size w w' → Calls Try.prog 18 #[.int .i64 x49] w' (Vc.Ret (.int .i64 x62) w')) ∧
  ∃ (x63 : Int), (∀ w' : World, Below w.heap.size w w' → Calls Try.prog 18 #[.int .i64 x55] w' (Vc.Ret (.int .i64 x63) w')) ∧
  ∃ (b1 : Bool), (∀ w' : World, Below w.heap.size w w' → Calls Try.prog 19 #[.agg #[.int .i64 x60, .int .i64 x61, .int .i64 x62, .int .i64 x63]] w' (Vc.Ret (.bool b1) w')) ∧
  ((b1 = true) → (
  (.tuple #[.agg #[.int .i64 x60, .int .i64 x61, .int .i64 x62, .int .i64 x63], .int .i64 0] : Value) = v)) ∧ (¬ (b1 = true) → (
  (.tuple #[.agg #[.int .i64 0, .int .i64 0, .int .i64 0, .int .i64 0], .int .i64 4] : Value) = v)))) ∧ (¬ (x59 = 0) → (
  (.tuple #[.agg #[.int .i64 0, .int .i64 0, .int .i64 0, .int .i64 0], .int .i64 x59] : Value) = v)))))) ∧ (¬ (x56 = 0) → (
  ((x56 = 0) → (
  ∃ (x57 : Int), (∀ w' : World, Below w.heap.size w w' → Calls Try.prog 17 #[.int .i64 x48] w' (Vc.Ret (.int .i64 x57) w')) ∧
  ∃ (x58 : Int), (∀ w' : World, Below w.heap.size w w' → Calls Try.prog 17 #[.int .i64 x54] w' (Vc.Ret (.int .i64 x58) w')) ∧
  ∃ (x59 : Int), (∀ w' : World, Below w.heap.size w w' → Calls Try.prog 18 #[.int .i64 x49] w' (Vc.Ret (.int .i64 x59) w')) ∧
  ∃ (x60 : Int), (∀ w' : World, Below w.heap.size w w' → Calls Try.prog 18 #[.int .i64 x55] w' (Vc.Ret (.int .i64 x60) w')) ∧
  ∃ (b1 : Bool), (∀ w' : World, Below w.heap.size w w' → Calls Try.prog 19 #[.agg #[.int .i64 x57, .int .i64 x58, .int .i64 x59, .int .i64 x60]] w' (Vc.Ret (.bool b1) w')) ∧
  ((b1 = true) → (
  (.tuple #[.agg #[.int .i64 x57, .int .i64 x58, .int .i64 x59, .int .i64 x60], .int .i64 0] : Value) = v)) ∧ (¬ (b1 = true) → (
  (.tuple #[.agg #[.int .i64 0, .int .i64 0, .int .i64 0, .int .i64 0], .int .i64 4] : Value) = v)))) ∧ (¬ (x56 = 0) → (
  (.tuple #[.agg #[.int .i64 0, .int .i64 0, .int .i64 0, .int .i64 0], .int .i64 x56] : Value) = v)))))) ∧ (¬ (x53 = 0) → (
  ((x53 = 0) → (
  ∃ (x54 : Int), (∀ w' : World, Below w.heap.size w w' → Calls Try.prog 17 #[.int .i64 x48] w' (Vc.Ret (.int .i64 x54) w')) ∧
  ∃ (x55 : Int), (∀ w' : World, Below w.heap.size w w' → Calls Try.prog 17 #[.int .i64 0] w' (Vc.Ret (.int .i64 x55) w')) ∧
  ∃ (x56 : Int), (∀ w' : World, Below w.heap.size w w' → Calls Try.prog 18 #[.int .i64 x49] w' (Vc.Ret (.int .i64 x56) w')) ∧
  ∃ (x57 : Int), (∀ w' : World, Below w.heap.size w w' → Calls Try.prog 18 #[.int .i64 0] w' (Vc.Ret (.int .i64 x57) w')) ∧
  ∃ (b1 : Bool), (∀ w' : World, Below w.heap.size w w' → Calls Try.prog 19 #[.agg #[.int .i64 x54, .int .i64 x55, .int .i64 x56, .int .i64 x57]] w' (Vc.Ret (.bool b1) w')) ∧
  ((b1 = true) → (
  (.tuple #[.agg #[.int .i64 x54, .int .i64 x55, .int .i64 x56, .int .i64 x57], .int .i64 0] : Value) = v)) ∧ (¬ (b1 = true) → (
  (.tuple #[.agg #[.int .i64 0, .int .i64 0, .int .i64 0, .int .i64 0], .int .i64 4] : Value) = v)))) ∧ (¬ (x53 = 0) → (
  (.tuple #[.agg #[.int .i64 0, .int .i64 0, .int .i64 0, .int .i64 0], .int .i64 x53] : Value) = v)))))) ∧ (¬ (x50 = 0) → (
  ((x50 = 0) → (
  ∃ (x51 : Int), (∀ w' : World, Below w.heap.size w w' → Calls Try.prog 17 #[.int .i64 x48] w' (Vc.Ret (.int .i64 x51) w')) ∧
  ∃ (x52 : Int), (∀ w' : World, Below w.heap.size w w' → Calls Try.prog 17 #[.int .i64 0] w' (Vc.Ret (.int .i64 x52) w')) ∧
  ∃ (x53 : Int), (∀ w' : World, Below w.heap.size w w' → Calls Try.prog 18 #[.int .i64 x49] w' (Vc.Ret (.int .i64 x53) w')) ∧
  ∃ (x54 : Int), (∀ w' : World, Below w.heap.size w w' → Calls Try.prog 18 #[.int .i64 0] w' (Vc.Ret (.int .i64 x54) w')) ∧
  ∃ (b1 : Bool), (∀ w' : World, Below w.heap.size w w' → Calls Try.prog 19 #[.agg #[.int .i64 x51, .int .i64 x52, .int .i64 x53, .int .i64 x54]] w' (Vc.Ret (.bool b1) w')) ∧
  ((b1 = true) → (
  (.tuple #[.agg #[.int .i64 x51, .int .i64 x52, .int .i64 x53, .int .i64 x54], .int .i64 0] : Value) = v)) ∧ (¬ (b1 = true) → (
  (.tuple #[.agg #[.int .i64 0, .int .i64 0, .int .i64 0, .int .i64 0], .int .i64 4] : Value) = v)))) ∧ (¬ (x50 = 0) → (
  (.tuple #[.agg #[.int .i64 0, .int .i64 0, .int .i64 0, .int .i64 0], .int .i64 x50] : Value) = v)))))) ∧ (¬ (x47 = 0) → (
  ((x47 = 0) → (
  ∃ (x48 : Int), (∀ w' : World, Below w.heap.size w w' → Calls Try.prog 17 #[.int .i64 x42] w' (Vc.Ret (.int .i64 x48) w')) ∧
  ∃ (x49 : Int), (∀ w' : World, Below w.heap.size w w' → Calls Try.prog 17 #[.int .i64 0] w' (Vc.Ret (.int .i64 x49) w')) ∧
  ∃ (x50 : Int), (∀ w' : World, Below w.heap.size w w' → Calls Try.prog 18 #[.int .i64 x43] w' (Vc.Ret (.int .i64 x50) w')) ∧
  ∃ (x51 : Int), (∀ w' : World, Below w.heap.size w w' → Calls Try.prog 18 #[.int .i64 0] w' (Vc.Ret (.int .i64 x51) w')) ∧
  ∃ (b1 : Bool), (∀ w' : World, Below w.heap.size w w' → Calls Try.prog 19 #[.agg #[.int .i64 x48, .int .i64 x49, .int .i64 x50, .int .i64 x51]] w' (Vc.Ret (.bool b1) w')) ∧
  ((b1 = true) → (
  (.tuple #[.agg #[.int .i64 x48, .int .i64 x49, .int .i64 x50, .int .i64 x51], .int .i64 0] : Value) = v)) ∧ (¬ (b1 = true) → (
  (.tuple #[.agg #[.int .i64 0, .int .i64 0, .int .i64 0, .int .i64 0], .int .i64 4] : Value) = v)))) ∧ (¬ (x47 = 0) → (
  (.tuple #[.agg #[.int .i64 0, .int .i64 0, .int .i64 0, .int .i64 0], .int .i64 x47] : Value) = v)))))) ∧ (¬ (x44 = 0) → (
  ((x44 = 0) → (
  ∃ (x45 : Int), (∀ w' : World, Below w.heap.size w w' → Calls Try.prog 17 #[.int .i64 x42] w' (Vc.Ret (.int .i64 x45) w')) ∧
  ∃ (x46 : Int), (∀ w' : World, Below w.heap.size w w' → Calls Try.prog 17 #[.int .i64 0] w' (Vc.Ret (.int .i64 x46) w')) ∧
  ∃ (x47 : Int), (∀ w' : World, Below w.heap.size w w' → Calls Try.prog 18 #[.int .i64 x43] w' (Vc.Ret (.int .i64 x47) w')) ∧
  ∃ (x48 : Int), (∀ w' : World, Below w.heap.size w w' → Calls Try.prog 18 #[.int .i64 0] w' (Vc.Ret (.int .i64 x48) w')) ∧
  ∃ (b1 : Bool), (∀ w' : World, Below w.heap.size w w' → Calls Try.prog 19 #[.agg #[.int .i64 x45, .int .i64 x46, .int .i64 x47, .int .i64 x48]] w' (Vc.Ret (.bool b1) w')) ∧
  ((b1 = true) → (
  (.tuple #[.agg #[.int .i64 x45, .int .i64 x46, .int .i64 x47, .int .i64 x48], .int .i64 0] : Value) = v)) ∧ (¬ (b1 = true) → (
  (.tuple #[.agg #[.int .i64 0, .int .i64 0, .int .i64 0, .int .i64 0], .int .i64 4] : Value) = v)))) ∧ (¬ (x44 = 0) → (
  (.tuple #[.agg #[.int .i64 0, .int .i64 0, .int .i64 0, .int .i64 0], .int .i64 x44] : Value) = v)))))) ∧ (¬ (x41 = 0) → (
  ((x41 = 0) → (
  ∃ (x42 : Int), (∀ w' : World, Below w.heap.size w w' → Calls Try.prog 17 #[.int .i64 0] w' (Vc.Ret (.int .i64 x42) w')) ∧
  ∃ (x43 : Int), (∀ w' : World, Below w.heap.size w w' → Calls Try.prog 17 #[.int .i64 0] w' (Vc.Ret (.int .i64 x43) w')) ∧
  ∃ (x44 : Int), (∀ w' : World, Below w.heap.size w w' → Calls Try.prog 18 #[.int .i64 0] w' (Vc.Ret (.int .i64 x44) w')) ∧
  ∃ (x45 : Int), (∀ w' : World, Below w.heap.size w w' → Calls Try.prog 18 #[.int .i64 0] w' (Vc.Ret (.int .i64 x45) w')) ∧
  ∃ (b1 : Bool), (∀ w' : World, Below w.heap.size w w' → Calls Try.prog 19 #[.agg #[.int .i64 x42, .int .i64 x43, .int .i64 x44, .int .i64 x45]] w' (Vc.Ret (.bool b1) w')) ∧
  ((b1 = true) → (
  (.tuple #[.agg #[.int .i64 x42, .int .i64 x43, .int .i64 x44, .int .i64 x45], .int .i64 0] : Value) = v)) ∧ (¬ (b1 = true) → (
  (.tuple #[.agg #[.int .i64 0, .int .i64 0, .int .i64 0, .int .i64 0], .int .i64 4] : Value) = v)))) ∧ (¬ (x41 = 0) → (
  (.tuple #[.agg #[.int .i64 0, .int .i64 0, .int .i64 0, .int .i64 0], .int .i64 x41] : Value) = v)))))) ∧ (¬ (x38 = 0) → (
  ((x38 = 0) → (
  ∃ (x39 : Int), (∀ w' : World, Below w.heap.size w w' → Calls Try.prog 17 #[.int .i64 0] w' (Vc.Ret (.int .i64 x39) w')) ∧
  ∃ (x40 : Int), (∀ w' : World, Below w.heap.size w w' → Calls Try.prog 17 #[.int .i64 0] w' (Vc.Ret (.int .i64 x40) w')) ∧
  ∃ (x41 : Int), (∀ w' : World, Below w.heap.size w w' → Calls Try.prog 18 #[.int .i64 0] w' (Vc.Ret (.int .i64 x41) w')) ∧
  ∃ (x42 : Int), (∀ w' : World, Below w.heap.size w w' → Calls Try.prog 18 #[.int .i64 0] w' (Vc.Ret (.int .i64 x42) w')) ∧
  ∃ (b1 : Bool), (∀ w' : World, Below w.heap.size w w' → Calls Try.prog 19 #[.agg #[.int .i64 x39, .int .i64 x40, .int .i64 x41, .int .i64 x42]] w' (Vc.Ret (.bool b1) w')) ∧
  ((b1 = true) → (
  (.tuple #[.agg #[.int .i64 x39, .int .i64 x40, .int .i64 x41, .int .i64 x42], .int .i64 0] : Value) = v)) ∧ (¬ (b1 = true) → (
  (.tuple #[.agg #[.int .i64 0, .int .i64 0, .int .i64 0, .int .i64 0], .int .i64 4] : Value) = v)))) ∧ (¬ (x38 = 0) → (
  (.tuple #[.agg #[.int .i64 0, .int .i64 0, .int .i64 0, .int .i64 0], .int .i64 x38] : Value) = v)))))) ∧ (¬ (x35 = 0) → (
  ((x35 = 0) → (
  ∃ (x36 : Int), (∀ w' : World, Below w.heap.size w w' → Calls Try.prog 17 #[.int .i64 0] w' (Vc.Ret (.int .i64 x36) w')) ∧
  ∃ (x37 : Int), (∀ w' : World, Below w.heap.size w w' → Calls Try.prog 17 #[.int .i64 0] w' (Vc.Ret (.int .i64 x37) w')) ∧
  ∃ (x38 : Int), (∀ w' : World, Below w.heap.size w w' → Calls Try.prog 18 #[.int .i64 0] w' (Vc.Ret (.int .i64 x38) w')) ∧
  ∃ (x39 : Int), (∀ w' : World, Below w.heap.size w w' → Calls Try.prog 18 #[.int .i64 0] w' (Vc.Ret (.int .i64 x39) w')) ∧
  ∃ (b1 : Bool), (∀ w' : World, Below w.heap.size w w' → Calls Try.prog 19 #[.agg #[.int .i64 x36, .int .i64 x37, .int .i64 x38, .int .i64 x39]] w' (Vc.Ret (.bool b1) w')) ∧
  ((b1 = true) → (
  (.tuple #[.agg #[.int .i64 x36, .int .i64 x37, .int .i64 x38, .int .i64 x39], .int .i64 0] : Value) = v)) ∧ (¬ (b1 = true) → (
  (.tuple #[.agg #[.int .i64 0, .int .i64 0, .int .i64 0, .int .i64 0], .int .i64 4] : Value) = v)))) ∧ (¬ (x35 = 0) → (
  (.tuple #[.agg #[.int .i64 0, .int .i64 0, .int .i64 0, .int .i64 0], .int .i64 x35] : Value) = v)))))) ∧ (¬ (x32 = 0) → (
  ((x32 = 0) → (
  ∃ (x33 : Int), (∀ w' : World, Below w.heap.size w w' → Calls Try.prog 17 #[.int .i64 0] w' (Vc.Ret (.int .i64 x33) w')) ∧
  ∃ (x34 : Int), (∀ w' : World, Below w.heap.size w w' → Calls Try.prog 17 #[.int .i64 0] w' (Vc.Ret (.int .i64 x34) w')) ∧
  ∃ (x35 : Int), (∀ w' : World, Below w.heap.size w w' → Calls Try.prog 18 #[.int .i64 0] w' (Vc.Ret (.int .i64 x35) w')) ∧
  ∃ (x36 : Int), (∀ w' : World, Below w.heap.size w w' → Calls Try.prog 18 #[.int .i64 0] w' (Vc.Ret (.int .i64 x36) w')) ∧
  ∃ (b1 : Bool), (∀ w' : World, Below w.heap.size w w' → Calls Try.prog 19 #[.agg #[.int .i64 x33, .int .i64 x34, .int .i64 x35, .int .i64 x36]] w' (Vc.Ret (.bool b1) w')) ∧
  ((b1 = true) → (
  (.tuple #[.agg #[.int .i64 x33, .int .i64 x34, .int .i64 x35, .int .i64 x36], .int .i64 0] : Value) = v)) ∧ (¬ (b1 = true) → (
  (.tuple #[.agg #[.int .i64 0, .int .i64 0, .int .i64 0, .int .i64 0], .int .i64 4] : Value) = v)))) ∧ (¬ (x32 = 0) → (
  (.tuple #[.agg #[.int .i64 0, .int .i64 0, .int .i64 0, .int .i64 0], .int .i64 x32] : Value) = v)))))) ∧ (¬ (x29 = 0) → (
  ((x29 = 0) → (
  ∃ (x30 : Int), (∀ w' : World, Below w.heap.size w w' → Calls Try.prog 17 #[.int .i64 0] w' (Vc.Ret (.int .i64 x30) w')) ∧
  ∃ (x31 : Int), (∀ w' : World, Below w.heap.size w w' → Calls Try.prog 17 #[.int .i64 0] w' (Vc.Ret (.int .i64 x31) w')) ∧
  ∃ (x32 : Int), (∀ w' : World, Below w.heap.size w w' → Calls Try.prog 18 #[.int .i64 0] w' (Vc.Ret (.int .i64 x32) w')) ∧
  ∃ (x33 : Int), (∀ w' : World, Below w.heap.size w w' → Calls Try.prog 18 #[.int .i64 0] w' (Vc.Ret (.int .i64 x33) w')) ∧
  ∃ (b1 : Bool), (∀ w' : World, Below w.heap.size w w' → Calls Try.prog 19 #[.agg #[.int .i64 x30, .int .i64 x31, .int .i64 x32, .int .i64 x33]] w' (Vc.Ret (.bool b1) w')) ∧
  ((b1 = true) → (
  (.tuple #[.agg #[.int .i64 x30, .int .i64 x31, .int .i64 x32, .int .i64 x33], .int .i64 0] : Value) = v)) ∧ (¬ (b1 = true) → (
  (.tuple #[.agg #[.int .i64 0, .int .i64 0, .int .i64 0, .int .i64 0], .int .i64 4] : Value) = v)))) ∧ (¬ (x29 = 0) → (
  (.tuple #[.agg #[.int .i64 0, .int .i64 0, .int .i64 0, .int .i64 0], .int .i64 x29] : Value) = v)))))) ∧ (¬ (x26 = 0) → (
  ((x26 = 0) → (
  ∃ (x27 : Int), (∀ w' : World, Below w.heap.size w w' → Calls Try.prog 17 #[.int .i64 0] w' (Vc.Ret (.int .i64 x27) w')) ∧
  ∃ (x28 : Int), (∀ w' : World, Below w.heap.size w w' → Calls Try.prog 17 #[.int .i64 0] w' (Vc.Ret (.int .i64 x28) w')) ∧
  ∃ (x29 : Int), (∀ w' : World, Below w.heap.size w w' → Calls Try.prog 18 #[.int .i64 0] w' (Vc.Ret (.int .i64 x29) w')) ∧
  ∃ (x30 : Int), (∀ w' : World, Below w.heap.size w w' → Calls Try.prog 18 #[.int .i64 0] w' (Vc.Ret (.int .i64 x30) w')) ∧
  ∃ (b1 : Bool), (∀ w' : World, Below w.heap.size w w' → Calls Try.prog 19 #[.agg #[.int .i64 x27, .int .i64 x28, .int .i64 x29, .int .i64 x30]] w' (Vc.Ret (.bool b1) w')) ∧
  ((b1 = true) → (
  (.tuple #[.agg #[.int .i64 x27, .int .i64 x28, .int .i64 x29, .int .i64 x30], .int .i64 0] : Value) = v)) ∧ (¬ (b1 = true) → (
  (.tuple #[.agg #[.int .i64 0, .int .i64 0, .int .i64 0, .int .i64 0], .int .i64 4] : Value) = v)))) ∧ (¬ (x26 = 0) → (
  (.tuple #[.agg #[.int .i64 0, .int .i64 0, .int .i64 0, .int .i64 0], .int .i64 x26] : Value) = v)))))) ∧ (¬ (x23 = 0) → (
  ((x23 = 0) → (
  ∃ (x24 : Int), (∀ w' : World, Below w.heap.size w w' → Calls Try.prog 17 #[.int .i64 0] w' (Vc.Ret (.int .i64 x24) w')) ∧
  ∃ (x25 : Int), (∀ w' : World, Below w.heap.size w w' → Calls Try.prog 17 #[.int .i64 0] w' (Vc.Ret (.int .i64 x25) w')) ∧
  ∃ (x26 : Int), (∀ w' : World, Below w.heap.size w w' → Calls Try.prog 18 #[.int .i64 0] w' (Vc.Ret (.int .i64 x26) w')) ∧
  ∃ (x27 : Int), (∀ w' : World, Below w.heap.size w w' → Calls Try.prog 18 #[.int .i64 0] w' (Vc.Ret (.int .i64 x27) w')) ∧
  ∃ (b1 : Bool), (∀ w' : World, Below w.heap.size w w' → Calls Try.prog 19 #[.agg #[.int .i64 x24, .int .i64 x25, .int .i64 x26, .int .i64 x27]] w' (Vc.Ret (.bool b1) w')) ∧
  ((b1 = true) → (
  (.tuple #[.agg #[.int .i64 x24, .int .i64 x25, .int .i64 x26, .int .i64 x27], .int .i64 0] : Value) = v)) ∧ (¬ (b1 = true) → (
  (.tuple #[.agg #[.int .i64 0, .int .i64 0, .int .i64 0, .int .i64 0], .int .i64 4] : Value) = v)))) ∧ (¬ (x23 = 0) → (
  (.tuple #[.agg #[.int .i64 0, .int .i64 0, .int .i64 0, .int .i64 0], .int .i64 x23] : Value) = v)))))) ∧ (¬ (x20 = 0) → (
  ((x20 = 0) → (
  ∃ (x21 : Int), (∀ w' : World, Below w.heap.size w w' → Calls Try.prog 17 #[.int .i64 0] w' (Vc.Ret (.int .i64 x21) w')) ∧
  ∃ (x22 : Int), (∀ w' : World, Below w.heap.size w w' → Calls Try.prog 17 #[.int .i64 0] w' (Vc.Ret (.int .i64 x22) w')) ∧
  ∃ (x23 : Int), (∀ w' : World, Below w.heap.size w w' → Calls Try.prog 18 #[.int .i64 0] w' (Vc.Ret (.int .i64 x23) w')) ∧
  ∃ (x24 : Int), (∀ w' : World, Below w.heap.size w w' → Calls Try.prog 18 #[.int .i64 0] w' (Vc.Ret (.int .i64 x24) w')) ∧
  ∃ (b1 : Bool), (∀ w' : World, Below w.heap.size w w' → Calls Try.prog 19 #[.agg #[.int .i64 x21, .int .i64 x22, .int .i64 x23, .int .i64 x24]] w' (Vc.Ret (.bool b1) w')) ∧
  ((b1 = true) → (
  (.tuple #[.agg #[.int .i64 x21, .int .i64 x22, .int .i64 x23, .int .i64 x24], .int .i64 0] : Value) = v)) ∧ (¬ (b1 = true) → (
  (.tuple #[.agg #[.int .i64 0, .int .i64 0, .int .i64 0, .int .i64 0], .int .i64 4] : Value) = v)))) ∧ (¬ (x20 = 0) → (
  (.tuple #[.agg #[.int .i64 0, .int .i64 0, .int .i64 0, .int .i64 0], .int .i64 x20] : Value) = v)))))) ∧ (¬ (b0 = true) → (
  (.tuple #[.agg #[.int .i64 0, .int .i64 0, .int .i64 0, .int .i64 0], .int .i64 2] : Value) = v))) : Calls Try.prog 6 #[.agg #[.int .i64 x0, .int .i64 x1, .int .i64 x2, .int .i64 x3, .int .i64 x4, .int .i64 x5, .int .i64 x6, .int .i64 x7, .int .i64 x8, .int .i64 x9, .int .i64 x10, .int .i64 x11, .int .i64 x12, .int .i64 x13, .int .i64 x14, .int .i64 x15, .int .i64 x16, .int .i64 x17]] w (Vc.Ret v w) :=
  Vc.pure_of (base_inl [16] (by kernel_rfl)) [(1000000000006, .unroll)] 200 Try.func6 (b := (Try.f6.body).getD .skip) (by kernel_rfl) [.cv (.agg [.int .i64 (.var 0), .int .i64 (.var 1), .int .i64 (.var 2), .int .i64 (.var 3), .int .i64 (.var 4), .int .i64 (.var 5), .int .i64 (.var 6), .int .i64 (.var 7), .int .i64 (.var 8), .int .i64 (.var 9), .int .i64 (.var 10), .int .i64 (.var 11), .int .i64 (.var 12), .int .i64 (.var 13), .int .i64 (.var 14), .int .i64 (.var 15), .int .i64 (.var 16), .int .i64 (.var 17)])] ⟨18, 0, 0, 0, 0, 0, 0⟩ (Vc.envOf [x0, x1, x2, x3, x4, x5, x6, x7, x8, x9, x10, x11, x12, x13, x14, x15, x16, x17] [] [] []) (by kernel_rfl) (by kernel_rfl) (by kernel_rfl) h

theorem vc_safety_down (x0 : Int) (w : World) (v : Value) (h : 
  ((x0 < (-4503599627370496)) → (
  (.int .i64 536870913 : Value) = v)) ∧ (¬ (x0 < (-4503599627370496)) → (
  ((4503599627370496 < x0) → (
  (.int .i64 536870913 : Value) = v)) ∧ (¬ (4503599627370496 < x0) → (
  ∀ x1 : Int, x1 = IntKind.i64.wrap (x0 * 1000) →
  ∀ x2 : Int, x2 = x1 / 4294967296 →
  (.int .i64 x2 : Value) = v))))) : Calls Try.prog 17 #[.int .i64 x0] w (Vc.Ret v w) :=
  Vc.pure_of base [] 200 Try.func17 (b := (Try.f17.body).getD .skip) (by kernel_rfl) [.cv (.one (.int .i64 (.var 0)))] ⟨1, 0, 0, 0, 0, 0, 0⟩ (Vc.envOf [x0] [] [] []) (by kernel_rfl) (by kernel_rfl) (by kernel_rfl) h

theorem vc_safety_up (x0 : Int) (w : World) (v : Value) (h : 
  ∀ x1 : Int, x1 = IntKind.i64.wrap (0 - x0) →
  ∃ (x2 : Int), (∀ w' : World, Below w.heap.size w w' → Calls Try.prog 17 #[.int .i64 x1] w' (Vc.Ret (.int .i64 x2) w')) ∧
  ∀ x3 : Int, x3 = IntKind.i64.wrap (0 - x2) →
  (.int .i64 x3 : Value) = v) : Calls Try.prog 18 #[.int .i64 x0] w (Vc.Ret v w) :=
  Vc.pure_of base [] 200 Try.func18 (b := (Try.f18.body).getD .skip) (by kernel_rfl) [.cv (.one (.int .i64 (.var 0)))] ⟨1, 0, 0, 0, 0, 0, 0⟩ (Vc.envOf [x0] [] [] []) (by kernel_rfl) (by kernel_rfl) (by kernel_rfl) h

theorem vc_safety_square (x0 x1 x2 x3 : Int) (w : World) (v : Value) (h : 
  ∃ (x4 : Int), ∃ (x5 : Int), ∃ (x6 : Int), (∀ w' : World, Below w.heap.size w w' → Calls Try.prog 56 #[.agg #[.int .i64 x0, .int .i64 x1]] w' (Vc.Ret (.tuple #[.agg #[.int .i64 x4, .int .i64 x5], .int .i64 x6]) w')) ∧
  (.tuple #[.agg #[.int .i64 x4, .int .i64 x5], .int .i64 x6] : Value) = v) : Calls Try.prog 30 #[.agg #[.int .i64 x0, .int .i64 x1], .agg #[.int .i64 x2, .int .i64 x3]] w (Vc.Ret v w) :=
  Vc.pure_of base [] 200 Try.func30 (b := (Try.f30.body).getD .skip) (by kernel_rfl) [.cv (.agg [.int .i64 (.var 0), .int .i64 (.var 1)]), .cv (.agg [.int .i64 (.var 2), .int .i64 (.var 3)])] ⟨4, 0, 0, 0, 0, 0, 0⟩ (Vc.envOf [x0, x1, x2, x3] [] [] []) (by kernel_rfl) (by kernel_rfl) (by kernel_rfl) h

theorem vc_safety_double (x0 x1 x2 x3 : Int) (w : World) (v : Value) (h : 
  ∃ (x4 : Int), ∃ (x5 : Int), ∃ (x6 : Int), (∀ w' : World, Below w.heap.size w w' → Calls Try.prog 57 #[.agg #[.int .i64 x0, .int .i64 x1], .int .i64 2] w' (Vc.Ret (.tuple #[.agg #[.int .i64 x4, .int .i64 x5], .int .i64 x6]) w')) ∧
  (.tuple #[.agg #[.int .i64 x4, .int .i64 x5], .int .i64 x6] : Value) = v) : Calls Try.prog 31 #[.agg #[.int .i64 x0, .int .i64 x1], .agg #[.int .i64 x2, .int .i64 x3]] w (Vc.Ret v w) :=
  Vc.pure_of base [] 200 Try.func31 (b := (Try.f31.body).getD .skip) (by kernel_rfl) [.cv (.agg [.int .i64 (.var 0), .int .i64 (.var 1)]), .cv (.agg [.int .i64 (.var 2), .int .i64 (.var 3)])] ⟨4, 0, 0, 0, 0, 0, 0⟩ (Vc.envOf [x0, x1, x2, x3] [] [] []) (by kernel_rfl) (by kernel_rfl) (by kernel_rfl) h

theorem vc_safety_root (x0 x1 x2 x3 : Int) (w : World) (v : Value) (h : 
  ∃ (x4 : Int), ∃ (x5 : Int), ∃ (x6 : Int), (∀ w' : World, Below w.heap.size w w' → Calls Try.prog 67 #[.agg #[.int .i64 x0, .int .i64 x1]] w' (Vc.Ret (.tuple #[.agg #[.int .i64 x4, .int .i64 x5], .int .i64 x6]) w')) ∧
  (.tuple #[.agg #[.int .i64 x4, .int .i64 x5], .int .i64 x6] : Value) = v) : Calls Try.prog 34 #[.agg #[.int .i64 x0, .int .i64 x1], .agg #[.int .i64 x2, .int .i64 x3]] w (Vc.Ret v w) :=
  Vc.pure_of base [] 200 Try.func34 (b := (Try.f34.body).getD .skip) (by kernel_rfl) [.cv (.agg [.int .i64 (.var 0), .int .i64 (.var 1)]), .cv (.agg [.int .i64 (.var 2), .int .i64 (.var 3)])] ⟨4, 0, 0, 0, 0, 0, 0⟩ (Vc.envOf [x0, x1, x2, x3] [] [] []) (by kernel_rfl) (by kernel_rfl) (by kernel_rfl) h

theorem vc_safety_forward (x0 x1 x2 x3 : Int) (w : World) (v : Value) (h : 
  ∃ (x4 : Int), ∃ (x5 : Int), ∃ (x6 : Int), (∀ w' : World, Below w.heap.size w w' → Calls Try.prog 68 #[.agg #[.int .i64 x0, .int .i64 x1], .agg #[.int .i64 x2, .int .i64 x3]] w' (Vc.Ret (.tuple #[.agg #[.int .i64 x4, .int .i64 x5], .int .i64 x6]) w')) ∧
  ∀ x7 : Int, x7 = (if x4 > 0 then x4 else 0) →
  (.tuple #[.agg #[.int .i64 x7, .int .i64 x5], .int .i64 x6] : Value) = v) : Calls Try.prog 35 #[.agg #[.int .i64 x0, .int .i64 x1], .agg #[.int .i64 x2, .int .i64 x3]] w (Vc.Ret v w) :=
  Vc.pure_of base [] 200 Try.func35 (b := (Try.f35.body).getD .skip) (by kernel_rfl) [.cv (.agg [.int .i64 (.var 0), .int .i64 (.var 1)]), .cv (.agg [.int .i64 (.var 2), .int .i64 (.var 3)])] ⟨4, 0, 0, 0, 0, 0, 0⟩ (Vc.envOf [x0, x1, x2, x3] [] [] []) (by kernel_rfl) (by kernel_rfl) (by kernel_rfl) h

theorem vc_safety_valid (x0 x1 x2 x3 x4 x5 x6 x7 x8 x9 x10 x11 x12 x13 x14 x15 x16 x17 : Int) (w : World) (v : Value) (h : 
  ∃ (x18 : Int), (∀ w' : World, Below w.heap.size w w' → Calls Try.prog 29 #[.agg #[.int .i64 x0, .int .i64 x1]] w' (Vc.Ret (.int .i64 x18) w')) ∧
  ((x18 = 0) → (
  ∃ (x19 : Int), (∀ w' : World, Below w.heap.size w w' → Calls Try.prog 29 #[.agg #[.int .i64 x2, .int .i64 x3]] w' (Vc.Ret (.int .i64 x19) w')) ∧
  ((x19 = 0) → (
  ∃ (x20 : Int), (∀ w' : World, Below w.heap.size w w' → Calls Try.prog 29 #[.agg #[.int .i64 x4, .int .i64 x5]] w' (Vc.Ret (.int .i64 x20) w')) ∧
  ((x20 = 0) → (
  ∃ (x21 : Int), (∀ w' : World, Below w.heap.size w w' → Calls Try.prog 29 #[.agg #[.int .i64 x6, .int .i64 x7]] w' (Vc.Ret (.int .i64 x21) w')) ∧
  ((x21 = 0) → (
  ∃ (x22 : Int), (∀ w' : World, Below w.heap.size w w' → Calls Try.prog 29 #[.agg #[.int .i64 x8, .int .i64 x9]] w' (Vc.Ret (.int .i64 x22) w')) ∧
  ((x22 = 0) → (
  ∃ (x23 : Int), (∀ w' : World, Below w.heap.size w w' → Calls Try.prog 29 #[.agg #[.int .i64 x10, .int .i64 x11]] w' (Vc.Ret (.int .i64 x23) w')) ∧
  ((x23 = 0) → (
  ∃ (x24 : Int), (∀ w' : World, Below w.heap.size w w' → Calls Try.prog 29 #[.agg #[.int .i64 x12, .int .i64 x13]] w' (Vc.Ret (.int .i64 x24) w')) ∧
  ((x24 = 0) → (
  ∃ (x25 : Int), (∀ w' : World, Below w.heap.size w w' → Calls Try.prog 29 #[.agg #[.int .i64 x14, .int .i64 x15]] w' (Vc.Ret (.int .i64 x25) w')) ∧
  ((x25 = 0) → (
  ∃ (x26 : Int), (∀ w' : World, Below w.heap.size w w' → Calls Try.prog 29 #[.agg #[.int .i64 x16, .int .i64 x17]] w' (Vc.Ret (.int .i64 x26) w')) ∧
  ((x26 = 0) → (
  ((0 < x12) → (
  (.bool (decide (x4 ≥ 0)) : Value) = v)) ∧ (¬ (0 < x12) → (
  (.bool false : Value) = v)))) ∧ (¬ (x26 = 0) → (
  (.bool false : Value) = v)))) ∧ (¬ (x25 = 0) → (
  (.bool false : Value) = v)))) ∧ (¬ (x24 = 0) → (
  (.bool false : Value) = v)))) ∧ (¬ (x23 = 0) → (
  (.bool false : Value) = v)))) ∧ (¬ (x22 = 0) → (
  (.bool false : Value) = v)))) ∧ (¬ (x21 = 0) → (
  (.bool false : Value) = v)))) ∧ (¬ (x20 = 0) → (
  (.bool false : Value) = v)))) ∧ (¬ (x19 = 0) → (
  (.bool false : Value) = v)))) ∧ (¬ (x18 = 0) → (
  (.bool false : Value) = v))) : Calls Try.prog 15 #[.agg #[.int .i64 x0, .int .i64 x1, .int .i64 x2, .int .i64 x3, .int .i64 x4, .int .i64 x5, .int .i64 x6, .int .i64 x7, .int .i64 x8, .int .i64 x9, .int .i64 x10, .int .i64 x11, .int .i64 x12, .int .i64 x13, .int .i64 x14, .int .i64 x15, .int .i64 x16, .int .i64 x17]] w (Vc.Ret v w) :=
  Vc.pure_of base [(1000000000002, .unroll)] 200 Try.func15 (b := (Try.f15.body).getD .skip) (by kernel_rfl) [.cv (.agg [.int .i64 (.var 0), .int .i64 (.var 1), .int .i64 (.var 2), .int .i64 (.var 3), .int .i64 (.var 4), .int .i64 (.var 5), .int .i64 (.var 6), .int .i64 (.var 7), .int .i64 (.var 8), .int .i64 (.var 9), .int .i64 (.var 10), .int .i64 (.var 11), .int .i64 (.var 12), .int .i64 (.var 13), .int .i64 (.var 14), .int .i64 (.var 15), .int .i64 (.var 16), .int .i64 (.var 17)])] ⟨18, 0, 0, 0, 0, 0, 0⟩ (Vc.envOf [x0, x1, x2, x3, x4, x5, x6, x7, x8, x9, x10, x11, x12, x13, x14, x15, x16, x17] [] [] []) (by kernel_rfl) (by kernel_rfl) (by kernel_rfl) h

theorem vc_safety_near (x0 x1 : Int) (w : World) (v : Value) (h : 
  ∃ (x2 : Int), (∀ w' : World, Below w.heap.size w w' → Calls Try.prog 54 #[.int .i64 x0] w' (Vc.Ret (.int .i64 x2) w')) ∧
  ∀ x3 : Int, x3 = (if 536870912 < x1 then 536870912 else x1) →
  ∀ x4 : Int, x4 = (if x3 > (-536870912) then x3 else (-536870912)) →
  (.agg #[.int .i64 x2, .int .i64 x4] : Value) = v) : Calls Try.prog 28 #[.agg #[.int .i64 x0, .int .i64 x1]] w (Vc.Ret v w) :=
  Vc.pure_of (base_inl [54] (by kernel_rfl)) [] 200 Try.func28 (b := (Try.f28.body).getD .skip) (by kernel_rfl) [.cv (.agg [.int .i64 (.var 0), .int .i64 (.var 1)])] ⟨2, 0, 0, 0, 0, 0, 0⟩ (Vc.envOf [x0, x1] [] [] []) (by kernel_rfl) (by kernel_rfl) (by kernel_rfl) h

theorem vc_safety_apart_1_1 (p0 p1 : Nat × Nat) (x0 x1 : Int) (w : World) (v : Value) (h : 
  ∃ (x2 : Int), w.cell? ⟨p0.1, p0.2 + (Int.toNat 0) * 1 + 0, none⟩ = some (.int .i64 x2) ∧
  ∀ x3 : Int, x3 = IntKind.i64.wrap (x2 * x0) →
  ∃ (x4 : Int), w.cell? ⟨p1.1, p1.2 + (Int.toNat 0) * 1 + 0, none⟩ = some (.int .i64 x4) ∧
  ∀ x5 : Int, x5 = IntKind.i64.wrap (x4 * x1) →
  ∀ x6 : Int, x6 = IntKind.i64.wrap (x3 + x5) →
  (.int .i64 x6 : Value) = v) : Calls Try.prog 46 #[.agg #[.int .i64 x0, .int .i64 x1], .pointer (some ⟨p0.1, p0.2 + (Int.toNat 0) * 1 + 0, none⟩), .pointer (some ⟨p1.1, p1.2 + (Int.toNat 0) * 1 + 0, none⟩)] w (Vc.Ret v w) :=
  Vc.pure_of base [] 200 Try.func46 (b := (Try.f46.body).getD .skip) (by kernel_rfl) [.cv (.agg [.int .i64 (.var 0), .int .i64 (.var 1)]), .cv (.one (.ext 0 (.lit (0)) 1 0)), .cv (.one (.ext 1 (.lit (0)) 1 0))] ⟨2, 0, 0, 2, 0, 0, 0⟩ (Vc.envOf [x0, x1] [] [] [p0, p1]) (by kernel_rfl) (by kernel_rfl) (by kernel_rfl) h

theorem vc_safety_apart_1 (p0 p1 p2 : Nat × Nat) (x0 x1 : Int) (w : World) (v : Value) (h : 
  ∃ (b0 : Bool) (p3 : Nat × Nat) (x2 x3 : Int), w.cell? ⟨p0.1, p0.2 + (Int.toNat 0) * 1 + 0, none⟩ = some ((if b0 = true then .slice none 0 0 else .slice (some (Vc.qad p3 (Int.toNat x2) (Int.toNat x3))) (Int.toNat x2) (Int.toNat x3) : Value)) ∧
  (¬ (b0 = true)) ∧
  (0 < x2) ∧
  ∃ (x4 : Int), w.cell? ⟨p3.1, p3.2 + (Int.toNat 0) * 2 + 0, none⟩ = some (.int .i64 x4) ∧
  ∃ (x5 : Int), w.cell? ⟨p3.1, p3.2 + (Int.toNat 0) * 2 + 1, none⟩ = some (.int .i64 x5) ∧
  ∃ (x6 : Int), (∀ (β : Nat → Nat) (w' : World), Below w.heap.size w w' → ((w.heap.size ≤ β 0 ∧ w'.heap[β 0]? = some (.cells #[.int .i64 x0] 3)) ∧ (w.heap.size ≤ β 1 ∧ w'.heap[β 1]? = some (.cells #[.int .i64 x1] 3)) ∧ True) → Calls Try.prog 46 #[.agg #[.int .i64 x4, .int .i64 x5], Vc.ptr (β 0) 0, Vc.ptr (β 1) 0] w' (Vc.Ret (.int .i64 x6) w')) ∧
  (¬ (b0 = true)) ∧
  (0 < x2) ∧
  ∃ (x7 : Int), w.cell? ⟨p3.1, p3.2 + (Int.toNat 0) * 2 + 0, none⟩ = some (.int .i64 x7) ∧
  ∃ (x8 : Int), w.cell? ⟨p3.1, p3.2 + (Int.toNat 0) * 2 + 1, none⟩ = some (.int .i64 x8) ∧
  ∃ (x9 : Int), (∀ (β : Nat → Nat) (w' : World), Below w.heap.size w w' → ((w.heap.size ≤ β 0 ∧ w'.heap[β 0]? = some (.cells #[.int .i64 x0] 3)) ∧ (w.heap.size ≤ β 1 ∧ w'.heap[β 1]? = some (.cells #[.int .i64 x1] 3)) ∧ True) → Calls Try.prog 46 #[.agg #[.int .i64 x7, .int .i64 x8], Vc.ptr (β 0) 0, Vc.ptr (β 1) 0] w' (Vc.Ret (.int .i64 x9) w')) ∧
  (0 ≤ x2) ∧
  ((¬ (b0 = true)) ∨ (x2 = 0)) ∧
  ∃ (Ix10 : List Vc.Vl → Prop) (mx10 : List Vc.Vl → Nat), Ix10 [.i x6, .i x9, .i 0] ∧ ∀ (x10 : Int) (x11 : Int) (x12 : Int), Ix10 [.i x10, .i x11, .i x12] → (
  ((x12 < x2) → (
  (¬ (b0 = true)) ∧
  (0 ≤ x12) ∧
  (x12 < x2) ∧
  ∃ (x13 : Int), w.cell? ⟨p3.1, p3.2 + (Int.toNat x12) * 2 + 0, none⟩ = some (.int .i64 x13) ∧
  ∃ (x14 : Int), w.cell? ⟨p3.1, p3.2 + (Int.toNat x12) * 2 + 1, none⟩ = some (.int .i64 x14) ∧
  ∃ (x15 : Int), (∀ (β : Nat → Nat) (w' : World), Below w.heap.size w w' → ((w.heap.size ≤ β 0 ∧ w'.heap[β 0]? = some (.cells #[.int .i64 x0] 3)) ∧ (w.heap.size ≤ β 1 ∧ w'.heap[β 1]? = some (.cells #[.int .i64 x1] 3)) ∧ True) → Calls Try.prog 46 #[.agg #[.int .i64 x13, .int .i64 x14], Vc.ptr (β 0) 0, Vc.ptr (β 1) 0] w' (Vc.Ret (.int .i64 x15) w')) ∧
  ∀ x16 : Int, x16 = (if x15 < x10 then x15 else x10) →
  ∃ (x17 : Int), (∀ (β : Nat → Nat) (w' : World), Below w.heap.size w w' → ((w.heap.size ≤ β 0 ∧ w'.heap[β 0]? = some (.cells #[.int .i64 x0] 3)) ∧ (w.heap.size ≤ β 1 ∧ w'.heap[β 1]? = some (.cells #[.int .i64 x1] 3)) ∧ True) → Calls Try.prog 46 #[.agg #[.int .i64 x13, .int .i64 x14], Vc.ptr (β 0) 0, Vc.ptr (β 1) 0] w' (Vc.Ret (.int .i64 x17) w')) ∧
  ∀ x18 : Int, x18 = (if x17 > x11 then x17 else x11) →
  ∀ x19 : Int, x19 = IntKind.i64.wrap (x12 + 1) →
  Ix10 [.i x16, .i x18, .i x19] ∧ mx10 [.i x16, .i x18, .i x19] < mx10 [.i x10, .i x11, .i x12])) ∧ (¬ (x12 < x2) → (
  ∃ (b1 : Bool) (p4 : Nat × Nat) (x13 x14 : Int), w.cell? ⟨p1.1, p1.2 + (Int.toNat 0) * 1 + 0, none⟩ = some ((if b1 = true then .slice none 0 0 else .slice (some (Vc.qad p4 (Int.toNat x13) (Int.toNat x14))) (Int.toNat x13) (Int.toNat x14) : Value)) ∧
  (¬ (b1 = true)) ∧
  (0 < x13) ∧
  ∃ (x15 : Int), w.cell? ⟨p4.1, p4.2 + (Int.toNat 0) * 2 + 0, none⟩ = some (.int .i64 x15) ∧
  ∃ (x16 : Int), w.cell? ⟨p4.1, p4.2 + (Int.toNat 0) * 2 + 1, none⟩ = some (.int .i64 x16) ∧
  ∃ (x17 : Int), (∀ (β : Nat → Nat) (w' : World), Below w.heap.size w w' → ((w.heap.size ≤ β 0 ∧ w'.heap[β 0]? = some (.cells #[.int .i64 x0] 3)) ∧ (w.heap.size ≤ β 1 ∧ w'.heap[β 1]? = some (.cells #[.int .i64 x1] 3)) ∧ True) → Calls Try.prog 46 #[.agg #[.int .i64 x15, .int .i64 x16], Vc.ptr (β 0) 0, Vc.ptr (β 1) 0] w' (Vc.Ret (.int .i64 x17) w')) ∧
  (¬ (b1 = true)) ∧
  (0 < x13) ∧
  ∃ (x18 : Int), w.cell? ⟨p4.1, p4.2 + (Int.toNat 0) * 2 + 0, none⟩ = some (.int .i64 x18) ∧
  ∃ (x19 : Int), w.cell? ⟨p4.1, p4.2 + (Int.toNat 0) * 2 + 1, none⟩ = some (.int .i64 x19) ∧
  ∃ (x20 : Int), (∀ (β : Nat → Nat) (w' : World), Below w.heap.size w w' → ((w.heap.size ≤ β 0 ∧ w'.heap[β 0]? = some (.cells #[.int .i64 x0] 3)) ∧ (w.heap.size ≤ β 1 ∧ w'.heap[β 1]? = some (.cells #[.int .i64 x1] 3)) ∧ True) → Calls Try.prog 46 #[.agg #[.int .i64 x18, .int .i64 x19], Vc.ptr (β 0) 0, Vc.ptr (β 1) 0] w' (Vc.Ret (.int .i64 x20) w')) ∧
  (0 ≤ x13) ∧
  ((¬ (b1 = true)) ∨ (x13 = 0)) ∧
  ∃ (Ix21 : List Vc.Vl → Prop) (mx21 : List Vc.Vl → Nat), Ix21 [.i x17, .i x20, .i 0] ∧ ∀ (x21 : Int) (x22 : Int) (x23 : Int), Ix21 [.i x21, .i x22, .i x23] → (
  ((x23 < x13) → (
  (¬ (b1 = true)) ∧
  (0 ≤ x23) ∧
  (x23 < x13) ∧
  ∃ (x24 : Int), w.cell? ⟨p4.1, p4.2 + (Int.toNat x23) * 2 + 0, none⟩ = some (.int .i64 x24) ∧
  ∃ (x25 : Int), w.cell? ⟨p4.1, p4.2 + (Int.toNat x23) * 2 + 1, none⟩ = some (.int .i64 x25) ∧
  ∃ (x26 : Int), (∀ (β : Nat → Nat) (w' : World), Below w.heap.size w w' → ((w.heap.size ≤ β 0 ∧ w'.heap[β 0]? = some (.cells #[.int .i64 x0] 3)) ∧ (w.heap.size ≤ β 1 ∧ w'.heap[β 1]? = some (.cells #[.int .i64 x1] 3)) ∧ True) → Calls Try.prog 46 #[.agg #[.int .i64 x24, .int .i64 x25], Vc.ptr (β 0) 0, Vc.ptr (β 1) 0] w' (Vc.Ret (.int .i64 x26) w')) ∧
  ∀ x27 : Int, x27 = (if x26 < x21 then x26 else x21) →
  ∃ (x28 : Int), (∀ (β : Nat → Nat) (w' : World), Below w.heap.size w w' → ((w.heap.size ≤ β 0 ∧ w'.heap[β 0]? = some (.cells #[.int .i64 x0] 3)) ∧ (w.heap.size ≤ β 1 ∧ w'.heap[β 1]? = some (.cells #[.int .i64 x1] 3)) ∧ True) → Calls Try.prog 46 #[.agg #[.int .i64 x24, .int .i64 x25], Vc.ptr (β 0) 0, Vc.ptr (β 1) 0] w' (Vc.Ret (.int .i64 x28) w')) ∧
  ∀ x29 : Int, x29 = (if x28 > x22 then x28 else x22) →
  ∀ x30 : Int, x30 = IntKind.i64.wrap (x23 + 1) →
  Ix21 [.i x27, .i x29, .i x30] ∧ mx21 [.i x27, .i x29, .i x30] < mx21 [.i x21, .i x22, .i x23])) ∧ (¬ (x23 < x13) → (
  ∃ (x24 : Int), w.cell? ⟨p2.1, p2.2 + (Int.toNat 0) * 1 + 0, none⟩ = some (.int .i64 x24) ∧
  ∃ (x25 : Int), (∀ w' : World, Below w.heap.size w w' → Calls Try.prog 48 #[.int .i64 x0] w' (Vc.Ret (.int .i64 x25) w')) ∧
  ∃ (x26 : Int), (∀ w' : World, Below w.heap.size w w' → Calls Try.prog 48 #[.int .i64 x1] w' (Vc.Ret (.int .i64 x26) w')) ∧
  ∀ x27 : Int, x27 = IntKind.i64.wrap (x25 + x26) →
  ∀ x28 : Int, x28 = IntKind.i64.wrap (x24 * x27) →
  ∀ x29 : Int, x29 = IntKind.i64.wrap (x21 - x11) →
  ((x28 < x29) → (
  (.bool true : Value) = v)) ∧ (¬ (x28 < x29) → (
  ∀ x30 : Int, x30 = IntKind.i64.wrap (x10 - x22) →
  (.bool (decide (x30 > x28)) : Value) = v))))))))) : Calls Try.prog 45 #[.int .i64 x0, .int .i64 x1, .pointer (some ⟨p0.1, p0.2 + (Int.toNat 0) * 1 + 0, none⟩), .pointer (some ⟨p1.1, p1.2 + (Int.toNat 0) * 1 + 0, none⟩), .pointer (some ⟨p2.1, p2.2 + (Int.toNat 0) * 1 + 0, none⟩)] w (Vc.Ret v w) :=
  Vc.pure_of (base_inl [47] (by kernel_rfl)) [(1000000000003, .inv [] [3, 4, 19] [20, 21, 22, 6, 23, 24, 25, 26, 27, 28, 29, 30, 31, 32, 33])] 200 Try.func45 (b := (Try.f45.body).getD .skip) (by kernel_rfl) [.cv (.one (.int .i64 (.var 0))), .cv (.one (.int .i64 (.var 1))), .cv (.one (.ext 0 (.lit (0)) 1 0)), .cv (.one (.ext 1 (.lit (0)) 1 0)), .cv (.one (.ext 2 (.lit (0)) 1 0))] ⟨2, 0, 0, 3, 0, 0, 0⟩ (Vc.envOf [x0, x1] [] [] [p0, p1, p2]) (by kernel_rfl) (by kernel_rfl) (by kernel_rfl) h

theorem vc_safety_apart (p0 p1 : Nat × Nat) (x0 x1 x2 x3 x4 : Int) (b0 b1 : Bool) (w : World) (v : Value) (h : 
  ∃ (b2 : Bool), (∀ (β : Nat → Nat) (w' : World), Below w.heap.size w w' → ((w.heap.size ≤ β 0 ∧ w'.heap[β 0]? = some (.cells #[(if b0 = true then .slice none 0 0 else .slice (some (Vc.qad p0 (Int.toNat x0) (Int.toNat x1))) (Int.toNat x0) (Int.toNat x1) : Value)] 44)) ∧ (w.heap.size ≤ β 1 ∧ w'.heap[β 1]? = some (.cells #[(if b1 = true then .slice none 0 0 else .slice (some (Vc.qad p1 (Int.toNat x2) (Int.toNat x3))) (Int.toNat x2) (Int.toNat x3) : Value)] 44)) ∧ (w.heap.size ≤ β 2 ∧ w'.heap[β 2]? = some (.cells #[.int .i64 x4] 3)) ∧ True) → Calls Try.prog 45 #[.int .i64 1, .int .i64 0, Vc.ptr (β 0) 0, Vc.ptr (β 1) 0, Vc.ptr (β 2) 0] w' (Vc.Ret (.bool b2) w')) ∧
  ((b2 = true) → (
  (.bool true : Value) = v)) ∧ (¬ (b2 = true) → (
  ∃ (b3 : Bool), (∀ (β : Nat → Nat) (w' : World), Below w.heap.size w w' → ((w.heap.size ≤ β 0 ∧ w'.heap[β 0]? = some (.cells #[(if b0 = true then .slice none 0 0 else .slice (some (Vc.qad p0 (Int.toNat x0) (Int.toNat x1))) (Int.toNat x0) (Int.toNat x1) : Value)] 44)) ∧ (w.heap.size ≤ β 1 ∧ w'.heap[β 1]? = some (.cells #[(if b1 = true then .slice none 0 0 else .slice (some (Vc.qad p1 (Int.toNat x2) (Int.toNat x3))) (Int.toNat x2) (Int.toNat x3) : Value)] 44)) ∧ (w.heap.size ≤ β 2 ∧ w'.heap[β 2]? = some (.cells #[.int .i64 x4] 3)) ∧ True) → Calls Try.prog 45 #[.int .i64 0, .int .i64 1, Vc.ptr (β 0) 0, Vc.ptr (β 1) 0, Vc.ptr (β 2) 0] w' (Vc.Ret (.bool b3) w')) ∧
  ((b3 = true) → (
  (.bool true : Value) = v)) ∧ (¬ (b3 = true) → (
  (0 ≤ x0) ∧
  ((¬ (b0 = true)) ∨ (x0 = 0)) ∧
  ∃ (Ix5 : List Vc.Vl → Prop) (mx5 : List Vc.Vl → Nat), Ix5 [.i 0] ∧ ∀ (x5 : Int), Ix5 [.i x5] → (
  ((x5 < x0) → (
  (¬ (b0 = true)) ∧
  (0 ≤ x5) ∧
  (x5 < x0) ∧
  ∃ (x6 : Int), w.cell? ⟨p0.1, p0.2 + (Int.toNat x5) * 2 + 0, none⟩ = some (.int .i64 x6) ∧
  ∃ (x7 : Int), w.cell? ⟨p0.1, p0.2 + (Int.toNat x5) * 2 + 1, none⟩ = some (.int .i64 x7) ∧
  ∀ x8 : Int, x8 = IntKind.i64.wrap (x5 + 1) →
  (0 ≤ x0) ∧
  ((¬ (b0 = true)) ∨ (x0 = 0)) ∧
  (x0 ≠ 0) ∧
  ∀ x9 : Int, x9 = Int.tmod x8 x0 →
  (¬ (b0 = true)) ∧
  (0 ≤ x9) ∧
  (x9 < x0) ∧
  ∃ (x10 : Int), w.cell? ⟨p0.1, p0.2 + (Int.toNat x9) * 2 + 0, none⟩ = some (.int .i64 x10) ∧
  ∃ (x11 : Int), w.cell? ⟨p0.1, p0.2 + (Int.toNat x9) * 2 + 1, none⟩ = some (.int .i64 x11) ∧
  ∀ x12 : Int, x12 = IntKind.i64.wrap (x7 - x11) →
  ∀ x13 : Int, x13 = IntKind.i64.wrap (x10 - x6) →
  ∃ (b4 : Bool), (∀ (β : Nat → Nat) (w' : World), Below w.heap.size w w' → ((w.heap.size ≤ β 0 ∧ w'.heap[β 0]? = some (.cells #[(if b0 = true then .slice none 0 0 else .slice (some (Vc.qad p0 (Int.toNat x0) (Int.toNat x1))) (Int.toNat x0) (Int.toNat x1) : Value)] 44)) ∧ (w.heap.size ≤ β 1 ∧ w'.heap[β 1]? = some (.cells #[(if b1 = true then .slice none 0 0 else .slice (some (Vc.qad p1 (Int.toNat x2) (Int.toNat x3))) (Int.toNat x2) (Int.toNat x3) : Value)] 44)) ∧ (w.heap.size ≤ β 2 ∧ w'.heap[β 2]? = some (.cells #[.int .i64 x4] 3)) ∧ True) → Calls Try.prog 45 #[.int .i64 x12, .int .i64 x13, Vc.ptr (β 0) 0, Vc.ptr (β 1) 0, Vc.ptr (β 2) 0] w' (Vc.Ret (.bool b4) w')) ∧
  ((b4 = true) → (
  (.bool true : Value) = v)) ∧ (¬ (b4 = true) → (
  ∀ x14 : Int, x14 = IntKind.i64.wrap (x5 + 1) →
  Ix5 [.i x14] ∧ mx5 [.i x14] < mx5 [.i x5])))) ∧ (¬ (x5 < x0) → (
  (0 ≤ x2) ∧
  ((¬ (b1 = true)) ∨ (x2 = 0)) ∧
  ∃ (Ix6 : List Vc.Vl → Prop) (mx6 : List Vc.Vl → Nat), Ix6 [.i 0] ∧ ∀ (x6 : Int), Ix6 [.i x6] → (
  ((x6 < x2) → (
  (¬ (b1 = true)) ∧
  (0 ≤ x6) ∧
  (x6 < x2) ∧
  ∃ (x7 : Int), w.cell? ⟨p1.1, p1.2 + (Int.toNat x6) * 2 + 0, none⟩ = some (.int .i64 x7) ∧
  ∃ (x8 : Int), w.cell? ⟨p1.1, p1.2 + (Int.toNat x6) * 2 + 1, none⟩ = some (.int .i64 x8) ∧
  ∀ x9 : Int, x9 = IntKind.i64.wrap (x6 + 1) →
  (0 ≤ x2) ∧
  ((¬ (b1 = true)) ∨ (x2 = 0)) ∧
  (x2 ≠ 0) ∧
  ∀ x10 : Int, x10 = Int.tmod x9 x2 →
  (¬ (b1 = true)) ∧
  (0 ≤ x10) ∧
  (x10 < x2) ∧
  ∃ (x11 : Int), w.cell? ⟨p1.1, p1.2 + (Int.toNat x10) * 2 + 0, none⟩ = some (.int .i64 x11) ∧
  ∃ (x12 : Int), w.cell? ⟨p1.1, p1.2 + (Int.toNat x10) * 2 + 1, none⟩ = some (.int .i64 x12) ∧
  ∀ x13 : Int, x13 = IntKind.i64.wrap (x8 - x12) →
  ∀ x14 : Int, x14 = IntKind.i64.wrap (x11 - x7) →
  ∃ (b4 : Bool), (∀ (β : Nat → Nat) (w' : World), Below w.heap.size w w' → ((w.heap.size ≤ β 0 ∧ w'.heap[β 0]? = some (.cells #[(if b0 = true then .slice none 0 0 else .slice (some (Vc.qad p0 (Int.toNat x0) (Int.toNat x1))) (Int.toNat x0) (Int.toNat x1) : Value)] 44)) ∧ (w.heap.size ≤ β 1 ∧ w'.heap[β 1]? = some (.cells #[(if b1 = true then .slice none 0 0 else .slice (some (Vc.qad p1 (Int.toNat x2) (Int.toNat x3))) (Int.toNat x2) (Int.toNat x3) : Value)] 44)) ∧ (w.heap.size ≤ β 2 ∧ w'.heap[β 2]? = some (.cells #[.int .i64 x4] 3)) ∧ True) → Calls Try.prog 45 #[.int .i64 x13, .int .i64 x14, Vc.ptr (β 0) 0, Vc.ptr (β 1) 0, Vc.ptr (β 2) 0] w' (Vc.Ret (.bool b4) w')) ∧
  ((b4 = true) → (
  (.bool true : Value) = v)) ∧ (¬ (b4 = true) → (
  ∀ x15 : Int, x15 = IntKind.i64.wrap (x6 + 1) →
  Ix6 [.i x15] ∧ mx6 [.i x15] < mx6 [.i x6])))) ∧ (¬ (x6 < x2) → (
  (.bool false : Value) = v))))))))))) : Calls Try.prog 23 #[(if b0 = true then .slice none 0 0 else .slice (some (Vc.qad p0 (Int.toNat x0) (Int.toNat x1))) (Int.toNat x0) (Int.toNat x1) : Value), (if b1 = true then .slice none 0 0 else .slice (some (Vc.qad p1 (Int.toNat x2) (Int.toNat x3))) (Int.toNat x2) (Int.toNat x3) : Value), .int .i64 x4] w (Vc.Ret v w) :=
  Vc.pure_of (base_inl [40, 70] (by kernel_rfl)) [(1000000000005, .unroll), (1000000000001, .inv [] [7] [8, 9, 10, 11, 4, 3, 12, 13, 14, 15, 16, 17, 18, 19, 20, 21, 22, 23, 24])] 200 Try.func23 (b := (Try.f23.body).getD .skip) (by kernel_rfl) [.cv (.one (.qsl 0 0 2 (.var 0) (.var 1))), .cv (.one (.qsl 1 1 2 (.var 2) (.var 3))), .cv (.one (.int .i64 (.var 4)))] ⟨5, 2, 0, 2, 0, 0, 0⟩ (Vc.envOf [x0, x1, x2, x3, x4] [b0, b1] [] [p0, p1]) (by kernel_rfl) (by kernel_rfl) (by kernel_rfl) h

end Go.Proofs.Ytpjajgeajncdgaa
