/- What the walks of functions come to (written by program). -/
import Derived.Test.YtogfcodccbcncaaGreatDoorG0
set_option linter.unusedVariables false
set_option maxRecDepth 100000
namespace Go.Proofs.YtogfcodccbcncaaGreatDoor
open Go Go.RowKit
theorem vc_vehicle_gcd (x0 x1 : Int) (w : World) (v : Value) (h : 
  ∃ (Ix2 : List Vc.Vl → Prop) (mx2 : List Vc.Vl → Nat), Ix2 [.i x0, .i x1] ∧ ∀ (x2 : Int) (x3 : Int), Ix2 [.i x2, .i x3] → (
  ((x3 = 0) → (
  ∀ x4 : Int, x4 = IntKind.i64.wrap (0 - x2) →
  ∀ x5 : Int, x5 = (if x4 > x2 then x4 else x2) →
  (.int .i64 x5 : Value) = v)) ∧ (¬ (x3 = 0) → (
  (x3 ≠ 0) ∧
  ∀ x4 : Int, x4 = Int.tmod x2 x3 →
  Ix2 [.i x3, .i x4] ∧ mx2 [.i x3, .i x4] < mx2 [.i x2, .i x3])))) : Calls Tryz.prog 64 #[.int .i64 x0, .int .i64 x1] w (Vc.Ret v w) :=
  Vc.pure_of base [(2000000000001, .inv [] [0, 1] [5, 6, 7, 8, 9, 10])] [] 200 Tryz.func64 (b := (Tryz.f64.body).getD .skip) (by kernel_rfl) [.cv (.one (.int .i64 (.var 0))), .cv (.one (.int .i64 (.var 1)))] ⟨2, 0, 0, 0, 0, 0, 0⟩ [] (Vc.envOf [x0, x1] [] [] []) (by kernel_rfl) Vc.kn_nil (by kernel_rfl) (by kernel_rfl) h

theorem vc_vehicle_CheckQuantity (x0 x1 x2 x3 x4 : Int) (w : World) (v : Value) (h : 
  (((-9) ≤ x2) → (
  ((x2 ≤ 9) → (
  (((-9) ≤ x3) → (
  ((x3 ≤ 9) → (
  (((-9) ≤ x4) → (
  ((x4 ≤ 9) → (
  (((-4611686018427387904) ≤ x0) → (
  ((x0 ≤ 4611686018427387904) → (
  ((1 ≤ x1) → (
  ((x1 ≤ 4611686018427387904) → (
  ∃ (x5 : Int), (∀ w' : World, Below w.heap.size w w' → Calls Tryz.prog 64 #[.int .i64 x0, .int .i64 x1] w' (Vc.Ret (.int .i64 x5) w')) ∧
  (.bool (x5 == 1) : Value) = v)) ∧ (¬ (x1 ≤ 4611686018427387904) → (
  (.bool false : Value) = v)))) ∧ (¬ (1 ≤ x1) → (
  (.bool false : Value) = v)))) ∧ (¬ (x0 ≤ 4611686018427387904) → (
  (.bool false : Value) = v)))) ∧ (¬ ((-4611686018427387904) ≤ x0) → (
  (.bool false : Value) = v)))) ∧ (¬ (x4 ≤ 9) → (
  (.bool false : Value) = v)))) ∧ (¬ ((-9) ≤ x4) → (
  (.bool false : Value) = v)))) ∧ (¬ (x3 ≤ 9) → (
  (.bool false : Value) = v)))) ∧ (¬ ((-9) ≤ x3) → (
  (.bool false : Value) = v)))) ∧ (¬ (x2 ≤ 9) → (
  (.bool false : Value) = v)))) ∧ (¬ ((-9) ≤ x2) → (
  (.bool false : Value) = v))) : Calls Tryz.prog 40 #[.agg #[.int .i64 x0, .int .i64 x1, .int .i64 x2, .int .i64 x3, .int .i64 x4]] w (Vc.Ret v w) :=
  Vc.pure_of (base_inl [63, 66] (by kernel_rfl)) [] [] 200 Tryz.func40 (b := (Tryz.f40.body).getD .skip) (by kernel_rfl) [.cv (.agg [.int .i64 (.var 0), .int .i64 (.var 1), .int .i64 (.var 2), .int .i64 (.var 3), .int .i64 (.var 4)])] ⟨5, 0, 0, 0, 0, 0, 0⟩ [] (Vc.envOf [x0, x1, x2, x3, x4] [] [] []) (by kernel_rfl) Vc.kn_nil (by kernel_rfl) (by kernel_rfl) h

theorem vc_vehicle_product (x0 x1 : Int) (w : World) (v : Value) (h : 
  ∀ x2 : Int, x2 = IntKind.i64.wrap (x0 * x1) →
  ((x1 = 0) → (
  (((-4611686018427387904) ≤ x2) → (
  (.tuple #[.int .i64 x2, .bool (decide (x2 ≤ 4611686018427387904))] : Value) = v)) ∧ (¬ ((-4611686018427387904) ≤ x2) → (
  (.tuple #[.int .i64 x2, .bool false] : Value) = v)))) ∧ (¬ (x1 = 0) → (
  (x1 ≠ 0) ∧
  ∀ x3 : Int, x3 = IntKind.i64.wrap (Int.tdiv x2 x1) →
  ((x3 = x0) → (
  (((-4611686018427387904) ≤ x2) → (
  (.tuple #[.int .i64 x2, .bool (decide (x2 ≤ 4611686018427387904))] : Value) = v)) ∧ (¬ ((-4611686018427387904) ≤ x2) → (
  (.tuple #[.int .i64 x2, .bool false] : Value) = v)))) ∧ (¬ (x3 = x0) → (
  (.tuple #[.int .i64 x2, .bool false] : Value) = v))))) : Calls Tryz.prog 65 #[.int .i64 x0, .int .i64 x1] w (Vc.Ret v w) :=
  Vc.pure_of (base_inl [66] (by kernel_rfl)) [] [] 200 Tryz.func65 (b := (Tryz.f65.body).getD .skip) (by kernel_rfl) [.cv (.one (.int .i64 (.var 0))), .cv (.one (.int .i64 (.var 1)))] ⟨2, 0, 0, 0, 0, 0, 0⟩ [] (Vc.envOf [x0, x1] [] [] []) (by kernel_rfl) Vc.kn_nil (by kernel_rfl) (by kernel_rfl) h

theorem vc_vehicle_made (x0 x1 x2 x3 x4 : Int) (w : World) (v : Value) (h : 
  ∃ (x5 : Int), (∀ w' : World, Below w.heap.size w w' → Calls Tryz.prog 64 #[.int .i64 x0, .int .i64 x1] w' (Vc.Ret (.int .i64 x5) w')) ∧
  (x5 ≠ 0) ∧
  ∀ x6 : Int, x6 = IntKind.i64.wrap (Int.tdiv x0 x5) →
  (x5 ≠ 0) ∧
  ∀ x7 : Int, x7 = IntKind.i64.wrap (Int.tdiv x1 x5) →
  ∃ (b0 : Bool), (∀ w' : World, Below w.heap.size w w' → Calls Tryz.prog 40 #[.agg #[.int .i64 x6, .int .i64 x7, .int .i64 x2, .int .i64 x3, .int .i64 x4]] w' (Vc.Ret (.bool b0) w')) ∧
  ((b0 = true) → (
  (.tuple #[.agg #[.int .i64 x6, .int .i64 x7, .int .i64 x2, .int .i64 x3, .int .i64 x4], .int .i64 0] : Value) = v)) ∧ (¬ (b0 = true) → (
  (.tuple #[.agg #[.int .i64 0, .int .i64 0, .int .i64 0, .int .i64 0, .int .i64 0], .int .i64 4] : Value) = v))) : Calls Tryz.prog 67 #[.int .i64 x0, .int .i64 x1, .agg #[.int .i64 x2, .int .i64 x3, .int .i64 x4]] w (Vc.Ret v w) :=
  Vc.pure_of base [] [] 200 Tryz.func67 (b := (Tryz.f67.body).getD .skip) (by kernel_rfl) [.cv (.one (.int .i64 (.var 0))), .cv (.one (.int .i64 (.var 1))), .cv (.agg [.int .i64 (.var 2), .int .i64 (.var 3), .int .i64 (.var 4)])] ⟨5, 0, 0, 0, 0, 0, 0⟩ [] (Vc.envOf [x0, x1, x2, x3, x4] [] [] []) (by kernel_rfl) Vc.kn_nil (by kernel_rfl) (by kernel_rfl) h

theorem vc_vehicle_Plus (x0 x1 x2 x3 x4 x5 x6 x7 x8 x9 : Int) (w : World) (v : Value) (h : 
  ∃ (b0 : Bool), (∀ w' : World, Below w.heap.size w w' → Calls Tryz.prog 40 #[.agg #[.int .i64 x0, .int .i64 x1, .int .i64 x2, .int .i64 x3, .int .i64 x4]] w' (Vc.Ret (.bool b0) w')) ∧
  ((b0 = true) → (
  ∃ (b1 : Bool), (∀ w' : World, Below w.heap.size w w' → Calls Tryz.prog 40 #[.agg #[.int .i64 x5, .int .i64 x6, .int .i64 x7, .int .i64 x8, .int .i64 x9]] w' (Vc.Ret (.bool b1) w')) ∧
  ((b1 = true) → (
  (((x2 = x7) ∧ ((x3 = x8) ∧ (x4 = x9))) → (
  ∃ (x10 : Int), (∀ w' : World, Below w.heap.size w w' → Calls Tryz.prog 64 #[.int .i64 x1, .int .i64 x6] w' (Vc.Ret (.int .i64 x10) w')) ∧
  (x10 ≠ 0) ∧
  ∀ x11 : Int, x11 = IntKind.i64.wrap (Int.tdiv x6 x10) →
  ∃ (x12 : Int), ∃ (b2 : Bool), (∀ w' : World, Below w.heap.size w w' → Calls Tryz.prog 65 #[.int .i64 x0, .int .i64 x11] w' (Vc.Ret (.tuple #[.int .i64 x12, .bool b2]) w')) ∧
  (x10 ≠ 0) ∧
  ∀ x13 : Int, x13 = IntKind.i64.wrap (Int.tdiv x1 x10) →
  ∃ (x14 : Int), ∃ (b3 : Bool), (∀ w' : World, Below w.heap.size w w' → Calls Tryz.prog 65 #[.int .i64 x5, .int .i64 x13] w' (Vc.Ret (.tuple #[.int .i64 x14, .bool b3]) w')) ∧
  (x10 ≠ 0) ∧
  ∀ x15 : Int, x15 = IntKind.i64.wrap (Int.tdiv x1 x10) →
  ∃ (x16 : Int), ∃ (b4 : Bool), (∀ w' : World, Below w.heap.size w w' → Calls Tryz.prog 65 #[.int .i64 x15, .int .i64 x6] w' (Vc.Ret (.tuple #[.int .i64 x16, .bool b4]) w')) ∧
  ∀ x17 : Int, x17 = IntKind.i64.wrap (x12 + x14) →
  ((b2 = true) → (
  ((b3 = true) → (
  ((b4 = true) → (
  (((-4611686018427387904) ≤ x17) → (
  ((x17 ≤ 4611686018427387904) → (
  ∃ (x18 : Int), ∃ (x19 : Int), ∃ (x20 : Int), ∃ (x21 : Int), ∃ (x22 : Int), ∃ (x23 : Int), (∀ w' : World, Below w.heap.size w w' → Calls Tryz.prog 67 #[.int .i64 x17, .int .i64 x16, .agg #[.int .i64 x2, .int .i64 x3, .int .i64 x4]] w' (Vc.Ret (.tuple #[.agg #[.int .i64 x18, .int .i64 x19, .int .i64 x20, .int .i64 x21, .int .i64 x22], .int .i64 x23]) w')) ∧
  (.tuple #[.agg #[.int .i64 x18, .int .i64 x19, .int .i64 x20, .int .i64 x21, .int .i64 x22], .int .i64 x23] : Value) = v)) ∧ (¬ (x17 ≤ 4611686018427387904) → (
  (.tuple #[.agg #[.int .i64 0, .int .i64 0, .int .i64 0, .int .i64 0, .int .i64 0], .int .i64 4] : Value) = v)))) ∧ (¬ ((-4611686018427387904) ≤ x17) → (
  (.tuple #[.agg #[.int .i64 0, .int .i64 0, .int .i64 0, .int .i64 0, .int .i64 0], .int .i64 4] : Value) = v)))) ∧ (¬ (b4 = true) → (
  (.tuple #[.agg #[.int .i64 0, .int .i64 0, .int .i64 0, .int .i64 0, .int .i64 0], .int .i64 4] : Value) = v)))) ∧ (¬ (b3 = true) → (
  (.tuple #[.agg #[.int .i64 0, .int .i64 0, .int .i64 0, .int .i64 0, .int .i64 0], .int .i64 4] : Value) = v)))) ∧ (¬ (b2 = true) → (
  (.tuple #[.agg #[.int .i64 0, .int .i64 0, .int .i64 0, .int .i64 0, .int .i64 0], .int .i64 4] : Value) = v)))) ∧ (¬ ((x2 = x7) ∧ ((x3 = x8) ∧ (x4 = x9))) → (
  (.tuple #[.agg #[.int .i64 0, .int .i64 0, .int .i64 0, .int .i64 0, .int .i64 0], .int .i64 20] : Value) = v)))) ∧ (¬ (b1 = true) → (
  (.tuple #[.agg #[.int .i64 0, .int .i64 0, .int .i64 0, .int .i64 0, .int .i64 0], .int .i64 2] : Value) = v)))) ∧ (¬ (b0 = true) → (
  (.tuple #[.agg #[.int .i64 0, .int .i64 0, .int .i64 0, .int .i64 0, .int .i64 0], .int .i64 2] : Value) = v))) : Calls Tryz.prog 15 #[.agg #[.int .i64 x0, .int .i64 x1, .int .i64 x2, .int .i64 x3, .int .i64 x4], .agg #[.int .i64 x5, .int .i64 x6, .int .i64 x7, .int .i64 x8, .int .i64 x9]] w (Vc.Ret v w) :=
  Vc.pure_of (base_inl [63, 66] (by kernel_rfl)) [] [] 200 Tryz.func15 (b := (Tryz.f15.body).getD .skip) (by kernel_rfl) [.cv (.agg [.int .i64 (.var 0), .int .i64 (.var 1), .int .i64 (.var 2), .int .i64 (.var 3), .int .i64 (.var 4)]), .cv (.agg [.int .i64 (.var 5), .int .i64 (.var 6), .int .i64 (.var 7), .int .i64 (.var 8), .int .i64 (.var 9)])] ⟨10, 0, 0, 0, 0, 0, 0⟩ [] (Vc.envOf [x0, x1, x2, x3, x4, x5, x6, x7, x8, x9] [] [] []) (by kernel_rfl) Vc.kn_nil (by kernel_rfl) (by kernel_rfl) h

theorem vc_vehicle_Minus (x0 x1 x2 x3 x4 x5 x6 x7 x8 x9 : Int) (w : World) (v : Value) (h : 
  ∃ (b0 : Bool), (∀ w' : World, Below w.heap.size w w' → Calls Tryz.prog 40 #[.agg #[.int .i64 x5, .int .i64 x6, .int .i64 x7, .int .i64 x8, .int .i64 x9]] w' (Vc.Ret (.bool b0) w')) ∧
  ((b0 = true) → (
  ∀ x10 : Int, x10 = IntKind.i64.wrap (0 - x5) →
  ∃ (x11 : Int), ∃ (x12 : Int), ∃ (x13 : Int), ∃ (x14 : Int), ∃ (x15 : Int), ∃ (x16 : Int), (∀ w' : World, Below w.heap.size w w' → Calls Tryz.prog 15 #[.agg #[.int .i64 x0, .int .i64 x1, .int .i64 x2, .int .i64 x3, .int .i64 x4], .agg #[.int .i64 x10, .int .i64 x6, .int .i64 x7, .int .i64 x8, .int .i64 x9]] w' (Vc.Ret (.tuple #[.agg #[.int .i64 x11, .int .i64 x12, .int .i64 x13, .int .i64 x14, .int .i64 x15], .int .i64 x16]) w')) ∧
  (.tuple #[.agg #[.int .i64 x11, .int .i64 x12, .int .i64 x13, .int .i64 x14, .int .i64 x15], .int .i64 x16] : Value) = v)) ∧ (¬ (b0 = true) → (
  (.tuple #[.agg #[.int .i64 0, .int .i64 0, .int .i64 0, .int .i64 0, .int .i64 0], .int .i64 2] : Value) = v))) : Calls Tryz.prog 17 #[.agg #[.int .i64 x0, .int .i64 x1, .int .i64 x2, .int .i64 x3, .int .i64 x4], .agg #[.int .i64 x5, .int .i64 x6, .int .i64 x7, .int .i64 x8, .int .i64 x9]] w (Vc.Ret v w) :=
  Vc.pure_of base [] [] 200 Tryz.func17 (b := (Tryz.f17.body).getD .skip) (by kernel_rfl) [.cv (.agg [.int .i64 (.var 0), .int .i64 (.var 1), .int .i64 (.var 2), .int .i64 (.var 3), .int .i64 (.var 4)]), .cv (.agg [.int .i64 (.var 5), .int .i64 (.var 6), .int .i64 (.var 7), .int .i64 (.var 8), .int .i64 (.var 9)])] ⟨10, 0, 0, 0, 0, 0, 0⟩ [] (Vc.envOf [x0, x1, x2, x3, x4, x5, x6, x7, x8, x9] [] [] []) (by kernel_rfl) Vc.kn_nil (by kernel_rfl) (by kernel_rfl) h

theorem vc_vehicle_Times (x0 x1 x2 x3 x4 x5 x6 x7 x8 x9 : Int) (w : World) (v : Value) (h : 
  ∃ (b0 : Bool), (∀ w' : World, Below w.heap.size w w' → Calls Tryz.prog 40 #[.agg #[.int .i64 x0, .int .i64 x1, .int .i64 x2, .int .i64 x3, .int .i64 x4]] w' (Vc.Ret (.bool b0) w')) ∧
  ((b0 = true) → (
  ∃ (b1 : Bool), (∀ w' : World, Below w.heap.size w w' → Calls Tryz.prog 40 #[.agg #[.int .i64 x5, .int .i64 x6, .int .i64 x7, .int .i64 x8, .int .i64 x9]] w' (Vc.Ret (.bool b1) w')) ∧
  ((b1 = true) → (
  ∃ (x10 : Int), (∀ w' : World, Below w.heap.size w w' → Calls Tryz.prog 64 #[.int .i64 x0, .int .i64 x6] w' (Vc.Ret (.int .i64 x10) w')) ∧
  ∃ (x11 : Int), (∀ w' : World, Below w.heap.size w w' → Calls Tryz.prog 64 #[.int .i64 x5, .int .i64 x1] w' (Vc.Ret (.int .i64 x11) w')) ∧
  (x10 ≠ 0) ∧
  ∀ x12 : Int, x12 = IntKind.i64.wrap (Int.tdiv x0 x10) →
  (x11 ≠ 0) ∧
  ∀ x13 : Int, x13 = IntKind.i64.wrap (Int.tdiv x5 x11) →
  ∃ (x14 : Int), ∃ (b2 : Bool), (∀ w' : World, Below w.heap.size w w' → Calls Tryz.prog 65 #[.int .i64 x12, .int .i64 x13] w' (Vc.Ret (.tuple #[.int .i64 x14, .bool b2]) w')) ∧
  (x11 ≠ 0) ∧
  ∀ x15 : Int, x15 = IntKind.i64.wrap (Int.tdiv x1 x11) →
  (x10 ≠ 0) ∧
  ∀ x16 : Int, x16 = IntKind.i64.wrap (Int.tdiv x6 x10) →
  ∃ (x17 : Int), ∃ (b3 : Bool), (∀ w' : World, Below w.heap.size w w' → Calls Tryz.prog 65 #[.int .i64 x15, .int .i64 x16] w' (Vc.Ret (.tuple #[.int .i64 x17, .bool b3]) w')) ∧
  ((b2 = true) → (
  ((b3 = true) → (
  ∀ x18 : Int, x18 = IntKind.i64.wrap (x2 + x7) →
  ∀ x19 : Int, x19 = IntKind.i64.wrap (x3 + x8) →
  ∀ x20 : Int, x20 = IntKind.i64.wrap (x4 + x9) →
  ∃ (x21 : Int), ∃ (x22 : Int), ∃ (x23 : Int), ∃ (x24 : Int), ∃ (x25 : Int), ∃ (x26 : Int), (∀ w' : World, Below w.heap.size w w' → Calls Tryz.prog 67 #[.int .i64 x14, .int .i64 x17, .agg #[.int .i64 x18, .int .i64 x19, .int .i64 x20]] w' (Vc.Ret (.tuple #[.agg #[.int .i64 x21, .int .i64 x22, .int .i64 x23, .int .i64 x24, .int .i64 x25], .int .i64 x26]) w')) ∧
  (.tuple #[.agg #[.int .i64 x21, .int .i64 x22, .int .i64 x23, .int .i64 x24, .int .i64 x25], .int .i64 x26] : Value) = v)) ∧ (¬ (b3 = true) → (
  (.tuple #[.agg #[.int .i64 0, .int .i64 0, .int .i64 0, .int .i64 0, .int .i64 0], .int .i64 4] : Value) = v)))) ∧ (¬ (b2 = true) → (
  (.tuple #[.agg #[.int .i64 0, .int .i64 0, .int .i64 0, .int .i64 0, .int .i64 0], .int .i64 4] : Value) = v)))) ∧ (¬ (b1 = true) → (
  (.tuple #[.agg #[.int .i64 0, .int .i64 0, .int .i64 0, .int .i64 0, .int .i64 0], .int .i64 2] : Value) = v)))) ∧ (¬ (b0 = true) → (
  (.tuple #[.agg #[.int .i64 0, .int .i64 0, .int .i64 0, .int .i64 0, .int .i64 0], .int .i64 2] : Value) = v))) : Calls Tryz.prog 16 #[.agg #[.int .i64 x0, .int .i64 x1, .int .i64 x2, .int .i64 x3, .int .i64 x4], .agg #[.int .i64 x5, .int .i64 x6, .int .i64 x7, .int .i64 x8, .int .i64 x9]] w (Vc.Ret v w) :=
  Vc.pure_of (base_inl [63] (by kernel_rfl)) [] [] 200 Tryz.func16 (b := (Tryz.f16.body).getD .skip) (by kernel_rfl) [.cv (.agg [.int .i64 (.var 0), .int .i64 (.var 1), .int .i64 (.var 2), .int .i64 (.var 3), .int .i64 (.var 4)]), .cv (.agg [.int .i64 (.var 5), .int .i64 (.var 6), .int .i64 (.var 7), .int .i64 (.var 8), .int .i64 (.var 9)])] ⟨10, 0, 0, 0, 0, 0, 0⟩ [] (Vc.envOf [x0, x1, x2, x3, x4, x5, x6, x7, x8, x9] [] [] []) (by kernel_rfl) Vc.kn_nil (by kernel_rfl) (by kernel_rfl) h

theorem vc_vehicle_Over (x0 x1 x2 x3 x4 x5 x6 x7 x8 x9 : Int) (w : World) (v : Value) (h : 
  ∃ (b0 : Bool), (∀ w' : World, Below w.heap.size w w' → Calls Tryz.prog 40 #[.agg #[.int .i64 x0, .int .i64 x1, .int .i64 x2, .int .i64 x3, .int .i64 x4]] w' (Vc.Ret (.bool b0) w')) ∧
  ((b0 = true) → (
  ∃ (b1 : Bool), (∀ w' : World, Below w.heap.size w w' → Calls Tryz.prog 40 #[.agg #[.int .i64 x5, .int .i64 x6, .int .i64 x7, .int .i64 x8, .int .i64 x9]] w' (Vc.Ret (.bool b1) w')) ∧
  ((b1 = true) → (
  ((x5 = 0) → (
  (.tuple #[.agg #[.int .i64 0, .int .i64 0, .int .i64 0, .int .i64 0, .int .i64 0], .int .i64 2] : Value) = v)) ∧ (¬ (x5 = 0) → (
  ((x5 < 0) → (
  ∀ x10 : Int, x10 = IntKind.i64.wrap ((-1) * x6) →
  ∀ x11 : Int, x11 = IntKind.i64.wrap ((-1) * x5) →
  ∀ x12 : Int, x12 = IntKind.i64.wrap (0 - x7) →
  ∀ x13 : Int, x13 = IntKind.i64.wrap (0 - x8) →
  ∀ x14 : Int, x14 = IntKind.i64.wrap (0 - x9) →
  ∃ (x15 : Int), ∃ (x16 : Int), ∃ (x17 : Int), ∃ (x18 : Int), ∃ (x19 : Int), ∃ (x20 : Int), (∀ w' : World, Below w.heap.size w w' → Calls Tryz.prog 16 #[.agg #[.int .i64 x0, .int .i64 x1, .int .i64 x2, .int .i64 x3, .int .i64 x4], .agg #[.int .i64 x10, .int .i64 x11, .int .i64 x12, .int .i64 x13, .int .i64 x14]] w' (Vc.Ret (.tuple #[.agg #[.int .i64 x15, .int .i64 x16, .int .i64 x17, .int .i64 x18, .int .i64 x19], .int .i64 x20]) w')) ∧
  (.tuple #[.agg #[.int .i64 x15, .int .i64 x16, .int .i64 x17, .int .i64 x18, .int .i64 x19], .int .i64 x20] : Value) = v)) ∧ (¬ (x5 < 0) → (
  ∀ x10 : Int, x10 = IntKind.i64.wrap (1 * x6) →
  ∀ x11 : Int, x11 = IntKind.i64.wrap (1 * x5) →
  ∀ x12 : Int, x12 = IntKind.i64.wrap (0 - x7) →
  ∀ x13 : Int, x13 = IntKind.i64.wrap (0 - x8) →
  ∀ x14 : Int, x14 = IntKind.i64.wrap (0 - x9) →
  ∃ (x15 : Int), ∃ (x16 : Int), ∃ (x17 : Int), ∃ (x18 : Int), ∃ (x19 : Int), ∃ (x20 : Int), (∀ w' : World, Below w.heap.size w w' → Calls Tryz.prog 16 #[.agg #[.int .i64 x0, .int .i64 x1, .int .i64 x2, .int .i64 x3, .int .i64 x4], .agg #[.int .i64 x10, .int .i64 x11, .int .i64 x12, .int .i64 x13, .int .i64 x14]] w' (Vc.Ret (.tuple #[.agg #[.int .i64 x15, .int .i64 x16, .int .i64 x17, .int .i64 x18, .int .i64 x19], .int .i64 x20]) w')) ∧
  (.tuple #[.agg #[.int .i64 x15, .int .i64 x16, .int .i64 x17, .int .i64 x18, .int .i64 x19], .int .i64 x20] : Value) = v)))))) ∧ (¬ (b1 = true) → (
  (.tuple #[.agg #[.int .i64 0, .int .i64 0, .int .i64 0, .int .i64 0, .int .i64 0], .int .i64 2] : Value) = v)))) ∧ (¬ (b0 = true) → (
  (.tuple #[.agg #[.int .i64 0, .int .i64 0, .int .i64 0, .int .i64 0, .int .i64 0], .int .i64 2] : Value) = v))) : Calls Tryz.prog 18 #[.agg #[.int .i64 x0, .int .i64 x1, .int .i64 x2, .int .i64 x3, .int .i64 x4], .agg #[.int .i64 x5, .int .i64 x6, .int .i64 x7, .int .i64 x8, .int .i64 x9]] w (Vc.Ret v w) :=
  Vc.pure_of base [] [] 200 Tryz.func18 (b := (Tryz.f18.body).getD .skip) (by kernel_rfl) [.cv (.agg [.int .i64 (.var 0), .int .i64 (.var 1), .int .i64 (.var 2), .int .i64 (.var 3), .int .i64 (.var 4)]), .cv (.agg [.int .i64 (.var 5), .int .i64 (.var 6), .int .i64 (.var 7), .int .i64 (.var 8), .int .i64 (.var 9)])] ⟨10, 0, 0, 0, 0, 0, 0⟩ [] (Vc.envOf [x0, x1, x2, x3, x4, x5, x6, x7, x8, x9] [] [] []) (by kernel_rfl) Vc.kn_nil (by kernel_rfl) (by kernel_rfl) h

def Vj_ullagelaw02_VehicleLaws_T4 (w : World) (v : Value) : Prop :=
  ∃ (b0 : Bool), (∀ w' : World, Below w.heap.size w w' → Calls Tryz.prog 19 #[] w' (Vc.Ret (.bool b0) w')) ∧
  (.bool b0 : Value) = v
def Vj_ullagelaw02_VehicleLaws_T3 (x62 : Int) (x57 : Int) (x0 : Int) (x58 : Int) (x1 : Int) (x59 : Int) (x2 : Int) (x60 : Int) (x3 : Int) (x61 : Int) (x4 : Int) (w : World) (v : Value) (x5 : Int) : Prop :=
  ((x62 = 0) → (
  (((x57 = x0) ∧ ((x58 = x1) ∧ ((x59 = x2) ∧ ((x60 = x3) ∧ (x61 = x4))))) → ( Vj_ullagelaw02_VehicleLaws_T4 w v)) ∧ (¬ ((x57 = x0) ∧ ((x58 = x1) ∧ ((x59 = x2) ∧ ((x60 = x3) ∧ (x61 = x4))))) → (
  ((x5 = 0) → ( Vj_ullagelaw02_VehicleLaws_T4 w v)) ∧ (¬ (x5 = 0) → (
  (.bool false : Value) = v)))))) ∧ (¬ (x62 = 0) → ( Vj_ullagelaw02_VehicleLaws_T4 w v))
def Vj_ullagelaw02_VehicleLaws_T2 (x32 : Int) (w : World) (x27 : Int) (x28 : Int) (x29 : Int) (x30 : Int) (x31 : Int) (x10 : Int) (x11 : Int) (x12 : Int) (x13 : Int) (x14 : Int) (x5 : Int) (x6 : Int) (x7 : Int) (x8 : Int) (x9 : Int) (x0 : Int) (x1 : Int) (x2 : Int) (x3 : Int) (x4 : Int) (v : Value) : Prop :=
  ((x32 = 0) → (
  ∃ (x39 : Int), ∃ (x40 : Int), ∃ (x41 : Int), ∃ (x42 : Int), ∃ (x43 : Int), ∃ (x44 : Int), (∀ w' : World, Below w.heap.size w w' → Calls Tryz.prog 16 #[.agg #[.int .i64 x27, .int .i64 x28, .int .i64 x29, .int .i64 x30, .int .i64 x31], .agg #[.int .i64 x10, .int .i64 x11, .int .i64 x12, .int .i64 x13, .int .i64 x14]] w' (Vc.Ret (.tuple #[.agg #[.int .i64 x39, .int .i64 x40, .int .i64 x41, .int .i64 x42, .int .i64 x43], .int .i64 x44]) w')) ∧
  ∃ (x45 : Int), ∃ (x46 : Int), ∃ (x47 : Int), ∃ (x48 : Int), ∃ (x49 : Int), ∃ (x50 : Int), (∀ w' : World, Below w.heap.size w w' → Calls Tryz.prog 16 #[.agg #[.int .i64 x5, .int .i64 x6, .int .i64 x7, .int .i64 x8, .int .i64 x9], .agg #[.int .i64 x10, .int .i64 x11, .int .i64 x12, .int .i64 x13, .int .i64 x14]] w' (Vc.Ret (.tuple #[.agg #[.int .i64 x45, .int .i64 x46, .int .i64 x47, .int .i64 x48, .int .i64 x49], .int .i64 x50]) w')) ∧
  ∃ (x51 : Int), ∃ (x52 : Int), ∃ (x53 : Int), ∃ (x54 : Int), ∃ (x55 : Int), ∃ (x56 : Int), (∀ w' : World, Below w.heap.size w w' → Calls Tryz.prog 16 #[.agg #[.int .i64 x0, .int .i64 x1, .int .i64 x2, .int .i64 x3, .int .i64 x4], .agg #[.int .i64 x45, .int .i64 x46, .int .i64 x47, .int .i64 x48, .int .i64 x49]] w' (Vc.Ret (.tuple #[.agg #[.int .i64 x51, .int .i64 x52, .int .i64 x53, .int .i64 x54, .int .i64 x55], .int .i64 x56]) w')) ∧
  ∃ (x57 : Int), ∃ (x58 : Int), ∃ (x59 : Int), ∃ (x60 : Int), ∃ (x61 : Int), ∃ (x62 : Int), (∀ w' : World, Below w.heap.size w w' → Calls Tryz.prog 18 #[.agg #[.int .i64 x27, .int .i64 x28, .int .i64 x29, .int .i64 x30, .int .i64 x31], .agg #[.int .i64 x5, .int .i64 x6, .int .i64 x7, .int .i64 x8, .int .i64 x9]] w' (Vc.Ret (.tuple #[.agg #[.int .i64 x57, .int .i64 x58, .int .i64 x59, .int .i64 x60, .int .i64 x61], .int .i64 x62]) w')) ∧
  ((x44 = 0) → (
  ((x50 = 0) → (
  ((x56 = 0) → (
  (((x39 = x51) ∧ ((x40 = x52) ∧ ((x41 = x53) ∧ ((x42 = x54) ∧ (x43 = x55))))) → ( Vj_ullagelaw02_VehicleLaws_T3 x62 x57 x0 x58 x1 x59 x2 x60 x3 x61 x4 w v x5)) ∧ (¬ ((x39 = x51) ∧ ((x40 = x52) ∧ ((x41 = x53) ∧ ((x42 = x54) ∧ (x43 = x55))))) → (
  (.bool false : Value) = v)))) ∧ (¬ (x56 = 0) → ( Vj_ullagelaw02_VehicleLaws_T3 x62 x57 x0 x58 x1 x59 x2 x60 x3 x61 x4 w v x5)))) ∧ (¬ (x50 = 0) → ( Vj_ullagelaw02_VehicleLaws_T3 x62 x57 x0 x58 x1 x59 x2 x60 x3 x61 x4 w v x5)))) ∧ (¬ (x44 = 0) → ( Vj_ullagelaw02_VehicleLaws_T3 x62 x57 x0 x58 x1 x59 x2 x60 x3 x61 x4 w v x5)))) ∧ (¬ (x32 = 0) → ( Vj_ullagelaw02_VehicleLaws_T4 w v))
def Vj_ullagelaw02_VehicleLaws_T1 (x62 : Int) (x57 : Int) (x0 : Int) (x58 : Int) (x1 : Int) (x59 : Int) (x2 : Int) (x60 : Int) (x3 : Int) (x61 : Int) (x4 : Int) (x32 : Int) (w : World) (x27 : Int) (x28 : Int) (x29 : Int) (x30 : Int) (x31 : Int) (x10 : Int) (x11 : Int) (x12 : Int) (x13 : Int) (x14 : Int) (x5 : Int) (x6 : Int) (x7 : Int) (x8 : Int) (x9 : Int) (v : Value) : Prop :=
  ((x62 = 0) → (
  (((x57 = x0) ∧ ((x58 = x1) ∧ ((x59 = x2) ∧ ((x60 = x3) ∧ (x61 = x4))))) → ( Vj_ullagelaw02_VehicleLaws_T2 x32 w x27 x28 x29 x30 x31 x10 x11 x12 x13 x14 x5 x6 x7 x8 x9 x0 x1 x2 x3 x4 v)) ∧ (¬ ((x57 = x0) ∧ ((x58 = x1) ∧ ((x59 = x2) ∧ ((x60 = x3) ∧ (x61 = x4))))) → (
  (.bool false : Value) = v)))) ∧ (¬ (x62 = 0) → ( Vj_ullagelaw02_VehicleLaws_T2 x32 w x27 x28 x29 x30 x31 x10 x11 x12 x13 x14 x5 x6 x7 x8 x9 x0 x1 x2 x3 x4 v))
theorem vc_ullagelaw02_VehicleLaws (x0 x1 x2 x3 x4 x5 x6 x7 x8 x9 x10 x11 x12 x13 x14 : Int) (w : World) (v : Value) (h : 
  ∃ (x15 : Int), ∃ (x16 : Int), ∃ (x17 : Int), ∃ (x18 : Int), ∃ (x19 : Int), ∃ (x20 : Int), (∀ w' : World, Below w.heap.size w w' → Calls Tryz.prog 15 #[.agg #[.int .i64 x0, .int .i64 x1, .int .i64 x2, .int .i64 x3, .int .i64 x4], .agg #[.int .i64 x5, .int .i64 x6, .int .i64 x7, .int .i64 x8, .int .i64 x9]] w' (Vc.Ret (.tuple #[.agg #[.int .i64 x15, .int .i64 x16, .int .i64 x17, .int .i64 x18, .int .i64 x19], .int .i64 x20]) w')) ∧
  ∃ (x21 : Int), ∃ (x22 : Int), ∃ (x23 : Int), ∃ (x24 : Int), ∃ (x25 : Int), ∃ (x26 : Int), (∀ w' : World, Below w.heap.size w w' → Calls Tryz.prog 15 #[.agg #[.int .i64 x5, .int .i64 x6, .int .i64 x7, .int .i64 x8, .int .i64 x9], .agg #[.int .i64 x0, .int .i64 x1, .int .i64 x2, .int .i64 x3, .int .i64 x4]] w' (Vc.Ret (.tuple #[.agg #[.int .i64 x21, .int .i64 x22, .int .i64 x23, .int .i64 x24, .int .i64 x25], .int .i64 x26]) w')) ∧
  ∃ (x27 : Int), ∃ (x28 : Int), ∃ (x29 : Int), ∃ (x30 : Int), ∃ (x31 : Int), ∃ (x32 : Int), (∀ w' : World, Below w.heap.size w w' → Calls Tryz.prog 16 #[.agg #[.int .i64 x0, .int .i64 x1, .int .i64 x2, .int .i64 x3, .int .i64 x4], .agg #[.int .i64 x5, .int .i64 x6, .int .i64 x7, .int .i64 x8, .int .i64 x9]] w' (Vc.Ret (.tuple #[.agg #[.int .i64 x27, .int .i64 x28, .int .i64 x29, .int .i64 x30, .int .i64 x31], .int .i64 x32]) w')) ∧
  ∃ (x33 : Int), ∃ (x34 : Int), ∃ (x35 : Int), ∃ (x36 : Int), ∃ (x37 : Int), ∃ (x38 : Int), (∀ w' : World, Below w.heap.size w w' → Calls Tryz.prog 16 #[.agg #[.int .i64 x5, .int .i64 x6, .int .i64 x7, .int .i64 x8, .int .i64 x9], .agg #[.int .i64 x0, .int .i64 x1, .int .i64 x2, .int .i64 x3, .int .i64 x4]] w' (Vc.Ret (.tuple #[.agg #[.int .i64 x33, .int .i64 x34, .int .i64 x35, .int .i64 x36, .int .i64 x37], .int .i64 x38]) w')) ∧
  (((x15 = x21) ∧ ((x16 = x22) ∧ ((x17 = x23) ∧ ((x18 = x24) ∧ (x19 = x25))))) → (
  ((x20 = x26) → (
  (((x27 = x33) ∧ ((x28 = x34) ∧ ((x29 = x35) ∧ ((x30 = x36) ∧ (x31 = x37))))) → (
  ((x32 = x38) → (
  ((x20 = 0) → (
  ∃ (x39 : Int), ∃ (x40 : Int), ∃ (x41 : Int), ∃ (x42 : Int), ∃ (x43 : Int), ∃ (x44 : Int), (∀ w' : World, Below w.heap.size w w' → Calls Tryz.prog 15 #[.agg #[.int .i64 x15, .int .i64 x16, .int .i64 x17, .int .i64 x18, .int .i64 x19], .agg #[.int .i64 x10, .int .i64 x11, .int .i64 x12, .int .i64 x13, .int .i64 x14]] w' (Vc.Ret (.tuple #[.agg #[.int .i64 x39, .int .i64 x40, .int .i64 x41, .int .i64 x42, .int .i64 x43], .int .i64 x44]) w')) ∧
  ∃ (x45 : Int), ∃ (x46 : Int), ∃ (x47 : Int), ∃ (x48 : Int), ∃ (x49 : Int), ∃ (x50 : Int), (∀ w' : World, Below w.heap.size w w' → Calls Tryz.prog 15 #[.agg #[.int .i64 x5, .int .i64 x6, .int .i64 x7, .int .i64 x8, .int .i64 x9], .agg #[.int .i64 x10, .int .i64 x11, .int .i64 x12, .int .i64 x13, .int .i64 x14]] w' (Vc.Ret (.tuple #[.agg #[.int .i64 x45, .int .i64 x46, .int .i64 x47, .int .i64 x48, .int .i64 x49], .int .i64 x50]) w')) ∧
  ∃ (x51 : Int), ∃ (x52 : Int), ∃ (x53 : Int), ∃ (x54 : Int), ∃ (x55 : Int), ∃ (x56 : Int), (∀ w' : World, Below w.heap.size w w' → Calls Tryz.prog 15 #[.agg #[.int .i64 x0, .int .i64 x1, .int .i64 x2, .int .i64 x3, .int .i64 x4], .agg #[.int .i64 x45, .int .i64 x46, .int .i64 x47, .int .i64 x48, .int .i64 x49]] w' (Vc.Ret (.tuple #[.agg #[.int .i64 x51, .int .i64 x52, .int .i64 x53, .int .i64 x54, .int .i64 x55], .int .i64 x56]) w')) ∧
  ∃ (x57 : Int), ∃ (x58 : Int), ∃ (x59 : Int), ∃ (x60 : Int), ∃ (x61 : Int), ∃ (x62 : Int), (∀ w' : World, Below w.heap.size w w' → Calls Tryz.prog 17 #[.agg #[.int .i64 x15, .int .i64 x16, .int .i64 x17, .int .i64 x18, .int .i64 x19], .agg #[.int .i64 x5, .int .i64 x6, .int .i64 x7, .int .i64 x8, .int .i64 x9]] w' (Vc.Ret (.tuple #[.agg #[.int .i64 x57, .int .i64 x58, .int .i64 x59, .int .i64 x60, .int .i64 x61], .int .i64 x62]) w')) ∧
  ((x44 = 0) → (
  ((x50 = 0) → (
  ((x56 = 0) → (
  (((x39 = x51) ∧ ((x40 = x52) ∧ ((x41 = x53) ∧ ((x42 = x54) ∧ (x43 = x55))))) → ( Vj_ullagelaw02_VehicleLaws_T1 x62 x57 x0 x58 x1 x59 x2 x60 x3 x61 x4 x32 w x27 x28 x29 x30 x31 x10 x11 x12 x13 x14 x5 x6 x7 x8 x9 v)) ∧ (¬ ((x39 = x51) ∧ ((x40 = x52) ∧ ((x41 = x53) ∧ ((x42 = x54) ∧ (x43 = x55))))) → (
  (.bool false : Value) = v)))) ∧ (¬ (x56 = 0) → ( Vj_ullagelaw02_VehicleLaws_T1 x62 x57 x0 x58 x1 x59 x2 x60 x3 x61 x4 x32 w x27 x28 x29 x30 x31 x10 x11 x12 x13 x14 x5 x6 x7 x8 x9 v)))) ∧ (¬ (x50 = 0) → ( Vj_ullagelaw02_VehicleLaws_T1 x62 x57 x0 x58 x1 x59 x2 x60 x3 x61 x4 x32 w x27 x28 x29 x30 x31 x10 x11 x12 x13 x14 x5 x6 x7 x8 x9 v)))) ∧ (¬ (x44 = 0) → ( Vj_ullagelaw02_VehicleLaws_T1 x62 x57 x0 x58 x1 x59 x2 x60 x3 x61 x4 x32 w x27 x28 x29 x30 x31 x10 x11 x12 x13 x14 x5 x6 x7 x8 x9 v)))) ∧ (¬ (x20 = 0) → ( Vj_ullagelaw02_VehicleLaws_T2 x32 w x27 x28 x29 x30 x31 x10 x11 x12 x13 x14 x5 x6 x7 x8 x9 x0 x1 x2 x3 x4 v)))) ∧ (¬ (x32 = x38) → (
  (.bool false : Value) = v)))) ∧ (¬ ((x27 = x33) ∧ ((x28 = x34) ∧ ((x29 = x35) ∧ ((x30 = x36) ∧ (x31 = x37))))) → (
  (.bool false : Value) = v)))) ∧ (¬ (x20 = x26) → (
  (.bool false : Value) = v)))) ∧ (¬ ((x15 = x21) ∧ ((x16 = x22) ∧ ((x17 = x23) ∧ ((x18 = x24) ∧ (x19 = x25))))) → (
  (.bool false : Value) = v))) : Calls Tryz.prog 3 #[.agg #[.int .i64 x0, .int .i64 x1, .int .i64 x2, .int .i64 x3, .int .i64 x4], .agg #[.int .i64 x5, .int .i64 x6, .int .i64 x7, .int .i64 x8, .int .i64 x9], .agg #[.int .i64 x10, .int .i64 x11, .int .i64 x12, .int .i64 x13, .int .i64 x14]] w (Vc.Ret v w) :=
  Vc.pure_of base [] [] 200 Tryz.func3 (b := (Tryz.f3.body).getD .skip) (by kernel_rfl) [.cv (.agg [.int .i64 (.var 0), .int .i64 (.var 1), .int .i64 (.var 2), .int .i64 (.var 3), .int .i64 (.var 4)]), .cv (.agg [.int .i64 (.var 5), .int .i64 (.var 6), .int .i64 (.var 7), .int .i64 (.var 8), .int .i64 (.var 9)]), .cv (.agg [.int .i64 (.var 10), .int .i64 (.var 11), .int .i64 (.var 12), .int .i64 (.var 13), .int .i64 (.var 14)])] ⟨15, 0, 0, 0, 0, 0, 0⟩ [] (Vc.envOf [x0, x1, x2, x3, x4, x5, x6, x7, x8, x9, x10, x11, x12, x13, x14] [] [] []) (by kernel_rfl) Vc.kn_nil (by kernel_rfl) (by kernel_rfl) h

end Go.Proofs.YtogfcodccbcncaaGreatDoor
