/- What the walks of functions come to (written by program). -/
import Derived.Test.YtogfcodccbcncaaGreatDoorG0
set_option linter.unusedVariables false
set_option maxRecDepth 100000
namespace Go.Proofs.YtogfcodccbcncaaGreatDoor
open Go Go.RowKit
theorem vc_vehicle_gcd (x0 x1 : Int) (w : World) (v : Value) (h : 
  ∃ (Ix2 : List Vc.Vl → Prop) (mx2 : List Vc.Vl → Nat), Ix2 [.i x0, .i x1] ∧ ∀ (x2 : Int) (x3 : Int), Ix2 [.i x2, .i x3] → (
  ((x3 = 0) → (
  ∀ x4 : Int, x4 = IntKind.i64.wrap (0 - x2) →
  ∀ x5 : Int, x5 = (if x4 > x2 then x4 else x2) →
  (.int .i64 x5 : Value) = v)) ∧ (¬ (x3 = 0) → (
  (x3 ≠ 0) ∧
  ∀ x4 : Int, x4 = Int.tmod x2 x3 →
  Ix2 [.i x3, .i x4] ∧ mx2 [.i x3, .i x4] < mx2 [.i x2, .i x3])))) : Calls Tryz.prog 64 #[.int .i64 x0, .int .i64 x1] w (Vc.Ret v w) :=
  Vc.pure_of base [(2000000000001, .inv [] [0, 1] [5, 6, 7, 8, 9, 10])] [] 200 Tryz.func64 (b := (Tryz.f64.body).getD .skip) (by kernel_rfl) [.cv (.one (.int .i64 (.var 0))), .cv (.one (.int .i64 (.var 1)))] ⟨2, 0, 0, 0, 0, 0, 0⟩ [] (Vc.envOf [x0, x1] [] [] []) (by kernel_rfl) Vc.kn_nil (by kernel_rfl) (by kernel_rfl) h

theorem vc_vehicle_CheckQuantity (x0 x1 x2 x3 x4 : Int) (w : World) (v : Value) (h : 
  (((-9) ≤ x2) → (
  ((x2 ≤ 9) → (
  (((-9) ≤ x3) → (
  ((x3 ≤ 9) → (
  (((-9) ≤ x4) → (
  ((x4 ≤ 9) → (
  (((-4611686018427387904) ≤ x0) → (
  ((x0 ≤ 4611686018427387904) → (
  ((1 ≤ x1) → (
  ((x1 ≤ 4611686018427387904) → (
  ∃ (x5 : Int), (∀ w' : World, Below w.heap.size w w' → Calls Tryz.prog 64 #[.int .i64 x0, .int .i64 x1] w' (Vc.Ret (.int .i64 x5) w')) ∧
  (.bool (x5 == 1) : Value) = v)) ∧ (¬ (x1 ≤ 4611686018427387904) → (
  (.bool false : Value) = v)))) ∧ (¬ (1 ≤ x1) → (
  (.bool false : Value) = v)))) ∧ (¬ (x0 ≤ 4611686018427387904) → (
  (.bool false : Value) = v)))) ∧ (¬ ((-4611686018427387904) ≤ x0) → (
  (.bool false : Value) = v)))) ∧ (¬ (x4 ≤ 9) → (
  (.bool false : Value) = v)))) ∧ (¬ ((-9) ≤ x4) → (
  (.bool false : Value) = v)))) ∧ (¬ (x3 ≤ 9) → (
  (.bool false : Value) = v)))) ∧ (¬ ((-9) ≤ x3) → (
  (.bool false : Value) = v)))) ∧ (¬ (x2 ≤ 9) → (
  (.bool false : Value) = v)))) ∧ (¬ ((-9) ≤ x2) → (
  (.bool false : Value) = v))) : Calls Tryz.prog 40 #[.agg #[.int .i64 x0, .int .i64 x1, .int .i64 x2, .int .i64 x3, .int .i64 x4]] w (Vc.Ret v w) :=
  Vc.pure_of (base_inl [63, 66] (by kernel_rfl)) [] [] 200 Tryz.func40 (b := (Tryz.f40.body).getD .skip) (by kernel_rfl) [.cv (.agg [.int .i64 (.var 0), .int .i64 (.var 1), .int .i64 (.var 2), .int .i64 (.var 3), .int .i64 (.var 4)])] ⟨5, 0, 0, 0, 0, 0, 0⟩ [] (Vc.envOf [x0, x1, x2, x3, x4] [] [] []) (by kernel_rfl) Vc.kn_nil (by kernel_rfl) (by kernel_rfl) h

theorem vc_ullageref02_gcd (x0 x1 : Int) (w : World) (v : Value) (h : 
  ∃ (Ix2 : List Vc.Vl → Prop) (mx2 : List Vc.Vl → Nat), Ix2 [.i x0, .i x1] ∧ ∀ (x2 : Int) (x3 : Int), Ix2 [.i x2, .i x3] → (
  ((x3 = 0) → (
  ∀ x4 : Int, x4 = IntKind.i64.wrap (0 - x2) →
  ∀ x5 : Int, x5 = (if x4 > x2 then x4 else x2) →
  (.int .i64 x5 : Value) = v)) ∧ (¬ (x3 = 0) → (
  (x3 ≠ 0) ∧
  ∀ x4 : Int, x4 = Int.tmod x2 x3 →
  Ix2 [.i x3, .i x4] ∧ mx2 [.i x3, .i x4] < mx2 [.i x2, .i x3])))) : Calls Tryz.prog 106 #[.int .i64 x0, .int .i64 x1] w (Vc.Ret v w) :=
  Vc.pure_of base [(2000000000001, .inv [] [0, 1] [6, 7, 8, 9, 10, 5, 11, 12])] [] 200 Tryz.func106 (b := (Tryz.f106.body).getD .skip) (by kernel_rfl) [.cv (.one (.int .i64 (.var 0))), .cv (.one (.int .i64 (.var 1)))] ⟨2, 0, 0, 0, 0, 0, 0⟩ [] (Vc.envOf [x0, x1] [] [] []) (by kernel_rfl) Vc.kn_nil (by kernel_rfl) (by kernel_rfl) h

theorem vc_ullageref02_CheckQuantity (x0 x1 x2 x3 x4 : Int) (w : World) (v : Value) (h : 
  (((-4611686018427387904) ≤ x0) → (
  ((x0 ≤ 4611686018427387904) → (
  ((1 ≤ x1) → (
  ((x1 ≤ 4611686018427387904) → (
  ∃ (x5 : Int), (∀ w' : World, Below w.heap.size w w' → Calls Tryz.prog 106 #[.int .i64 x0, .int .i64 x1] w' (Vc.Ret (.int .i64 x5) w')) ∧
  ((x5 = 1) → (
  (((-9) ≤ x2) → (
  ((x2 ≤ 9) → (
  (((-9) ≤ x3) → (
  ((x3 ≤ 9) → (
  (((-9) ≤ x4) → (
  (.bool (decide (x4 ≤ 9)) : Value) = v)) ∧ (¬ ((-9) ≤ x4) → (
  (.bool false : Value) = v)))) ∧ (¬ (x3 ≤ 9) → (
  (.bool false : Value) = v)))) ∧ (¬ ((-9) ≤ x3) → (
  (.bool false : Value) = v)))) ∧ (¬ (x2 ≤ 9) → (
  (.bool false : Value) = v)))) ∧ (¬ ((-9) ≤ x2) → (
  (.bool false : Value) = v)))) ∧ (¬ (x5 = 1) → (
  (.bool false : Value) = v)))) ∧ (¬ (x1 ≤ 4611686018427387904) → (
  (.bool false : Value) = v)))) ∧ (¬ (1 ≤ x1) → (
  (.bool false : Value) = v)))) ∧ (¬ (x0 ≤ 4611686018427387904) → (
  (.bool false : Value) = v)))) ∧ (¬ ((-4611686018427387904) ≤ x0) → (
  (.bool false : Value) = v))) : Calls Tryz.prog 41 #[.agg #[.int .i64 x0, .int .i64 x1, .int .i64 x2, .int .i64 x3, .int .i64 x4]] w (Vc.Ret v w) :=
  Vc.pure_of (base_inl [69] (by kernel_rfl)) [] [] 200 Tryz.func41 (b := (Tryz.f41.body).getD .skip) (by kernel_rfl) [.cv (.agg [.int .i64 (.var 0), .int .i64 (.var 1), .int .i64 (.var 2), .int .i64 (.var 3), .int .i64 (.var 4)])] ⟨5, 0, 0, 0, 0, 0, 0⟩ [] (Vc.envOf [x0, x1, x2, x3, x4] [] [] []) (by kernel_rfl) Vc.kn_nil (by kernel_rfl) (by kernel_rfl) h

theorem vc_vehicle_product (x0 x1 : Int) (w : World) (v : Value) (h : 
  ∀ x2 : Int, x2 = IntKind.i64.wrap (x0 * x1) →
  ((x1 = 0) → (
  (((-4611686018427387904) ≤ x2) → (
  (.tuple #[.int .i64 x2, .bool (decide (x2 ≤ 4611686018427387904))] : Value) = v)) ∧ (¬ ((-4611686018427387904) ≤ x2) → (
  (.tuple #[.int .i64 x2, .bool false] : Value) = v)))) ∧ (¬ (x1 = 0) → (
  (x1 ≠ 0) ∧
  ∀ x3 : Int, x3 = IntKind.i64.wrap (Int.tdiv x2 x1) →
  ((x3 = x0) → (
  (((-4611686018427387904) ≤ x2) → (
  (.tuple #[.int .i64 x2, .bool (decide (x2 ≤ 4611686018427387904))] : Value) = v)) ∧ (¬ ((-4611686018427387904) ≤ x2) → (
  (.tuple #[.int .i64 x2, .bool false] : Value) = v)))) ∧ (¬ (x3 = x0) → (
  (.tuple #[.int .i64 x2, .bool false] : Value) = v))))) : Calls Tryz.prog 65 #[.int .i64 x0, .int .i64 x1] w (Vc.Ret v w) :=
  Vc.pure_of (base_inl [66] (by kernel_rfl)) [] [] 200 Tryz.func65 (b := (Tryz.f65.body).getD .skip) (by kernel_rfl) [.cv (.one (.int .i64 (.var 0))), .cv (.one (.int .i64 (.var 1)))] ⟨2, 0, 0, 0, 0, 0, 0⟩ [] (Vc.envOf [x0, x1] [] [] []) (by kernel_rfl) Vc.kn_nil (by kernel_rfl) (by kernel_rfl) h

theorem vc_vehicle_made (x0 x1 x2 x3 x4 : Int) (w : World) (v : Value) (h : 
  ∃ (x5 : Int), (∀ w' : World, Below w.heap.size w w' → Calls Tryz.prog 64 #[.int .i64 x0, .int .i64 x1] w' (Vc.Ret (.int .i64 x5) w')) ∧
  (x5 ≠ 0) ∧
  ∀ x6 : Int, x6 = IntKind.i64.wrap (Int.tdiv x0 x5) →
  (x5 ≠ 0) ∧
  ∀ x7 : Int, x7 = IntKind.i64.wrap (Int.tdiv x1 x5) →
  ∃ (b0 : Bool), (∀ w' : World, Below w.heap.size w w' → Calls Tryz.prog 40 #[.agg #[.int .i64 x6, .int .i64 x7, .int .i64 x2, .int .i64 x3, .int .i64 x4]] w' (Vc.Ret (.bool b0) w')) ∧
  ((b0 = true) → (
  (.tuple #[.agg #[.int .i64 x6, .int .i64 x7, .int .i64 x2, .int .i64 x3, .int .i64 x4], .int .i64 0] : Value) = v)) ∧ (¬ (b0 = true) → (
  (.tuple #[.agg #[.int .i64 0, .int .i64 0, .int .i64 0, .int .i64 0, .int .i64 0], .int .i64 4] : Value) = v))) : Calls Tryz.prog 67 #[.int .i64 x0, .int .i64 x1, .agg #[.int .i64 x2, .int .i64 x3, .int .i64 x4]] w (Vc.Ret v w) :=
  Vc.pure_of base [] [] 200 Tryz.func67 (b := (Tryz.f67.body).getD .skip) (by kernel_rfl) [.cv (.one (.int .i64 (.var 0))), .cv (.one (.int .i64 (.var 1))), .cv (.agg [.int .i64 (.var 2), .int .i64 (.var 3), .int .i64 (.var 4)])] ⟨5, 0, 0, 0, 0, 0, 0⟩ [] (Vc.envOf [x0, x1, x2, x3, x4] [] [] []) (by kernel_rfl) Vc.kn_nil (by kernel_rfl) (by kernel_rfl) h

theorem vc_vehicle_Plus (x0 x1 x2 x3 x4 x5 x6 x7 x8 x9 : Int) (w : World) (v : Value) (h : 
  ∃ (b0 : Bool), (∀ w' : World, Below w.heap.size w w' → Calls Tryz.prog 40 #[.agg #[.int .i64 x0, .int .i64 x1, .int .i64 x2, .int .i64 x3, .int .i64 x4]] w' (Vc.Ret (.bool b0) w')) ∧
  ((b0 = true) → (
  ∃ (b1 : Bool), (∀ w' : World, Below w.heap.size w w' → Calls Tryz.prog 40 #[.agg #[.int .i64 x5, .int .i64 x6, .int .i64 x7, .int .i64 x8, .int .i64 x9]] w' (Vc.Ret (.bool b1) w')) ∧
  ((b1 = true) → (
  (((x2 = x7) ∧ ((x3 = x8) ∧ (x4 = x9))) → (
  ∃ (x10 : Int), (∀ w' : World, Below w.heap.size w w' → Calls Tryz.prog 64 #[.int .i64 x1, .int .i64 x6] w' (Vc.Ret (.int .i64 x10) w')) ∧
  (x10 ≠ 0) ∧
  ∀ x11 : Int, x11 = IntKind.i64.wrap (Int.tdiv x6 x10) →
  ∃ (x12 : Int), ∃ (b2 : Bool), (∀ w' : World, Below w.heap.size w w' → Calls Tryz.prog 65 #[.int .i64 x0, .int .i64 x11] w' (Vc.Ret (.tuple #[.int .i64 x12, .bool b2]) w')) ∧
  (x10 ≠ 0) ∧
  ∀ x13 : Int, x13 = IntKind.i64.wrap (Int.tdiv x1 x10) →
  ∃ (x14 : Int), ∃ (b3 : Bool), (∀ w' : World, Below w.heap.size w w' → Calls Tryz.prog 65 #[.int .i64 x5, .int .i64 x13] w' (Vc.Ret (.tuple #[.int .i64 x14, .bool b3]) w')) ∧
  (x10 ≠ 0) ∧
  ∀ x15 : Int, x15 = IntKind.i64.wrap (Int.tdiv x1 x10) →
  ∃ (x16 : Int), ∃ (b4 : Bool), (∀ w' : World, Below w.heap.size w w' → Calls Tryz.prog 65 #[.int .i64 x15, .int .i64 x6] w' (Vc.Ret (.tuple #[.int .i64 x16, .bool b4]) w')) ∧
  ∀ x17 : Int, x17 = IntKind.i64.wrap (x12 + x14) →
  ((b2 = true) → (
  ((b3 = true) → (
  ((b4 = true) → (
  (((-4611686018427387904) ≤ x17) → (
  ((x17 ≤ 4611686018427387904) → (
  ∃ (x18 : Int), ∃ (x19 : Int), ∃ (x20 : Int), ∃ (x21 : Int), ∃ (x22 : Int), ∃ (x23 : Int), (∀ w' : World, Below w.heap.size w w' → Calls Tryz.prog 67 #[.int .i64 x17, .int .i64 x16, .agg #[.int .i64 x2, .int .i64 x3, .int .i64 x4]] w' (Vc.Ret (.tuple #[.agg #[.int .i64 x18, .int .i64 x19, .int .i64 x20, .int .i64 x21, .int .i64 x22], .int .i64 x23]) w')) ∧
  (.tuple #[.agg #[.int .i64 x18, .int .i64 x19, .int .i64 x20, .int .i64 x21, .int .i64 x22], .int .i64 x23] : Value) = v)) ∧ (¬ (x17 ≤ 4611686018427387904) → (
  (.tuple #[.agg #[.int .i64 0, .int .i64 0, .int .i64 0, .int .i64 0, .int .i64 0], .int .i64 4] : Value) = v)))) ∧ (¬ ((-4611686018427387904) ≤ x17) → (
  (.tuple #[.agg #[.int .i64 0, .int .i64 0, .int .i64 0, .int .i64 0, .int .i64 0], .int .i64 4] : Value) = v)))) ∧ (¬ (b4 = true) → (
  (.tuple #[.agg #[.int .i64 0, .int .i64 0, .int .i64 0, .int .i64 0, .int .i64 0], .int .i64 4] : Value) = v)))) ∧ (¬ (b3 = true) → (
  (.tuple #[.agg #[.int .i64 0, .int .i64 0, .int .i64 0, .int .i64 0, .int .i64 0], .int .i64 4] : Value) = v)))) ∧ (¬ (b2 = true) → (
  (.tuple #[.agg #[.int .i64 0, .int .i64 0, .int .i64 0, .int .i64 0, .int .i64 0], .int .i64 4] : Value) = v)))) ∧ (¬ ((x2 = x7) ∧ ((x3 = x8) ∧ (x4 = x9))) → (
  (.tuple #[.agg #[.int .i64 0, .int .i64 0, .int .i64 0, .int .i64 0, .int .i64 0], .int .i64 20] : Value) = v)))) ∧ (¬ (b1 = true) → (
  (.tuple #[.agg #[.int .i64 0, .int .i64 0, .int .i64 0, .int .i64 0, .int .i64 0], .int .i64 2] : Value) = v)))) ∧ (¬ (b0 = true) → (
  (.tuple #[.agg #[.int .i64 0, .int .i64 0, .int .i64 0, .int .i64 0, .int .i64 0], .int .i64 2] : Value) = v))) : Calls Tryz.prog 15 #[.agg #[.int .i64 x0, .int .i64 x1, .int .i64 x2, .int .i64 x3, .int .i64 x4], .agg #[.int .i64 x5, .int .i64 x6, .int .i64 x7, .int .i64 x8, .int .i64 x9]] w (Vc.Ret v w) :=
  Vc.pure_of (base_inl [63, 66] (by kernel_rfl)) [] [] 200 Tryz.func15 (b := (Tryz.f15.body).getD .skip) (by kernel_rfl) [.cv (.agg [.int .i64 (.var 0), .int .i64 (.var 1), .int .i64 (.var 2), .int .i64 (.var 3), .int .i64 (.var 4)]), .cv (.agg [.int .i64 (.var 5), .int .i64 (.var 6), .int .i64 (.var 7), .int .i64 (.var 8), .int .i64 (.var 9)])] ⟨10, 0, 0, 0, 0, 0, 0⟩ [] (Vc.envOf [x0, x1, x2, x3, x4, x5, x6, x7, x8, x9] [] [] []) (by kernel_rfl) Vc.kn_nil (by kernel_rfl) (by kernel_rfl) h

theorem vc_vehicle_Minus (x0 x1 x2 x3 x4 x5 x6 x7 x8 x9 : Int) (w : World) (v : Value) (h : 
  ∃ (b0 : Bool), (∀ w' : World, Below w.heap.size w w' → Calls Tryz.prog 40 #[.agg #[.int .i64 x5, .int .i64 x6, .int .i64 x7, .int .i64 x8, .int .i64 x9]] w' (Vc.Ret (.bool b0) w')) ∧
  ((b0 = true) → (
  ∀ x10 : Int, x10 = IntKind.i64.wrap (0 - x5) →
  ∃ (x11 : Int), ∃ (x12 : Int), ∃ (x13 : Int), ∃ (x14 : Int), ∃ (x15 : Int), ∃ (x16 : Int), (∀ w' : World, Below w.heap.size w w' → Calls Tryz.prog 15 #[.agg #[.int .i64 x0, .int .i64 x1, .int .i64 x2, .int .i64 x3, .int .i64 x4], .agg #[.int .i64 x10, .int .i64 x6, .int .i64 x7, .int .i64 x8, .int .i64 x9]] w' (Vc.Ret (.tuple #[.agg #[.int .i64 x11, .int .i64 x12, .int .i64 x13, .int .i64 x14, .int .i64 x15], .int .i64 x16]) w')) ∧
  (.tuple #[.agg #[.int .i64 x11, .int .i64 x12, .int .i64 x13, .int .i64 x14, .int .i64 x15], .int .i64 x16] : Value) = v)) ∧ (¬ (b0 = true) → (
  (.tuple #[.agg #[.int .i64 0, .int .i64 0, .int .i64 0, .int .i64 0, .int .i64 0], .int .i64 2] : Value) = v))) : Calls Tryz.prog 17 #[.agg #[.int .i64 x0, .int .i64 x1, .int .i64 x2, .int .i64 x3, .int .i64 x4], .agg #[.int .i64 x5, .int .i64 x6, .int .i64 x7, .int .i64 x8, .int .i64 x9]] w (Vc.Ret v w) :=
  Vc.pure_of base [] [] 200 Tryz.func17 (b := (Tryz.f17.body).getD .skip) (by kernel_rfl) [.cv (.agg [.int .i64 (.var 0), .int .i64 (.var 1), .int .i64 (.var 2), .int .i64 (.var 3), .int .i64 (.var 4)]), .cv (.agg [.int .i64 (.var 5), .int .i64 (.var 6), .int .i64 (.var 7), .int .i64 (.var 8), .int .i64 (.var 9)])] ⟨10, 0, 0, 0, 0, 0, 0⟩ [] (Vc.envOf [x0, x1, x2, x3, x4, x5, x6, x7, x8, x9] [] [] []) (by kernel_rfl) Vc.kn_nil (by kernel_rfl) (by kernel_rfl) h

theorem vc_vehicle_Times (x0 x1 x2 x3 x4 x5 x6 x7 x8 x9 : Int) (w : World) (v : Value) (h : 
  ∃ (b0 : Bool), (∀ w' : World, Below w.heap.size w w' → Calls Tryz.prog 40 #[.agg #[.int .i64 x0, .int .i64 x1, .int .i64 x2, .int .i64 x3, .int .i64 x4]] w' (Vc.Ret (.bool b0) w')) ∧
  ((b0 = true) → (
  ∃ (b1 : Bool), (∀ w' : World, Below w.heap.size w w' → Calls Tryz.prog 40 #[.agg #[.int .i64 x5, .int .i64 x6, .int .i64 x7, .int .i64 x8, .int .i64 x9]] w' (Vc.Ret (.bool b1) w')) ∧
  ((b1 = true) → (
  ∃ (x10 : Int), (∀ w' : World, Below w.heap.size w w' → Calls Tryz.prog 64 #[.int .i64 x0, .int .i64 x6] w' (Vc.Ret (.int .i64 x10) w')) ∧
  ∃ (x11 : Int), (∀ w' : World, Below w.heap.size w w' → Calls Tryz.prog 64 #[.int .i64 x5, .int .i64 x1] w' (Vc.Ret (.int .i64 x11) w')) ∧
  (x10 ≠ 0) ∧
  ∀ x12 : Int, x12 = IntKind.i64.wrap (Int.tdiv x0 x10) →
  (x11 ≠ 0) ∧
  ∀ x13 : Int, x13 = IntKind.i64.wrap (Int.tdiv x5 x11) →
  ∃ (x14 : Int), ∃ (b2 : Bool), (∀ w' : World, Below w.heap.size w w' → Calls Tryz.prog 65 #[.int .i64 x12, .int .i64 x13] w' (Vc.Ret (.tuple #[.int .i64 x14, .bool b2]) w')) ∧
  (x11 ≠ 0) ∧
  ∀ x15 : Int, x15 = IntKind.i64.wrap (Int.tdiv x1 x11) →
  (x10 ≠ 0) ∧
  ∀ x16 : Int, x16 = IntKind.i64.wrap (Int.tdiv x6 x10) →
  ∃ (x17 : Int), ∃ (b3 : Bool), (∀ w' : World, Below w.heap.size w w' → Calls Tryz.prog 65 #[.int .i64 x15, .int .i64 x16] w' (Vc.Ret (.tuple #[.int .i64 x17, .bool b3]) w')) ∧
  ((b2 = true) → (
  ((b3 = true) → (
  ∀ x18 : Int, x18 = IntKind.i64.wrap (x2 + x7) →
  ∀ x19 : Int, x19 = IntKind.i64.wrap (x3 + x8) →
  ∀ x20 : Int, x20 = IntKind.i64.wrap (x4 + x9) →
  ∃ (x21 : Int), ∃ (x22 : Int), ∃ (x23 : Int), ∃ (x24 : Int), ∃ (x25 : Int), ∃ (x26 : Int), (∀ w' : World, Below w.heap.size w w' → Calls Tryz.prog 67 #[.int .i64 x14, .int .i64 x17, .agg #[.int .i64 x18, .int .i64 x19, .int .i64 x20]] w' (Vc.Ret (.tuple #[.agg #[.int .i64 x21, .int .i64 x22, .int .i64 x23, .int .i64 x24, .int .i64 x25], .int .i64 x26]) w')) ∧
  (.tuple #[.agg #[.int .i64 x21, .int .i64 x22, .int .i64 x23, .int .i64 x24, .int .i64 x25], .int .i64 x26] : Value) = v)) ∧ (¬ (b3 = true) → (
  (.tuple #[.agg #[.int .i64 0, .int .i64 0, .int .i64 0, .int .i64 0, .int .i64 0], .int .i64 4] : Value) = v)))) ∧ (¬ (b2 = true) → (
  (.tuple #[.agg #[.int .i64 0, .int .i64 0, .int .i64 0, .int .i64 0, .int .i64 0], .int .i64 4] : Value) = v)))) ∧ (¬ (b1 = true) → (
  (.tuple #[.agg #[.int .i64 0, .int .i64 0, .int .i64 0, .int .i64 0, .int .i64 0], .int .i64 2] : Value) = v)))) ∧ (¬ (b0 = true) → (
  (.tuple #[.agg #[.int .i64 0, .int .i64 0, .int .i64 0, .int .i64 0, .int .i64 0], .int .i64 2] : Value) = v))) : Calls Tryz.prog 16 #[.agg #[.int .i64 x0, .int .i64 x1, .int .i64 x2, .int .i64 x3, .int .i64 x4], .agg #[.int .i64 x5, .int .i64 x6, .int .i64 x7, .int .i64 x8, .int .i64 x9]] w (Vc.Ret v w) :=
  Vc.pure_of (base_inl [63] (by kernel_rfl)) [] [] 200 Tryz.func16 (b := (Tryz.f16.body).getD .skip) (by kernel_rfl) [.cv (.agg [.int .i64 (.var 0), .int .i64 (.var 1), .int .i64 (.var 2), .int .i64 (.var 3), .int .i64 (.var 4)]), .cv (.agg [.int .i64 (.var 5), .int .i64 (.var 6), .int .i64 (.var 7), .int .i64 (.var 8), .int .i64 (.var 9)])] ⟨10, 0, 0, 0, 0, 0, 0⟩ [] (Vc.envOf [x0, x1, x2, x3, x4, x5, x6, x7, x8, x9] [] [] []) (by kernel_rfl) Vc.kn_nil (by kernel_rfl) (by kernel_rfl) h

theorem vc_vehicle_Over (x0 x1 x2 x3 x4 x5 x6 x7 x8 x9 : Int) (w : World) (v : Value) (h : 
  ∃ (b0 : Bool), (∀ w' : World, Below w.heap.size w w' → Calls Tryz.prog 40 #[.agg #[.int .i64 x0, .int .i64 x1, .int .i64 x2, .int .i64 x3, .int .i64 x4]] w' (Vc.Ret (.bool b0) w')) ∧
  ((b0 = true) → (
  ∃ (b1 : Bool), (∀ w' : World, Below w.heap.size w w' → Calls Tryz.prog 40 #[.agg #[.int .i64 x5, .int .i64 x6, .int .i64 x7, .int .i64 x8, .int .i64 x9]] w' (Vc.Ret (.bool b1) w')) ∧
  ((b1 = true) → (
  ((x5 = 0) → (
  (.tuple #[.agg #[.int .i64 0, .int .i64 0, .int .i64 0, .int .i64 0, .int .i64 0], .int .i64 2] : Value) = v)) ∧ (¬ (x5 = 0) → (
  ((x5 < 0) → (
  ∀ x10 : Int, x10 = IntKind.i64.wrap ((-1) * x6) →
  ∀ x11 : Int, x11 = IntKind.i64.wrap ((-1) * x5) →
  ∀ x12 : Int, x12 = IntKind.i64.wrap (0 - x7) →
  ∀ x13 : Int, x13 = IntKind.i64.wrap (0 - x8) →
  ∀ x14 : Int, x14 = IntKind.i64.wrap (0 - x9) →
  ∃ (x15 : Int), ∃ (x16 : Int), ∃ (x17 : Int), ∃ (x18 : Int), ∃ (x19 : Int), ∃ (x20 : Int), (∀ w' : World, Below w.heap.size w w' → Calls Tryz.prog 16 #[.agg #[.int .i64 x0, .int .i64 x1, .int .i64 x2, .int .i64 x3, .int .i64 x4], .agg #[.int .i64 x10, .int .i64 x11, .int .i64 x12, .int .i64 x13, .int .i64 x14]] w' (Vc.Ret (.tuple #[.agg #[.int .i64 x15, .int .i64 x16, .int .i64 x17, .int .i64 x18, .int .i64 x19], .int .i64 x20]) w')) ∧
  (.tuple #[.agg #[.int .i64 x15, .int .i64 x16, .int .i64 x17, .int .i64 x18, .int .i64 x19], .int .i64 x20] : Value) = v)) ∧ (¬ (x5 < 0) → (
  ∀ x10 : Int, x10 = IntKind.i64.wrap (1 * x6) →
  ∀ x11 : Int, x11 = IntKind.i64.wrap (1 * x5) →
  ∀ x12 : Int, x12 = IntKind.i64.wrap (0 - x7) →
  ∀ x13 : Int, x13 = IntKind.i64.wrap (0 - x8) →
  ∀ x14 : Int, x14 = IntKind.i64.wrap (0 - x9) →
  ∃ (x15 : Int), ∃ (x16 : Int), ∃ (x17 : Int), ∃ (x18 : Int), ∃ (x19 : Int), ∃ (x20 : Int), (∀ w' : World, Below w.heap.size w w' → Calls Tryz.prog 16 #[.agg #[.int .i64 x0, .int .i64 x1, .int .i64 x2, .int .i64 x3, .int .i64 x4], .agg #[.int .i64 x10, .int .i64 x11, .int .i64 x12, .int .i64 x13, .int .i64 x14]] w' (Vc.Ret (.tuple #[.agg #[.int .i64 x15, .int .i64 x16, .int .i64 x17, .int .i64 x18, .int .i64 x19], .int .i64 x20]) w')) ∧
  (.tuple #[.agg #[.int .i64 x15, .int .i64 x16, .int .i64 x17, .int .i64 x18, .int .i64 x19], .int .i64 x20] : Value) = v)))))) ∧ (¬ (b1 = true) → (
  (.tuple #[.agg #[.int .i64 0, .int .i64 0, .int .i64 0, .int .i64 0, .int .i64 0], .int .i64 2] : Value) = v)))) ∧ (¬ (b0 = true) → (
  (.tuple #[.agg #[.int .i64 0, .int .i64 0, .int .i64 0, .int .i64 0, .int .i64 0], .int .i64 2] : Value) = v))) : Calls Tryz.prog 18 #[.agg #[.int .i64 x0, .int .i64 x1, .int .i64 x2, .int .i64 x3, .int .i64 x4], .agg #[.int .i64 x5, .int .i64 x6, .int .i64 x7, .int .i64 x8, .int .i64 x9]] w (Vc.Ret v w) :=
  Vc.pure_of base [] [] 200 Tryz.func18 (b := (Tryz.f18.body).getD .skip) (by kernel_rfl) [.cv (.agg [.int .i64 (.var 0), .int .i64 (.var 1), .int .i64 (.var 2), .int .i64 (.var 3), .int .i64 (.var 4)]), .cv (.agg [.int .i64 (.var 5), .int .i64 (.var 6), .int .i64 (.var 7), .int .i64 (.var 8), .int .i64 (.var 9)])] ⟨10, 0, 0, 0, 0, 0, 0⟩ [] (Vc.envOf [x0, x1, x2, x3, x4, x5, x6, x7, x8, x9] [] [] []) (by kernel_rfl) Vc.kn_nil (by kernel_rfl) (by kernel_rfl) h

theorem vc_ullageref02_product (x0 x1 : Int) (w : World) (v : Value) (h : 
  ((x0 = 0) → (
  (.tuple #[.int .i64 0, .bool true] : Value) = v)) ∧ (¬ (x0 = 0) → (
  ((x1 = 0) → (
  (.tuple #[.int .i64 0, .bool true] : Value) = v)) ∧ (¬ (x1 = 0) → (
  ∀ x2 : Int, x2 = IntKind.i64.wrap (0 - x0) →
  ∀ x3 : Int, x3 = (if x2 > x0 then x2 else x0) →
  ∀ x4 : Int, x4 = IntKind.i64.wrap (0 - x1) →
  ∀ x5 : Int, x5 = (if x4 > x1 then x4 else x1) →
  (x5 ≠ 0) ∧
  ∀ x6 : Int, x6 = IntKind.i64.wrap (Int.tdiv 4611686018427387904 x5) →
  ((x6 < x3) → (
  (.tuple #[.int .i64 0, .bool false] : Value) = v)) ∧ (¬ (x6 < x3) → (
  ∀ x7 : Int, x7 = IntKind.i64.wrap (x0 * x1) →
  (.tuple #[.int .i64 x7, .bool true] : Value) = v))))))) : Calls Tryz.prog 107 #[.int .i64 x0, .int .i64 x1] w (Vc.Ret v w) :=
  Vc.pure_of base [] [] 200 Tryz.func107 (b := (Tryz.f107.body).getD .skip) (by kernel_rfl) [.cv (.one (.int .i64 (.var 0))), .cv (.one (.int .i64 (.var 1)))] ⟨2, 0, 0, 0, 0, 0, 0⟩ [] (Vc.envOf [x0, x1] [] [] []) (by kernel_rfl) Vc.kn_nil (by kernel_rfl) (by kernel_rfl) h

theorem vc_ullageref02_made (x0 x1 x2 x3 x4 : Int) (w : World) (v : Value) (h : 
  ∃ (x5 : Int), (∀ w' : World, Below w.heap.size w w' → Calls Tryz.prog 106 #[.int .i64 x0, .int .i64 x1] w' (Vc.Ret (.int .i64 x5) w')) ∧
  (x5 ≠ 0) ∧
  ∀ x6 : Int, x6 = IntKind.i64.wrap (Int.tdiv x0 x5) →
  (x5 ≠ 0) ∧
  ∀ x7 : Int, x7 = IntKind.i64.wrap (Int.tdiv x1 x5) →
  ∃ (b0 : Bool), (∀ w' : World, Below w.heap.size w w' → Calls Tryz.prog 41 #[.agg #[.int .i64 x6, .int .i64 x7, .int .i64 x2, .int .i64 x3, .int .i64 x4]] w' (Vc.Ret (.bool b0) w')) ∧
  ((b0 = true) → (
  (.tuple #[.agg #[.int .i64 x6, .int .i64 x7, .int .i64 x2, .int .i64 x3, .int .i64 x4], .int .i64 0] : Value) = v)) ∧ (¬ (b0 = true) → (
  (.tuple #[.agg #[.int .i64 0, .int .i64 0, .int .i64 0, .int .i64 0, .int .i64 0], .int .i64 4] : Value) = v))) : Calls Tryz.prog 108 #[.int .i64 x0, .int .i64 x1, .int .i64 x2, .int .i64 x3, .int .i64 x4] w (Vc.Ret v w) :=
  Vc.pure_of base [] [] 200 Tryz.func108 (b := (Tryz.f108.body).getD .skip) (by kernel_rfl) [.cv (.one (.int .i64 (.var 0))), .cv (.one (.int .i64 (.var 1))), .cv (.one (.int .i64 (.var 2))), .cv (.one (.int .i64 (.var 3))), .cv (.one (.int .i64 (.var 4)))] ⟨5, 0, 0, 0, 0, 0, 0⟩ [] (Vc.envOf [x0, x1, x2, x3, x4] [] [] []) (by kernel_rfl) Vc.kn_nil (by kernel_rfl) (by kernel_rfl) h

theorem vc_ullageref02_Plus (x0 x1 x2 x3 x4 x5 x6 x7 x8 x9 : Int) (w : World) (v : Value) (h : 
  ∃ (b0 : Bool), (∀ w' : World, Below w.heap.size w w' → Calls Tryz.prog 41 #[.agg #[.int .i64 x0, .int .i64 x1, .int .i64 x2, .int .i64 x3, .int .i64 x4]] w' (Vc.Ret (.bool b0) w')) ∧
  ((b0 = true) → (
  ∃ (b1 : Bool), (∀ w' : World, Below w.heap.size w w' → Calls Tryz.prog 41 #[.agg #[.int .i64 x5, .int .i64 x6, .int .i64 x7, .int .i64 x8, .int .i64 x9]] w' (Vc.Ret (.bool b1) w')) ∧
  ((b1 = true) → (
  ((x2 = x7) → (
  ((x3 = x8) → (
  ((x4 = x9) → (
  ∃ (x10 : Int), (∀ w' : World, Below w.heap.size w w' → Calls Tryz.prog 106 #[.int .i64 x1, .int .i64 x6] w' (Vc.Ret (.int .i64 x10) w')) ∧
  (x10 ≠ 0) ∧
  ∀ x11 : Int, x11 = IntKind.i64.wrap (Int.tdiv x6 x10) →
  ∃ (x12 : Int), ∃ (b2 : Bool), (∀ w' : World, Below w.heap.size w w' → Calls Tryz.prog 107 #[.int .i64 x0, .int .i64 x11] w' (Vc.Ret (.tuple #[.int .i64 x12, .bool b2]) w')) ∧
  (x10 ≠ 0) ∧
  ∀ x13 : Int, x13 = IntKind.i64.wrap (Int.tdiv x1 x10) →
  ∃ (x14 : Int), ∃ (b3 : Bool), (∀ w' : World, Below w.heap.size w w' → Calls Tryz.prog 107 #[.int .i64 x5, .int .i64 x13] w' (Vc.Ret (.tuple #[.int .i64 x14, .bool b3]) w')) ∧
  (x10 ≠ 0) ∧
  ∀ x15 : Int, x15 = IntKind.i64.wrap (Int.tdiv x1 x10) →
  ∃ (x16 : Int), ∃ (b4 : Bool), (∀ w' : World, Below w.heap.size w w' → Calls Tryz.prog 107 #[.int .i64 x15, .int .i64 x6] w' (Vc.Ret (.tuple #[.int .i64 x16, .bool b4]) w')) ∧
  ((b2 = true) → (
  ((b3 = true) → (
  ((b4 = true) → (
  ((0 < x12) → (
  ∀ x17 : Int, x17 = IntKind.i64.wrap (4611686018427387904 - x12) →
  ((x17 < x14) → (
  (.tuple #[.agg #[.int .i64 0, .int .i64 0, .int .i64 0, .int .i64 0, .int .i64 0], .int .i64 4] : Value) = v)) ∧ (¬ (x17 < x14) → (
  ((x12 < 0) → (
  ∀ x18 : Int, x18 = IntKind.i64.wrap ((-4611686018427387904) - x12) →
  ((x14 < x18) → (
  (.tuple #[.agg #[.int .i64 0, .int .i64 0, .int .i64 0, .int .i64 0, .int .i64 0], .int .i64 4] : Value) = v)) ∧ (¬ (x14 < x18) → (
  ∀ x19 : Int, x19 = IntKind.i64.wrap (x12 + x14) →
  ∃ (x20 : Int), ∃ (x21 : Int), ∃ (x22 : Int), ∃ (x23 : Int), ∃ (x24 : Int), ∃ (x25 : Int), (∀ w' : World, Below w.heap.size w w' → Calls Tryz.prog 108 #[.int .i64 x19, .int .i64 x16, .int .i64 x2, .int .i64 x3, .int .i64 x4] w' (Vc.Ret (.tuple #[.agg #[.int .i64 x20, .int .i64 x21, .int .i64 x22, .int .i64 x23, .int .i64 x24], .int .i64 x25]) w')) ∧
  (.tuple #[.agg #[.int .i64 x20, .int .i64 x21, .int .i64 x22, .int .i64 x23, .int .i64 x24], .int .i64 x25] : Value) = v)))) ∧ (¬ (x12 < 0) → (
  ∀ x18 : Int, x18 = IntKind.i64.wrap (x12 + x14) →
  ∃ (x19 : Int), ∃ (x20 : Int), ∃ (x21 : Int), ∃ (x22 : Int), ∃ (x23 : Int), ∃ (x24 : Int), (∀ w' : World, Below w.heap.size w w' → Calls Tryz.prog 108 #[.int .i64 x18, .int .i64 x16, .int .i64 x2, .int .i64 x3, .int .i64 x4] w' (Vc.Ret (.tuple #[.agg #[.int .i64 x19, .int .i64 x20, .int .i64 x21, .int .i64 x22, .int .i64 x23], .int .i64 x24]) w')) ∧
  (.tuple #[.agg #[.int .i64 x19, .int .i64 x20, .int .i64 x21, .int .i64 x22, .int .i64 x23], .int .i64 x24] : Value) = v)))))) ∧ (¬ (0 < x12) → (
  ((x12 < 0) → (
  ∀ x17 : Int, x17 = IntKind.i64.wrap ((-4611686018427387904) - x12) →
  ((x14 < x17) → (
  (.tuple #[.agg #[.int .i64 0, .int .i64 0, .int .i64 0, .int .i64 0, .int .i64 0], .int .i64 4] : Value) = v)) ∧ (¬ (x14 < x17) → (
  ∀ x18 : Int, x18 = IntKind.i64.wrap (x12 + x14) →
  ∃ (x19 : Int), ∃ (x20 : Int), ∃ (x21 : Int), ∃ (x22 : Int), ∃ (x23 : Int), ∃ (x24 : Int), (∀ w' : World, Below w.heap.size w w' → Calls Tryz.prog 108 #[.int .i64 x18, .int .i64 x16, .int .i64 x2, .int .i64 x3, .int .i64 x4] w' (Vc.Ret (.tuple #[.agg #[.int .i64 x19, .int .i64 x20, .int .i64 x21, .int .i64 x22, .int .i64 x23], .int .i64 x24]) w')) ∧
  (.tuple #[.agg #[.int .i64 x19, .int .i64 x20, .int .i64 x21, .int .i64 x22, .int .i64 x23], .int .i64 x24] : Value) = v)))) ∧ (¬ (x12 < 0) → (
  ∀ x17 : Int, x17 = IntKind.i64.wrap (x12 + x14) →
  ∃ (x18 : Int), ∃ (x19 : Int), ∃ (x20 : Int), ∃ (x21 : Int), ∃ (x22 : Int), ∃ (x23 : Int), (∀ w' : World, Below w.heap.size w w' → Calls Tryz.prog 108 #[.int .i64 x17, .int .i64 x16, .int .i64 x2, .int .i64 x3, .int .i64 x4] w' (Vc.Ret (.tuple #[.agg #[.int .i64 x18, .int .i64 x19, .int .i64 x20, .int .i64 x21, .int .i64 x22], .int .i64 x23]) w')) ∧
  (.tuple #[.agg #[.int .i64 x18, .int .i64 x19, .int .i64 x20, .int .i64 x21, .int .i64 x22], .int .i64 x23] : Value) = v)))))) ∧ (¬ (b4 = true) → (
  (.tuple #[.agg #[.int .i64 0, .int .i64 0, .int .i64 0, .int .i64 0, .int .i64 0], .int .i64 4] : Value) = v)))) ∧ (¬ (b3 = true) → (
  (.tuple #[.agg #[.int .i64 0, .int .i64 0, .int .i64 0, .int .i64 0, .int .i64 0], .int .i64 4] : Value) = v)))) ∧ (¬ (b2 = true) → (
  (.tuple #[.agg #[.int .i64 0, .int .i64 0, .int .i64 0, .int .i64 0, .int .i64 0], .int .i64 4] : Value) = v)))) ∧ (¬ (x4 = x9) → (
  (.tuple #[.agg #[.int .i64 0, .int .i64 0, .int .i64 0, .int .i64 0, .int .i64 0], .int .i64 20] : Value) = v)))) ∧ (¬ (x3 = x8) → (
  (.tuple #[.agg #[.int .i64 0, .int .i64 0, .int .i64 0, .int .i64 0, .int .i64 0], .int .i64 20] : Value) = v)))) ∧ (¬ (x2 = x7) → (
  (.tuple #[.agg #[.int .i64 0, .int .i64 0, .int .i64 0, .int .i64 0, .int .i64 0], .int .i64 20] : Value) = v)))) ∧ (¬ (b1 = true) → (
  (.tuple #[.agg #[.int .i64 0, .int .i64 0, .int .i64 0, .int .i64 0, .int .i64 0], .int .i64 2] : Value) = v)))) ∧ (¬ (b0 = true) → (
  (.tuple #[.agg #[.int .i64 0, .int .i64 0, .int .i64 0, .int .i64 0, .int .i64 0], .int .i64 2] : Value) = v))) : Calls Tryz.prog 36 #[.agg #[.int .i64 x0, .int .i64 x1, .int .i64 x2, .int .i64 x3, .int .i64 x4], .agg #[.int .i64 x5, .int .i64 x6, .int .i64 x7, .int .i64 x8, .int .i64 x9]] w (Vc.Ret v w) :=
  Vc.pure_of base [] [] 200 Tryz.func36 (b := (Tryz.f36.body).getD .skip) (by kernel_rfl) [.cv (.agg [.int .i64 (.var 0), .int .i64 (.var 1), .int .i64 (.var 2), .int .i64 (.var 3), .int .i64 (.var 4)]), .cv (.agg [.int .i64 (.var 5), .int .i64 (.var 6), .int .i64 (.var 7), .int .i64 (.var 8), .int .i64 (.var 9)])] ⟨10, 0, 0, 0, 0, 0, 0⟩ [] (Vc.envOf [x0, x1, x2, x3, x4, x5, x6, x7, x8, x9] [] [] []) (by kernel_rfl) Vc.kn_nil (by kernel_rfl) (by kernel_rfl) h

theorem vc_ullageref02_Minus (x0 x1 x2 x3 x4 x5 x6 x7 x8 x9 : Int) (w : World) (v : Value) (h : 
  ∃ (b0 : Bool), (∀ w' : World, Below w.heap.size w w' → Calls Tryz.prog 41 #[.agg #[.int .i64 x5, .int .i64 x6, .int .i64 x7, .int .i64 x8, .int .i64 x9]] w' (Vc.Ret (.bool b0) w')) ∧
  ((b0 = true) → (
  ∀ x10 : Int, x10 = IntKind.i64.wrap (0 - x5) →
  ∃ (x11 : Int), ∃ (x12 : Int), ∃ (x13 : Int), ∃ (x14 : Int), ∃ (x15 : Int), ∃ (x16 : Int), (∀ w' : World, Below w.heap.size w w' → Calls Tryz.prog 36 #[.agg #[.int .i64 x0, .int .i64 x1, .int .i64 x2, .int .i64 x3, .int .i64 x4], .agg #[.int .i64 x10, .int .i64 x6, .int .i64 x7, .int .i64 x8, .int .i64 x9]] w' (Vc.Ret (.tuple #[.agg #[.int .i64 x11, .int .i64 x12, .int .i64 x13, .int .i64 x14, .int .i64 x15], .int .i64 x16]) w')) ∧
  (.tuple #[.agg #[.int .i64 x11, .int .i64 x12, .int .i64 x13, .int .i64 x14, .int .i64 x15], .int .i64 x16] : Value) = v)) ∧ (¬ (b0 = true) → (
  (.tuple #[.agg #[.int .i64 0, .int .i64 0, .int .i64 0, .int .i64 0, .int .i64 0], .int .i64 2] : Value) = v))) : Calls Tryz.prog 37 #[.agg #[.int .i64 x0, .int .i64 x1, .int .i64 x2, .int .i64 x3, .int .i64 x4], .agg #[.int .i64 x5, .int .i64 x6, .int .i64 x7, .int .i64 x8, .int .i64 x9]] w (Vc.Ret v w) :=
  Vc.pure_of base [] [] 200 Tryz.func37 (b := (Tryz.f37.body).getD .skip) (by kernel_rfl) [.cv (.agg [.int .i64 (.var 0), .int .i64 (.var 1), .int .i64 (.var 2), .int .i64 (.var 3), .int .i64 (.var 4)]), .cv (.agg [.int .i64 (.var 5), .int .i64 (.var 6), .int .i64 (.var 7), .int .i64 (.var 8), .int .i64 (.var 9)])] ⟨10, 0, 0, 0, 0, 0, 0⟩ [] (Vc.envOf [x0, x1, x2, x3, x4, x5, x6, x7, x8, x9] [] [] []) (by kernel_rfl) Vc.kn_nil (by kernel_rfl) (by kernel_rfl) h

theorem vc_ullageref02_Times (x0 x1 x2 x3 x4 x5 x6 x7 x8 x9 : Int) (w : World) (v : Value) (h : 
  ∃ (b0 : Bool), (∀ w' : World, Below w.heap.size w w' → Calls Tryz.prog 41 #[.agg #[.int .i64 x0, .int .i64 x1, .int .i64 x2, .int .i64 x3, .int .i64 x4]] w' (Vc.Ret (.bool b0) w')) ∧
  ((b0 = true) → (
  ∃ (b1 : Bool), (∀ w' : World, Below w.heap.size w w' → Calls Tryz.prog 41 #[.agg #[.int .i64 x5, .int .i64 x6, .int .i64 x7, .int .i64 x8, .int .i64 x9]] w' (Vc.Ret (.bool b1) w')) ∧
  ((b1 = true) → (
  ∃ (x10 : Int), (∀ w' : World, Below w.heap.size w w' → Calls Tryz.prog 106 #[.int .i64 x0, .int .i64 x6] w' (Vc.Ret (.int .i64 x10) w')) ∧
  ∃ (x11 : Int), (∀ w' : World, Below w.heap.size w w' → Calls Tryz.prog 106 #[.int .i64 x5, .int .i64 x1] w' (Vc.Ret (.int .i64 x11) w')) ∧
  (x10 ≠ 0) ∧
  ∀ x12 : Int, x12 = IntKind.i64.wrap (Int.tdiv x0 x10) →
  (x11 ≠ 0) ∧
  ∀ x13 : Int, x13 = IntKind.i64.wrap (Int.tdiv x5 x11) →
  ∃ (x14 : Int), ∃ (b2 : Bool), (∀ w' : World, Below w.heap.size w w' → Calls Tryz.prog 107 #[.int .i64 x12, .int .i64 x13] w' (Vc.Ret (.tuple #[.int .i64 x14, .bool b2]) w')) ∧
  (x11 ≠ 0) ∧
  ∀ x15 : Int, x15 = IntKind.i64.wrap (Int.tdiv x1 x11) →
  (x10 ≠ 0) ∧
  ∀ x16 : Int, x16 = IntKind.i64.wrap (Int.tdiv x6 x10) →
  ∃ (x17 : Int), ∃ (b3 : Bool), (∀ w' : World, Below w.heap.size w w' → Calls Tryz.prog 107 #[.int .i64 x15, .int .i64 x16] w' (Vc.Ret (.tuple #[.int .i64 x17, .bool b3]) w')) ∧
  ((b2 = true) → (
  ((b3 = true) → (
  ∀ x18 : Int, x18 = IntKind.i64.wrap (x2 + x7) →
  ∀ x19 : Int, x19 = IntKind.i64.wrap (x3 + x8) →
  ∀ x20 : Int, x20 = IntKind.i64.wrap (x4 + x9) →
  ∃ (x21 : Int), ∃ (x22 : Int), ∃ (x23 : Int), ∃ (x24 : Int), ∃ (x25 : Int), ∃ (x26 : Int), (∀ w' : World, Below w.heap.size w w' → Calls Tryz.prog 108 #[.int .i64 x14, .int .i64 x17, .int .i64 x18, .int .i64 x19, .int .i64 x20] w' (Vc.Ret (.tuple #[.agg #[.int .i64 x21, .int .i64 x22, .int .i64 x23, .int .i64 x24, .int .i64 x25], .int .i64 x26]) w')) ∧
  (.tuple #[.agg #[.int .i64 x21, .int .i64 x22, .int .i64 x23, .int .i64 x24, .int .i64 x25], .int .i64 x26] : Value) = v)) ∧ (¬ (b3 = true) → (
  (.tuple #[.agg #[.int .i64 0, .int .i64 0, .int .i64 0, .int .i64 0, .int .i64 0], .int .i64 4] : Value) = v)))) ∧ (¬ (b2 = true) → (
  (.tuple #[.agg #[.int .i64 0, .int .i64 0, .int .i64 0, .int .i64 0, .int .i64 0], .int .i64 4] : Value) = v)))) ∧ (¬ (b1 = true) → (
  (.tuple #[.agg #[.int .i64 0, .int .i64 0, .int .i64 0, .int .i64 0, .int .i64 0], .int .i64 2] : Value) = v)))) ∧ (¬ (b0 = true) → (
  (.tuple #[.agg #[.int .i64 0, .int .i64 0, .int .i64 0, .int .i64 0, .int .i64 0], .int .i64 2] : Value) = v))) : Calls Tryz.prog 38 #[.agg #[.int .i64 x0, .int .i64 x1, .int .i64 x2, .int .i64 x3, .int .i64 x4], .agg #[.int .i64 x5, .int .i64 x6, .int .i64 x7, .int .i64 x8, .int .i64 x9]] w (Vc.Ret v w) :=
  Vc.pure_of base [] [] 200 Tryz.func38 (b := (Tryz.f38.body).getD .skip) (by kernel_rfl) [.cv (.agg [.int .i64 (.var 0), .int .i64 (.var 1), .int .i64 (.var 2), .int .i64 (.var 3), .int .i64 (.var 4)]), .cv (.agg [.int .i64 (.var 5), .int .i64 (.var 6), .int .i64 (.var 7), .int .i64 (.var 8), .int .i64 (.var 9)])] ⟨10, 0, 0, 0, 0, 0, 0⟩ [] (Vc.envOf [x0, x1, x2, x3, x4, x5, x6, x7, x8, x9] [] [] []) (by kernel_rfl) Vc.kn_nil (by kernel_rfl) (by kernel_rfl) h

theorem vc_ullageref02_Over (x0 x1 x2 x3 x4 x5 x6 x7 x8 x9 : Int) (w : World) (v : Value) (h : 
  ∃ (b0 : Bool), (∀ w' : World, Below w.heap.size w w' → Calls Tryz.prog 41 #[.agg #[.int .i64 x0, .int .i64 x1, .int .i64 x2, .int .i64 x3, .int .i64 x4]] w' (Vc.Ret (.bool b0) w')) ∧
  ((b0 = true) → (
  ∃ (b1 : Bool), (∀ w' : World, Below w.heap.size w w' → Calls Tryz.prog 41 #[.agg #[.int .i64 x5, .int .i64 x6, .int .i64 x7, .int .i64 x8, .int .i64 x9]] w' (Vc.Ret (.bool b1) w')) ∧
  ((b1 = true) → (
  ((x5 = 0) → (
  (.tuple #[.agg #[.int .i64 0, .int .i64 0, .int .i64 0, .int .i64 0, .int .i64 0], .int .i64 2] : Value) = v)) ∧ (¬ (x5 = 0) → (
  ∀ x10 : Int, x10 = IntKind.i64.wrap (0 - x7) →
  ∀ x11 : Int, x11 = IntKind.i64.wrap (0 - x8) →
  ∀ x12 : Int, x12 = IntKind.i64.wrap (0 - x9) →
  ((x5 < 0) → (
  ∀ x13 : Int, x13 = IntKind.i64.wrap (0 - x6) →
  ∀ x14 : Int, x14 = IntKind.i64.wrap (0 - x5) →
  ∃ (x15 : Int), ∃ (x16 : Int), ∃ (x17 : Int), ∃ (x18 : Int), ∃ (x19 : Int), ∃ (x20 : Int), (∀ w' : World, Below w.heap.size w w' → Calls Tryz.prog 38 #[.agg #[.int .i64 x0, .int .i64 x1, .int .i64 x2, .int .i64 x3, .int .i64 x4], .agg #[.int .i64 x13, .int .i64 x14, .int .i64 x10, .int .i64 x11, .int .i64 x12]] w' (Vc.Ret (.tuple #[.agg #[.int .i64 x15, .int .i64 x16, .int .i64 x17, .int .i64 x18, .int .i64 x19], .int .i64 x20]) w')) ∧
  (.tuple #[.agg #[.int .i64 x15, .int .i64 x16, .int .i64 x17, .int .i64 x18, .int .i64 x19], .int .i64 x20] : Value) = v)) ∧ (¬ (x5 < 0) → (
  ∃ (x13 : Int), ∃ (x14 : Int), ∃ (x15 : Int), ∃ (x16 : Int), ∃ (x17 : Int), ∃ (x18 : Int), (∀ w' : World, Below w.heap.size w w' → Calls Tryz.prog 38 #[.agg #[.int .i64 x0, .int .i64 x1, .int .i64 x2, .int .i64 x3, .int .i64 x4], .agg #[.int .i64 x6, .int .i64 x5, .int .i64 x10, .int .i64 x11, .int .i64 x12]] w' (Vc.Ret (.tuple #[.agg #[.int .i64 x13, .int .i64 x14, .int .i64 x15, .int .i64 x16, .int .i64 x17], .int .i64 x18]) w')) ∧
  (.tuple #[.agg #[.int .i64 x13, .int .i64 x14, .int .i64 x15, .int .i64 x16, .int .i64 x17], .int .i64 x18] : Value) = v)))))) ∧ (¬ (b1 = true) → (
  (.tuple #[.agg #[.int .i64 0, .int .i64 0, .int .i64 0, .int .i64 0, .int .i64 0], .int .i64 2] : Value) = v)))) ∧ (¬ (b0 = true) → (
  (.tuple #[.agg #[.int .i64 0, .int .i64 0, .int .i64 0, .int .i64 0, .int .i64 0], .int .i64 2] : Value) = v))) : Calls Tryz.prog 39 #[.agg #[.int .i64 x0, .int .i64 x1, .int .i64 x2, .int .i64 x3, .int .i64 x4], .agg #[.int .i64 x5, .int .i64 x6, .int .i64 x7, .int .i64 x8, .int .i64 x9]] w (Vc.Ret v w) :=
  Vc.pure_of base [] [] 200 Tryz.func39 (b := (Tryz.f39.body).getD .skip) (by kernel_rfl) [.cv (.agg [.int .i64 (.var 0), .int .i64 (.var 1), .int .i64 (.var 2), .int .i64 (.var 3), .int .i64 (.var 4)]), .cv (.agg [.int .i64 (.var 5), .int .i64 (.var 6), .int .i64 (.var 7), .int .i64 (.var 8), .int .i64 (.var 9)])] ⟨10, 0, 0, 0, 0, 0, 0⟩ [] (Vc.envOf [x0, x1, x2, x3, x4, x5, x6, x7, x8, x9] [] [] []) (by kernel_rfl) Vc.kn_nil (by kernel_rfl) (by kernel_rfl) h

def Vj_ullagelaw02_VehicleUnits_T3 (x125 : Int) (x131 : Int) (v : Value) : Prop :=
  ((x125 = x131) → (
  ((x125 = x131) → (
  False /- FAIL binOp: operands -/)) ∧ (¬ (x125 = x131) → (
  ((x125 = x131) → (
  False /- FAIL pick -/)) ∧ (¬ (x125 = x131) → (
  (.bool false : Value) = v)))))) ∧ (¬ (x125 = x131) → (
  ((x125 = x131) → (
  False /- FAIL binOp: operands -/)) ∧ (¬ (x125 = x131) → (
  ((x125 = x131) → (
  False /- FAIL pick -/)) ∧ (¬ (x125 = x131) → (
  (.bool false : Value) = v))))))
def Vj_ullagelaw02_VehicleUnits_T2 (x132 : Int) (x138 : Int) (x133 : Int) (x139 : Int) (x134 : Int) (x140 : Int) (x135 : Int) (x141 : Int) (x136 : Int) (x142 : Int) (v : Value) : Prop :=
  (((x132 = x138) ∧ ((x133 = x139) ∧ ((x134 = x140) ∧ ((x135 = x141) ∧ (x136 = x142))))) → (
  False /- FAIL binOp: operands -/)) ∧ (¬ ((x132 = x138) ∧ ((x133 = x139) ∧ ((x134 = x140) ∧ ((x135 = x141) ∧ (x136 = x142))))) → (
  (((x132 = x138) ∧ ((x133 = x139) ∧ ((x134 = x140) ∧ ((x135 = x141) ∧ (x136 = x142))))) → (
  False /- FAIL pick -/)) ∧ (¬ ((x132 = x138) ∧ ((x133 = x139) ∧ ((x134 = x140) ∧ ((x135 = x141) ∧ (x136 = x142))))) → (
  (.bool false : Value) = v))))
def Vj_ullagelaw02_VehicleUnits_T1 (x132 : Int) (x138 : Int) (x133 : Int) (x139 : Int) (x134 : Int) (x140 : Int) (x135 : Int) (x141 : Int) (x136 : Int) (x142 : Int) (v : Value) : Prop :=
  (((x132 = x138) ∧ ((x133 = x139) ∧ ((x134 = x140) ∧ ((x135 = x141) ∧ (x136 = x142))))) → ( Vj_ullagelaw02_VehicleUnits_T2 x132 x138 x133 x139 x134 x140 x135 x141 x136 x142 v)) ∧ (¬ ((x132 = x138) ∧ ((x133 = x139) ∧ ((x134 = x140) ∧ ((x135 = x141) ∧ (x136 = x142))))) → ( Vj_ullagelaw02_VehicleUnits_T2 x132 x138 x133 x139 x134 x140 x135 x141 x136 x142 v))
theorem vc_ullagelaw02_VehicleUnits (x0 x1 x2 x3 x4 x5 x6 x7 x8 x9 : Int) (w : World) (v : Value) (h : 
  ∃ l0 : List Vc.OV, Vc.SlAt w (.slice (some ⟨0, 0, none⟩) 14 14) 6 (l0.map (·.1)) ∧
  ∀ x10 : Int, x10 = (((0 + (l0.length + 0)) / 6 : Nat) : Int) →
  (x10 ≤ 1073741824) ∧
  ∀ x11 : Int, x11 = (((0 + (l0.length + 0)) / 6 : Nat) : Int) →
  ((x11 = 14) → (
  ∀ x12 : Int, x12 = (((0 + (l0.length + 0)) / 6 : Nat) : Int) →
  (0 < x12) ∧
  ∃ (s0 : List UInt8), ((l0.map (·.1) ++ (([] : List Value))))[(Int.toNat 0) * 6 + 0]? = some (.string ⟨s0.toArray⟩) ∧
  ∃ (x13 : Int), ((l0.map (·.1) ++ (([] : List Value))))[(Int.toNat 0) * 6 + 1]? = some (.int .i64 x13) ∧
  ∃ (x14 : Int), ((l0.map (·.1) ++ (([] : List Value))))[(Int.toNat 0) * 6 + 2]? = some (.int .i64 x14) ∧
  ∃ (x15 : Int), ((l0.map (·.1) ++ (([] : List Value))))[(Int.toNat 0) * 6 + 3]? = some (.int .i64 x15) ∧
  ∃ (x16 : Int), ((l0.map (·.1) ++ (([] : List Value))))[(Int.toNat 0) * 6 + 4]? = some (.int .i64 x16) ∧
  ∃ (x17 : Int), ((l0.map (·.1) ++ (([] : List Value))))[(Int.toNat 0) * 6 + 5]? = some (.int .i64 x17) ∧
  (((s0 = ([107, 109] : List UInt8)) ∧ ((x13 = 1) ∧ ((x14 = 1) ∧ ((x15 = 1) ∧ ((x16 = 0) ∧ (x17 = 0)))))) → (
  ∀ x18 : Int, x18 = (((0 + (l0.length + 0)) / 6 : Nat) : Int) →
  (1 < x18) ∧
  ∃ (s1 : List UInt8), ((l0.map (·.1) ++ (([] : List Value))))[(Int.toNat 1) * 6 + 0]? = some (.string ⟨s1.toArray⟩) ∧
  ∃ (x19 : Int), ((l0.map (·.1) ++ (([] : List Value))))[(Int.toNat 1) * 6 + 1]? = some (.int .i64 x19) ∧
  ∃ (x20 : Int), ((l0.map (·.1) ++ (([] : List Value))))[(Int.toNat 1) * 6 + 2]? = some (.int .i64 x20) ∧
  ∃ (x21 : Int), ((l0.map (·.1) ++ (([] : List Value))))[(Int.toNat 1) * 6 + 3]? = some (.int .i64 x21) ∧
  ∃ (x22 : Int), ((l0.map (·.1) ++ (([] : List Value))))[(Int.toNat 1) * 6 + 4]? = some (.int .i64 x22) ∧
  ∃ (x23 : Int), ((l0.map (·.1) ++ (([] : List Value))))[(Int.toNat 1) * 6 + 5]? = some (.int .i64 x23) ∧
  (((s1 = ([109] : List UInt8)) ∧ ((x19 = 1) ∧ ((x20 = 1000) ∧ ((x21 = 1) ∧ ((x22 = 0) ∧ (x23 = 0)))))) → (
  ∀ x24 : Int, x24 = (((0 + (l0.length + 0)) / 6 : Nat) : Int) →
  (2 < x24) ∧
  ∃ (s2 : List UInt8), ((l0.map (·.1) ++ (([] : List Value))))[(Int.toNat 2) * 6 + 0]? = some (.string ⟨s2.toArray⟩) ∧
  ∃ (x25 : Int), ((l0.map (·.1) ++ (([] : List Value))))[(Int.toNat 2) * 6 + 1]? = some (.int .i64 x25) ∧
  ∃ (x26 : Int), ((l0.map (·.1) ++ (([] : List Value))))[(Int.toNat 2) * 6 + 2]? = some (.int .i64 x26) ∧
  ∃ (x27 : Int), ((l0.map (·.1) ++ (([] : List Value))))[(Int.toNat 2) * 6 + 3]? = some (.int .i64 x27) ∧
  ∃ (x28 : Int), ((l0.map (·.1) ++ (([] : List Value))))[(Int.toNat 2) * 6 + 4]? = some (.int .i64 x28) ∧
  ∃ (x29 : Int), ((l0.map (·.1) ++ (([] : List Value))))[(Int.toNat 2) * 6 + 5]? = some (.int .i64 x29) ∧
  (((s2 = ([99, 109] : List UInt8)) ∧ ((x25 = 1) ∧ ((x26 = 100000) ∧ ((x27 = 1) ∧ ((x28 = 0) ∧ (x29 = 0)))))) → (
  ∀ x30 : Int, x30 = (((0 + (l0.length + 0)) / 6 : Nat) : Int) →
  (3 < x30) ∧
  ∃ (s3 : List UInt8), ((l0.map (·.1) ++ (([] : List Value))))[(Int.toNat 3) * 6 + 0]? = some (.string ⟨s3.toArray⟩) ∧
  ∃ (x31 : Int), ((l0.map (·.1) ++ (([] : List Value))))[(Int.toNat 3) * 6 + 1]? = some (.int .i64 x31) ∧
  ∃ (x32 : Int), ((l0.map (·.1) ++ (([] : List Value))))[(Int.toNat 3) * 6 + 2]? = some (.int .i64 x32) ∧
  ∃ (x33 : Int), ((l0.map (·.1) ++ (([] : List Value))))[(Int.toNat 3) * 6 + 3]? = some (.int .i64 x33) ∧
  ∃ (x34 : Int), ((l0.map (·.1) ++ (([] : List Value))))[(Int.toNat 3) * 6 + 4]? = some (.int .i64 x34) ∧
  ∃ (x35 : Int), ((l0.map (·.1) ++ (([] : List Value))))[(Int.toNat 3) * 6 + 5]? = some (.int .i64 x35) ∧
  (((s3 = ([115] : List UInt8)) ∧ ((x31 = 1) ∧ ((x32 = 1) ∧ ((x33 = 0) ∧ ((x34 = 1) ∧ (x35 = 0)))))) → (
  ∀ x36 : Int, x36 = (((0 + (l0.length + 0)) / 6 : Nat) : Int) →
  (4 < x36) ∧
  ∃ (s4 : List UInt8), ((l0.map (·.1) ++ (([] : List Value))))[(Int.toNat 4) * 6 + 0]? = some (.string ⟨s4.toArray⟩) ∧
  ∃ (x37 : Int), ((l0.map (·.1) ++ (([] : List Value))))[(Int.toNat 4) * 6 + 1]? = some (.int .i64 x37) ∧
  ∃ (x38 : Int), ((l0.map (·.1) ++ (([] : List Value))))[(Int.toNat 4) * 6 + 2]? = some (.int .i64 x38) ∧
  ∃ (x39 : Int), ((l0.map (·.1) ++ (([] : List Value))))[(Int.toNat 4) * 6 + 3]? = some (.int .i64 x39) ∧
  ∃ (x40 : Int), ((l0.map (·.1) ++ (([] : List Value))))[(Int.toNat 4) * 6 + 4]? = some (.int .i64 x40) ∧
  ∃ (x41 : Int), ((l0.map (·.1) ++ (([] : List Value))))[(Int.toNat 4) * 6 + 5]? = some (.int .i64 x41) ∧
  (((s4 = ([109, 115] : List UInt8)) ∧ ((x37 = 1) ∧ ((x38 = 1000) ∧ ((x39 = 0) ∧ ((x40 = 1) ∧ (x41 = 0)))))) → (
  ∀ x42 : Int, x42 = (((0 + (l0.length + 0)) / 6 : Nat) : Int) →
  (5 < x42) ∧
  ∃ (s5 : List UInt8), ((l0.map (·.1) ++ (([] : List Value))))[(Int.toNat 5) * 6 + 0]? = some (.string ⟨s5.toArray⟩) ∧
  ∃ (x43 : Int), ((l0.map (·.1) ++ (([] : List Value))))[(Int.toNat 5) * 6 + 1]? = some (.int .i64 x43) ∧
  ∃ (x44 : Int), ((l0.map (·.1) ++ (([] : List Value))))[(Int.toNat 5) * 6 + 2]? = some (.int .i64 x44) ∧
  ∃ (x45 : Int), ((l0.map (·.1) ++ (([] : List Value))))[(Int.toNat 5) * 6 + 3]? = some (.int .i64 x45) ∧
  ∃ (x46 : Int), ((l0.map (·.1) ++ (([] : List Value))))[(Int.toNat 5) * 6 + 4]? = some (.int .i64 x46) ∧
  ∃ (x47 : Int), ((l0.map (·.1) ++ (([] : List Value))))[(Int.toNat 5) * 6 + 5]? = some (.int .i64 x47) ∧
  (((s5 = ([109, 105, 110] : List UInt8)) ∧ ((x43 = 60) ∧ ((x44 = 1) ∧ ((x45 = 0) ∧ ((x46 = 1) ∧ (x47 = 0)))))) → (
  ∀ x48 : Int, x48 = (((0 + (l0.length + 0)) / 6 : Nat) : Int) →
  (6 < x48) ∧
  ∃ (s6 : List UInt8), ((l0.map (·.1) ++ (([] : List Value))))[(Int.toNat 6) * 6 + 0]? = some (.string ⟨s6.toArray⟩) ∧
  ∃ (x49 : Int), ((l0.map (·.1) ++ (([] : List Value))))[(Int.toNat 6) * 6 + 1]? = some (.int .i64 x49) ∧
  ∃ (x50 : Int), ((l0.map (·.1) ++ (([] : List Value))))[(Int.toNat 6) * 6 + 2]? = some (.int .i64 x50) ∧
  ∃ (x51 : Int), ((l0.map (·.1) ++ (([] : List Value))))[(Int.toNat 6) * 6 + 3]? = some (.int .i64 x51) ∧
  ∃ (x52 : Int), ((l0.map (·.1) ++ (([] : List Value))))[(Int.toNat 6) * 6 + 4]? = some (.int .i64 x52) ∧
  ∃ (x53 : Int), ((l0.map (·.1) ++ (([] : List Value))))[(Int.toNat 6) * 6 + 5]? = some (.int .i64 x53) ∧
  (((s6 = ([104] : List UInt8)) ∧ ((x49 = 3600) ∧ ((x50 = 1) ∧ ((x51 = 0) ∧ ((x52 = 1) ∧ (x53 = 0)))))) → (
  ∀ x54 : Int, x54 = (((0 + (l0.length + 0)) / 6 : Nat) : Int) →
  (7 < x54) ∧
  ∃ (s7 : List UInt8), ((l0.map (·.1) ++ (([] : List Value))))[(Int.toNat 7) * 6 + 0]? = some (.string ⟨s7.toArray⟩) ∧
  ∃ (x55 : Int), ((l0.map (·.1) ++ (([] : List Value))))[(Int.toNat 7) * 6 + 1]? = some (.int .i64 x55) ∧
  ∃ (x56 : Int), ((l0.map (·.1) ++ (([] : List Value))))[(Int.toNat 7) * 6 + 2]? = some (.int .i64 x56) ∧
  ∃ (x57 : Int), ((l0.map (·.1) ++ (([] : List Value))))[(Int.toNat 7) * 6 + 3]? = some (.int .i64 x57) ∧
  ∃ (x58 : Int), ((l0.map (·.1) ++ (([] : List Value))))[(Int.toNat 7) * 6 + 4]? = some (.int .i64 x58) ∧
  ∃ (x59 : Int), ((l0.map (·.1) ++ (([] : List Value))))[(Int.toNat 7) * 6 + 5]? = some (.int .i64 x59) ∧
  (((s7 = ([116] : List UInt8)) ∧ ((x55 = 1) ∧ ((x56 = 1) ∧ ((x57 = 0) ∧ ((x58 = 0) ∧ (x59 = 1)))))) → (
  ∀ x60 : Int, x60 = (((0 + (l0.length + 0)) / 6 : Nat) : Int) →
  (8 < x60) ∧
  ∃ (s8 : List UInt8), ((l0.map (·.1) ++ (([] : List Value))))[(Int.toNat 8) * 6 + 0]? = some (.string ⟨s8.toArray⟩) ∧
  ∃ (x61 : Int), ((l0.map (·.1) ++ (([] : List Value))))[(Int.toNat 8) * 6 + 1]? = some (.int .i64 x61) ∧
  ∃ (x62 : Int), ((l0.map (·.1) ++ (([] : List Value))))[(Int.toNat 8) * 6 + 2]? = some (.int .i64 x62) ∧
  ∃ (x63 : Int), ((l0.map (·.1) ++ (([] : List Value))))[(Int.toNat 8) * 6 + 3]? = some (.int .i64 x63) ∧
  ∃ (x64 : Int), ((l0.map (·.1) ++ (([] : List Value))))[(Int.toNat 8) * 6 + 4]? = some (.int .i64 x64) ∧
  ∃ (x65 : Int), ((l0.map (·.1) ++ (([] : List Value))))[(Int.toNat 8) * 6 + 5]? = some (.int .i64 x65) ∧
  (((s8 = ([107, 103] : List UInt8)) ∧ ((x61 = 1) ∧ ((x62 = 1000) ∧ ((x63 = 0) ∧ ((x64 = 0) ∧ (x65 = 1)))))) → (
  ∀ x66 : Int, x66 = (((0 + (l0.length + 0)) / 6 : Nat) : Int) →
  (9 < x66) ∧
  ∃ (s9 : List UInt8), ((l0.map (·.1) ++ (([] : List Value))))[(Int.toNat 9) * 6 + 0]? = some (.string ⟨s9.toArray⟩) ∧
  ∃ (x67 : Int), ((l0.map (·.1) ++ (([] : List Value))))[(Int.toNat 9) * 6 + 1]? = some (.int .i64 x67) ∧
  ∃ (x68 : Int), ((l0.map (·.1) ++ (([] : List Value))))[(Int.toNat 9) * 6 + 2]? = some (.int .i64 x68) ∧
  ∃ (x69 : Int), ((l0.map (·.1) ++ (([] : List Value))))[(Int.toNat 9) * 6 + 3]? = some (.int .i64 x69) ∧
  ∃ (x70 : Int), ((l0.map (·.1) ++ (([] : List Value))))[(Int.toNat 9) * 6 + 4]? = some (.int .i64 x70) ∧
  ∃ (x71 : Int), ((l0.map (·.1) ++ (([] : List Value))))[(Int.toNat 9) * 6 + 5]? = some (.int .i64 x71) ∧
  (((s9 = ([77, 78] : List UInt8)) ∧ ((x67 = 1) ∧ ((x68 = 1) ∧ ((x69 = 1) ∧ ((x70 = (-2)) ∧ (x71 = 1)))))) → (
  ∀ x72 : Int, x72 = (((0 + (l0.length + 0)) / 6 : Nat) : Int) →
  (10 < x72) ∧
  ∃ (s10 : List UInt8), ((l0.map (·.1) ++ (([] : List Value))))[(Int.toNat 10) * 6 + 0]? = some (.string ⟨s10.toArray⟩) ∧
  ∃ (x73 : Int), ((l0.map (·.1) ++ (([] : List Value))))[(Int.toNat 10) * 6 + 1]? = some (.int .i64 x73) ∧
  ∃ (x74 : Int), ((l0.map (·.1) ++ (([] : List Value))))[(Int.toNat 10) * 6 + 2]? = some (.int .i64 x74) ∧
  ∃ (x75 : Int), ((l0.map (·.1) ++ (([] : List Value))))[(Int.toNat 10) * 6 + 3]? = some (.int .i64 x75) ∧
  ∃ (x76 : Int), ((l0.map (·.1) ++ (([] : List Value))))[(Int.toNat 10) * 6 + 4]? = some (.int .i64 x76) ∧
  ∃ (x77 : Int), ((l0.map (·.1) ++ (([] : List Value))))[(Int.toNat 10) * 6 + 5]? = some (.int .i64 x77) ∧
  (((s10 = ([107, 78] : List UInt8)) ∧ ((x73 = 1) ∧ ((x74 = 1000) ∧ ((x75 = 1) ∧ ((x76 = (-2)) ∧ (x77 = 1)))))) → (
  ∀ x78 : Int, x78 = (((0 + (l0.length + 0)) / 6 : Nat) : Int) →
  (11 < x78) ∧
  ∃ (s11 : List UInt8), ((l0.map (·.1) ++ (([] : List Value))))[(Int.toNat 11) * 6 + 0]? = some (.string ⟨s11.toArray⟩) ∧
  ∃ (x79 : Int), ((l0.map (·.1) ++ (([] : List Value))))[(Int.toNat 11) * 6 + 1]? = some (.int .i64 x79) ∧
  ∃ (x80 : Int), ((l0.map (·.1) ++ (([] : List Value))))[(Int.toNat 11) * 6 + 2]? = some (.int .i64 x80) ∧
  ∃ (x81 : Int), ((l0.map (·.1) ++ (([] : List Value))))[(Int.toNat 11) * 6 + 3]? = some (.int .i64 x81) ∧
  ∃ (x82 : Int), ((l0.map (·.1) ++ (([] : List Value))))[(Int.toNat 11) * 6 + 4]? = some (.int .i64 x82) ∧
  ∃ (x83 : Int), ((l0.map (·.1) ++ (([] : List Value))))[(Int.toNat 11) * 6 + 5]? = some (.int .i64 x83) ∧
  (((s11 = ([78] : List UInt8)) ∧ ((x79 = 1) ∧ ((x80 = 1000000) ∧ ((x81 = 1) ∧ ((x82 = (-2)) ∧ (x83 = 1)))))) → (
  ∀ x84 : Int, x84 = (((0 + (l0.length + 0)) / 6 : Nat) : Int) →
  (12 < x84) ∧
  ∃ (s12 : List UInt8), ((l0.map (·.1) ++ (([] : List Value))))[(Int.toNat 12) * 6 + 0]? = some (.string ⟨s12.toArray⟩) ∧
  ∃ (x85 : Int), ((l0.map (·.1) ++ (([] : List Value))))[(Int.toNat 12) * 6 + 1]? = some (.int .i64 x85) ∧
  ∃ (x86 : Int), ((l0.map (·.1) ++ (([] : List Value))))[(Int.toNat 12) * 6 + 2]? = some (.int .i64 x86) ∧
  ∃ (x87 : Int), ((l0.map (·.1) ++ (([] : List Value))))[(Int.toNat 12) * 6 + 3]? = some (.int .i64 x87) ∧
  ∃ (x88 : Int), ((l0.map (·.1) ++ (([] : List Value))))[(Int.toNat 12) * 6 + 4]? = some (.int .i64 x88) ∧
  ∃ (x89 : Int), ((l0.map (·.1) ++ (([] : List Value))))[(Int.toNat 12) * 6 + 5]? = some (.int .i64 x89) ∧
  (((s12 = ([80, 97] : List UInt8)) ∧ ((x85 = 1) ∧ ((x86 = 1) ∧ ((x87 = (-1)) ∧ ((x88 = (-2)) ∧ (x89 = 1)))))) → (
  ∀ x90 : Int, x90 = (((0 + (l0.length + 0)) / 6 : Nat) : Int) →
  (13 < x90) ∧
  ∃ (s13 : List UInt8), ((l0.map (·.1) ++ (([] : List Value))))[(Int.toNat 13) * 6 + 0]? = some (.string ⟨s13.toArray⟩) ∧
  ∃ (x91 : Int), ((l0.map (·.1) ++ (([] : List Value))))[(Int.toNat 13) * 6 + 1]? = some (.int .i64 x91) ∧
  ∃ (x92 : Int), ((l0.map (·.1) ++ (([] : List Value))))[(Int.toNat 13) * 6 + 2]? = some (.int .i64 x92) ∧
  ∃ (x93 : Int), ((l0.map (·.1) ++ (([] : List Value))))[(Int.toNat 13) * 6 + 3]? = some (.int .i64 x93) ∧
  ∃ (x94 : Int), ((l0.map (·.1) ++ (([] : List Value))))[(Int.toNat 13) * 6 + 4]? = some (.int .i64 x94) ∧
  ∃ (x95 : Int), ((l0.map (·.1) ++ (([] : List Value))))[(Int.toNat 13) * 6 + 5]? = some (.int .i64 x95) ∧
  (((s13 = ([107, 80, 97] : List UInt8)) ∧ ((x91 = 1000) ∧ ((x92 = 1) ∧ ((x93 = (-1)) ∧ ((x94 = (-2)) ∧ (x95 = 1)))))) → (
  ∃ (x96 : Int), ∃ (x97 : Int), ∃ (x98 : Int), ∃ (x99 : Int), ∃ (x100 : Int), ∃ (x101 : Int), (∀ w' : World, Below w.heap.size w w' → Calls Tryz.prog 15 #[.agg #[.int .i64 x0, .int .i64 x1, .int .i64 x2, .int .i64 x3, .int .i64 x4], .agg #[.int .i64 x5, .int .i64 x6, .int .i64 x7, .int .i64 x8, .int .i64 x9]] w' (Vc.Ret (.tuple #[.agg #[.int .i64 x96, .int .i64 x97, .int .i64 x98, .int .i64 x99, .int .i64 x100], .int .i64 x101]) w')) ∧
  ∃ (x102 : Int), ∃ (x103 : Int), ∃ (x104 : Int), ∃ (x105 : Int), ∃ (x106 : Int), ∃ (x107 : Int), (∀ w' : World, Below w.heap.size w w' → Calls Tryz.prog 36 #[.agg #[.int .i64 x0, .int .i64 x1, .int .i64 x2, .int .i64 x3, .int .i64 x4], .agg #[.int .i64 x5, .int .i64 x6, .int .i64 x7, .int .i64 x8, .int .i64 x9]] w' (Vc.Ret (.tuple #[.agg #[.int .i64 x102, .int .i64 x103, .int .i64 x104, .int .i64 x105, .int .i64 x106], .int .i64 x107]) w')) ∧
  ∃ (x108 : Int), ∃ (x109 : Int), ∃ (x110 : Int), ∃ (x111 : Int), ∃ (x112 : Int), ∃ (x113 : Int), (∀ w' : World, Below w.heap.size w w' → Calls Tryz.prog 17 #[.agg #[.int .i64 x0, .int .i64 x1, .int .i64 x2, .int .i64 x3, .int .i64 x4], .agg #[.int .i64 x5, .int .i64 x6, .int .i64 x7, .int .i64 x8, .int .i64 x9]] w' (Vc.Ret (.tuple #[.agg #[.int .i64 x108, .int .i64 x109, .int .i64 x110, .int .i64 x111, .int .i64 x112], .int .i64 x113]) w')) ∧
  ∃ (x114 : Int), ∃ (x115 : Int), ∃ (x116 : Int), ∃ (x117 : Int), ∃ (x118 : Int), ∃ (x119 : Int), (∀ w' : World, Below w.heap.size w w' → Calls Tryz.prog 37 #[.agg #[.int .i64 x0, .int .i64 x1, .int .i64 x2, .int .i64 x3, .int .i64 x4], .agg #[.int .i64 x5, .int .i64 x6, .int .i64 x7, .int .i64 x8, .int .i64 x9]] w' (Vc.Ret (.tuple #[.agg #[.int .i64 x114, .int .i64 x115, .int .i64 x116, .int .i64 x117, .int .i64 x118], .int .i64 x119]) w')) ∧
  ∃ (x120 : Int), ∃ (x121 : Int), ∃ (x122 : Int), ∃ (x123 : Int), ∃ (x124 : Int), ∃ (x125 : Int), (∀ w' : World, Below w.heap.size w w' → Calls Tryz.prog 16 #[.agg #[.int .i64 x0, .int .i64 x1, .int .i64 x2, .int .i64 x3, .int .i64 x4], .agg #[.int .i64 x5, .int .i64 x6, .int .i64 x7, .int .i64 x8, .int .i64 x9]] w' (Vc.Ret (.tuple #[.agg #[.int .i64 x120, .int .i64 x121, .int .i64 x122, .int .i64 x123, .int .i64 x124], .int .i64 x125]) w')) ∧
  ∃ (x126 : Int), ∃ (x127 : Int), ∃ (x128 : Int), ∃ (x129 : Int), ∃ (x130 : Int), ∃ (x131 : Int), (∀ w' : World, Below w.heap.size w w' → Calls Tryz.prog 38 #[.agg #[.int .i64 x0, .int .i64 x1, .int .i64 x2, .int .i64 x3, .int .i64 x4], .agg #[.int .i64 x5, .int .i64 x6, .int .i64 x7, .int .i64 x8, .int .i64 x9]] w' (Vc.Ret (.tuple #[.agg #[.int .i64 x126, .int .i64 x127, .int .i64 x128, .int .i64 x129, .int .i64 x130], .int .i64 x131]) w')) ∧
  ∃ (x132 : Int), ∃ (x133 : Int), ∃ (x134 : Int), ∃ (x135 : Int), ∃ (x136 : Int), ∃ (x137 : Int), (∀ w' : World, Below w.heap.size w w' → Calls Tryz.prog 18 #[.agg #[.int .i64 x0, .int .i64 x1, .int .i64 x2, .int .i64 x3, .int .i64 x4], .agg #[.int .i64 x5, .int .i64 x6, .int .i64 x7, .int .i64 x8, .int .i64 x9]] w' (Vc.Ret (.tuple #[.agg #[.int .i64 x132, .int .i64 x133, .int .i64 x134, .int .i64 x135, .int .i64 x136], .int .i64 x137]) w')) ∧
  ∃ (x138 : Int), ∃ (x139 : Int), ∃ (x140 : Int), ∃ (x141 : Int), ∃ (x142 : Int), ∃ (x143 : Int), (∀ w' : World, Below w.heap.size w w' → Calls Tryz.prog 39 #[.agg #[.int .i64 x0, .int .i64 x1, .int .i64 x2, .int .i64 x3, .int .i64 x4], .agg #[.int .i64 x5, .int .i64 x6, .int .i64 x7, .int .i64 x8, .int .i64 x9]] w' (Vc.Ret (.tuple #[.agg #[.int .i64 x138, .int .i64 x139, .int .i64 x140, .int .i64 x141, .int .i64 x142], .int .i64 x143]) w')) ∧
  ∃ (b0 : Bool), (∀ w' : World, Below w.heap.size w w' → Calls Tryz.prog 40 #[.agg #[.int .i64 x0, .int .i64 x1, .int .i64 x2, .int .i64 x3, .int .i64 x4]] w' (Vc.Ret (.bool b0) w')) ∧
  ∃ (b1 : Bool), (∀ w' : World, Below w.heap.size w w' → Calls Tryz.prog 41 #[.agg #[.int .i64 x0, .int .i64 x1, .int .i64 x2, .int .i64 x3, .int .i64 x4]] w' (Vc.Ret (.bool b1) w')) ∧
  ((((b0 = true) ↔ (b1 = true))) → (
  ((((b0 = true) ↔ (b1 = true))) → (
  ((((b0 = true) ↔ (b1 = true))) → (
  ((((b0 = true) ↔ (b1 = true))) → (
  (((x96 = x102) ∧ ((x97 = x103) ∧ ((x98 = x104) ∧ ((x99 = x105) ∧ (x100 = x106))))) → (
  (((x96 = x102) ∧ ((x97 = x103) ∧ ((x98 = x104) ∧ ((x99 = x105) ∧ (x100 = x106))))) → (
  (((x96 = x102) ∧ ((x97 = x103) ∧ ((x98 = x104) ∧ ((x99 = x105) ∧ (x100 = x106))))) → (
  (((x96 = x102) ∧ ((x97 = x103) ∧ ((x98 = x104) ∧ ((x99 = x105) ∧ (x100 = x106))))) → (
  ((x101 = x107) → (
  ((x101 = x107) → (
  ((x101 = x107) → (
  ((x101 = x107) → (
  (((x108 = x114) ∧ ((x109 = x115) ∧ ((x110 = x116) ∧ ((x111 = x117) ∧ (x112 = x118))))) → (
  (((x108 = x114) ∧ ((x109 = x115) ∧ ((x110 = x116) ∧ ((x111 = x117) ∧ (x112 = x118))))) → (
  (((x108 = x114) ∧ ((x109 = x115) ∧ ((x110 = x116) ∧ ((x111 = x117) ∧ (x112 = x118))))) → (
  (((x108 = x114) ∧ ((x109 = x115) ∧ ((x110 = x116) ∧ ((x111 = x117) ∧ (x112 = x118))))) → (
  ((x113 = x119) → (
  ((x113 = x119) → (
  ((x113 = x119) → (
  ((x113 = x119) → (
  (((x120 = x126) ∧ ((x121 = x127) ∧ ((x122 = x128) ∧ ((x123 = x129) ∧ (x124 = x130))))) → (
  (((x120 = x126) ∧ ((x121 = x127) ∧ ((x122 = x128) ∧ ((x123 = x129) ∧ (x124 = x130))))) → (
  (((x120 = x126) ∧ ((x121 = x127) ∧ ((x122 = x128) ∧ ((x123 = x129) ∧ (x124 = x130))))) → (
  (((x120 = x126) ∧ ((x121 = x127) ∧ ((x122 = x128) ∧ ((x123 = x129) ∧ (x124 = x130))))) → (
  ((x125 = x131) → (
  ((x125 = x131) → (
  ((x125 = x131) → (
  ((x125 = x131) → (
  (((x132 = x138) ∧ ((x133 = x139) ∧ ((x134 = x140) ∧ ((x135 = x141) ∧ (x136 = x142))))) → (
  (((x132 = x138) ∧ ((x133 = x139) ∧ ((x134 = x140) ∧ ((x135 = x141) ∧ (x136 = x142))))) → (
  (((x132 = x138) ∧ ((x133 = x139) ∧ ((x134 = x140) ∧ ((x135 = x141) ∧ (x136 = x142))))) → (
  (((x132 = x138) ∧ ((x133 = x139) ∧ ((x134 = x140) ∧ ((x135 = x141) ∧ (x136 = x142))))) → (
  ((x137 = x143) → (
  ∃ (b2 : Bool), (∀ w' : World, Below w.heap.size w w' → Calls Tryz.prog 19 #[] w' (Vc.Ret (.bool b2) w')) ∧
  ((x137 = x143) → (
  (.bool b2 : Value) = v)) ∧ (¬ (x137 = x143) → (
  (.bool false : Value) = v)))) ∧ (¬ (x137 = x143) → (
  ((x137 = x143) → (
  False /- FAIL leave: results -/)) ∧ (¬ (x137 = x143) → (
  (.bool false : Value) = v)))))) ∧ (¬ ((x132 = x138) ∧ ((x133 = x139) ∧ ((x134 = x140) ∧ ((x135 = x141) ∧ (x136 = x142))))) → (
  (.bool false : Value) = v)))) ∧ (¬ ((x132 = x138) ∧ ((x133 = x139) ∧ ((x134 = x140) ∧ ((x135 = x141) ∧ (x136 = x142))))) → (
  (((x132 = x138) ∧ ((x133 = x139) ∧ ((x134 = x140) ∧ ((x135 = x141) ∧ (x136 = x142))))) → (
  False /- FAIL pick -/)) ∧ (¬ ((x132 = x138) ∧ ((x133 = x139) ∧ ((x134 = x140) ∧ ((x135 = x141) ∧ (x136 = x142))))) → (
  (.bool false : Value) = v)))))) ∧ (¬ ((x132 = x138) ∧ ((x133 = x139) ∧ ((x134 = x140) ∧ ((x135 = x141) ∧ (x136 = x142))))) → ( Vj_ullagelaw02_VehicleUnits_T2 x132 x138 x133 x139 x134 x140 x135 x141 x136 x142 v)))) ∧ (¬ ((x132 = x138) ∧ ((x133 = x139) ∧ ((x134 = x140) ∧ ((x135 = x141) ∧ (x136 = x142))))) → ( Vj_ullagelaw02_VehicleUnits_T1 x132 x138 x133 x139 x134 x140 x135 x141 x136 x142 v)))) ∧ (¬ (x125 = x131) → (
  (.bool false : Value) = v)))) ∧ (¬ (x125 = x131) → (
  ((x125 = x131) → (
  False /- FAIL pick -/)) ∧ (¬ (x125 = x131) → (
  (.bool false : Value) = v)))))) ∧ (¬ (x125 = x131) → (
  ((x125 = x131) → (
  False /- FAIL binOp: operands -/)) ∧ (¬ (x125 = x131) → (
  ((x125 = x131) → (
  False /- FAIL pick -/)) ∧ (¬ (x125 = x131) → (
  (.bool false : Value) = v)))))))) ∧ (¬ (x125 = x131) → ( Vj_ullagelaw02_VehicleUnits_T3 x125 x131 v)))) ∧ (¬ ((x120 = x126) ∧ ((x121 = x127) ∧ ((x122 = x128) ∧ ((x123 = x129) ∧ (x124 = x130))))) → (
  (.bool false : Value) = v)))) ∧ (¬ ((x120 = x126) ∧ ((x121 = x127) ∧ ((x122 = x128) ∧ ((x123 = x129) ∧ (x124 = x130))))) → (
  (((x120 = x126) ∧ ((x121 = x127) ∧ ((x122 = x128) ∧ ((x123 = x129) ∧ (x124 = x130))))) → (
  False /- FAIL pick -/)) ∧ (¬ ((x120 = x126) ∧ ((x121 = x127) ∧ ((x122 = x128) ∧ ((x123 = x129) ∧ (x124 = x130))))) → (
  (.bool false : Value) = v)))))) ∧ (¬ ((x120 = x126) ∧ ((x121 = x127) ∧ ((x122 = x128) ∧ ((x123 = x129) ∧ (x124 = x130))))) → ( Vj_ullagelaw02_VehicleUnits_T2 x120 x126 x121 x127 x122 x128 x123 x129 x124 x130 v)))) ∧ (¬ ((x120 = x126) ∧ ((x121 = x127) ∧ ((x122 = x128) ∧ ((x123 = x129) ∧ (x124 = x130))))) → ( Vj_ullagelaw02_VehicleUnits_T1 x120 x126 x121 x127 x122 x128 x123 x129 x124 x130 v)))) ∧ (¬ (x113 = x119) → (
  (.bool false : Value) = v)))) ∧ (¬ (x113 = x119) → (
  ((x113 = x119) → (
  False /- FAIL pick -/)) ∧ (¬ (x113 = x119) → (
  (.bool false : Value) = v)))))) ∧ (¬ (x113 = x119) → (
  ((x113 = x119) → (
  False /- FAIL binOp: operands -/)) ∧ (¬ (x113 = x119) → (
  ((x113 = x119) → (
  False /- FAIL pick -/)) ∧ (¬ (x113 = x119) → (
  (.bool false : Value) = v)))))))) ∧ (¬ (x113 = x119) → ( Vj_ullagelaw02_VehicleUnits_T3 x113 x119 v)))) ∧ (¬ ((x108 = x114) ∧ ((x109 = x115) ∧ ((x110 = x116) ∧ ((x111 = x117) ∧ (x112 = x118))))) → (
  (.bool false : Value) = v)))) ∧ (¬ ((x108 = x114) ∧ ((x109 = x115) ∧ ((x110 = x116) ∧ ((x111 = x117) ∧ (x112 = x118))))) → (
  (((x108 = x114) ∧ ((x109 = x115) ∧ ((x110 = x116) ∧ ((x111 = x117) ∧ (x112 = x118))))) → (
  False /- FAIL pick -/)) ∧ (¬ ((x108 = x114) ∧ ((x109 = x115) ∧ ((x110 = x116) ∧ ((x111 = x117) ∧ (x112 = x118))))) → (
  (.bool false : Value) = v)))))) ∧ (¬ ((x108 = x114) ∧ ((x109 = x115) ∧ ((x110 = x116) ∧ ((x111 = x117) ∧ (x112 = x118))))) → ( Vj_ullagelaw02_VehicleUnits_T2 x108 x114 x109 x115 x110 x116 x111 x117 x112 x118 v)))) ∧ (¬ ((x108 = x114) ∧ ((x109 = x115) ∧ ((x110 = x116) ∧ ((x111 = x117) ∧ (x112 = x118))))) → ( Vj_ullagelaw02_VehicleUnits_T1 x108 x114 x109 x115 x110 x116 x111 x117 x112 x118 v)))) ∧ (¬ (x101 = x107) → (
  (.bool false : Value) = v)))) ∧ (¬ (x101 = x107) → (
  ((x101 = x107) → (
  False /- FAIL pick -/)) ∧ (¬ (x101 = x107) → (
  (.bool false : Value) = v)))))) ∧ (¬ (x101 = x107) → (
  ((x101 = x107) → (
  False /- FAIL binOp: operands -/)) ∧ (¬ (x101 = x107) → (
  ((x101 = x107) → (
  False /- FAIL pick -/)) ∧ (¬ (x101 = x107) → (
  (.bool false : Value) = v)))))))) ∧ (¬ (x101 = x107) → ( Vj_ullagelaw02_VehicleUnits_T3 x101 x107 v)))) ∧ (¬ ((x96 = x102) ∧ ((x97 = x103) ∧ ((x98 = x104) ∧ ((x99 = x105) ∧ (x100 = x106))))) → (
  (.bool false : Value) = v)))) ∧ (¬ ((x96 = x102) ∧ ((x97 = x103) ∧ ((x98 = x104) ∧ ((x99 = x105) ∧ (x100 = x106))))) → (
  (((x96 = x102) ∧ ((x97 = x103) ∧ ((x98 = x104) ∧ ((x99 = x105) ∧ (x100 = x106))))) → (
  False /- FAIL pick -/)) ∧ (¬ ((x96 = x102) ∧ ((x97 = x103) ∧ ((x98 = x104) ∧ ((x99 = x105) ∧ (x100 = x106))))) → (
  (.bool false : Value) = v)))))) ∧ (¬ ((x96 = x102) ∧ ((x97 = x103) ∧ ((x98 = x104) ∧ ((x99 = x105) ∧ (x100 = x106))))) → ( Vj_ullagelaw02_VehicleUnits_T2 x96 x102 x97 x103 x98 x104 x99 x105 x100 x106 v)))) ∧ (¬ ((x96 = x102) ∧ ((x97 = x103) ∧ ((x98 = x104) ∧ ((x99 = x105) ∧ (x100 = x106))))) → ( Vj_ullagelaw02_VehicleUnits_T1 x96 x102 x97 x103 x98 x104 x99 x105 x100 x106 v)))) ∧ (¬ (((b0 = true) ↔ (b1 = true))) → (
  (.bool false : Value) = v)))) ∧ (¬ (((b0 = true) ↔ (b1 = true))) → (
  ((((b0 = true) ↔ (b1 = true))) → (
  False /- FAIL pick -/)) ∧ (¬ (((b0 = true) ↔ (b1 = true))) → (
  (.bool false : Value) = v)))))) ∧ (¬ (((b0 = true) ↔ (b1 = true))) → (
  ((((b0 = true) ↔ (b1 = true))) → (
  False /- FAIL binOp: operands -/)) ∧ (¬ (((b0 = true) ↔ (b1 = true))) → (
  ((((b0 = true) ↔ (b1 = true))) → (
  False /- FAIL pick -/)) ∧ (¬ (((b0 = true) ↔ (b1 = true))) → (
  (.bool false : Value) = v)))))))) ∧ (¬ (((b0 = true) ↔ (b1 = true))) → (
  ((((b0 = true) ↔ (b1 = true))) → (
  ((((b0 = true) ↔ (b1 = true))) → (
  False /- FAIL binOp: operands -/)) ∧ (¬ (((b0 = true) ↔ (b1 = true))) → (
  ((((b0 = true) ↔ (b1 = true))) → (
  False /- FAIL pick -/)) ∧ (¬ (((b0 = true) ↔ (b1 = true))) → (
  (.bool false : Value) = v)))))) ∧ (¬ (((b0 = true) ↔ (b1 = true))) → (
  ((((b0 = true) ↔ (b1 = true))) → (
  False /- FAIL binOp: operands -/)) ∧ (¬ (((b0 = true) ↔ (b1 = true))) → (
  ((((b0 = true) ↔ (b1 = true))) → (
  False /- FAIL pick -/)) ∧ (¬ (((b0 = true) ↔ (b1 = true))) → (
  (.bool false : Value) = v)))))))))) ∧ (¬ ((s13 = ([107, 80, 97] : List UInt8)) ∧ ((x91 = 1000) ∧ ((x92 = 1) ∧ ((x93 = (-1)) ∧ ((x94 = (-2)) ∧ (x95 = 1)))))) → (
  (.bool false : Value) = v)))) ∧ (¬ ((s12 = ([80, 97] : List UInt8)) ∧ ((x85 = 1) ∧ ((x86 = 1) ∧ ((x87 = (-1)) ∧ ((x88 = (-2)) ∧ (x89 = 1)))))) → (
  (.bool false : Value) = v)))) ∧ (¬ ((s11 = ([78] : List UInt8)) ∧ ((x79 = 1) ∧ ((x80 = 1000000) ∧ ((x81 = 1) ∧ ((x82 = (-2)) ∧ (x83 = 1)))))) → (
  (.bool false : Value) = v)))) ∧ (¬ ((s10 = ([107, 78] : List UInt8)) ∧ ((x73 = 1) ∧ ((x74 = 1000) ∧ ((x75 = 1) ∧ ((x76 = (-2)) ∧ (x77 = 1)))))) → (
  (.bool false : Value) = v)))) ∧ (¬ ((s9 = ([77, 78] : List UInt8)) ∧ ((x67 = 1) ∧ ((x68 = 1) ∧ ((x69 = 1) ∧ ((x70 = (-2)) ∧ (x71 = 1)))))) → (
  (.bool false : Value) = v)))) ∧ (¬ ((s8 = ([107, 103] : List UInt8)) ∧ ((x61 = 1) ∧ ((x62 = 1000) ∧ ((x63 = 0) ∧ ((x64 = 0) ∧ (x65 = 1)))))) → (
  (.bool false : Value) = v)))) ∧ (¬ ((s7 = ([116] : List UInt8)) ∧ ((x55 = 1) ∧ ((x56 = 1) ∧ ((x57 = 0) ∧ ((x58 = 0) ∧ (x59 = 1)))))) → (
  (.bool false : Value) = v)))) ∧ (¬ ((s6 = ([104] : List UInt8)) ∧ ((x49 = 3600) ∧ ((x50 = 1) ∧ ((x51 = 0) ∧ ((x52 = 1) ∧ (x53 = 0)))))) → (
  (.bool false : Value) = v)))) ∧ (¬ ((s5 = ([109, 105, 110] : List UInt8)) ∧ ((x43 = 60) ∧ ((x44 = 1) ∧ ((x45 = 0) ∧ ((x46 = 1) ∧ (x47 = 0)))))) → (
  (.bool false : Value) = v)))) ∧ (¬ ((s4 = ([109, 115] : List UInt8)) ∧ ((x37 = 1) ∧ ((x38 = 1000) ∧ ((x39 = 0) ∧ ((x40 = 1) ∧ (x41 = 0)))))) → (
  (.bool false : Value) = v)))) ∧ (¬ ((s3 = ([115] : List UInt8)) ∧ ((x31 = 1) ∧ ((x32 = 1) ∧ ((x33 = 0) ∧ ((x34 = 1) ∧ (x35 = 0)))))) → (
  (.bool false : Value) = v)))) ∧ (¬ ((s2 = ([99, 109] : List UInt8)) ∧ ((x25 = 1) ∧ ((x26 = 100000) ∧ ((x27 = 1) ∧ ((x28 = 0) ∧ (x29 = 0)))))) → (
  (.bool false : Value) = v)))) ∧ (¬ ((s1 = ([109] : List UInt8)) ∧ ((x19 = 1) ∧ ((x20 = 1000) ∧ ((x21 = 1) ∧ ((x22 = 0) ∧ (x23 = 0)))))) → (
  (.bool false : Value) = v)))) ∧ (¬ ((s0 = ([107, 109] : List UInt8)) ∧ ((x13 = 1) ∧ ((x14 = 1) ∧ ((x15 = 1) ∧ ((x16 = 0) ∧ (x17 = 0)))))) → (
  (.bool false : Value) = v)))) ∧ (¬ (x11 = 14) → (
  (.bool false : Value) = v))) : Calls Tryz.prog 9 #[.agg #[.int .i64 x0, .int .i64 x1, .int .i64 x2, .int .i64 x3, .int .i64 x4], .agg #[.int .i64 x5, .int .i64 x6, .int .i64 x7, .int .i64 x8, .int .i64 x9]] w (Vc.Ret v w) :=
  Vc.pure_of (base_inl [34, 35, 105] (by kernel_rfl)) [] globs 200 Tryz.func9 (b := (Tryz.f9.body).getD .skip) (by kernel_rfl) [.cv (.agg [.int .i64 (.var 0), .int .i64 (.var 1), .int .i64 (.var 2), .int .i64 (.var 3), .int .i64 (.var 4)]), .cv (.agg [.int .i64 (.var 5), .int .i64 (.var 6), .int .i64 (.var 7), .int .i64 (.var 8), .int .i64 (.var 9)])] ⟨10, 0, 0, 1, 0, 0, 0⟩ [.glo 0 0] (Vc.envOf [x0, x1, x2, x3, x4, x5, x6, x7, x8, x9] [] [] [(0, 0)]) (by kernel_rfl) (Vc.kn_cons (by kernel_rfl) rfl Vc.kn_nil) (by kernel_rfl) (by kernel_rfl) h

end Go.Proofs.YtogfcodccbcncaaGreatDoor
