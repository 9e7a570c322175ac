/- What the walks of functions come to (written by program). -/
import Derived.Test.YtogfcodccbcncaaGreatDoorG0
set_option linter.unusedVariables false
set_option maxRecDepth 100000
namespace Go.Proofs.YtogfcodccbcncaaGreatDoor
open Go Go.RowKit
theorem vc_vehicle_gcd (x0 x1 : Int) (w : World) (v : Value) (h : 
  ∃ (Ix2 : List Vc.Vl → Prop) (mx2 : List Vc.Vl → Nat), Ix2 [.i x0, .i x1] ∧ ∀ (x2 : Int) (x3 : Int), Ix2 [.i x2, .i x3] → (
  ((x3 = 0) → (
  ∀ x4 : Int, x4 = IntKind.i64.wrap (0 - x2) →
  ∀ x5 : Int, x5 = (if x4 > x2 then x4 else x2) →
  (.int .i64 x5 : Value) = v)) ∧ (¬ (x3 = 0) → (
  (x3 ≠ 0) ∧
  ∀ x4 : Int, x4 = Int.tmod x2 x3 →
  Ix2 [.i x3, .i x4] ∧ mx2 [.i x3, .i x4] < mx2 [.i x2, .i x3])))) : Calls Tryz.prog 64 #[.int .i64 x0, .int .i64 x1] w (Vc.Ret v w) :=
  Vc.pure_of base [(2000000000001, .inv [] [0, 1] [5, 6, 7, 8, 9, 10])] [] 200 Tryz.func64 (b := (Tryz.f64.body).getD .skip) (by kernel_rfl) [.cv (.one (.int .i64 (.var 0))), .cv (.one (.int .i64 (.var 1)))] ⟨2, 0, 0, 0, 0, 0, 0⟩ [] (Vc.envOf [x0, x1] [] [] []) (by kernel_rfl) Vc.kn_nil (by kernel_rfl) (by kernel_rfl) h

theorem vc_vehicle_CheckQuantity (x0 x1 x2 x3 x4 : Int) (w : World) (v : Value) (h : 
  (((-9) ≤ x2) → (
  ((x2 ≤ 9) → (
  (((-9) ≤ x3) → (
  ((x3 ≤ 9) → (
  (((-9) ≤ x4) → (
  ((x4 ≤ 9) → (
  (((-4611686018427387904) ≤ x0) → (
  ((x0 ≤ 4611686018427387904) → (
  ((1 ≤ x1) → (
  ((x1 ≤ 4611686018427387904) → (
  ∃ (x5 : Int), (∀ w' : World, Below w.heap.size w w' → Calls Tryz.prog 64 #[.int .i64 x0, .int .i64 x1] w' (Vc.Ret (.int .i64 x5) w')) ∧
  (.bool (x5 == 1) : Value) = v)) ∧ (¬ (x1 ≤ 4611686018427387904) → (
  (.bool false : Value) = v)))) ∧ (¬ (1 ≤ x1) → (
  (.bool false : Value) = v)))) ∧ (¬ (x0 ≤ 4611686018427387904) → (
  (.bool false : Value) = v)))) ∧ (¬ ((-4611686018427387904) ≤ x0) → (
  (.bool false : Value) = v)))) ∧ (¬ (x4 ≤ 9) → (
  (.bool false : Value) = v)))) ∧ (¬ ((-9) ≤ x4) → (
  (.bool false : Value) = v)))) ∧ (¬ (x3 ≤ 9) → (
  (.bool false : Value) = v)))) ∧ (¬ ((-9) ≤ x3) → (
  (.bool false : Value) = v)))) ∧ (¬ (x2 ≤ 9) → (
  (.bool false : Value) = v)))) ∧ (¬ ((-9) ≤ x2) → (
  (.bool false : Value) = v))) : Calls Tryz.prog 40 #[.agg #[.int .i64 x0, .int .i64 x1, .int .i64 x2, .int .i64 x3, .int .i64 x4]] w (Vc.Ret v w) :=
  Vc.pure_of (base_inl [63, 66] (by kernel_rfl)) [] [] 200 Tryz.func40 (b := (Tryz.f40.body).getD .skip) (by kernel_rfl) [.cv (.agg [.int .i64 (.var 0), .int .i64 (.var 1), .int .i64 (.var 2), .int .i64 (.var 3), .int .i64 (.var 4)])] ⟨5, 0, 0, 0, 0, 0, 0⟩ [] (Vc.envOf [x0, x1, x2, x3, x4] [] [] []) (by kernel_rfl) Vc.kn_nil (by kernel_rfl) (by kernel_rfl) h

theorem vc_ullageref02_gcd (x0 x1 : Int) (w : World) (v : Value) (h : 
  ∃ (Ix2 : List Vc.Vl → Prop) (mx2 : List Vc.Vl → Nat), Ix2 [.i x0, .i x1] ∧ ∀ (x2 : Int) (x3 : Int), Ix2 [.i x2, .i x3] → (
  ((x3 = 0) → (
  ∀ x4 : Int, x4 = IntKind.i64.wrap (0 - x2) →
  ∀ x5 : Int, x5 = (if x4 > x2 then x4 else x2) →
  (.int .i64 x5 : Value) = v)) ∧ (¬ (x3 = 0) → (
  (x3 ≠ 0) ∧
  ∀ x4 : Int, x4 = Int.tmod x2 x3 →
  Ix2 [.i x3, .i x4] ∧ mx2 [.i x3, .i x4] < mx2 [.i x2, .i x3])))) : Calls Tryz.prog 106 #[.int .i64 x0, .int .i64 x1] w (Vc.Ret v w) :=
  Vc.pure_of base [(2000000000001, .inv [] [0, 1] [6, 7, 8, 9, 10, 5, 11, 12])] [] 200 Tryz.func106 (b := (Tryz.f106.body).getD .skip) (by kernel_rfl) [.cv (.one (.int .i64 (.var 0))), .cv (.one (.int .i64 (.var 1)))] ⟨2, 0, 0, 0, 0, 0, 0⟩ [] (Vc.envOf [x0, x1] [] [] []) (by kernel_rfl) Vc.kn_nil (by kernel_rfl) (by kernel_rfl) h

theorem vc_ullageref02_CheckQuantity (x0 x1 x2 x3 x4 : Int) (w : World) (v : Value) (h : 
  (((-4611686018427387904) ≤ x0) → (
  ((x0 ≤ 4611686018427387904) → (
  ((1 ≤ x1) → (
  ((x1 ≤ 4611686018427387904) → (
  ∃ (x5 : Int), (∀ w' : World, Below w.heap.size w w' → Calls Tryz.prog 106 #[.int .i64 x0, .int .i64 x1] w' (Vc.Ret (.int .i64 x5) w')) ∧
  ((x5 = 1) → (
  (((-9) ≤ x2) → (
  ((x2 ≤ 9) → (
  (((-9) ≤ x3) → (
  ((x3 ≤ 9) → (
  (((-9) ≤ x4) → (
  (.bool (decide (x4 ≤ 9)) : Value) = v)) ∧ (¬ ((-9) ≤ x4) → (
  (.bool false : Value) = v)))) ∧ (¬ (x3 ≤ 9) → (
  (.bool false : Value) = v)))) ∧ (¬ ((-9) ≤ x3) → (
  (.bool false : Value) = v)))) ∧ (¬ (x2 ≤ 9) → (
  (.bool false : Value) = v)))) ∧ (¬ ((-9) ≤ x2) → (
  (.bool false : Value) = v)))) ∧ (¬ (x5 = 1) → (
  (.bool false : Value) = v)))) ∧ (¬ (x1 ≤ 4611686018427387904) → (
  (.bool false : Value) = v)))) ∧ (¬ (1 ≤ x1) → (
  (.bool false : Value) = v)))) ∧ (¬ (x0 ≤ 4611686018427387904) → (
  (.bool false : Value) = v)))) ∧ (¬ ((-4611686018427387904) ≤ x0) → (
  (.bool false : Value) = v))) : Calls Tryz.prog 41 #[.agg #[.int .i64 x0, .int .i64 x1, .int .i64 x2, .int .i64 x3, .int .i64 x4]] w (Vc.Ret v w) :=
  Vc.pure_of (base_inl [69] (by kernel_rfl)) [] [] 200 Tryz.func41 (b := (Tryz.f41.body).getD .skip) (by kernel_rfl) [.cv (.agg [.int .i64 (.var 0), .int .i64 (.var 1), .int .i64 (.var 2), .int .i64 (.var 3), .int .i64 (.var 4)])] ⟨5, 0, 0, 0, 0, 0, 0⟩ [] (Vc.envOf [x0, x1, x2, x3, x4] [] [] []) (by kernel_rfl) Vc.kn_nil (by kernel_rfl) (by kernel_rfl) h

theorem vc_vehicle_Lower (x0 x1 x2 x3 x4 : Int) (w : World) (v : Value) (h : 
  ∃ (b0 : Bool), (∀ w' : World, Below w.heap.size w w' → Calls Tryz.prog 40 #[.agg #[.int .i64 x0, .int .i64 x1, .int .i64 x2, .int .i64 x3, .int .i64 x4]] w' (Vc.Ret (.bool b0) w')) ∧
  ((b0 = true) → (
  ∀ x5 : Int, x5 = IntKind.i64.wrap (0 - x0) →
  ∀ x6 : Int, x6 = (if x5 > x0 then x5 else x0) →
  ∀ x7 : Int, x7 = IntKind.u64.wrap (x6) →
  ∀ x8 : Int, x8 = x7 / 4294967296 →
  ∀ x9 : Int, x9 = IntKind.u64.wrap (x7 * 4294967296) →
  ∀ x10 : Int, x10 = IntKind.u64.wrap (x1) →
  ((x10 ≤ x8) → (
  (.tuple #[.int .i64 0, .int .i64 4] : Value) = v)) ∧ (¬ (x10 ≤ x8) → (
  ∀ x11 : Int, x11 = IntKind.u64.wrap (x1) →
  ∃ (x12 : Int), ∃ (x13 : Int), (∀ w' : World, Below w.heap.size w w' → Calls Tryz.prog 68 #[.int .u64 x8, .int .u64 x9, .int .u64 x11] w' (Vc.Ret (.tuple #[.int .u64 x12, .int .u64 x13]) w')) ∧
  ((x0 < 0) → (
  ((0 < x13) → (
  ∀ x14 : Int, x14 = IntKind.u64.wrap (x12 + 1) →
  ((9223372036854775807 < x14) → (
  (.tuple #[.int .i64 0, .int .i64 4] : Value) = v)) ∧ (¬ (9223372036854775807 < x14) → (
  ((x0 < 0) → (
  ∀ x15 : Int, x15 = IntKind.i64.wrap (x14) →
  ∀ x16 : Int, x16 = IntKind.i64.wrap (0 - x15) →
  (.tuple #[.int .i64 x16, .int .i64 0] : Value) = v)) ∧ (¬ (x0 < 0) → (
  ∀ x15 : Int, x15 = IntKind.i64.wrap (x14) →
  (.tuple #[.int .i64 x15, .int .i64 0] : Value) = v)))))) ∧ (¬ (0 < x13) → (
  ((9223372036854775807 < x12) → (
  (.tuple #[.int .i64 0, .int .i64 4] : Value) = v)) ∧ (¬ (9223372036854775807 < x12) → (
  ((x0 < 0) → (
  ∀ x14 : Int, x14 = IntKind.i64.wrap (x12) →
  ∀ x15 : Int, x15 = IntKind.i64.wrap (0 - x14) →
  (.tuple #[.int .i64 x15, .int .i64 0] : Value) = v)) ∧ (¬ (x0 < 0) → (
  ∀ x14 : Int, x14 = IntKind.i64.wrap (x12) →
  (.tuple #[.int .i64 x14, .int .i64 0] : Value) = v)))))))) ∧ (¬ (x0 < 0) → (
  ((9223372036854775807 < x12) → (
  (.tuple #[.int .i64 0, .int .i64 4] : Value) = v)) ∧ (¬ (9223372036854775807 < x12) → (
  ((x0 < 0) → (
  ∀ x14 : Int, x14 = IntKind.i64.wrap (x12) →
  ∀ x15 : Int, x15 = IntKind.i64.wrap (0 - x14) →
  (.tuple #[.int .i64 x15, .int .i64 0] : Value) = v)) ∧ (¬ (x0 < 0) → (
  ∀ x14 : Int, x14 = IntKind.i64.wrap (x12) →
  (.tuple #[.int .i64 x14, .int .i64 0] : Value) = v)))))))))) ∧ (¬ (b0 = true) → (
  (.tuple #[.int .i64 0, .int .i64 2] : Value) = v))) : Calls Tryz.prog 20 #[.agg #[.int .i64 x0, .int .i64 x1, .int .i64 x2, .int .i64 x3, .int .i64 x4]] w (Vc.Ret v w) :=
  Vc.pure_of base [] [] 200 Tryz.func20 (b := (Tryz.f20.body).getD .skip) (by kernel_rfl) [.cv (.agg [.int .i64 (.var 0), .int .i64 (.var 1), .int .i64 (.var 2), .int .i64 (.var 3), .int .i64 (.var 4)])] ⟨5, 0, 0, 0, 0, 0, 0⟩ [] (Vc.envOf [x0, x1, x2, x3, x4] [] [] []) (by kernel_rfl) Vc.kn_nil (by kernel_rfl) (by kernel_rfl) h

theorem vc_vehicle_Upper (x0 x1 x2 x3 x4 : Int) (w : World) (v : Value) (h : 
  ∃ (b0 : Bool), (∀ w' : World, Below w.heap.size w w' → Calls Tryz.prog 40 #[.agg #[.int .i64 x0, .int .i64 x1, .int .i64 x2, .int .i64 x3, .int .i64 x4]] w' (Vc.Ret (.bool b0) w')) ∧
  ((b0 = true) → (
  ∀ x5 : Int, x5 = IntKind.i64.wrap (0 - x0) →
  ∃ (x6 : Int), ∃ (x7 : Int), (∀ w' : World, Below w.heap.size w w' → Calls Tryz.prog 20 #[.agg #[.int .i64 x5, .int .i64 x1, .int .i64 x2, .int .i64 x3, .int .i64 x4]] w' (Vc.Ret (.tuple #[.int .i64 x6, .int .i64 x7]) w')) ∧
  ∀ x8 : Int, x8 = IntKind.i64.wrap (0 - x6) →
  (.tuple #[.int .i64 x8, .int .i64 x7] : Value) = v)) ∧ (¬ (b0 = true) → (
  (.tuple #[.int .i64 0, .int .i64 2] : Value) = v))) : Calls Tryz.prog 22 #[.agg #[.int .i64 x0, .int .i64 x1, .int .i64 x2, .int .i64 x3, .int .i64 x4]] w (Vc.Ret v w) :=
  Vc.pure_of base [] [] 200 Tryz.func22 (b := (Tryz.f22.body).getD .skip) (by kernel_rfl) [.cv (.agg [.int .i64 (.var 0), .int .i64 (.var 1), .int .i64 (.var 2), .int .i64 (.var 3), .int .i64 (.var 4)])] ⟨5, 0, 0, 0, 0, 0, 0⟩ [] (Vc.envOf [x0, x1, x2, x3, x4] [] [] []) (by kernel_rfl) Vc.kn_nil (by kernel_rfl) (by kernel_rfl) h

theorem vc_ullageref02_Lower (x0 x1 x2 x3 x4 : Int) (w : World) (v : Value) (h : 
  ∃ (b0 : Bool), (∀ w' : World, Below w.heap.size w w' → Calls Tryz.prog 41 #[.agg #[.int .i64 x0, .int .i64 x1, .int .i64 x2, .int .i64 x3, .int .i64 x4]] w' (Vc.Ret (.bool b0) w')) ∧
  ((b0 = true) → (
  (x1 ≠ 0) ∧
  ∀ x5 : Int, x5 = IntKind.i64.wrap (Int.tdiv x0 x1) →
  (x1 ≠ 0) ∧
  ∀ x6 : Int, x6 = Int.tmod x0 x1 →
  ((x6 < 0) → (
  ∀ x7 : Int, x7 = IntKind.i64.wrap (x5 - 1) →
  ∀ x8 : Int, x8 = IntKind.i64.wrap (x6 + x1) →
  (((-2147483648) ≤ x7) → (
  ((x7 ≤ 2147483647) → (
  ∃ (Ix9 : List Vc.Vl → Prop) (mx9 : List Vc.Vl → Nat), Ix9 [.i x7, .i x8, .i 0] ∧ ∀ (x9 : Int) (x10 : Int) (x11 : Int), Ix9 [.i x9, .i x10, .i x11] → (
  ((x11 < 32) → (
  ∀ x12 : Int, x12 = IntKind.i64.wrap (2 * x9) →
  ∀ x13 : Int, x13 = IntKind.i64.wrap (2 * x10) →
  ((x1 ≤ x13) → (
  ∀ x14 : Int, x14 = IntKind.i64.wrap (x12 + 1) →
  ∀ x15 : Int, x15 = IntKind.i64.wrap (x13 - x1) →
  ∀ x16 : Int, x16 = IntKind.i64.wrap (x11 + 1) →
  Ix9 [.i x14, .i x15, .i x16] ∧ mx9 [.i x14, .i x15, .i x16] < mx9 [.i x9, .i x10, .i x11])) ∧ (¬ (x1 ≤ x13) → (
  ∀ x14 : Int, x14 = IntKind.i64.wrap (x11 + 1) →
  Ix9 [.i x12, .i x13, .i x14] ∧ mx9 [.i x12, .i x13, .i x14] < mx9 [.i x9, .i x10, .i x11])))) ∧ (¬ (x11 < 32) → (
  ((x9 = (-9223372036854775808)) → (
  (.tuple #[.int .i64 0, .int .i64 4] : Value) = v)) ∧ (¬ (x9 = (-9223372036854775808)) → (
  (.tuple #[.int .i64 x9, .int .i64 0] : Value) = v))))))) ∧ (¬ (x7 ≤ 2147483647) → (
  (.tuple #[.int .i64 0, .int .i64 4] : Value) = v)))) ∧ (¬ ((-2147483648) ≤ x7) → (
  (.tuple #[.int .i64 0, .int .i64 4] : Value) = v)))) ∧ (¬ (x6 < 0) → (
  (((-2147483648) ≤ x5) → (
  ((x5 ≤ 2147483647) → (
  ∃ (Ix7 : List Vc.Vl → Prop) (mx7 : List Vc.Vl → Nat), Ix7 [.i x5, .i x6, .i 0] ∧ ∀ (x7 : Int) (x8 : Int) (x9 : Int), Ix7 [.i x7, .i x8, .i x9] → (
  ((x9 < 32) → (
  ∀ x10 : Int, x10 = IntKind.i64.wrap (2 * x7) →
  ∀ x11 : Int, x11 = IntKind.i64.wrap (2 * x8) →
  ((x1 ≤ x11) → (
  ∀ x12 : Int, x12 = IntKind.i64.wrap (x10 + 1) →
  ∀ x13 : Int, x13 = IntKind.i64.wrap (x11 - x1) →
  ∀ x14 : Int, x14 = IntKind.i64.wrap (x9 + 1) →
  Ix7 [.i x12, .i x13, .i x14] ∧ mx7 [.i x12, .i x13, .i x14] < mx7 [.i x7, .i x8, .i x9])) ∧ (¬ (x1 ≤ x11) → (
  ∀ x12 : Int, x12 = IntKind.i64.wrap (x9 + 1) →
  Ix7 [.i x10, .i x11, .i x12] ∧ mx7 [.i x10, .i x11, .i x12] < mx7 [.i x7, .i x8, .i x9])))) ∧ (¬ (x9 < 32) → (
  ((x7 = (-9223372036854775808)) → (
  (.tuple #[.int .i64 0, .int .i64 4] : Value) = v)) ∧ (¬ (x7 = (-9223372036854775808)) → (
  (.tuple #[.int .i64 x7, .int .i64 0] : Value) = v))))))) ∧ (¬ (x5 ≤ 2147483647) → (
  (.tuple #[.int .i64 0, .int .i64 4] : Value) = v)))) ∧ (¬ ((-2147483648) ≤ x5) → (
  (.tuple #[.int .i64 0, .int .i64 4] : Value) = v)))))) ∧ (¬ (b0 = true) → (
  (.tuple #[.int .i64 0, .int .i64 2] : Value) = v))) : Calls Tryz.prog 21 #[.agg #[.int .i64 x0, .int .i64 x1, .int .i64 x2, .int .i64 x3, .int .i64 x4]] w (Vc.Ret v w) :=
  Vc.pure_of (base_inl [69] (by kernel_rfl)) [(2000000000010, .inv [] [4, 5, 6] [31, 32, 35, 36, 37, 38, 39, 40, 41, 42, 43, 44, 45, 46, 47, 48, 33, 34])] [] 200 Tryz.func21 (b := (Tryz.f21.body).getD .skip) (by kernel_rfl) [.cv (.agg [.int .i64 (.var 0), .int .i64 (.var 1), .int .i64 (.var 2), .int .i64 (.var 3), .int .i64 (.var 4)])] ⟨5, 0, 0, 0, 0, 0, 0⟩ [] (Vc.envOf [x0, x1, x2, x3, x4] [] [] []) (by kernel_rfl) Vc.kn_nil (by kernel_rfl) (by kernel_rfl) h

theorem vc_ullageref02_Upper (x0 x1 x2 x3 x4 : Int) (w : World) (v : Value) (h : 
  ∃ (b0 : Bool), (∀ w' : World, Below w.heap.size w w' → Calls Tryz.prog 41 #[.agg #[.int .i64 x0, .int .i64 x1, .int .i64 x2, .int .i64 x3, .int .i64 x4]] w' (Vc.Ret (.bool b0) w')) ∧
  ((b0 = true) → (
  ∀ x5 : Int, x5 = IntKind.i64.wrap (0 - x0) →
  ∃ (x6 : Int), ∃ (x7 : Int), (∀ w' : World, Below w.heap.size w w' → Calls Tryz.prog 21 #[.agg #[.int .i64 x5, .int .i64 x1, .int .i64 x2, .int .i64 x3, .int .i64 x4]] w' (Vc.Ret (.tuple #[.int .i64 x6, .int .i64 x7]) w')) ∧
  ∀ x8 : Int, x8 = IntKind.i64.wrap (0 - x6) →
  (.tuple #[.int .i64 x8, .int .i64 x7] : Value) = v)) ∧ (¬ (b0 = true) → (
  (.tuple #[.int .i64 0, .int .i64 2] : Value) = v))) : Calls Tryz.prog 23 #[.agg #[.int .i64 x0, .int .i64 x1, .int .i64 x2, .int .i64 x3, .int .i64 x4]] w (Vc.Ret v w) :=
  Vc.pure_of base [] [] 200 Tryz.func23 (b := (Tryz.f23.body).getD .skip) (by kernel_rfl) [.cv (.agg [.int .i64 (.var 0), .int .i64 (.var 1), .int .i64 (.var 2), .int .i64 (.var 3), .int .i64 (.var 4)])] ⟨5, 0, 0, 0, 0, 0, 0⟩ [] (Vc.envOf [x0, x1, x2, x3, x4] [] [] []) (by kernel_rfl) Vc.kn_nil (by kernel_rfl) (by kernel_rfl) h

theorem vc_ullagelaw02_VehicleNumbers (x0 x1 x2 x3 x4 : Int) (w : World) (v : Value) (h : 
  ∃ (x5 : Int), ∃ (x6 : Int), (∀ w' : World, Below w.heap.size w w' → Calls Tryz.prog 20 #[.agg #[.int .i64 x0, .int .i64 x1, .int .i64 x2, .int .i64 x3, .int .i64 x4]] w' (Vc.Ret (.tuple #[.int .i64 x5, .int .i64 x6]) w')) ∧
  ∃ (x7 : Int), ∃ (x8 : Int), (∀ w' : World, Below w.heap.size w w' → Calls Tryz.prog 21 #[.agg #[.int .i64 x0, .int .i64 x1, .int .i64 x2, .int .i64 x3, .int .i64 x4]] w' (Vc.Ret (.tuple #[.int .i64 x7, .int .i64 x8]) w')) ∧
  ∃ (x9 : Int), ∃ (x10 : Int), (∀ w' : World, Below w.heap.size w w' → Calls Tryz.prog 22 #[.agg #[.int .i64 x0, .int .i64 x1, .int .i64 x2, .int .i64 x3, .int .i64 x4]] w' (Vc.Ret (.tuple #[.int .i64 x9, .int .i64 x10]) w')) ∧
  ∃ (x11 : Int), ∃ (x12 : Int), (∀ w' : World, Below w.heap.size w w' → Calls Tryz.prog 23 #[.agg #[.int .i64 x0, .int .i64 x1, .int .i64 x2, .int .i64 x3, .int .i64 x4]] w' (Vc.Ret (.tuple #[.int .i64 x11, .int .i64 x12]) w')) ∧
  ((x5 = x7) → (
  ((x6 = x8) → (
  ((x9 = x11) → (
  ((x10 = x12) → (
  ((x6 = 0) → (
  ((x10 = 0) → (
  (x1 ≠ 0) ∧
  ∀ x13 : Int, x13 = Int.tmod 4294967296 x1 →
  ((x13 = 0) → (
  ((x5 = x9) → (
  ((x13 = 0) → (
  ∃ (b0 : Bool), (∀ w' : World, Below w.heap.size w w' → Calls Tryz.prog 19 #[] w' (Vc.Ret (.bool b0) w')) ∧
  (.bool b0 : Value) = v)) ∧ (¬ (x13 = 0) → (
  ∀ x14 : Int, x14 = IntKind.i64.wrap (x5 + 1) →
  ((x9 = x14) → (
  ∃ (b0 : Bool), (∀ w' : World, Below w.heap.size w w' → Calls Tryz.prog 19 #[] w' (Vc.Ret (.bool b0) w')) ∧
  (.bool b0 : Value) = v)) ∧ (¬ (x9 = x14) → (
  (.bool false : Value) = v)))))) ∧ (¬ (x5 = x9) → (
  (.bool false : Value) = v)))) ∧ (¬ (x13 = 0) → (
  ((x13 = 0) → (
  ∃ (b0 : Bool), (∀ w' : World, Below w.heap.size w w' → Calls Tryz.prog 19 #[] w' (Vc.Ret (.bool b0) w')) ∧
  (.bool b0 : Value) = v)) ∧ (¬ (x13 = 0) → (
  ∀ x14 : Int, x14 = IntKind.i64.wrap (x5 + 1) →
  ((x9 = x14) → (
  ∃ (b0 : Bool), (∀ w' : World, Below w.heap.size w w' → Calls Tryz.prog 19 #[] w' (Vc.Ret (.bool b0) w')) ∧
  (.bool b0 : Value) = v)) ∧ (¬ (x9 = x14) → (
  (.bool false : Value) = v)))))))) ∧ (¬ (x10 = 0) → (
  ∃ (b0 : Bool), (∀ w' : World, Below w.heap.size w w' → Calls Tryz.prog 19 #[] w' (Vc.Ret (.bool b0) w')) ∧
  (.bool b0 : Value) = v)))) ∧ (¬ (x6 = 0) → (
  ∃ (b0 : Bool), (∀ w' : World, Below w.heap.size w w' → Calls Tryz.prog 19 #[] w' (Vc.Ret (.bool b0) w')) ∧
  (.bool b0 : Value) = v)))) ∧ (¬ (x10 = x12) → (
  (.bool false : Value) = v)))) ∧ (¬ (x9 = x11) → (
  (.bool false : Value) = v)))) ∧ (¬ (x6 = x8) → (
  (.bool false : Value) = v)))) ∧ (¬ (x5 = x7) → (
  (.bool false : Value) = v))) : Calls Tryz.prog 4 #[.agg #[.int .i64 x0, .int .i64 x1, .int .i64 x2, .int .i64 x3, .int .i64 x4]] w (Vc.Ret v w) :=
  Vc.pure_of base [] [] 200 Tryz.func4 (b := (Tryz.f4.body).getD .skip) (by kernel_rfl) [.cv (.agg [.int .i64 (.var 0), .int .i64 (.var 1), .int .i64 (.var 2), .int .i64 (.var 3), .int .i64 (.var 4)])] ⟨5, 0, 0, 0, 0, 0, 0⟩ [] (Vc.envOf [x0, x1, x2, x3, x4] [] [] []) (by kernel_rfl) Vc.kn_nil (by kernel_rfl) (by kernel_rfl) h

end Go.Proofs.YtogfcodccbcncaaGreatDoor
