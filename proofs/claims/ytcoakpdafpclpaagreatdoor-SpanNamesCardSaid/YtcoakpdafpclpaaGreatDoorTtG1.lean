/- What the walks of functions come to (written by program). -/
import Derived.Test.YtcoakpdafpclpaaGreatDoorVcU
import Derived.Test.YtcoakpdafpclpaaGreatDoorRows
set_option linter.unusedVariables false
set_option maxRecDepth 100000
namespace Go.Proofs.YtcoakpdafpclpaaGreatDoor
open Go Go.RowKit
def fcalls : List Nat := [2, 3, 4, 5, 6, 7, 8, 9, 10, 11, 12, 13, 14, 15, 16, 17, 18, 19, 20, 21, 22, 23, 24, 25, 26, 27, 28, 29, 30, 31, 32, 33, 34, 35, 36, 37, 38, 39, 40, 41, 42, 43, 44, 45, 46, 47, 48, 49, 50, 51, 52, 53, 54, 55, 56, 57, 58, 59, 60, 61, 64, 65, 66, 67, 68, 69, 70, 71, 72, 73, 74, 75, 76, 77, 78, 79, 80, 81, 82, 84, 85, 86, 87, 88, 89, 90, 91, 92, 93, 94, 95, 96, 97, 98, 99, 100, 101, 102, 103, 105, 106, 107, 108, 109, 110, 111, 113, 114, 115, 141]
def fext : List Nat := [0, 1, 62, 63, 83, 104, 112, 116, 117, 118, 119, 120, 121, 122, 123, 124, 125, 126, 127, 128, 129, 130, 131, 132, 133, 134, 135, 136, 137, 138, 139, 140]
theorem base : Vc.Base Tryz.prog fcalls fext [] := ⟨by kernel_rfl, by kernel_rfl, by kernel_rfl⟩
theorem base_inl (l : List Nat) (h : Vc.okCalls Tryz.prog l = true) : Vc.Base Tryz.prog fcalls fext l := ⟨by kernel_rfl, h, by kernel_rfl⟩

theorem vc_span_valid (x0 : Int) (w : World) (v : Value) (h : 
  (.bool (decide (x0 ≥ (-9223372036854775807))) : Value) = v) : Calls Tryz.prog 28 #[.int .i64 x0] w (Vc.Ret v w) :=
  Vc.pure_of base [] 200 Tryz.func28 (b := (Tryz.f28.body).getD .skip) (by kernel_rfl) [.cv (.one (.int .i64 (.var 0)))] ⟨1, 0, 0, 0, 0, 0, 0⟩ (Vc.envOf [x0] [] [] []) (by kernel_rfl) (by kernel_rfl) (by kernel_rfl) h

theorem vc_span_Check (x0 x1 : Int) (w : World) (v : Value) (h : 
  ∃ (b0 : Bool), (∀ w' : World, Below w.heap.size w w' → Calls Tryz.prog 28 #[.int .i64 x0] w' (Vc.Ret (.bool b0) w')) ∧
  ((b0 = true) → (
  ∃ (b1 : Bool), (∀ w' : World, Below w.heap.size w w' → Calls Tryz.prog 28 #[.int .i64 x1] w' (Vc.Ret (.bool b1) w')) ∧
  ((b1 = true) → (
  ((x1 < x0) → (
  (.int .i64 2 : Value) = v)) ∧ (¬ (x1 < x0) → (
  (.int .i64 0 : Value) = v)))) ∧ (¬ (b1 = true) → (
  (.int .i64 2 : Value) = v)))) ∧ (¬ (b0 = true) → (
  (.int .i64 2 : Value) = v))) : Calls Tryz.prog 39 #[.agg #[.int .i64 x0, .int .i64 x1]] w (Vc.Ret v w) :=
  Vc.pure_of base [] 200 Tryz.func39 (b := (Tryz.f39.body).getD .skip) (by kernel_rfl) [.cv (.agg [.int .i64 (.var 0), .int .i64 (.var 1)])] ⟨2, 0, 0, 0, 0, 0, 0⟩ (Vc.envOf [x0, x1] [] [] []) (by kernel_rfl) (by kernel_rfl) (by kernel_rfl) h

theorem vc_span_In (x0 x1 x2 : Int) (w : World) (v : Value) (h : 
  ∃ (x3 : Int), (∀ w' : World, Below w.heap.size w w' → Calls Tryz.prog 39 #[.agg #[.int .i64 x0, .int .i64 x1]] w' (Vc.Ret (.int .i64 x3) w')) ∧
  ((x3 = 0) → (
  ((x0 ≤ x2) → (
  (.bool (decide (x2 ≤ x1)) : Value) = v)) ∧ (¬ (x0 ≤ x2) → (
  (.bool false : Value) = v)))) ∧ (¬ (x3 = 0) → (
  (.bool false : Value) = v))) : Calls Tryz.prog 46 #[.agg #[.int .i64 x0, .int .i64 x1], .int .i64 x2] w (Vc.Ret v w) :=
  Vc.pure_of base [] 200 Tryz.func46 (b := (Tryz.f46.body).getD .skip) (by kernel_rfl) [.cv (.agg [.int .i64 (.var 0), .int .i64 (.var 1)]), .cv (.one (.int .i64 (.var 2)))] ⟨3, 0, 0, 0, 0, 0, 0⟩ (Vc.envOf [x0, x1, x2] [] [] []) (by kernel_rfl) (by kernel_rfl) (by kernel_rfl) h

theorem vc_span_checked_2 (p0 : Nat × Nat) (w : World) (v : Value) (h : 
  ∃ (x0 : Int), w.cell? ⟨p0.1, p0.2 + (Int.toNat 0) * 2 + 0, none⟩ = some (.int .i64 x0) ∧
  ∃ (x1 : Int), w.cell? ⟨p0.1, p0.2 + (Int.toNat 0) * 2 + 1, none⟩ = some (.int .i64 x1) ∧
  ∃ (x2 : Int), (∀ w' : World, Below w.heap.size w w' → Calls Tryz.prog 39 #[.agg #[.int .i64 x0, .int .i64 x1]] w' (Vc.Ret (.int .i64 x2) w')) ∧
  ((x2 = 0) → (
  ∃ (x3 : Int), w.cell? ⟨p0.1, p0.2 + (Int.toNat 1) * 2 + 0, none⟩ = some (.int .i64 x3) ∧
  ∃ (x4 : Int), w.cell? ⟨p0.1, p0.2 + (Int.toNat 1) * 2 + 1, none⟩ = some (.int .i64 x4) ∧
  ∃ (x5 : Int), (∀ w' : World, Below w.heap.size w w' → Calls Tryz.prog 39 #[.agg #[.int .i64 x3, .int .i64 x4]] w' (Vc.Ret (.int .i64 x5) w')) ∧
  ((x5 = 0) → (
  (.int .i64 0 : Value) = v)) ∧ (¬ (x5 = 0) → (
  (.int .i64 x5 : Value) = v)))) ∧ (¬ (x2 = 0) → (
  (.int .i64 x2 : Value) = v))) : Calls Tryz.prog 34 #[.slice (some ⟨p0.1, p0.2, none⟩) 2 2] w (Vc.Ret v w) :=
  Vc.pure_of base [(1000000000002, .unroll)] 200 Tryz.func34 (b := (Tryz.f34.body).getD .skip) (by kernel_rfl) [.cv (.one (.xsl 0 (.lit (0)) 2 (.lit (2)) (.lit (2))))] ⟨0, 0, 0, 1, 0, 0, 0⟩ (Vc.envOf [] [] [] [p0]) (by kernel_rfl) (by kernel_rfl) (by kernel_rfl) h

theorem vc_span_Within (x0 x1 x2 x3 : Int) (w : World) (v : Value) (h : 
  ∃ (x4 : Int), (∀ (β : Nat → Nat) (w' : World), Below w.heap.size w w' → ((w.heap.size ≤ β 2 ∧ w'.heap[β 2]? = some (.cells #[.int .i64 x0, .int .i64 x1, .int .i64 x2, .int .i64 x3] 24)) ∧ True) → Calls Tryz.prog 34 #[.slice (some ⟨β 2, 0, none⟩) 2 2] w' (Vc.Ret (.int .i64 x4) w')) ∧
  ((x4 = 0) → (
  ((x2 ≤ x0) → (
  (.bool (decide (x1 ≤ x3)) : Value) = v)) ∧ (¬ (x2 ≤ x0) → (
  (.bool false : Value) = v)))) ∧ (¬ (x4 = 0) → (
  (.bool false : Value) = v))) : Calls Tryz.prog 47 #[.agg #[.int .i64 x0, .int .i64 x1], .agg #[.int .i64 x2, .int .i64 x3]] w (Vc.Ret v w) :=
  Vc.pure_of base [] 200 Tryz.func47 (b := (Tryz.f47.body).getD .skip) (by kernel_rfl) [.cv (.agg [.int .i64 (.var 0), .int .i64 (.var 1)]), .cv (.agg [.int .i64 (.var 2), .int .i64 (.var 3)])] ⟨4, 0, 0, 0, 0, 0, 0⟩ (Vc.envOf [x0, x1, x2, x3] [] [] []) (by kernel_rfl) (by kernel_rfl) (by kernel_rfl) h

theorem vc_span_size (x0 : Int) (w : World) (v : Value) (h : 
  ((x0 < 0) → (
  ∀ x1 : Int, x1 = IntKind.u64.wrap (x0) →
  ∀ x2 : Int, x2 = IntKind.u64.wrap (0 - x1) →
  (.int .u64 x2 : Value) = v)) ∧ (¬ (x0 < 0) → (
  ∀ x1 : Int, x1 = IntKind.u64.wrap (x0) →
  (.int .u64 x1 : Value) = v))) : Calls Tryz.prog 29 #[.int .i64 x0] w (Vc.Ret v w) :=
  Vc.pure_of base [] 200 Tryz.func29 (b := (Tryz.f29.body).getD .skip) (by kernel_rfl) [.cv (.one (.int .i64 (.var 0)))] ⟨1, 0, 0, 0, 0, 0, 0⟩ (Vc.envOf [x0] [] [] []) (by kernel_rfl) (by kernel_rfl) (by kernel_rfl) h

theorem vc_span_of (x0 : Int) (w : World) (v : Value) (h : 
  ∃ (x1 : Int), (∀ w' : World, Below w.heap.size w w' → Calls Tryz.prog 29 #[.int .i64 x0] w' (Vc.Ret (.int .u64 x1) w')) ∧
  (.agg #[.bool (decide (x0 < 0)), .int .u64 0, .int .u64 x1] : Value) = v) : Calls Tryz.prog 20 #[.int .i64 x0] w (Vc.Ret v w) :=
  Vc.pure_of base [] 200 Tryz.func20 (b := (Tryz.f20.body).getD .skip) (by kernel_rfl) [.cv (.one (.int .i64 (.var 0)))] ⟨1, 0, 0, 0, 0, 0, 0⟩ (Vc.envOf [x0] [] [] []) (by kernel_rfl) (by kernel_rfl) (by kernel_rfl) h

theorem vc_math_bits_Mul64 (x0 x1 : Int) (w : World) (v : Value) (h : 
  ∀ x2 : Int, x2 = bits .and .u64 x0 4294967295 →
  ∀ x3 : Int, x3 = x0 / 4294967296 →
  ∀ x4 : Int, x4 = bits .and .u64 x1 4294967295 →
  ∀ x5 : Int, x5 = x1 / 4294967296 →
  ∀ x6 : Int, x6 = IntKind.u64.wrap (x2 * x4) →
  ∀ x7 : Int, x7 = IntKind.u64.wrap (x3 * x4) →
  ∀ x8 : Int, x8 = x6 / 4294967296 →
  ∀ x9 : Int, x9 = IntKind.u64.wrap (x7 + x8) →
  ∀ x10 : Int, x10 = bits .and .u64 x9 4294967295 →
  ∀ x11 : Int, x11 = x9 / 4294967296 →
  ∀ x12 : Int, x12 = IntKind.u64.wrap (x2 * x5) →
  ∀ x13 : Int, x13 = IntKind.u64.wrap (x10 + x12) →
  ∀ x14 : Int, x14 = IntKind.u64.wrap (x3 * x5) →
  ∀ x15 : Int, x15 = IntKind.u64.wrap (x14 + x11) →
  ∀ x16 : Int, x16 = x13 / 4294967296 →
  ∀ x17 : Int, x17 = IntKind.u64.wrap (x15 + x16) →
  ∀ x18 : Int, x18 = IntKind.u64.wrap (x0 * x1) →
  (.tuple #[.int .u64 x17, .int .u64 x18] : Value) = v) : Calls Tryz.prog 71 #[.int .u64 x0, .int .u64 x1] w (Vc.Ret v w) :=
  Vc.pure_of base [] 200 Tryz.func71 (b := (Tryz.f71.body).getD .skip) (by kernel_rfl) [.cv (.one (.int .u64 (.var 0))), .cv (.one (.int .u64 (.var 1)))] ⟨2, 0, 0, 0, 0, 0, 0⟩ (Vc.envOf [x0, x1] [] [] []) (by kernel_rfl) (by kernel_rfl) (by kernel_rfl) h

theorem vc_span_times (x0 x1 : Int) (w : World) (v : Value) (h : 
  ∃ (x2 : Int), (∀ w' : World, Below w.heap.size w w' → Calls Tryz.prog 29 #[.int .i64 x0] w' (Vc.Ret (.int .u64 x2) w')) ∧
  ∃ (x3 : Int), (∀ w' : World, Below w.heap.size w w' → Calls Tryz.prog 29 #[.int .i64 x1] w' (Vc.Ret (.int .u64 x3) w')) ∧
  ∃ (x4 : Int), ∃ (x5 : Int), (∀ w' : World, Below w.heap.size w w' → Calls Tryz.prog 71 #[.int .u64 x2, .int .u64 x3] w' (Vc.Ret (.tuple #[.int .u64 x4, .int .u64 x5]) w')) ∧
  (.agg #[.bool (!((decide (x0 < 0)) == (decide (x1 < 0)))), .int .u64 x4, .int .u64 x5] : Value) = v) : Calls Tryz.prog 70 #[.int .i64 x0, .int .i64 x1] w (Vc.Ret v w) :=
  Vc.pure_of base [] 200 Tryz.func70 (b := (Tryz.f70.body).getD .skip) (by kernel_rfl) [.cv (.one (.int .i64 (.var 0))), .cv (.one (.int .i64 (.var 1)))] ⟨2, 0, 0, 0, 0, 0, 0⟩ (Vc.envOf [x0, x1] [] [] []) (by kernel_rfl) (by kernel_rfl) (by kernel_rfl) h

theorem vc__span_big__up_32 (x0 x1 : Int) (b0 : Bool) (w : World) (v : Value) (h : 
  ∀ x2 : Int, x2 = IntKind.u64.wrap (x0 * 4294967296) →
  ∀ x3 : Int, x3 = x1 / 4294967296 →
  ∀ x4 : Int, x4 = bits .or .u64 x2 x3 →
  ∀ x5 : Int, x5 = IntKind.u64.wrap (x1 * 4294967296) →
  (.agg #[.bool b0, .int .u64 x4, .int .u64 x5] : Value) = v) : Calls Tryz.prog 21 #[.agg #[.bool b0, .int .u64 x0, .int .u64 x1], .int .u64 32] w (Vc.Ret v w) :=
  Vc.pure_of base [] 200 Tryz.func21 (b := (Tryz.f21.body).getD .skip) (by kernel_rfl) [.cv (.agg [.bool (.var 0), .int .u64 (.var 0), .int .u64 (.var 1)]), .cv (.one (.int .u64 (.lit (32))))] ⟨2, 1, 0, 0, 0, 0, 0⟩ (Vc.envOf [x0, x1] [b0] [] []) (by kernel_rfl) (by kernel_rfl) (by kernel_rfl) h

theorem vc__span_big__up_1 (x0 x1 : Int) (b0 : Bool) (w : World) (v : Value) (h : 
  ∀ x2 : Int, x2 = IntKind.u64.wrap (x0 * 2) →
  ∀ x3 : Int, x3 = x1 / 9223372036854775808 →
  ∀ x4 : Int, x4 = bits .or .u64 x2 x3 →
  ∀ x5 : Int, x5 = IntKind.u64.wrap (x1 * 2) →
  (.agg #[.bool b0, .int .u64 x4, .int .u64 x5] : Value) = v) : Calls Tryz.prog 21 #[.agg #[.bool b0, .int .u64 x0, .int .u64 x1], .int .u64 1] w (Vc.Ret v w) :=
  Vc.pure_of base [] 200 Tryz.func21 (b := (Tryz.f21.body).getD .skip) (by kernel_rfl) [.cv (.agg [.bool (.var 0), .int .u64 (.var 0), .int .u64 (.var 1)]), .cv (.one (.int .u64 (.lit (1))))] ⟨2, 1, 0, 0, 0, 0, 0⟩ (Vc.envOf [x0, x1] [b0] [] []) (by kernel_rfl) (by kernel_rfl) (by kernel_rfl) h

theorem vc__span_big__up_65 (x0 x1 : Int) (b0 : Bool) (w : World) (v : Value) (h : 
  ∀ x2 : Int, x2 = IntKind.u64.wrap (x1 * 2) →
  (.agg #[.bool b0, .int .u64 x2, .int .u64 0] : Value) = v) : Calls Tryz.prog 21 #[.agg #[.bool b0, .int .u64 x0, .int .u64 x1], .int .u64 65] w (Vc.Ret v w) :=
  Vc.pure_of base [] 200 Tryz.func21 (b := (Tryz.f21.body).getD .skip) (by kernel_rfl) [.cv (.agg [.bool (.var 0), .int .u64 (.var 0), .int .u64 (.var 1)]), .cv (.one (.int .u64 (.lit (65))))] ⟨2, 1, 0, 0, 0, 0, 0⟩ (Vc.envOf [x0, x1] [b0] [] []) (by kernel_rfl) (by kernel_rfl) (by kernel_rfl) h

theorem vc__span_big__zero (x0 x1 : Int) (b0 : Bool) (w : World) (v : Value) (h : 
  ((x0 = 0) → (
  (.bool (x1 == 0) : Value) = v)) ∧ (¬ (x0 = 0) → (
  (.bool false : Value) = v))) : Calls Tryz.prog 90 #[.agg #[.bool b0, .int .u64 x0, .int .u64 x1]] w (Vc.Ret v w) :=
  Vc.pure_of base [] 200 Tryz.func90 (b := (Tryz.f90.body).getD .skip) (by kernel_rfl) [.cv (.agg [.bool (.var 0), .int .u64 (.var 0), .int .u64 (.var 1)])] ⟨2, 1, 0, 0, 0, 0, 0⟩ (Vc.envOf [x0, x1] [b0] [] []) (by kernel_rfl) (by kernel_rfl) (by kernel_rfl) h

theorem vc__span_big__below (x0 x1 : Int) (b0 : Bool) (w : World) (v : Value) (h : 
  ((b0 = true) → (
  ∃ (b1 : Bool), (∀ w' : World, Below w.heap.size w w' → Calls Tryz.prog 90 #[.agg #[.bool b0, .int .u64 x0, .int .u64 x1]] w' (Vc.Ret (.bool b1) w')) ∧
  (.bool (!b1) : Value) = v)) ∧ (¬ (b0 = true) → (
  (.bool false : Value) = v))) : Calls Tryz.prog 91 #[.agg #[.bool b0, .int .u64 x0, .int .u64 x1]] w (Vc.Ret v w) :=
  Vc.pure_of base [] 200 Tryz.func91 (b := (Tryz.f91.body).getD .skip) (by kernel_rfl) [.cv (.agg [.bool (.var 0), .int .u64 (.var 0), .int .u64 (.var 1)])] ⟨2, 1, 0, 0, 0, 0, 0⟩ (Vc.envOf [x0, x1] [b0] [] []) (by kernel_rfl) (by kernel_rfl) (by kernel_rfl) h

theorem vc_span_less (x0 x1 x2 x3 : Int) (b0 b1 : Bool) (w : World) (v : Value) (h : 
  ∃ (b2 : Bool), (∀ w' : World, Below w.heap.size w w' → Calls Tryz.prog 91 #[.agg #[.bool b0, .int .u64 x0, .int .u64 x1]] w' (Vc.Ret (.bool b2) w')) ∧
  ∃ (b3 : Bool), (∀ w' : World, Below w.heap.size w w' → Calls Tryz.prog 91 #[.agg #[.bool b1, .int .u64 x2, .int .u64 x3]] w' (Vc.Ret (.bool b3) w')) ∧
  ((((b2 = true) ↔ (b3 = true))) → (
  ∃ (b4 : Bool), (∀ w' : World, Below w.heap.size w w' → Calls Tryz.prog 91 #[.agg #[.bool b0, .int .u64 x0, .int .u64 x1]] w' (Vc.Ret (.bool b4) w')) ∧
  ((b4 = true) → (
  ((x2 < x0) → (
  (.bool true : Value) = v)) ∧ (¬ (x2 < x0) → (
  ((x2 = x0) → (
  (.bool (decide (x3 < x1)) : Value) = v)) ∧ (¬ (x2 = x0) → (
  (.bool false : Value) = v)))))) ∧ (¬ (b4 = true) → (
  ((x0 < x2) → (
  (.bool true : Value) = v)) ∧ (¬ (x0 < x2) → (
  ((x0 = x2) → (
  (.bool (decide (x1 < x3)) : Value) = v)) ∧ (¬ (x0 = x2) → (
  (.bool false : Value) = v)))))))) ∧ (¬ (((b2 = true) ↔ (b3 = true))) → (
  ∃ (b4 : Bool), (∀ w' : World, Below w.heap.size w w' → Calls Tryz.prog 91 #[.agg #[.bool b0, .int .u64 x0, .int .u64 x1]] w' (Vc.Ret (.bool b4) w')) ∧
  (.bool b4 : Value) = v))) : Calls Tryz.prog 67 #[.agg #[.bool b0, .int .u64 x0, .int .u64 x1], .agg #[.bool b1, .int .u64 x2, .int .u64 x3]] w (Vc.Ret v w) :=
  Vc.pure_of base [] 200 Tryz.func67 (b := (Tryz.f67.body).getD .skip) (by kernel_rfl) [.cv (.agg [.bool (.var 0), .int .u64 (.var 0), .int .u64 (.var 1)]), .cv (.agg [.bool (.var 1), .int .u64 (.var 2), .int .u64 (.var 3)])] ⟨4, 2, 0, 0, 0, 0, 0⟩ (Vc.envOf [x0, x1, x2, x3] [b0, b1] [] []) (by kernel_rfl) (by kernel_rfl) (by kernel_rfl) h

theorem vc_span_plus (x0 x1 x2 x3 : Int) (b0 b1 : Bool) (w : World) (v : Value) (h : 
  ((((b0 = true) ↔ (b1 = true))) → (
  ∃ (x4 : Int), ∃ (x5 : Int), (true = true ∧ ∀ w' : World, (callFunc 62 #[.int .u64 x1, .int .u64 x3, .int .u64 0]).run Tryz.prog w' = .ok (.value (.tuple #[.int .u64 x4, .int .u64 x5])) w') ∧
  ∃ (x6 : Int), ∃ (x7 : Int), (true = true ∧ ∀ w' : World, (callFunc 62 #[.int .u64 x0, .int .u64 x2, .int .u64 x5]).run Tryz.prog w' = .ok (.value (.tuple #[.int .u64 x6, .int .u64 x7])) w') ∧
  (.agg #[.bool b0, .int .u64 x6, .int .u64 x4] : Value) = v)) ∧ (¬ (((b0 = true) ↔ (b1 = true))) → (
  ((x0 < x2) → (
  ∃ (x4 : Int), ∃ (x5 : Int), (true = true ∧ ∀ w' : World, (callFunc 63 #[.int .u64 x3, .int .u64 x1, .int .u64 0]).run Tryz.prog w' = .ok (.value (.tuple #[.int .u64 x4, .int .u64 x5])) w') ∧
  ∃ (x6 : Int), ∃ (x7 : Int), (true = true ∧ ∀ w' : World, (callFunc 63 #[.int .u64 x2, .int .u64 x0, .int .u64 x5]).run Tryz.prog w' = .ok (.value (.tuple #[.int .u64 x6, .int .u64 x7])) w') ∧
  (.agg #[.bool b1, .int .u64 x6, .int .u64 x4] : Value) = v)) ∧ (¬ (x0 < x2) → (
  ((x0 = x2) → (
  ((x1 < x3) → (
  ∃ (x4 : Int), ∃ (x5 : Int), (true = true ∧ ∀ w' : World, (callFunc 63 #[.int .u64 x3, .int .u64 x1, .int .u64 0]).run Tryz.prog w' = .ok (.value (.tuple #[.int .u64 x4, .int .u64 x5])) w') ∧
  ∃ (x6 : Int), ∃ (x7 : Int), (true = true ∧ ∀ w' : World, (callFunc 63 #[.int .u64 x2, .int .u64 x0, .int .u64 x5]).run Tryz.prog w' = .ok (.value (.tuple #[.int .u64 x6, .int .u64 x7])) w') ∧
  (.agg #[.bool b1, .int .u64 x6, .int .u64 x4] : Value) = v)) ∧ (¬ (x1 < x3) → (
  ∃ (x4 : Int), ∃ (x5 : Int), (true = true ∧ ∀ w' : World, (callFunc 63 #[.int .u64 x1, .int .u64 x3, .int .u64 0]).run Tryz.prog w' = .ok (.value (.tuple #[.int .u64 x4, .int .u64 x5])) w') ∧
  ∃ (x6 : Int), ∃ (x7 : Int), (true = true ∧ ∀ w' : World, (callFunc 63 #[.int .u64 x0, .int .u64 x2, .int .u64 x5]).run Tryz.prog w' = .ok (.value (.tuple #[.int .u64 x6, .int .u64 x7])) w') ∧
  (.agg #[.bool b0, .int .u64 x6, .int .u64 x4] : Value) = v)))) ∧ (¬ (x0 = x2) → (
  ∃ (x4 : Int), ∃ (x5 : Int), (true = true ∧ ∀ w' : World, (callFunc 63 #[.int .u64 x1, .int .u64 x3, .int .u64 0]).run Tryz.prog w' = .ok (.value (.tuple #[.int .u64 x4, .int .u64 x5])) w') ∧
  ∃ (x6 : Int), ∃ (x7 : Int), (true = true ∧ ∀ w' : World, (callFunc 63 #[.int .u64 x0, .int .u64 x2, .int .u64 x5]).run Tryz.prog w' = .ok (.value (.tuple #[.int .u64 x6, .int .u64 x7])) w') ∧
  (.agg #[.bool b0, .int .u64 x6, .int .u64 x4] : Value) = v))))))) : Calls Tryz.prog 27 #[.agg #[.bool b0, .int .u64 x0, .int .u64 x1], .agg #[.bool b1, .int .u64 x2, .int .u64 x3]] w (Vc.Ret v w) :=
  Vc.pure_of base [] 200 Tryz.func27 (b := (Tryz.f27.body).getD .skip) (by kernel_rfl) [.cv (.agg [.bool (.var 0), .int .u64 (.var 0), .int .u64 (.var 1)]), .cv (.agg [.bool (.var 1), .int .u64 (.var 2), .int .u64 (.var 3)])] ⟨4, 2, 0, 0, 0, 0, 0⟩ (Vc.envOf [x0, x1, x2, x3] [b0, b1] [] []) (by kernel_rfl) (by kernel_rfl) (by kernel_rfl) h

theorem vc_span_slow (x0 x1 x2 x3 : Int) (b0 b1 : Bool) (w : World) (v : Value) (h : 
  ∃ (Ix4 : List Vc.Vl → Prop) (mx4 : List Vc.Vl → Nat), Ix4 [.i 127, .b false, .i 0, .i 0, .b false, .i 0, .i 0] ∧ ∀ (x4 : Int) (b2 : Bool) (x5 : Int) (x6 : Int) (b3 : Bool) (x7 : Int) (x8 : Int), Ix4 [.i x4, .b b2, .i x5, .i x6, .b b3, .i x7, .i x8] → (
  ((0 ≤ x4) → (
  ∀ x9 : Int, x9 = Int.tmod x4 64 →
  ∀ x10 : Int, x10 = IntKind.u64.wrap (x9) →
  (0 ≤ x10) ∧
  ∀ x11 : Int, x11 = Int.fdiv x1 (2 ^ (Nat.min (Int.toNat x10) 64)) →
  ∀ x12 : Int, x12 = bits .and .u64 x11 1 →
  ((64 ≤ x4) → (
  ∀ x13 : Int, x13 = IntKind.i64.wrap (x4 - 64) →
  ∀ x14 : Int, x14 = IntKind.u64.wrap (x13) →
  (0 ≤ x14) ∧
  ∀ x15 : Int, x15 = Int.fdiv x0 (2 ^ (Nat.min (Int.toNat x14) 64)) →
  ∀ x16 : Int, x16 = bits .and .u64 x15 1 →
  ∃ (b4 : Bool), ∃ (x17 : Int), ∃ (x18 : Int), (∀ w' : World, Below w.heap.size w w' → Calls Tryz.prog 21 #[.agg #[.bool b2, .int .u64 x5, .int .u64 x6], .int .u64 1] w' (Vc.Ret (.agg #[.bool b4, .int .u64 x17, .int .u64 x18]) w')) ∧
  ∀ x19 : Int, x19 = bits .or .u64 x18 x16 →
  ∃ (b5 : Bool), ∃ (x20 : Int), ∃ (x21 : Int), (∀ w' : World, Below w.heap.size w w' → Calls Tryz.prog 21 #[.agg #[.bool b3, .int .u64 x7, .int .u64 x8], .int .u64 1] w' (Vc.Ret (.agg #[.bool b5, .int .u64 x20, .int .u64 x21]) w')) ∧
  ((x2 < x17) → (
  ∃ (x22 : Int), ∃ (x23 : Int), (true = true ∧ ∀ w' : World, (callFunc 63 #[.int .u64 x19, .int .u64 x3, .int .u64 0]).run Tryz.prog w' = .ok (.value (.tuple #[.int .u64 x22, .int .u64 x23])) w') ∧
  ∃ (x24 : Int), ∃ (x25 : Int), (true = true ∧ ∀ w' : World, (callFunc 63 #[.int .u64 x17, .int .u64 x2, .int .u64 x23]).run Tryz.prog w' = .ok (.value (.tuple #[.int .u64 x24, .int .u64 x25])) w') ∧
  ∀ x26 : Int, x26 = bits .or .u64 x21 1 →
  ∀ x27 : Int, x27 = IntKind.i64.wrap (x4 - 1) →
  Ix4 [.i x27, .b false, .i x24, .i x22, .b b5, .i x20, .i x26] ∧ mx4 [.i x27, .b false, .i x24, .i x22, .b b5, .i x20, .i x26] < mx4 [.i x4, .b b2, .i x5, .i x6, .b b3, .i x7, .i x8])) ∧ (¬ (x2 < x17) → (
  ((x17 = x2) → (
  ((x3 ≤ x19) → (
  ∃ (x22 : Int), ∃ (x23 : Int), (true = true ∧ ∀ w' : World, (callFunc 63 #[.int .u64 x19, .int .u64 x3, .int .u64 0]).run Tryz.prog w' = .ok (.value (.tuple #[.int .u64 x22, .int .u64 x23])) w') ∧
  ∃ (x24 : Int), ∃ (x25 : Int), (true = true ∧ ∀ w' : World, (callFunc 63 #[.int .u64 x17, .int .u64 x2, .int .u64 x23]).run Tryz.prog w' = .ok (.value (.tuple #[.int .u64 x24, .int .u64 x25])) w') ∧
  ∀ x26 : Int, x26 = bits .or .u64 x21 1 →
  ∀ x27 : Int, x27 = IntKind.i64.wrap (x4 - 1) →
  Ix4 [.i x27, .b false, .i x24, .i x22, .b b5, .i x20, .i x26] ∧ mx4 [.i x27, .b false, .i x24, .i x22, .b b5, .i x20, .i x26] < mx4 [.i x4, .b b2, .i x5, .i x6, .b b3, .i x7, .i x8])) ∧ (¬ (x3 ≤ x19) → (
  ∀ x22 : Int, x22 = IntKind.i64.wrap (x4 - 1) →
  Ix4 [.i x22, .b b4, .i x17, .i x19, .b b5, .i x20, .i x21] ∧ mx4 [.i x22, .b b4, .i x17, .i x19, .b b5, .i x20, .i x21] < mx4 [.i x4, .b b2, .i x5, .i x6, .b b3, .i x7, .i x8])))) ∧ (¬ (x17 = x2) → (
  ∀ x22 : Int, x22 = IntKind.i64.wrap (x4 - 1) →
  Ix4 [.i x22, .b b4, .i x17, .i x19, .b b5, .i x20, .i x21] ∧ mx4 [.i x22, .b b4, .i x17, .i x19, .b b5, .i x20, .i x21] < mx4 [.i x4, .b b2, .i x5, .i x6, .b b3, .i x7, .i x8])))))) ∧ (¬ (64 ≤ x4) → (
  ∃ (b4 : Bool), ∃ (x13 : Int), ∃ (x14 : Int), (∀ w' : World, Below w.heap.size w w' → Calls Tryz.prog 21 #[.agg #[.bool b2, .int .u64 x5, .int .u64 x6], .int .u64 1] w' (Vc.Ret (.agg #[.bool b4, .int .u64 x13, .int .u64 x14]) w')) ∧
  ∀ x15 : Int, x15 = bits .or .u64 x14 x12 →
  ∃ (b5 : Bool), ∃ (x16 : Int), ∃ (x17 : Int), (∀ w' : World, Below w.heap.size w w' → Calls Tryz.prog 21 #[.agg #[.bool b3, .int .u64 x7, .int .u64 x8], .int .u64 1] w' (Vc.Ret (.agg #[.bool b5, .int .u64 x16, .int .u64 x17]) w')) ∧
  ((x2 < x13) → (
  ∃ (x18 : Int), ∃ (x19 : Int), (true = true ∧ ∀ w' : World, (callFunc 63 #[.int .u64 x15, .int .u64 x3, .int .u64 0]).run Tryz.prog w' = .ok (.value (.tuple #[.int .u64 x18, .int .u64 x19])) w') ∧
  ∃ (x20 : Int), ∃ (x21 : Int), (true = true ∧ ∀ w' : World, (callFunc 63 #[.int .u64 x13, .int .u64 x2, .int .u64 x19]).run Tryz.prog w' = .ok (.value (.tuple #[.int .u64 x20, .int .u64 x21])) w') ∧
  ∀ x22 : Int, x22 = bits .or .u64 x17 1 →
  ∀ x23 : Int, x23 = IntKind.i64.wrap (x4 - 1) →
  Ix4 [.i x23, .b false, .i x20, .i x18, .b b5, .i x16, .i x22] ∧ mx4 [.i x23, .b false, .i x20, .i x18, .b b5, .i x16, .i x22] < mx4 [.i x4, .b b2, .i x5, .i x6, .b b3, .i x7, .i x8])) ∧ (¬ (x2 < x13) → (
  ((x13 = x2) → (
  ((x3 ≤ x15) → (
  ∃ (x18 : Int), ∃ (x19 : Int), (true = true ∧ ∀ w' : World, (callFunc 63 #[.int .u64 x15, .int .u64 x3, .int .u64 0]).run Tryz.prog w' = .ok (.value (.tuple #[.int .u64 x18, .int .u64 x19])) w') ∧
  ∃ (x20 : Int), ∃ (x21 : Int), (true = true ∧ ∀ w' : World, (callFunc 63 #[.int .u64 x13, .int .u64 x2, .int .u64 x19]).run Tryz.prog w' = .ok (.value (.tuple #[.int .u64 x20, .int .u64 x21])) w') ∧
  ∀ x22 : Int, x22 = bits .or .u64 x17 1 →
  ∀ x23 : Int, x23 = IntKind.i64.wrap (x4 - 1) →
  Ix4 [.i x23, .b false, .i x20, .i x18, .b b5, .i x16, .i x22] ∧ mx4 [.i x23, .b false, .i x20, .i x18, .b b5, .i x16, .i x22] < mx4 [.i x4, .b b2, .i x5, .i x6, .b b3, .i x7, .i x8])) ∧ (¬ (x3 ≤ x15) → (
  ∀ x18 : Int, x18 = IntKind.i64.wrap (x4 - 1) →
  Ix4 [.i x18, .b b4, .i x13, .i x15, .b b5, .i x16, .i x17] ∧ mx4 [.i x18, .b b4, .i x13, .i x15, .b b5, .i x16, .i x17] < mx4 [.i x4, .b b2, .i x5, .i x6, .b b3, .i x7, .i x8])))) ∧ (¬ (x13 = x2) → (
  ∀ x18 : Int, x18 = IntKind.i64.wrap (x4 - 1) →
  Ix4 [.i x18, .b b4, .i x13, .i x15, .b b5, .i x16, .i x17] ∧ mx4 [.i x18, .b b4, .i x13, .i x15, .b b5, .i x16, .i x17] < mx4 [.i x4, .b b2, .i x5, .i x6, .b b3, .i x7, .i x8])))))))) ∧ (¬ (0 ≤ x4) → (
  (.tuple #[.agg #[.bool b3, .int .u64 x7, .int .u64 x8], .agg #[.bool b2, .int .u64 x5, .int .u64 x6]] : Value) = v)))) : Calls Tryz.prog 89 #[.agg #[.bool b0, .int .u64 x0, .int .u64 x1], .agg #[.bool b1, .int .u64 x2, .int .u64 x3]] w (Vc.Ret v w) :=
  Vc.pure_of base [(2000000000002, .inv [(5, 0), (5, 1), (5, 2), (4, 0), (4, 1), (4, 2)] [6] [12, 13, 16, 17, 18, 19, 20, 21, 22, 7, 23, 24, 25, 26, 27, 28, 29, 30, 31, 32, 33, 34, 35, 36, 37, 38, 39, 40, 41, 42, 43, 44, 45, 46, 47, 48, 49, 50, 51, 52, 53, 54, 55, 56, 57, 58, 59, 61, 62, 63, 64, 65, 60, 66, 67, 8, 9, 69, 70, 71, 72, 73, 74, 68, 75, 76, 10, 11, 77, 78, 79, 80, 81, 82, 83, 14, 15])] 200 Tryz.func89 (b := (Tryz.f89.body).getD .skip) (by kernel_rfl) [.cv (.agg [.bool (.var 0), .int .u64 (.var 0), .int .u64 (.var 1)]), .cv (.agg [.bool (.var 1), .int .u64 (.var 2), .int .u64 (.var 3)])] ⟨4, 2, 0, 0, 0, 0, 0⟩ (Vc.envOf [x0, x1, x2, x3] [b0, b1] [] []) (by kernel_rfl) (by kernel_rfl) (by kernel_rfl) h

theorem vc_math_bits_Div64 (x0 x1 x2 : Int) (w : World) (v : Value) (h : 
  ((x2 = 0) → (
  False /- FAIL load: address -/)) ∧ (¬ (x2 = 0) → (
  ((x2 ≤ x0) → (
  False /- FAIL load: address -/)) ∧ (¬ (x2 ≤ x0) → (
  ((x0 = 0) → (
  (x2 ≠ 0) ∧
  ∀ x3 : Int, x3 = IntKind.u64.wrap (Int.tdiv x1 x2) →
  (x2 ≠ 0) ∧
  ∀ x4 : Int, x4 = Int.tmod x1 x2 →
  (.tuple #[.int .u64 x3, .int .u64 x4] : Value) = v)) ∧ (¬ (x0 = 0) → (
  ∃ (x3 : Int), (∀ w' : World, Below w.heap.size w w' → Calls Tryz.prog 102 #[.int .u64 x2] w' (Vc.Ret (.int .i64 x3) w')) ∧
  ∀ x4 : Int, x4 = IntKind.u64.wrap (x3) →
  (0 ≤ x4) ∧
  ∀ x5 : Int, x5 = IntKind.u64.wrap (x2 * 2 ^ (Nat.min (Int.toNat x4) 64)) →
  ∀ x6 : Int, x6 = x5 / 4294967296 →
  ∀ x7 : Int, x7 = bits .and .u64 x5 4294967295 →
  (0 ≤ x4) ∧
  ∀ x8 : Int, x8 = IntKind.u64.wrap (x0 * 2 ^ (Nat.min (Int.toNat x4) 64)) →
  ∀ x9 : Int, x9 = IntKind.u64.wrap (64 - x4) →
  (0 ≤ x9) ∧
  ∀ x10 : Int, x10 = Int.fdiv x1 (2 ^ (Nat.min (Int.toNat x9) 64)) →
  ∀ x11 : Int, x11 = bits .or .u64 x8 x10 →
  (0 ≤ x4) ∧
  ∀ x12 : Int, x12 = IntKind.u64.wrap (x1 * 2 ^ (Nat.min (Int.toNat x4) 64)) →
  ∀ x13 : Int, x13 = x12 / 4294967296 →
  ∀ x14 : Int, x14 = bits .and .u64 x12 4294967295 →
  (x6 ≠ 0) ∧
  ∀ x15 : Int, x15 = IntKind.u64.wrap (Int.tdiv x11 x6) →
  ∀ x16 : Int, x16 = IntKind.u64.wrap (x15 * x6) →
  ∀ x17 : Int, x17 = IntKind.u64.wrap (x11 - x16) →
  ∃ (Ix18 : List Vc.Vl → Prop) (mx18 : List Vc.Vl → Nat), Ix18 [.i x15, .i x17] ∧ ∀ (x18 : Int) (x19 : Int), Ix18 [.i x18, .i x19] → (
  ((4294967296 ≤ x18) → (
  ∀ x20 : Int, x20 = IntKind.u64.wrap (x18 - 1) →
  ∀ x21 : Int, x21 = IntKind.u64.wrap (x19 + x6) →
  ((4294967296 ≤ x21) → (
  ∀ x22 : Int, x22 = IntKind.u64.wrap (x11 * 4294967296) →
  ∀ x23 : Int, x23 = IntKind.u64.wrap (x22 + x13) →
  ∀ x24 : Int, x24 = IntKind.u64.wrap (x20 * x5) →
  ∀ x25 : Int, x25 = IntKind.u64.wrap (x23 - x24) →
  (x6 ≠ 0) ∧
  ∀ x26 : Int, x26 = IntKind.u64.wrap (Int.tdiv x25 x6) →
  ∀ x27 : Int, x27 = IntKind.u64.wrap (x26 * x6) →
  ∀ x28 : Int, x28 = IntKind.u64.wrap (x25 - x27) →
  ∃ (Ix29 : List Vc.Vl → Prop) (mx29 : List Vc.Vl → Nat), Ix29 [.i x26, .i x28] ∧ ∀ (x29 : Int) (x30 : Int), Ix29 [.i x29, .i x30] → (
  ((4294967296 ≤ x29) → (
  ∀ x31 : Int, x31 = IntKind.u64.wrap (x29 - 1) →
  ∀ x32 : Int, x32 = IntKind.u64.wrap (x30 + x6) →
  ((4294967296 ≤ x32) → (
  ∀ x33 : Int, x33 = IntKind.u64.wrap (x20 * 4294967296) →
  ∀ x34 : Int, x34 = IntKind.u64.wrap (x33 + x31) →
  ∀ x35 : Int, x35 = IntKind.u64.wrap (x25 * 4294967296) →
  ∀ x36 : Int, x36 = IntKind.u64.wrap (x35 + x14) →
  ∀ x37 : Int, x37 = IntKind.u64.wrap (x31 * x5) →
  ∀ x38 : Int, x38 = IntKind.u64.wrap (x36 - x37) →
  (0 ≤ x4) ∧
  ∀ x39 : Int, x39 = Int.fdiv x38 (2 ^ (Nat.min (Int.toNat x4) 64)) →
  (.tuple #[.int .u64 x34, .int .u64 x39] : Value) = v)) ∧ (¬ (4294967296 ≤ x32) → (
  Ix29 [.i x31, .i x32] ∧ mx29 [.i x31, .i x32] < mx29 [.i x29, .i x30])))) ∧ (¬ (4294967296 ≤ x29) → (
  ∀ x31 : Int, x31 = IntKind.u64.wrap (x29 * x7) →
  ∀ x32 : Int, x32 = IntKind.u64.wrap (4294967296 * x30) →
  ∀ x33 : Int, x33 = IntKind.u64.wrap (x32 + x14) →
  ((x33 < x31) → (
  ∀ x34 : Int, x34 = IntKind.u64.wrap (x29 - 1) →
  ∀ x35 : Int, x35 = IntKind.u64.wrap (x30 + x6) →
  ((4294967296 ≤ x35) → (
  ∀ x36 : Int, x36 = IntKind.u64.wrap (x20 * 4294967296) →
  ∀ x37 : Int, x37 = IntKind.u64.wrap (x36 + x34) →
  ∀ x38 : Int, x38 = IntKind.u64.wrap (x25 * 4294967296) →
  ∀ x39 : Int, x39 = IntKind.u64.wrap (x38 + x14) →
  ∀ x40 : Int, x40 = IntKind.u64.wrap (x34 * x5) →
  ∀ x41 : Int, x41 = IntKind.u64.wrap (x39 - x40) →
  (0 ≤ x4) ∧
  ∀ x42 : Int, x42 = Int.fdiv x41 (2 ^ (Nat.min (Int.toNat x4) 64)) →
  (.tuple #[.int .u64 x37, .int .u64 x42] : Value) = v)) ∧ (¬ (4294967296 ≤ x35) → (
  Ix29 [.i x34, .i x35] ∧ mx29 [.i x34, .i x35] < mx29 [.i x29, .i x30])))) ∧ (¬ (x33 < x31) → (
  ∀ x34 : Int, x34 = IntKind.u64.wrap (x20 * 4294967296) →
  ∀ x35 : Int, x35 = IntKind.u64.wrap (x34 + x29) →
  ∀ x36 : Int, x36 = IntKind.u64.wrap (x25 * 4294967296) →
  ∀ x37 : Int, x37 = IntKind.u64.wrap (x36 + x14) →
  ∀ x38 : Int, x38 = IntKind.u64.wrap (x29 * x5) →
  ∀ x39 : Int, x39 = IntKind.u64.wrap (x37 - x38) →
  (0 ≤ x4) ∧
  ∀ x40 : Int, x40 = Int.fdiv x39 (2 ^ (Nat.min (Int.toNat x4) 64)) →
  (.tuple #[.int .u64 x35, .int .u64 x40] : Value) = v))))))) ∧ (¬ (4294967296 ≤ x21) → (
  Ix18 [.i x20, .i x21] ∧ mx18 [.i x20, .i x21] < mx18 [.i x18, .i x19])))) ∧ (¬ (4294967296 ≤ x18) → (
  ∀ x20 : Int, x20 = IntKind.u64.wrap (x18 * x7) →
  ∀ x21 : Int, x21 = IntKind.u64.wrap (4294967296 * x19) →
  ∀ x22 : Int, x22 = IntKind.u64.wrap (x21 + x13) →
  ((x22 < x20) → (
  ∀ x23 : Int, x23 = IntKind.u64.wrap (x18 - 1) →
  ∀ x24 : Int, x24 = IntKind.u64.wrap (x19 + x6) →
  ((4294967296 ≤ x24) → (
  ∀ x25 : Int, x25 = IntKind.u64.wrap (x11 * 4294967296) →
  ∀ x26 : Int, x26 = IntKind.u64.wrap (x25 + x13) →
  ∀ x27 : Int, x27 = IntKind.u64.wrap (x23 * x5) →
  ∀ x28 : Int, x28 = IntKind.u64.wrap (x26 - x27) →
  (x6 ≠ 0) ∧
  ∀ x29 : Int, x29 = IntKind.u64.wrap (Int.tdiv x28 x6) →
  ∀ x30 : Int, x30 = IntKind.u64.wrap (x29 * x6) →
  ∀ x31 : Int, x31 = IntKind.u64.wrap (x28 - x30) →
  ∃ (Ix32 : List Vc.Vl → Prop) (mx32 : List Vc.Vl → Nat), Ix32 [.i x29, .i x31] ∧ ∀ (x32 : Int) (x33 : Int), Ix32 [.i x32, .i x33] → (
  ((4294967296 ≤ x32) → (
  ∀ x34 : Int, x34 = IntKind.u64.wrap (x32 - 1) →
  ∀ x35 : Int, x35 = IntKind.u64.wrap (x33 + x6) →
  ((4294967296 ≤ x35) → (
  ∀ x36 : Int, x36 = IntKind.u64.wrap (x23 * 4294967296) →
  ∀ x37 : Int, x37 = IntKind.u64.wrap (x36 + x34) →
  ∀ x38 : Int, x38 = IntKind.u64.wrap (x28 * 4294967296) →
  ∀ x39 : Int, x39 = IntKind.u64.wrap (x38 + x14) →
  ∀ x40 : Int, x40 = IntKind.u64.wrap (x34 * x5) →
  ∀ x41 : Int, x41 = IntKind.u64.wrap (x39 - x40) →
  (0 ≤ x4) ∧
  ∀ x42 : Int, x42 = Int.fdiv x41 (2 ^ (Nat.min (Int.toNat x4) 64)) →
  (.tuple #[.int .u64 x37, .int .u64 x42] : Value) = v)) ∧ (¬ (4294967296 ≤ x35) → (
  Ix32 [.i x34, .i x35] ∧ mx32 [.i x34, .i x35] < mx32 [.i x32, .i x33])))) ∧ (¬ (4294967296 ≤ x32) → (
  ∀ x34 : Int, x34 = IntKind.u64.wrap (x32 * x7) →
  ∀ x35 : Int, x35 = IntKind.u64.wrap (4294967296 * x33) →
  ∀ x36 : Int, x36 = IntKind.u64.wrap (x35 + x14) →
  ((x36 < x34) → (
  ∀ x37 : Int, x37 = IntKind.u64.wrap (x32 - 1) →
  ∀ x38 : Int, x38 = IntKind.u64.wrap (x33 + x6) →
  ((4294967296 ≤ x38) → (
  ∀ x39 : Int, x39 = IntKind.u64.wrap (x23 * 4294967296) →
  ∀ x40 : Int, x40 = IntKind.u64.wrap (x39 + x37) →
  ∀ x41 : Int, x41 = IntKind.u64.wrap (x28 * 4294967296) →
  ∀ x42 : Int, x42 = IntKind.u64.wrap (x41 + x14) →
  ∀ x43 : Int, x43 = IntKind.u64.wrap (x37 * x5) →
  ∀ x44 : Int, x44 = IntKind.u64.wrap (x42 - x43) →
  (0 ≤ x4) ∧
  ∀ x45 : Int, x45 = Int.fdiv x44 (2 ^ (Nat.min (Int.toNat x4) 64)) →
  (.tuple #[.int .u64 x40, .int .u64 x45] : Value) = v)) ∧ (¬ (4294967296 ≤ x38) → (
  Ix32 [.i x37, .i x38] ∧ mx32 [.i x37, .i x38] < mx32 [.i x32, .i x33])))) ∧ (¬ (x36 < x34) → (
  ∀ x37 : Int, x37 = IntKind.u64.wrap (x23 * 4294967296) →
  ∀ x38 : Int, x38 = IntKind.u64.wrap (x37 + x32) →
  ∀ x39 : Int, x39 = IntKind.u64.wrap (x28 * 4294967296) →
  ∀ x40 : Int, x40 = IntKind.u64.wrap (x39 + x14) →
  ∀ x41 : Int, x41 = IntKind.u64.wrap (x32 * x5) →
  ∀ x42 : Int, x42 = IntKind.u64.wrap (x40 - x41) →
  (0 ≤ x4) ∧
  ∀ x43 : Int, x43 = Int.fdiv x42 (2 ^ (Nat.min (Int.toNat x4) 64)) →
  (.tuple #[.int .u64 x38, .int .u64 x43] : Value) = v))))))) ∧ (¬ (4294967296 ≤ x24) → (
  Ix18 [.i x23, .i x24] ∧ mx18 [.i x23, .i x24] < mx18 [.i x18, .i x19])))) ∧ (¬ (x22 < x20) → (
  ∀ x23 : Int, x23 = IntKind.u64.wrap (x11 * 4294967296) →
  ∀ x24 : Int, x24 = IntKind.u64.wrap (x23 + x13) →
  ∀ x25 : Int, x25 = IntKind.u64.wrap (x18 * x5) →
  ∀ x26 : Int, x26 = IntKind.u64.wrap (x24 - x25) →
  (x6 ≠ 0) ∧
  ∀ x27 : Int, x27 = IntKind.u64.wrap (Int.tdiv x26 x6) →
  ∀ x28 : Int, x28 = IntKind.u64.wrap (x27 * x6) →
  ∀ x29 : Int, x29 = IntKind.u64.wrap (x26 - x28) →
  ∃ (Ix30 : List Vc.Vl → Prop) (mx30 : List Vc.Vl → Nat), Ix30 [.i x27, .i x29] ∧ ∀ (x30 : Int) (x31 : Int), Ix30 [.i x30, .i x31] → (
  ((4294967296 ≤ x30) → (
  ∀ x32 : Int, x32 = IntKind.u64.wrap (x30 - 1) →
  ∀ x33 : Int, x33 = IntKind.u64.wrap (x31 + x6) →
  ((4294967296 ≤ x33) → (
  ∀ x34 : Int, x34 = IntKind.u64.wrap (x18 * 4294967296) →
  ∀ x35 : Int, x35 = IntKind.u64.wrap (x34 + x32) →
  ∀ x36 : Int, x36 = IntKind.u64.wrap (x26 * 4294967296) →
  ∀ x37 : Int, x37 = IntKind.u64.wrap (x36 + x14) →
  ∀ x38 : Int, x38 = IntKind.u64.wrap (x32 * x5) →
  ∀ x39 : Int, x39 = IntKind.u64.wrap (x37 - x38) →
  (0 ≤ x4) ∧
  ∀ x40 : Int, x40 = Int.fdiv x39 (2 ^ (Nat.min (Int.toNat x4) 64)) →
  (.tuple #[.int .u64 x35, .int .u64 x40] : Value) = v)) ∧ (¬ (4294967296 ≤ x33) → (
  Ix30 [.i x32, .i x33] ∧ mx30 [.i x32, .i x33] < mx30 [.i x30, .i x31])))) ∧ (¬ (4294967296 ≤ x30) → (
  ∀ x32 : Int, x32 = IntKind.u64.wrap (x30 * x7) →
  ∀ x33 : Int, x33 = IntKind.u64.wrap (4294967296 * x31) →
  ∀ x34 : Int, x34 = IntKind.u64.wrap (x33 + x14) →
  ((x34 < x32) → (
  ∀ x35 : Int, x35 = IntKind.u64.wrap (x30 - 1) →
  ∀ x36 : Int, x36 = IntKind.u64.wrap (x31 + x6) →
  ((4294967296 ≤ x36) → (
  ∀ x37 : Int, x37 = IntKind.u64.wrap (x18 * 4294967296) →
  ∀ x38 : Int, x38 = IntKind.u64.wrap (x37 + x35) →
  ∀ x39 : Int, x39 = IntKind.u64.wrap (x26 * 4294967296) →
  ∀ x40 : Int, x40 = IntKind.u64.wrap (x39 + x14) →
  ∀ x41 : Int, x41 = IntKind.u64.wrap (x35 * x5) →
  ∀ x42 : Int, x42 = IntKind.u64.wrap (x40 - x41) →
  (0 ≤ x4) ∧
  ∀ x43 : Int, x43 = Int.fdiv x42 (2 ^ (Nat.min (Int.toNat x4) 64)) →
  (.tuple #[.int .u64 x38, .int .u64 x43] : Value) = v)) ∧ (¬ (4294967296 ≤ x36) → (
  Ix30 [.i x35, .i x36] ∧ mx30 [.i x35, .i x36] < mx30 [.i x30, .i x31])))) ∧ (¬ (x34 < x32) → (
  ∀ x35 : Int, x35 = IntKind.u64.wrap (x18 * 4294967296) →
  ∀ x36 : Int, x36 = IntKind.u64.wrap (x35 + x30) →
  ∀ x37 : Int, x37 = IntKind.u64.wrap (x26 * 4294967296) →
  ∀ x38 : Int, x38 = IntKind.u64.wrap (x37 + x14) →
  ∀ x39 : Int, x39 = IntKind.u64.wrap (x30 * x5) →
  ∀ x40 : Int, x40 = IntKind.u64.wrap (x38 - x39) →
  (0 ≤ x4) ∧
  ∀ x41 : Int, x41 = Int.fdiv x40 (2 ^ (Nat.min (Int.toNat x4) 64)) →
  (.tuple #[.int .u64 x36, .int .u64 x41] : Value) = v))))))))))))))))) : Calls Tryz.prog 88 #[.int .u64 x0, .int .u64 x1, .int .u64 x2] w (Vc.Ret v w) :=
  Vc.pure_of base [(12000000000017, .inv [] [15, 16] [67, 68, 69, 70, 71, 72, 73, 74, 75, 76, 77, 78, 79, 80, 81, 82, 83, 84, 85]), (12000000000024, .inv [] [18, 16] [102, 103, 104, 105, 106, 107, 108, 109, 110, 111, 112, 113, 114, 115, 116, 117, 118, 119, 120])] 200 Tryz.func88 (b := (Tryz.f88.body).getD .skip) (by kernel_rfl) [.cv (.one (.int .u64 (.var 0))), .cv (.one (.int .u64 (.var 1))), .cv (.one (.int .u64 (.var 2)))] ⟨3, 0, 0, 0, 0, 0, 0⟩ (Vc.envOf [x0, x1, x2] [] [] []) (by kernel_rfl) (by kernel_rfl) (by kernel_rfl) h

theorem vc_span_divide (x0 x1 x2 x3 : Int) (b0 b1 : Bool) (w : World) (v : Value) (h : 
  ((x2 = 0) → (
  (x3 ≠ 0) ∧
  ∀ x4 : Int, x4 = IntKind.u64.wrap (Int.tdiv x0 x3) →
  (x3 ≠ 0) ∧
  ∀ x5 : Int, x5 = Int.tmod x0 x3 →
  ∃ (x6 : Int), ∃ (x7 : Int), (∀ w' : World, Below w.heap.size w w' → Calls Tryz.prog 88 #[.int .u64 x5, .int .u64 x1, .int .u64 x3] w' (Vc.Ret (.tuple #[.int .u64 x6, .int .u64 x7]) w')) ∧
  ∃ (b2 : Bool), (∀ w' : World, Below w.heap.size w w' → Calls Tryz.prog 90 #[.agg #[.bool false, .int .u64 0, .int .u64 x7]] w' (Vc.Ret (.bool b2) w')) ∧
  ((b2 = true) → (
  ((b0 = true) → (
  (.tuple #[.agg #[.bool true, .int .u64 x4, .int .u64 x6], .agg #[.bool true, .int .u64 x4, .int .u64 x6]] : Value) = v)) ∧ (¬ (b0 = true) → (
  (.tuple #[.agg #[.bool false, .int .u64 x4, .int .u64 x6], .agg #[.bool false, .int .u64 x4, .int .u64 x6]] : Value) = v)))) ∧ (¬ (b2 = true) → (
  ∃ (b3 : Bool), ∃ (x8 : Int), ∃ (x9 : Int), (∀ w' : World, Below w.heap.size w w' → Calls Tryz.prog 27 #[.agg #[.bool false, .int .u64 x4, .int .u64 x6], .agg #[.bool false, .int .u64 0, .int .u64 1]] w' (Vc.Ret (.agg #[.bool b3, .int .u64 x8, .int .u64 x9]) w')) ∧
  ((b0 = true) → (
  (.tuple #[.agg #[.bool true, .int .u64 x8, .int .u64 x9], .agg #[.bool true, .int .u64 x4, .int .u64 x6]] : Value) = v)) ∧ (¬ (b0 = true) → (
  (.tuple #[.agg #[.bool false, .int .u64 x4, .int .u64 x6], .agg #[.bool b3, .int .u64 x8, .int .u64 x9]] : Value) = v)))))) ∧ (¬ (x2 = 0) → (
  ∃ (b2 : Bool), ∃ (x4 : Int), ∃ (x5 : Int), ∃ (b3 : Bool), ∃ (x6 : Int), ∃ (x7 : Int), (∀ w' : World, Below w.heap.size w w' → Calls Tryz.prog 89 #[.agg #[.bool b0, .int .u64 x0, .int .u64 x1], .agg #[.bool b1, .int .u64 x2, .int .u64 x3]] w' (Vc.Ret (.tuple #[.agg #[.bool b2, .int .u64 x4, .int .u64 x5], .agg #[.bool b3, .int .u64 x6, .int .u64 x7]]) w')) ∧
  ∃ (b4 : Bool), (∀ w' : World, Below w.heap.size w w' → Calls Tryz.prog 90 #[.agg #[.bool b3, .int .u64 x6, .int .u64 x7]] w' (Vc.Ret (.bool b4) w')) ∧
  ((b4 = true) → (
  ((b0 = true) → (
  (.tuple #[.agg #[.bool true, .int .u64 x4, .int .u64 x5], .agg #[.bool true, .int .u64 x4, .int .u64 x5]] : Value) = v)) ∧ (¬ (b0 = true) → (
  (.tuple #[.agg #[.bool b2, .int .u64 x4, .int .u64 x5], .agg #[.bool b2, .int .u64 x4, .int .u64 x5]] : Value) = v)))) ∧ (¬ (b4 = true) → (
  ∃ (b5 : Bool), ∃ (x8 : Int), ∃ (x9 : Int), (∀ w' : World, Below w.heap.size w w' → Calls Tryz.prog 27 #[.agg #[.bool false, .int .u64 x4, .int .u64 x5], .agg #[.bool false, .int .u64 0, .int .u64 1]] w' (Vc.Ret (.agg #[.bool b5, .int .u64 x8, .int .u64 x9]) w')) ∧
  ((b0 = true) → (
  (.tuple #[.agg #[.bool true, .int .u64 x8, .int .u64 x9], .agg #[.bool true, .int .u64 x4, .int .u64 x5]] : Value) = v)) ∧ (¬ (b0 = true) → (
  (.tuple #[.agg #[.bool b2, .int .u64 x4, .int .u64 x5], .agg #[.bool b5, .int .u64 x8, .int .u64 x9]] : Value) = v))))))) : Calls Tryz.prog 66 #[.agg #[.bool b0, .int .u64 x0, .int .u64 x1], .agg #[.bool b1, .int .u64 x2, .int .u64 x3]] w (Vc.Ret v w) :=
  Vc.pure_of base [] 200 Tryz.func66 (b := (Tryz.f66.body).getD .skip) (by kernel_rfl) [.cv (.agg [.bool (.var 0), .int .u64 (.var 0), .int .u64 (.var 1)]), .cv (.agg [.bool (.var 1), .int .u64 (.var 2), .int .u64 (.var 3)])] ⟨4, 2, 0, 0, 0, 0, 0⟩ (Vc.envOf [x0, x1, x2, x3] [b0, b1] [] []) (by kernel_rfl) (by kernel_rfl) (by kernel_rfl) h

theorem vc__span_big__num (x0 x1 : Int) (b0 : Bool) (w : World) (v : Value) (h : 
  ((0 < x0) → (
  (.tuple #[.int .i64 0, .bool false] : Value) = v)) ∧ (¬ (0 < x0) → (
  ((9223372036854775807 < x1) → (
  (.tuple #[.int .i64 0, .bool false] : Value) = v)) ∧ (¬ (9223372036854775807 < x1) → (
  ((b0 = true) → (
  ∀ x2 : Int, x2 = IntKind.i64.wrap (x1) →
  ∀ x3 : Int, x3 = IntKind.i64.wrap (0 - x2) →
  (.tuple #[.int .i64 x3, .bool true] : Value) = v)) ∧ (¬ (b0 = true) → (
  ∀ x2 : Int, x2 = IntKind.i64.wrap (x1) →
  (.tuple #[.int .i64 x2, .bool true] : Value) = v))))))) : Calls Tryz.prog 57 #[.agg #[.bool b0, .int .u64 x0, .int .u64 x1]] w (Vc.Ret v w) :=
  Vc.pure_of base [] 200 Tryz.func57 (b := (Tryz.f57.body).getD .skip) (by kernel_rfl) [.cv (.agg [.bool (.var 0), .int .u64 (.var 0), .int .u64 (.var 1)])] ⟨2, 1, 0, 0, 0, 0, 0⟩ (Vc.envOf [x0, x1] [b0] [] []) (by kernel_rfl) (by kernel_rfl) (by kernel_rfl) h

theorem vc_span_fit (x0 x1 x2 x3 : Int) (b0 b1 : Bool) (w : World) (v : Value) (h : 
  ∃ (x4 : Int), ∃ (b2 : Bool), (∀ w' : World, Below w.heap.size w w' → Calls Tryz.prog 57 #[.agg #[.bool b0, .int .u64 x0, .int .u64 x1]] w' (Vc.Ret (.tuple #[.int .i64 x4, .bool b2]) w')) ∧
  ∃ (x5 : Int), ∃ (b3 : Bool), (∀ w' : World, Below w.heap.size w w' → Calls Tryz.prog 57 #[.agg #[.bool b1, .int .u64 x2, .int .u64 x3]] w' (Vc.Ret (.tuple #[.int .i64 x5, .bool b3]) w')) ∧
  ((b2 = true) → (
  ((b3 = true) → (
  (.tuple #[.agg #[.int .i64 x4, .int .i64 x5], .int .i64 0] : Value) = v)) ∧ (¬ (b3 = true) → (
  (.tuple #[.agg #[.int .i64 0, .int .i64 0], .int .i64 4] : Value) = v)))) ∧ (¬ (b2 = true) → (
  (.tuple #[.agg #[.int .i64 0, .int .i64 0], .int .i64 4] : Value) = v))) : Calls Tryz.prog 22 #[.agg #[.bool b0, .int .u64 x0, .int .u64 x1], .agg #[.bool b1, .int .u64 x2, .int .u64 x3]] w (Vc.Ret v w) :=
  Vc.pure_of base [] 200 Tryz.func22 (b := (Tryz.f22.body).getD .skip) (by kernel_rfl) [.cv (.agg [.bool (.var 0), .int .u64 (.var 0), .int .u64 (.var 1)]), .cv (.agg [.bool (.var 1), .int .u64 (.var 2), .int .u64 (.var 3)])] ⟨4, 2, 0, 0, 0, 0, 0⟩ (Vc.envOf [x0, x1, x2, x3] [b0, b1] [] []) (by kernel_rfl) (by kernel_rfl) (by kernel_rfl) h

theorem vc_span_Of (x0 : Int) (w : World) (v : Value) (h : 
  ∃ (b0 : Bool), ∃ (x1 : Int), ∃ (x2 : Int), (∀ w' : World, Below w.heap.size w w' → Calls Tryz.prog 20 #[.int .i64 x0] w' (Vc.Ret (.agg #[.bool b0, .int .u64 x1, .int .u64 x2]) w')) ∧
  ∃ (b1 : Bool), ∃ (x3 : Int), ∃ (x4 : Int), (∀ w' : World, Below w.heap.size w w' → Calls Tryz.prog 21 #[.agg #[.bool b0, .int .u64 x1, .int .u64 x2], .int .u64 32] w' (Vc.Ret (.agg #[.bool b1, .int .u64 x3, .int .u64 x4]) w')) ∧
  ∃ (x5 : Int), ∃ (x6 : Int), ∃ (x7 : Int), (∀ w' : World, Below w.heap.size w w' → Calls Tryz.prog 22 #[.agg #[.bool b1, .int .u64 x3, .int .u64 x4], .agg #[.bool b1, .int .u64 x3, .int .u64 x4]] w' (Vc.Ret (.tuple #[.agg #[.int .i64 x5, .int .i64 x6], .int .i64 x7]) w')) ∧
  (.tuple #[.agg #[.int .i64 x5, .int .i64 x6], .int .i64 x7] : Value) = v) : Calls Tryz.prog 4 #[.int .i64 x0] w (Vc.Ret v w) :=
  Vc.pure_of base [] 200 Tryz.func4 (b := (Tryz.f4.body).getD .skip) (by kernel_rfl) [.cv (.one (.int .i64 (.var 0)))] ⟨1, 0, 0, 0, 0, 0, 0⟩ (Vc.envOf [x0] [] [] []) (by kernel_rfl) (by kernel_rfl) (by kernel_rfl) h

theorem vc_span_ratio (x0 x1 : Int) (w : World) (v : Value) (h : 
  ∃ (b0 : Bool), ∃ (x2 : Int), ∃ (x3 : Int), (∀ w' : World, Below w.heap.size w w' → Calls Tryz.prog 20 #[.int .i64 x0] w' (Vc.Ret (.agg #[.bool b0, .int .u64 x2, .int .u64 x3]) w')) ∧
  ∃ (b1 : Bool), ∃ (x4 : Int), ∃ (x5 : Int), (∀ w' : World, Below w.heap.size w w' → Calls Tryz.prog 21 #[.agg #[.bool b0, .int .u64 x2, .int .u64 x3], .int .u64 32] w' (Vc.Ret (.agg #[.bool b1, .int .u64 x4, .int .u64 x5]) w')) ∧
  ∃ (b2 : Bool), ∃ (x6 : Int), ∃ (x7 : Int), (∀ w' : World, Below w.heap.size w w' → Calls Tryz.prog 20 #[.int .i64 x1] w' (Vc.Ret (.agg #[.bool b2, .int .u64 x6, .int .u64 x7]) w')) ∧
  ∃ (b3 : Bool), ∃ (x8 : Int), ∃ (x9 : Int), ∃ (b4 : Bool), ∃ (x10 : Int), ∃ (x11 : Int), (∀ w' : World, Below w.heap.size w w' → Calls Tryz.prog 66 #[.agg #[.bool (!(b1 == b2)), .int .u64 x4, .int .u64 x5], .agg #[.bool false, .int .u64 x6, .int .u64 x7]] w' (Vc.Ret (.tuple #[.agg #[.bool b3, .int .u64 x8, .int .u64 x9], .agg #[.bool b4, .int .u64 x10, .int .u64 x11]]) w')) ∧
  (.tuple #[.agg #[.bool b3, .int .u64 x8, .int .u64 x9], .agg #[.bool b4, .int .u64 x10, .int .u64 x11]] : Value) = v) : Calls Tryz.prog 35 #[.int .i64 x0, .int .i64 x1] w (Vc.Ret v w) :=
  Vc.pure_of base [] 200 Tryz.func35 (b := (Tryz.f35.body).getD .skip) (by kernel_rfl) [.cv (.one (.int .i64 (.var 0))), .cv (.one (.int .i64 (.var 1)))] ⟨2, 0, 0, 0, 0, 0, 0⟩ (Vc.envOf [x0, x1] [] [] []) (by kernel_rfl) (by kernel_rfl) (by kernel_rfl) h

theorem vc_span_Ratio (x0 x1 : Int) (w : World) (v : Value) (h : 
  ((x1 = 0) → (
  (.tuple #[.agg #[.int .i64 0, .int .i64 0], .int .i64 10] : Value) = v)) ∧ (¬ (x1 = 0) → (
  ∃ (b0 : Bool), ∃ (x2 : Int), ∃ (x3 : Int), ∃ (b1 : Bool), ∃ (x4 : Int), ∃ (x5 : Int), (∀ w' : World, Below w.heap.size w w' → Calls Tryz.prog 35 #[.int .i64 x0, .int .i64 x1] w' (Vc.Ret (.tuple #[.agg #[.bool b0, .int .u64 x2, .int .u64 x3], .agg #[.bool b1, .int .u64 x4, .int .u64 x5]]) w')) ∧
  ∃ (x6 : Int), ∃ (x7 : Int), ∃ (x8 : Int), (∀ w' : World, Below w.heap.size w w' → Calls Tryz.prog 22 #[.agg #[.bool b0, .int .u64 x2, .int .u64 x3], .agg #[.bool b1, .int .u64 x4, .int .u64 x5]] w' (Vc.Ret (.tuple #[.agg #[.int .i64 x6, .int .i64 x7], .int .i64 x8]) w')) ∧
  (.tuple #[.agg #[.int .i64 x6, .int .i64 x7], .int .i64 x8] : Value) = v))) : Calls Tryz.prog 14 #[.int .i64 x0, .int .i64 x1] w (Vc.Ret v w) :=
  Vc.pure_of base [] 200 Tryz.func14 (b := (Tryz.f14.body).getD .skip) (by kernel_rfl) [.cv (.one (.int .i64 (.var 0))), .cv (.one (.int .i64 (.var 1)))] ⟨2, 0, 0, 0, 0, 0, 0⟩ (Vc.envOf [x0, x1] [] [] []) (by kernel_rfl) (by kernel_rfl) (by kernel_rfl) h

theorem vc_span_Add_1 (x0 x1 : Int) (w : World) (v : Value) (h : 
  ∃ (b0 : Bool), ∃ (x2 : Int), ∃ (x3 : Int), (∀ w' : World, Below w.heap.size w w' → Calls Tryz.prog 20 #[.int .i64 x0] w' (Vc.Ret (.agg #[.bool b0, .int .u64 x2, .int .u64 x3]) w')) ∧
  ∃ (b1 : Bool), ∃ (x4 : Int), ∃ (x5 : Int), (∀ w' : World, Below w.heap.size w w' → Calls Tryz.prog 20 #[.int .i64 x1] w' (Vc.Ret (.agg #[.bool b1, .int .u64 x4, .int .u64 x5]) w')) ∧
  ∃ (b2 : Bool), ∃ (x6 : Int), ∃ (x7 : Int), (∀ w' : World, Below w.heap.size w w' → Calls Tryz.prog 27 #[.agg #[.bool b0, .int .u64 x2, .int .u64 x3], .agg #[.bool b1, .int .u64 x4, .int .u64 x5]] w' (Vc.Ret (.agg #[.bool b2, .int .u64 x6, .int .u64 x7]) w')) ∧
  (.agg #[.bool b2, .int .u64 x6, .int .u64 x7] : Value) = v) : Calls Tryz.prog 56 #[.int .i64 x0, .int .i64 x1] w (Vc.Ret v w) :=
  Vc.pure_of base [] 200 Tryz.func56 (b := (Tryz.f56.body).getD .skip) (by kernel_rfl) [.cv (.one (.int .i64 (.var 0))), .cv (.one (.int .i64 (.var 1)))] ⟨2, 0, 0, 0, 0, 0, 0⟩ (Vc.envOf [x0, x1] [] [] []) (by kernel_rfl) (by kernel_rfl) (by kernel_rfl) h

theorem vc_span_Add (x0 x1 x2 x3 : Int) (w : World) (v : Value) (h : 
  ∃ (x4 : Int), (∀ (β : Nat → Nat) (w' : World), Below w.heap.size w w' → ((w.heap.size ≤ β 3 ∧ w'.heap[β 3]? = some (.cells #[.int .i64 x0, .int .i64 x1, .int .i64 x2, .int .i64 x3] 24)) ∧ True) → Calls Tryz.prog 34 #[.slice (some ⟨β 3, 0, none⟩) 2 2] w' (Vc.Ret (.int .i64 x4) w')) ∧
  ((x4 = 0) → (
  ∃ (b0 : Bool), ∃ (x5 : Int), ∃ (x6 : Int), (∀ w' : World, Below w.heap.size w w' → Calls Tryz.prog 56 #[.int .i64 x0, .int .i64 x2] w' (Vc.Ret (.agg #[.bool b0, .int .u64 x5, .int .u64 x6]) w')) ∧
  ∃ (b1 : Bool), ∃ (x7 : Int), ∃ (x8 : Int), (∀ w' : World, Below w.heap.size w w' → Calls Tryz.prog 56 #[.int .i64 x1, .int .i64 x3] w' (Vc.Ret (.agg #[.bool b1, .int .u64 x7, .int .u64 x8]) w')) ∧
  ∃ (x9 : Int), ∃ (x10 : Int), ∃ (x11 : Int), (∀ w' : World, Below w.heap.size w w' → Calls Tryz.prog 22 #[.agg #[.bool b0, .int .u64 x5, .int .u64 x6], .agg #[.bool b1, .int .u64 x7, .int .u64 x8]] w' (Vc.Ret (.tuple #[.agg #[.int .i64 x9, .int .i64 x10], .int .i64 x11]) w')) ∧
  (.tuple #[.agg #[.int .i64 x9, .int .i64 x10], .int .i64 x11] : Value) = v)) ∧ (¬ (x4 = 0) → (
  (.tuple #[.agg #[.int .i64 0, .int .i64 0], .int .i64 x4] : Value) = v))) : Calls Tryz.prog 17 #[.agg #[.int .i64 x0, .int .i64 x1], .agg #[.int .i64 x2, .int .i64 x3]] w (Vc.Ret v w) :=
  Vc.pure_of base [] 200 Tryz.func17 (b := (Tryz.f17.body).getD .skip) (by kernel_rfl) [.cv (.agg [.int .i64 (.var 0), .int .i64 (.var 1)]), .cv (.agg [.int .i64 (.var 2), .int .i64 (.var 3)])] ⟨4, 0, 0, 0, 0, 0, 0⟩ (Vc.envOf [x0, x1, x2, x3] [] [] []) (by kernel_rfl) (by kernel_rfl) (by kernel_rfl) h

theorem vc_span_Neg (x0 x1 : Int) (w : World) (v : Value) (h : 
  ∃ (x2 : Int), (∀ w' : World, Below w.heap.size w w' → Calls Tryz.prog 39 #[.agg #[.int .i64 x0, .int .i64 x1]] w' (Vc.Ret (.int .i64 x2) w')) ∧
  ((x2 = 0) → (
  ∀ x3 : Int, x3 = IntKind.i64.wrap (0 - x1) →
  ∀ x4 : Int, x4 = IntKind.i64.wrap (0 - x0) →
  (.tuple #[.agg #[.int .i64 x3, .int .i64 x4], .int .i64 0] : Value) = v)) ∧ (¬ (x2 = 0) → (
  (.tuple #[.agg #[.int .i64 0, .int .i64 0], .int .i64 x2] : Value) = v))) : Calls Tryz.prog 68 #[.agg #[.int .i64 x0, .int .i64 x1]] w (Vc.Ret v w) :=
  Vc.pure_of base [] 200 Tryz.func68 (b := (Tryz.f68.body).getD .skip) (by kernel_rfl) [.cv (.agg [.int .i64 (.var 0), .int .i64 (.var 1)])] ⟨2, 0, 0, 0, 0, 0, 0⟩ (Vc.envOf [x0, x1] [] [] []) (by kernel_rfl) (by kernel_rfl) (by kernel_rfl) h

theorem vc_span_hull_4 (p0 : Nat × Nat) (w : World) (v : Value) (h : 
  ∃ (b0 : Bool), w.cell? ⟨p0.1, p0.2 + (Int.toNat 0) * 3 + 0, none⟩ = some (.bool b0) ∧
  ∃ (x0 : Int), w.cell? ⟨p0.1, p0.2 + (Int.toNat 0) * 3 + 1, none⟩ = some (.int .u64 x0) ∧
  ∃ (x1 : Int), w.cell? ⟨p0.1, p0.2 + (Int.toNat 0) * 3 + 2, none⟩ = some (.int .u64 x1) ∧
  ∃ (b1 : Bool), w.cell? ⟨p0.1, p0.2 + (Int.toNat 0) * 3 + 0, none⟩ = some (.bool b1) ∧
  ∃ (x2 : Int), w.cell? ⟨p0.1, p0.2 + (Int.toNat 0) * 3 + 1, none⟩ = some (.int .u64 x2) ∧
  ∃ (x3 : Int), w.cell? ⟨p0.1, p0.2 + (Int.toNat 0) * 3 + 2, none⟩ = some (.int .u64 x3) ∧
  ∃ (b2 : Bool), w.cell? ⟨p0.1, p0.2 + (Int.toNat 1) * 3 + 0, none⟩ = some (.bool b2) ∧
  ∃ (x4 : Int), w.cell? ⟨p0.1, p0.2 + (Int.toNat 1) * 3 + 1, none⟩ = some (.int .u64 x4) ∧
  ∃ (x5 : Int), w.cell? ⟨p0.1, p0.2 + (Int.toNat 1) * 3 + 2, none⟩ = some (.int .u64 x5) ∧
  ∃ (b3 : Bool), (∀ w' : World, Below w.heap.size w w' → Calls Tryz.prog 67 #[.agg #[.bool b2, .int .u64 x4, .int .u64 x5], .agg #[.bool b0, .int .u64 x0, .int .u64 x1]] w' (Vc.Ret (.bool b3) w')) ∧
  ((b3 = true) → (
  ∃ (b4 : Bool), (∀ w' : World, Below w.heap.size w w' → Calls Tryz.prog 67 #[.agg #[.bool b1, .int .u64 x2, .int .u64 x3], .agg #[.bool b2, .int .u64 x4, .int .u64 x5]] w' (Vc.Ret (.bool b4) w')) ∧
  ((b4 = true) → (
  ∃ (b5 : Bool), w.cell? ⟨p0.1, p0.2 + (Int.toNat 2) * 3 + 0, none⟩ = some (.bool b5) ∧
  ∃ (x6 : Int), w.cell? ⟨p0.1, p0.2 + (Int.toNat 2) * 3 + 1, none⟩ = some (.int .u64 x6) ∧
  ∃ (x7 : Int), w.cell? ⟨p0.1, p0.2 + (Int.toNat 2) * 3 + 2, none⟩ = some (.int .u64 x7) ∧
  ∃ (b6 : Bool), (∀ w' : World, Below w.heap.size w w' → Calls Tryz.prog 67 #[.agg #[.bool b5, .int .u64 x6, .int .u64 x7], .agg #[.bool b2, .int .u64 x4, .int .u64 x5]] w' (Vc.Ret (.bool b6) w')) ∧
  ((b6 = true) → (
  ∃ (b7 : Bool), (∀ w' : World, Below w.heap.size w w' → Calls Tryz.prog 67 #[.agg #[.bool b2, .int .u64 x4, .int .u64 x5], .agg #[.bool b5, .int .u64 x6, .int .u64 x7]] w' (Vc.Ret (.bool b7) w')) ∧
  ((b7 = true) → (
  ∃ (b8 : Bool), w.cell? ⟨p0.1, p0.2 + (Int.toNat 3) * 3 + 0, none⟩ = some (.bool b8) ∧
  ∃ (x8 : Int), w.cell? ⟨p0.1, p0.2 + (Int.toNat 3) * 3 + 1, none⟩ = some (.int .u64 x8) ∧
  ∃ (x9 : Int), w.cell? ⟨p0.1, p0.2 + (Int.toNat 3) * 3 + 2, none⟩ = some (.int .u64 x9) ∧
  ∃ (b9 : Bool), (∀ w' : World, Below w.heap.size w w' → Calls Tryz.prog 67 #[.agg #[.bool b8, .int .u64 x8, .int .u64 x9], .agg #[.bool b5, .int .u64 x6, .int .u64 x7]] w' (Vc.Ret (.bool b9) w')) ∧
  ((b9 = true) → (
  ∃ (b10 : Bool), (∀ w' : World, Below w.heap.size w w' → Calls Tryz.prog 67 #[.agg #[.bool b5, .int .u64 x6, .int .u64 x7], .agg #[.bool b8, .int .u64 x8, .int .u64 x9]] w' (Vc.Ret (.bool b10) w')) ∧
  ((b10 = true) → (
  (.tuple #[.agg #[.bool b8, .int .u64 x8, .int .u64 x9], .agg #[.bool b8, .int .u64 x8, .int .u64 x9]] : Value) = v)) ∧ (¬ (b10 = true) → (
  (.tuple #[.agg #[.bool b8, .int .u64 x8, .int .u64 x9], .agg #[.bool b5, .int .u64 x6, .int .u64 x7]] : Value) = v)))) ∧ (¬ (b9 = true) → (
  ∃ (b10 : Bool), (∀ w' : World, Below w.heap.size w w' → Calls Tryz.prog 67 #[.agg #[.bool b5, .int .u64 x6, .int .u64 x7], .agg #[.bool b8, .int .u64 x8, .int .u64 x9]] w' (Vc.Ret (.bool b10) w')) ∧
  ((b10 = true) → (
  (.tuple #[.agg #[.bool b5, .int .u64 x6, .int .u64 x7], .agg #[.bool b8, .int .u64 x8, .int .u64 x9]] : Value) = v)) ∧ (¬ (b10 = true) → (
  (.tuple #[.agg #[.bool b5, .int .u64 x6, .int .u64 x7], .agg #[.bool b5, .int .u64 x6, .int .u64 x7]] : Value) = v)))))) ∧ (¬ (b7 = true) → (
  ∃ (b8 : Bool), w.cell? ⟨p0.1, p0.2 + (Int.toNat 3) * 3 + 0, none⟩ = some (.bool b8) ∧
  ∃ (x8 : Int), w.cell? ⟨p0.1, p0.2 + (Int.toNat 3) * 3 + 1, none⟩ = some (.int .u64 x8) ∧
  ∃ (x9 : Int), w.cell? ⟨p0.1, p0.2 + (Int.toNat 3) * 3 + 2, none⟩ = some (.int .u64 x9) ∧
  ∃ (b9 : Bool), (∀ w' : World, Below w.heap.size w w' → Calls Tryz.prog 67 #[.agg #[.bool b8, .int .u64 x8, .int .u64 x9], .agg #[.bool b5, .int .u64 x6, .int .u64 x7]] w' (Vc.Ret (.bool b9) w')) ∧
  ((b9 = true) → (
  ∃ (b10 : Bool), (∀ w' : World, Below w.heap.size w w' → Calls Tryz.prog 67 #[.agg #[.bool b2, .int .u64 x4, .int .u64 x5], .agg #[.bool b8, .int .u64 x8, .int .u64 x9]] w' (Vc.Ret (.bool b10) w')) ∧
  ((b10 = true) → (
  (.tuple #[.agg #[.bool b8, .int .u64 x8, .int .u64 x9], .agg #[.bool b8, .int .u64 x8, .int .u64 x9]] : Value) = v)) ∧ (¬ (b10 = true) → (
  (.tuple #[.agg #[.bool b8, .int .u64 x8, .int .u64 x9], .agg #[.bool b2, .int .u64 x4, .int .u64 x5]] : Value) = v)))) ∧ (¬ (b9 = true) → (
  ∃ (b10 : Bool), (∀ w' : World, Below w.heap.size w w' → Calls Tryz.prog 67 #[.agg #[.bool b2, .int .u64 x4, .int .u64 x5], .agg #[.bool b8, .int .u64 x8, .int .u64 x9]] w' (Vc.Ret (.bool b10) w')) ∧
  ((b10 = true) → (
  (.tuple #[.agg #[.bool b5, .int .u64 x6, .int .u64 x7], .agg #[.bool b8, .int .u64 x8, .int .u64 x9]] : Value) = v)) ∧ (¬ (b10 = true) → (
  (.tuple #[.agg #[.bool b5, .int .u64 x6, .int .u64 x7], .agg #[.bool b2, .int .u64 x4, .int .u64 x5]] : Value) = v)))))))) ∧ (¬ (b6 = true) → (
  ∃ (b7 : Bool), (∀ w' : World, Below w.heap.size w w' → Calls Tryz.prog 67 #[.agg #[.bool b2, .int .u64 x4, .int .u64 x5], .agg #[.bool b5, .int .u64 x6, .int .u64 x7]] w' (Vc.Ret (.bool b7) w')) ∧
  ((b7 = true) → (
  ∃ (b8 : Bool), w.cell? ⟨p0.1, p0.2 + (Int.toNat 3) * 3 + 0, none⟩ = some (.bool b8) ∧
  ∃ (x8 : Int), w.cell? ⟨p0.1, p0.2 + (Int.toNat 3) * 3 + 1, none⟩ = some (.int .u64 x8) ∧
  ∃ (x9 : Int), w.cell? ⟨p0.1, p0.2 + (Int.toNat 3) * 3 + 2, none⟩ = some (.int .u64 x9) ∧
  ∃ (b9 : Bool), (∀ w' : World, Below w.heap.size w w' → Calls Tryz.prog 67 #[.agg #[.bool b8, .int .u64 x8, .int .u64 x9], .agg #[.bool b2, .int .u64 x4, .int .u64 x5]] w' (Vc.Ret (.bool b9) w')) ∧
  ((b9 = true) → (
  ∃ (b10 : Bool), (∀ w' : World, Below w.heap.size w w' → Calls Tryz.prog 67 #[.agg #[.bool b5, .int .u64 x6, .int .u64 x7], .agg #[.bool b8, .int .u64 x8, .int .u64 x9]] w' (Vc.Ret (.bool b10) w')) ∧
  ((b10 = true) → (
  (.tuple #[.agg #[.bool b8, .int .u64 x8, .int .u64 x9], .agg #[.bool b8, .int .u64 x8, .int .u64 x9]] : Value) = v)) ∧ (¬ (b10 = true) → (
  (.tuple #[.agg #[.bool b8, .int .u64 x8, .int .u64 x9], .agg #[.bool b5, .int .u64 x6, .int .u64 x7]] : Value) = v)))) ∧ (¬ (b9 = true) → (
  ∃ (b10 : Bool), (∀ w' : World, Below w.heap.size w w' → Calls Tryz.prog 67 #[.agg #[.bool b5, .int .u64 x6, .int .u64 x7], .agg #[.bool b8, .int .u64 x8, .int .u64 x9]] w' (Vc.Ret (.bool b10) w')) ∧
  ((b10 = true) → (
  (.tuple #[.agg #[.bool b2, .int .u64 x4, .int .u64 x5], .agg #[.bool b8, .int .u64 x8, .int .u64 x9]] : Value) = v)) ∧ (¬ (b10 = true) → (
  (.tuple #[.agg #[.bool b2, .int .u64 x4, .int .u64 x5], .agg #[.bool b5, .int .u64 x6, .int .u64 x7]] : Value) = v)))))) ∧ (¬ (b7 = true) → (
  ∃ (b8 : Bool), w.cell? ⟨p0.1, p0.2 + (Int.toNat 3) * 3 + 0, none⟩ = some (.bool b8) ∧
  ∃ (x8 : Int), w.cell? ⟨p0.1, p0.2 + (Int.toNat 3) * 3 + 1, none⟩ = some (.int .u64 x8) ∧
  ∃ (x9 : Int), w.cell? ⟨p0.1, p0.2 + (Int.toNat 3) * 3 + 2, none⟩ = some (.int .u64 x9) ∧
  ∃ (b9 : Bool), (∀ w' : World, Below w.heap.size w w' → Calls Tryz.prog 67 #[.agg #[.bool b8, .int .u64 x8, .int .u64 x9], .agg #[.bool b2, .int .u64 x4, .int .u64 x5]] w' (Vc.Ret (.bool b9) w')) ∧
  ((b9 = true) → (
  ∃ (b10 : Bool), (∀ w' : World, Below w.heap.size w w' → Calls Tryz.prog 67 #[.agg #[.bool b2, .int .u64 x4, .int .u64 x5], .agg #[.bool b8, .int .u64 x8, .int .u64 x9]] w' (Vc.Ret (.bool b10) w')) ∧
  ((b10 = true) → (
  (.tuple #[.agg #[.bool b8, .int .u64 x8, .int .u64 x9], .agg #[.bool b8, .int .u64 x8, .int .u64 x9]] : Value) = v)) ∧ (¬ (b10 = true) → (
  (.tuple #[.agg #[.bool b8, .int .u64 x8, .int .u64 x9], .agg #[.bool b2, .int .u64 x4, .int .u64 x5]] : Value) = v)))) ∧ (¬ (b9 = true) → (
  ∃ (b10 : Bool), (∀ w' : World, Below w.heap.size w w' → Calls Tryz.prog 67 #[.agg #[.bool b2, .int .u64 x4, .int .u64 x5], .agg #[.bool b8, .int .u64 x8, .int .u64 x9]] w' (Vc.Ret (.bool b10) w')) ∧
  ((b10 = true) → (
  (.tuple #[.agg #[.bool b2, .int .u64 x4, .int .u64 x5], .agg #[.bool b8, .int .u64 x8, .int .u64 x9]] : Value) = v)) ∧ (¬ (b10 = true) → (
  (.tuple #[.agg #[.bool b2, .int .u64 x4, .int .u64 x5], .agg #[.bool b2, .int .u64 x4, .int .u64 x5]] : Value) = v)))))))))) ∧ (¬ (b4 = true) → (
  ∃ (b5 : Bool), w.cell? ⟨p0.1, p0.2 + (Int.toNat 2) * 3 + 0, none⟩ = some (.bool b5) ∧
  ∃ (x6 : Int), w.cell? ⟨p0.1, p0.2 + (Int.toNat 2) * 3 + 1, none⟩ = some (.int .u64 x6) ∧
  ∃ (x7 : Int), w.cell? ⟨p0.1, p0.2 + (Int.toNat 2) * 3 + 2, none⟩ = some (.int .u64 x7) ∧
  ∃ (b6 : Bool), (∀ w' : World, Below w.heap.size w w' → Calls Tryz.prog 67 #[.agg #[.bool b5, .int .u64 x6, .int .u64 x7], .agg #[.bool b2, .int .u64 x4, .int .u64 x5]] w' (Vc.Ret (.bool b6) w')) ∧
  ((b6 = true) → (
  ∃ (b7 : Bool), (∀ w' : World, Below w.heap.size w w' → Calls Tryz.prog 67 #[.agg #[.bool b1, .int .u64 x2, .int .u64 x3], .agg #[.bool b5, .int .u64 x6, .int .u64 x7]] w' (Vc.Ret (.bool b7) w')) ∧
  ((b7 = true) → (
  ∃ (b8 : Bool), w.cell? ⟨p0.1, p0.2 + (Int.toNat 3) * 3 + 0, none⟩ = some (.bool b8) ∧
  ∃ (x8 : Int), w.cell? ⟨p0.1, p0.2 + (Int.toNat 3) * 3 + 1, none⟩ = some (.int .u64 x8) ∧
  ∃ (x9 : Int), w.cell? ⟨p0.1, p0.2 + (Int.toNat 3) * 3 + 2, none⟩ = some (.int .u64 x9) ∧
  ∃ (b9 : Bool), (∀ w' : World, Below w.heap.size w w' → Calls Tryz.prog 67 #[.agg #[.bool b8, .int .u64 x8, .int .u64 x9], .agg #[.bool b5, .int .u64 x6, .int .u64 x7]] w' (Vc.Ret (.bool b9) w')) ∧
  ((b9 = true) → (
  ∃ (b10 : Bool), (∀ w' : World, Below w.heap.size w w' → Calls Tryz.prog 67 #[.agg #[.bool b5, .int .u64 x6, .int .u64 x7], .agg #[.bool b8, .int .u64 x8, .int .u64 x9]] w' (Vc.Ret (.bool b10) w')) ∧
  ((b10 = true) → (
  (.tuple #[.agg #[.bool b8, .int .u64 x8, .int .u64 x9], .agg #[.bool b8, .int .u64 x8, .int .u64 x9]] : Value) = v)) ∧ (¬ (b10 = true) → (
  (.tuple #[.agg #[.bool b8, .int .u64 x8, .int .u64 x9], .agg #[.bool b5, .int .u64 x6, .int .u64 x7]] : Value) = v)))) ∧ (¬ (b9 = true) → (
  ∃ (b10 : Bool), (∀ w' : World, Below w.heap.size w w' → Calls Tryz.prog 67 #[.agg #[.bool b5, .int .u64 x6, .int .u64 x7], .agg #[.bool b8, .int .u64 x8, .int .u64 x9]] w' (Vc.Ret (.bool b10) w')) ∧
  ((b10 = true) → (
  (.tuple #[.agg #[.bool b5, .int .u64 x6, .int .u64 x7], .agg #[.bool b8, .int .u64 x8, .int .u64 x9]] : Value) = v)) ∧ (¬ (b10 = true) → (
  (.tuple #[.agg #[.bool b5, .int .u64 x6, .int .u64 x7], .agg #[.bool b5, .int .u64 x6, .int .u64 x7]] : Value) = v)))))) ∧ (¬ (b7 = true) → (
  ∃ (b8 : Bool), w.cell? ⟨p0.1, p0.2 + (Int.toNat 3) * 3 + 0, none⟩ = some (.bool b8) ∧
  ∃ (x8 : Int), w.cell? ⟨p0.1, p0.2 + (Int.toNat 3) * 3 + 1, none⟩ = some (.int .u64 x8) ∧
  ∃ (x9 : Int), w.cell? ⟨p0.1, p0.2 + (Int.toNat 3) * 3 + 2, none⟩ = some (.int .u64 x9) ∧
  ∃ (b9 : Bool), (∀ w' : World, Below w.heap.size w w' → Calls Tryz.prog 67 #[.agg #[.bool b8, .int .u64 x8, .int .u64 x9], .agg #[.bool b5, .int .u64 x6, .int .u64 x7]] w' (Vc.Ret (.bool b9) w')) ∧
  ((b9 = true) → (
  ∃ (b10 : Bool), (∀ w' : World, Below w.heap.size w w' → Calls Tryz.prog 67 #[.agg #[.bool b1, .int .u64 x2, .int .u64 x3], .agg #[.bool b8, .int .u64 x8, .int .u64 x9]] w' (Vc.Ret (.bool b10) w')) ∧
  ((b10 = true) → (
  (.tuple #[.agg #[.bool b8, .int .u64 x8, .int .u64 x9], .agg #[.bool b8, .int .u64 x8, .int .u64 x9]] : Value) = v)) ∧ (¬ (b10 = true) → (
  (.tuple #[.agg #[.bool b8, .int .u64 x8, .int .u64 x9], .agg #[.bool b1, .int .u64 x2, .int .u64 x3]] : Value) = v)))) ∧ (¬ (b9 = true) → (
  ∃ (b10 : Bool), (∀ w' : World, Below w.heap.size w w' → Calls Tryz.prog 67 #[.agg #[.bool b1, .int .u64 x2, .int .u64 x3], .agg #[.bool b8, .int .u64 x8, .int .u64 x9]] w' (Vc.Ret (.bool b10) w')) ∧
  ((b10 = true) → (
  (.tuple #[.agg #[.bool b5, .int .u64 x6, .int .u64 x7], .agg #[.bool b8, .int .u64 x8, .int .u64 x9]] : Value) = v)) ∧ (¬ (b10 = true) → (
  (.tuple #[.agg #[.bool b5, .int .u64 x6, .int .u64 x7], .agg #[.bool b1, .int .u64 x2, .int .u64 x3]] : Value) = v)))))))) ∧ (¬ (b6 = true) → (
  ∃ (b7 : Bool), (∀ w' : World, Below w.heap.size w w' → Calls Tryz.prog 67 #[.agg #[.bool b1, .int .u64 x2, .int .u64 x3], .agg #[.bool b5, .int .u64 x6, .int .u64 x7]] w' (Vc.Ret (.bool b7) w')) ∧
  ((b7 = true) → (
  ∃ (b8 : Bool), w.cell? ⟨p0.1, p0.2 + (Int.toNat 3) * 3 + 0, none⟩ = some (.bool b8) ∧
  ∃ (x8 : Int), w.cell? ⟨p0.1, p0.2 + (Int.toNat 3) * 3 + 1, none⟩ = some (.int .u64 x8) ∧
  ∃ (x9 : Int), w.cell? ⟨p0.1, p0.2 + (Int.toNat 3) * 3 + 2, none⟩ = some (.int .u64 x9) ∧
  ∃ (b9 : Bool), (∀ w' : World, Below w.heap.size w w' → Calls Tryz.prog 67 #[.agg #[.bool b8, .int .u64 x8, .int .u64 x9], .agg #[.bool b2, .int .u64 x4, .int .u64 x5]] w' (Vc.Ret (.bool b9) w')) ∧
  ((b9 = true) → (
  ∃ (b10 : Bool), (∀ w' : World, Below w.heap.size w w' → Calls Tryz.prog 67 #[.agg #[.bool b5, .int .u64 x6, .int .u64 x7], .agg #[.bool b8, .int .u64 x8, .int .u64 x9]] w' (Vc.Ret (.bool b10) w')) ∧
  ((b10 = true) → (
  (.tuple #[.agg #[.bool b8, .int .u64 x8, .int .u64 x9], .agg #[.bool b8, .int .u64 x8, .int .u64 x9]] : Value) = v)) ∧ (¬ (b10 = true) → (
  (.tuple #[.agg #[.bool b8, .int .u64 x8, .int .u64 x9], .agg #[.bool b5, .int .u64 x6, .int .u64 x7]] : Value) = v)))) ∧ (¬ (b9 = true) → (
  ∃ (b10 : Bool), (∀ w' : World, Below w.heap.size w w' → Calls Tryz.prog 67 #[.agg #[.bool b5, .int .u64 x6, .int .u64 x7], .agg #[.bool b8, .int .u64 x8, .int .u64 x9]] w' (Vc.Ret (.bool b10) w')) ∧
  ((b10 = true) → (
  (.tuple #[.agg #[.bool b2, .int .u64 x4, .int .u64 x5], .agg #[.bool b8, .int .u64 x8, .int .u64 x9]] : Value) = v)) ∧ (¬ (b10 = true) → (
  (.tuple #[.agg #[.bool b2, .int .u64 x4, .int .u64 x5], .agg #[.bool b5, .int .u64 x6, .int .u64 x7]] : Value) = v)))))) ∧ (¬ (b7 = true) → (
  ∃ (b8 : Bool), w.cell? ⟨p0.1, p0.2 + (Int.toNat 3) * 3 + 0, none⟩ = some (.bool b8) ∧
  ∃ (x8 : Int), w.cell? ⟨p0.1, p0.2 + (Int.toNat 3) * 3 + 1, none⟩ = some (.int .u64 x8) ∧
  ∃ (x9 : Int), w.cell? ⟨p0.1, p0.2 + (Int.toNat 3) * 3 + 2, none⟩ = some (.int .u64 x9) ∧
  ∃ (b9 : Bool), (∀ w' : World, Below w.heap.size w w' → Calls Tryz.prog 67 #[.agg #[.bool b8, .int .u64 x8, .int .u64 x9], .agg #[.bool b2, .int .u64 x4, .int .u64 x5]] w' (Vc.Ret (.bool b9) w')) ∧
  ((b9 = true) → (
  ∃ (b10 : Bool), (∀ w' : World, Below w.heap.size w w' → Calls Tryz.prog 67 #[.agg #[.bool b1, .int .u64 x2, .int .u64 x3], .agg #[.bool b8, .int .u64 x8, .int .u64 x9]] w' (Vc.Ret (.bool b10) w')) ∧
  ((b10 = true) → (
  (.tuple #[.agg #[.bool b8, .int .u64 x8, .int .u64 x9], .agg #[.bool b8, .int .u64 x8, .int .u64 x9]] : Value) = v)) ∧ (¬ (b10 = true) → (
  (.tuple #[.agg #[.bool b8, .int .u64 x8, .int .u64 x9], .agg #[.bool b1, .int .u64 x2, .int .u64 x3]] : Value) = v)))) ∧ (¬ (b9 = true) → (
  ∃ (b10 : Bool), (∀ w' : World, Below w.heap.size w w' → Calls Tryz.prog 67 #[.agg #[.bool b1, .int .u64 x2, .int .u64 x3], .agg #[.bool b8, .int .u64 x8, .int .u64 x9]] w' (Vc.Ret (.bool b10) w')) ∧
  ((b10 = true) → (
  (.tuple #[.agg #[.bool b2, .int .u64 x4, .int .u64 x5], .agg #[.bool b8, .int .u64 x8, .int .u64 x9]] : Value) = v)) ∧ (¬ (b10 = true) → (
  (.tuple #[.agg #[.bool b2, .int .u64 x4, .int .u64 x5], .agg #[.bool b1, .int .u64 x2, .int .u64 x3]] : Value) = v)))))))))))) ∧ (¬ (b3 = true) → (
  ∃ (b4 : Bool), (∀ w' : World, Below w.heap.size w w' → Calls Tryz.prog 67 #[.agg #[.bool b1, .int .u64 x2, .int .u64 x3], .agg #[.bool b2, .int .u64 x4, .int .u64 x5]] w' (Vc.Ret (.bool b4) w')) ∧
  ((b4 = true) → (
  ∃ (b5 : Bool), w.cell? ⟨p0.1, p0.2 + (Int.toNat 2) * 3 + 0, none⟩ = some (.bool b5) ∧
  ∃ (x6 : Int), w.cell? ⟨p0.1, p0.2 + (Int.toNat 2) * 3 + 1, none⟩ = some (.int .u64 x6) ∧
  ∃ (x7 : Int), w.cell? ⟨p0.1, p0.2 + (Int.toNat 2) * 3 + 2, none⟩ = some (.int .u64 x7) ∧
  ∃ (b6 : Bool), (∀ w' : World, Below w.heap.size w w' → Calls Tryz.prog 67 #[.agg #[.bool b5, .int .u64 x6, .int .u64 x7], .agg #[.bool b0, .int .u64 x0, .int .u64 x1]] w' (Vc.Ret (.bool b6) w')) ∧
  ((b6 = true) → (
  ∃ (b7 : Bool), (∀ w' : World, Below w.heap.size w w' → Calls Tryz.prog 67 #[.agg #[.bool b2, .int .u64 x4, .int .u64 x5], .agg #[.bool b5, .int .u64 x6, .int .u64 x7]] w' (Vc.Ret (.bool b7) w')) ∧
  ((b7 = true) → (
  ∃ (b8 : Bool), w.cell? ⟨p0.1, p0.2 + (Int.toNat 3) * 3 + 0, none⟩ = some (.bool b8) ∧
  ∃ (x8 : Int), w.cell? ⟨p0.1, p0.2 + (Int.toNat 3) * 3 + 1, none⟩ = some (.int .u64 x8) ∧
  ∃ (x9 : Int), w.cell? ⟨p0.1, p0.2 + (Int.toNat 3) * 3 + 2, none⟩ = some (.int .u64 x9) ∧
  ∃ (b9 : Bool), (∀ w' : World, Below w.heap.size w w' → Calls Tryz.prog 67 #[.agg #[.bool b8, .int .u64 x8, .int .u64 x9], .agg #[.bool b5, .int .u64 x6, .int .u64 x7]] w' (Vc.Ret (.bool b9) w')) ∧
  ((b9 = true) → (
  ∃ (b10 : Bool), (∀ w' : World, Below w.heap.size w w' → Calls Tryz.prog 67 #[.agg #[.bool b5, .int .u64 x6, .int .u64 x7], .agg #[.bool b8, .int .u64 x8, .int .u64 x9]] w' (Vc.Ret (.bool b10) w')) ∧
  ((b10 = true) → (
  (.tuple #[.agg #[.bool b8, .int .u64 x8, .int .u64 x9], .agg #[.bool b8, .int .u64 x8, .int .u64 x9]] : Value) = v)) ∧ (¬ (b10 = true) → (
  (.tuple #[.agg #[.bool b8, .int .u64 x8, .int .u64 x9], .agg #[.bool b5, .int .u64 x6, .int .u64 x7]] : Value) = v)))) ∧ (¬ (b9 = true) → (
  ∃ (b10 : Bool), (∀ w' : World, Below w.heap.size w w' → Calls Tryz.prog 67 #[.agg #[.bool b5, .int .u64 x6, .int .u64 x7], .agg #[.bool b8, .int .u64 x8, .int .u64 x9]] w' (Vc.Ret (.bool b10) w')) ∧
  ((b10 = true) → (
  (.tuple #[.agg #[.bool b5, .int .u64 x6, .int .u64 x7], .agg #[.bool b8, .int .u64 x8, .int .u64 x9]] : Value) = v)) ∧ (¬ (b10 = true) → (
  (.tuple #[.agg #[.bool b5, .int .u64 x6, .int .u64 x7], .agg #[.bool b5, .int .u64 x6, .int .u64 x7]] : Value) = v)))))) ∧ (¬ (b7 = true) → (
  ∃ (b8 : Bool), w.cell? ⟨p0.1, p0.2 + (Int.toNat 3) * 3 + 0, none⟩ = some (.bool b8) ∧
  ∃ (x8 : Int), w.cell? ⟨p0.1, p0.2 + (Int.toNat 3) * 3 + 1, none⟩ = some (.int .u64 x8) ∧
  ∃ (x9 : Int), w.cell? ⟨p0.1, p0.2 + (Int.toNat 3) * 3 + 2, none⟩ = some (.int .u64 x9) ∧
  ∃ (b9 : Bool), (∀ w' : World, Below w.heap.size w w' → Calls Tryz.prog 67 #[.agg #[.bool b8, .int .u64 x8, .int .u64 x9], .agg #[.bool b5, .int .u64 x6, .int .u64 x7]] w' (Vc.Ret (.bool b9) w')) ∧
  ((b9 = true) → (
  ∃ (b10 : Bool), (∀ w' : World, Below w.heap.size w w' → Calls Tryz.prog 67 #[.agg #[.bool b2, .int .u64 x4, .int .u64 x5], .agg #[.bool b8, .int .u64 x8, .int .u64 x9]] w' (Vc.Ret (.bool b10) w')) ∧
  ((b10 = true) → (
  (.tuple #[.agg #[.bool b8, .int .u64 x8, .int .u64 x9], .agg #[.bool b8, .int .u64 x8, .int .u64 x9]] : Value) = v)) ∧ (¬ (b10 = true) → (
  (.tuple #[.agg #[.bool b8, .int .u64 x8, .int .u64 x9], .agg #[.bool b2, .int .u64 x4, .int .u64 x5]] : Value) = v)))) ∧ (¬ (b9 = true) → (
  ∃ (b10 : Bool), (∀ w' : World, Below w.heap.size w w' → Calls Tryz.prog 67 #[.agg #[.bool b2, .int .u64 x4, .int .u64 x5], .agg #[.bool b8, .int .u64 x8, .int .u64 x9]] w' (Vc.Ret (.bool b10) w')) ∧
  ((b10 = true) → (
  (.tuple #[.agg #[.bool b5, .int .u64 x6, .int .u64 x7], .agg #[.bool b8, .int .u64 x8, .int .u64 x9]] : Value) = v)) ∧ (¬ (b10 = true) → (
  (.tuple #[.agg #[.bool b5, .int .u64 x6, .int .u64 x7], .agg #[.bool b2, .int .u64 x4, .int .u64 x5]] : Value) = v)))))))) ∧ (¬ (b6 = true) → (
  ∃ (b7 : Bool), (∀ w' : World, Below w.heap.size w w' → Calls Tryz.prog 67 #[.agg #[.bool b2, .int .u64 x4, .int .u64 x5], .agg #[.bool b5, .int .u64 x6, .int .u64 x7]] w' (Vc.Ret (.bool b7) w')) ∧
  ((b7 = true) → (
  ∃ (b8 : Bool), w.cell? ⟨p0.1, p0.2 + (Int.toNat 3) * 3 + 0, none⟩ = some (.bool b8) ∧
  ∃ (x8 : Int), w.cell? ⟨p0.1, p0.2 + (Int.toNat 3) * 3 + 1, none⟩ = some (.int .u64 x8) ∧
  ∃ (x9 : Int), w.cell? ⟨p0.1, p0.2 + (Int.toNat 3) * 3 + 2, none⟩ = some (.int .u64 x9) ∧
  ∃ (b9 : Bool), (∀ w' : World, Below w.heap.size w w' → Calls Tryz.prog 67 #[.agg #[.bool b8, .int .u64 x8, .int .u64 x9], .agg #[.bool b0, .int .u64 x0, .int .u64 x1]] w' (Vc.Ret (.bool b9) w')) ∧
  ((b9 = true) → (
  ∃ (b10 : Bool), (∀ w' : World, Below w.heap.size w w' → Calls Tryz.prog 67 #[.agg #[.bool b5, .int .u64 x6, .int .u64 x7], .agg #[.bool b8, .int .u64 x8, .int .u64 x9]] w' (Vc.Ret (.bool b10) w')) ∧
  ((b10 = true) → (
  (.tuple #[.agg #[.bool b8, .int .u64 x8, .int .u64 x9], .agg #[.bool b8, .int .u64 x8, .int .u64 x9]] : Value) = v)) ∧ (¬ (b10 = true) → (
  (.tuple #[.agg #[.bool b8, .int .u64 x8, .int .u64 x9], .agg #[.bool b5, .int .u64 x6, .int .u64 x7]] : Value) = v)))) ∧ (¬ (b9 = true) → (
  ∃ (b10 : Bool), (∀ w' : World, Below w.heap.size w w' → Calls Tryz.prog 67 #[.agg #[.bool b5, .int .u64 x6, .int .u64 x7], .agg #[.bool b8, .int .u64 x8, .int .u64 x9]] w' (Vc.Ret (.bool b10) w')) ∧
  ((b10 = true) → (
  (.tuple #[.agg #[.bool b0, .int .u64 x0, .int .u64 x1], .agg #[.bool b8, .int .u64 x8, .int .u64 x9]] : Value) = v)) ∧ (¬ (b10 = true) → (
  (.tuple #[.agg #[.bool b0, .int .u64 x0, .int .u64 x1], .agg #[.bool b5, .int .u64 x6, .int .u64 x7]] : Value) = v)))))) ∧ (¬ (b7 = true) → (
  ∃ (b8 : Bool), w.cell? ⟨p0.1, p0.2 + (Int.toNat 3) * 3 + 0, none⟩ = some (.bool b8) ∧
  ∃ (x8 : Int), w.cell? ⟨p0.1, p0.2 + (Int.toNat 3) * 3 + 1, none⟩ = some (.int .u64 x8) ∧
  ∃ (x9 : Int), w.cell? ⟨p0.1, p0.2 + (Int.toNat 3) * 3 + 2, none⟩ = some (.int .u64 x9) ∧
  ∃ (b9 : Bool), (∀ w' : World, Below w.heap.size w w' → Calls Tryz.prog 67 #[.agg #[.bool b8, .int .u64 x8, .int .u64 x9], .agg #[.bool b0, .int .u64 x0, .int .u64 x1]] w' (Vc.Ret (.bool b9) w')) ∧
  ((b9 = true) → (
  ∃ (b10 : Bool), (∀ w' : World, Below w.heap.size w w' → Calls Tryz.prog 67 #[.agg #[.bool b2, .int .u64 x4, .int .u64 x5], .agg #[.bool b8, .int .u64 x8, .int .u64 x9]] w' (Vc.Ret (.bool b10) w')) ∧
  ((b10 = true) → (
  (.tuple #[.agg #[.bool b8, .int .u64 x8, .int .u64 x9], .agg #[.bool b8, .int .u64 x8, .int .u64 x9]] : Value) = v)) ∧ (¬ (b10 = true) → (
  (.tuple #[.agg #[.bool b8, .int .u64 x8, .int .u64 x9], .agg #[.bool b2, .int .u64 x4, .int .u64 x5]] : Value) = v)))) ∧ (¬ (b9 = true) → (
  ∃ (b10 : Bool), (∀ w' : World, Below w.heap.size w w' → Calls Tryz.prog 67 #[.agg #[.bool b2, .int .u64 x4, .int .u64 x5], .agg #[.bool b8, .int .u64 x8, .int .u64 x9]] w' (Vc.Ret (.bool b10) w')) ∧
  ((b10 = true) → (
  (.tuple #[.agg #[.bool b0, .int .u64 x0, .int .u64 x1], .agg #[.bool b8, .int .u64 x8, .int .u64 x9]] : Value) = v)) ∧ (¬ (b10 = true) → (
  (.tuple #[.agg #[.bool b0, .int .u64 x0, .int .u64 x1], .agg #[.bool b2, .int .u64 x4, .int .u64 x5]] : Value) = v)))))))))) ∧ (¬ (b4 = true) → (
  ∃ (b5 : Bool), w.cell? ⟨p0.1, p0.2 + (Int.toNat 2) * 3 + 0, none⟩ = some (.bool b5) ∧
  ∃ (x6 : Int), w.cell? ⟨p0.1, p0.2 + (Int.toNat 2) * 3 + 1, none⟩ = some (.int .u64 x6) ∧
  ∃ (x7 : Int), w.cell? ⟨p0.1, p0.2 + (Int.toNat 2) * 3 + 2, none⟩ = some (.int .u64 x7) ∧
  ∃ (b6 : Bool), (∀ w' : World, Below w.heap.size w w' → Calls Tryz.prog 67 #[.agg #[.bool b5, .int .u64 x6, .int .u64 x7], .agg #[.bool b0, .int .u64 x0, .int .u64 x1]] w' (Vc.Ret (.bool b6) w')) ∧
  ((b6 = true) → (
  ∃ (b7 : Bool), (∀ w' : World, Below w.heap.size w w' → Calls Tryz.prog 67 #[.agg #[.bool b1, .int .u64 x2, .int .u64 x3], .agg #[.bool b5, .int .u64 x6, .int .u64 x7]] w' (Vc.Ret (.bool b7) w')) ∧
  ((b7 = true) → (
  ∃ (b8 : Bool), w.cell? ⟨p0.1, p0.2 + (Int.toNat 3) * 3 + 0, none⟩ = some (.bool b8) ∧
  ∃ (x8 : Int), w.cell? ⟨p0.1, p0.2 + (Int.toNat 3) * 3 + 1, none⟩ = some (.int .u64 x8) ∧
  ∃ (x9 : Int), w.cell? ⟨p0.1, p0.2 + (Int.toNat 3) * 3 + 2, none⟩ = some (.int .u64 x9) ∧
  ∃ (b9 : Bool), (∀ w' : World, Below w.heap.size w w' → Calls Tryz.prog 67 #[.agg #[.bool b8, .int .u64 x8, .int .u64 x9], .agg #[.bool b5, .int .u64 x6, .int .u64 x7]] w' (Vc.Ret (.bool b9) w')) ∧
  ((b9 = true) → (
  ∃ (b10 : Bool), (∀ w' : World, Below w.heap.size w w' → Calls Tryz.prog 67 #[.agg #[.bool b5, .int .u64 x6, .int .u64 x7], .agg #[.bool b8, .int .u64 x8, .int .u64 x9]] w' (Vc.Ret (.bool b10) w')) ∧
  ((b10 = true) → (
  (.tuple #[.agg #[.bool b8, .int .u64 x8, .int .u64 x9], .agg #[.bool b8, .int .u64 x8, .int .u64 x9]] : Value) = v)) ∧ (¬ (b10 = true) → (
  (.tuple #[.agg #[.bool b8, .int .u64 x8, .int .u64 x9], .agg #[.bool b5, .int .u64 x6, .int .u64 x7]] : Value) = v)))) ∧ (¬ (b9 = true) → (
  ∃ (b10 : Bool), (∀ w' : World, Below w.heap.size w w' → Calls Tryz.prog 67 #[.agg #[.bool b5, .int .u64 x6, .int .u64 x7], .agg #[.bool b8, .int .u64 x8, .int .u64 x9]] w' (Vc.Ret (.bool b10) w')) ∧
  ((b10 = true) → (
  (.tuple #[.agg #[.bool b5, .int .u64 x6, .int .u64 x7], .agg #[.bool b8, .int .u64 x8, .int .u64 x9]] : Value) = v)) ∧ (¬ (b10 = true) → (
  (.tuple #[.agg #[.bool b5, .int .u64 x6, .int .u64 x7], .agg #[.bool b5, .int .u64 x6, .int .u64 x7]] : Value) = v)))))) ∧ (¬ (b7 = true) → (
  ∃ (b8 : Bool), w.cell? ⟨p0.1, p0.2 + (Int.toNat 3) * 3 + 0, none⟩ = some (.bool b8) ∧
  ∃ (x8 : Int), w.cell? ⟨p0.1, p0.2 + (Int.toNat 3) * 3 + 1, none⟩ = some (.int .u64 x8) ∧
  ∃ (x9 : Int), w.cell? ⟨p0.1, p0.2 + (Int.toNat 3) * 3 + 2, none⟩ = some (.int .u64 x9) ∧
  ∃ (b9 : Bool), (∀ w' : World, Below w.heap.size w w' → Calls Tryz.prog 67 #[.agg #[.bool b8, .int .u64 x8, .int .u64 x9], .agg #[.bool b5, .int .u64 x6, .int .u64 x7]] w' (Vc.Ret (.bool b9) w')) ∧
  ((b9 = true) → (
  ∃ (b10 : Bool), (∀ w' : World, Below w.heap.size w w' → Calls Tryz.prog 67 #[.agg #[.bool b1, .int .u64 x2, .int .u64 x3], .agg #[.bool b8, .int .u64 x8, .int .u64 x9]] w' (Vc.Ret (.bool b10) w')) ∧
  ((b10 = true) → (
  (.tuple #[.agg #[.bool b8, .int .u64 x8, .int .u64 x9], .agg #[.bool b8, .int .u64 x8, .int .u64 x9]] : Value) = v)) ∧ (¬ (b10 = true) → (
  (.tuple #[.agg #[.bool b8, .int .u64 x8, .int .u64 x9], .agg #[.bool b1, .int .u64 x2, .int .u64 x3]] : Value) = v)))) ∧ (¬ (b9 = true) → (
  ∃ (b10 : Bool), (∀ w' : World, Below w.heap.size w w' → Calls Tryz.prog 67 #[.agg #[.bool b1, .int .u64 x2, .int .u64 x3], .agg #[.bool b8, .int .u64 x8, .int .u64 x9]] w' (Vc.Ret (.bool b10) w')) ∧
  ((b10 = true) → (
  (.tuple #[.agg #[.bool b5, .int .u64 x6, .int .u64 x7], .agg #[.bool b8, .int .u64 x8, .int .u64 x9]] : Value) = v)) ∧ (¬ (b10 = true) → (
  (.tuple #[.agg #[.bool b5, .int .u64 x6, .int .u64 x7], .agg #[.bool b1, .int .u64 x2, .int .u64 x3]] : Value) = v)))))))) ∧ (¬ (b6 = true) → (
  ∃ (b7 : Bool), (∀ w' : World, Below w.heap.size w w' → Calls Tryz.prog 67 #[.agg #[.bool b1, .int .u64 x2, .int .u64 x3], .agg #[.bool b5, .int .u64 x6, .int .u64 x7]] w' (Vc.Ret (.bool b7) w')) ∧
  ((b7 = true) → (
  ∃ (b8 : Bool), w.cell? ⟨p0.1, p0.2 + (Int.toNat 3) * 3 + 0, none⟩ = some (.bool b8) ∧
  ∃ (x8 : Int), w.cell? ⟨p0.1, p0.2 + (Int.toNat 3) * 3 + 1, none⟩ = some (.int .u64 x8) ∧
  ∃ (x9 : Int), w.cell? ⟨p0.1, p0.2 + (Int.toNat 3) * 3 + 2, none⟩ = some (.int .u64 x9) ∧
  ∃ (b9 : Bool), (∀ w' : World, Below w.heap.size w w' → Calls Tryz.prog 67 #[.agg #[.bool b8, .int .u64 x8, .int .u64 x9], .agg #[.bool b0, .int .u64 x0, .int .u64 x1]] w' (Vc.Ret (.bool b9) w')) ∧
  ((b9 = true) → (
  ∃ (b10 : Bool), (∀ w' : World, Below w.heap.size w w' → Calls Tryz.prog 67 #[.agg #[.bool b5, .int .u64 x6, .int .u64 x7], .agg #[.bool b8, .int .u64 x8, .int .u64 x9]] w' (Vc.Ret (.bool b10) w')) ∧
  ((b10 = true) → (
  (.tuple #[.agg #[.bool b8, .int .u64 x8, .int .u64 x9], .agg #[.bool b8, .int .u64 x8, .int .u64 x9]] : Value) = v)) ∧ (¬ (b10 = true) → (
  (.tuple #[.agg #[.bool b8, .int .u64 x8, .int .u64 x9], .agg #[.bool b5, .int .u64 x6, .int .u64 x7]] : Value) = v)))) ∧ (¬ (b9 = true) → (
  ∃ (b10 : Bool), (∀ w' : World, Below w.heap.size w w' → Calls Tryz.prog 67 #[.agg #[.bool b5, .int .u64 x6, .int .u64 x7], .agg #[.bool b8, .int .u64 x8, .int .u64 x9]] w' (Vc.Ret (.bool b10) w')) ∧
  ((b10 = true) → (
  (.tuple #[.agg #[.bool b0, .int .u64 x0, .int .u64 x1], .agg #[.bool b8, .int .u64 x8, .int .u64 x9]] : Value) = v)) ∧ (¬ (b10 = true) → (
  (.tuple #[.agg #[.bool b0, .int .u64 x0, .int .u64 x1], .agg #[.bool b5, .int .u64 x6, .int .u64 x7]] : Value) = v)))))) ∧ (¬ (b7 = true) → (
  ∃ (b8 : Bool), w.cell? ⟨p0.1, p0.2 + (Int.toNat 3) * 3 + 0, none⟩ = some (.bool b8) ∧
  ∃ (x8 : Int), w.cell? ⟨p0.1, p0.2 + (Int.toNat 3) * 3 + 1, none⟩ = some (.int .u64 x8) ∧
  ∃ (x9 : Int), w.cell? ⟨p0.1, p0.2 + (Int.toNat 3) * 3 + 2, none⟩ = some (.int .u64 x9) ∧
  ∃ (b9 : Bool), (∀ w' : World, Below w.heap.size w w' → Calls Tryz.prog 67 #[.agg #[.bool b8, .int .u64 x8, .int .u64 x9], .agg #[.bool b0, .int .u64 x0, .int .u64 x1]] w' (Vc.Ret (.bool b9) w')) ∧
  ((b9 = true) → (
  ∃ (b10 : Bool), (∀ w' : World, Below w.heap.size w w' → Calls Tryz.prog 67 #[.agg #[.bool b1, .int .u64 x2, .int .u64 x3], .agg #[.bool b8, .int .u64 x8, .int .u64 x9]] w' (Vc.Ret (.bool b10) w')) ∧
  ((b10 = true) → (
  (.tuple #[.agg #[.bool b8, .int .u64 x8, .int .u64 x9], .agg #[.bool b8, .int .u64 x8, .int .u64 x9]] : Value) = v)) ∧ (¬ (b10 = true) → (
  (.tuple #[.agg #[.bool b8, .int .u64 x8, .int .u64 x9], .agg #[.bool b1, .int .u64 x2, .int .u64 x3]] : Value) = v)))) ∧ (¬ (b9 = true) → (
  ∃ (b10 : Bool), (∀ w' : World, Below w.heap.size w w' → Calls Tryz.prog 67 #[.agg #[.bool b1, .int .u64 x2, .int .u64 x3], .agg #[.bool b8, .int .u64 x8, .int .u64 x9]] w' (Vc.Ret (.bool b10) w')) ∧
  ((b10 = true) → (
  (.tuple #[.agg #[.bool b0, .int .u64 x0, .int .u64 x1], .agg #[.bool b8, .int .u64 x8, .int .u64 x9]] : Value) = v)) ∧ (¬ (b10 = true) → (
  (.tuple #[.agg #[.bool b0, .int .u64 x0, .int .u64 x1], .agg #[.bool b1, .int .u64 x2, .int .u64 x3]] : Value) = v))))))))))))) : Calls Tryz.prog 36 #[.slice (some ⟨p0.1, p0.2, none⟩) 4 4] w (Vc.Ret v w) :=
  Vc.pure_of base [(1000000000003, .unroll)] 200 Tryz.func36 (b := (Tryz.f36.body).getD .skip) (by kernel_rfl) [.cv (.one (.xsl 0 (.lit (0)) 3 (.lit (4)) (.lit (4))))] ⟨0, 0, 0, 1, 0, 0, 0⟩ (Vc.envOf [] [] [] [p0]) (by kernel_rfl) (by kernel_rfl) (by kernel_rfl) h

theorem vc_span_hull_n (p0 : Nat × Nat) (x0 x1 : Int) (w : World) (v : Value) (h : 
  (0 < x0) ∧
  ∃ (b0 : Bool), w.cell? ⟨p0.1, p0.2 + (Int.toNat 0) * 3 + 0, none⟩ = some (.bool b0) ∧
  ∃ (x2 : Int), w.cell? ⟨p0.1, p0.2 + (Int.toNat 0) * 3 + 1, none⟩ = some (.int .u64 x2) ∧
  ∃ (x3 : Int), w.cell? ⟨p0.1, p0.2 + (Int.toNat 0) * 3 + 2, none⟩ = some (.int .u64 x3) ∧
  (0 < x0) ∧
  ∃ (b1 : Bool), w.cell? ⟨p0.1, p0.2 + (Int.toNat 0) * 3 + 0, none⟩ = some (.bool b1) ∧
  ∃ (x4 : Int), w.cell? ⟨p0.1, p0.2 + (Int.toNat 0) * 3 + 1, none⟩ = some (.int .u64 x4) ∧
  ∃ (x5 : Int), w.cell? ⟨p0.1, p0.2 + (Int.toNat 0) * 3 + 2, none⟩ = some (.int .u64 x5) ∧
  (0 ≤ x0) ∧
  (x0 ≤ x1) ∧
  (1 ≤ x0) ∧
  (x0 ≤ x1) ∧
  ∀ x6 : Int, x6 = x0 - 1 →
  ∀ x7 : Int, x7 = x1 - 1 →
  ((1 < x1) → (
  (0 ≤ x6) ∧
  ∃ (Ix8 : List Vc.Vl → Prop) (mx8 : List Vc.Vl → Nat), Ix8 [.i 0, .b b0, .i x2, .i x3, .b b1, .i x4, .i x5] ∧ ∀ (x8 : Int) (b2 : Bool) (x9 : Int) (x10 : Int) (b3 : Bool) (x11 : Int) (x12 : Int), Ix8 [.i x8, .b b2, .i x9, .i x10, .b b3, .i x11, .i x12] → (
  ((x8 < x6) → (
  (0 ≤ x8) ∧
  (x8 < x6) ∧
  ∀ x13 : Int, x13 = 1 + x8 →
  ∃ (b4 : Bool), w.cell? ⟨p0.1, p0.2 + (Int.toNat x13) * 3 + 0, none⟩ = some (.bool b4) ∧
  ∃ (x14 : Int), w.cell? ⟨p0.1, p0.2 + (Int.toNat x13) * 3 + 1, none⟩ = some (.int .u64 x14) ∧
  ∃ (x15 : Int), w.cell? ⟨p0.1, p0.2 + (Int.toNat x13) * 3 + 2, none⟩ = some (.int .u64 x15) ∧
  ∃ (b5 : Bool), (∀ w' : World, Below w.heap.size w w' → Calls Tryz.prog 67 #[.agg #[.bool b4, .int .u64 x14, .int .u64 x15], .agg #[.bool b2, .int .u64 x9, .int .u64 x10]] w' (Vc.Ret (.bool b5) w')) ∧
  ((b5 = true) → (
  ∃ (b6 : Bool), (∀ w' : World, Below w.heap.size w w' → Calls Tryz.prog 67 #[.agg #[.bool b3, .int .u64 x11, .int .u64 x12], .agg #[.bool b4, .int .u64 x14, .int .u64 x15]] w' (Vc.Ret (.bool b6) w')) ∧
  ((b6 = true) → (
  ∀ x16 : Int, x16 = IntKind.i64.wrap (x8 + 1) →
  Ix8 [.i x16, .b b4, .i x14, .i x15, .b b4, .i x14, .i x15] ∧ mx8 [.i x16, .b b4, .i x14, .i x15, .b b4, .i x14, .i x15] < mx8 [.i x8, .b b2, .i x9, .i x10, .b b3, .i x11, .i x12])) ∧ (¬ (b6 = true) → (
  ∀ x16 : Int, x16 = IntKind.i64.wrap (x8 + 1) →
  Ix8 [.i x16, .b b4, .i x14, .i x15, .b b3, .i x11, .i x12] ∧ mx8 [.i x16, .b b4, .i x14, .i x15, .b b3, .i x11, .i x12] < mx8 [.i x8, .b b2, .i x9, .i x10, .b b3, .i x11, .i x12])))) ∧ (¬ (b5 = true) → (
  ∃ (b6 : Bool), (∀ w' : World, Below w.heap.size w w' → Calls Tryz.prog 67 #[.agg #[.bool b3, .int .u64 x11, .int .u64 x12], .agg #[.bool b4, .int .u64 x14, .int .u64 x15]] w' (Vc.Ret (.bool b6) w')) ∧
  ((b6 = true) → (
  ∀ x16 : Int, x16 = IntKind.i64.wrap (x8 + 1) →
  Ix8 [.i x16, .b b2, .i x9, .i x10, .b b4, .i x14, .i x15] ∧ mx8 [.i x16, .b b2, .i x9, .i x10, .b b4, .i x14, .i x15] < mx8 [.i x8, .b b2, .i x9, .i x10, .b b3, .i x11, .i x12])) ∧ (¬ (b6 = true) → (
  ∀ x16 : Int, x16 = IntKind.i64.wrap (x8 + 1) →
  Ix8 [.i x16, .b b2, .i x9, .i x10, .b b3, .i x11, .i x12] ∧ mx8 [.i x16, .b b2, .i x9, .i x10, .b b3, .i x11, .i x12] < mx8 [.i x8, .b b2, .i x9, .i x10, .b b3, .i x11, .i x12])))))) ∧ (¬ (x8 < x6) → (
  (.tuple #[.agg #[.bool b2, .int .u64 x9, .int .u64 x10], .agg #[.bool b3, .int .u64 x11, .int .u64 x12]] : Value) = v))))) ∧ (¬ (1 < x1) → (
  (0 ≤ x6) ∧
  ∃ (Ix8 : List Vc.Vl → Prop) (mx8 : List Vc.Vl → Nat), Ix8 [.i 0, .b b0, .i x2, .i x3, .b b1, .i x4, .i x5] ∧ ∀ (x8 : Int) (b2 : Bool) (x9 : Int) (x10 : Int) (b3 : Bool) (x11 : Int) (x12 : Int), Ix8 [.i x8, .b b2, .i x9, .i x10, .b b3, .i x11, .i x12] → (
  ((x8 < x6) → (
  (0 ≤ x8) ∧
  (x8 < x6) ∧
  ∃ (b4 : Bool), w.cell? ⟨p0.1, p0.2 + (Int.toNat x8) * 3 + 0, none⟩ = some (.bool b4) ∧
  ∃ (x13 : Int), w.cell? ⟨p0.1, p0.2 + (Int.toNat x8) * 3 + 1, none⟩ = some (.int .u64 x13) ∧
  ∃ (x14 : Int), w.cell? ⟨p0.1, p0.2 + (Int.toNat x8) * 3 + 2, none⟩ = some (.int .u64 x14) ∧
  ∃ (b5 : Bool), (∀ w' : World, Below w.heap.size w w' → Calls Tryz.prog 67 #[.agg #[.bool b4, .int .u64 x13, .int .u64 x14], .agg #[.bool b2, .int .u64 x9, .int .u64 x10]] w' (Vc.Ret (.bool b5) w')) ∧
  ((b5 = true) → (
  ∃ (b6 : Bool), (∀ w' : World, Below w.heap.size w w' → Calls Tryz.prog 67 #[.agg #[.bool b3, .int .u64 x11, .int .u64 x12], .agg #[.bool b4, .int .u64 x13, .int .u64 x14]] w' (Vc.Ret (.bool b6) w')) ∧
  ((b6 = true) → (
  ∀ x15 : Int, x15 = IntKind.i64.wrap (x8 + 1) →
  Ix8 [.i x15, .b b4, .i x13, .i x14, .b b4, .i x13, .i x14] ∧ mx8 [.i x15, .b b4, .i x13, .i x14, .b b4, .i x13, .i x14] < mx8 [.i x8, .b b2, .i x9, .i x10, .b b3, .i x11, .i x12])) ∧ (¬ (b6 = true) → (
  ∀ x15 : Int, x15 = IntKind.i64.wrap (x8 + 1) →
  Ix8 [.i x15, .b b4, .i x13, .i x14, .b b3, .i x11, .i x12] ∧ mx8 [.i x15, .b b4, .i x13, .i x14, .b b3, .i x11, .i x12] < mx8 [.i x8, .b b2, .i x9, .i x10, .b b3, .i x11, .i x12])))) ∧ (¬ (b5 = true) → (
  ∃ (b6 : Bool), (∀ w' : World, Below w.heap.size w w' → Calls Tryz.prog 67 #[.agg #[.bool b3, .int .u64 x11, .int .u64 x12], .agg #[.bool b4, .int .u64 x13, .int .u64 x14]] w' (Vc.Ret (.bool b6) w')) ∧
  ((b6 = true) → (
  ∀ x15 : Int, x15 = IntKind.i64.wrap (x8 + 1) →
  Ix8 [.i x15, .b b2, .i x9, .i x10, .b b4, .i x13, .i x14] ∧ mx8 [.i x15, .b b2, .i x9, .i x10, .b b4, .i x13, .i x14] < mx8 [.i x8, .b b2, .i x9, .i x10, .b b3, .i x11, .i x12])) ∧ (¬ (b6 = true) → (
  ∀ x15 : Int, x15 = IntKind.i64.wrap (x8 + 1) →
  Ix8 [.i x15, .b b2, .i x9, .i x10, .b b3, .i x11, .i x12] ∧ mx8 [.i x15, .b b2, .i x9, .i x10, .b b3, .i x11, .i x12] < mx8 [.i x8, .b b2, .i x9, .i x10, .b b3, .i x11, .i x12])))))) ∧ (¬ (x8 < x6) → (
  (.tuple #[.agg #[.bool b2, .int .u64 x9, .int .u64 x10], .agg #[.bool b3, .int .u64 x11, .int .u64 x12]] : Value) = v)))))) : Calls Tryz.prog 36 #[.slice (some ⟨p0.1, p0.2, none⟩) (Int.toNat x0) (Int.toNat x1)] w (Vc.Ret v w) :=
  Vc.pure_of base [(1000000000003, .inv [(2, 0), (2, 1), (2, 2), (3, 0), (3, 1), (3, 2)] [15] [16, 17, 18, 5, 19, 20, 21, 22, 23, 24, 25, 26, 27])] 200 Tryz.func36 (b := (Tryz.f36.body).getD .skip) (by kernel_rfl) [.cv (.one (.xsl 0 (.lit (0)) 3 (.var 0) (.var 1)))] ⟨2, 0, 0, 1, 0, 0, 0⟩ (Vc.envOf [x0, x1] [] [] [p0]) (by kernel_rfl) (by kernel_rfl) (by kernel_rfl) h

theorem vc_span_Mul_1 (x0 x1 : Int) (w : World) (v : Value) (h : 
  ∃ (b0 : Bool), ∃ (x2 : Int), ∃ (x3 : Int), (∀ w' : World, Below w.heap.size w w' → Calls Tryz.prog 70 #[.int .i64 x0, .int .i64 x1] w' (Vc.Ret (.agg #[.bool b0, .int .u64 x2, .int .u64 x3]) w')) ∧
  (.agg #[.bool b0, .int .u64 x2, .int .u64 x3] : Value) = v) : Calls Tryz.prog 69 #[.int .i64 x0, .int .i64 x1] w (Vc.Ret v w) :=
  Vc.pure_of base [] 200 Tryz.func69 (b := (Tryz.f69.body).getD .skip) (by kernel_rfl) [.cv (.one (.int .i64 (.var 0))), .cv (.one (.int .i64 (.var 1)))] ⟨2, 0, 0, 0, 0, 0, 0⟩ (Vc.envOf [x0, x1] [] [] []) (by kernel_rfl) (by kernel_rfl) (by kernel_rfl) h

theorem vc_span_Mul (x0 x1 x2 x3 : Int) (w : World) (v : Value) (h : 
  ∃ (x4 : Int), (∀ (β : Nat → Nat) (w' : World), Below w.heap.size w w' → ((w.heap.size ≤ β 3 ∧ w'.heap[β 3]? = some (.cells #[.int .i64 x0, .int .i64 x1, .int .i64 x2, .int .i64 x3] 24)) ∧ True) → Calls Tryz.prog 34 #[.slice (some ⟨β 3, 0, none⟩) 2 2] w' (Vc.Ret (.int .i64 x4) w')) ∧
  ((x4 = 0) → (
  ∃ (b0 : Bool), ∃ (x5 : Int), ∃ (x6 : Int), (∀ w' : World, Below w.heap.size w w' → Calls Tryz.prog 69 #[.int .i64 x0, .int .i64 x2] w' (Vc.Ret (.agg #[.bool b0, .int .u64 x5, .int .u64 x6]) w')) ∧
  ∃ (b1 : Bool), ∃ (x7 : Int), ∃ (x8 : Int), (∀ w' : World, Below w.heap.size w w' → Calls Tryz.prog 69 #[.int .i64 x0, .int .i64 x3] w' (Vc.Ret (.agg #[.bool b1, .int .u64 x7, .int .u64 x8]) w')) ∧
  ∃ (b2 : Bool), ∃ (x9 : Int), ∃ (x10 : Int), (∀ w' : World, Below w.heap.size w w' → Calls Tryz.prog 69 #[.int .i64 x1, .int .i64 x2] w' (Vc.Ret (.agg #[.bool b2, .int .u64 x9, .int .u64 x10]) w')) ∧
  ∃ (b3 : Bool), ∃ (x11 : Int), ∃ (x12 : Int), (∀ w' : World, Below w.heap.size w w' → Calls Tryz.prog 69 #[.int .i64 x1, .int .i64 x3] w' (Vc.Ret (.agg #[.bool b3, .int .u64 x11, .int .u64 x12]) w')) ∧
  ∃ (b4 : Bool), ∃ (x13 : Int), ∃ (x14 : Int), ∃ (b5 : Bool), ∃ (x15 : Int), ∃ (x16 : Int), (∀ (β : Nat → Nat) (w' : World), Below w.heap.size w w' → ((w.heap.size ≤ β 4 ∧ w'.heap[β 4]? = some (.cells #[.bool b0, .int .u64 x5, .int .u64 x6, .bool b1, .int .u64 x7, .int .u64 x8, .bool b2, .int .u64 x9, .int .u64 x10, .bool b3, .int .u64 x11, .int .u64 x12] 48)) ∧ True) → Calls Tryz.prog 36 #[.slice (some ⟨β 4, 0, none⟩) 4 4] w' (Vc.Ret (.tuple #[.agg #[.bool b4, .int .u64 x13, .int .u64 x14], .agg #[.bool b5, .int .u64 x15, .int .u64 x16]]) w')) ∧
  ∃ (b6 : Bool), ∃ (x17 : Int), ∃ (x18 : Int), (∀ w' : World, Below w.heap.size w w' → Calls Tryz.prog 20 #[.int .i64 4294967296] w' (Vc.Ret (.agg #[.bool b6, .int .u64 x17, .int .u64 x18]) w')) ∧
  ∃ (b7 : Bool), ∃ (x19 : Int), ∃ (x20 : Int), ∃ (b8 : Bool), ∃ (x21 : Int), ∃ (x22 : Int), (∀ w' : World, Below w.heap.size w w' → Calls Tryz.prog 66 #[.agg #[.bool b4, .int .u64 x13, .int .u64 x14], .agg #[.bool b6, .int .u64 x17, .int .u64 x18]] w' (Vc.Ret (.tuple #[.agg #[.bool b7, .int .u64 x19, .int .u64 x20], .agg #[.bool b8, .int .u64 x21, .int .u64 x22]]) w')) ∧
  ∃ (b9 : Bool), ∃ (x23 : Int), ∃ (x24 : Int), ∃ (b10 : Bool), ∃ (x25 : Int), ∃ (x26 : Int), (∀ w' : World, Below w.heap.size w w' → Calls Tryz.prog 66 #[.agg #[.bool b5, .int .u64 x15, .int .u64 x16], .agg #[.bool b6, .int .u64 x17, .int .u64 x18]] w' (Vc.Ret (.tuple #[.agg #[.bool b9, .int .u64 x23, .int .u64 x24], .agg #[.bool b10, .int .u64 x25, .int .u64 x26]]) w')) ∧
  ∃ (x27 : Int), ∃ (x28 : Int), ∃ (x29 : Int), (∀ w' : World, Below w.heap.size w w' → Calls Tryz.prog 22 #[.agg #[.bool b7, .int .u64 x19, .int .u64 x20], .agg #[.bool b10, .int .u64 x25, .int .u64 x26]] w' (Vc.Ret (.tuple #[.agg #[.int .i64 x27, .int .i64 x28], .int .i64 x29]) w')) ∧
  (.tuple #[.agg #[.int .i64 x27, .int .i64 x28], .int .i64 x29] : Value) = v)) ∧ (¬ (x4 = 0) → (
  (.tuple #[.agg #[.int .i64 0, .int .i64 0], .int .i64 x4] : Value) = v))) : Calls Tryz.prog 38 #[.agg #[.int .i64 x0, .int .i64 x1], .agg #[.int .i64 x2, .int .i64 x3]] w (Vc.Ret v w) :=
  Vc.pure_of base [] 200 Tryz.func38 (b := (Tryz.f38.body).getD .skip) (by kernel_rfl) [.cv (.agg [.int .i64 (.var 0), .int .i64 (.var 1)]), .cv (.agg [.int .i64 (.var 2), .int .i64 (.var 3)])] ⟨4, 0, 0, 0, 0, 0, 0⟩ (Vc.envOf [x0, x1, x2, x3] [] [] []) (by kernel_rfl) (by kernel_rfl) (by kernel_rfl) h

theorem vc_span_Div (x0 x1 x2 x3 : Int) (w : World) (v : Value) (h : 
  ∃ (x4 : Int), (∀ (β : Nat → Nat) (w' : World), Below w.heap.size w w' → ((w.heap.size ≤ β 3 ∧ w'.heap[β 3]? = some (.cells #[.int .i64 x0, .int .i64 x1, .int .i64 x2, .int .i64 x3] 24)) ∧ True) → Calls Tryz.prog 34 #[.slice (some ⟨β 3, 0, none⟩) 2 2] w' (Vc.Ret (.int .i64 x4) w')) ∧
  ((x4 = 0) → (
  ((x2 ≤ 0) → (
  ((0 ≤ x3) → (
  (.tuple #[.agg #[.int .i64 0, .int .i64 0], .int .i64 10] : Value) = v)) ∧ (¬ (0 ≤ x3) → (
  ∃ (b0 : Bool), ∃ (x5 : Int), ∃ (x6 : Int), ∃ (b1 : Bool), ∃ (x7 : Int), ∃ (x8 : Int), (∀ w' : World, Below w.heap.size w w' → Calls Tryz.prog 35 #[.int .i64 x0, .int .i64 x2] w' (Vc.Ret (.tuple #[.agg #[.bool b0, .int .u64 x5, .int .u64 x6], .agg #[.bool b1, .int .u64 x7, .int .u64 x8]]) w')) ∧
  ∃ (b2 : Bool), ∃ (x9 : Int), ∃ (x10 : Int), ∃ (b3 : Bool), ∃ (x11 : Int), ∃ (x12 : Int), (∀ w' : World, Below w.heap.size w w' → Calls Tryz.prog 35 #[.int .i64 x0, .int .i64 x3] w' (Vc.Ret (.tuple #[.agg #[.bool b2, .int .u64 x9, .int .u64 x10], .agg #[.bool b3, .int .u64 x11, .int .u64 x12]]) w')) ∧
  ∃ (b4 : Bool), ∃ (x13 : Int), ∃ (x14 : Int), ∃ (b5 : Bool), ∃ (x15 : Int), ∃ (x16 : Int), (∀ w' : World, Below w.heap.size w w' → Calls Tryz.prog 35 #[.int .i64 x1, .int .i64 x2] w' (Vc.Ret (.tuple #[.agg #[.bool b4, .int .u64 x13, .int .u64 x14], .agg #[.bool b5, .int .u64 x15, .int .u64 x16]]) w')) ∧
  ∃ (b6 : Bool), ∃ (x17 : Int), ∃ (x18 : Int), ∃ (b7 : Bool), ∃ (x19 : Int), ∃ (x20 : Int), (∀ w' : World, Below w.heap.size w w' → Calls Tryz.prog 35 #[.int .i64 x1, .int .i64 x3] w' (Vc.Ret (.tuple #[.agg #[.bool b6, .int .u64 x17, .int .u64 x18], .agg #[.bool b7, .int .u64 x19, .int .u64 x20]]) w')) ∧
  ∃ (b8 : Bool), ∃ (x21 : Int), ∃ (x22 : Int), ∃ (b9 : Bool), ∃ (x23 : Int), ∃ (x24 : Int), (∀ (β : Nat → Nat) (w' : World), Below w.heap.size w w' → (Vc.RowOk w.heap.size (β 46) (β 47) (β 48) (β 49) (([.bool b0, .int .u64 x5, .int .u64 x6, .bool b2, .int .u64 x9, .int .u64 x10, .bool b4, .int .u64 x13, .int .u64 x14, .bool b6, .int .u64 x17, .int .u64 x18] : List Value)) 3 48 w' ∧ True) → Calls Tryz.prog 36 #[Vc.ownV (β 46) (β 47) (β 48) (β 49)] w' (Vc.Ret (.tuple #[.agg #[.bool b8, .int .u64 x21, .int .u64 x22], .agg #[.bool b9, .int .u64 x23, .int .u64 x24]]) w')) ∧
  ∃ (b10 : Bool), ∃ (x25 : Int), ∃ (x26 : Int), ∃ (b11 : Bool), ∃ (x27 : Int), ∃ (x28 : Int), (∀ (β : Nat → Nat) (w' : World), Below w.heap.size w w' → (Vc.RowOk w.heap.size (β 51) (β 52) (β 53) (β 54) (([.bool b1, .int .u64 x7, .int .u64 x8, .bool b3, .int .u64 x11, .int .u64 x12, .bool b5, .int .u64 x15, .int .u64 x16, .bool b7, .int .u64 x19, .int .u64 x20] : List Value)) 3 48 w' ∧ True) → Calls Tryz.prog 36 #[Vc.ownV (β 51) (β 52) (β 53) (β 54)] w' (Vc.Ret (.tuple #[.agg #[.bool b10, .int .u64 x25, .int .u64 x26], .agg #[.bool b11, .int .u64 x27, .int .u64 x28]]) w')) ∧
  ∃ (x29 : Int), ∃ (x30 : Int), ∃ (x31 : Int), (∀ w' : World, Below w.heap.size w w' → Calls Tryz.prog 22 #[.agg #[.bool b8, .int .u64 x21, .int .u64 x22], .agg #[.bool b11, .int .u64 x27, .int .u64 x28]] w' (Vc.Ret (.tuple #[.agg #[.int .i64 x29, .int .i64 x30], .int .i64 x31]) w')) ∧
  (.tuple #[.agg #[.int .i64 x29, .int .i64 x30], .int .i64 x31] : Value) = v)))) ∧ (¬ (x2 ≤ 0) → (
  ∃ (b0 : Bool), ∃ (x5 : Int), ∃ (x6 : Int), ∃ (b1 : Bool), ∃ (x7 : Int), ∃ (x8 : Int), (∀ w' : World, Below w.heap.size w w' → Calls Tryz.prog 35 #[.int .i64 x0, .int .i64 x2] w' (Vc.Ret (.tuple #[.agg #[.bool b0, .int .u64 x5, .int .u64 x6], .agg #[.bool b1, .int .u64 x7, .int .u64 x8]]) w')) ∧
  ∃ (b2 : Bool), ∃ (x9 : Int), ∃ (x10 : Int), ∃ (b3 : Bool), ∃ (x11 : Int), ∃ (x12 : Int), (∀ w' : World, Below w.heap.size w w' → Calls Tryz.prog 35 #[.int .i64 x0, .int .i64 x3] w' (Vc.Ret (.tuple #[.agg #[.bool b2, .int .u64 x9, .int .u64 x10], .agg #[.bool b3, .int .u64 x11, .int .u64 x12]]) w')) ∧
  ∃ (b4 : Bool), ∃ (x13 : Int), ∃ (x14 : Int), ∃ (b5 : Bool), ∃ (x15 : Int), ∃ (x16 : Int), (∀ w' : World, Below w.heap.size w w' → Calls Tryz.prog 35 #[.int .i64 x1, .int .i64 x2] w' (Vc.Ret (.tuple #[.agg #[.bool b4, .int .u64 x13, .int .u64 x14], .agg #[.bool b5, .int .u64 x15, .int .u64 x16]]) w')) ∧
  ∃ (b6 : Bool), ∃ (x17 : Int), ∃ (x18 : Int), ∃ (b7 : Bool), ∃ (x19 : Int), ∃ (x20 : Int), (∀ w' : World, Below w.heap.size w w' → Calls Tryz.prog 35 #[.int .i64 x1, .int .i64 x3] w' (Vc.Ret (.tuple #[.agg #[.bool b6, .int .u64 x17, .int .u64 x18], .agg #[.bool b7, .int .u64 x19, .int .u64 x20]]) w')) ∧
  ∃ (b8 : Bool), ∃ (x21 : Int), ∃ (x22 : Int), ∃ (b9 : Bool), ∃ (x23 : Int), ∃ (x24 : Int), (∀ (β : Nat → Nat) (w' : World), Below w.heap.size w w' → (Vc.RowOk w.heap.size (β 46) (β 47) (β 48) (β 49) (([.bool b0, .int .u64 x5, .int .u64 x6, .bool b2, .int .u64 x9, .int .u64 x10, .bool b4, .int .u64 x13, .int .u64 x14, .bool b6, .int .u64 x17, .int .u64 x18] : List Value)) 3 48 w' ∧ True) → Calls Tryz.prog 36 #[Vc.ownV (β 46) (β 47) (β 48) (β 49)] w' (Vc.Ret (.tuple #[.agg #[.bool b8, .int .u64 x21, .int .u64 x22], .agg #[.bool b9, .int .u64 x23, .int .u64 x24]]) w')) ∧
  ∃ (b10 : Bool), ∃ (x25 : Int), ∃ (x26 : Int), ∃ (b11 : Bool), ∃ (x27 : Int), ∃ (x28 : Int), (∀ (β : Nat → Nat) (w' : World), Below w.heap.size w w' → (Vc.RowOk w.heap.size (β 51) (β 52) (β 53) (β 54) (([.bool b1, .int .u64 x7, .int .u64 x8, .bool b3, .int .u64 x11, .int .u64 x12, .bool b5, .int .u64 x15, .int .u64 x16, .bool b7, .int .u64 x19, .int .u64 x20] : List Value)) 3 48 w' ∧ True) → Calls Tryz.prog 36 #[Vc.ownV (β 51) (β 52) (β 53) (β 54)] w' (Vc.Ret (.tuple #[.agg #[.bool b10, .int .u64 x25, .int .u64 x26], .agg #[.bool b11, .int .u64 x27, .int .u64 x28]]) w')) ∧
  ∃ (x29 : Int), ∃ (x30 : Int), ∃ (x31 : Int), (∀ w' : World, Below w.heap.size w w' → Calls Tryz.prog 22 #[.agg #[.bool b8, .int .u64 x21, .int .u64 x22], .agg #[.bool b11, .int .u64 x27, .int .u64 x28]] w' (Vc.Ret (.tuple #[.agg #[.int .i64 x29, .int .i64 x30], .int .i64 x31]) w')) ∧
  (.tuple #[.agg #[.int .i64 x29, .int .i64 x30], .int .i64 x31] : Value) = v)))) ∧ (¬ (x4 = 0) → (
  (.tuple #[.agg #[.int .i64 0, .int .i64 0], .int .i64 x4] : Value) = v))) : Calls Tryz.prog 8 #[.agg #[.int .i64 x0, .int .i64 x1], .agg #[.int .i64 x2, .int .i64 x3]] w (Vc.Ret v w) :=
  Vc.pure_of base [(1000000000008, .unroll), (1000000000011, .unroll)] 200 Tryz.func8 (b := (Tryz.f8.body).getD .skip) (by kernel_rfl) [.cv (.agg [.int .i64 (.var 0), .int .i64 (.var 1)]), .cv (.agg [.int .i64 (.var 2), .int .i64 (.var 3)])] ⟨4, 0, 0, 0, 0, 0, 0⟩ (Vc.envOf [x0, x1, x2, x3] [] [] []) (by kernel_rfl) (by kernel_rfl) (by kernel_rfl) h

theorem vc_span_Abs (x0 x1 : Int) (w : World) (v : Value) (h : 
  ∃ (x2 : Int), (∀ w' : World, Below w.heap.size w w' → Calls Tryz.prog 39 #[.agg #[.int .i64 x0, .int .i64 x1]] w' (Vc.Ret (.int .i64 x2) w')) ∧
  ((x2 = 0) → (
  ((0 ≤ x0) → (
  (.tuple #[.agg #[.int .i64 x0, .int .i64 x1], .int .i64 0] : Value) = v)) ∧ (¬ (0 ≤ x0) → (
  ((x1 ≤ 0) → (
  ∃ (x3 : Int), ∃ (x4 : Int), ∃ (x5 : Int), (∀ w' : World, Below w.heap.size w w' → Calls Tryz.prog 68 #[.agg #[.int .i64 x0, .int .i64 x1]] w' (Vc.Ret (.tuple #[.agg #[.int .i64 x3, .int .i64 x4], .int .i64 x5]) w')) ∧
  (.tuple #[.agg #[.int .i64 x3, .int .i64 x4], .int .i64 x5] : Value) = v)) ∧ (¬ (x1 ≤ 0) → (
  ∀ x3 : Int, x3 = IntKind.i64.wrap (0 - x0) →
  ∀ x4 : Int, x4 = (if x1 > x3 then x1 else x3) →
  (.tuple #[.agg #[.int .i64 0, .int .i64 x4], .int .i64 0] : Value) = v)))))) ∧ (¬ (x2 = 0) → (
  (.tuple #[.agg #[.int .i64 0, .int .i64 0], .int .i64 2] : Value) = v))) : Calls Tryz.prog 37 #[.agg #[.int .i64 x0, .int .i64 x1]] w (Vc.Ret v w) :=
  Vc.pure_of base [] 200 Tryz.func37 (b := (Tryz.f37.body).getD .skip) (by kernel_rfl) [.cv (.agg [.int .i64 (.var 0), .int .i64 (.var 1)])] ⟨2, 0, 0, 0, 0, 0, 0⟩ (Vc.envOf [x0, x1] [] [] []) (by kernel_rfl) (by kernel_rfl) (by kernel_rfl) h

theorem vc_span_Square (x0 x1 : Int) (w : World) (v : Value) (h : 
  ∃ (x2 : Int), ∃ (x3 : Int), ∃ (x4 : Int), (∀ w' : World, Below w.heap.size w w' → Calls Tryz.prog 37 #[.agg #[.int .i64 x0, .int .i64 x1]] w' (Vc.Ret (.tuple #[.agg #[.int .i64 x2, .int .i64 x3], .int .i64 x4]) w')) ∧
  ((x4 = 0) → (
  ∃ (x5 : Int), ∃ (x6 : Int), ∃ (x7 : Int), (∀ w' : World, Below w.heap.size w w' → Calls Tryz.prog 38 #[.agg #[.int .i64 x2, .int .i64 x3], .agg #[.int .i64 x2, .int .i64 x3]] w' (Vc.Ret (.tuple #[.agg #[.int .i64 x5, .int .i64 x6], .int .i64 x7]) w')) ∧
  (.tuple #[.agg #[.int .i64 x5, .int .i64 x6], .int .i64 x7] : Value) = v)) ∧ (¬ (x4 = 0) → (
  (.tuple #[.agg #[.int .i64 0, .int .i64 0], .int .i64 x4] : Value) = v))) : Calls Tryz.prog 9 #[.agg #[.int .i64 x0, .int .i64 x1]] w (Vc.Ret v w) :=
  Vc.pure_of base [] 200 Tryz.func9 (b := (Tryz.f9.body).getD .skip) (by kernel_rfl) [.cv (.agg [.int .i64 (.var 0), .int .i64 (.var 1)])] ⟨2, 0, 0, 0, 0, 0, 0⟩ (Vc.envOf [x0, x1] [] [] []) (by kernel_rfl) (by kernel_rfl) (by kernel_rfl) h

theorem vc_span_root (x0 : Int) (w : World) (v : Value) (h : 
  ∃ (b0 : Bool), ∃ (x1 : Int), ∃ (x2 : Int), (∀ w' : World, Below w.heap.size w w' → Calls Tryz.prog 20 #[.int .i64 x0] w' (Vc.Ret (.agg #[.bool b0, .int .u64 x1, .int .u64 x2]) w')) ∧
  ∃ (b1 : Bool), ∃ (x3 : Int), ∃ (x4 : Int), (∀ w' : World, Below w.heap.size w w' → Calls Tryz.prog 21 #[.agg #[.bool b0, .int .u64 x1, .int .u64 x2], .int .u64 32] w' (Vc.Ret (.agg #[.bool b1, .int .u64 x3, .int .u64 x4]) w')) ∧
  ∃ (Ix5 : List Vc.Vl → Prop) (mx5 : List Vc.Vl → Nat), Ix5 [.i 0, .i 281474976710656] ∧ ∀ (x5 : Int) (x6 : Int), Ix5 [.i x5, .i x6] → (
  ((0 < x6) → (
  ∀ x7 : Int, x7 = bits .or .u64 x5 x6 →
  ∀ x8 : Int, x8 = bits .or .u64 x5 x6 →
  ∃ (x9 : Int), ∃ (x10 : Int), (∀ w' : World, Below w.heap.size w w' → Calls Tryz.prog 71 #[.int .u64 x7, .int .u64 x8] w' (Vc.Ret (.tuple #[.int .u64 x9, .int .u64 x10]) w')) ∧
  ((x9 < x3) → (
  ∀ x11 : Int, x11 = bits .or .u64 x5 x6 →
  ∀ x12 : Int, x12 = x6 / 2 →
  Ix5 [.i x11, .i x12] ∧ mx5 [.i x11, .i x12] < mx5 [.i x5, .i x6])) ∧ (¬ (x9 < x3) → (
  ((x9 = x3) → (
  ((x10 ≤ x4) → (
  ∀ x11 : Int, x11 = bits .or .u64 x5 x6 →
  ∀ x12 : Int, x12 = x6 / 2 →
  Ix5 [.i x11, .i x12] ∧ mx5 [.i x11, .i x12] < mx5 [.i x5, .i x6])) ∧ (¬ (x10 ≤ x4) → (
  ∀ x11 : Int, x11 = x6 / 2 →
  Ix5 [.i x5, .i x11] ∧ mx5 [.i x5, .i x11] < mx5 [.i x5, .i x6])))) ∧ (¬ (x9 = x3) → (
  ∀ x11 : Int, x11 = x6 / 2 →
  Ix5 [.i x5, .i x11] ∧ mx5 [.i x5, .i x11] < mx5 [.i x5, .i x6])))))) ∧ (¬ (0 < x6) → (
  ∃ (x7 : Int), ∃ (x8 : Int), (∀ w' : World, Below w.heap.size w w' → Calls Tryz.prog 71 #[.int .u64 x5, .int .u64 x5] w' (Vc.Ret (.tuple #[.int .u64 x7, .int .u64 x8]) w')) ∧
  ((x7 = x3) → (
  (.tuple #[.int .u64 x5, .bool (x8 == x4)] : Value) = v)) ∧ (¬ (x7 = x3) → (
  (.tuple #[.int .u64 x5, .bool false] : Value) = v)))))) : Calls Tryz.prog 40 #[.int .i64 x0] w (Vc.Ret v w) :=
  Vc.pure_of base [(2000000000003, .inv [] [2, 5] [13, 14, 18, 19, 20, 21, 22, 23, 24, 17, 25, 26, 6, 7, 27, 28, 29, 30, 31, 32, 33, 34, 35, 36, 37, 38, 39, 40, 41, 42, 43, 44, 45, 15, 16])] 200 Tryz.func40 (b := (Tryz.f40.body).getD .skip) (by kernel_rfl) [.cv (.one (.int .i64 (.var 0)))] ⟨1, 0, 0, 0, 0, 0, 0⟩ (Vc.envOf [x0] [] [] []) (by kernel_rfl) (by kernel_rfl) (by kernel_rfl) h

theorem vc_span_Root (x0 x1 : Int) (w : World) (v : Value) (h : 
  ∃ (x2 : Int), (∀ w' : World, Below w.heap.size w w' → Calls Tryz.prog 39 #[.agg #[.int .i64 x0, .int .i64 x1]] w' (Vc.Ret (.int .i64 x2) w')) ∧
  ((x2 = 0) → (
  ((x1 < 0) → (
  (.tuple #[.agg #[.int .i64 0, .int .i64 0], .int .i64 4] : Value) = v)) ∧ (¬ (x1 < 0) → (
  ∀ x3 : Int, x3 = (if 0 > x0 then 0 else x0) →
  ∃ (x4 : Int), ∃ (b0 : Bool), (∀ w' : World, Below w.heap.size w w' → Calls Tryz.prog 40 #[.int .i64 x3] w' (Vc.Ret (.tuple #[.int .u64 x4, .bool b0]) w')) ∧
  ∃ (x5 : Int), ∃ (b1 : Bool), (∀ w' : World, Below w.heap.size w w' → Calls Tryz.prog 40 #[.int .i64 x1] w' (Vc.Ret (.tuple #[.int .u64 x5, .bool b1]) w')) ∧
  ((b1 = true) → (
  ∀ x6 : Int, x6 = IntKind.i64.wrap (x4) →
  ∀ x7 : Int, x7 = IntKind.i64.wrap (x5) →
  (.tuple #[.agg #[.int .i64 x6, .int .i64 x7], .int .i64 0] : Value) = v)) ∧ (¬ (b1 = true) → (
  ∀ x6 : Int, x6 = IntKind.u64.wrap (x5 + 1) →
  ∀ x7 : Int, x7 = IntKind.i64.wrap (x4) →
  ∀ x8 : Int, x8 = IntKind.i64.wrap (x6) →
  (.tuple #[.agg #[.int .i64 x7, .int .i64 x8], .int .i64 0] : Value) = v)))))) ∧ (¬ (x2 = 0) → (
  (.tuple #[.agg #[.int .i64 0, .int .i64 0], .int .i64 x2] : Value) = v))) : Calls Tryz.prog 10 #[.agg #[.int .i64 x0, .int .i64 x1]] w (Vc.Ret v w) :=
  Vc.pure_of base [] 200 Tryz.func10 (b := (Tryz.f10.body).getD .skip) (by kernel_rfl) [.cv (.agg [.int .i64 (.var 0), .int .i64 (.var 1)])] ⟨2, 0, 0, 0, 0, 0, 0⟩ (Vc.envOf [x0, x1] [] [] []) (by kernel_rfl) (by kernel_rfl) (by kernel_rfl) h

theorem vc_span_Meet (x0 x1 x2 x3 : Int) (w : World) (v : Value) (h : 
  ∃ (x4 : Int), (∀ (β : Nat → Nat) (w' : World), Below w.heap.size w w' → ((w.heap.size ≤ β 3 ∧ w'.heap[β 3]? = some (.cells #[.int .i64 x0, .int .i64 x1, .int .i64 x2, .int .i64 x3] 24)) ∧ True) → Calls Tryz.prog 34 #[.slice (some ⟨β 3, 0, none⟩) 2 2] w' (Vc.Ret (.int .i64 x4) w')) ∧
  ((x4 = 0) → (
  ∀ x5 : Int, x5 = (if x2 > x0 then x2 else x0) →
  ∀ x6 : Int, x6 = (if x3 < x1 then x3 else x1) →
  ((x6 < x5) → (
  (.tuple #[.agg #[.int .i64 0, .int .i64 0], .int .i64 7] : Value) = v)) ∧ (¬ (x6 < x5) → (
  (.tuple #[.agg #[.int .i64 x5, .int .i64 x6], .int .i64 0] : Value) = v)))) ∧ (¬ (x4 = 0) → (
  (.tuple #[.agg #[.int .i64 0, .int .i64 0], .int .i64 x4] : Value) = v))) : Calls Tryz.prog 18 #[.agg #[.int .i64 x0, .int .i64 x1], .agg #[.int .i64 x2, .int .i64 x3]] w (Vc.Ret v w) :=
  Vc.pure_of base [] 200 Tryz.func18 (b := (Tryz.f18.body).getD .skip) (by kernel_rfl) [.cv (.agg [.int .i64 (.var 0), .int .i64 (.var 1)]), .cv (.agg [.int .i64 (.var 2), .int .i64 (.var 3)])] ⟨4, 0, 0, 0, 0, 0, 0⟩ (Vc.envOf [x0, x1, x2, x3] [] [] []) (by kernel_rfl) (by kernel_rfl) (by kernel_rfl) h

theorem vc_span_Mid (x0 x1 : Int) (w : World) (v : Value) (h : 
  ∃ (x2 : Int), (∀ w' : World, Below w.heap.size w w' → Calls Tryz.prog 39 #[.agg #[.int .i64 x0, .int .i64 x1]] w' (Vc.Ret (.int .i64 x2) w')) ∧
  ((x2 = 0) → (
  ∀ x3 : Int, x3 = x0 / 2 →
  ∀ x4 : Int, x4 = x1 / 2 →
  ∀ x5 : Int, x5 = IntKind.i64.wrap (x3 + x4) →
  ∀ x6 : Int, x6 = bits .and .i64 x0 x1 →
  ∀ x7 : Int, x7 = bits .and .i64 x6 1 →
  ∀ x8 : Int, x8 = IntKind.i64.wrap (x5 + x7) →
  (.tuple #[.int .i64 x8, .int .i64 0] : Value) = v)) ∧ (¬ (x2 = 0) → (
  (.tuple #[.int .i64 0, .int .i64 x2] : Value) = v))) : Calls Tryz.prog 11 #[.agg #[.int .i64 x0, .int .i64 x1]] w (Vc.Ret v w) :=
  Vc.pure_of base [] 200 Tryz.func11 (b := (Tryz.f11.body).getD .skip) (by kernel_rfl) [.cv (.agg [.int .i64 (.var 0), .int .i64 (.var 1)])] ⟨2, 0, 0, 0, 0, 0, 0⟩ (Vc.envOf [x0, x1] [] [] []) (by kernel_rfl) (by kernel_rfl) (by kernel_rfl) h

theorem vc_span_turned (x0 : Int) (w : World) (v : Value) (h : 
  ∃ (b0 : Bool), ∃ (x1 : Int), ∃ (x2 : Int), (∀ w' : World, Below w.heap.size w w' → Calls Tryz.prog 70 #[.int .i64 x0, .int .i64 x0] w' (Vc.Ret (.agg #[.bool b0, .int .u64 x1, .int .u64 x2]) w')) ∧
  ∃ (b1 : Bool), ∃ (x3 : Int), ∃ (x4 : Int), (∀ w' : World, Below w.heap.size w w' → Calls Tryz.prog 27 #[.agg #[.bool false, .int .u64 1, .int .u64 0], .agg #[.bool b0, .int .u64 x1, .int .u64 x2]] w' (Vc.Ret (.agg #[.bool b1, .int .u64 x3, .int .u64 x4]) w')) ∧
  ∃ (b2 : Bool), ∃ (x5 : Int), ∃ (x6 : Int), (∀ w' : World, Below w.heap.size w w' → Calls Tryz.prog 27 #[.agg #[.bool false, .int .u64 1, .int .u64 0], .agg #[.bool true, .int .u64 x1, .int .u64 x2]] w' (Vc.Ret (.agg #[.bool b2, .int .u64 x5, .int .u64 x6]) w')) ∧
  ∃ (b3 : Bool), ∃ (x7 : Int), ∃ (x8 : Int), (∀ w' : World, Below w.heap.size w w' → Calls Tryz.prog 21 #[.agg #[.bool b2, .int .u64 x5, .int .u64 x6], .int .u64 32] w' (Vc.Ret (.agg #[.bool b3, .int .u64 x7, .int .u64 x8]) w')) ∧
  ∃ (b4 : Bool), ∃ (x9 : Int), ∃ (x10 : Int), ∃ (b5 : Bool), ∃ (x11 : Int), ∃ (x12 : Int), (∀ w' : World, Below w.heap.size w w' → Calls Tryz.prog 66 #[.agg #[.bool b3, .int .u64 x7, .int .u64 x8], .agg #[.bool b1, .int .u64 x3, .int .u64 x4]] w' (Vc.Ret (.tuple #[.agg #[.bool b4, .int .u64 x9, .int .u64 x10], .agg #[.bool b5, .int .u64 x11, .int .u64 x12]]) w')) ∧
  ∃ (b6 : Bool), ∃ (x13 : Int), ∃ (x14 : Int), (∀ w' : World, Below w.heap.size w w' → Calls Tryz.prog 20 #[.int .i64 x0] w' (Vc.Ret (.agg #[.bool b6, .int .u64 x13, .int .u64 x14]) w')) ∧
  ∃ (b7 : Bool), ∃ (x15 : Int), ∃ (x16 : Int), (∀ w' : World, Below w.heap.size w w' → Calls Tryz.prog 21 #[.agg #[.bool b6, .int .u64 x13, .int .u64 x14], .int .u64 65] w' (Vc.Ret (.agg #[.bool b7, .int .u64 x15, .int .u64 x16]) w')) ∧
  ∃ (b8 : Bool), ∃ (x17 : Int), ∃ (x18 : Int), ∃ (b9 : Bool), ∃ (x19 : Int), ∃ (x20 : Int), (∀ w' : World, Below w.heap.size w w' → Calls Tryz.prog 66 #[.agg #[.bool b7, .int .u64 x15, .int .u64 x16], .agg #[.bool b1, .int .u64 x3, .int .u64 x4]] w' (Vc.Ret (.tuple #[.agg #[.bool b8, .int .u64 x17, .int .u64 x18], .agg #[.bool b9, .int .u64 x19, .int .u64 x20]]) w')) ∧
  (.tuple #[.agg #[.bool b4, .int .u64 x9, .int .u64 x10], .agg #[.bool b5, .int .u64 x11, .int .u64 x12], .agg #[.bool b8, .int .u64 x17, .int .u64 x18], .agg #[.bool b9, .int .u64 x19, .int .u64 x20]] : Value) = v) : Calls Tryz.prog 48 #[.int .i64 x0] w (Vc.Ret v w) :=
  Vc.pure_of base [] 200 Tryz.func48 (b := (Tryz.f48.body).getD .skip) (by kernel_rfl) [.cv (.one (.int .i64 (.var 0)))] ⟨1, 0, 0, 0, 0, 0, 0⟩ (Vc.envOf [x0] [] [] []) (by kernel_rfl) (by kernel_rfl) (by kernel_rfl) h

theorem vc_span_Turn (x0 x1 : Int) (w : World) (v : Value) (h : 
  ∃ (x2 : Int), (∀ w' : World, Below w.heap.size w w' → Calls Tryz.prog 39 #[.agg #[.int .i64 x0, .int .i64 x1]] w' (Vc.Ret (.int .i64 x2) w')) ∧
  ((x2 = 0) → (
  ∃ (b0 : Bool), (∀ w' : World, Below w.heap.size w w' → Calls Tryz.prog 47 #[.agg #[.int .i64 x0, .int .i64 x1], .agg #[.int .i64 (-4294967296), .int .i64 4294967296]] w' (Vc.Ret (.bool b0) w')) ∧
  ((b0 = true) → (
  ∃ (x3 : Int), ∃ (x4 : Int), ∃ (x5 : Int), (∀ w' : World, Below w.heap.size w w' → Calls Tryz.prog 37 #[.agg #[.int .i64 x0, .int .i64 x1]] w' (Vc.Ret (.tuple #[.agg #[.int .i64 x3, .int .i64 x4], .int .i64 x5]) w')) ∧
  ∃ (b1 : Bool), ∃ (x6 : Int), ∃ (x7 : Int), ∃ (b2 : Bool), ∃ (x8 : Int), ∃ (x9 : Int), ∃ (b3 : Bool), ∃ (x10 : Int), ∃ (x11 : Int), ∃ (b4 : Bool), ∃ (x12 : Int), ∃ (x13 : Int), (∀ w' : World, Below w.heap.size w w' → Calls Tryz.prog 48 #[.int .i64 x3] w' (Vc.Ret (.tuple #[.agg #[.bool b1, .int .u64 x6, .int .u64 x7], .agg #[.bool b2, .int .u64 x8, .int .u64 x9], .agg #[.bool b3, .int .u64 x10, .int .u64 x11], .agg #[.bool b4, .int .u64 x12, .int .u64 x13]]) w')) ∧
  ∃ (b5 : Bool), ∃ (x14 : Int), ∃ (x15 : Int), ∃ (b6 : Bool), ∃ (x16 : Int), ∃ (x17 : Int), ∃ (b7 : Bool), ∃ (x18 : Int), ∃ (x19 : Int), ∃ (b8 : Bool), ∃ (x20 : Int), ∃ (x21 : Int), (∀ w' : World, Below w.heap.size w w' → Calls Tryz.prog 48 #[.int .i64 x4] w' (Vc.Ret (.tuple #[.agg #[.bool b5, .int .u64 x14, .int .u64 x15], .agg #[.bool b6, .int .u64 x16, .int .u64 x17], .agg #[.bool b7, .int .u64 x18, .int .u64 x19], .agg #[.bool b8, .int .u64 x20, .int .u64 x21]]) w')) ∧
  ∃ (b9 : Bool), ∃ (x22 : Int), ∃ (x23 : Int), ∃ (b10 : Bool), ∃ (x24 : Int), ∃ (x25 : Int), ∃ (b11 : Bool), ∃ (x26 : Int), ∃ (x27 : Int), ∃ (b12 : Bool), ∃ (x28 : Int), ∃ (x29 : Int), (∀ w' : World, Below w.heap.size w w' → Calls Tryz.prog 48 #[.int .i64 x0] w' (Vc.Ret (.tuple #[.agg #[.bool b9, .int .u64 x22, .int .u64 x23], .agg #[.bool b10, .int .u64 x24, .int .u64 x25], .agg #[.bool b11, .int .u64 x26, .int .u64 x27], .agg #[.bool b12, .int .u64 x28, .int .u64 x29]]) w')) ∧
  ∃ (b13 : Bool), ∃ (x30 : Int), ∃ (x31 : Int), ∃ (b14 : Bool), ∃ (x32 : Int), ∃ (x33 : Int), ∃ (b15 : Bool), ∃ (x34 : Int), ∃ (x35 : Int), ∃ (b16 : Bool), ∃ (x36 : Int), ∃ (x37 : Int), (∀ w' : World, Below w.heap.size w w' → Calls Tryz.prog 48 #[.int .i64 x1] w' (Vc.Ret (.tuple #[.agg #[.bool b13, .int .u64 x30, .int .u64 x31], .agg #[.bool b14, .int .u64 x32, .int .u64 x33], .agg #[.bool b15, .int .u64 x34, .int .u64 x35], .agg #[.bool b16, .int .u64 x36, .int .u64 x37]]) w')) ∧
  ∃ (x38 : Int), ∃ (x39 : Int), ∃ (x40 : Int), (∀ w' : World, Below w.heap.size w w' → Calls Tryz.prog 22 #[.agg #[.bool b5, .int .u64 x14, .int .u64 x15], .agg #[.bool b2, .int .u64 x8, .int .u64 x9]] w' (Vc.Ret (.tuple #[.agg #[.int .i64 x38, .int .i64 x39], .int .i64 x40]) w')) ∧
  ∃ (x41 : Int), ∃ (x42 : Int), ∃ (x43 : Int), (∀ w' : World, Below w.heap.size w w' → Calls Tryz.prog 22 #[.agg #[.bool b11, .int .u64 x26, .int .u64 x27], .agg #[.bool b16, .int .u64 x36, .int .u64 x37]] w' (Vc.Ret (.tuple #[.agg #[.int .i64 x41, .int .i64 x42], .int .i64 x43]) w')) ∧
  (.tuple #[.agg #[.int .i64 x38, .int .i64 x39], .agg #[.int .i64 x41, .int .i64 x42], .int .i64 0] : Value) = v)) ∧ (¬ (b0 = true) → (
  (.tuple #[.agg #[.int .i64 0, .int .i64 0], .agg #[.int .i64 0, .int .i64 0], .int .i64 4] : Value) = v)))) ∧ (¬ (x2 = 0) → (
  (.tuple #[.agg #[.int .i64 0, .int .i64 0], .agg #[.int .i64 0, .int .i64 0], .int .i64 x2] : Value) = v))) : Calls Tryz.prog 13 #[.agg #[.int .i64 x0, .int .i64 x1]] w (Vc.Ret v w) :=
  Vc.pure_of base [] 200 Tryz.func13 (b := (Tryz.f13.body).getD .skip) (by kernel_rfl) [.cv (.agg [.int .i64 (.var 0), .int .i64 (.var 1)])] ⟨2, 0, 0, 0, 0, 0, 0⟩ (Vc.envOf [x0, x1] [] [] []) (by kernel_rfl) (by kernel_rfl) (by kernel_rfl) h

theorem vc_span_CheckTable (p0 : Nat × Nat) (x0 x1 : Int) (b0 : Bool) (w : World) (v : Value) (h : 
  (0 ≤ x0) ∧
  ((¬ (b0 = true)) ∨ (x0 = 0)) ∧
  ((x0 = 0) → (
  (.int .i64 2 : Value) = v)) ∧ (¬ (x0 = 0) → (
  (0 ≤ x0) ∧
  ((¬ (b0 = true)) ∨ (x0 = 0)) ∧
  ((64 < x0) → (
  (.int .i64 2 : Value) = v)) ∧ (¬ (64 < x0) → (
  (0 ≤ x0) ∧
  ((¬ (b0 = true)) ∨ (x0 = 0)) ∧
  ∃ (Ix2 : List Vc.Vl → Prop) (mx2 : List Vc.Vl → Nat), Ix2 [.i 0, .i 0] ∧ ∀ (x2 : Int) (x3 : Int), Ix2 [.i x2, .i x3] → (
  ((x3 < x0) → (
  (¬ (b0 = true)) ∧
  (0 ≤ x3) ∧
  (x3 < x0) ∧
  ∃ (x4 : Int), w.cell? ⟨p0.1, p0.2 + (Int.toNat x3) * 3 + 0, none⟩ = some (.int .i64 x4) ∧
  ∃ (x5 : Int), w.cell? ⟨p0.1, p0.2 + (Int.toNat x3) * 3 + 1, none⟩ = some (.int .i64 x5) ∧
  ∃ (x6 : Int), w.cell? ⟨p0.1, p0.2 + (Int.toNat x3) * 3 + 2, none⟩ = some (.int .i64 x6) ∧
  ∃ (b1 : Bool), (∀ w' : World, Below w.heap.size w w' → Calls Tryz.prog 46 #[.agg #[.int .i64 (-2305843009213693952), .int .i64 2305843009213693952], .int .i64 x4] w' (Vc.Ret (.bool b1) w')) ∧
  ((b1 = true) → (
  ∃ (b2 : Bool), (∀ w' : World, Below w.heap.size w w' → Calls Tryz.prog 47 #[.agg #[.int .i64 x5, .int .i64 x6], .agg #[.int .i64 (-2305843009213693952), .int .i64 2305843009213693952]] w' (Vc.Ret (.bool b2) w')) ∧
  ((b2 = true) → (
  ((0 < x3) → (
  ∀ x7 : Int, x7 = IntKind.i64.wrap (x3 - 1) →
  (¬ (b0 = true)) ∧
  (0 ≤ x7) ∧
  (x7 < x0) ∧
  ∃ (x8 : Int), w.cell? ⟨p0.1, p0.2 + (Int.toNat x7) * 3 + 0, none⟩ = some (.int .i64 x8) ∧
  ((x4 ≤ x8) → (
  (.int .i64 2 : Value) = v)) ∧ (¬ (x4 ≤ x8) → (
  ∀ x9 : Int, x9 = IntKind.i64.wrap (x3 + 1) →
  Ix2 [.i x2, .i x9] ∧ mx2 [.i x2, .i x9] < mx2 [.i x2, .i x3])))) ∧ (¬ (0 < x3) → (
  ∀ x7 : Int, x7 = IntKind.i64.wrap (x3 + 1) →
  Ix2 [.i x2, .i x7] ∧ mx2 [.i x2, .i x7] < mx2 [.i x2, .i x3])))) ∧ (¬ (b2 = true) → (
  (.int .i64 2 : Value) = v)))) ∧ (¬ (b1 = true) → (
  (.int .i64 2 : Value) = v)))) ∧ (¬ (x3 < x0) → (
  (.int .i64 0 : Value) = v)))))))) : Calls Tryz.prog 41 #[(if b0 = true then .slice none 0 0 else .slice (some (Vc.qad p0 (Int.toNat x0) (Int.toNat x1))) (Int.toNat x0) (Int.toNat x1) : Value)] w (Vc.Ret v w) :=
  Vc.pure_of base [(1000000000005, .inv [] [2, 17] [18, 19, 20, 21, 5, 4, 22, 23, 24, 25, 26, 27, 28, 29, 30, 31, 32, 33, 34, 35, 36, 37, 38, 39, 40, 41, 42, 43, 44, 45, 46, 47, 48, 49])] 200 Tryz.func41 (b := (Tryz.f41.body).getD .skip) (by kernel_rfl) [.cv (.one (.qsl 0 0 3 (.var 0) (.var 1)))] ⟨2, 1, 0, 1, 0, 0, 0⟩ (Vc.envOf [x0, x1] [b0] [] [p0]) (by kernel_rfl) (by kernel_rfl) (by kernel_rfl) h

theorem vc_span_Look_1_1 (x0 x1 : Int) (w : World) (v : Value) (h : 
  (.int .i64 x0 : Value) = v) : Calls Tryz.prog 44 #[.agg #[.int .i64 x0, .int .i64 x1]] w (Vc.Ret v w) :=
  Vc.pure_of base [] 200 Tryz.func44 (b := (Tryz.f44.body).getD .skip) (by kernel_rfl) [.cv (.agg [.int .i64 (.var 0), .int .i64 (.var 1)])] ⟨2, 0, 0, 0, 0, 0, 0⟩ (Vc.envOf [x0, x1] [] [] []) (by kernel_rfl) (by kernel_rfl) (by kernel_rfl) h

theorem vc_span_Look_1_2 (x0 x1 : Int) (w : World) (v : Value) (h : 
  (.int .i64 x1 : Value) = v) : Calls Tryz.prog 45 #[.agg #[.int .i64 x0, .int .i64 x1]] w (Vc.Ret v w) :=
  Vc.pure_of base [] 200 Tryz.func45 (b := (Tryz.f45.body).getD .skip) (by kernel_rfl) [.cv (.agg [.int .i64 (.var 0), .int .i64 (.var 1)])] ⟨2, 0, 0, 0, 0, 0, 0⟩ (Vc.envOf [x0, x1] [] [] []) (by kernel_rfl) (by kernel_rfl) (by kernel_rfl) h

theorem vc_span_value_lo (p0 : Nat × Nat) (x0 x1 x2 : Int) (b0 : Bool) (w : World) (v : Value) (h : 
  ∃ (Ix3 : List Vc.Vl → Prop) (mx3 : List Vc.Vl → Nat), Ix3 [.i 0] ∧ ∀ (x3 : Int), Ix3 [.i x3] → (
  (0 ≤ x0) ∧
  ((¬ (b0 = true)) ∨ (x0 = 0)) ∧
  ((x3 < x0) → (
  (¬ (b0 = true)) ∧
  (0 ≤ x3) ∧
  (x3 < x0) ∧
  ∃ (x4 : Int), w.cell? ⟨p0.1, p0.2 + (Int.toNat x3) * 3 + 0, none⟩ = some (.int .i64 x4) ∧
  ((x4 < x2) → (
  ∀ x5 : Int, x5 = IntKind.i64.wrap (x3 + 1) →
  Ix3 [.i x5] ∧ mx3 [.i x5] < mx3 [.i x3])) ∧ (¬ (x4 < x2) → (
  ((x3 = 0) → (
  (0 ≤ x0) ∧
  ((¬ (b0 = true)) ∨ (x0 = 0)) ∧
  ∀ x5 : Int, x5 = IntKind.i64.wrap (x0 - 1) →
  ∀ x6 : Int, x6 = (if x5 < x3 then x5 else x3) →
  (¬ (b0 = true)) ∧
  (0 ≤ x6) ∧
  (x6 < x0) ∧
  ∃ (x7 : Int), w.cell? ⟨p0.1, p0.2 + (Int.toNat x6) * 3 + 1, none⟩ = some (.int .i64 x7) ∧
  ∃ (x8 : Int), w.cell? ⟨p0.1, p0.2 + (Int.toNat x6) * 3 + 2, none⟩ = some (.int .i64 x8) ∧
  ∃ (x9 : Int), (∀ w' : World, Below w.heap.size w w' → Calls Tryz.prog 44 #[.agg #[.int .i64 x7, .int .i64 x8]] w' (Vc.Ret (.int .i64 x9) w')) ∧
  ∃ (b1 : Bool), ∃ (x10 : Int), ∃ (x11 : Int), (∀ w' : World, Below w.heap.size w w' → Calls Tryz.prog 20 #[.int .i64 x9] w' (Vc.Ret (.agg #[.bool b1, .int .u64 x10, .int .u64 x11]) w')) ∧
  (.tuple #[.agg #[.bool b1, .int .u64 x10, .int .u64 x11], .agg #[.bool b1, .int .u64 x10, .int .u64 x11]] : Value) = v)) ∧ (¬ (x3 = 0) → (
  (0 ≤ x0) ∧
  ((¬ (b0 = true)) ∨ (x0 = 0)) ∧
  ((x3 = x0) → (
  (0 ≤ x0) ∧
  ((¬ (b0 = true)) ∨ (x0 = 0)) ∧
  ∀ x5 : Int, x5 = IntKind.i64.wrap (x0 - 1) →
  ∀ x6 : Int, x6 = (if x5 < x3 then x5 else x3) →
  (¬ (b0 = true)) ∧
  (0 ≤ x6) ∧
  (x6 < x0) ∧
  ∃ (x7 : Int), w.cell? ⟨p0.1, p0.2 + (Int.toNat x6) * 3 + 1, none⟩ = some (.int .i64 x7) ∧
  ∃ (x8 : Int), w.cell? ⟨p0.1, p0.2 + (Int.toNat x6) * 3 + 2, none⟩ = some (.int .i64 x8) ∧
  ∃ (x9 : Int), (∀ w' : World, Below w.heap.size w w' → Calls Tryz.prog 44 #[.agg #[.int .i64 x7, .int .i64 x8]] w' (Vc.Ret (.int .i64 x9) w')) ∧
  ∃ (b1 : Bool), ∃ (x10 : Int), ∃ (x11 : Int), (∀ w' : World, Below w.heap.size w w' → Calls Tryz.prog 20 #[.int .i64 x9] w' (Vc.Ret (.agg #[.bool b1, .int .u64 x10, .int .u64 x11]) w')) ∧
  (.tuple #[.agg #[.bool b1, .int .u64 x10, .int .u64 x11], .agg #[.bool b1, .int .u64 x10, .int .u64 x11]] : Value) = v)) ∧ (¬ (x3 = x0) → (
  (¬ (b0 = true)) ∧
  (0 ≤ x3) ∧
  (x3 < x0) ∧
  ∃ (x5 : Int), w.cell? ⟨p0.1, p0.2 + (Int.toNat x3) * 3 + 0, none⟩ = some (.int .i64 x5) ∧
  ((x5 = x2) → (
  (0 ≤ x0) ∧
  ((¬ (b0 = true)) ∨ (x0 = 0)) ∧
  ∀ x6 : Int, x6 = IntKind.i64.wrap (x0 - 1) →
  ∀ x7 : Int, x7 = (if x6 < x3 then x6 else x3) →
  (¬ (b0 = true)) ∧
  (0 ≤ x7) ∧
  (x7 < x0) ∧
  ∃ (x8 : Int), w.cell? ⟨p0.1, p0.2 + (Int.toNat x7) * 3 + 1, none⟩ = some (.int .i64 x8) ∧
  ∃ (x9 : Int), w.cell? ⟨p0.1, p0.2 + (Int.toNat x7) * 3 + 2, none⟩ = some (.int .i64 x9) ∧
  ∃ (x10 : Int), (∀ w' : World, Below w.heap.size w w' → Calls Tryz.prog 44 #[.agg #[.int .i64 x8, .int .i64 x9]] w' (Vc.Ret (.int .i64 x10) w')) ∧
  ∃ (b1 : Bool), ∃ (x11 : Int), ∃ (x12 : Int), (∀ w' : World, Below w.heap.size w w' → Calls Tryz.prog 20 #[.int .i64 x10] w' (Vc.Ret (.agg #[.bool b1, .int .u64 x11, .int .u64 x12]) w')) ∧
  (.tuple #[.agg #[.bool b1, .int .u64 x11, .int .u64 x12], .agg #[.bool b1, .int .u64 x11, .int .u64 x12]] : Value) = v)) ∧ (¬ (x5 = x2) → (
  ∀ x6 : Int, x6 = IntKind.i64.wrap (x3 - 1) →
  (¬ (b0 = true)) ∧
  (0 ≤ x6) ∧
  (x6 < x0) ∧
  ∃ (x7 : Int), w.cell? ⟨p0.1, p0.2 + (Int.toNat x6) * 3 + 0, none⟩ = some (.int .i64 x7) ∧
  ∃ (x8 : Int), w.cell? ⟨p0.1, p0.2 + (Int.toNat x6) * 3 + 1, none⟩ = some (.int .i64 x8) ∧
  ∃ (x9 : Int), w.cell? ⟨p0.1, p0.2 + (Int.toNat x6) * 3 + 2, none⟩ = some (.int .i64 x9) ∧
  (¬ (b0 = true)) ∧
  (0 ≤ x3) ∧
  (x3 < x0) ∧
  ∃ (x10 : Int), w.cell? ⟨p0.1, p0.2 + (Int.toNat x3) * 3 + 0, none⟩ = some (.int .i64 x10) ∧
  ∃ (x11 : Int), w.cell? ⟨p0.1, p0.2 + (Int.toNat x3) * 3 + 1, none⟩ = some (.int .i64 x11) ∧
  ∃ (x12 : Int), w.cell? ⟨p0.1, p0.2 + (Int.toNat x3) * 3 + 2, none⟩ = some (.int .i64 x12) ∧
  ∃ (x13 : Int), (∀ w' : World, Below w.heap.size w w' → Calls Tryz.prog 44 #[.agg #[.int .i64 x8, .int .i64 x9]] w' (Vc.Ret (.int .i64 x13) w')) ∧
  ∃ (x14 : Int), (∀ w' : World, Below w.heap.size w w' → Calls Tryz.prog 44 #[.agg #[.int .i64 x11, .int .i64 x12]] w' (Vc.Ret (.int .i64 x14) w')) ∧
  ∀ x15 : Int, x15 = IntKind.i64.wrap (x14 - x13) →
  ∀ x16 : Int, x16 = IntKind.i64.wrap (x2 - x7) →
  ∃ (b1 : Bool), ∃ (x17 : Int), ∃ (x18 : Int), (∀ w' : World, Below w.heap.size w w' → Calls Tryz.prog 70 #[.int .i64 x15, .int .i64 x16] w' (Vc.Ret (.agg #[.bool b1, .int .u64 x17, .int .u64 x18]) w')) ∧
  ∀ x19 : Int, x19 = IntKind.i64.wrap (x10 - x7) →
  ∃ (b2 : Bool), ∃ (x20 : Int), ∃ (x21 : Int), (∀ w' : World, Below w.heap.size w w' → Calls Tryz.prog 20 #[.int .i64 x19] w' (Vc.Ret (.agg #[.bool b2, .int .u64 x20, .int .u64 x21]) w')) ∧
  ∃ (b3 : Bool), ∃ (x22 : Int), ∃ (x23 : Int), ∃ (b4 : Bool), ∃ (x24 : Int), ∃ (x25 : Int), (∀ w' : World, Below w.heap.size w w' → Calls Tryz.prog 66 #[.agg #[.bool b1, .int .u64 x17, .int .u64 x18], .agg #[.bool b2, .int .u64 x20, .int .u64 x21]] w' (Vc.Ret (.tuple #[.agg #[.bool b3, .int .u64 x22, .int .u64 x23], .agg #[.bool b4, .int .u64 x24, .int .u64 x25]]) w')) ∧
  ∃ (b5 : Bool), ∃ (x26 : Int), ∃ (x27 : Int), (∀ w' : World, Below w.heap.size w w' → Calls Tryz.prog 20 #[.int .i64 x13] w' (Vc.Ret (.agg #[.bool b5, .int .u64 x26, .int .u64 x27]) w')) ∧
  ∃ (b6 : Bool), ∃ (x28 : Int), ∃ (x29 : Int), (∀ w' : World, Below w.heap.size w w' → Calls Tryz.prog 27 #[.agg #[.bool b5, .int .u64 x26, .int .u64 x27], .agg #[.bool b3, .int .u64 x22, .int .u64 x23]] w' (Vc.Ret (.agg #[.bool b6, .int .u64 x28, .int .u64 x29]) w')) ∧
  ∃ (b7 : Bool), ∃ (x30 : Int), ∃ (x31 : Int), (∀ w' : World, Below w.heap.size w w' → Calls Tryz.prog 20 #[.int .i64 x13] w' (Vc.Ret (.agg #[.bool b7, .int .u64 x30, .int .u64 x31]) w')) ∧
  ∃ (b8 : Bool), ∃ (x32 : Int), ∃ (x33 : Int), (∀ w' : World, Below w.heap.size w w' → Calls Tryz.prog 27 #[.agg #[.bool b7, .int .u64 x30, .int .u64 x31], .agg #[.bool b4, .int .u64 x24, .int .u64 x25]] w' (Vc.Ret (.agg #[.bool b8, .int .u64 x32, .int .u64 x33]) w')) ∧
  (.tuple #[.agg #[.bool b6, .int .u64 x28, .int .u64 x29], .agg #[.bool b8, .int .u64 x32, .int .u64 x33]] : Value) = v)))))))))) ∧ (¬ (x3 < x0) → (
  ((x3 = 0) → (
  (0 ≤ x0) ∧
  ((¬ (b0 = true)) ∨ (x0 = 0)) ∧
  ∀ x4 : Int, x4 = IntKind.i64.wrap (x0 - 1) →
  ∀ x5 : Int, x5 = (if x4 < x3 then x4 else x3) →
  (¬ (b0 = true)) ∧
  (0 ≤ x5) ∧
  (x5 < x0) ∧
  ∃ (x6 : Int), w.cell? ⟨p0.1, p0.2 + (Int.toNat x5) * 3 + 1, none⟩ = some (.int .i64 x6) ∧
  ∃ (x7 : Int), w.cell? ⟨p0.1, p0.2 + (Int.toNat x5) * 3 + 2, none⟩ = some (.int .i64 x7) ∧
  ∃ (x8 : Int), (∀ w' : World, Below w.heap.size w w' → Calls Tryz.prog 44 #[.agg #[.int .i64 x6, .int .i64 x7]] w' (Vc.Ret (.int .i64 x8) w')) ∧
  ∃ (b1 : Bool), ∃ (x9 : Int), ∃ (x10 : Int), (∀ w' : World, Below w.heap.size w w' → Calls Tryz.prog 20 #[.int .i64 x8] w' (Vc.Ret (.agg #[.bool b1, .int .u64 x9, .int .u64 x10]) w')) ∧
  (.tuple #[.agg #[.bool b1, .int .u64 x9, .int .u64 x10], .agg #[.bool b1, .int .u64 x9, .int .u64 x10]] : Value) = v)) ∧ (¬ (x3 = 0) → (
  (0 ≤ x0) ∧
  ((¬ (b0 = true)) ∨ (x0 = 0)) ∧
  ((x3 = x0) → (
  (0 ≤ x0) ∧
  ((¬ (b0 = true)) ∨ (x0 = 0)) ∧
  ∀ x4 : Int, x4 = IntKind.i64.wrap (x0 - 1) →
  ∀ x5 : Int, x5 = (if x4 < x3 then x4 else x3) →
  (¬ (b0 = true)) ∧
  (0 ≤ x5) ∧
  (x5 < x0) ∧
  ∃ (x6 : Int), w.cell? ⟨p0.1, p0.2 + (Int.toNat x5) * 3 + 1, none⟩ = some (.int .i64 x6) ∧
  ∃ (x7 : Int), w.cell? ⟨p0.1, p0.2 + (Int.toNat x5) * 3 + 2, none⟩ = some (.int .i64 x7) ∧
  ∃ (x8 : Int), (∀ w' : World, Below w.heap.size w w' → Calls Tryz.prog 44 #[.agg #[.int .i64 x6, .int .i64 x7]] w' (Vc.Ret (.int .i64 x8) w')) ∧
  ∃ (b1 : Bool), ∃ (x9 : Int), ∃ (x10 : Int), (∀ w' : World, Below w.heap.size w w' → Calls Tryz.prog 20 #[.int .i64 x8] w' (Vc.Ret (.agg #[.bool b1, .int .u64 x9, .int .u64 x10]) w')) ∧
  (.tuple #[.agg #[.bool b1, .int .u64 x9, .int .u64 x10], .agg #[.bool b1, .int .u64 x9, .int .u64 x10]] : Value) = v)) ∧ (¬ (x3 = x0) → (
  (¬ (b0 = true)) ∧
  (0 ≤ x3) ∧
  (x3 < x0) ∧
  ∃ (x4 : Int), w.cell? ⟨p0.1, p0.2 + (Int.toNat x3) * 3 + 0, none⟩ = some (.int .i64 x4) ∧
  ((x4 = x2) → (
  (0 ≤ x0) ∧
  ((¬ (b0 = true)) ∨ (x0 = 0)) ∧
  ∀ x5 : Int, x5 = IntKind.i64.wrap (x0 - 1) →
  ∀ x6 : Int, x6 = (if x5 < x3 then x5 else x3) →
  (¬ (b0 = true)) ∧
  (0 ≤ x6) ∧
  (x6 < x0) ∧
  ∃ (x7 : Int), w.cell? ⟨p0.1, p0.2 + (Int.toNat x6) * 3 + 1, none⟩ = some (.int .i64 x7) ∧
  ∃ (x8 : Int), w.cell? ⟨p0.1, p0.2 + (Int.toNat x6) * 3 + 2, none⟩ = some (.int .i64 x8) ∧
  ∃ (x9 : Int), (∀ w' : World, Below w.heap.size w w' → Calls Tryz.prog 44 #[.agg #[.int .i64 x7, .int .i64 x8]] w' (Vc.Ret (.int .i64 x9) w')) ∧
  ∃ (b1 : Bool), ∃ (x10 : Int), ∃ (x11 : Int), (∀ w' : World, Below w.heap.size w w' → Calls Tryz.prog 20 #[.int .i64 x9] w' (Vc.Ret (.agg #[.bool b1, .int .u64 x10, .int .u64 x11]) w')) ∧
  (.tuple #[.agg #[.bool b1, .int .u64 x10, .int .u64 x11], .agg #[.bool b1, .int .u64 x10, .int .u64 x11]] : Value) = v)) ∧ (¬ (x4 = x2) → (
  ∀ x5 : Int, x5 = IntKind.i64.wrap (x3 - 1) →
  (¬ (b0 = true)) ∧
  (0 ≤ x5) ∧
  (x5 < x0) ∧
  ∃ (x6 : Int), w.cell? ⟨p0.1, p0.2 + (Int.toNat x5) * 3 + 0, none⟩ = some (.int .i64 x6) ∧
  ∃ (x7 : Int), w.cell? ⟨p0.1, p0.2 + (Int.toNat x5) * 3 + 1, none⟩ = some (.int .i64 x7) ∧
  ∃ (x8 : Int), w.cell? ⟨p0.1, p0.2 + (Int.toNat x5) * 3 + 2, none⟩ = some (.int .i64 x8) ∧
  (¬ (b0 = true)) ∧
  (0 ≤ x3) ∧
  (x3 < x0) ∧
  ∃ (x9 : Int), w.cell? ⟨p0.1, p0.2 + (Int.toNat x3) * 3 + 0, none⟩ = some (.int .i64 x9) ∧
  ∃ (x10 : Int), w.cell? ⟨p0.1, p0.2 + (Int.toNat x3) * 3 + 1, none⟩ = some (.int .i64 x10) ∧
  ∃ (x11 : Int), w.cell? ⟨p0.1, p0.2 + (Int.toNat x3) * 3 + 2, none⟩ = some (.int .i64 x11) ∧
  ∃ (x12 : Int), (∀ w' : World, Below w.heap.size w w' → Calls Tryz.prog 44 #[.agg #[.int .i64 x7, .int .i64 x8]] w' (Vc.Ret (.int .i64 x12) w')) ∧
  ∃ (x13 : Int), (∀ w' : World, Below w.heap.size w w' → Calls Tryz.prog 44 #[.agg #[.int .i64 x10, .int .i64 x11]] w' (Vc.Ret (.int .i64 x13) w')) ∧
  ∀ x14 : Int, x14 = IntKind.i64.wrap (x13 - x12) →
  ∀ x15 : Int, x15 = IntKind.i64.wrap (x2 - x6) →
  ∃ (b1 : Bool), ∃ (x16 : Int), ∃ (x17 : Int), (∀ w' : World, Below w.heap.size w w' → Calls Tryz.prog 70 #[.int .i64 x14, .int .i64 x15] w' (Vc.Ret (.agg #[.bool b1, .int .u64 x16, .int .u64 x17]) w')) ∧
  ∀ x18 : Int, x18 = IntKind.i64.wrap (x9 - x6) →
  ∃ (b2 : Bool), ∃ (x19 : Int), ∃ (x20 : Int), (∀ w' : World, Below w.heap.size w w' → Calls Tryz.prog 20 #[.int .i64 x18] w' (Vc.Ret (.agg #[.bool b2, .int .u64 x19, .int .u64 x20]) w')) ∧
  ∃ (b3 : Bool), ∃ (x21 : Int), ∃ (x22 : Int), ∃ (b4 : Bool), ∃ (x23 : Int), ∃ (x24 : Int), (∀ w' : World, Below w.heap.size w w' → Calls Tryz.prog 66 #[.agg #[.bool b1, .int .u64 x16, .int .u64 x17], .agg #[.bool b2, .int .u64 x19, .int .u64 x20]] w' (Vc.Ret (.tuple #[.agg #[.bool b3, .int .u64 x21, .int .u64 x22], .agg #[.bool b4, .int .u64 x23, .int .u64 x24]]) w')) ∧
  ∃ (b5 : Bool), ∃ (x25 : Int), ∃ (x26 : Int), (∀ w' : World, Below w.heap.size w w' → Calls Tryz.prog 20 #[.int .i64 x12] w' (Vc.Ret (.agg #[.bool b5, .int .u64 x25, .int .u64 x26]) w')) ∧
  ∃ (b6 : Bool), ∃ (x27 : Int), ∃ (x28 : Int), (∀ w' : World, Below w.heap.size w w' → Calls Tryz.prog 27 #[.agg #[.bool b5, .int .u64 x25, .int .u64 x26], .agg #[.bool b3, .int .u64 x21, .int .u64 x22]] w' (Vc.Ret (.agg #[.bool b6, .int .u64 x27, .int .u64 x28]) w')) ∧
  ∃ (b7 : Bool), ∃ (x29 : Int), ∃ (x30 : Int), (∀ w' : World, Below w.heap.size w w' → Calls Tryz.prog 20 #[.int .i64 x12] w' (Vc.Ret (.agg #[.bool b7, .int .u64 x29, .int .u64 x30]) w')) ∧
  ∃ (b8 : Bool), ∃ (x31 : Int), ∃ (x32 : Int), (∀ w' : World, Below w.heap.size w w' → Calls Tryz.prog 27 #[.agg #[.bool b7, .int .u64 x29, .int .u64 x30], .agg #[.bool b4, .int .u64 x23, .int .u64 x24]] w' (Vc.Ret (.agg #[.bool b8, .int .u64 x31, .int .u64 x32]) w')) ∧
  (.tuple #[.agg #[.bool b6, .int .u64 x27, .int .u64 x28], .agg #[.bool b8, .int .u64 x31, .int .u64 x32]] : Value) = v)))))))))) : Calls Tryz.prog 43 #[(if b0 = true then .slice none 0 0 else .slice (some (Vc.qad p0 (Int.toNat x0) (Int.toNat x1))) (Int.toNat x0) (Int.toNat x1) : Value), .int .i64 x2, .func (.func 44) #[] #[]] w (Vc.Ret v w) :=
  Vc.pure_of base [(13000000000002, .inv [] [8] [14, 15, 16, 17, 18, 19, 20, 21, 22, 23, 24, 25, 26, 27, 28])] 200 Tryz.func43 (b := (Tryz.f43.body).getD .skip) (by kernel_rfl) [.cv (.one (.qsl 0 0 3 (.var 0) (.var 1))), .cv (.one (.int .i64 (.var 2))), .cv (.one (.fn 44 []))] ⟨3, 1, 0, 1, 0, 0, 0⟩ (Vc.envOf [x0, x1, x2] [b0] [] [p0]) (by kernel_rfl) (by kernel_rfl) (by kernel_rfl) h

theorem vc_span_value_hi (p0 : Nat × Nat) (x0 x1 x2 : Int) (b0 : Bool) (w : World) (v : Value) (h : 
  ∃ (Ix3 : List Vc.Vl → Prop) (mx3 : List Vc.Vl → Nat), Ix3 [.i 0] ∧ ∀ (x3 : Int), Ix3 [.i x3] → (
  (0 ≤ x0) ∧
  ((¬ (b0 = true)) ∨ (x0 = 0)) ∧
  ((x3 < x0) → (
  (¬ (b0 = true)) ∧
  (0 ≤ x3) ∧
  (x3 < x0) ∧
  ∃ (x4 : Int), w.cell? ⟨p0.1, p0.2 + (Int.toNat x3) * 3 + 0, none⟩ = some (.int .i64 x4) ∧
  ((x4 < x2) → (
  ∀ x5 : Int, x5 = IntKind.i64.wrap (x3 + 1) →
  Ix3 [.i x5] ∧ mx3 [.i x5] < mx3 [.i x3])) ∧ (¬ (x4 < x2) → (
  ((x3 = 0) → (
  (0 ≤ x0) ∧
  ((¬ (b0 = true)) ∨ (x0 = 0)) ∧
  ∀ x5 : Int, x5 = IntKind.i64.wrap (x0 - 1) →
  ∀ x6 : Int, x6 = (if x5 < x3 then x5 else x3) →
  (¬ (b0 = true)) ∧
  (0 ≤ x6) ∧
  (x6 < x0) ∧
  ∃ (x7 : Int), w.cell? ⟨p0.1, p0.2 + (Int.toNat x6) * 3 + 1, none⟩ = some (.int .i64 x7) ∧
  ∃ (x8 : Int), w.cell? ⟨p0.1, p0.2 + (Int.toNat x6) * 3 + 2, none⟩ = some (.int .i64 x8) ∧
  ∃ (x9 : Int), (∀ w' : World, Below w.heap.size w w' → Calls Tryz.prog 45 #[.agg #[.int .i64 x7, .int .i64 x8]] w' (Vc.Ret (.int .i64 x9) w')) ∧
  ∃ (b1 : Bool), ∃ (x10 : Int), ∃ (x11 : Int), (∀ w' : World, Below w.heap.size w w' → Calls Tryz.prog 20 #[.int .i64 x9] w' (Vc.Ret (.agg #[.bool b1, .int .u64 x10, .int .u64 x11]) w')) ∧
  (.tuple #[.agg #[.bool b1, .int .u64 x10, .int .u64 x11], .agg #[.bool b1, .int .u64 x10, .int .u64 x11]] : Value) = v)) ∧ (¬ (x3 = 0) → (
  (0 ≤ x0) ∧
  ((¬ (b0 = true)) ∨ (x0 = 0)) ∧
  ((x3 = x0) → (
  (0 ≤ x0) ∧
  ((¬ (b0 = true)) ∨ (x0 = 0)) ∧
  ∀ x5 : Int, x5 = IntKind.i64.wrap (x0 - 1) →
  ∀ x6 : Int, x6 = (if x5 < x3 then x5 else x3) →
  (¬ (b0 = true)) ∧
  (0 ≤ x6) ∧
  (x6 < x0) ∧
  ∃ (x7 : Int), w.cell? ⟨p0.1, p0.2 + (Int.toNat x6) * 3 + 1, none⟩ = some (.int .i64 x7) ∧
  ∃ (x8 : Int), w.cell? ⟨p0.1, p0.2 + (Int.toNat x6) * 3 + 2, none⟩ = some (.int .i64 x8) ∧
  ∃ (x9 : Int), (∀ w' : World, Below w.heap.size w w' → Calls Tryz.prog 45 #[.agg #[.int .i64 x7, .int .i64 x8]] w' (Vc.Ret (.int .i64 x9) w')) ∧
  ∃ (b1 : Bool), ∃ (x10 : Int), ∃ (x11 : Int), (∀ w' : World, Below w.heap.size w w' → Calls Tryz.prog 20 #[.int .i64 x9] w' (Vc.Ret (.agg #[.bool b1, .int .u64 x10, .int .u64 x11]) w')) ∧
  (.tuple #[.agg #[.bool b1, .int .u64 x10, .int .u64 x11], .agg #[.bool b1, .int .u64 x10, .int .u64 x11]] : Value) = v)) ∧ (¬ (x3 = x0) → (
  (¬ (b0 = true)) ∧
  (0 ≤ x3) ∧
  (x3 < x0) ∧
  ∃ (x5 : Int), w.cell? ⟨p0.1, p0.2 + (Int.toNat x3) * 3 + 0, none⟩ = some (.int .i64 x5) ∧
  ((x5 = x2) → (
  (0 ≤ x0) ∧
  ((¬ (b0 = true)) ∨ (x0 = 0)) ∧
  ∀ x6 : Int, x6 = IntKind.i64.wrap (x0 - 1) →
  ∀ x7 : Int, x7 = (if x6 < x3 then x6 else x3) →
  (¬ (b0 = true)) ∧
  (0 ≤ x7) ∧
  (x7 < x0) ∧
  ∃ (x8 : Int), w.cell? ⟨p0.1, p0.2 + (Int.toNat x7) * 3 + 1, none⟩ = some (.int .i64 x8) ∧
  ∃ (x9 : Int), w.cell? ⟨p0.1, p0.2 + (Int.toNat x7) * 3 + 2, none⟩ = some (.int .i64 x9) ∧
  ∃ (x10 : Int), (∀ w' : World, Below w.heap.size w w' → Calls Tryz.prog 45 #[.agg #[.int .i64 x8, .int .i64 x9]] w' (Vc.Ret (.int .i64 x10) w')) ∧
  ∃ (b1 : Bool), ∃ (x11 : Int), ∃ (x12 : Int), (∀ w' : World, Below w.heap.size w w' → Calls Tryz.prog 20 #[.int .i64 x10] w' (Vc.Ret (.agg #[.bool b1, .int .u64 x11, .int .u64 x12]) w')) ∧
  (.tuple #[.agg #[.bool b1, .int .u64 x11, .int .u64 x12], .agg #[.bool b1, .int .u64 x11, .int .u64 x12]] : Value) = v)) ∧ (¬ (x5 = x2) → (
  ∀ x6 : Int, x6 = IntKind.i64.wrap (x3 - 1) →
  (¬ (b0 = true)) ∧
  (0 ≤ x6) ∧
  (x6 < x0) ∧
  ∃ (x7 : Int), w.cell? ⟨p0.1, p0.2 + (Int.toNat x6) * 3 + 0, none⟩ = some (.int .i64 x7) ∧
  ∃ (x8 : Int), w.cell? ⟨p0.1, p0.2 + (Int.toNat x6) * 3 + 1, none⟩ = some (.int .i64 x8) ∧
  ∃ (x9 : Int), w.cell? ⟨p0.1, p0.2 + (Int.toNat x6) * 3 + 2, none⟩ = some (.int .i64 x9) ∧
  (¬ (b0 = true)) ∧
  (0 ≤ x3) ∧
  (x3 < x0) ∧
  ∃ (x10 : Int), w.cell? ⟨p0.1, p0.2 + (Int.toNat x3) * 3 + 0, none⟩ = some (.int .i64 x10) ∧
  ∃ (x11 : Int), w.cell? ⟨p0.1, p0.2 + (Int.toNat x3) * 3 + 1, none⟩ = some (.int .i64 x11) ∧
  ∃ (x12 : Int), w.cell? ⟨p0.1, p0.2 + (Int.toNat x3) * 3 + 2, none⟩ = some (.int .i64 x12) ∧
  ∃ (x13 : Int), (∀ w' : World, Below w.heap.size w w' → Calls Tryz.prog 45 #[.agg #[.int .i64 x8, .int .i64 x9]] w' (Vc.Ret (.int .i64 x13) w')) ∧
  ∃ (x14 : Int), (∀ w' : World, Below w.heap.size w w' → Calls Tryz.prog 45 #[.agg #[.int .i64 x11, .int .i64 x12]] w' (Vc.Ret (.int .i64 x14) w')) ∧
  ∀ x15 : Int, x15 = IntKind.i64.wrap (x14 - x13) →
  ∀ x16 : Int, x16 = IntKind.i64.wrap (x2 - x7) →
  ∃ (b1 : Bool), ∃ (x17 : Int), ∃ (x18 : Int), (∀ w' : World, Below w.heap.size w w' → Calls Tryz.prog 70 #[.int .i64 x15, .int .i64 x16] w' (Vc.Ret (.agg #[.bool b1, .int .u64 x17, .int .u64 x18]) w')) ∧
  ∀ x19 : Int, x19 = IntKind.i64.wrap (x10 - x7) →
  ∃ (b2 : Bool), ∃ (x20 : Int), ∃ (x21 : Int), (∀ w' : World, Below w.heap.size w w' → Calls Tryz.prog 20 #[.int .i64 x19] w' (Vc.Ret (.agg #[.bool b2, .int .u64 x20, .int .u64 x21]) w')) ∧
  ∃ (b3 : Bool), ∃ (x22 : Int), ∃ (x23 : Int), ∃ (b4 : Bool), ∃ (x24 : Int), ∃ (x25 : Int), (∀ w' : World, Below w.heap.size w w' → Calls Tryz.prog 66 #[.agg #[.bool b1, .int .u64 x17, .int .u64 x18], .agg #[.bool b2, .int .u64 x20, .int .u64 x21]] w' (Vc.Ret (.tuple #[.agg #[.bool b3, .int .u64 x22, .int .u64 x23], .agg #[.bool b4, .int .u64 x24, .int .u64 x25]]) w')) ∧
  ∃ (b5 : Bool), ∃ (x26 : Int), ∃ (x27 : Int), (∀ w' : World, Below w.heap.size w w' → Calls Tryz.prog 20 #[.int .i64 x13] w' (Vc.Ret (.agg #[.bool b5, .int .u64 x26, .int .u64 x27]) w')) ∧
  ∃ (b6 : Bool), ∃ (x28 : Int), ∃ (x29 : Int), (∀ w' : World, Below w.heap.size w w' → Calls Tryz.prog 27 #[.agg #[.bool b5, .int .u64 x26, .int .u64 x27], .agg #[.bool b3, .int .u64 x22, .int .u64 x23]] w' (Vc.Ret (.agg #[.bool b6, .int .u64 x28, .int .u64 x29]) w')) ∧
  ∃ (b7 : Bool), ∃ (x30 : Int), ∃ (x31 : Int), (∀ w' : World, Below w.heap.size w w' → Calls Tryz.prog 20 #[.int .i64 x13] w' (Vc.Ret (.agg #[.bool b7, .int .u64 x30, .int .u64 x31]) w')) ∧
  ∃ (b8 : Bool), ∃ (x32 : Int), ∃ (x33 : Int), (∀ w' : World, Below w.heap.size w w' → Calls Tryz.prog 27 #[.agg #[.bool b7, .int .u64 x30, .int .u64 x31], .agg #[.bool b4, .int .u64 x24, .int .u64 x25]] w' (Vc.Ret (.agg #[.bool b8, .int .u64 x32, .int .u64 x33]) w')) ∧
  (.tuple #[.agg #[.bool b6, .int .u64 x28, .int .u64 x29], .agg #[.bool b8, .int .u64 x32, .int .u64 x33]] : Value) = v)))))))))) ∧ (¬ (x3 < x0) → (
  ((x3 = 0) → (
  (0 ≤ x0) ∧
  ((¬ (b0 = true)) ∨ (x0 = 0)) ∧
  ∀ x4 : Int, x4 = IntKind.i64.wrap (x0 - 1) →
  ∀ x5 : Int, x5 = (if x4 < x3 then x4 else x3) →
  (¬ (b0 = true)) ∧
  (0 ≤ x5) ∧
  (x5 < x0) ∧
  ∃ (x6 : Int), w.cell? ⟨p0.1, p0.2 + (Int.toNat x5) * 3 + 1, none⟩ = some (.int .i64 x6) ∧
  ∃ (x7 : Int), w.cell? ⟨p0.1, p0.2 + (Int.toNat x5) * 3 + 2, none⟩ = some (.int .i64 x7) ∧
  ∃ (x8 : Int), (∀ w' : World, Below w.heap.size w w' → Calls Tryz.prog 45 #[.agg #[.int .i64 x6, .int .i64 x7]] w' (Vc.Ret (.int .i64 x8) w')) ∧
  ∃ (b1 : Bool), ∃ (x9 : Int), ∃ (x10 : Int), (∀ w' : World, Below w.heap.size w w' → Calls Tryz.prog 20 #[.int .i64 x8] w' (Vc.Ret (.agg #[.bool b1, .int .u64 x9, .int .u64 x10]) w')) ∧
  (.tuple #[.agg #[.bool b1, .int .u64 x9, .int .u64 x10], .agg #[.bool b1, .int .u64 x9, .int .u64 x10]] : Value) = v)) ∧ (¬ (x3 = 0) → (
  (0 ≤ x0) ∧
  ((¬ (b0 = true)) ∨ (x0 = 0)) ∧
  ((x3 = x0) → (
  (0 ≤ x0) ∧
  ((¬ (b0 = true)) ∨ (x0 = 0)) ∧
  ∀ x4 : Int, x4 = IntKind.i64.wrap (x0 - 1) →
  ∀ x5 : Int, x5 = (if x4 < x3 then x4 else x3) →
  (¬ (b0 = true)) ∧
  (0 ≤ x5) ∧
  (x5 < x0) ∧
  ∃ (x6 : Int), w.cell? ⟨p0.1, p0.2 + (Int.toNat x5) * 3 + 1, none⟩ = some (.int .i64 x6) ∧
  ∃ (x7 : Int), w.cell? ⟨p0.1, p0.2 + (Int.toNat x5) * 3 + 2, none⟩ = some (.int .i64 x7) ∧
  ∃ (x8 : Int), (∀ w' : World, Below w.heap.size w w' → Calls Tryz.prog 45 #[.agg #[.int .i64 x6, .int .i64 x7]] w' (Vc.Ret (.int .i64 x8) w')) ∧
  ∃ (b1 : Bool), ∃ (x9 : Int), ∃ (x10 : Int), (∀ w' : World, Below w.heap.size w w' → Calls Tryz.prog 20 #[.int .i64 x8] w' (Vc.Ret (.agg #[.bool b1, .int .u64 x9, .int .u64 x10]) w')) ∧
  (.tuple #[.agg #[.bool b1, .int .u64 x9, .int .u64 x10], .agg #[.bool b1, .int .u64 x9, .int .u64 x10]] : Value) = v)) ∧ (¬ (x3 = x0) → (
  (¬ (b0 = true)) ∧
  (0 ≤ x3) ∧
  (x3 < x0) ∧
  ∃ (x4 : Int), w.cell? ⟨p0.1, p0.2 + (Int.toNat x3) * 3 + 0, none⟩ = some (.int .i64 x4) ∧
  ((x4 = x2) → (
  (0 ≤ x0) ∧
  ((¬ (b0 = true)) ∨ (x0 = 0)) ∧
  ∀ x5 : Int, x5 = IntKind.i64.wrap (x0 - 1) →
  ∀ x6 : Int, x6 = (if x5 < x3 then x5 else x3) →
  (¬ (b0 = true)) ∧
  (0 ≤ x6) ∧
  (x6 < x0) ∧
  ∃ (x7 : Int), w.cell? ⟨p0.1, p0.2 + (Int.toNat x6) * 3 + 1, none⟩ = some (.int .i64 x7) ∧
  ∃ (x8 : Int), w.cell? ⟨p0.1, p0.2 + (Int.toNat x6) * 3 + 2, none⟩ = some (.int .i64 x8) ∧
  ∃ (x9 : Int), (∀ w' : World, Below w.heap.size w w' → Calls Tryz.prog 45 #[.agg #[.int .i64 x7, .int .i64 x8]] w' (Vc.Ret (.int .i64 x9) w')) ∧
  ∃ (b1 : Bool), ∃ (x10 : Int), ∃ (x11 : Int), (∀ w' : World, Below w.heap.size w w' → Calls Tryz.prog 20 #[.int .i64 x9] w' (Vc.Ret (.agg #[.bool b1, .int .u64 x10, .int .u64 x11]) w')) ∧
  (.tuple #[.agg #[.bool b1, .int .u64 x10, .int .u64 x11], .agg #[.bool b1, .int .u64 x10, .int .u64 x11]] : Value) = v)) ∧ (¬ (x4 = x2) → (
  ∀ x5 : Int, x5 = IntKind.i64.wrap (x3 - 1) →
  (¬ (b0 = true)) ∧
  (0 ≤ x5) ∧
  (x5 < x0) ∧
  ∃ (x6 : Int), w.cell? ⟨p0.1, p0.2 + (Int.toNat x5) * 3 + 0, none⟩ = some (.int .i64 x6) ∧
  ∃ (x7 : Int), w.cell? ⟨p0.1, p0.2 + (Int.toNat x5) * 3 + 1, none⟩ = some (.int .i64 x7) ∧
  ∃ (x8 : Int), w.cell? ⟨p0.1, p0.2 + (Int.toNat x5) * 3 + 2, none⟩ = some (.int .i64 x8) ∧
  (¬ (b0 = true)) ∧
  (0 ≤ x3) ∧
  (x3 < x0) ∧
  ∃ (x9 : Int), w.cell? ⟨p0.1, p0.2 + (Int.toNat x3) * 3 + 0, none⟩ = some (.int .i64 x9) ∧
  ∃ (x10 : Int), w.cell? ⟨p0.1, p0.2 + (Int.toNat x3) * 3 + 1, none⟩ = some (.int .i64 x10) ∧
  ∃ (x11 : Int), w.cell? ⟨p0.1, p0.2 + (Int.toNat x3) * 3 + 2, none⟩ = some (.int .i64 x11) ∧
  ∃ (x12 : Int), (∀ w' : World, Below w.heap.size w w' → Calls Tryz.prog 45 #[.agg #[.int .i64 x7, .int .i64 x8]] w' (Vc.Ret (.int .i64 x12) w')) ∧
  ∃ (x13 : Int), (∀ w' : World, Below w.heap.size w w' → Calls Tryz.prog 45 #[.agg #[.int .i64 x10, .int .i64 x11]] w' (Vc.Ret (.int .i64 x13) w')) ∧
  ∀ x14 : Int, x14 = IntKind.i64.wrap (x13 - x12) →
  ∀ x15 : Int, x15 = IntKind.i64.wrap (x2 - x6) →
  ∃ (b1 : Bool), ∃ (x16 : Int), ∃ (x17 : Int), (∀ w' : World, Below w.heap.size w w' → Calls Tryz.prog 70 #[.int .i64 x14, .int .i64 x15] w' (Vc.Ret (.agg #[.bool b1, .int .u64 x16, .int .u64 x17]) w')) ∧
  ∀ x18 : Int, x18 = IntKind.i64.wrap (x9 - x6) →
  ∃ (b2 : Bool), ∃ (x19 : Int), ∃ (x20 : Int), (∀ w' : World, Below w.heap.size w w' → Calls Tryz.prog 20 #[.int .i64 x18] w' (Vc.Ret (.agg #[.bool b2, .int .u64 x19, .int .u64 x20]) w')) ∧
  ∃ (b3 : Bool), ∃ (x21 : Int), ∃ (x22 : Int), ∃ (b4 : Bool), ∃ (x23 : Int), ∃ (x24 : Int), (∀ w' : World, Below w.heap.size w w' → Calls Tryz.prog 66 #[.agg #[.bool b1, .int .u64 x16, .int .u64 x17], .agg #[.bool b2, .int .u64 x19, .int .u64 x20]] w' (Vc.Ret (.tuple #[.agg #[.bool b3, .int .u64 x21, .int .u64 x22], .agg #[.bool b4, .int .u64 x23, .int .u64 x24]]) w')) ∧
  ∃ (b5 : Bool), ∃ (x25 : Int), ∃ (x26 : Int), (∀ w' : World, Below w.heap.size w w' → Calls Tryz.prog 20 #[.int .i64 x12] w' (Vc.Ret (.agg #[.bool b5, .int .u64 x25, .int .u64 x26]) w')) ∧
  ∃ (b6 : Bool), ∃ (x27 : Int), ∃ (x28 : Int), (∀ w' : World, Below w.heap.size w w' → Calls Tryz.prog 27 #[.agg #[.bool b5, .int .u64 x25, .int .u64 x26], .agg #[.bool b3, .int .u64 x21, .int .u64 x22]] w' (Vc.Ret (.agg #[.bool b6, .int .u64 x27, .int .u64 x28]) w')) ∧
  ∃ (b7 : Bool), ∃ (x29 : Int), ∃ (x30 : Int), (∀ w' : World, Below w.heap.size w w' → Calls Tryz.prog 20 #[.int .i64 x12] w' (Vc.Ret (.agg #[.bool b7, .int .u64 x29, .int .u64 x30]) w')) ∧
  ∃ (b8 : Bool), ∃ (x31 : Int), ∃ (x32 : Int), (∀ w' : World, Below w.heap.size w w' → Calls Tryz.prog 27 #[.agg #[.bool b7, .int .u64 x29, .int .u64 x30], .agg #[.bool b4, .int .u64 x23, .int .u64 x24]] w' (Vc.Ret (.agg #[.bool b8, .int .u64 x31, .int .u64 x32]) w')) ∧
  (.tuple #[.agg #[.bool b6, .int .u64 x27, .int .u64 x28], .agg #[.bool b8, .int .u64 x31, .int .u64 x32]] : Value) = v)))))))))) : Calls Tryz.prog 43 #[(if b0 = true then .slice none 0 0 else .slice (some (Vc.qad p0 (Int.toNat x0) (Int.toNat x1))) (Int.toNat x0) (Int.toNat x1) : Value), .int .i64 x2, .func (.func 45) #[] #[]] w (Vc.Ret v w) :=
  Vc.pure_of base [(13000000000002, .inv [] [8] [14, 15, 16, 17, 18, 19, 20, 21, 22, 23, 24, 25, 26, 27, 28])] 200 Tryz.func43 (b := (Tryz.f43.body).getD .skip) (by kernel_rfl) [.cv (.one (.qsl 0 0 3 (.var 0) (.var 1))), .cv (.one (.int .i64 (.var 2))), .cv (.one (.fn 45 []))] ⟨3, 1, 0, 1, 0, 0, 0⟩ (Vc.envOf [x0, x1, x2] [b0] [] [p0]) (by kernel_rfl) (by kernel_rfl) (by kernel_rfl) h

theorem vc_span_Look (p0 : Nat × Nat) (x0 x1 x2 x3 : Int) (b0 : Bool) (w : World) (v : Value) (h : 
  ∃ (x4 : Int), (∀ w' : World, Below w.heap.size w w' → Calls Tryz.prog 41 #[(if b0 = true then .slice none 0 0 else .slice (some (Vc.qad p0 (Int.toNat x0) (Int.toNat x1))) (Int.toNat x0) (Int.toNat x1) : Value)] w' (Vc.Ret (.int .i64 x4) w')) ∧
  ((x4 = 0) → (
  ∃ (x5 : Int), (∀ w' : World, Below w.heap.size w w' → Calls Tryz.prog 39 #[.agg #[.int .i64 x2, .int .i64 x3]] w' (Vc.Ret (.int .i64 x5) w')) ∧
  ((x5 = 0) → (
  ∃ (b1 : Bool), ∃ (x6 : Int), ∃ (x7 : Int), ∃ (b2 : Bool), ∃ (x8 : Int), ∃ (x9 : Int), (∀ w' : World, Below w.heap.size w w' → Calls Tryz.prog 43 #[(if b0 = true then .slice none 0 0 else .slice (some (Vc.qad p0 (Int.toNat x0) (Int.toNat x1))) (Int.toNat x0) (Int.toNat x1) : Value), .int .i64 x2, .func (.func 44) #[] #[]] w' (Vc.Ret (.tuple #[.agg #[.bool b1, .int .u64 x6, .int .u64 x7], .agg #[.bool b2, .int .u64 x8, .int .u64 x9]]) w')) ∧
  ∃ (b3 : Bool), ∃ (x10 : Int), ∃ (x11 : Int), ∃ (b4 : Bool), ∃ (x12 : Int), ∃ (x13 : Int), (∀ w' : World, Below w.heap.size w w' → Calls Tryz.prog 43 #[(if b0 = true then .slice none 0 0 else .slice (some (Vc.qad p0 (Int.toNat x0) (Int.toNat x1))) (Int.toNat x0) (Int.toNat x1) : Value), .int .i64 x2, .func (.func 45) #[] #[]] w' (Vc.Ret (.tuple #[.agg #[.bool b3, .int .u64 x10, .int .u64 x11], .agg #[.bool b4, .int .u64 x12, .int .u64 x13]]) w')) ∧
  ∃ (b5 : Bool), ∃ (x14 : Int), ∃ (x15 : Int), ∃ (b6 : Bool), ∃ (x16 : Int), ∃ (x17 : Int), (∀ w' : World, Below w.heap.size w w' → Calls Tryz.prog 43 #[(if b0 = true then .slice none 0 0 else .slice (some (Vc.qad p0 (Int.toNat x0) (Int.toNat x1))) (Int.toNat x0) (Int.toNat x1) : Value), .int .i64 x3, .func (.func 44) #[] #[]] w' (Vc.Ret (.tuple #[.agg #[.bool b5, .int .u64 x14, .int .u64 x15], .agg #[.bool b6, .int .u64 x16, .int .u64 x17]]) w')) ∧
  ∃ (b7 : Bool), ∃ (x18 : Int), ∃ (x19 : Int), ∃ (b8 : Bool), ∃ (x20 : Int), ∃ (x21 : Int), (∀ w' : World, Below w.heap.size w w' → Calls Tryz.prog 43 #[(if b0 = true then .slice none 0 0 else .slice (some (Vc.qad p0 (Int.toNat x0) (Int.toNat x1))) (Int.toNat x0) (Int.toNat x1) : Value), .int .i64 x3, .func (.func 45) #[] #[]] w' (Vc.Ret (.tuple #[.agg #[.bool b7, .int .u64 x18, .int .u64 x19], .agg #[.bool b8, .int .u64 x20, .int .u64 x21]]) w')) ∧
  (0 ≤ x0) ∧
  ((¬ (b0 = true)) ∨ (x0 = 0)) ∧
  ∃ (Ix22 : List Vc.Vl → Prop) (mx22 : List Vc.Vl → Nat), Ix22 [.i 0, .l (([.bool b1, .int .u64 x6, .int .u64 x7, .bool b5, .int .u64 x14, .int .u64 x15] : List Value)), .l (([.bool b4, .int .u64 x12, .int .u64 x13, .bool b8, .int .u64 x20, .int .u64 x21] : List Value))] ∧ ∀ (x22 : Int) (l0 : List Vc.OV) (l1 : List Vc.OV), Ix22 [.i x22, .l ((l0.map (·.1) ++ (([] : List Value)))), .l ((l1.map (·.1) ++ (([] : List Value))))] → (
  ((x22 < x0) → (
  (¬ (b0 = true)) ∧
  (0 ≤ x22) ∧
  (x22 < x0) ∧
  ∃ (x23 : Int), w.cell? ⟨p0.1, p0.2 + (Int.toNat x22) * 3 + 0, none⟩ = some (.int .i64 x23) ∧
  ∃ (x24 : Int), w.cell? ⟨p0.1, p0.2 + (Int.toNat x22) * 3 + 1, none⟩ = some (.int .i64 x24) ∧
  ∃ (x25 : Int), w.cell? ⟨p0.1, p0.2 + (Int.toNat x22) * 3 + 2, none⟩ = some (.int .i64 x25) ∧
  ∃ (b9 : Bool), (∀ w' : World, Below w.heap.size w w' → Calls Tryz.prog 46 #[.agg #[.int .i64 x2, .int .i64 x3], .int .i64 x23] w' (Vc.Ret (.bool b9) w')) ∧
  ((b9 = true) → (
  ∃ (b10 : Bool), ∃ (x26 : Int), ∃ (x27 : Int), ∃ (b11 : Bool), ∃ (x28 : Int), ∃ (x29 : Int), (∀ w' : World, Below w.heap.size w w' → Calls Tryz.prog 43 #[(if b0 = true then .slice none 0 0 else .slice (some (Vc.qad p0 (Int.toNat x0) (Int.toNat x1))) (Int.toNat x0) (Int.toNat x1) : Value), .int .i64 x23, .func (.func 44) #[] #[]] w' (Vc.Ret (.tuple #[.agg #[.bool b10, .int .u64 x26, .int .u64 x27], .agg #[.bool b11, .int .u64 x28, .int .u64 x29]]) w')) ∧
  ∃ (b12 : Bool), ∃ (x30 : Int), ∃ (x31 : Int), ∃ (b13 : Bool), ∃ (x32 : Int), ∃ (x33 : Int), (∀ w' : World, Below w.heap.size w w' → Calls Tryz.prog 43 #[(if b0 = true then .slice none 0 0 else .slice (some (Vc.qad p0 (Int.toNat x0) (Int.toNat x1))) (Int.toNat x0) (Int.toNat x1) : Value), .int .i64 x23, .func (.func 45) #[] #[]] w' (Vc.Ret (.tuple #[.agg #[.bool b12, .int .u64 x30, .int .u64 x31], .agg #[.bool b13, .int .u64 x32, .int .u64 x33]]) w')) ∧
  ∀ x34 : Int, x34 = (((3 + (l0.length + 0)) / 3 : Nat) : Int) →
  (x34 ≤ 1073741824) ∧
  ∀ x35 : Int, x35 = (((3 + (l1.length + 0)) / 3 : Nat) : Int) →
  (x35 ≤ 1073741824) ∧
  ∀ x36 : Int, x36 = IntKind.i64.wrap (x22 + 1) →
  Ix22 [.i x36, .l ((l0.map (·.1) ++ (([.bool b10, .int .u64 x26, .int .u64 x27] : List Value)))), .l ((l1.map (·.1) ++ (([.bool b13, .int .u64 x32, .int .u64 x33] : List Value))))] ∧ mx22 [.i x36, .l ((l0.map (·.1) ++ (([.bool b10, .int .u64 x26, .int .u64 x27] : List Value)))), .l ((l1.map (·.1) ++ (([.bool b13, .int .u64 x32, .int .u64 x33] : List Value))))] < mx22 [.i x22, .l ((l0.map (·.1) ++ (([] : List Value)))), .l ((l1.map (·.1) ++ (([] : List Value))))])) ∧ (¬ (b9 = true) → (
  ∀ x26 : Int, x26 = IntKind.i64.wrap (x22 + 1) →
  Ix22 [.i x26, .l ((l0.map (·.1) ++ (([] : List Value)))), .l ((l1.map (·.1) ++ (([] : List Value))))] ∧ mx22 [.i x26, .l ((l0.map (·.1) ++ (([] : List Value)))), .l ((l1.map (·.1) ++ (([] : List Value))))] < mx22 [.i x22, .l ((l0.map (·.1) ++ (([] : List Value)))), .l ((l1.map (·.1) ++ (([] : List Value))))])))) ∧ (¬ (x22 < x0) → (
  ∃ (b9 : Bool), ∃ (x23 : Int), ∃ (x24 : Int), ∃ (b10 : Bool), ∃ (x25 : Int), ∃ (x26 : Int), (∀ (β : Nat → Nat) (w' : World), Below w.heap.size w w' → (Vc.RowOk w.heap.size (β 33) (β 34) (β 35) (β 36) ((l0.map (·.1) ++ (([] : List Value)))) 3 48 w' ∧ True) → Calls Tryz.prog 36 #[Vc.ownV (β 33) (β 34) (β 35) (β 36)] w' (Vc.Ret (.tuple #[.agg #[.bool b9, .int .u64 x23, .int .u64 x24], .agg #[.bool b10, .int .u64 x25, .int .u64 x26]]) w')) ∧
  ∃ (b11 : Bool), ∃ (x27 : Int), ∃ (x28 : Int), ∃ (b12 : Bool), ∃ (x29 : Int), ∃ (x30 : Int), (∀ (β : Nat → Nat) (w' : World), Below w.heap.size w w' → (Vc.RowOk w.heap.size (β 37) (β 38) (β 39) (β 40) ((l1.map (·.1) ++ (([] : List Value)))) 3 48 w' ∧ True) → Calls Tryz.prog 36 #[Vc.ownV (β 37) (β 38) (β 39) (β 40)] w' (Vc.Ret (.tuple #[.agg #[.bool b11, .int .u64 x27, .int .u64 x28], .agg #[.bool b12, .int .u64 x29, .int .u64 x30]]) w')) ∧
  ∃ (x31 : Int), ∃ (x32 : Int), ∃ (x33 : Int), (∀ w' : World, Below w.heap.size w w' → Calls Tryz.prog 22 #[.agg #[.bool b9, .int .u64 x23, .int .u64 x24], .agg #[.bool b12, .int .u64 x29, .int .u64 x30]] w' (Vc.Ret (.tuple #[.agg #[.int .i64 x31, .int .i64 x32], .int .i64 x33]) w')) ∧
  (.tuple #[.agg #[.int .i64 x31, .int .i64 x32], .int .i64 x33] : Value) = v))))) ∧ (¬ (x5 = 0) → (
  (.tuple #[.agg #[.int .i64 0, .int .i64 0], .int .i64 2] : Value) = v)))) ∧ (¬ (x4 = 0) → (
  (.tuple #[.agg #[.int .i64 0, .int .i64 0], .int .i64 2] : Value) = v))) : Calls Tryz.prog 12 #[(if b0 = true then .slice none 0 0 else .slice (some (Vc.qad p0 (Int.toNat x0) (Int.toNat x1))) (Int.toNat x0) (Int.toNat x1) : Value), .agg #[.int .i64 x2, .int .i64 x3]] w (Vc.Ret v w) :=
  Vc.pure_of (base_inl [42] (by kernel_rfl)) [(1000000000008, .inv [(6, 0), (7, 0)] [35] [36, 37, 38, 10, 39, 40, 41, 42, 43, 44, 45, 46, 47])] 200 Tryz.func12 (b := (Tryz.f12.body).getD .skip) (by kernel_rfl) [.cv (.one (.qsl 0 0 3 (.var 0) (.var 1))), .cv (.agg [.int .i64 (.var 2), .int .i64 (.var 3)])] ⟨4, 1, 0, 1, 0, 0, 0⟩ (Vc.envOf [x0, x1, x2, x3] [b0] [] [p0]) (by kernel_rfl) (by kernel_rfl) (by kernel_rfl) h

theorem vc_span_checked_q (p0 : Nat × Nat) (x0 x1 : Int) (b0 : Bool) (w : World) (v : Value) (h : 
  (0 ≤ x0) ∧
  ((¬ (b0 = true)) ∨ (x0 = 0)) ∧
  ∃ (Ix2 : List Vc.Vl → Prop) (mx2 : List Vc.Vl → Nat), Ix2 [.i 0, .i 0] ∧ ∀ (x2 : Int) (x3 : Int), Ix2 [.i x2, .i x3] → (
  ((x3 < x0) → (
  (¬ (b0 = true)) ∧
  (0 ≤ x3) ∧
  (x3 < x0) ∧
  ∃ (x4 : Int), w.cell? ⟨p0.1, p0.2 + (Int.toNat x3) * 2 + 0, none⟩ = some (.int .i64 x4) ∧
  ∃ (x5 : Int), w.cell? ⟨p0.1, p0.2 + (Int.toNat x3) * 2 + 1, none⟩ = some (.int .i64 x5) ∧
  ∃ (x6 : Int), (∀ w' : World, Below w.heap.size w w' → Calls Tryz.prog 39 #[.agg #[.int .i64 x4, .int .i64 x5]] w' (Vc.Ret (.int .i64 x6) w')) ∧
  ((x6 = 0) → (
  ∀ x7 : Int, x7 = IntKind.i64.wrap (x3 + 1) →
  Ix2 [.i x2, .i x7] ∧ mx2 [.i x2, .i x7] < mx2 [.i x2, .i x3])) ∧ (¬ (x6 = 0) → (
  (.int .i64 x6 : Value) = v)))) ∧ (¬ (x3 < x0) → (
  (.int .i64 0 : Value) = v)))) : Calls Tryz.prog 34 #[(if b0 = true then .slice none 0 0 else .slice (some (Vc.qad p0 (Int.toNat x0) (Int.toNat x1))) (Int.toNat x0) (Int.toNat x1) : Value)] w (Vc.Ret v w) :=
  Vc.pure_of base [(1000000000002, .inv [] [2, 8] [9, 10, 11, 4, 12, 13, 5, 14, 15, 16, 17])] 200 Tryz.func34 (b := (Tryz.f34.body).getD .skip) (by kernel_rfl) [.cv (.one (.qsl 0 0 2 (.var 0) (.var 1)))] ⟨2, 1, 0, 1, 0, 0, 0⟩ (Vc.envOf [x0, x1] [b0] [] [p0]) (by kernel_rfl) (by kernel_rfl) (by kernel_rfl) h

theorem vc_span_few_1 (p0 : Nat × Nat) (w : World) (v : Value) (h : 
  ∃ (b0 : Bool) (p1 : Nat × Nat) (x0 x1 : Int), w.cell? ⟨p0.1, p0.2 + (Int.toNat 0) * 1 + 0, none⟩ = some ((if b0 = true then .slice none 0 0 else .slice (some (Vc.qad p1 (Int.toNat x0) (Int.toNat x1))) (Int.toNat x0) (Int.toNat x1) : Value)) ∧
  (0 ≤ x0) ∧
  ((¬ (b0 = true)) ∨ (x0 = 0)) ∧
  ((64 < x0) → (
  (.int .i64 3 : Value) = v)) ∧ (¬ (64 < x0) → (
  ∃ (b1 : Bool) (p2 : Nat × Nat) (x2 x3 : Int), w.cell? ⟨p0.1, p0.2 + (Int.toNat 0) * 1 + 0, none⟩ = some ((if b1 = true then .slice none 0 0 else .slice (some (Vc.qad p2 (Int.toNat x2) (Int.toNat x3))) (Int.toNat x2) (Int.toNat x3) : Value)) ∧
  ∃ (x4 : Int), (∀ w' : World, Below w.heap.size w w' → Calls Tryz.prog 34 #[(if b1 = true then .slice none 0 0 else .slice (some (Vc.qad p2 (Int.toNat x2) (Int.toNat x3))) (Int.toNat x2) (Int.toNat x3) : Value)] w' (Vc.Ret (.int .i64 x4) w')) ∧
  ((x4 = 0) → (
  (.int .i64 0 : Value) = v)) ∧ (¬ (x4 = 0) → (
  (.int .i64 x4 : Value) = v))))) : Calls Tryz.prog 49 #[.slice (some ⟨p0.1, p0.2, none⟩) 1 1] w (Vc.Ret v w) :=
  Vc.pure_of base [(1000000000002, .unroll), (1000000000008, .unroll)] 200 Tryz.func49 (b := (Tryz.f49.body).getD .skip) (by kernel_rfl) [.cv (.one (.xsl 0 (.lit (0)) 1 (.lit (1)) (.lit (1))))] ⟨0, 0, 0, 1, 0, 0, 0⟩ (Vc.envOf [] [] [] [p0]) (by kernel_rfl) (by kernel_rfl) (by kernel_rfl) h

theorem vc_span_few_2 (p0 : Nat × Nat) (w : World) (v : Value) (h : 
  ∃ (b0 : Bool) (p1 : Nat × Nat) (x0 x1 : Int), w.cell? ⟨p0.1, p0.2 + (Int.toNat 0) * 1 + 0, none⟩ = some ((if b0 = true then .slice none 0 0 else .slice (some (Vc.qad p1 (Int.toNat x0) (Int.toNat x1))) (Int.toNat x0) (Int.toNat x1) : Value)) ∧
  (0 ≤ x0) ∧
  ((¬ (b0 = true)) ∨ (x0 = 0)) ∧
  ((64 < x0) → (
  (.int .i64 3 : Value) = v)) ∧ (¬ (64 < x0) → (
  ∃ (b1 : Bool) (p2 : Nat × Nat) (x2 x3 : Int), w.cell? ⟨p0.1, p0.2 + (Int.toNat 1) * 1 + 0, none⟩ = some ((if b1 = true then .slice none 0 0 else .slice (some (Vc.qad p2 (Int.toNat x2) (Int.toNat x3))) (Int.toNat x2) (Int.toNat x3) : Value)) ∧
  (0 ≤ x2) ∧
  ((¬ (b1 = true)) ∨ (x2 = 0)) ∧
  ((64 < x2) → (
  (.int .i64 3 : Value) = v)) ∧ (¬ (64 < x2) → (
  ∃ (b2 : Bool) (p3 : Nat × Nat) (x4 x5 : Int), w.cell? ⟨p0.1, p0.2 + (Int.toNat 0) * 1 + 0, none⟩ = some ((if b2 = true then .slice none 0 0 else .slice (some (Vc.qad p3 (Int.toNat x4) (Int.toNat x5))) (Int.toNat x4) (Int.toNat x5) : Value)) ∧
  ∃ (x6 : Int), (∀ w' : World, Below w.heap.size w w' → Calls Tryz.prog 34 #[(if b2 = true then .slice none 0 0 else .slice (some (Vc.qad p3 (Int.toNat x4) (Int.toNat x5))) (Int.toNat x4) (Int.toNat x5) : Value)] w' (Vc.Ret (.int .i64 x6) w')) ∧
  ((x6 = 0) → (
  ∃ (b3 : Bool) (p4 : Nat × Nat) (x7 x8 : Int), w.cell? ⟨p0.1, p0.2 + (Int.toNat 1) * 1 + 0, none⟩ = some ((if b3 = true then .slice none 0 0 else .slice (some (Vc.qad p4 (Int.toNat x7) (Int.toNat x8))) (Int.toNat x7) (Int.toNat x8) : Value)) ∧
  ∃ (x9 : Int), (∀ w' : World, Below w.heap.size w w' → Calls Tryz.prog 34 #[(if b3 = true then .slice none 0 0 else .slice (some (Vc.qad p4 (Int.toNat x7) (Int.toNat x8))) (Int.toNat x7) (Int.toNat x8) : Value)] w' (Vc.Ret (.int .i64 x9) w')) ∧
  ((x9 = 0) → (
  (.int .i64 0 : Value) = v)) ∧ (¬ (x9 = 0) → (
  (.int .i64 x9 : Value) = v)))) ∧ (¬ (x6 = 0) → (
  (.int .i64 x6 : Value) = v))))))) : Calls Tryz.prog 49 #[.slice (some ⟨p0.1, p0.2, none⟩) 2 2] w (Vc.Ret v w) :=
  Vc.pure_of base [(1000000000002, .unroll), (1000000000008, .unroll)] 200 Tryz.func49 (b := (Tryz.f49.body).getD .skip) (by kernel_rfl) [.cv (.one (.xsl 0 (.lit (0)) 1 (.lit (2)) (.lit (2))))] ⟨0, 0, 0, 1, 0, 0, 0⟩ (Vc.envOf [] [] [] [p0]) (by kernel_rfl) (by kernel_rfl) (by kernel_rfl) h

theorem vc_span_Sum (p0 : Nat × Nat) (x0 x1 : Int) (b0 : Bool) (w : World) (v : Value) (h : 
  ∃ (x2 : Int), (∀ (β : Nat → Nat) (w' : World), Below w.heap.size w w' → ((w.heap.size ≤ β 1 ∧ w'.heap[β 1]? = some (.cells #[(if b0 = true then .slice none 0 0 else .slice (some (Vc.qad p0 (Int.toNat x0) (Int.toNat x1))) (Int.toNat x0) (Int.toNat x1) : Value)] 43)) ∧ True) → Calls Tryz.prog 49 #[.slice (some ⟨β 1, 0, none⟩) 1 1] w' (Vc.Ret (.int .i64 x2) w')) ∧
  ((x2 = 0) → (
  (0 ≤ x0) ∧
  ((¬ (b0 = true)) ∨ (x0 = 0)) ∧
  ∃ (Ix3 : List Vc.Vl → Prop) (mx3 : List Vc.Vl → Nat), Ix3 [.i 0, .i 0, .i 0] ∧ ∀ (x3 : Int) (x4 : Int) (x5 : Int), Ix3 [.i x3, .i x4, .i x5] → (
  ((x3 < x0) → (
  (¬ (b0 = true)) ∧
  (0 ≤ x3) ∧
  (x3 < x0) ∧
  ∃ (x6 : Int), w.cell? ⟨p0.1, p0.2 + (Int.toNat x3) * 2 + 0, none⟩ = some (.int .i64 x6) ∧
  ∃ (x7 : Int), w.cell? ⟨p0.1, p0.2 + (Int.toNat x3) * 2 + 1, none⟩ = some (.int .i64 x7) ∧
  ∃ (x8 : Int), ∃ (x9 : Int), ∃ (x10 : Int), (∀ w' : World, Below w.heap.size w w' → Calls Tryz.prog 17 #[.agg #[.int .i64 x4, .int .i64 x5], .agg #[.int .i64 x6, .int .i64 x7]] w' (Vc.Ret (.tuple #[.agg #[.int .i64 x8, .int .i64 x9], .int .i64 x10]) w')) ∧
  ((x10 = 0) → (
  ∀ x11 : Int, x11 = IntKind.i64.wrap (x3 + 1) →
  Ix3 [.i x11, .i x8, .i x9] ∧ mx3 [.i x11, .i x8, .i x9] < mx3 [.i x3, .i x4, .i x5])) ∧ (¬ (x10 = 0) → (
  (.tuple #[.agg #[.int .i64 0, .int .i64 0], .int .i64 x10] : Value) = v)))) ∧ (¬ (x3 < x0) → (
  (.tuple #[.agg #[.int .i64 x4, .int .i64 x5], .int .i64 0] : Value) = v))))) ∧ (¬ (x2 = 0) → (
  (.tuple #[.agg #[.int .i64 0, .int .i64 0], .int .i64 x2] : Value) = v))) : Calls Tryz.prog 16 #[(if b0 = true then .slice none 0 0 else .slice (some (Vc.qad p0 (Int.toNat x0) (Int.toNat x1))) (Int.toNat x0) (Int.toNat x1) : Value)] w (Vc.Ret v w) :=
  Vc.pure_of (base_inl [53, 54, 73, 55] (by kernel_rfl)) [(1000000000001, .invb [(6, 0), (6, 1)] [] [6] [7, 8, 3, 9, 10, 11, 12, 13, 14, 15, 16, 17])] 200 Tryz.func16 (b := (Tryz.f16.body).getD .skip) (by kernel_rfl) [.cv (.one (.qsl 0 0 2 (.var 0) (.var 1)))] ⟨2, 1, 0, 1, 0, 0, 0⟩ (Vc.envOf [x0, x1] [b0] [] [p0]) (by kernel_rfl) (by kernel_rfl) (by kernel_rfl) h

theorem vc_span_Dot (p0 p1 : Nat × Nat) (x0 x1 x2 x3 : Int) (b0 b1 : Bool) (w : World) (v : Value) (h : 
  ∃ (x4 : Int), (∀ (β : Nat → Nat) (w' : World), Below w.heap.size w w' → ((w.heap.size ≤ β 1 ∧ w'.heap[β 1]? = some (.cells #[(if b0 = true then .slice none 0 0 else .slice (some (Vc.qad p0 (Int.toNat x0) (Int.toNat x1))) (Int.toNat x0) (Int.toNat x1) : Value), (if b1 = true then .slice none 0 0 else .slice (some (Vc.qad p1 (Int.toNat x2) (Int.toNat x3))) (Int.toNat x2) (Int.toNat x3) : Value)] 43)) ∧ True) → Calls Tryz.prog 49 #[.slice (some ⟨β 1, 0, none⟩) 2 2] w' (Vc.Ret (.int .i64 x4) w')) ∧
  ((x4 = 0) → (
  (0 ≤ x0) ∧
  ((¬ (b0 = true)) ∨ (x0 = 0)) ∧
  (0 ≤ x2) ∧
  ((¬ (b1 = true)) ∨ (x2 = 0)) ∧
  ((x0 = x2) → (
  (0 ≤ x0) ∧
  ((¬ (b0 = true)) ∨ (x0 = 0)) ∧
  (0 ≤ x0) ∧
  (x0 ≤ 1073741824) ∧
  ∀ l0 : List Vc.OV, l0.map (·.1) = Vc.times ([.int .i64 0, .int .i64 0, .int .i64 0, .int .i64 0] : List Value) (Int.toNat x0) →
  (0 ≤ x0) ∧
  ((¬ (b0 = true)) ∨ (x0 = 0)) ∧
  ∃ (Ix5 : List Vc.Vl → Prop) (mx5 : List Vc.Vl → Nat), Ix5 [.i 0, .l ((l0.map (·.1) ++ (([] : List Value))))] ∧ ∀ (x5 : Int) (l1 : List Vc.OV), Ix5 [.i x5, .l ((l1.map (·.1) ++ (([] : List Value))))] → (
  ((x5 < x0) → (
  (¬ (b0 = true)) ∧
  (0 ≤ x5) ∧
  (x5 < x0) ∧
  ∃ (x6 : Int), w.cell? ⟨p0.1, p0.2 + (Int.toNat x5) * 2 + 0, none⟩ = some (.int .i64 x6) ∧
  ∃ (x7 : Int), w.cell? ⟨p0.1, p0.2 + (Int.toNat x5) * 2 + 1, none⟩ = some (.int .i64 x7) ∧
  (¬ (b1 = true)) ∧
  (0 ≤ x5) ∧
  (x5 < x2) ∧
  ∃ (x8 : Int), w.cell? ⟨p1.1, p1.2 + (Int.toNat x5) * 2 + 0, none⟩ = some (.int .i64 x8) ∧
  ∃ (x9 : Int), w.cell? ⟨p1.1, p1.2 + (Int.toNat x5) * 2 + 1, none⟩ = some (.int .i64 x9) ∧
  ∀ x10 : Int, x10 = (((0 + (l1.length + 0)) / 4 : Nat) : Int) →
  (0 ≤ x5) ∧
  (x5 < x10) ∧
  ∀ x11 : Int, x11 = (((0 + (l1.length + 0)) / 4 : Nat) : Int) →
  (0 ≤ x5) ∧
  (x5 < x11) ∧
  ∀ l2 : List Vc.OV, l2.map (·.1) = ((l1.map (·.1) ++ (([] : List Value)))).take ((Int.toNat x5) * 4 + 0) ++ ([.int .i64 x6, .int .i64 x7, .int .i64 x8, .int .i64 x9] : List Value) ++ ((l1.map (·.1) ++ (([] : List Value)))).drop ((Int.toNat x5) * 4 + 0 + 4) →
  ∀ x12 : Int, x12 = IntKind.i64.wrap (x5 + 1) →
  Ix5 [.i x12, .l ((l2.map (·.1) ++ (([] : List Value))))] ∧ mx5 [.i x12, .l ((l2.map (·.1) ++ (([] : List Value))))] < mx5 [.i x5, .l ((l1.map (·.1) ++ (([] : List Value))))])) ∧ (¬ (x5 < x0) → (
  ∀ x6 : Int, x6 = (((0 + (l1.length + 0)) / 4 : Nat) : Int) →
  ∃ (Ix7 : List Vc.Vl → Prop) (mx7 : List Vc.Vl → Nat), Ix7 [.i 0, .i 0, .i 0] ∧ ∀ (x7 : Int) (x8 : Int) (x9 : Int), Ix7 [.i x7, .i x8, .i x9] → (
  ((x7 < x6) → (
  ∀ x10 : Int, x10 = (((0 + (l1.length + 0)) / 4 : Nat) : Int) →
  (0 ≤ x7) ∧
  (x7 < x10) ∧
  ∃ (x11 : Int), ((l1.map (·.1) ++ (([] : List Value))))[(Int.toNat x7) * 4 + 0]? = some (.int .i64 x11) ∧
  ∃ (x12 : Int), ((l1.map (·.1) ++ (([] : List Value))))[(Int.toNat x7) * 4 + 1]? = some (.int .i64 x12) ∧
  ∃ (x13 : Int), ((l1.map (·.1) ++ (([] : List Value))))[(Int.toNat x7) * 4 + 2]? = some (.int .i64 x13) ∧
  ∃ (x14 : Int), ((l1.map (·.1) ++ (([] : List Value))))[(Int.toNat x7) * 4 + 3]? = some (.int .i64 x14) ∧
  ∃ (x15 : Int), ∃ (x16 : Int), ∃ (x17 : Int), (∀ w' : World, Below w.heap.size w w' → Calls Tryz.prog 38 #[.agg #[.int .i64 x11, .int .i64 x12], .agg #[.int .i64 x13, .int .i64 x14]] w' (Vc.Ret (.tuple #[.agg #[.int .i64 x15, .int .i64 x16], .int .i64 x17]) w')) ∧
  ((x17 = 0) → (
  ∃ (x18 : Int), ∃ (x19 : Int), ∃ (x20 : Int), (∀ w' : World, Below w.heap.size w w' → Calls Tryz.prog 17 #[.agg #[.int .i64 x8, .int .i64 x9], .agg #[.int .i64 x15, .int .i64 x16]] w' (Vc.Ret (.tuple #[.agg #[.int .i64 x18, .int .i64 x19], .int .i64 x20]) w')) ∧
  ((x20 = 0) → (
  ∀ x21 : Int, x21 = IntKind.i64.wrap (x7 + 1) →
  Ix7 [.i x21, .i x18, .i x19] ∧ mx7 [.i x21, .i x18, .i x19] < mx7 [.i x7, .i x8, .i x9])) ∧ (¬ (x20 = 0) → (
  (.tuple #[.agg #[.int .i64 0, .int .i64 0], .int .i64 x20] : Value) = v)))) ∧ (¬ (x17 = 0) → (
  ((x17 = 0) → (
  ∀ x18 : Int, x18 = IntKind.i64.wrap (x7 + 1) →
  Ix7 [.i x18, .i x8, .i x9] ∧ mx7 [.i x18, .i x8, .i x9] < mx7 [.i x7, .i x8, .i x9])) ∧ (¬ (x17 = 0) → (
  (.tuple #[.agg #[.int .i64 0, .int .i64 0], .int .i64 x17] : Value) = v)))))) ∧ (¬ (x7 < x6) → (
  (.tuple #[.agg #[.int .i64 x8, .int .i64 x9], .int .i64 0] : Value) = v)))))))) ∧ (¬ (x0 = x2) → (
  (.tuple #[.agg #[.int .i64 0, .int .i64 0], .int .i64 2] : Value) = v)))) ∧ (¬ (x4 = 0) → (
  (.tuple #[.agg #[.int .i64 0, .int .i64 0], .int .i64 x4] : Value) = v))) : Calls Tryz.prog 15 #[(if b0 = true then .slice none 0 0 else .slice (some (Vc.qad p0 (Int.toNat x0) (Int.toNat x1))) (Int.toNat x0) (Int.toNat x1) : Value), (if b1 = true then .slice none 0 0 else .slice (some (Vc.qad p1 (Int.toNat x2) (Int.toNat x3))) (Int.toNat x2) (Int.toNat x3) : Value)] w (Vc.Ret v w) :=
  Vc.pure_of (base_inl [50, 51, 72, 52] (by kernel_rfl)) [(1000000000008, .inv [] [28, 7] [29, 30, 8, 31, 32, 33, 34, 35, 36, 37, 38, 39, 40, 41, 42, 43]), (1000000000001, .invb [(14, 0), (14, 1)] [] [6] [7, 8, 3, 9, 10, 11, 12, 13, 14, 15, 16, 17])] 200 Tryz.func15 (b := (Tryz.f15.body).getD .skip) (by kernel_rfl) [.cv (.one (.qsl 0 0 2 (.var 0) (.var 1))), .cv (.one (.qsl 1 1 2 (.var 2) (.var 3)))] ⟨4, 2, 0, 2, 0, 0, 0⟩ (Vc.envOf [x0, x1, x2, x3] [b0, b1] [] [p0, p1]) (by kernel_rfl) (by kernel_rfl) (by kernel_rfl) h

end Go.Proofs.YtcoakpdafpclpaaGreatDoor
