/- What the walks of functions come to (written by program). -/
import Derived.Test.YtcoakpdafpclpaaDoorVcU
import Derived.Test.YtcoakpdafpclpaaDoorRows
set_option linter.unusedVariables false
set_option maxRecDepth 100000
namespace Go.Proofs.YtcoakpdafpclpaaDoor
open Go Go.RowKit
def fcalls : List Nat := [2, 3, 4, 5, 6, 7, 8, 9, 10, 11, 12, 13, 14, 15, 16, 17, 18, 19, 20, 21, 22, 23, 24, 25, 26, 27, 28, 29, 30, 31, 32, 33, 34, 35, 36, 37, 38, 39, 40, 41, 42, 43, 44, 45, 46, 47, 48, 49, 50, 51, 52, 53, 54, 57, 58, 59, 60, 61, 62, 63, 64, 65, 66, 67, 68, 69, 70, 71, 72, 73, 74, 75, 77, 78, 79, 80, 81, 82, 83, 84, 85, 86, 87, 88, 89, 90, 91, 92, 93, 95, 96, 97, 98, 99, 100, 101, 103, 104, 105, 131]
def fext : List Nat := [0, 1, 55, 56, 76, 94, 102, 106, 107, 108, 109, 110, 111, 112, 113, 114, 115, 116, 117, 118, 119, 120, 121, 122, 123, 124, 125, 126, 127, 128, 129, 130]
theorem base : Vc.Base Tryd.prog fcalls fext [] := ⟨by kernel_rfl, by kernel_rfl, by kernel_rfl⟩
theorem base_inl (l : List Nat) (h : Vc.okCalls Tryd.prog l = true) : Vc.Base Tryd.prog fcalls fext l := ⟨by kernel_rfl, h, by kernel_rfl⟩

theorem vc_span_valid (x0 : Int) (w : World) (v : Value) (h : 
  (.bool (decide (x0 ≥ (-9223372036854775807))) : Value) = v) : Calls Tryd.prog 31 #[.int .i64 x0] w (Vc.Ret v w) :=
  Vc.pure_of base [] 200 Tryd.func31 (b := (Tryd.f31.body).getD .skip) (by kernel_rfl) [.cv (.one (.int .i64 (.var 0)))] ⟨1, 0, 0, 0, 0, 0, 0⟩ (Vc.envOf [x0] [] [] []) (by kernel_rfl) (by kernel_rfl) (by kernel_rfl) h

theorem vc_span_Check (x0 x1 : Int) (w : World) (v : Value) (h : 
  ∃ (b0 : Bool), (∀ w' : World, Below w.heap.size w w' → Calls Tryd.prog 31 #[.int .i64 x0] w' (Vc.Ret (.bool b0) w')) ∧
  ((b0 = true) → (
  ∃ (b1 : Bool), (∀ w' : World, Below w.heap.size w w' → Calls Tryd.prog 31 #[.int .i64 x1] w' (Vc.Ret (.bool b1) w')) ∧
  ((b1 = true) → (
  ((x1 < x0) → (
  (.int .i64 2 : Value) = v)) ∧ (¬ (x1 < x0) → (
  (.int .i64 0 : Value) = v)))) ∧ (¬ (b1 = true) → (
  (.int .i64 2 : Value) = v)))) ∧ (¬ (b0 = true) → (
  (.int .i64 2 : Value) = v))) : Calls Tryd.prog 11 #[.agg #[.int .i64 x0, .int .i64 x1]] w (Vc.Ret v w) :=
  Vc.pure_of base [] 200 Tryd.func11 (b := (Tryd.f11.body).getD .skip) (by kernel_rfl) [.cv (.agg [.int .i64 (.var 0), .int .i64 (.var 1)])] ⟨2, 0, 0, 0, 0, 0, 0⟩ (Vc.envOf [x0, x1] [] [] []) (by kernel_rfl) (by kernel_rfl) (by kernel_rfl) h

theorem vc_span_checked_2 (p0 : Nat × Nat) (w : World) (v : Value) (h : 
  ∃ (x0 : Int), w.cell? ⟨p0.1, p0.2 + (Int.toNat 0) * 2 + 0, none⟩ = some (.int .i64 x0) ∧
  ∃ (x1 : Int), w.cell? ⟨p0.1, p0.2 + (Int.toNat 0) * 2 + 1, none⟩ = some (.int .i64 x1) ∧
  ∃ (x2 : Int), (∀ w' : World, Below w.heap.size w w' → Calls Tryd.prog 11 #[.agg #[.int .i64 x0, .int .i64 x1]] w' (Vc.Ret (.int .i64 x2) w')) ∧
  ((x2 = 0) → (
  ∃ (x3 : Int), w.cell? ⟨p0.1, p0.2 + (Int.toNat 1) * 2 + 0, none⟩ = some (.int .i64 x3) ∧
  ∃ (x4 : Int), w.cell? ⟨p0.1, p0.2 + (Int.toNat 1) * 2 + 1, none⟩ = some (.int .i64 x4) ∧
  ∃ (x5 : Int), (∀ w' : World, Below w.heap.size w w' → Calls Tryd.prog 11 #[.agg #[.int .i64 x3, .int .i64 x4]] w' (Vc.Ret (.int .i64 x5) w')) ∧
  ((x5 = 0) → (
  (.int .i64 0 : Value) = v)) ∧ (¬ (x5 = 0) → (
  (.int .i64 x5 : Value) = v)))) ∧ (¬ (x2 = 0) → (
  (.int .i64 x2 : Value) = v))) : Calls Tryd.prog 43 #[.slice (some ⟨p0.1, p0.2, none⟩) 2 2] w (Vc.Ret v w) :=
  Vc.pure_of base [(1000000000002, .unroll)] 200 Tryd.func43 (b := (Tryd.f43.body).getD .skip) (by kernel_rfl) [.cv (.one (.xsl 0 (.lit (0)) 2 (.lit (2)) (.lit (2))))] ⟨0, 0, 0, 1, 0, 0, 0⟩ (Vc.envOf [] [] [] [p0]) (by kernel_rfl) (by kernel_rfl) (by kernel_rfl) h

theorem vc_span_Within (x0 x1 x2 x3 : Int) (w : World) (v : Value) (h : 
  ∃ (x4 : Int), (∀ (β : Nat → Nat) (w' : World), Below w.heap.size w w' → ((w.heap.size ≤ β 2 ∧ w'.heap[β 2]? = some (.cells #[.int .i64 x0, .int .i64 x1, .int .i64 x2, .int .i64 x3] 24)) ∧ True) → Calls Tryd.prog 43 #[.slice (some ⟨β 2, 0, none⟩) 2 2] w' (Vc.Ret (.int .i64 x4) w')) ∧
  ((x4 = 0) → (
  ((x2 ≤ x0) → (
  (.bool (decide (x1 ≤ x3)) : Value) = v)) ∧ (¬ (x2 ≤ x0) → (
  (.bool false : Value) = v)))) ∧ (¬ (x4 = 0) → (
  (.bool false : Value) = v))) : Calls Tryd.prog 14 #[.agg #[.int .i64 x0, .int .i64 x1], .agg #[.int .i64 x2, .int .i64 x3]] w (Vc.Ret v w) :=
  Vc.pure_of base [] 200 Tryd.func14 (b := (Tryd.f14.body).getD .skip) (by kernel_rfl) [.cv (.agg [.int .i64 (.var 0), .int .i64 (.var 1)]), .cv (.agg [.int .i64 (.var 2), .int .i64 (.var 3)])] ⟨4, 0, 0, 0, 0, 0, 0⟩ (Vc.envOf [x0, x1, x2, x3] [] [] []) (by kernel_rfl) (by kernel_rfl) (by kernel_rfl) h

theorem vc_span_size (x0 : Int) (w : World) (v : Value) (h : 
  ((x0 < 0) → (
  ∀ x1 : Int, x1 = IntKind.u64.wrap (x0) →
  ∀ x2 : Int, x2 = IntKind.u64.wrap (0 - x1) →
  (.int .u64 x2 : Value) = v)) ∧ (¬ (x0 < 0) → (
  ∀ x1 : Int, x1 = IntKind.u64.wrap (x0) →
  (.int .u64 x1 : Value) = v))) : Calls Tryd.prog 32 #[.int .i64 x0] w (Vc.Ret v w) :=
  Vc.pure_of base [] 200 Tryd.func32 (b := (Tryd.f32.body).getD .skip) (by kernel_rfl) [.cv (.one (.int .i64 (.var 0)))] ⟨1, 0, 0, 0, 0, 0, 0⟩ (Vc.envOf [x0] [] [] []) (by kernel_rfl) (by kernel_rfl) (by kernel_rfl) h

theorem vc_span_of (x0 : Int) (w : World) (v : Value) (h : 
  ∃ (x1 : Int), (∀ w' : World, Below w.heap.size w w' → Calls Tryd.prog 32 #[.int .i64 x0] w' (Vc.Ret (.int .u64 x1) w')) ∧
  (.agg #[.bool (decide (x0 < 0)), .int .u64 0, .int .u64 x1] : Value) = v) : Calls Tryd.prog 45 #[.int .i64 x0] w (Vc.Ret v w) :=
  Vc.pure_of base [] 200 Tryd.func45 (b := (Tryd.f45.body).getD .skip) (by kernel_rfl) [.cv (.one (.int .i64 (.var 0)))] ⟨1, 0, 0, 0, 0, 0, 0⟩ (Vc.envOf [x0] [] [] []) (by kernel_rfl) (by kernel_rfl) (by kernel_rfl) h

theorem vc_math_bits_Mul64 (x0 x1 : Int) (w : World) (v : Value) (h : 
  ∀ x2 : Int, x2 = bits .and .u64 x0 4294967295 →
  ∀ x3 : Int, x3 = x0 / 4294967296 →
  ∀ x4 : Int, x4 = bits .and .u64 x1 4294967295 →
  ∀ x5 : Int, x5 = x1 / 4294967296 →
  ∀ x6 : Int, x6 = IntKind.u64.wrap (x2 * x4) →
  ∀ x7 : Int, x7 = IntKind.u64.wrap (x3 * x4) →
  ∀ x8 : Int, x8 = x6 / 4294967296 →
  ∀ x9 : Int, x9 = IntKind.u64.wrap (x7 + x8) →
  ∀ x10 : Int, x10 = bits .and .u64 x9 4294967295 →
  ∀ x11 : Int, x11 = x9 / 4294967296 →
  ∀ x12 : Int, x12 = IntKind.u64.wrap (x2 * x5) →
  ∀ x13 : Int, x13 = IntKind.u64.wrap (x10 + x12) →
  ∀ x14 : Int, x14 = IntKind.u64.wrap (x3 * x5) →
  ∀ x15 : Int, x15 = IntKind.u64.wrap (x14 + x11) →
  ∀ x16 : Int, x16 = x13 / 4294967296 →
  ∀ x17 : Int, x17 = IntKind.u64.wrap (x15 + x16) →
  ∀ x18 : Int, x18 = IntKind.u64.wrap (x0 * x1) →
  (.tuple #[.int .u64 x17, .int .u64 x18] : Value) = v) : Calls Tryd.prog 63 #[.int .u64 x0, .int .u64 x1] w (Vc.Ret v w) :=
  Vc.pure_of base [] 200 Tryd.func63 (b := (Tryd.f63.body).getD .skip) (by kernel_rfl) [.cv (.one (.int .u64 (.var 0))), .cv (.one (.int .u64 (.var 1)))] ⟨2, 0, 0, 0, 0, 0, 0⟩ (Vc.envOf [x0, x1] [] [] []) (by kernel_rfl) (by kernel_rfl) (by kernel_rfl) h

theorem vc_span_times (x0 x1 : Int) (w : World) (v : Value) (h : 
  ∃ (x2 : Int), (∀ w' : World, Below w.heap.size w w' → Calls Tryd.prog 32 #[.int .i64 x0] w' (Vc.Ret (.int .u64 x2) w')) ∧
  ∃ (x3 : Int), (∀ w' : World, Below w.heap.size w w' → Calls Tryd.prog 32 #[.int .i64 x1] w' (Vc.Ret (.int .u64 x3) w')) ∧
  ∃ (x4 : Int), ∃ (x5 : Int), (∀ w' : World, Below w.heap.size w w' → Calls Tryd.prog 63 #[.int .u64 x2, .int .u64 x3] w' (Vc.Ret (.tuple #[.int .u64 x4, .int .u64 x5]) w')) ∧
  (.agg #[.bool (!((decide (x0 < 0)) == (decide (x1 < 0)))), .int .u64 x4, .int .u64 x5] : Value) = v) : Calls Tryd.prog 49 #[.int .i64 x0, .int .i64 x1] w (Vc.Ret v w) :=
  Vc.pure_of base [] 200 Tryd.func49 (b := (Tryd.f49.body).getD .skip) (by kernel_rfl) [.cv (.one (.int .i64 (.var 0))), .cv (.one (.int .i64 (.var 1)))] ⟨2, 0, 0, 0, 0, 0, 0⟩ (Vc.envOf [x0, x1] [] [] []) (by kernel_rfl) (by kernel_rfl) (by kernel_rfl) h

theorem vc__span_big__up_32 (x0 x1 : Int) (b0 : Bool) (w : World) (v : Value) (h : 
  ∀ x2 : Int, x2 = IntKind.u64.wrap (x0 * 4294967296) →
  ∀ x3 : Int, x3 = x1 / 4294967296 →
  ∀ x4 : Int, x4 = bits .or .u64 x2 x3 →
  ∀ x5 : Int, x5 = IntKind.u64.wrap (x1 * 4294967296) →
  (.agg #[.bool b0, .int .u64 x4, .int .u64 x5] : Value) = v) : Calls Tryd.prog 61 #[.agg #[.bool b0, .int .u64 x0, .int .u64 x1], .int .u64 32] w (Vc.Ret v w) :=
  Vc.pure_of base [] 200 Tryd.func61 (b := (Tryd.f61.body).getD .skip) (by kernel_rfl) [.cv (.agg [.bool (.var 0), .int .u64 (.var 0), .int .u64 (.var 1)]), .cv (.one (.int .u64 (.lit (32))))] ⟨2, 1, 0, 0, 0, 0, 0⟩ (Vc.envOf [x0, x1] [b0] [] []) (by kernel_rfl) (by kernel_rfl) (by kernel_rfl) h

theorem vc__span_big__zero (x0 x1 : Int) (b0 : Bool) (w : World) (v : Value) (h : 
  ((x0 = 0) → (
  (.bool (x1 == 0) : Value) = v)) ∧ (¬ (x0 = 0) → (
  (.bool false : Value) = v))) : Calls Tryd.prog 66 #[.agg #[.bool b0, .int .u64 x0, .int .u64 x1]] w (Vc.Ret v w) :=
  Vc.pure_of base [] 200 Tryd.func66 (b := (Tryd.f66.body).getD .skip) (by kernel_rfl) [.cv (.agg [.bool (.var 0), .int .u64 (.var 0), .int .u64 (.var 1)])] ⟨2, 1, 0, 0, 0, 0, 0⟩ (Vc.envOf [x0, x1] [b0] [] []) (by kernel_rfl) (by kernel_rfl) (by kernel_rfl) h

theorem vc__span_big__below (x0 x1 : Int) (b0 : Bool) (w : World) (v : Value) (h : 
  ((b0 = true) → (
  ∃ (b1 : Bool), (∀ w' : World, Below w.heap.size w w' → Calls Tryd.prog 66 #[.agg #[.bool b0, .int .u64 x0, .int .u64 x1]] w' (Vc.Ret (.bool b1) w')) ∧
  (.bool (!b1) : Value) = v)) ∧ (¬ (b0 = true) → (
  (.bool false : Value) = v))) : Calls Tryd.prog 81 #[.agg #[.bool b0, .int .u64 x0, .int .u64 x1]] w (Vc.Ret v w) :=
  Vc.pure_of base [] 200 Tryd.func81 (b := (Tryd.f81.body).getD .skip) (by kernel_rfl) [.cv (.agg [.bool (.var 0), .int .u64 (.var 0), .int .u64 (.var 1)])] ⟨2, 1, 0, 0, 0, 0, 0⟩ (Vc.envOf [x0, x1] [b0] [] []) (by kernel_rfl) (by kernel_rfl) (by kernel_rfl) h

theorem vc_span_less (x0 x1 x2 x3 : Int) (b0 b1 : Bool) (w : World) (v : Value) (h : 
  ∃ (b2 : Bool), (∀ w' : World, Below w.heap.size w w' → Calls Tryd.prog 81 #[.agg #[.bool b0, .int .u64 x0, .int .u64 x1]] w' (Vc.Ret (.bool b2) w')) ∧
  ∃ (b3 : Bool), (∀ w' : World, Below w.heap.size w w' → Calls Tryd.prog 81 #[.agg #[.bool b1, .int .u64 x2, .int .u64 x3]] w' (Vc.Ret (.bool b3) w')) ∧
  ((((b2 = true) ↔ (b3 = true))) → (
  ∃ (b4 : Bool), (∀ w' : World, Below w.heap.size w w' → Calls Tryd.prog 81 #[.agg #[.bool b0, .int .u64 x0, .int .u64 x1]] w' (Vc.Ret (.bool b4) w')) ∧
  ((b4 = true) → (
  ((x2 < x0) → (
  (.bool true : Value) = v)) ∧ (¬ (x2 < x0) → (
  ((x2 = x0) → (
  (.bool (decide (x3 < x1)) : Value) = v)) ∧ (¬ (x2 = x0) → (
  (.bool false : Value) = v)))))) ∧ (¬ (b4 = true) → (
  ((x0 < x2) → (
  (.bool true : Value) = v)) ∧ (¬ (x0 < x2) → (
  ((x0 = x2) → (
  (.bool (decide (x1 < x3)) : Value) = v)) ∧ (¬ (x0 = x2) → (
  (.bool false : Value) = v)))))))) ∧ (¬ (((b2 = true) ↔ (b3 = true))) → (
  ∃ (b4 : Bool), (∀ w' : World, Below w.heap.size w w' → Calls Tryd.prog 81 #[.agg #[.bool b0, .int .u64 x0, .int .u64 x1]] w' (Vc.Ret (.bool b4) w')) ∧
  (.bool b4 : Value) = v))) : Calls Tryd.prog 62 #[.agg #[.bool b0, .int .u64 x0, .int .u64 x1], .agg #[.bool b1, .int .u64 x2, .int .u64 x3]] w (Vc.Ret v w) :=
  Vc.pure_of base [] 200 Tryd.func62 (b := (Tryd.f62.body).getD .skip) (by kernel_rfl) [.cv (.agg [.bool (.var 0), .int .u64 (.var 0), .int .u64 (.var 1)]), .cv (.agg [.bool (.var 1), .int .u64 (.var 2), .int .u64 (.var 3)])] ⟨4, 2, 0, 0, 0, 0, 0⟩ (Vc.envOf [x0, x1, x2, x3] [b0, b1] [] []) (by kernel_rfl) (by kernel_rfl) (by kernel_rfl) h

theorem vc_span_plus (x0 x1 x2 x3 : Int) (b0 b1 : Bool) (w : World) (v : Value) (h : 
  ((((b0 = true) ↔ (b1 = true))) → (
  ∃ (x4 : Int), ∃ (x5 : Int), (true = true ∧ ∀ w' : World, (callFunc 55 #[.int .u64 x1, .int .u64 x3, .int .u64 0]).run Tryd.prog w' = .ok (.value (.tuple #[.int .u64 x4, .int .u64 x5])) w') ∧
  ∃ (x6 : Int), ∃ (x7 : Int), (true = true ∧ ∀ w' : World, (callFunc 55 #[.int .u64 x0, .int .u64 x2, .int .u64 x5]).run Tryd.prog w' = .ok (.value (.tuple #[.int .u64 x6, .int .u64 x7])) w') ∧
  (.agg #[.bool b0, .int .u64 x6, .int .u64 x4] : Value) = v)) ∧ (¬ (((b0 = true) ↔ (b1 = true))) → (
  ((x0 < x2) → (
  ∃ (x4 : Int), ∃ (x5 : Int), (true = true ∧ ∀ w' : World, (callFunc 56 #[.int .u64 x3, .int .u64 x1, .int .u64 0]).run Tryd.prog w' = .ok (.value (.tuple #[.int .u64 x4, .int .u64 x5])) w') ∧
  ∃ (x6 : Int), ∃ (x7 : Int), (true = true ∧ ∀ w' : World, (callFunc 56 #[.int .u64 x2, .int .u64 x0, .int .u64 x5]).run Tryd.prog w' = .ok (.value (.tuple #[.int .u64 x6, .int .u64 x7])) w') ∧
  (.agg #[.bool b1, .int .u64 x6, .int .u64 x4] : Value) = v)) ∧ (¬ (x0 < x2) → (
  ((x0 = x2) → (
  ((x1 < x3) → (
  ∃ (x4 : Int), ∃ (x5 : Int), (true = true ∧ ∀ w' : World, (callFunc 56 #[.int .u64 x3, .int .u64 x1, .int .u64 0]).run Tryd.prog w' = .ok (.value (.tuple #[.int .u64 x4, .int .u64 x5])) w') ∧
  ∃ (x6 : Int), ∃ (x7 : Int), (true = true ∧ ∀ w' : World, (callFunc 56 #[.int .u64 x2, .int .u64 x0, .int .u64 x5]).run Tryd.prog w' = .ok (.value (.tuple #[.int .u64 x6, .int .u64 x7])) w') ∧
  (.agg #[.bool b1, .int .u64 x6, .int .u64 x4] : Value) = v)) ∧ (¬ (x1 < x3) → (
  ∃ (x4 : Int), ∃ (x5 : Int), (true = true ∧ ∀ w' : World, (callFunc 56 #[.int .u64 x1, .int .u64 x3, .int .u64 0]).run Tryd.prog w' = .ok (.value (.tuple #[.int .u64 x4, .int .u64 x5])) w') ∧
  ∃ (x6 : Int), ∃ (x7 : Int), (true = true ∧ ∀ w' : World, (callFunc 56 #[.int .u64 x0, .int .u64 x2, .int .u64 x5]).run Tryd.prog w' = .ok (.value (.tuple #[.int .u64 x6, .int .u64 x7])) w') ∧
  (.agg #[.bool b0, .int .u64 x6, .int .u64 x4] : Value) = v)))) ∧ (¬ (x0 = x2) → (
  ∃ (x4 : Int), ∃ (x5 : Int), (true = true ∧ ∀ w' : World, (callFunc 56 #[.int .u64 x1, .int .u64 x3, .int .u64 0]).run Tryd.prog w' = .ok (.value (.tuple #[.int .u64 x4, .int .u64 x5])) w') ∧
  ∃ (x6 : Int), ∃ (x7 : Int), (true = true ∧ ∀ w' : World, (callFunc 56 #[.int .u64 x0, .int .u64 x2, .int .u64 x5]).run Tryd.prog w' = .ok (.value (.tuple #[.int .u64 x6, .int .u64 x7])) w') ∧
  (.agg #[.bool b0, .int .u64 x6, .int .u64 x4] : Value) = v))))))) : Calls Tryd.prog 21 #[.agg #[.bool b0, .int .u64 x0, .int .u64 x1], .agg #[.bool b1, .int .u64 x2, .int .u64 x3]] w (Vc.Ret v w) :=
  Vc.pure_of base [] 200 Tryd.func21 (b := (Tryd.f21.body).getD .skip) (by kernel_rfl) [.cv (.agg [.bool (.var 0), .int .u64 (.var 0), .int .u64 (.var 1)]), .cv (.agg [.bool (.var 1), .int .u64 (.var 2), .int .u64 (.var 3)])] ⟨4, 2, 0, 0, 0, 0, 0⟩ (Vc.envOf [x0, x1, x2, x3] [b0, b1] [] []) (by kernel_rfl) (by kernel_rfl) (by kernel_rfl) h

theorem vc_math_bits_Div64 (x0 x1 x2 : Int) (w : World) (v : Value) (h : 
  ((x2 = 0) → (
  False /- FAIL load: address -/)) ∧ (¬ (x2 = 0) → (
  ((x2 ≤ x0) → (
  False /- FAIL load: address -/)) ∧ (¬ (x2 ≤ x0) → (
  ((x0 = 0) → (
  (x2 ≠ 0) ∧
  ∀ x3 : Int, x3 = IntKind.u64.wrap (Int.tdiv x1 x2) →
  (x2 ≠ 0) ∧
  ∀ x4 : Int, x4 = Int.tmod x1 x2 →
  (.tuple #[.int .u64 x3, .int .u64 x4] : Value) = v)) ∧ (¬ (x0 = 0) → (
  ∃ (x3 : Int), (∀ w' : World, Below w.heap.size w w' → Calls Tryd.prog 82 #[.int .u64 x2] w' (Vc.Ret (.int .i64 x3) w')) ∧
  ∀ x4 : Int, x4 = IntKind.u64.wrap (x3) →
  (0 ≤ x4) ∧
  ∀ x5 : Int, x5 = IntKind.u64.wrap (x2 * 2 ^ (Nat.min (Int.toNat x4) 64)) →
  ∀ x6 : Int, x6 = x5 / 4294967296 →
  ∀ x7 : Int, x7 = bits .and .u64 x5 4294967295 →
  (0 ≤ x4) ∧
  ∀ x8 : Int, x8 = IntKind.u64.wrap (x0 * 2 ^ (Nat.min (Int.toNat x4) 64)) →
  ∀ x9 : Int, x9 = IntKind.u64.wrap (64 - x4) →
  (0 ≤ x9) ∧
  ∀ x10 : Int, x10 = Int.fdiv x1 (2 ^ (Nat.min (Int.toNat x9) 64)) →
  ∀ x11 : Int, x11 = bits .or .u64 x8 x10 →
  (0 ≤ x4) ∧
  ∀ x12 : Int, x12 = IntKind.u64.wrap (x1 * 2 ^ (Nat.min (Int.toNat x4) 64)) →
  ∀ x13 : Int, x13 = x12 / 4294967296 →
  ∀ x14 : Int, x14 = bits .and .u64 x12 4294967295 →
  (x6 ≠ 0) ∧
  ∀ x15 : Int, x15 = IntKind.u64.wrap (Int.tdiv x11 x6) →
  ∀ x16 : Int, x16 = IntKind.u64.wrap (x15 * x6) →
  ∀ x17 : Int, x17 = IntKind.u64.wrap (x11 - x16) →
  ∃ (Ix18 : List Vc.Vl → Prop) (mx18 : List Vc.Vl → Nat), Ix18 [.i x15, .i x17] ∧ ∀ (x18 : Int) (x19 : Int), Ix18 [.i x18, .i x19] → (
  ((4294967296 ≤ x18) → (
  ∀ x20 : Int, x20 = IntKind.u64.wrap (x18 - 1) →
  ∀ x21 : Int, x21 = IntKind.u64.wrap (x19 + x6) →
  ((4294967296 ≤ x21) → (
  ∀ x22 : Int, x22 = IntKind.u64.wrap (x11 * 4294967296) →
  ∀ x23 : Int, x23 = IntKind.u64.wrap (x22 + x13) →
  ∀ x24 : Int, x24 = IntKind.u64.wrap (x20 * x5) →
  ∀ x25 : Int, x25 = IntKind.u64.wrap (x23 - x24) →
  (x6 ≠ 0) ∧
  ∀ x26 : Int, x26 = IntKind.u64.wrap (Int.tdiv x25 x6) →
  ∀ x27 : Int, x27 = IntKind.u64.wrap (x26 * x6) →
  ∀ x28 : Int, x28 = IntKind.u64.wrap (x25 - x27) →
  ∃ (Ix29 : List Vc.Vl → Prop) (mx29 : List Vc.Vl → Nat), Ix29 [.i x26, .i x28] ∧ ∀ (x29 : Int) (x30 : Int), Ix29 [.i x29, .i x30] → (
  ((4294967296 ≤ x29) → (
  ∀ x31 : Int, x31 = IntKind.u64.wrap (x29 - 1) →
  ∀ x32 : Int, x32 = IntKind.u64.wrap (x30 + x6) →
  ((4294967296 ≤ x32) → (
  ∀ x33 : Int, x33 = IntKind.u64.wrap (x20 * 4294967296) →
  ∀ x34 : Int, x34 = IntKind.u64.wrap (x33 + x31) →
  ∀ x35 : Int, x35 = IntKind.u64.wrap (x25 * 4294967296) →
  ∀ x36 : Int, x36 = IntKind.u64.wrap (x35 + x14) →
  ∀ x37 : Int, x37 = IntKind.u64.wrap (x31 * x5) →
  ∀ x38 : Int, x38 = IntKind.u64.wrap (x36 - x37) →
  (0 ≤ x4) ∧
  ∀ x39 : Int, x39 = Int.fdiv x38 (2 ^ (Nat.min (Int.toNat x4) 64)) →
  (.tuple #[.int .u64 x34, .int .u64 x39] : Value) = v)) ∧ (¬ (4294967296 ≤ x32) → (
  Ix29 [.i x31, .i x32] ∧ mx29 [.i x31, .i x32] < mx29 [.i x29, .i x30])))) ∧ (¬ (4294967296 ≤ x29) → (
  ∀ x31 : Int, x31 = IntKind.u64.wrap (x29 * x7) →
  ∀ x32 : Int, x32 = IntKind.u64.wrap (4294967296 * x30) →
  ∀ x33 : Int, x33 = IntKind.u64.wrap (x32 + x14) →
  ((x33 < x31) → (
  ∀ x34 : Int, x34 = IntKind.u64.wrap (x29 - 1) →
  ∀ x35 : Int, x35 = IntKind.u64.wrap (x30 + x6) →
  ((4294967296 ≤ x35) → (
  ∀ x36 : Int, x36 = IntKind.u64.wrap (x20 * 4294967296) →
  ∀ x37 : Int, x37 = IntKind.u64.wrap (x36 + x34) →
  ∀ x38 : Int, x38 = IntKind.u64.wrap (x25 * 4294967296) →
  ∀ x39 : Int, x39 = IntKind.u64.wrap (x38 + x14) →
  ∀ x40 : Int, x40 = IntKind.u64.wrap (x34 * x5) →
  ∀ x41 : Int, x41 = IntKind.u64.wrap (x39 - x40) →
  (0 ≤ x4) ∧
  ∀ x42 : Int, x42 = Int.fdiv x41 (2 ^ (Nat.min (Int.toNat x4) 64)) →
  (.tuple #[.int .u64 x37, .int .u64 x42] : Value) = v)) ∧ (¬ (4294967296 ≤ x35) → (
  Ix29 [.i x34, .i x35] ∧ mx29 [.i x34, .i x35] < mx29 [.i x29, .i x30])))) ∧ (¬ (x33 < x31) → (
  ∀ x34 : Int, x34 = IntKind.u64.wrap (x20 * 4294967296) →
  ∀ x35 : Int, x35 = IntKind.u64.wrap (x34 + x29) →
  ∀ x36 : Int, x36 = IntKind.u64.wrap (x25 * 4294967296) →
  ∀ x37 : Int, x37 = IntKind.u64.wrap (x36 + x14) →
  ∀ x38 : Int, x38 = IntKind.u64.wrap (x29 * x5) →
  ∀ x39 : Int, x39 = IntKind.u64.wrap (x37 - x38) →
  (0 ≤ x4) ∧
  ∀ x40 : Int, x40 = Int.fdiv x39 (2 ^ (Nat.min (Int.toNat x4) 64)) →
  (.tuple #[.int .u64 x35, .int .u64 x40] : Value) = v))))))) ∧ (¬ (4294967296 ≤ x21) → (
  Ix18 [.i x20, .i x21] ∧ mx18 [.i x20, .i x21] < mx18 [.i x18, .i x19])))) ∧ (¬ (4294967296 ≤ x18) → (
  ∀ x20 : Int, x20 = IntKind.u64.wrap (x18 * x7) →
  ∀ x21 : Int, x21 = IntKind.u64.wrap (4294967296 * x19) →
  ∀ x22 : Int, x22 = IntKind.u64.wrap (x21 + x13) →
  ((x22 < x20) → (
  ∀ x23 : Int, x23 = IntKind.u64.wrap (x18 - 1) →
  ∀ x24 : Int, x24 = IntKind.u64.wrap (x19 + x6) →
  ((4294967296 ≤ x24) → (
  ∀ x25 : Int, x25 = IntKind.u64.wrap (x11 * 4294967296) →
  ∀ x26 : Int, x26 = IntKind.u64.wrap (x25 + x13) →
  ∀ x27 : Int, x27 = IntKind.u64.wrap (x23 * x5) →
  ∀ x28 : Int, x28 = IntKind.u64.wrap (x26 - x27) →
  (x6 ≠ 0) ∧
  ∀ x29 : Int, x29 = IntKind.u64.wrap (Int.tdiv x28 x6) →
  ∀ x30 : Int, x30 = IntKind.u64.wrap (x29 * x6) →
  ∀ x31 : Int, x31 = IntKind.u64.wrap (x28 - x30) →
  ∃ (Ix32 : List Vc.Vl → Prop) (mx32 : List Vc.Vl → Nat), Ix32 [.i x29, .i x31] ∧ ∀ (x32 : Int) (x33 : Int), Ix32 [.i x32, .i x33] → (
  ((4294967296 ≤ x32) → (
  ∀ x34 : Int, x34 = IntKind.u64.wrap (x32 - 1) →
  ∀ x35 : Int, x35 = IntKind.u64.wrap (x33 + x6) →
  ((4294967296 ≤ x35) → (
  ∀ x36 : Int, x36 = IntKind.u64.wrap (x23 * 4294967296) →
  ∀ x37 : Int, x37 = IntKind.u64.wrap (x36 + x34) →
  ∀ x38 : Int, x38 = IntKind.u64.wrap (x28 * 4294967296) →
  ∀ x39 : Int, x39 = IntKind.u64.wrap (x38 + x14) →
  ∀ x40 : Int, x40 = IntKind.u64.wrap (x34 * x5) →
  ∀ x41 : Int, x41 = IntKind.u64.wrap (x39 - x40) →
  (0 ≤ x4) ∧
  ∀ x42 : Int, x42 = Int.fdiv x41 (2 ^ (Nat.min (Int.toNat x4) 64)) →
  (.tuple #[.int .u64 x37, .int .u64 x42] : Value) = v)) ∧ (¬ (4294967296 ≤ x35) → (
  Ix32 [.i x34, .i x35] ∧ mx32 [.i x34, .i x35] < mx32 [.i x32, .i x33])))) ∧ (¬ (4294967296 ≤ x32) → (
  ∀ x34 : Int, x34 = IntKind.u64.wrap (x32 * x7) →
  ∀ x35 : Int, x35 = IntKind.u64.wrap (4294967296 * x33) →
  ∀ x36 : Int, x36 = IntKind.u64.wrap (x35 + x14) →
  ((x36 < x34) → (
  ∀ x37 : Int, x37 = IntKind.u64.wrap (x32 - 1) →
  ∀ x38 : Int, x38 = IntKind.u64.wrap (x33 + x6) →
  ((4294967296 ≤ x38) → (
  ∀ x39 : Int, x39 = IntKind.u64.wrap (x23 * 4294967296) →
  ∀ x40 : Int, x40 = IntKind.u64.wrap (x39 + x37) →
  ∀ x41 : Int, x41 = IntKind.u64.wrap (x28 * 4294967296) →
  ∀ x42 : Int, x42 = IntKind.u64.wrap (x41 + x14) →
  ∀ x43 : Int, x43 = IntKind.u64.wrap (x37 * x5) →
  ∀ x44 : Int, x44 = IntKind.u64.wrap (x42 - x43) →
  (0 ≤ x4) ∧
  ∀ x45 : Int, x45 = Int.fdiv x44 (2 ^ (Nat.min (Int.toNat x4) 64)) →
  (.tuple #[.int .u64 x40, .int .u64 x45] : Value) = v)) ∧ (¬ (4294967296 ≤ x38) → (
  Ix32 [.i x37, .i x38] ∧ mx32 [.i x37, .i x38] < mx32 [.i x32, .i x33])))) ∧ (¬ (x36 < x34) → (
  ∀ x37 : Int, x37 = IntKind.u64.wrap (x23 * 4294967296) →
  ∀ x38 : Int, x38 = IntKind.u64.wrap (x37 + x32) →
  ∀ x39 : Int, x39 = IntKind.u64.wrap (x28 * 4294967296) →
  ∀ x40 : Int, x40 = IntKind.u64.wrap (x39 + x14) →
  ∀ x41 : Int, x41 = IntKind.u64.wrap (x32 * x5) →
  ∀ x42 : Int, x42 = IntKind.u64.wrap (x40 - x41) →
  (0 ≤ x4) ∧
  ∀ x43 : Int, x43 = Int.fdiv x42 (2 ^ (Nat.min (Int.toNat x4) 64)) →
  (.tuple #[.int .u64 x38, .int .u64 x43] : Value) = v))))))) ∧ (¬ (4294967296 ≤ x24) → (
  Ix18 [.i x23, .i x24] ∧ mx18 [.i x23, .i x24] < mx18 [.i x18, .i x19])))) ∧ (¬ (x22 < x20) → (
  ∀ x23 : Int, x23 = IntKind.u64.wrap (x11 * 4294967296) →
  ∀ x24 : Int, x24 = IntKind.u64.wrap (x23 + x13) →
  ∀ x25 : Int, x25 = IntKind.u64.wrap (x18 * x5) →
  ∀ x26 : Int, x26 = IntKind.u64.wrap (x24 - x25) →
  (x6 ≠ 0) ∧
  ∀ x27 : Int, x27 = IntKind.u64.wrap (Int.tdiv x26 x6) →
  ∀ x28 : Int, x28 = IntKind.u64.wrap (x27 * x6) →
  ∀ x29 : Int, x29 = IntKind.u64.wrap (x26 - x28) →
  ∃ (Ix30 : List Vc.Vl → Prop) (mx30 : List Vc.Vl → Nat), Ix30 [.i x27, .i x29] ∧ ∀ (x30 : Int) (x31 : Int), Ix30 [.i x30, .i x31] → (
  ((4294967296 ≤ x30) → (
  ∀ x32 : Int, x32 = IntKind.u64.wrap (x30 - 1) →
  ∀ x33 : Int, x33 = IntKind.u64.wrap (x31 + x6) →
  ((4294967296 ≤ x33) → (
  ∀ x34 : Int, x34 = IntKind.u64.wrap (x18 * 4294967296) →
  ∀ x35 : Int, x35 = IntKind.u64.wrap (x34 + x32) →
  ∀ x36 : Int, x36 = IntKind.u64.wrap (x26 * 4294967296) →
  ∀ x37 : Int, x37 = IntKind.u64.wrap (x36 + x14) →
  ∀ x38 : Int, x38 = IntKind.u64.wrap (x32 * x5) →
  ∀ x39 : Int, x39 = IntKind.u64.wrap (x37 - x38) →
  (0 ≤ x4) ∧
  ∀ x40 : Int, x40 = Int.fdiv x39 (2 ^ (Nat.min (Int.toNat x4) 64)) →
  (.tuple #[.int .u64 x35, .int .u64 x40] : Value) = v)) ∧ (¬ (4294967296 ≤ x33) → (
  Ix30 [.i x32, .i x33] ∧ mx30 [.i x32, .i x33] < mx30 [.i x30, .i x31])))) ∧ (¬ (4294967296 ≤ x30) → (
  ∀ x32 : Int, x32 = IntKind.u64.wrap (x30 * x7) →
  ∀ x33 : Int, x33 = IntKind.u64.wrap (4294967296 * x31) →
  ∀ x34 : Int, x34 = IntKind.u64.wrap (x33 + x14) →
  ((x34 < x32) → (
  ∀ x35 : Int, x35 = IntKind.u64.wrap (x30 - 1) →
  ∀ x36 : Int, x36 = IntKind.u64.wrap (x31 + x6) →
  ((4294967296 ≤ x36) → (
  ∀ x37 : Int, x37 = IntKind.u64.wrap (x18 * 4294967296) →
  ∀ x38 : Int, x38 = IntKind.u64.wrap (x37 + x35) →
  ∀ x39 : Int, x39 = IntKind.u64.wrap (x26 * 4294967296) →
  ∀ x40 : Int, x40 = IntKind.u64.wrap (x39 + x14) →
  ∀ x41 : Int, x41 = IntKind.u64.wrap (x35 * x5) →
  ∀ x42 : Int, x42 = IntKind.u64.wrap (x40 - x41) →
  (0 ≤ x4) ∧
  ∀ x43 : Int, x43 = Int.fdiv x42 (2 ^ (Nat.min (Int.toNat x4) 64)) →
  (.tuple #[.int .u64 x38, .int .u64 x43] : Value) = v)) ∧ (¬ (4294967296 ≤ x36) → (
  Ix30 [.i x35, .i x36] ∧ mx30 [.i x35, .i x36] < mx30 [.i x30, .i x31])))) ∧ (¬ (x34 < x32) → (
  ∀ x35 : Int, x35 = IntKind.u64.wrap (x18 * 4294967296) →
  ∀ x36 : Int, x36 = IntKind.u64.wrap (x35 + x30) →
  ∀ x37 : Int, x37 = IntKind.u64.wrap (x26 * 4294967296) →
  ∀ x38 : Int, x38 = IntKind.u64.wrap (x37 + x14) →
  ∀ x39 : Int, x39 = IntKind.u64.wrap (x30 * x5) →
  ∀ x40 : Int, x40 = IntKind.u64.wrap (x38 - x39) →
  (0 ≤ x4) ∧
  ∀ x41 : Int, x41 = Int.fdiv x40 (2 ^ (Nat.min (Int.toNat x4) 64)) →
  (.tuple #[.int .u64 x36, .int .u64 x41] : Value) = v))))))))))))))))) : Calls Tryd.prog 64 #[.int .u64 x0, .int .u64 x1, .int .u64 x2] w (Vc.Ret v w) :=
  Vc.pure_of base [(12000000000017, .inv [] [15, 16] [67, 68, 69, 70, 71, 72, 73, 74, 75, 76, 77, 78, 79, 80, 81, 82, 83, 84, 85]), (12000000000024, .inv [] [18, 16] [102, 103, 104, 105, 106, 107, 108, 109, 110, 111, 112, 113, 114, 115, 116, 117, 118, 119, 120])] 200 Tryd.func64 (b := (Tryd.f64.body).getD .skip) (by kernel_rfl) [.cv (.one (.int .u64 (.var 0))), .cv (.one (.int .u64 (.var 1))), .cv (.one (.int .u64 (.var 2)))] ⟨3, 0, 0, 0, 0, 0, 0⟩ (Vc.envOf [x0, x1, x2] [] [] []) (by kernel_rfl) (by kernel_rfl) (by kernel_rfl) h

theorem vc_span_divide (x0 x1 x2 x3 : Int) (b0 b1 : Bool) (w : World) (v : Value) (h : 
  ((x2 = 0) → (
  (x3 ≠ 0) ∧
  ∀ x4 : Int, x4 = IntKind.u64.wrap (Int.tdiv x0 x3) →
  (x3 ≠ 0) ∧
  ∀ x5 : Int, x5 = Int.tmod x0 x3 →
  ∃ (x6 : Int), ∃ (x7 : Int), (∀ w' : World, Below w.heap.size w w' → Calls Tryd.prog 64 #[.int .u64 x5, .int .u64 x1, .int .u64 x3] w' (Vc.Ret (.tuple #[.int .u64 x6, .int .u64 x7]) w')) ∧
  ∃ (b2 : Bool), (∀ w' : World, Below w.heap.size w w' → Calls Tryd.prog 66 #[.agg #[.bool false, .int .u64 0, .int .u64 x7]] w' (Vc.Ret (.bool b2) w')) ∧
  ((b2 = true) → (
  ((b0 = true) → (
  (.tuple #[.agg #[.bool true, .int .u64 x4, .int .u64 x6], .agg #[.bool true, .int .u64 x4, .int .u64 x6]] : Value) = v)) ∧ (¬ (b0 = true) → (
  (.tuple #[.agg #[.bool false, .int .u64 x4, .int .u64 x6], .agg #[.bool false, .int .u64 x4, .int .u64 x6]] : Value) = v)))) ∧ (¬ (b2 = true) → (
  ∃ (b3 : Bool), ∃ (x8 : Int), ∃ (x9 : Int), (∀ w' : World, Below w.heap.size w w' → Calls Tryd.prog 21 #[.agg #[.bool false, .int .u64 x4, .int .u64 x6], .agg #[.bool false, .int .u64 0, .int .u64 1]] w' (Vc.Ret (.agg #[.bool b3, .int .u64 x8, .int .u64 x9]) w')) ∧
  ((b0 = true) → (
  (.tuple #[.agg #[.bool true, .int .u64 x8, .int .u64 x9], .agg #[.bool true, .int .u64 x4, .int .u64 x6]] : Value) = v)) ∧ (¬ (b0 = true) → (
  (.tuple #[.agg #[.bool false, .int .u64 x4, .int .u64 x6], .agg #[.bool b3, .int .u64 x8, .int .u64 x9]] : Value) = v)))))) ∧ (¬ (x2 = 0) → (
  ∃ (b2 : Bool), ∃ (x4 : Int), ∃ (x5 : Int), ∃ (b3 : Bool), ∃ (x6 : Int), ∃ (x7 : Int), (∀ w' : World, Below w.heap.size w w' → Calls Tryd.prog 65 #[.agg #[.bool b0, .int .u64 x0, .int .u64 x1], .agg #[.bool b1, .int .u64 x2, .int .u64 x3]] w' (Vc.Ret (.tuple #[.agg #[.bool b2, .int .u64 x4, .int .u64 x5], .agg #[.bool b3, .int .u64 x6, .int .u64 x7]]) w')) ∧
  ∃ (b4 : Bool), (∀ w' : World, Below w.heap.size w w' → Calls Tryd.prog 66 #[.agg #[.bool b3, .int .u64 x6, .int .u64 x7]] w' (Vc.Ret (.bool b4) w')) ∧
  ((b4 = true) → (
  ((b0 = true) → (
  (.tuple #[.agg #[.bool true, .int .u64 x4, .int .u64 x5], .agg #[.bool true, .int .u64 x4, .int .u64 x5]] : Value) = v)) ∧ (¬ (b0 = true) → (
  (.tuple #[.agg #[.bool b2, .int .u64 x4, .int .u64 x5], .agg #[.bool b2, .int .u64 x4, .int .u64 x5]] : Value) = v)))) ∧ (¬ (b4 = true) → (
  ∃ (b5 : Bool), ∃ (x8 : Int), ∃ (x9 : Int), (∀ w' : World, Below w.heap.size w w' → Calls Tryd.prog 21 #[.agg #[.bool false, .int .u64 x4, .int .u64 x5], .agg #[.bool false, .int .u64 0, .int .u64 1]] w' (Vc.Ret (.agg #[.bool b5, .int .u64 x8, .int .u64 x9]) w')) ∧
  ((b0 = true) → (
  (.tuple #[.agg #[.bool true, .int .u64 x8, .int .u64 x9], .agg #[.bool true, .int .u64 x4, .int .u64 x5]] : Value) = v)) ∧ (¬ (b0 = true) → (
  (.tuple #[.agg #[.bool b2, .int .u64 x4, .int .u64 x5], .agg #[.bool b5, .int .u64 x8, .int .u64 x9]] : Value) = v))))))) : Calls Tryd.prog 50 #[.agg #[.bool b0, .int .u64 x0, .int .u64 x1], .agg #[.bool b1, .int .u64 x2, .int .u64 x3]] w (Vc.Ret v w) :=
  Vc.pure_of base [] 200 Tryd.func50 (b := (Tryd.f50.body).getD .skip) (by kernel_rfl) [.cv (.agg [.bool (.var 0), .int .u64 (.var 0), .int .u64 (.var 1)]), .cv (.agg [.bool (.var 1), .int .u64 (.var 2), .int .u64 (.var 3)])] ⟨4, 2, 0, 0, 0, 0, 0⟩ (Vc.envOf [x0, x1, x2, x3] [b0, b1] [] []) (by kernel_rfl) (by kernel_rfl) (by kernel_rfl) h

theorem vc__span_big__num (x0 x1 : Int) (b0 : Bool) (w : World) (v : Value) (h : 
  ((0 < x0) → (
  (.tuple #[.int .i64 0, .bool false] : Value) = v)) ∧ (¬ (0 < x0) → (
  ((9223372036854775807 < x1) → (
  (.tuple #[.int .i64 0, .bool false] : Value) = v)) ∧ (¬ (9223372036854775807 < x1) → (
  ((b0 = true) → (
  ∀ x2 : Int, x2 = IntKind.i64.wrap (x1) →
  ∀ x3 : Int, x3 = IntKind.i64.wrap (0 - x2) →
  (.tuple #[.int .i64 x3, .bool true] : Value) = v)) ∧ (¬ (b0 = true) → (
  ∀ x2 : Int, x2 = IntKind.i64.wrap (x1) →
  (.tuple #[.int .i64 x2, .bool true] : Value) = v))))))) : Calls Tryd.prog 57 #[.agg #[.bool b0, .int .u64 x0, .int .u64 x1]] w (Vc.Ret v w) :=
  Vc.pure_of base [] 200 Tryd.func57 (b := (Tryd.f57.body).getD .skip) (by kernel_rfl) [.cv (.agg [.bool (.var 0), .int .u64 (.var 0), .int .u64 (.var 1)])] ⟨2, 1, 0, 0, 0, 0, 0⟩ (Vc.envOf [x0, x1] [b0] [] []) (by kernel_rfl) (by kernel_rfl) (by kernel_rfl) h

theorem vc_span_fit (x0 x1 x2 x3 : Int) (b0 b1 : Bool) (w : World) (v : Value) (h : 
  ∃ (x4 : Int), ∃ (b2 : Bool), (∀ w' : World, Below w.heap.size w w' → Calls Tryd.prog 57 #[.agg #[.bool b0, .int .u64 x0, .int .u64 x1]] w' (Vc.Ret (.tuple #[.int .i64 x4, .bool b2]) w')) ∧
  ∃ (x5 : Int), ∃ (b3 : Bool), (∀ w' : World, Below w.heap.size w w' → Calls Tryd.prog 57 #[.agg #[.bool b1, .int .u64 x2, .int .u64 x3]] w' (Vc.Ret (.tuple #[.int .i64 x5, .bool b3]) w')) ∧
  ((b2 = true) → (
  ((b3 = true) → (
  (.tuple #[.agg #[.int .i64 x4, .int .i64 x5], .int .i64 0] : Value) = v)) ∧ (¬ (b3 = true) → (
  (.tuple #[.agg #[.int .i64 0, .int .i64 0], .int .i64 4] : Value) = v)))) ∧ (¬ (b2 = true) → (
  (.tuple #[.agg #[.int .i64 0, .int .i64 0], .int .i64 4] : Value) = v))) : Calls Tryd.prog 22 #[.agg #[.bool b0, .int .u64 x0, .int .u64 x1], .agg #[.bool b1, .int .u64 x2, .int .u64 x3]] w (Vc.Ret v w) :=
  Vc.pure_of base [] 200 Tryd.func22 (b := (Tryd.f22.body).getD .skip) (by kernel_rfl) [.cv (.agg [.bool (.var 0), .int .u64 (.var 0), .int .u64 (.var 1)]), .cv (.agg [.bool (.var 1), .int .u64 (.var 2), .int .u64 (.var 3)])] ⟨4, 2, 0, 0, 0, 0, 0⟩ (Vc.envOf [x0, x1, x2, x3] [b0, b1] [] []) (by kernel_rfl) (by kernel_rfl) (by kernel_rfl) h

theorem vc_span_ratio (x0 x1 : Int) (w : World) (v : Value) (h : 
  ∃ (b0 : Bool), ∃ (x2 : Int), ∃ (x3 : Int), (∀ w' : World, Below w.heap.size w w' → Calls Tryd.prog 45 #[.int .i64 x0] w' (Vc.Ret (.agg #[.bool b0, .int .u64 x2, .int .u64 x3]) w')) ∧
  ∃ (b1 : Bool), ∃ (x4 : Int), ∃ (x5 : Int), (∀ w' : World, Below w.heap.size w w' → Calls Tryd.prog 61 #[.agg #[.bool b0, .int .u64 x2, .int .u64 x3], .int .u64 32] w' (Vc.Ret (.agg #[.bool b1, .int .u64 x4, .int .u64 x5]) w')) ∧
  ∃ (b2 : Bool), ∃ (x6 : Int), ∃ (x7 : Int), (∀ w' : World, Below w.heap.size w w' → Calls Tryd.prog 45 #[.int .i64 x1] w' (Vc.Ret (.agg #[.bool b2, .int .u64 x6, .int .u64 x7]) w')) ∧
  ∃ (b3 : Bool), ∃ (x8 : Int), ∃ (x9 : Int), ∃ (b4 : Bool), ∃ (x10 : Int), ∃ (x11 : Int), (∀ w' : World, Below w.heap.size w w' → Calls Tryd.prog 50 #[.agg #[.bool (!(b1 == b2)), .int .u64 x4, .int .u64 x5], .agg #[.bool false, .int .u64 x6, .int .u64 x7]] w' (Vc.Ret (.tuple #[.agg #[.bool b3, .int .u64 x8, .int .u64 x9], .agg #[.bool b4, .int .u64 x10, .int .u64 x11]]) w')) ∧
  (.tuple #[.agg #[.bool b3, .int .u64 x8, .int .u64 x9], .agg #[.bool b4, .int .u64 x10, .int .u64 x11]] : Value) = v) : Calls Tryd.prog 46 #[.int .i64 x0, .int .i64 x1] w (Vc.Ret v w) :=
  Vc.pure_of base [] 200 Tryd.func46 (b := (Tryd.f46.body).getD .skip) (by kernel_rfl) [.cv (.one (.int .i64 (.var 0))), .cv (.one (.int .i64 (.var 1)))] ⟨2, 0, 0, 0, 0, 0, 0⟩ (Vc.envOf [x0, x1] [] [] []) (by kernel_rfl) (by kernel_rfl) (by kernel_rfl) h

theorem vc_span_Ratio (x0 x1 : Int) (w : World) (v : Value) (h : 
  ((x1 = 0) → (
  (.tuple #[.agg #[.int .i64 0, .int .i64 0], .int .i64 10] : Value) = v)) ∧ (¬ (x1 = 0) → (
  ∃ (b0 : Bool), ∃ (x2 : Int), ∃ (x3 : Int), ∃ (b1 : Bool), ∃ (x4 : Int), ∃ (x5 : Int), (∀ w' : World, Below w.heap.size w w' → Calls Tryd.prog 46 #[.int .i64 x0, .int .i64 x1] w' (Vc.Ret (.tuple #[.agg #[.bool b0, .int .u64 x2, .int .u64 x3], .agg #[.bool b1, .int .u64 x4, .int .u64 x5]]) w')) ∧
  ∃ (x6 : Int), ∃ (x7 : Int), ∃ (x8 : Int), (∀ w' : World, Below w.heap.size w w' → Calls Tryd.prog 22 #[.agg #[.bool b0, .int .u64 x2, .int .u64 x3], .agg #[.bool b1, .int .u64 x4, .int .u64 x5]] w' (Vc.Ret (.tuple #[.agg #[.int .i64 x6, .int .i64 x7], .int .i64 x8]) w')) ∧
  (.tuple #[.agg #[.int .i64 x6, .int .i64 x7], .int .i64 x8] : Value) = v))) : Calls Tryd.prog 40 #[.int .i64 x0, .int .i64 x1] w (Vc.Ret v w) :=
  Vc.pure_of base [] 200 Tryd.func40 (b := (Tryd.f40.body).getD .skip) (by kernel_rfl) [.cv (.one (.int .i64 (.var 0))), .cv (.one (.int .i64 (.var 1)))] ⟨2, 0, 0, 0, 0, 0, 0⟩ (Vc.envOf [x0, x1] [] [] []) (by kernel_rfl) (by kernel_rfl) (by kernel_rfl) h

theorem vc_span_Add_1 (x0 x1 : Int) (w : World) (v : Value) (h : 
  ∃ (b0 : Bool), ∃ (x2 : Int), ∃ (x3 : Int), (∀ w' : World, Below w.heap.size w w' → Calls Tryd.prog 45 #[.int .i64 x0] w' (Vc.Ret (.agg #[.bool b0, .int .u64 x2, .int .u64 x3]) w')) ∧
  ∃ (b1 : Bool), ∃ (x4 : Int), ∃ (x5 : Int), (∀ w' : World, Below w.heap.size w w' → Calls Tryd.prog 45 #[.int .i64 x1] w' (Vc.Ret (.agg #[.bool b1, .int .u64 x4, .int .u64 x5]) w')) ∧
  ∃ (b2 : Bool), ∃ (x6 : Int), ∃ (x7 : Int), (∀ w' : World, Below w.heap.size w w' → Calls Tryd.prog 21 #[.agg #[.bool b0, .int .u64 x2, .int .u64 x3], .agg #[.bool b1, .int .u64 x4, .int .u64 x5]] w' (Vc.Ret (.agg #[.bool b2, .int .u64 x6, .int .u64 x7]) w')) ∧
  (.agg #[.bool b2, .int .u64 x6, .int .u64 x7] : Value) = v) : Calls Tryd.prog 44 #[.int .i64 x0, .int .i64 x1] w (Vc.Ret v w) :=
  Vc.pure_of base [] 200 Tryd.func44 (b := (Tryd.f44.body).getD .skip) (by kernel_rfl) [.cv (.one (.int .i64 (.var 0))), .cv (.one (.int .i64 (.var 1)))] ⟨2, 0, 0, 0, 0, 0, 0⟩ (Vc.envOf [x0, x1] [] [] []) (by kernel_rfl) (by kernel_rfl) (by kernel_rfl) h

theorem vc_span_Add (x0 x1 x2 x3 : Int) (w : World) (v : Value) (h : 
  ∃ (x4 : Int), (∀ (β : Nat → Nat) (w' : World), Below w.heap.size w w' → ((w.heap.size ≤ β 3 ∧ w'.heap[β 3]? = some (.cells #[.int .i64 x0, .int .i64 x1, .int .i64 x2, .int .i64 x3] 24)) ∧ True) → Calls Tryd.prog 43 #[.slice (some ⟨β 3, 0, none⟩) 2 2] w' (Vc.Ret (.int .i64 x4) w')) ∧
  ((x4 = 0) → (
  ∃ (b0 : Bool), ∃ (x5 : Int), ∃ (x6 : Int), (∀ w' : World, Below w.heap.size w w' → Calls Tryd.prog 44 #[.int .i64 x0, .int .i64 x2] w' (Vc.Ret (.agg #[.bool b0, .int .u64 x5, .int .u64 x6]) w')) ∧
  ∃ (b1 : Bool), ∃ (x7 : Int), ∃ (x8 : Int), (∀ w' : World, Below w.heap.size w w' → Calls Tryd.prog 44 #[.int .i64 x1, .int .i64 x3] w' (Vc.Ret (.agg #[.bool b1, .int .u64 x7, .int .u64 x8]) w')) ∧
  ∃ (x9 : Int), ∃ (x10 : Int), ∃ (x11 : Int), (∀ w' : World, Below w.heap.size w w' → Calls Tryd.prog 22 #[.agg #[.bool b0, .int .u64 x5, .int .u64 x6], .agg #[.bool b1, .int .u64 x7, .int .u64 x8]] w' (Vc.Ret (.tuple #[.agg #[.int .i64 x9, .int .i64 x10], .int .i64 x11]) w')) ∧
  (.tuple #[.agg #[.int .i64 x9, .int .i64 x10], .int .i64 x11] : Value) = v)) ∧ (¬ (x4 = 0) → (
  (.tuple #[.agg #[.int .i64 0, .int .i64 0], .int .i64 x4] : Value) = v))) : Calls Tryd.prog 13 #[.agg #[.int .i64 x0, .int .i64 x1], .agg #[.int .i64 x2, .int .i64 x3]] w (Vc.Ret v w) :=
  Vc.pure_of base [] 200 Tryd.func13 (b := (Tryd.f13.body).getD .skip) (by kernel_rfl) [.cv (.agg [.int .i64 (.var 0), .int .i64 (.var 1)]), .cv (.agg [.int .i64 (.var 2), .int .i64 (.var 3)])] ⟨4, 0, 0, 0, 0, 0, 0⟩ (Vc.envOf [x0, x1, x2, x3] [] [] []) (by kernel_rfl) (by kernel_rfl) (by kernel_rfl) h

theorem vc_span_Neg (x0 x1 : Int) (w : World) (v : Value) (h : 
  ∃ (x2 : Int), (∀ w' : World, Below w.heap.size w w' → Calls Tryd.prog 11 #[.agg #[.int .i64 x0, .int .i64 x1]] w' (Vc.Ret (.int .i64 x2) w')) ∧
  ((x2 = 0) → (
  ∀ x3 : Int, x3 = IntKind.i64.wrap (0 - x1) →
  ∀ x4 : Int, x4 = IntKind.i64.wrap (0 - x0) →
  (.tuple #[.agg #[.int .i64 x3, .int .i64 x4], .int .i64 0] : Value) = v)) ∧ (¬ (x2 = 0) → (
  (.tuple #[.agg #[.int .i64 0, .int .i64 0], .int .i64 x2] : Value) = v))) : Calls Tryd.prog 42 #[.agg #[.int .i64 x0, .int .i64 x1]] w (Vc.Ret v w) :=
  Vc.pure_of base [] 200 Tryd.func42 (b := (Tryd.f42.body).getD .skip) (by kernel_rfl) [.cv (.agg [.int .i64 (.var 0), .int .i64 (.var 1)])] ⟨2, 0, 0, 0, 0, 0, 0⟩ (Vc.envOf [x0, x1] [] [] []) (by kernel_rfl) (by kernel_rfl) (by kernel_rfl) h

theorem vc_span_Sub (x0 x1 x2 x3 : Int) (w : World) (v : Value) (h : 
  ∃ (x4 : Int), ∃ (x5 : Int), ∃ (x6 : Int), (∀ w' : World, Below w.heap.size w w' → Calls Tryd.prog 42 #[.agg #[.int .i64 x2, .int .i64 x3]] w' (Vc.Ret (.tuple #[.agg #[.int .i64 x4, .int .i64 x5], .int .i64 x6]) w')) ∧
  ((x6 = 0) → (
  ∃ (x7 : Int), ∃ (x8 : Int), ∃ (x9 : Int), (∀ w' : World, Below w.heap.size w w' → Calls Tryd.prog 13 #[.agg #[.int .i64 x0, .int .i64 x1], .agg #[.int .i64 x4, .int .i64 x5]] w' (Vc.Ret (.tuple #[.agg #[.int .i64 x7, .int .i64 x8], .int .i64 x9]) w')) ∧
  (.tuple #[.agg #[.int .i64 x7, .int .i64 x8], .int .i64 x9] : Value) = v)) ∧ (¬ (x6 = 0) → (
  (.tuple #[.agg #[.int .i64 0, .int .i64 0], .int .i64 x6] : Value) = v))) : Calls Tryd.prog 12 #[.agg #[.int .i64 x0, .int .i64 x1], .agg #[.int .i64 x2, .int .i64 x3]] w (Vc.Ret v w) :=
  Vc.pure_of base [] 200 Tryd.func12 (b := (Tryd.f12.body).getD .skip) (by kernel_rfl) [.cv (.agg [.int .i64 (.var 0), .int .i64 (.var 1)]), .cv (.agg [.int .i64 (.var 2), .int .i64 (.var 3)])] ⟨4, 0, 0, 0, 0, 0, 0⟩ (Vc.envOf [x0, x1, x2, x3] [] [] []) (by kernel_rfl) (by kernel_rfl) (by kernel_rfl) h

theorem vc_span_hull_4 (p0 : Nat × Nat) (w : World) (v : Value) (h : 
  ∃ (b0 : Bool), w.cell? ⟨p0.1, p0.2 + (Int.toNat 0) * 3 + 0, none⟩ = some (.bool b0) ∧
  ∃ (x0 : Int), w.cell? ⟨p0.1, p0.2 + (Int.toNat 0) * 3 + 1, none⟩ = some (.int .u64 x0) ∧
  ∃ (x1 : Int), w.cell? ⟨p0.1, p0.2 + (Int.toNat 0) * 3 + 2, none⟩ = some (.int .u64 x1) ∧
  ∃ (b1 : Bool), w.cell? ⟨p0.1, p0.2 + (Int.toNat 0) * 3 + 0, none⟩ = some (.bool b1) ∧
  ∃ (x2 : Int), w.cell? ⟨p0.1, p0.2 + (Int.toNat 0) * 3 + 1, none⟩ = some (.int .u64 x2) ∧
  ∃ (x3 : Int), w.cell? ⟨p0.1, p0.2 + (Int.toNat 0) * 3 + 2, none⟩ = some (.int .u64 x3) ∧
  ∃ (b2 : Bool), w.cell? ⟨p0.1, p0.2 + (Int.toNat 1) * 3 + 0, none⟩ = some (.bool b2) ∧
  ∃ (x4 : Int), w.cell? ⟨p0.1, p0.2 + (Int.toNat 1) * 3 + 1, none⟩ = some (.int .u64 x4) ∧
  ∃ (x5 : Int), w.cell? ⟨p0.1, p0.2 + (Int.toNat 1) * 3 + 2, none⟩ = some (.int .u64 x5) ∧
  ∃ (b3 : Bool), (∀ w' : World, Below w.heap.size w w' → Calls Tryd.prog 62 #[.agg #[.bool b2, .int .u64 x4, .int .u64 x5], .agg #[.bool b0, .int .u64 x0, .int .u64 x1]] w' (Vc.Ret (.bool b3) w')) ∧
  ((b3 = true) → (
  ∃ (b4 : Bool), (∀ w' : World, Below w.heap.size w w' → Calls Tryd.prog 62 #[.agg #[.bool b1, .int .u64 x2, .int .u64 x3], .agg #[.bool b2, .int .u64 x4, .int .u64 x5]] w' (Vc.Ret (.bool b4) w')) ∧
  ((b4 = true) → (
  ∃ (b5 : Bool), w.cell? ⟨p0.1, p0.2 + (Int.toNat 2) * 3 + 0, none⟩ = some (.bool b5) ∧
  ∃ (x6 : Int), w.cell? ⟨p0.1, p0.2 + (Int.toNat 2) * 3 + 1, none⟩ = some (.int .u64 x6) ∧
  ∃ (x7 : Int), w.cell? ⟨p0.1, p0.2 + (Int.toNat 2) * 3 + 2, none⟩ = some (.int .u64 x7) ∧
  ∃ (b6 : Bool), (∀ w' : World, Below w.heap.size w w' → Calls Tryd.prog 62 #[.agg #[.bool b5, .int .u64 x6, .int .u64 x7], .agg #[.bool b2, .int .u64 x4, .int .u64 x5]] w' (Vc.Ret (.bool b6) w')) ∧
  ((b6 = true) → (
  ∃ (b7 : Bool), (∀ w' : World, Below w.heap.size w w' → Calls Tryd.prog 62 #[.agg #[.bool b2, .int .u64 x4, .int .u64 x5], .agg #[.bool b5, .int .u64 x6, .int .u64 x7]] w' (Vc.Ret (.bool b7) w')) ∧
  ((b7 = true) → (
  ∃ (b8 : Bool), w.cell? ⟨p0.1, p0.2 + (Int.toNat 3) * 3 + 0, none⟩ = some (.bool b8) ∧
  ∃ (x8 : Int), w.cell? ⟨p0.1, p0.2 + (Int.toNat 3) * 3 + 1, none⟩ = some (.int .u64 x8) ∧
  ∃ (x9 : Int), w.cell? ⟨p0.1, p0.2 + (Int.toNat 3) * 3 + 2, none⟩ = some (.int .u64 x9) ∧
  ∃ (b9 : Bool), (∀ w' : World, Below w.heap.size w w' → Calls Tryd.prog 62 #[.agg #[.bool b8, .int .u64 x8, .int .u64 x9], .agg #[.bool b5, .int .u64 x6, .int .u64 x7]] w' (Vc.Ret (.bool b9) w')) ∧
  ((b9 = true) → (
  ∃ (b10 : Bool), (∀ w' : World, Below w.heap.size w w' → Calls Tryd.prog 62 #[.agg #[.bool b5, .int .u64 x6, .int .u64 x7], .agg #[.bool b8, .int .u64 x8, .int .u64 x9]] w' (Vc.Ret (.bool b10) w')) ∧
  ((b10 = true) → (
  (.tuple #[.agg #[.bool b8, .int .u64 x8, .int .u64 x9], .agg #[.bool b8, .int .u64 x8, .int .u64 x9]] : Value) = v)) ∧ (¬ (b10 = true) → (
  (.tuple #[.agg #[.bool b8, .int .u64 x8, .int .u64 x9], .agg #[.bool b5, .int .u64 x6, .int .u64 x7]] : Value) = v)))) ∧ (¬ (b9 = true) → (
  ∃ (b10 : Bool), (∀ w' : World, Below w.heap.size w w' → Calls Tryd.prog 62 #[.agg #[.bool b5, .int .u64 x6, .int .u64 x7], .agg #[.bool b8, .int .u64 x8, .int .u64 x9]] w' (Vc.Ret (.bool b10) w')) ∧
  ((b10 = true) → (
  (.tuple #[.agg #[.bool b5, .int .u64 x6, .int .u64 x7], .agg #[.bool b8, .int .u64 x8, .int .u64 x9]] : Value) = v)) ∧ (¬ (b10 = true) → (
  (.tuple #[.agg #[.bool b5, .int .u64 x6, .int .u64 x7], .agg #[.bool b5, .int .u64 x6, .int .u64 x7]] : Value) = v)))))) ∧ (¬ (b7 = true) → (
  ∃ (b8 : Bool), w.cell? ⟨p0.1, p0.2 + (Int.toNat 3) * 3 + 0, none⟩ = some (.bool b8) ∧
  ∃ (x8 : Int), w.cell? ⟨p0.1, p0.2 + (Int.toNat 3) * 3 + 1, none⟩ = some (.int .u64 x8) ∧
  ∃ (x9 : Int), w.cell? ⟨p0.1, p0.2 + (Int.toNat 3) * 3 + 2, none⟩ = some (.int .u64 x9) ∧
  ∃ (b9 : Bool), (∀ w' : World, Below w.heap.size w w' → Calls Tryd.prog 62 #[.agg #[.bool b8, .int .u64 x8, .int .u64 x9], .agg #[.bool b5, .int .u64 x6, .int .u64 x7]] w' (Vc.Ret (.bool b9) w')) ∧
  ((b9 = true) → (
  ∃ (b10 : Bool), (∀ w' : World, Below w.heap.size w w' → Calls Tryd.prog 62 #[.agg #[.bool b2, .int .u64 x4, .int .u64 x5], .agg #[.bool b8, .int .u64 x8, .int .u64 x9]] w' (Vc.Ret (.bool b10) w')) ∧
  ((b10 = true) → (
  (.tuple #[.agg #[.bool b8, .int .u64 x8, .int .u64 x9], .agg #[.bool b8, .int .u64 x8, .int .u64 x9]] : Value) = v)) ∧ (¬ (b10 = true) → (
  (.tuple #[.agg #[.bool b8, .int .u64 x8, .int .u64 x9], .agg #[.bool b2, .int .u64 x4, .int .u64 x5]] : Value) = v)))) ∧ (¬ (b9 = true) → (
  ∃ (b10 : Bool), (∀ w' : World, Below w.heap.size w w' → Calls Tryd.prog 62 #[.agg #[.bool b2, .int .u64 x4, .int .u64 x5], .agg #[.bool b8, .int .u64 x8, .int .u64 x9]] w' (Vc.Ret (.bool b10) w')) ∧
  ((b10 = true) → (
  (.tuple #[.agg #[.bool b5, .int .u64 x6, .int .u64 x7], .agg #[.bool b8, .int .u64 x8, .int .u64 x9]] : Value) = v)) ∧ (¬ (b10 = true) → (
  (.tuple #[.agg #[.bool b5, .int .u64 x6, .int .u64 x7], .agg #[.bool b2, .int .u64 x4, .int .u64 x5]] : Value) = v)))))))) ∧ (¬ (b6 = true) → (
  ∃ (b7 : Bool), (∀ w' : World, Below w.heap.size w w' → Calls Tryd.prog 62 #[.agg #[.bool b2, .int .u64 x4, .int .u64 x5], .agg #[.bool b5, .int .u64 x6, .int .u64 x7]] w' (Vc.Ret (.bool b7) w')) ∧
  ((b7 = true) → (
  ∃ (b8 : Bool), w.cell? ⟨p0.1, p0.2 + (Int.toNat 3) * 3 + 0, none⟩ = some (.bool b8) ∧
  ∃ (x8 : Int), w.cell? ⟨p0.1, p0.2 + (Int.toNat 3) * 3 + 1, none⟩ = some (.int .u64 x8) ∧
  ∃ (x9 : Int), w.cell? ⟨p0.1, p0.2 + (Int.toNat 3) * 3 + 2, none⟩ = some (.int .u64 x9) ∧
  ∃ (b9 : Bool), (∀ w' : World, Below w.heap.size w w' → Calls Tryd.prog 62 #[.agg #[.bool b8, .int .u64 x8, .int .u64 x9], .agg #[.bool b2, .int .u64 x4, .int .u64 x5]] w' (Vc.Ret (.bool b9) w')) ∧
  ((b9 = true) → (
  ∃ (b10 : Bool), (∀ w' : World, Below w.heap.size w w' → Calls Tryd.prog 62 #[.agg #[.bool b5, .int .u64 x6, .int .u64 x7], .agg #[.bool b8, .int .u64 x8, .int .u64 x9]] w' (Vc.Ret (.bool b10) w')) ∧
  ((b10 = true) → (
  (.tuple #[.agg #[.bool b8, .int .u64 x8, .int .u64 x9], .agg #[.bool b8, .int .u64 x8, .int .u64 x9]] : Value) = v)) ∧ (¬ (b10 = true) → (
  (.tuple #[.agg #[.bool b8, .int .u64 x8, .int .u64 x9], .agg #[.bool b5, .int .u64 x6, .int .u64 x7]] : Value) = v)))) ∧ (¬ (b9 = true) → (
  ∃ (b10 : Bool), (∀ w' : World, Below w.heap.size w w' → Calls Tryd.prog 62 #[.agg #[.bool b5, .int .u64 x6, .int .u64 x7], .agg #[.bool b8, .int .u64 x8, .int .u64 x9]] w' (Vc.Ret (.bool b10) w')) ∧
  ((b10 = true) → (
  (.tuple #[.agg #[.bool b2, .int .u64 x4, .int .u64 x5], .agg #[.bool b8, .int .u64 x8, .int .u64 x9]] : Value) = v)) ∧ (¬ (b10 = true) → (
  (.tuple #[.agg #[.bool b2, .int .u64 x4, .int .u64 x5], .agg #[.bool b5, .int .u64 x6, .int .u64 x7]] : Value) = v)))))) ∧ (¬ (b7 = true) → (
  ∃ (b8 : Bool), w.cell? ⟨p0.1, p0.2 + (Int.toNat 3) * 3 + 0, none⟩ = some (.bool b8) ∧
  ∃ (x8 : Int), w.cell? ⟨p0.1, p0.2 + (Int.toNat 3) * 3 + 1, none⟩ = some (.int .u64 x8) ∧
  ∃ (x9 : Int), w.cell? ⟨p0.1, p0.2 + (Int.toNat 3) * 3 + 2, none⟩ = some (.int .u64 x9) ∧
  ∃ (b9 : Bool), (∀ w' : World, Below w.heap.size w w' → Calls Tryd.prog 62 #[.agg #[.bool b8, .int .u64 x8, .int .u64 x9], .agg #[.bool b2, .int .u64 x4, .int .u64 x5]] w' (Vc.Ret (.bool b9) w')) ∧
  ((b9 = true) → (
  ∃ (b10 : Bool), (∀ w' : World, Below w.heap.size w w' → Calls Tryd.prog 62 #[.agg #[.bool b2, .int .u64 x4, .int .u64 x5], .agg #[.bool b8, .int .u64 x8, .int .u64 x9]] w' (Vc.Ret (.bool b10) w')) ∧
  ((b10 = true) → (
  (.tuple #[.agg #[.bool b8, .int .u64 x8, .int .u64 x9], .agg #[.bool b8, .int .u64 x8, .int .u64 x9]] : Value) = v)) ∧ (¬ (b10 = true) → (
  (.tuple #[.agg #[.bool b8, .int .u64 x8, .int .u64 x9], .agg #[.bool b2, .int .u64 x4, .int .u64 x5]] : Value) = v)))) ∧ (¬ (b9 = true) → (
  ∃ (b10 : Bool), (∀ w' : World, Below w.heap.size w w' → Calls Tryd.prog 62 #[.agg #[.bool b2, .int .u64 x4, .int .u64 x5], .agg #[.bool b8, .int .u64 x8, .int .u64 x9]] w' (Vc.Ret (.bool b10) w')) ∧
  ((b10 = true) → (
  (.tuple #[.agg #[.bool b2, .int .u64 x4, .int .u64 x5], .agg #[.bool b8, .int .u64 x8, .int .u64 x9]] : Value) = v)) ∧ (¬ (b10 = true) → (
  (.tuple #[.agg #[.bool b2, .int .u64 x4, .int .u64 x5], .agg #[.bool b2, .int .u64 x4, .int .u64 x5]] : Value) = v)))))))))) ∧ (¬ (b4 = true) → (
  ∃ (b5 : Bool), w.cell? ⟨p0.1, p0.2 + (Int.toNat 2) * 3 + 0, none⟩ = some (.bool b5) ∧
  ∃ (x6 : Int), w.cell? ⟨p0.1, p0.2 + (Int.toNat 2) * 3 + 1, none⟩ = some (.int .u64 x6) ∧
  ∃ (x7 : Int), w.cell? ⟨p0.1, p0.2 + (Int.toNat 2) * 3 + 2, none⟩ = some (.int .u64 x7) ∧
  ∃ (b6 : Bool), (∀ w' : World, Below w.heap.size w w' → Calls Tryd.prog 62 #[.agg #[.bool b5, .int .u64 x6, .int .u64 x7], .agg #[.bool b2, .int .u64 x4, .int .u64 x5]] w' (Vc.Ret (.bool b6) w')) ∧
  ((b6 = true) → (
  ∃ (b7 : Bool), (∀ w' : World, Below w.heap.size w w' → Calls Tryd.prog 62 #[.agg #[.bool b1, .int .u64 x2, .int .u64 x3], .agg #[.bool b5, .int .u64 x6, .int .u64 x7]] w' (Vc.Ret (.bool b7) w')) ∧
  ((b7 = true) → (
  ∃ (b8 : Bool), w.cell? ⟨p0.1, p0.2 + (Int.toNat 3) * 3 + 0, none⟩ = some (.bool b8) ∧
  ∃ (x8 : Int), w.cell? ⟨p0.1, p0.2 + (Int.toNat 3) * 3 + 1, none⟩ = some (.int .u64 x8) ∧
  ∃ (x9 : Int), w.cell? ⟨p0.1, p0.2 + (Int.toNat 3) * 3 + 2, none⟩ = some (.int .u64 x9) ∧
  ∃ (b9 : Bool), (∀ w' : World, Below w.heap.size w w' → Calls Tryd.prog 62 #[.agg #[.bool b8, .int .u64 x8, .int .u64 x9], .agg #[.bool b5, .int .u64 x6, .int .u64 x7]] w' (Vc.Ret (.bool b9) w')) ∧
  ((b9 = true) → (
  ∃ (b10 : Bool), (∀ w' : World, Below w.heap.size w w' → Calls Tryd.prog 62 #[.agg #[.bool b5, .int .u64 x6, .int .u64 x7], .agg #[.bool b8, .int .u64 x8, .int .u64 x9]] w' (Vc.Ret (.bool b10) w')) ∧
  ((b10 = true) → (
  (.tuple #[.agg #[.bool b8, .int .u64 x8, .int .u64 x9], .agg #[.bool b8, .int .u64 x8, .int .u64 x9]] : Value) = v)) ∧ (¬ (b10 = true) → (
  (.tuple #[.agg #[.bool b8, .int .u64 x8, .int .u64 x9], .agg #[.bool b5, .int .u64 x6, .int .u64 x7]] : Value) = v)))) ∧ (¬ (b9 = true) → (
  ∃ (b10 : Bool), (∀ w' : World, Below w.heap.size w w' → Calls Tryd.prog 62 #[.agg #[.bool b5, .int .u64 x6, .int .u64 x7], .agg #[.bool b8, .int .u64 x8, .int .u64 x9]] w' (Vc.Ret (.bool b10) w')) ∧
  ((b10 = true) → (
  (.tuple #[.agg #[.bool b5, .int .u64 x6, .int .u64 x7], .agg #[.bool b8, .int .u64 x8, .int .u64 x9]] : Value) = v)) ∧ (¬ (b10 = true) → (
  (.tuple #[.agg #[.bool b5, .int .u64 x6, .int .u64 x7], .agg #[.bool b5, .int .u64 x6, .int .u64 x7]] : Value) = v)))))) ∧ (¬ (b7 = true) → (
  ∃ (b8 : Bool), w.cell? ⟨p0.1, p0.2 + (Int.toNat 3) * 3 + 0, none⟩ = some (.bool b8) ∧
  ∃ (x8 : Int), w.cell? ⟨p0.1, p0.2 + (Int.toNat 3) * 3 + 1, none⟩ = some (.int .u64 x8) ∧
  ∃ (x9 : Int), w.cell? ⟨p0.1, p0.2 + (Int.toNat 3) * 3 + 2, none⟩ = some (.int .u64 x9) ∧
  ∃ (b9 : Bool), (∀ w' : World, Below w.heap.size w w' → Calls Tryd.prog 62 #[.agg #[.bool b8, .int .u64 x8, .int .u64 x9], .agg #[.bool b5, .int .u64 x6, .int .u64 x7]] w' (Vc.Ret (.bool b9) w')) ∧
  ((b9 = true) → (
  ∃ (b10 : Bool), (∀ w' : World, Below w.heap.size w w' → Calls Tryd.prog 62 #[.agg #[.bool b1, .int .u64 x2, .int .u64 x3], .agg #[.bool b8, .int .u64 x8, .int .u64 x9]] w' (Vc.Ret (.bool b10) w')) ∧
  ((b10 = true) → (
  (.tuple #[.agg #[.bool b8, .int .u64 x8, .int .u64 x9], .agg #[.bool b8, .int .u64 x8, .int .u64 x9]] : Value) = v)) ∧ (¬ (b10 = true) → (
  (.tuple #[.agg #[.bool b8, .int .u64 x8, .int .u64 x9], .agg #[.bool b1, .int .u64 x2, .int .u64 x3]] : Value) = v)))) ∧ (¬ (b9 = true) → (
  ∃ (b10 : Bool), (∀ w' : World, Below w.heap.size w w' → Calls Tryd.prog 62 #[.agg #[.bool b1, .int .u64 x2, .int .u64 x3], .agg #[.bool b8, .int .u64 x8, .int .u64 x9]] w' (Vc.Ret (.bool b10) w')) ∧
  ((b10 = true) → (
  (.tuple #[.agg #[.bool b5, .int .u64 x6, .int .u64 x7], .agg #[.bool b8, .int .u64 x8, .int .u64 x9]] : Value) = v)) ∧ (¬ (b10 = true) → (
  (.tuple #[.agg #[.bool b5, .int .u64 x6, .int .u64 x7], .agg #[.bool b1, .int .u64 x2, .int .u64 x3]] : Value) = v)))))))) ∧ (¬ (b6 = true) → (
  ∃ (b7 : Bool), (∀ w' : World, Below w.heap.size w w' → Calls Tryd.prog 62 #[.agg #[.bool b1, .int .u64 x2, .int .u64 x3], .agg #[.bool b5, .int .u64 x6, .int .u64 x7]] w' (Vc.Ret (.bool b7) w')) ∧
  ((b7 = true) → (
  ∃ (b8 : Bool), w.cell? ⟨p0.1, p0.2 + (Int.toNat 3) * 3 + 0, none⟩ = some (.bool b8) ∧
  ∃ (x8 : Int), w.cell? ⟨p0.1, p0.2 + (Int.toNat 3) * 3 + 1, none⟩ = some (.int .u64 x8) ∧
  ∃ (x9 : Int), w.cell? ⟨p0.1, p0.2 + (Int.toNat 3) * 3 + 2, none⟩ = some (.int .u64 x9) ∧
  ∃ (b9 : Bool), (∀ w' : World, Below w.heap.size w w' → Calls Tryd.prog 62 #[.agg #[.bool b8, .int .u64 x8, .int .u64 x9], .agg #[.bool b2, .int .u64 x4, .int .u64 x5]] w' (Vc.Ret (.bool b9) w')) ∧
  ((b9 = true) → (
  ∃ (b10 : Bool), (∀ w' : World, Below w.heap.size w w' → Calls Tryd.prog 62 #[.agg #[.bool b5, .int .u64 x6, .int .u64 x7], .agg #[.bool b8, .int .u64 x8, .int .u64 x9]] w' (Vc.Ret (.bool b10) w')) ∧
  ((b10 = true) → (
  (.tuple #[.agg #[.bool b8, .int .u64 x8, .int .u64 x9], .agg #[.bool b8, .int .u64 x8, .int .u64 x9]] : Value) = v)) ∧ (¬ (b10 = true) → (
  (.tuple #[.agg #[.bool b8, .int .u64 x8, .int .u64 x9], .agg #[.bool b5, .int .u64 x6, .int .u64 x7]] : Value) = v)))) ∧ (¬ (b9 = true) → (
  ∃ (b10 : Bool), (∀ w' : World, Below w.heap.size w w' → Calls Tryd.prog 62 #[.agg #[.bool b5, .int .u64 x6, .int .u64 x7], .agg #[.bool b8, .int .u64 x8, .int .u64 x9]] w' (Vc.Ret (.bool b10) w')) ∧
  ((b10 = true) → (
  (.tuple #[.agg #[.bool b2, .int .u64 x4, .int .u64 x5], .agg #[.bool b8, .int .u64 x8, .int .u64 x9]] : Value) = v)) ∧ (¬ (b10 = true) → (
  (.tuple #[.agg #[.bool b2, .int .u64 x4, .int .u64 x5], .agg #[.bool b5, .int .u64 x6, .int .u64 x7]] : Value) = v)))))) ∧ (¬ (b7 = true) → (
  ∃ (b8 : Bool), w.cell? ⟨p0.1, p0.2 + (Int.toNat 3) * 3 + 0, none⟩ = some (.bool b8) ∧
  ∃ (x8 : Int), w.cell? ⟨p0.1, p0.2 + (Int.toNat 3) * 3 + 1, none⟩ = some (.int .u64 x8) ∧
  ∃ (x9 : Int), w.cell? ⟨p0.1, p0.2 + (Int.toNat 3) * 3 + 2, none⟩ = some (.int .u64 x9) ∧
  ∃ (b9 : Bool), (∀ w' : World, Below w.heap.size w w' → Calls Tryd.prog 62 #[.agg #[.bool b8, .int .u64 x8, .int .u64 x9], .agg #[.bool b2, .int .u64 x4, .int .u64 x5]] w' (Vc.Ret (.bool b9) w')) ∧
  ((b9 = true) → (
  ∃ (b10 : Bool), (∀ w' : World, Below w.heap.size w w' → Calls Tryd.prog 62 #[.agg #[.bool b1, .int .u64 x2, .int .u64 x3], .agg #[.bool b8, .int .u64 x8, .int .u64 x9]] w' (Vc.Ret (.bool b10) w')) ∧
  ((b10 = true) → (
  (.tuple #[.agg #[.bool b8, .int .u64 x8, .int .u64 x9], .agg #[.bool b8, .int .u64 x8, .int .u64 x9]] : Value) = v)) ∧ (¬ (b10 = true) → (
  (.tuple #[.agg #[.bool b8, .int .u64 x8, .int .u64 x9], .agg #[.bool b1, .int .u64 x2, .int .u64 x3]] : Value) = v)))) ∧ (¬ (b9 = true) → (
  ∃ (b10 : Bool), (∀ w' : World, Below w.heap.size w w' → Calls Tryd.prog 62 #[.agg #[.bool b1, .int .u64 x2, .int .u64 x3], .agg #[.bool b8, .int .u64 x8, .int .u64 x9]] w' (Vc.Ret (.bool b10) w')) ∧
  ((b10 = true) → (
  (.tuple #[.agg #[.bool b2, .int .u64 x4, .int .u64 x5], .agg #[.bool b8, .int .u64 x8, .int .u64 x9]] : Value) = v)) ∧ (¬ (b10 = true) → (
  (.tuple #[.agg #[.bool b2, .int .u64 x4, .int .u64 x5], .agg #[.bool b1, .int .u64 x2, .int .u64 x3]] : Value) = v)))))))))))) ∧ (¬ (b3 = true) → (
  ∃ (b4 : Bool), (∀ w' : World, Below w.heap.size w w' → Calls Tryd.prog 62 #[.agg #[.bool b1, .int .u64 x2, .int .u64 x3], .agg #[.bool b2, .int .u64 x4, .int .u64 x5]] w' (Vc.Ret (.bool b4) w')) ∧
  ((b4 = true) → (
  ∃ (b5 : Bool), w.cell? ⟨p0.1, p0.2 + (Int.toNat 2) * 3 + 0, none⟩ = some (.bool b5) ∧
  ∃ (x6 : Int), w.cell? ⟨p0.1, p0.2 + (Int.toNat 2) * 3 + 1, none⟩ = some (.int .u64 x6) ∧
  ∃ (x7 : Int), w.cell? ⟨p0.1, p0.2 + (Int.toNat 2) * 3 + 2, none⟩ = some (.int .u64 x7) ∧
  ∃ (b6 : Bool), (∀ w' : World, Below w.heap.size w w' → Calls Tryd.prog 62 #[.agg #[.bool b5, .int .u64 x6, .int .u64 x7], .agg #[.bool b0, .int .u64 x0, .int .u64 x1]] w' (Vc.Ret (.bool b6) w')) ∧
  ((b6 = true) → (
  ∃ (b7 : Bool), (∀ w' : World, Below w.heap.size w w' → Calls Tryd.prog 62 #[.agg #[.bool b2, .int .u64 x4, .int .u64 x5], .agg #[.bool b5, .int .u64 x6, .int .u64 x7]] w' (Vc.Ret (.bool b7) w')) ∧
  ((b7 = true) → (
  ∃ (b8 : Bool), w.cell? ⟨p0.1, p0.2 + (Int.toNat 3) * 3 + 0, none⟩ = some (.bool b8) ∧
  ∃ (x8 : Int), w.cell? ⟨p0.1, p0.2 + (Int.toNat 3) * 3 + 1, none⟩ = some (.int .u64 x8) ∧
  ∃ (x9 : Int), w.cell? ⟨p0.1, p0.2 + (Int.toNat 3) * 3 + 2, none⟩ = some (.int .u64 x9) ∧
  ∃ (b9 : Bool), (∀ w' : World, Below w.heap.size w w' → Calls Tryd.prog 62 #[.agg #[.bool b8, .int .u64 x8, .int .u64 x9], .agg #[.bool b5, .int .u64 x6, .int .u64 x7]] w' (Vc.Ret (.bool b9) w')) ∧
  ((b9 = true) → (
  ∃ (b10 : Bool), (∀ w' : World, Below w.heap.size w w' → Calls Tryd.prog 62 #[.agg #[.bool b5, .int .u64 x6, .int .u64 x7], .agg #[.bool b8, .int .u64 x8, .int .u64 x9]] w' (Vc.Ret (.bool b10) w')) ∧
  ((b10 = true) → (
  (.tuple #[.agg #[.bool b8, .int .u64 x8, .int .u64 x9], .agg #[.bool b8, .int .u64 x8, .int .u64 x9]] : Value) = v)) ∧ (¬ (b10 = true) → (
  (.tuple #[.agg #[.bool b8, .int .u64 x8, .int .u64 x9], .agg #[.bool b5, .int .u64 x6, .int .u64 x7]] : Value) = v)))) ∧ (¬ (b9 = true) → (
  ∃ (b10 : Bool), (∀ w' : World, Below w.heap.size w w' → Calls Tryd.prog 62 #[.agg #[.bool b5, .int .u64 x6, .int .u64 x7], .agg #[.bool b8, .int .u64 x8, .int .u64 x9]] w' (Vc.Ret (.bool b10) w')) ∧
  ((b10 = true) → (
  (.tuple #[.agg #[.bool b5, .int .u64 x6, .int .u64 x7], .agg #[.bool b8, .int .u64 x8, .int .u64 x9]] : Value) = v)) ∧ (¬ (b10 = true) → (
  (.tuple #[.agg #[.bool b5, .int .u64 x6, .int .u64 x7], .agg #[.bool b5, .int .u64 x6, .int .u64 x7]] : Value) = v)))))) ∧ (¬ (b7 = true) → (
  ∃ (b8 : Bool), w.cell? ⟨p0.1, p0.2 + (Int.toNat 3) * 3 + 0, none⟩ = some (.bool b8) ∧
  ∃ (x8 : Int), w.cell? ⟨p0.1, p0.2 + (Int.toNat 3) * 3 + 1, none⟩ = some (.int .u64 x8) ∧
  ∃ (x9 : Int), w.cell? ⟨p0.1, p0.2 + (Int.toNat 3) * 3 + 2, none⟩ = some (.int .u64 x9) ∧
  ∃ (b9 : Bool), (∀ w' : World, Below w.heap.size w w' → Calls Tryd.prog 62 #[.agg #[.bool b8, .int .u64 x8, .int .u64 x9], .agg #[.bool b5, .int .u64 x6, .int .u64 x7]] w' (Vc.Ret (.bool b9) w')) ∧
  ((b9 = true) → (
  ∃ (b10 : Bool), (∀ w' : World, Below w.heap.size w w' → Calls Tryd.prog 62 #[.agg #[.bool b2, .int .u64 x4, .int .u64 x5], .agg #[.bool b8, .int .u64 x8, .int .u64 x9]] w' (Vc.Ret (.bool b10) w')) ∧
  ((b10 = true) → (
  (.tuple #[.agg #[.bool b8, .int .u64 x8, .int .u64 x9], .agg #[.bool b8, .int .u64 x8, .int .u64 x9]] : Value) = v)) ∧ (¬ (b10 = true) → (
  (.tuple #[.agg #[.bool b8, .int .u64 x8, .int .u64 x9], .agg #[.bool b2, .int .u64 x4, .int .u64 x5]] : Value) = v)))) ∧ (¬ (b9 = true) → (
  ∃ (b10 : Bool), (∀ w' : World, Below w.heap.size w w' → Calls Tryd.prog 62 #[.agg #[.bool b2, .int .u64 x4, .int .u64 x5], .agg #[.bool b8, .int .u64 x8, .int .u64 x9]] w' (Vc.Ret (.bool b10) w')) ∧
  ((b10 = true) → (
  (.tuple #[.agg #[.bool b5, .int .u64 x6, .int .u64 x7], .agg #[.bool b8, .int .u64 x8, .int .u64 x9]] : Value) = v)) ∧ (¬ (b10 = true) → (
  (.tuple #[.agg #[.bool b5, .int .u64 x6, .int .u64 x7], .agg #[.bool b2, .int .u64 x4, .int .u64 x5]] : Value) = v)))))))) ∧ (¬ (b6 = true) → (
  ∃ (b7 : Bool), (∀ w' : World, Below w.heap.size w w' → Calls Tryd.prog 62 #[.agg #[.bool b2, .int .u64 x4, .int .u64 x5], .agg #[.bool b5, .int .u64 x6, .int .u64 x7]] w' (Vc.Ret (.bool b7) w')) ∧
  ((b7 = true) → (
  ∃ (b8 : Bool), w.cell? ⟨p0.1, p0.2 + (Int.toNat 3) * 3 + 0, none⟩ = some (.bool b8) ∧
  ∃ (x8 : Int), w.cell? ⟨p0.1, p0.2 + (Int.toNat 3) * 3 + 1, none⟩ = some (.int .u64 x8) ∧
  ∃ (x9 : Int), w.cell? ⟨p0.1, p0.2 + (Int.toNat 3) * 3 + 2, none⟩ = some (.int .u64 x9) ∧
  ∃ (b9 : Bool), (∀ w' : World, Below w.heap.size w w' → Calls Tryd.prog 62 #[.agg #[.bool b8, .int .u64 x8, .int .u64 x9], .agg #[.bool b0, .int .u64 x0, .int .u64 x1]] w' (Vc.Ret (.bool b9) w')) ∧
  ((b9 = true) → (
  ∃ (b10 : Bool), (∀ w' : World, Below w.heap.size w w' → Calls Tryd.prog 62 #[.agg #[.bool b5, .int .u64 x6, .int .u64 x7], .agg #[.bool b8, .int .u64 x8, .int .u64 x9]] w' (Vc.Ret (.bool b10) w')) ∧
  ((b10 = true) → (
  (.tuple #[.agg #[.bool b8, .int .u64 x8, .int .u64 x9], .agg #[.bool b8, .int .u64 x8, .int .u64 x9]] : Value) = v)) ∧ (¬ (b10 = true) → (
  (.tuple #[.agg #[.bool b8, .int .u64 x8, .int .u64 x9], .agg #[.bool b5, .int .u64 x6, .int .u64 x7]] : Value) = v)))) ∧ (¬ (b9 = true) → (
  ∃ (b10 : Bool), (∀ w' : World, Below w.heap.size w w' → Calls Tryd.prog 62 #[.agg #[.bool b5, .int .u64 x6, .int .u64 x7], .agg #[.bool b8, .int .u64 x8, .int .u64 x9]] w' (Vc.Ret (.bool b10) w')) ∧
  ((b10 = true) → (
  (.tuple #[.agg #[.bool b0, .int .u64 x0, .int .u64 x1], .agg #[.bool b8, .int .u64 x8, .int .u64 x9]] : Value) = v)) ∧ (¬ (b10 = true) → (
  (.tuple #[.agg #[.bool b0, .int .u64 x0, .int .u64 x1], .agg #[.bool b5, .int .u64 x6, .int .u64 x7]] : Value) = v)))))) ∧ (¬ (b7 = true) → (
  ∃ (b8 : Bool), w.cell? ⟨p0.1, p0.2 + (Int.toNat 3) * 3 + 0, none⟩ = some (.bool b8) ∧
  ∃ (x8 : Int), w.cell? ⟨p0.1, p0.2 + (Int.toNat 3) * 3 + 1, none⟩ = some (.int .u64 x8) ∧
  ∃ (x9 : Int), w.cell? ⟨p0.1, p0.2 + (Int.toNat 3) * 3 + 2, none⟩ = some (.int .u64 x9) ∧
  ∃ (b9 : Bool), (∀ w' : World, Below w.heap.size w w' → Calls Tryd.prog 62 #[.agg #[.bool b8, .int .u64 x8, .int .u64 x9], .agg #[.bool b0, .int .u64 x0, .int .u64 x1]] w' (Vc.Ret (.bool b9) w')) ∧
  ((b9 = true) → (
  ∃ (b10 : Bool), (∀ w' : World, Below w.heap.size w w' → Calls Tryd.prog 62 #[.agg #[.bool b2, .int .u64 x4, .int .u64 x5], .agg #[.bool b8, .int .u64 x8, .int .u64 x9]] w' (Vc.Ret (.bool b10) w')) ∧
  ((b10 = true) → (
  (.tuple #[.agg #[.bool b8, .int .u64 x8, .int .u64 x9], .agg #[.bool b8, .int .u64 x8, .int .u64 x9]] : Value) = v)) ∧ (¬ (b10 = true) → (
  (.tuple #[.agg #[.bool b8, .int .u64 x8, .int .u64 x9], .agg #[.bool b2, .int .u64 x4, .int .u64 x5]] : Value) = v)))) ∧ (¬ (b9 = true) → (
  ∃ (b10 : Bool), (∀ w' : World, Below w.heap.size w w' → Calls Tryd.prog 62 #[.agg #[.bool b2, .int .u64 x4, .int .u64 x5], .agg #[.bool b8, .int .u64 x8, .int .u64 x9]] w' (Vc.Ret (.bool b10) w')) ∧
  ((b10 = true) → (
  (.tuple #[.agg #[.bool b0, .int .u64 x0, .int .u64 x1], .agg #[.bool b8, .int .u64 x8, .int .u64 x9]] : Value) = v)) ∧ (¬ (b10 = true) → (
  (.tuple #[.agg #[.bool b0, .int .u64 x0, .int .u64 x1], .agg #[.bool b2, .int .u64 x4, .int .u64 x5]] : Value) = v)))))))))) ∧ (¬ (b4 = true) → (
  ∃ (b5 : Bool), w.cell? ⟨p0.1, p0.2 + (Int.toNat 2) * 3 + 0, none⟩ = some (.bool b5) ∧
  ∃ (x6 : Int), w.cell? ⟨p0.1, p0.2 + (Int.toNat 2) * 3 + 1, none⟩ = some (.int .u64 x6) ∧
  ∃ (x7 : Int), w.cell? ⟨p0.1, p0.2 + (Int.toNat 2) * 3 + 2, none⟩ = some (.int .u64 x7) ∧
  ∃ (b6 : Bool), (∀ w' : World, Below w.heap.size w w' → Calls Tryd.prog 62 #[.agg #[.bool b5, .int .u64 x6, .int .u64 x7], .agg #[.bool b0, .int .u64 x0, .int .u64 x1]] w' (Vc.Ret (.bool b6) w')) ∧
  ((b6 = true) → (
  ∃ (b7 : Bool), (∀ w' : World, Below w.heap.size w w' → Calls Tryd.prog 62 #[.agg #[.bool b1, .int .u64 x2, .int .u64 x3], .agg #[.bool b5, .int .u64 x6, .int .u64 x7]] w' (Vc.Ret (.bool b7) w')) ∧
  ((b7 = true) → (
  ∃ (b8 : Bool), w.cell? ⟨p0.1, p0.2 + (Int.toNat 3) * 3 + 0, none⟩ = some (.bool b8) ∧
  ∃ (x8 : Int), w.cell? ⟨p0.1, p0.2 + (Int.toNat 3) * 3 + 1, none⟩ = some (.int .u64 x8) ∧
  ∃ (x9 : Int), w.cell? ⟨p0.1, p0.2 + (Int.toNat 3) * 3 + 2, none⟩ = some (.int .u64 x9) ∧
  ∃ (b9 : Bool), (∀ w' : World, Below w.heap.size w w' → Calls Tryd.prog 62 #[.agg #[.bool b8, .int .u64 x8, .int .u64 x9], .agg #[.bool b5, .int .u64 x6, .int .u64 x7]] w' (Vc.Ret (.bool b9) w')) ∧
  ((b9 = true) → (
  ∃ (b10 : Bool), (∀ w' : World, Below w.heap.size w w' → Calls Tryd.prog 62 #[.agg #[.bool b5, .int .u64 x6, .int .u64 x7], .agg #[.bool b8, .int .u64 x8, .int .u64 x9]] w' (Vc.Ret (.bool b10) w')) ∧
  ((b10 = true) → (
  (.tuple #[.agg #[.bool b8, .int .u64 x8, .int .u64 x9], .agg #[.bool b8, .int .u64 x8, .int .u64 x9]] : Value) = v)) ∧ (¬ (b10 = true) → (
  (.tuple #[.agg #[.bool b8, .int .u64 x8, .int .u64 x9], .agg #[.bool b5, .int .u64 x6, .int .u64 x7]] : Value) = v)))) ∧ (¬ (b9 = true) → (
  ∃ (b10 : Bool), (∀ w' : World, Below w.heap.size w w' → Calls Tryd.prog 62 #[.agg #[.bool b5, .int .u64 x6, .int .u64 x7], .agg #[.bool b8, .int .u64 x8, .int .u64 x9]] w' (Vc.Ret (.bool b10) w')) ∧
  ((b10 = true) → (
  (.tuple #[.agg #[.bool b5, .int .u64 x6, .int .u64 x7], .agg #[.bool b8, .int .u64 x8, .int .u64 x9]] : Value) = v)) ∧ (¬ (b10 = true) → (
  (.tuple #[.agg #[.bool b5, .int .u64 x6, .int .u64 x7], .agg #[.bool b5, .int .u64 x6, .int .u64 x7]] : Value) = v)))))) ∧ (¬ (b7 = true) → (
  ∃ (b8 : Bool), w.cell? ⟨p0.1, p0.2 + (Int.toNat 3) * 3 + 0, none⟩ = some (.bool b8) ∧
  ∃ (x8 : Int), w.cell? ⟨p0.1, p0.2 + (Int.toNat 3) * 3 + 1, none⟩ = some (.int .u64 x8) ∧
  ∃ (x9 : Int), w.cell? ⟨p0.1, p0.2 + (Int.toNat 3) * 3 + 2, none⟩ = some (.int .u64 x9) ∧
  ∃ (b9 : Bool), (∀ w' : World, Below w.heap.size w w' → Calls Tryd.prog 62 #[.agg #[.bool b8, .int .u64 x8, .int .u64 x9], .agg #[.bool b5, .int .u64 x6, .int .u64 x7]] w' (Vc.Ret (.bool b9) w')) ∧
  ((b9 = true) → (
  ∃ (b10 : Bool), (∀ w' : World, Below w.heap.size w w' → Calls Tryd.prog 62 #[.agg #[.bool b1, .int .u64 x2, .int .u64 x3], .agg #[.bool b8, .int .u64 x8, .int .u64 x9]] w' (Vc.Ret (.bool b10) w')) ∧
  ((b10 = true) → (
  (.tuple #[.agg #[.bool b8, .int .u64 x8, .int .u64 x9], .agg #[.bool b8, .int .u64 x8, .int .u64 x9]] : Value) = v)) ∧ (¬ (b10 = true) → (
  (.tuple #[.agg #[.bool b8, .int .u64 x8, .int .u64 x9], .agg #[.bool b1, .int .u64 x2, .int .u64 x3]] : Value) = v)))) ∧ (¬ (b9 = true) → (
  ∃ (b10 : Bool), (∀ w' : World, Below w.heap.size w w' → Calls Tryd.prog 62 #[.agg #[.bool b1, .int .u64 x2, .int .u64 x3], .agg #[.bool b8, .int .u64 x8, .int .u64 x9]] w' (Vc.Ret (.bool b10) w')) ∧
  ((b10 = true) → (
  (.tuple #[.agg #[.bool b5, .int .u64 x6, .int .u64 x7], .agg #[.bool b8, .int .u64 x8, .int .u64 x9]] : Value) = v)) ∧ (¬ (b10 = true) → (
  (.tuple #[.agg #[.bool b5, .int .u64 x6, .int .u64 x7], .agg #[.bool b1, .int .u64 x2, .int .u64 x3]] : Value) = v)))))))) ∧ (¬ (b6 = true) → (
  ∃ (b7 : Bool), (∀ w' : World, Below w.heap.size w w' → Calls Tryd.prog 62 #[.agg #[.bool b1, .int .u64 x2, .int .u64 x3], .agg #[.bool b5, .int .u64 x6, .int .u64 x7]] w' (Vc.Ret (.bool b7) w')) ∧
  ((b7 = true) → (
  ∃ (b8 : Bool), w.cell? ⟨p0.1, p0.2 + (Int.toNat 3) * 3 + 0, none⟩ = some (.bool b8) ∧
  ∃ (x8 : Int), w.cell? ⟨p0.1, p0.2 + (Int.toNat 3) * 3 + 1, none⟩ = some (.int .u64 x8) ∧
  ∃ (x9 : Int), w.cell? ⟨p0.1, p0.2 + (Int.toNat 3) * 3 + 2, none⟩ = some (.int .u64 x9) ∧
  ∃ (b9 : Bool), (∀ w' : World, Below w.heap.size w w' → Calls Tryd.prog 62 #[.agg #[.bool b8, .int .u64 x8, .int .u64 x9], .agg #[.bool b0, .int .u64 x0, .int .u64 x1]] w' (Vc.Ret (.bool b9) w')) ∧
  ((b9 = true) → (
  ∃ (b10 : Bool), (∀ w' : World, Below w.heap.size w w' → Calls Tryd.prog 62 #[.agg #[.bool b5, .int .u64 x6, .int .u64 x7], .agg #[.bool b8, .int .u64 x8, .int .u64 x9]] w' (Vc.Ret (.bool b10) w')) ∧
  ((b10 = true) → (
  (.tuple #[.agg #[.bool b8, .int .u64 x8, .int .u64 x9], .agg #[.bool b8, .int .u64 x8, .int .u64 x9]] : Value) = v)) ∧ (¬ (b10 = true) → (
  (.tuple #[.agg #[.bool b8, .int .u64 x8, .int .u64 x9], .agg #[.bool b5, .int .u64 x6, .int .u64 x7]] : Value) = v)))) ∧ (¬ (b9 = true) → (
  ∃ (b10 : Bool), (∀ w' : World, Below w.heap.size w w' → Calls Tryd.prog 62 #[.agg #[.bool b5, .int .u64 x6, .int .u64 x7], .agg #[.bool b8, .int .u64 x8, .int .u64 x9]] w' (Vc.Ret (.bool b10) w')) ∧
  ((b10 = true) → (
  (.tuple #[.agg #[.bool b0, .int .u64 x0, .int .u64 x1], .agg #[.bool b8, .int .u64 x8, .int .u64 x9]] : Value) = v)) ∧ (¬ (b10 = true) → (
  (.tuple #[.agg #[.bool b0, .int .u64 x0, .int .u64 x1], .agg #[.bool b5, .int .u64 x6, .int .u64 x7]] : Value) = v)))))) ∧ (¬ (b7 = true) → (
  ∃ (b8 : Bool), w.cell? ⟨p0.1, p0.2 + (Int.toNat 3) * 3 + 0, none⟩ = some (.bool b8) ∧
  ∃ (x8 : Int), w.cell? ⟨p0.1, p0.2 + (Int.toNat 3) * 3 + 1, none⟩ = some (.int .u64 x8) ∧
  ∃ (x9 : Int), w.cell? ⟨p0.1, p0.2 + (Int.toNat 3) * 3 + 2, none⟩ = some (.int .u64 x9) ∧
  ∃ (b9 : Bool), (∀ w' : World, Below w.heap.size w w' → Calls Tryd.prog 62 #[.agg #[.bool b8, .int .u64 x8, .int .u64 x9], .agg #[.bool b0, .int .u64 x0, .int .u64 x1]] w' (Vc.Ret (.bool b9) w')) ∧
  ((b9 = true) → (
  ∃ (b10 : Bool), (∀ w' : World, Below w.heap.size w w' → Calls Tryd.prog 62 #[.agg #[.bool b1, .int .u64 x2, .int .u64 x3], .agg #[.bool b8, .int .u64 x8, .int .u64 x9]] w' (Vc.Ret (.bool b10) w')) ∧
  ((b10 = true) → (
  (.tuple #[.agg #[.bool b8, .int .u64 x8, .int .u64 x9], .agg #[.bool b8, .int .u64 x8, .int .u64 x9]] : Value) = v)) ∧ (¬ (b10 = true) → (
  (.tuple #[.agg #[.bool b8, .int .u64 x8, .int .u64 x9], .agg #[.bool b1, .int .u64 x2, .int .u64 x3]] : Value) = v)))) ∧ (¬ (b9 = true) → (
  ∃ (b10 : Bool), (∀ w' : World, Below w.heap.size w w' → Calls Tryd.prog 62 #[.agg #[.bool b1, .int .u64 x2, .int .u64 x3], .agg #[.bool b8, .int .u64 x8, .int .u64 x9]] w' (Vc.Ret (.bool b10) w')) ∧
  ((b10 = true) → (
  (.tuple #[.agg #[.bool b0, .int .u64 x0, .int .u64 x1], .agg #[.bool b8, .int .u64 x8, .int .u64 x9]] : Value) = v)) ∧ (¬ (b10 = true) → (
  (.tuple #[.agg #[.bool b0, .int .u64 x0, .int .u64 x1], .agg #[.bool b1, .int .u64 x2, .int .u64 x3]] : Value) = v))))))))))))) : Calls Tryd.prog 47 #[.slice (some ⟨p0.1, p0.2, none⟩) 4 4] w (Vc.Ret v w) :=
  Vc.pure_of base [(1000000000003, .unroll)] 200 Tryd.func47 (b := (Tryd.f47.body).getD .skip) (by kernel_rfl) [.cv (.one (.xsl 0 (.lit (0)) 3 (.lit (4)) (.lit (4))))] ⟨0, 0, 0, 1, 0, 0, 0⟩ (Vc.envOf [] [] [] [p0]) (by kernel_rfl) (by kernel_rfl) (by kernel_rfl) h

theorem vc_span_hull_n (p0 : Nat × Nat) (x0 x1 : Int) (w : World) (v : Value) (h : 
  (0 < x0) ∧
  ∃ (b0 : Bool), w.cell? ⟨p0.1, p0.2 + (Int.toNat 0) * 3 + 0, none⟩ = some (.bool b0) ∧
  ∃ (x2 : Int), w.cell? ⟨p0.1, p0.2 + (Int.toNat 0) * 3 + 1, none⟩ = some (.int .u64 x2) ∧
  ∃ (x3 : Int), w.cell? ⟨p0.1, p0.2 + (Int.toNat 0) * 3 + 2, none⟩ = some (.int .u64 x3) ∧
  (0 < x0) ∧
  ∃ (b1 : Bool), w.cell? ⟨p0.1, p0.2 + (Int.toNat 0) * 3 + 0, none⟩ = some (.bool b1) ∧
  ∃ (x4 : Int), w.cell? ⟨p0.1, p0.2 + (Int.toNat 0) * 3 + 1, none⟩ = some (.int .u64 x4) ∧
  ∃ (x5 : Int), w.cell? ⟨p0.1, p0.2 + (Int.toNat 0) * 3 + 2, none⟩ = some (.int .u64 x5) ∧
  (0 ≤ x0) ∧
  (x0 ≤ x1) ∧
  (1 ≤ x0) ∧
  (x0 ≤ x1) ∧
  ∀ x6 : Int, x6 = x0 - 1 →
  ∀ x7 : Int, x7 = x1 - 1 →
  ((1 < x1) → (
  (0 ≤ x6) ∧
  ∃ (Ix8 : List Vc.Vl → Prop) (mx8 : List Vc.Vl → Nat), Ix8 [.i 0, .b b0, .i x2, .i x3, .b b1, .i x4, .i x5] ∧ ∀ (x8 : Int) (b2 : Bool) (x9 : Int) (x10 : Int) (b3 : Bool) (x11 : Int) (x12 : Int), Ix8 [.i x8, .b b2, .i x9, .i x10, .b b3, .i x11, .i x12] → (
  ((x8 < x6) → (
  (0 ≤ x8) ∧
  (x8 < x6) ∧
  ∀ x13 : Int, x13 = 1 + x8 →
  ∃ (b4 : Bool), w.cell? ⟨p0.1, p0.2 + (Int.toNat x13) * 3 + 0, none⟩ = some (.bool b4) ∧
  ∃ (x14 : Int), w.cell? ⟨p0.1, p0.2 + (Int.toNat x13) * 3 + 1, none⟩ = some (.int .u64 x14) ∧
  ∃ (x15 : Int), w.cell? ⟨p0.1, p0.2 + (Int.toNat x13) * 3 + 2, none⟩ = some (.int .u64 x15) ∧
  ∃ (b5 : Bool), (∀ w' : World, Below w.heap.size w w' → Calls Tryd.prog 62 #[.agg #[.bool b4, .int .u64 x14, .int .u64 x15], .agg #[.bool b2, .int .u64 x9, .int .u64 x10]] w' (Vc.Ret (.bool b5) w')) ∧
  ((b5 = true) → (
  ∃ (b6 : Bool), (∀ w' : World, Below w.heap.size w w' → Calls Tryd.prog 62 #[.agg #[.bool b3, .int .u64 x11, .int .u64 x12], .agg #[.bool b4, .int .u64 x14, .int .u64 x15]] w' (Vc.Ret (.bool b6) w')) ∧
  ((b6 = true) → (
  ∀ x16 : Int, x16 = IntKind.i64.wrap (x8 + 1) →
  Ix8 [.i x16, .b b4, .i x14, .i x15, .b b4, .i x14, .i x15] ∧ mx8 [.i x16, .b b4, .i x14, .i x15, .b b4, .i x14, .i x15] < mx8 [.i x8, .b b2, .i x9, .i x10, .b b3, .i x11, .i x12])) ∧ (¬ (b6 = true) → (
  ∀ x16 : Int, x16 = IntKind.i64.wrap (x8 + 1) →
  Ix8 [.i x16, .b b4, .i x14, .i x15, .b b3, .i x11, .i x12] ∧ mx8 [.i x16, .b b4, .i x14, .i x15, .b b3, .i x11, .i x12] < mx8 [.i x8, .b b2, .i x9, .i x10, .b b3, .i x11, .i x12])))) ∧ (¬ (b5 = true) → (
  ∃ (b6 : Bool), (∀ w' : World, Below w.heap.size w w' → Calls Tryd.prog 62 #[.agg #[.bool b3, .int .u64 x11, .int .u64 x12], .agg #[.bool b4, .int .u64 x14, .int .u64 x15]] w' (Vc.Ret (.bool b6) w')) ∧
  ((b6 = true) → (
  ∀ x16 : Int, x16 = IntKind.i64.wrap (x8 + 1) →
  Ix8 [.i x16, .b b2, .i x9, .i x10, .b b4, .i x14, .i x15] ∧ mx8 [.i x16, .b b2, .i x9, .i x10, .b b4, .i x14, .i x15] < mx8 [.i x8, .b b2, .i x9, .i x10, .b b3, .i x11, .i x12])) ∧ (¬ (b6 = true) → (
  ∀ x16 : Int, x16 = IntKind.i64.wrap (x8 + 1) →
  Ix8 [.i x16, .b b2, .i x9, .i x10, .b b3, .i x11, .i x12] ∧ mx8 [.i x16, .b b2, .i x9, .i x10, .b b3, .i x11, .i x12] < mx8 [.i x8, .b b2, .i x9, .i x10, .b b3, .i x11, .i x12])))))) ∧ (¬ (x8 < x6) → (
  (.tuple #[.agg #[.bool b2, .int .u64 x9, .int .u64 x10], .agg #[.bool b3, .int .u64 x11, .int .u64 x12]] : Value) = v))))) ∧ (¬ (1 < x1) → (
  (0 ≤ x6) ∧
  ∃ (Ix8 : List Vc.Vl → Prop) (mx8 : List Vc.Vl → Nat), Ix8 [.i 0, .b b0, .i x2, .i x3, .b b1, .i x4, .i x5] ∧ ∀ (x8 : Int) (b2 : Bool) (x9 : Int) (x10 : Int) (b3 : Bool) (x11 : Int) (x12 : Int), Ix8 [.i x8, .b b2, .i x9, .i x10, .b b3, .i x11, .i x12] → (
  ((x8 < x6) → (
  (0 ≤ x8) ∧
  (x8 < x6) ∧
  ∃ (b4 : Bool), w.cell? ⟨p0.1, p0.2 + (Int.toNat x8) * 3 + 0, none⟩ = some (.bool b4) ∧
  ∃ (x13 : Int), w.cell? ⟨p0.1, p0.2 + (Int.toNat x8) * 3 + 1, none⟩ = some (.int .u64 x13) ∧
  ∃ (x14 : Int), w.cell? ⟨p0.1, p0.2 + (Int.toNat x8) * 3 + 2, none⟩ = some (.int .u64 x14) ∧
  ∃ (b5 : Bool), (∀ w' : World, Below w.heap.size w w' → Calls Tryd.prog 62 #[.agg #[.bool b4, .int .u64 x13, .int .u64 x14], .agg #[.bool b2, .int .u64 x9, .int .u64 x10]] w' (Vc.Ret (.bool b5) w')) ∧
  ((b5 = true) → (
  ∃ (b6 : Bool), (∀ w' : World, Below w.heap.size w w' → Calls Tryd.prog 62 #[.agg #[.bool b3, .int .u64 x11, .int .u64 x12], .agg #[.bool b4, .int .u64 x13, .int .u64 x14]] w' (Vc.Ret (.bool b6) w')) ∧
  ((b6 = true) → (
  ∀ x15 : Int, x15 = IntKind.i64.wrap (x8 + 1) →
  Ix8 [.i x15, .b b4, .i x13, .i x14, .b b4, .i x13, .i x14] ∧ mx8 [.i x15, .b b4, .i x13, .i x14, .b b4, .i x13, .i x14] < mx8 [.i x8, .b b2, .i x9, .i x10, .b b3, .i x11, .i x12])) ∧ (¬ (b6 = true) → (
  ∀ x15 : Int, x15 = IntKind.i64.wrap (x8 + 1) →
  Ix8 [.i x15, .b b4, .i x13, .i x14, .b b3, .i x11, .i x12] ∧ mx8 [.i x15, .b b4, .i x13, .i x14, .b b3, .i x11, .i x12] < mx8 [.i x8, .b b2, .i x9, .i x10, .b b3, .i x11, .i x12])))) ∧ (¬ (b5 = true) → (
  ∃ (b6 : Bool), (∀ w' : World, Below w.heap.size w w' → Calls Tryd.prog 62 #[.agg #[.bool b3, .int .u64 x11, .int .u64 x12], .agg #[.bool b4, .int .u64 x13, .int .u64 x14]] w' (Vc.Ret (.bool b6) w')) ∧
  ((b6 = true) → (
  ∀ x15 : Int, x15 = IntKind.i64.wrap (x8 + 1) →
  Ix8 [.i x15, .b b2, .i x9, .i x10, .b b4, .i x13, .i x14] ∧ mx8 [.i x15, .b b2, .i x9, .i x10, .b b4, .i x13, .i x14] < mx8 [.i x8, .b b2, .i x9, .i x10, .b b3, .i x11, .i x12])) ∧ (¬ (b6 = true) → (
  ∀ x15 : Int, x15 = IntKind.i64.wrap (x8 + 1) →
  Ix8 [.i x15, .b b2, .i x9, .i x10, .b b3, .i x11, .i x12] ∧ mx8 [.i x15, .b b2, .i x9, .i x10, .b b3, .i x11, .i x12] < mx8 [.i x8, .b b2, .i x9, .i x10, .b b3, .i x11, .i x12])))))) ∧ (¬ (x8 < x6) → (
  (.tuple #[.agg #[.bool b2, .int .u64 x9, .int .u64 x10], .agg #[.bool b3, .int .u64 x11, .int .u64 x12]] : Value) = v)))))) : Calls Tryd.prog 47 #[.slice (some ⟨p0.1, p0.2, none⟩) (Int.toNat x0) (Int.toNat x1)] w (Vc.Ret v w) :=
  Vc.pure_of base [(1000000000003, .inv [(2, 0), (2, 1), (2, 2), (3, 0), (3, 1), (3, 2)] [15] [16, 17, 18, 5, 19, 20, 21, 22, 23, 24, 25, 26, 27])] 200 Tryd.func47 (b := (Tryd.f47.body).getD .skip) (by kernel_rfl) [.cv (.one (.xsl 0 (.lit (0)) 3 (.var 0) (.var 1)))] ⟨2, 0, 0, 1, 0, 0, 0⟩ (Vc.envOf [x0, x1] [] [] [p0]) (by kernel_rfl) (by kernel_rfl) (by kernel_rfl) h

theorem vc_span_Mul_1 (x0 x1 : Int) (w : World) (v : Value) (h : 
  ∃ (b0 : Bool), ∃ (x2 : Int), ∃ (x3 : Int), (∀ w' : World, Below w.heap.size w w' → Calls Tryd.prog 49 #[.int .i64 x0, .int .i64 x1] w' (Vc.Ret (.agg #[.bool b0, .int .u64 x2, .int .u64 x3]) w')) ∧
  (.agg #[.bool b0, .int .u64 x2, .int .u64 x3] : Value) = v) : Calls Tryd.prog 48 #[.int .i64 x0, .int .i64 x1] w (Vc.Ret v w) :=
  Vc.pure_of base [] 200 Tryd.func48 (b := (Tryd.f48.body).getD .skip) (by kernel_rfl) [.cv (.one (.int .i64 (.var 0))), .cv (.one (.int .i64 (.var 1)))] ⟨2, 0, 0, 0, 0, 0, 0⟩ (Vc.envOf [x0, x1] [] [] []) (by kernel_rfl) (by kernel_rfl) (by kernel_rfl) h

theorem vc_span_Mul (x0 x1 x2 x3 : Int) (w : World) (v : Value) (h : 
  ∃ (x4 : Int), (∀ (β : Nat → Nat) (w' : World), Below w.heap.size w w' → ((w.heap.size ≤ β 3 ∧ w'.heap[β 3]? = some (.cells #[.int .i64 x0, .int .i64 x1, .int .i64 x2, .int .i64 x3] 24)) ∧ True) → Calls Tryd.prog 43 #[.slice (some ⟨β 3, 0, none⟩) 2 2] w' (Vc.Ret (.int .i64 x4) w')) ∧
  ((x4 = 0) → (
  ∃ (b0 : Bool), ∃ (x5 : Int), ∃ (x6 : Int), (∀ w' : World, Below w.heap.size w w' → Calls Tryd.prog 48 #[.int .i64 x0, .int .i64 x2] w' (Vc.Ret (.agg #[.bool b0, .int .u64 x5, .int .u64 x6]) w')) ∧
  ∃ (b1 : Bool), ∃ (x7 : Int), ∃ (x8 : Int), (∀ w' : World, Below w.heap.size w w' → Calls Tryd.prog 48 #[.int .i64 x0, .int .i64 x3] w' (Vc.Ret (.agg #[.bool b1, .int .u64 x7, .int .u64 x8]) w')) ∧
  ∃ (b2 : Bool), ∃ (x9 : Int), ∃ (x10 : Int), (∀ w' : World, Below w.heap.size w w' → Calls Tryd.prog 48 #[.int .i64 x1, .int .i64 x2] w' (Vc.Ret (.agg #[.bool b2, .int .u64 x9, .int .u64 x10]) w')) ∧
  ∃ (b3 : Bool), ∃ (x11 : Int), ∃ (x12 : Int), (∀ w' : World, Below w.heap.size w w' → Calls Tryd.prog 48 #[.int .i64 x1, .int .i64 x3] w' (Vc.Ret (.agg #[.bool b3, .int .u64 x11, .int .u64 x12]) w')) ∧
  ∃ (b4 : Bool), ∃ (x13 : Int), ∃ (x14 : Int), ∃ (b5 : Bool), ∃ (x15 : Int), ∃ (x16 : Int), (∀ (β : Nat → Nat) (w' : World), Below w.heap.size w w' → ((w.heap.size ≤ β 4 ∧ w'.heap[β 4]? = some (.cells #[.bool b0, .int .u64 x5, .int .u64 x6, .bool b1, .int .u64 x7, .int .u64 x8, .bool b2, .int .u64 x9, .int .u64 x10, .bool b3, .int .u64 x11, .int .u64 x12] 48)) ∧ True) → Calls Tryd.prog 47 #[.slice (some ⟨β 4, 0, none⟩) 4 4] w' (Vc.Ret (.tuple #[.agg #[.bool b4, .int .u64 x13, .int .u64 x14], .agg #[.bool b5, .int .u64 x15, .int .u64 x16]]) w')) ∧
  ∃ (b6 : Bool), ∃ (x17 : Int), ∃ (x18 : Int), (∀ w' : World, Below w.heap.size w w' → Calls Tryd.prog 45 #[.int .i64 4294967296] w' (Vc.Ret (.agg #[.bool b6, .int .u64 x17, .int .u64 x18]) w')) ∧
  ∃ (b7 : Bool), ∃ (x19 : Int), ∃ (x20 : Int), ∃ (b8 : Bool), ∃ (x21 : Int), ∃ (x22 : Int), (∀ w' : World, Below w.heap.size w w' → Calls Tryd.prog 50 #[.agg #[.bool b4, .int .u64 x13, .int .u64 x14], .agg #[.bool b6, .int .u64 x17, .int .u64 x18]] w' (Vc.Ret (.tuple #[.agg #[.bool b7, .int .u64 x19, .int .u64 x20], .agg #[.bool b8, .int .u64 x21, .int .u64 x22]]) w')) ∧
  ∃ (b9 : Bool), ∃ (x23 : Int), ∃ (x24 : Int), ∃ (b10 : Bool), ∃ (x25 : Int), ∃ (x26 : Int), (∀ w' : World, Below w.heap.size w w' → Calls Tryd.prog 50 #[.agg #[.bool b5, .int .u64 x15, .int .u64 x16], .agg #[.bool b6, .int .u64 x17, .int .u64 x18]] w' (Vc.Ret (.tuple #[.agg #[.bool b9, .int .u64 x23, .int .u64 x24], .agg #[.bool b10, .int .u64 x25, .int .u64 x26]]) w')) ∧
  ∃ (x27 : Int), ∃ (x28 : Int), ∃ (x29 : Int), (∀ w' : World, Below w.heap.size w w' → Calls Tryd.prog 22 #[.agg #[.bool b7, .int .u64 x19, .int .u64 x20], .agg #[.bool b10, .int .u64 x25, .int .u64 x26]] w' (Vc.Ret (.tuple #[.agg #[.int .i64 x27, .int .i64 x28], .int .i64 x29]) w')) ∧
  (.tuple #[.agg #[.int .i64 x27, .int .i64 x28], .int .i64 x29] : Value) = v)) ∧ (¬ (x4 = 0) → (
  (.tuple #[.agg #[.int .i64 0, .int .i64 0], .int .i64 x4] : Value) = v))) : Calls Tryd.prog 16 #[.agg #[.int .i64 x0, .int .i64 x1], .agg #[.int .i64 x2, .int .i64 x3]] w (Vc.Ret v w) :=
  Vc.pure_of base [] 200 Tryd.func16 (b := (Tryd.f16.body).getD .skip) (by kernel_rfl) [.cv (.agg [.int .i64 (.var 0), .int .i64 (.var 1)]), .cv (.agg [.int .i64 (.var 2), .int .i64 (.var 3)])] ⟨4, 0, 0, 0, 0, 0, 0⟩ (Vc.envOf [x0, x1, x2, x3] [] [] []) (by kernel_rfl) (by kernel_rfl) (by kernel_rfl) h

theorem vc_span_Div (x0 x1 x2 x3 : Int) (w : World) (v : Value) (h : 
  ∃ (x4 : Int), (∀ (β : Nat → Nat) (w' : World), Below w.heap.size w w' → ((w.heap.size ≤ β 3 ∧ w'.heap[β 3]? = some (.cells #[.int .i64 x0, .int .i64 x1, .int .i64 x2, .int .i64 x3] 24)) ∧ True) → Calls Tryd.prog 43 #[.slice (some ⟨β 3, 0, none⟩) 2 2] w' (Vc.Ret (.int .i64 x4) w')) ∧
  ((x4 = 0) → (
  ((x2 ≤ 0) → (
  ((0 ≤ x3) → (
  (.tuple #[.agg #[.int .i64 0, .int .i64 0], .int .i64 10] : Value) = v)) ∧ (¬ (0 ≤ x3) → (
  ∃ (b0 : Bool), ∃ (x5 : Int), ∃ (x6 : Int), ∃ (b1 : Bool), ∃ (x7 : Int), ∃ (x8 : Int), (∀ w' : World, Below w.heap.size w w' → Calls Tryd.prog 46 #[.int .i64 x0, .int .i64 x2] w' (Vc.Ret (.tuple #[.agg #[.bool b0, .int .u64 x5, .int .u64 x6], .agg #[.bool b1, .int .u64 x7, .int .u64 x8]]) w')) ∧
  ∃ (b2 : Bool), ∃ (x9 : Int), ∃ (x10 : Int), ∃ (b3 : Bool), ∃ (x11 : Int), ∃ (x12 : Int), (∀ w' : World, Below w.heap.size w w' → Calls Tryd.prog 46 #[.int .i64 x0, .int .i64 x3] w' (Vc.Ret (.tuple #[.agg #[.bool b2, .int .u64 x9, .int .u64 x10], .agg #[.bool b3, .int .u64 x11, .int .u64 x12]]) w')) ∧
  ∃ (b4 : Bool), ∃ (x13 : Int), ∃ (x14 : Int), ∃ (b5 : Bool), ∃ (x15 : Int), ∃ (x16 : Int), (∀ w' : World, Below w.heap.size w w' → Calls Tryd.prog 46 #[.int .i64 x1, .int .i64 x2] w' (Vc.Ret (.tuple #[.agg #[.bool b4, .int .u64 x13, .int .u64 x14], .agg #[.bool b5, .int .u64 x15, .int .u64 x16]]) w')) ∧
  ∃ (b6 : Bool), ∃ (x17 : Int), ∃ (x18 : Int), ∃ (b7 : Bool), ∃ (x19 : Int), ∃ (x20 : Int), (∀ w' : World, Below w.heap.size w w' → Calls Tryd.prog 46 #[.int .i64 x1, .int .i64 x3] w' (Vc.Ret (.tuple #[.agg #[.bool b6, .int .u64 x17, .int .u64 x18], .agg #[.bool b7, .int .u64 x19, .int .u64 x20]]) w')) ∧
  ∃ (b8 : Bool), ∃ (x21 : Int), ∃ (x22 : Int), ∃ (b9 : Bool), ∃ (x23 : Int), ∃ (x24 : Int), (∀ (β : Nat → Nat) (w' : World), Below w.heap.size w w' → (Vc.RowOk w.heap.size (β 46) (β 47) (β 48) (β 49) (([.bool b0, .int .u64 x5, .int .u64 x6, .bool b2, .int .u64 x9, .int .u64 x10, .bool b4, .int .u64 x13, .int .u64 x14, .bool b6, .int .u64 x17, .int .u64 x18] : List Value)) 3 48 w' ∧ True) → Calls Tryd.prog 47 #[Vc.ownV (β 46) (β 47) (β 48) (β 49)] w' (Vc.Ret (.tuple #[.agg #[.bool b8, .int .u64 x21, .int .u64 x22], .agg #[.bool b9, .int .u64 x23, .int .u64 x24]]) w')) ∧
  ∃ (b10 : Bool), ∃ (x25 : Int), ∃ (x26 : Int), ∃ (b11 : Bool), ∃ (x27 : Int), ∃ (x28 : Int), (∀ (β : Nat → Nat) (w' : World), Below w.heap.size w w' → (Vc.RowOk w.heap.size (β 51) (β 52) (β 53) (β 54) (([.bool b1, .int .u64 x7, .int .u64 x8, .bool b3, .int .u64 x11, .int .u64 x12, .bool b5, .int .u64 x15, .int .u64 x16, .bool b7, .int .u64 x19, .int .u64 x20] : List Value)) 3 48 w' ∧ True) → Calls Tryd.prog 47 #[Vc.ownV (β 51) (β 52) (β 53) (β 54)] w' (Vc.Ret (.tuple #[.agg #[.bool b10, .int .u64 x25, .int .u64 x26], .agg #[.bool b11, .int .u64 x27, .int .u64 x28]]) w')) ∧
  ∃ (x29 : Int), ∃ (x30 : Int), ∃ (x31 : Int), (∀ w' : World, Below w.heap.size w w' → Calls Tryd.prog 22 #[.agg #[.bool b8, .int .u64 x21, .int .u64 x22], .agg #[.bool b11, .int .u64 x27, .int .u64 x28]] w' (Vc.Ret (.tuple #[.agg #[.int .i64 x29, .int .i64 x30], .int .i64 x31]) w')) ∧
  (.tuple #[.agg #[.int .i64 x29, .int .i64 x30], .int .i64 x31] : Value) = v)))) ∧ (¬ (x2 ≤ 0) → (
  ∃ (b0 : Bool), ∃ (x5 : Int), ∃ (x6 : Int), ∃ (b1 : Bool), ∃ (x7 : Int), ∃ (x8 : Int), (∀ w' : World, Below w.heap.size w w' → Calls Tryd.prog 46 #[.int .i64 x0, .int .i64 x2] w' (Vc.Ret (.tuple #[.agg #[.bool b0, .int .u64 x5, .int .u64 x6], .agg #[.bool b1, .int .u64 x7, .int .u64 x8]]) w')) ∧
  ∃ (b2 : Bool), ∃ (x9 : Int), ∃ (x10 : Int), ∃ (b3 : Bool), ∃ (x11 : Int), ∃ (x12 : Int), (∀ w' : World, Below w.heap.size w w' → Calls Tryd.prog 46 #[.int .i64 x0, .int .i64 x3] w' (Vc.Ret (.tuple #[.agg #[.bool b2, .int .u64 x9, .int .u64 x10], .agg #[.bool b3, .int .u64 x11, .int .u64 x12]]) w')) ∧
  ∃ (b4 : Bool), ∃ (x13 : Int), ∃ (x14 : Int), ∃ (b5 : Bool), ∃ (x15 : Int), ∃ (x16 : Int), (∀ w' : World, Below w.heap.size w w' → Calls Tryd.prog 46 #[.int .i64 x1, .int .i64 x2] w' (Vc.Ret (.tuple #[.agg #[.bool b4, .int .u64 x13, .int .u64 x14], .agg #[.bool b5, .int .u64 x15, .int .u64 x16]]) w')) ∧
  ∃ (b6 : Bool), ∃ (x17 : Int), ∃ (x18 : Int), ∃ (b7 : Bool), ∃ (x19 : Int), ∃ (x20 : Int), (∀ w' : World, Below w.heap.size w w' → Calls Tryd.prog 46 #[.int .i64 x1, .int .i64 x3] w' (Vc.Ret (.tuple #[.agg #[.bool b6, .int .u64 x17, .int .u64 x18], .agg #[.bool b7, .int .u64 x19, .int .u64 x20]]) w')) ∧
  ∃ (b8 : Bool), ∃ (x21 : Int), ∃ (x22 : Int), ∃ (b9 : Bool), ∃ (x23 : Int), ∃ (x24 : Int), (∀ (β : Nat → Nat) (w' : World), Below w.heap.size w w' → (Vc.RowOk w.heap.size (β 46) (β 47) (β 48) (β 49) (([.bool b0, .int .u64 x5, .int .u64 x6, .bool b2, .int .u64 x9, .int .u64 x10, .bool b4, .int .u64 x13, .int .u64 x14, .bool b6, .int .u64 x17, .int .u64 x18] : List Value)) 3 48 w' ∧ True) → Calls Tryd.prog 47 #[Vc.ownV (β 46) (β 47) (β 48) (β 49)] w' (Vc.Ret (.tuple #[.agg #[.bool b8, .int .u64 x21, .int .u64 x22], .agg #[.bool b9, .int .u64 x23, .int .u64 x24]]) w')) ∧
  ∃ (b10 : Bool), ∃ (x25 : Int), ∃ (x26 : Int), ∃ (b11 : Bool), ∃ (x27 : Int), ∃ (x28 : Int), (∀ (β : Nat → Nat) (w' : World), Below w.heap.size w w' → (Vc.RowOk w.heap.size (β 51) (β 52) (β 53) (β 54) (([.bool b1, .int .u64 x7, .int .u64 x8, .bool b3, .int .u64 x11, .int .u64 x12, .bool b5, .int .u64 x15, .int .u64 x16, .bool b7, .int .u64 x19, .int .u64 x20] : List Value)) 3 48 w' ∧ True) → Calls Tryd.prog 47 #[Vc.ownV (β 51) (β 52) (β 53) (β 54)] w' (Vc.Ret (.tuple #[.agg #[.bool b10, .int .u64 x25, .int .u64 x26], .agg #[.bool b11, .int .u64 x27, .int .u64 x28]]) w')) ∧
  ∃ (x29 : Int), ∃ (x30 : Int), ∃ (x31 : Int), (∀ w' : World, Below w.heap.size w w' → Calls Tryd.prog 22 #[.agg #[.bool b8, .int .u64 x21, .int .u64 x22], .agg #[.bool b11, .int .u64 x27, .int .u64 x28]] w' (Vc.Ret (.tuple #[.agg #[.int .i64 x29, .int .i64 x30], .int .i64 x31]) w')) ∧
  (.tuple #[.agg #[.int .i64 x29, .int .i64 x30], .int .i64 x31] : Value) = v)))) ∧ (¬ (x4 = 0) → (
  (.tuple #[.agg #[.int .i64 0, .int .i64 0], .int .i64 x4] : Value) = v))) : Calls Tryd.prog 15 #[.agg #[.int .i64 x0, .int .i64 x1], .agg #[.int .i64 x2, .int .i64 x3]] w (Vc.Ret v w) :=
  Vc.pure_of base [(1000000000008, .unroll), (1000000000011, .unroll)] 200 Tryd.func15 (b := (Tryd.f15.body).getD .skip) (by kernel_rfl) [.cv (.agg [.int .i64 (.var 0), .int .i64 (.var 1)]), .cv (.agg [.int .i64 (.var 2), .int .i64 (.var 3)])] ⟨4, 0, 0, 0, 0, 0, 0⟩ (Vc.envOf [x0, x1, x2, x3] [] [] []) (by kernel_rfl) (by kernel_rfl) (by kernel_rfl) h

theorem vc_span_root (x0 : Int) (w : World) (v : Value) (h : 
  ∃ (b0 : Bool), ∃ (x1 : Int), ∃ (x2 : Int), (∀ w' : World, Below w.heap.size w w' → Calls Tryd.prog 45 #[.int .i64 x0] w' (Vc.Ret (.agg #[.bool b0, .int .u64 x1, .int .u64 x2]) w')) ∧
  ∃ (b1 : Bool), ∃ (x3 : Int), ∃ (x4 : Int), (∀ w' : World, Below w.heap.size w w' → Calls Tryd.prog 61 #[.agg #[.bool b0, .int .u64 x1, .int .u64 x2], .int .u64 32] w' (Vc.Ret (.agg #[.bool b1, .int .u64 x3, .int .u64 x4]) w')) ∧
  ∃ (Ix5 : List Vc.Vl → Prop) (mx5 : List Vc.Vl → Nat), Ix5 [.i 0, .i 281474976710656] ∧ ∀ (x5 : Int) (x6 : Int), Ix5 [.i x5, .i x6] → (
  ((0 < x6) → (
  ∀ x7 : Int, x7 = bits .or .u64 x5 x6 →
  ∀ x8 : Int, x8 = bits .or .u64 x5 x6 →
  ∃ (x9 : Int), ∃ (x10 : Int), (∀ w' : World, Below w.heap.size w w' → Calls Tryd.prog 63 #[.int .u64 x7, .int .u64 x8] w' (Vc.Ret (.tuple #[.int .u64 x9, .int .u64 x10]) w')) ∧
  ((x9 < x3) → (
  ∀ x11 : Int, x11 = bits .or .u64 x5 x6 →
  ∀ x12 : Int, x12 = x6 / 2 →
  Ix5 [.i x11, .i x12] ∧ mx5 [.i x11, .i x12] < mx5 [.i x5, .i x6])) ∧ (¬ (x9 < x3) → (
  ((x9 = x3) → (
  ((x10 ≤ x4) → (
  ∀ x11 : Int, x11 = bits .or .u64 x5 x6 →
  ∀ x12 : Int, x12 = x6 / 2 →
  Ix5 [.i x11, .i x12] ∧ mx5 [.i x11, .i x12] < mx5 [.i x5, .i x6])) ∧ (¬ (x10 ≤ x4) → (
  ∀ x11 : Int, x11 = x6 / 2 →
  Ix5 [.i x5, .i x11] ∧ mx5 [.i x5, .i x11] < mx5 [.i x5, .i x6])))) ∧ (¬ (x9 = x3) → (
  ∀ x11 : Int, x11 = x6 / 2 →
  Ix5 [.i x5, .i x11] ∧ mx5 [.i x5, .i x11] < mx5 [.i x5, .i x6])))))) ∧ (¬ (0 < x6) → (
  ∃ (x7 : Int), ∃ (x8 : Int), (∀ w' : World, Below w.heap.size w w' → Calls Tryd.prog 63 #[.int .u64 x5, .int .u64 x5] w' (Vc.Ret (.tuple #[.int .u64 x7, .int .u64 x8]) w')) ∧
  ((x7 = x3) → (
  (.tuple #[.int .u64 x5, .bool (x8 == x4)] : Value) = v)) ∧ (¬ (x7 = x3) → (
  (.tuple #[.int .u64 x5, .bool false] : Value) = v)))))) : Calls Tryd.prog 60 #[.int .i64 x0] w (Vc.Ret v w) :=
  Vc.pure_of base [(2000000000003, .inv [] [2, 5] [13, 14, 18, 19, 20, 21, 22, 23, 24, 17, 25, 26, 6, 7, 27, 28, 29, 30, 31, 32, 33, 34, 35, 36, 37, 38, 39, 40, 41, 42, 43, 44, 45, 15, 16])] 200 Tryd.func60 (b := (Tryd.f60.body).getD .skip) (by kernel_rfl) [.cv (.one (.int .i64 (.var 0)))] ⟨1, 0, 0, 0, 0, 0, 0⟩ (Vc.envOf [x0] [] [] []) (by kernel_rfl) (by kernel_rfl) (by kernel_rfl) h

theorem vc_span_Root (x0 x1 : Int) (w : World) (v : Value) (h : 
  ∃ (x2 : Int), (∀ w' : World, Below w.heap.size w w' → Calls Tryd.prog 11 #[.agg #[.int .i64 x0, .int .i64 x1]] w' (Vc.Ret (.int .i64 x2) w')) ∧
  ((x2 = 0) → (
  ((x1 < 0) → (
  (.tuple #[.agg #[.int .i64 0, .int .i64 0], .int .i64 4] : Value) = v)) ∧ (¬ (x1 < 0) → (
  ∀ x3 : Int, x3 = (if 0 > x0 then 0 else x0) →
  ∃ (x4 : Int), ∃ (b0 : Bool), (∀ w' : World, Below w.heap.size w w' → Calls Tryd.prog 60 #[.int .i64 x3] w' (Vc.Ret (.tuple #[.int .u64 x4, .bool b0]) w')) ∧
  ∃ (x5 : Int), ∃ (b1 : Bool), (∀ w' : World, Below w.heap.size w w' → Calls Tryd.prog 60 #[.int .i64 x1] w' (Vc.Ret (.tuple #[.int .u64 x5, .bool b1]) w')) ∧
  ((b1 = true) → (
  ∀ x6 : Int, x6 = IntKind.i64.wrap (x4) →
  ∀ x7 : Int, x7 = IntKind.i64.wrap (x5) →
  (.tuple #[.agg #[.int .i64 x6, .int .i64 x7], .int .i64 0] : Value) = v)) ∧ (¬ (b1 = true) → (
  ∀ x6 : Int, x6 = IntKind.u64.wrap (x5 + 1) →
  ∀ x7 : Int, x7 = IntKind.i64.wrap (x4) →
  ∀ x8 : Int, x8 = IntKind.i64.wrap (x6) →
  (.tuple #[.agg #[.int .i64 x7, .int .i64 x8], .int .i64 0] : Value) = v)))))) ∧ (¬ (x2 = 0) → (
  (.tuple #[.agg #[.int .i64 0, .int .i64 0], .int .i64 x2] : Value) = v))) : Calls Tryd.prog 41 #[.agg #[.int .i64 x0, .int .i64 x1]] w (Vc.Ret v w) :=
  Vc.pure_of base [] 200 Tryd.func41 (b := (Tryd.f41.body).getD .skip) (by kernel_rfl) [.cv (.agg [.int .i64 (.var 0), .int .i64 (.var 1)])] ⟨2, 0, 0, 0, 0, 0, 0⟩ (Vc.envOf [x0, x1] [] [] []) (by kernel_rfl) (by kernel_rfl) (by kernel_rfl) h

end Go.Proofs.YtcoakpdafpclpaaDoor
