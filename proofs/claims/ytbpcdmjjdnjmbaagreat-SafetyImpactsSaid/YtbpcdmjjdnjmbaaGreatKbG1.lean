/- What the walks of functions come to (written by program). -/
import Derived.Test.YtbpcdmjjdnjmbaaGreatVcU
import Derived.Test.YtbpcdmjjdnjmbaaGreatRows
set_option linter.unusedVariables false
set_option maxRecDepth 100000
namespace Go.Proofs.YtbpcdmjjdnjmbaaGreat
open Go Go.RowKit
def fcalls : List Nat := [2, 3, 4, 5, 6, 7, 8, 9, 10, 11, 12, 13, 14, 15, 16, 17, 18, 19, 20, 21, 22, 23, 24, 25, 26, 27, 28, 29, 30, 31, 32, 33, 34, 35, 36, 37, 38, 39, 40, 41, 42, 43, 44, 45, 46, 47, 48, 49, 50, 51, 52, 53, 54, 55, 56, 57, 58, 59, 60, 61, 62, 63, 64, 65, 66, 67, 68, 69, 70, 71, 72, 73, 74, 75, 76, 77, 78, 79, 80, 81, 82, 83, 84, 85, 86, 87, 88, 89, 90, 91, 92, 93, 94, 95, 96, 97, 98, 99, 100, 101, 102, 103, 104, 105, 106, 107, 108, 109, 110, 111, 112, 113, 114, 115, 116, 117, 118, 119, 120, 121, 122, 123, 124, 125, 126, 127, 128, 129, 130, 131, 132, 133, 134, 135, 136, 137, 138, 139, 140, 141, 142, 143, 146, 147, 148, 149, 150, 151, 152, 153, 154, 155, 156]
def fext : List Nat := [0, 1, 144, 145, 157, 158, 159, 160, 161, 162, 163, 164, 165, 166, 167, 168, 169, 170, 171, 172, 173]
theorem base : Vc.Base Tryz.prog fcalls fext [] := ⟨by kernel_rfl, by kernel_rfl, by kernel_rfl⟩
theorem base_inl (l : List Nat) (h : Vc.okCalls Tryz.prog l = true) : Vc.Base Tryz.prog fcalls fext l := ⟨by kernel_rfl, h, by kernel_rfl⟩

theorem vc_span_valid (x0 : Int) (w : World) (v : Value) (h : 
  (.bool (decide (x0 ≥ (-9223372036854775807))) : Value) = v) : Calls Tryz.prog 115 #[.int .i64 x0] w (Vc.Ret v w) :=
  Vc.pure_of base [] 200 Tryz.func115 (b := (Tryz.f115.body).getD .skip) (by kernel_rfl) [.cv (.one (.int .i64 (.var 0)))] ⟨1, 0, 0, 0, 0, 0, 0⟩ (Vc.envOf [x0] [] [] []) (by kernel_rfl) (by kernel_rfl) (by kernel_rfl) h

theorem vc_span_Check (x0 x1 : Int) (w : World) (v : Value) (h : 
  ∃ (b0 : Bool), (∀ w' : World, Below w.heap.size w w' → Calls Tryz.prog 115 #[.int .i64 x0] w' (Vc.Ret (.bool b0) w')) ∧
  ((b0 = true) → (
  ∃ (b1 : Bool), (∀ w' : World, Below w.heap.size w w' → Calls Tryz.prog 115 #[.int .i64 x1] w' (Vc.Ret (.bool b1) w')) ∧
  ((b1 = true) → (
  ((x1 < x0) → (
  (.int .i64 2 : Value) = v)) ∧ (¬ (x1 < x0) → (
  (.int .i64 0 : Value) = v)))) ∧ (¬ (b1 = true) → (
  (.int .i64 2 : Value) = v)))) ∧ (¬ (b0 = true) → (
  (.int .i64 2 : Value) = v))) : Calls Tryz.prog 83 #[.agg #[.int .i64 x0, .int .i64 x1]] w (Vc.Ret v w) :=
  Vc.pure_of base [] 200 Tryz.func83 (b := (Tryz.f83.body).getD .skip) (by kernel_rfl) [.cv (.agg [.int .i64 (.var 0), .int .i64 (.var 1)])] ⟨2, 0, 0, 0, 0, 0, 0⟩ (Vc.envOf [x0, x1] [] [] []) (by kernel_rfl) (by kernel_rfl) (by kernel_rfl) h

theorem vc_span_checked_2 (p0 : Nat × Nat) (w : World) (v : Value) (h : 
  ∃ (x0 : Int), w.cell? ⟨p0.1, p0.2 + (Int.toNat 0) * 2 + 0, none⟩ = some (.int .i64 x0) ∧
  ∃ (x1 : Int), w.cell? ⟨p0.1, p0.2 + (Int.toNat 0) * 2 + 1, none⟩ = some (.int .i64 x1) ∧
  ∃ (x2 : Int), (∀ w' : World, Below w.heap.size w w' → Calls Tryz.prog 83 #[.agg #[.int .i64 x0, .int .i64 x1]] w' (Vc.Ret (.int .i64 x2) w')) ∧
  ((x2 = 0) → (
  ∃ (x3 : Int), w.cell? ⟨p0.1, p0.2 + (Int.toNat 1) * 2 + 0, none⟩ = some (.int .i64 x3) ∧
  ∃ (x4 : Int), w.cell? ⟨p0.1, p0.2 + (Int.toNat 1) * 2 + 1, none⟩ = some (.int .i64 x4) ∧
  ∃ (x5 : Int), (∀ w' : World, Below w.heap.size w w' → Calls Tryz.prog 83 #[.agg #[.int .i64 x3, .int .i64 x4]] w' (Vc.Ret (.int .i64 x5) w')) ∧
  ((x5 = 0) → (
  (.int .i64 0 : Value) = v)) ∧ (¬ (x5 = 0) → (
  (.int .i64 x5 : Value) = v)))) ∧ (¬ (x2 = 0) → (
  (.int .i64 x2 : Value) = v))) : Calls Tryz.prog 118 #[.slice (some ⟨p0.1, p0.2, none⟩) 2 2] w (Vc.Ret v w) :=
  Vc.pure_of base [(2, .unroll)] 200 Tryz.func118 (b := (Tryz.f118.body).getD .skip) (by kernel_rfl) [.cv (.one (.xsl 0 (.lit (0)) 2 (.lit (2)) (.lit (2))))] ⟨0, 0, 0, 1, 0, 0, 0⟩ (Vc.envOf [] [] [] [p0]) (by kernel_rfl) (by kernel_rfl) (by kernel_rfl) h

theorem vc_span_size (x0 : Int) (w : World) (v : Value) (h : 
  ((x0 < 0) → (
  ∀ x1 : Int, x1 = IntKind.u64.wrap (x0) →
  ∀ x2 : Int, x2 = IntKind.u64.wrap (0 - x1) →
  (.int .u64 x2 : Value) = v)) ∧ (¬ (x0 < 0) → (
  ∀ x1 : Int, x1 = IntKind.u64.wrap (x0) →
  (.int .u64 x1 : Value) = v))) : Calls Tryz.prog 138 #[.int .i64 x0] w (Vc.Ret v w) :=
  Vc.pure_of base [] 200 Tryz.func138 (b := (Tryz.f138.body).getD .skip) (by kernel_rfl) [.cv (.one (.int .i64 (.var 0)))] ⟨1, 0, 0, 0, 0, 0, 0⟩ (Vc.envOf [x0] [] [] []) (by kernel_rfl) (by kernel_rfl) (by kernel_rfl) h

theorem vc_span_of (x0 : Int) (w : World) (v : Value) (h : 
  ∃ (x1 : Int), (∀ w' : World, Below w.heap.size w w' → Calls Tryz.prog 138 #[.int .i64 x0] w' (Vc.Ret (.int .u64 x1) w')) ∧
  (.agg #[.bool (decide (x0 < 0)), .int .u64 0, .int .u64 x1] : Value) = v) : Calls Tryz.prog 122 #[.int .i64 x0] w (Vc.Ret v w) :=
  Vc.pure_of base [] 200 Tryz.func122 (b := (Tryz.f122.body).getD .skip) (by kernel_rfl) [.cv (.one (.int .i64 (.var 0)))] ⟨1, 0, 0, 0, 0, 0, 0⟩ (Vc.envOf [x0] [] [] []) (by kernel_rfl) (by kernel_rfl) (by kernel_rfl) h

theorem vc_math_bits_Mul64 (x0 x1 : Int) (w : World) (v : Value) (h : 
  ∀ x2 : Int, x2 = bits .and .u64 x0 4294967295 →
  ∀ x3 : Int, x3 = x0 / 4294967296 →
  ∀ x4 : Int, x4 = bits .and .u64 x1 4294967295 →
  ∀ x5 : Int, x5 = x1 / 4294967296 →
  ∀ x6 : Int, x6 = IntKind.u64.wrap (x2 * x4) →
  ∀ x7 : Int, x7 = IntKind.u64.wrap (x3 * x4) →
  ∀ x8 : Int, x8 = x6 / 4294967296 →
  ∀ x9 : Int, x9 = IntKind.u64.wrap (x7 + x8) →
  ∀ x10 : Int, x10 = bits .and .u64 x9 4294967295 →
  ∀ x11 : Int, x11 = x9 / 4294967296 →
  ∀ x12 : Int, x12 = IntKind.u64.wrap (x2 * x5) →
  ∀ x13 : Int, x13 = IntKind.u64.wrap (x10 + x12) →
  ∀ x14 : Int, x14 = IntKind.u64.wrap (x3 * x5) →
  ∀ x15 : Int, x15 = IntKind.u64.wrap (x14 + x11) →
  ∀ x16 : Int, x16 = x13 / 4294967296 →
  ∀ x17 : Int, x17 = IntKind.u64.wrap (x15 + x16) →
  ∀ x18 : Int, x18 = IntKind.u64.wrap (x0 * x1) →
  (.tuple #[.int .u64 x17, .int .u64 x18] : Value) = v) : Calls Tryz.prog 137 #[.int .u64 x0, .int .u64 x1] w (Vc.Ret v w) :=
  Vc.pure_of base [] 200 Tryz.func137 (b := (Tryz.f137.body).getD .skip) (by kernel_rfl) [.cv (.one (.int .u64 (.var 0))), .cv (.one (.int .u64 (.var 1)))] ⟨2, 0, 0, 0, 0, 0, 0⟩ (Vc.envOf [x0, x1] [] [] []) (by kernel_rfl) (by kernel_rfl) (by kernel_rfl) h

theorem vc_span_times (x0 x1 : Int) (w : World) (v : Value) (h : 
  ∃ (x2 : Int), (∀ w' : World, Below w.heap.size w w' → Calls Tryz.prog 138 #[.int .i64 x0] w' (Vc.Ret (.int .u64 x2) w')) ∧
  ∃ (x3 : Int), (∀ w' : World, Below w.heap.size w w' → Calls Tryz.prog 138 #[.int .i64 x1] w' (Vc.Ret (.int .u64 x3) w')) ∧
  ∃ (x4 : Int), ∃ (x5 : Int), (∀ w' : World, Below w.heap.size w w' → Calls Tryz.prog 137 #[.int .u64 x2, .int .u64 x3] w' (Vc.Ret (.tuple #[.int .u64 x4, .int .u64 x5]) w')) ∧
  (.agg #[.bool (!((decide (x0 < 0)) == (decide (x1 < 0)))), .int .u64 x4, .int .u64 x5] : Value) = v) : Calls Tryz.prog 120 #[.int .i64 x0, .int .i64 x1] w (Vc.Ret v w) :=
  Vc.pure_of base [] 200 Tryz.func120 (b := (Tryz.f120.body).getD .skip) (by kernel_rfl) [.cv (.one (.int .i64 (.var 0))), .cv (.one (.int .i64 (.var 1)))] ⟨2, 0, 0, 0, 0, 0, 0⟩ (Vc.envOf [x0, x1] [] [] []) (by kernel_rfl) (by kernel_rfl) (by kernel_rfl) h

theorem vc__span_big__up_32 (x0 x1 : Int) (b0 : Bool) (w : World) (v : Value) (h : 
  ∀ x2 : Int, x2 = IntKind.u64.wrap (x0 * 4294967296) →
  ∀ x3 : Int, x3 = x1 / 4294967296 →
  ∀ x4 : Int, x4 = bits .or .u64 x2 x3 →
  ∀ x5 : Int, x5 = IntKind.u64.wrap (x1 * 4294967296) →
  (.agg #[.bool b0, .int .u64 x4, .int .u64 x5] : Value) = v) : Calls Tryz.prog 153 #[.agg #[.bool b0, .int .u64 x0, .int .u64 x1], .int .u64 32] w (Vc.Ret v w) :=
  Vc.pure_of base [] 200 Tryz.func153 (b := (Tryz.f153.body).getD .skip) (by kernel_rfl) [.cv (.agg [.bool (.var 0), .int .u64 (.var 0), .int .u64 (.var 1)]), .cv (.one (.int .u64 (.lit (32))))] ⟨2, 1, 0, 0, 0, 0, 0⟩ (Vc.envOf [x0, x1] [b0] [] []) (by kernel_rfl) (by kernel_rfl) (by kernel_rfl) h

theorem vc__span_big__zero (x0 x1 : Int) (b0 : Bool) (w : World) (v : Value) (h : 
  ((x0 = 0) → (
  (.bool (x1 == 0) : Value) = v)) ∧ (¬ (x0 = 0) → (
  (.bool false : Value) = v))) : Calls Tryz.prog 142 #[.agg #[.bool b0, .int .u64 x0, .int .u64 x1]] w (Vc.Ret v w) :=
  Vc.pure_of base [] 200 Tryz.func142 (b := (Tryz.f142.body).getD .skip) (by kernel_rfl) [.cv (.agg [.bool (.var 0), .int .u64 (.var 0), .int .u64 (.var 1)])] ⟨2, 1, 0, 0, 0, 0, 0⟩ (Vc.envOf [x0, x1] [b0] [] []) (by kernel_rfl) (by kernel_rfl) (by kernel_rfl) h

theorem vc__span_big__below (x0 x1 : Int) (b0 : Bool) (w : World) (v : Value) (h : 
  ((b0 = true) → (
  ∃ (b1 : Bool), (∀ w' : World, Below w.heap.size w w' → Calls Tryz.prog 142 #[.agg #[.bool b0, .int .u64 x0, .int .u64 x1]] w' (Vc.Ret (.bool b1) w')) ∧
  (.bool (!b1) : Value) = v)) ∧ (¬ (b0 = true) → (
  (.bool false : Value) = v))) : Calls Tryz.prog 151 #[.agg #[.bool b0, .int .u64 x0, .int .u64 x1]] w (Vc.Ret v w) :=
  Vc.pure_of base [] 200 Tryz.func151 (b := (Tryz.f151.body).getD .skip) (by kernel_rfl) [.cv (.agg [.bool (.var 0), .int .u64 (.var 0), .int .u64 (.var 1)])] ⟨2, 1, 0, 0, 0, 0, 0⟩ (Vc.envOf [x0, x1] [b0] [] []) (by kernel_rfl) (by kernel_rfl) (by kernel_rfl) h

theorem vc_span_less (x0 x1 x2 x3 : Int) (b0 b1 : Bool) (w : World) (v : Value) (h : 
  ∃ (b2 : Bool), (∀ w' : World, Below w.heap.size w w' → Calls Tryz.prog 151 #[.agg #[.bool b0, .int .u64 x0, .int .u64 x1]] w' (Vc.Ret (.bool b2) w')) ∧
  ∃ (b3 : Bool), (∀ w' : World, Below w.heap.size w w' → Calls Tryz.prog 151 #[.agg #[.bool b1, .int .u64 x2, .int .u64 x3]] w' (Vc.Ret (.bool b3) w')) ∧
  ((((b2 = true) ↔ (b3 = true))) → (
  ∃ (b4 : Bool), (∀ w' : World, Below w.heap.size w w' → Calls Tryz.prog 151 #[.agg #[.bool b0, .int .u64 x0, .int .u64 x1]] w' (Vc.Ret (.bool b4) w')) ∧
  ((b4 = true) → (
  ((x2 < x0) → (
  (.bool true : Value) = v)) ∧ (¬ (x2 < x0) → (
  ((x2 = x0) → (
  (.bool (decide (x3 < x1)) : Value) = v)) ∧ (¬ (x2 = x0) → (
  (.bool false : Value) = v)))))) ∧ (¬ (b4 = true) → (
  ((x0 < x2) → (
  (.bool true : Value) = v)) ∧ (¬ (x0 < x2) → (
  ((x0 = x2) → (
  (.bool (decide (x1 < x3)) : Value) = v)) ∧ (¬ (x0 = x2) → (
  (.bool false : Value) = v)))))))) ∧ (¬ (((b2 = true) ↔ (b3 = true))) → (
  ∃ (b4 : Bool), (∀ w' : World, Below w.heap.size w w' → Calls Tryz.prog 151 #[.agg #[.bool b0, .int .u64 x0, .int .u64 x1]] w' (Vc.Ret (.bool b4) w')) ∧
  (.bool b4 : Value) = v))) : Calls Tryz.prog 139 #[.agg #[.bool b0, .int .u64 x0, .int .u64 x1], .agg #[.bool b1, .int .u64 x2, .int .u64 x3]] w (Vc.Ret v w) :=
  Vc.pure_of base [] 200 Tryz.func139 (b := (Tryz.f139.body).getD .skip) (by kernel_rfl) [.cv (.agg [.bool (.var 0), .int .u64 (.var 0), .int .u64 (.var 1)]), .cv (.agg [.bool (.var 1), .int .u64 (.var 2), .int .u64 (.var 3)])] ⟨4, 2, 0, 0, 0, 0, 0⟩ (Vc.envOf [x0, x1, x2, x3] [b0, b1] [] []) (by kernel_rfl) (by kernel_rfl) (by kernel_rfl) h

theorem vc_span_plus (x0 x1 x2 x3 : Int) (b0 b1 : Bool) (w : World) (v : Value) (h : 
  ((((b0 = true) ↔ (b1 = true))) → (
  ∃ (x4 : Int), ∃ (x5 : Int), (true = true ∧ ∀ w' : World, (callFunc 144 #[.int .u64 x1, .int .u64 x3, .int .u64 0]).run Tryz.prog w' = .ok (.value (.tuple #[.int .u64 x4, .int .u64 x5])) w') ∧
  ∃ (x6 : Int), ∃ (x7 : Int), (true = true ∧ ∀ w' : World, (callFunc 144 #[.int .u64 x0, .int .u64 x2, .int .u64 x5]).run Tryz.prog w' = .ok (.value (.tuple #[.int .u64 x6, .int .u64 x7])) w') ∧
  (.agg #[.bool b0, .int .u64 x6, .int .u64 x4] : Value) = v)) ∧ (¬ (((b0 = true) ↔ (b1 = true))) → (
  ((x0 < x2) → (
  ∃ (x4 : Int), ∃ (x5 : Int), (true = true ∧ ∀ w' : World, (callFunc 145 #[.int .u64 x3, .int .u64 x1, .int .u64 0]).run Tryz.prog w' = .ok (.value (.tuple #[.int .u64 x4, .int .u64 x5])) w') ∧
  ∃ (x6 : Int), ∃ (x7 : Int), (true = true ∧ ∀ w' : World, (callFunc 145 #[.int .u64 x2, .int .u64 x0, .int .u64 x5]).run Tryz.prog w' = .ok (.value (.tuple #[.int .u64 x6, .int .u64 x7])) w') ∧
  (.agg #[.bool b1, .int .u64 x6, .int .u64 x4] : Value) = v)) ∧ (¬ (x0 < x2) → (
  ((x0 = x2) → (
  ((x1 < x3) → (
  ∃ (x4 : Int), ∃ (x5 : Int), (true = true ∧ ∀ w' : World, (callFunc 145 #[.int .u64 x3, .int .u64 x1, .int .u64 0]).run Tryz.prog w' = .ok (.value (.tuple #[.int .u64 x4, .int .u64 x5])) w') ∧
  ∃ (x6 : Int), ∃ (x7 : Int), (true = true ∧ ∀ w' : World, (callFunc 145 #[.int .u64 x2, .int .u64 x0, .int .u64 x5]).run Tryz.prog w' = .ok (.value (.tuple #[.int .u64 x6, .int .u64 x7])) w') ∧
  (.agg #[.bool b1, .int .u64 x6, .int .u64 x4] : Value) = v)) ∧ (¬ (x1 < x3) → (
  ∃ (x4 : Int), ∃ (x5 : Int), (true = true ∧ ∀ w' : World, (callFunc 145 #[.int .u64 x1, .int .u64 x3, .int .u64 0]).run Tryz.prog w' = .ok (.value (.tuple #[.int .u64 x4, .int .u64 x5])) w') ∧
  ∃ (x6 : Int), ∃ (x7 : Int), (true = true ∧ ∀ w' : World, (callFunc 145 #[.int .u64 x0, .int .u64 x2, .int .u64 x5]).run Tryz.prog w' = .ok (.value (.tuple #[.int .u64 x6, .int .u64 x7])) w') ∧
  (.agg #[.bool b0, .int .u64 x6, .int .u64 x4] : Value) = v)))) ∧ (¬ (x0 = x2) → (
  ∃ (x4 : Int), ∃ (x5 : Int), (true = true ∧ ∀ w' : World, (callFunc 145 #[.int .u64 x1, .int .u64 x3, .int .u64 0]).run Tryz.prog w' = .ok (.value (.tuple #[.int .u64 x4, .int .u64 x5])) w') ∧
  ∃ (x6 : Int), ∃ (x7 : Int), (true = true ∧ ∀ w' : World, (callFunc 145 #[.int .u64 x0, .int .u64 x2, .int .u64 x5]).run Tryz.prog w' = .ok (.value (.tuple #[.int .u64 x6, .int .u64 x7])) w') ∧
  (.agg #[.bool b0, .int .u64 x6, .int .u64 x4] : Value) = v))))))) : Calls Tryz.prog 126 #[.agg #[.bool b0, .int .u64 x0, .int .u64 x1], .agg #[.bool b1, .int .u64 x2, .int .u64 x3]] w (Vc.Ret v w) :=
  Vc.pure_of base [] 200 Tryz.func126 (b := (Tryz.f126.body).getD .skip) (by kernel_rfl) [.cv (.agg [.bool (.var 0), .int .u64 (.var 0), .int .u64 (.var 1)]), .cv (.agg [.bool (.var 1), .int .u64 (.var 2), .int .u64 (.var 3)])] ⟨4, 2, 0, 0, 0, 0, 0⟩ (Vc.envOf [x0, x1, x2, x3] [b0, b1] [] []) (by kernel_rfl) (by kernel_rfl) (by kernel_rfl) h

theorem vc_math_bits_Div64 (x0 x1 x2 : Int) (w : World) (v : Value) (h : 
  ((x2 = 0) → (
  False /- FAIL load: address -/)) ∧ (¬ (x2 = 0) → (
  ((x2 ≤ x0) → (
  False /- FAIL load: address -/)) ∧ (¬ (x2 ≤ x0) → (
  ((x0 = 0) → (
  (x2 ≠ 0) ∧
  ∀ x3 : Int, x3 = IntKind.u64.wrap (Int.tdiv x1 x2) →
  (x2 ≠ 0) ∧
  ∀ x4 : Int, x4 = Int.tmod x1 x2 →
  (.tuple #[.int .u64 x3, .int .u64 x4] : Value) = v)) ∧ (¬ (x0 = 0) → (
  ∃ (x3 : Int), (∀ w' : World, Below w.heap.size w w' → Calls Tryz.prog 152 #[.int .u64 x2] w' (Vc.Ret (.int .i64 x3) w')) ∧
  ∀ x4 : Int, x4 = IntKind.u64.wrap (x3) →
  (0 ≤ x4) ∧
  ∀ x5 : Int, x5 = IntKind.u64.wrap (x2 * 2 ^ (Nat.min (Int.toNat x4) 64)) →
  ∀ x6 : Int, x6 = x5 / 4294967296 →
  ∀ x7 : Int, x7 = bits .and .u64 x5 4294967295 →
  (0 ≤ x4) ∧
  ∀ x8 : Int, x8 = IntKind.u64.wrap (x0 * 2 ^ (Nat.min (Int.toNat x4) 64)) →
  ∀ x9 : Int, x9 = IntKind.u64.wrap (64 - x4) →
  (0 ≤ x9) ∧
  ∀ x10 : Int, x10 = Int.fdiv x1 (2 ^ (Nat.min (Int.toNat x9) 64)) →
  ∀ x11 : Int, x11 = bits .or .u64 x8 x10 →
  (0 ≤ x4) ∧
  ∀ x12 : Int, x12 = IntKind.u64.wrap (x1 * 2 ^ (Nat.min (Int.toNat x4) 64)) →
  ∀ x13 : Int, x13 = x12 / 4294967296 →
  ∀ x14 : Int, x14 = bits .and .u64 x12 4294967295 →
  (x6 ≠ 0) ∧
  ∀ x15 : Int, x15 = IntKind.u64.wrap (Int.tdiv x11 x6) →
  ∀ x16 : Int, x16 = IntKind.u64.wrap (x15 * x6) →
  ∀ x17 : Int, x17 = IntKind.u64.wrap (x11 - x16) →
  ∃ (Ix18 : List Vc.Vl → Prop) (mx18 : List Vc.Vl → Nat), Ix18 [.i x15, .i x17] ∧ ∀ (x18 : Int) (x19 : Int), Ix18 [.i x18, .i x19] → (
  ((4294967296 ≤ x18) → (
  ∀ x20 : Int, x20 = IntKind.u64.wrap (x18 - 1) →
  ∀ x21 : Int, x21 = IntKind.u64.wrap (x19 + x6) →
  ((4294967296 ≤ x21) → (
  ∀ x22 : Int, x22 = IntKind.u64.wrap (x11 * 4294967296) →
  ∀ x23 : Int, x23 = IntKind.u64.wrap (x22 + x13) →
  ∀ x24 : Int, x24 = IntKind.u64.wrap (x20 * x5) →
  ∀ x25 : Int, x25 = IntKind.u64.wrap (x23 - x24) →
  (x6 ≠ 0) ∧
  ∀ x26 : Int, x26 = IntKind.u64.wrap (Int.tdiv x25 x6) →
  ∀ x27 : Int, x27 = IntKind.u64.wrap (x26 * x6) →
  ∀ x28 : Int, x28 = IntKind.u64.wrap (x25 - x27) →
  ∃ (Ix29 : List Vc.Vl → Prop) (mx29 : List Vc.Vl → Nat), Ix29 [.i x26, .i x28] ∧ ∀ (x29 : Int) (x30 : Int), Ix29 [.i x29, .i x30] → (
  ((4294967296 ≤ x29) → (
  ∀ x31 : Int, x31 = IntKind.u64.wrap (x29 - 1) →
  ∀ x32 : Int, x32 = IntKind.u64.wrap (x30 + x6) →
  ((4294967296 ≤ x32) → (
  ∀ x33 : Int, x33 = IntKind.u64.wrap (x20 * 4294967296) →
  ∀ x34 : Int, x34 = IntKind.u64.wrap (x33 + x31) →
  ∀ x35 : Int, x35 = IntKind.u64.wrap (x25 * 4294967296) →
  ∀ x36 : Int, x36 = IntKind.u64.wrap (x35 + x14) →
  ∀ x37 : Int, x37 = IntKind.u64.wrap (x31 * x5) →
  ∀ x38 : Int, x38 = IntKind.u64.wrap (x36 - x37) →
  (0 ≤ x4) ∧
  ∀ x39 : Int, x39 = Int.fdiv x38 (2 ^ (Nat.min (Int.toNat x4) 64)) →
  (.tuple #[.int .u64 x34, .int .u64 x39] : Value) = v)) ∧ (¬ (4294967296 ≤ x32) → (
  Ix29 [.i x31, .i x32] ∧ mx29 [.i x31, .i x32] < mx29 [.i x29, .i x30])))) ∧ (¬ (4294967296 ≤ x29) → (
  ∀ x31 : Int, x31 = IntKind.u64.wrap (x29 * x7) →
  ∀ x32 : Int, x32 = IntKind.u64.wrap (4294967296 * x30) →
  ∀ x33 : Int, x33 = IntKind.u64.wrap (x32 + x14) →
  ((x33 < x31) → (
  ∀ x34 : Int, x34 = IntKind.u64.wrap (x29 - 1) →
  ∀ x35 : Int, x35 = IntKind.u64.wrap (x30 + x6) →
  ((4294967296 ≤ x35) → (
  ∀ x36 : Int, x36 = IntKind.u64.wrap (x20 * 4294967296) →
  ∀ x37 : Int, x37 = IntKind.u64.wrap (x36 + x34) →
  ∀ x38 : Int, x38 = IntKind.u64.wrap (x25 * 4294967296) →
  ∀ x39 : Int, x39 = IntKind.u64.wrap (x38 + x14) →
  ∀ x40 : Int, x40 = IntKind.u64.wrap (x34 * x5) →
  ∀ x41 : Int, x41 = IntKind.u64.wrap (x39 - x40) →
  (0 ≤ x4) ∧
  ∀ x42 : Int, x42 = Int.fdiv x41 (2 ^ (Nat.min (Int.toNat x4) 64)) →
  (.tuple #[.int .u64 x37, .int .u64 x42] : Value) = v)) ∧ (¬ (4294967296 ≤ x35) → (
  Ix29 [.i x34, .i x35] ∧ mx29 [.i x34, .i x35] < mx29 [.i x29, .i x30])))) ∧ (¬ (x33 < x31) → (
  ∀ x34 : Int, x34 = IntKind.u64.wrap (x20 * 4294967296) →
  ∀ x35 : Int, x35 = IntKind.u64.wrap (x34 + x29) →
  ∀ x36 : Int, x36 = IntKind.u64.wrap (x25 * 4294967296) →
  ∀ x37 : Int, x37 = IntKind.u64.wrap (x36 + x14) →
  ∀ x38 : Int, x38 = IntKind.u64.wrap (x29 * x5) →
  ∀ x39 : Int, x39 = IntKind.u64.wrap (x37 - x38) →
  (0 ≤ x4) ∧
  ∀ x40 : Int, x40 = Int.fdiv x39 (2 ^ (Nat.min (Int.toNat x4) 64)) →
  (.tuple #[.int .u64 x35, .int .u64 x40] : Value) = v))))))) ∧ (¬ (4294967296 ≤ x21) → (
  Ix18 [.i x20, .i x21] ∧ mx18 [.i x20, .i x21] < mx18 [.i x18, .i x19])))) ∧ (¬ (4294967296 ≤ x18) → (
  ∀ x20 : Int, x20 = IntKind.u64.wrap (x18 * x7) →
  ∀ x21 : Int, x21 = IntKind.u64.wrap (4294967296 * x19) →
  ∀ x22 : Int, x22 = IntKind.u64.wrap (x21 + x13) →
  ((x22 < x20) → (
  ∀ x23 : Int, x23 = IntKind.u64.wrap (x18 - 1) →
  ∀ x24 : Int, x24 = IntKind.u64.wrap (x19 + x6) →
  ((4294967296 ≤ x24) → (
  ∀ x25 : Int, x25 = IntKind.u64.wrap (x11 * 4294967296) →
  ∀ x26 : Int, x26 = IntKind.u64.wrap (x25 + x13) →
  ∀ x27 : Int, x27 = IntKind.u64.wrap (x23 * x5) →
  ∀ x28 : Int, x28 = IntKind.u64.wrap (x26 - x27) →
  (x6 ≠ 0) ∧
  ∀ x29 : Int, x29 = IntKind.u64.wrap (Int.tdiv x28 x6) →
  ∀ x30 : Int, x30 = IntKind.u64.wrap (x29 * x6) →
  ∀ x31 : Int, x31 = IntKind.u64.wrap (x28 - x30) →
  ∃ (Ix32 : List Vc.Vl → Prop) (mx32 : List Vc.Vl → Nat), Ix32 [.i x29, .i x31] ∧ ∀ (x32 : Int) (x33 : Int), Ix32 [.i x32, .i x33] → (
  ((4294967296 ≤ x32) → (
  ∀ x34 : Int, x34 = IntKind.u64.wrap (x32 - 1) →
  ∀ x35 : Int, x35 = IntKind.u64.wrap (x33 + x6) →
  ((4294967296 ≤ x35) → (
  ∀ x36 : Int, x36 = IntKind.u64.wrap (x23 * 4294967296) →
  ∀ x37 : Int, x37 = IntKind.u64.wrap (x36 + x34) →
  ∀ x38 : Int, x38 = IntKind.u64.wrap (x28 * 4294967296) →
  ∀ x39 : Int, x39 = IntKind.u64.wrap (x38 + x14) →
  ∀ x40 : Int, x40 = IntKind.u64.wrap (x34 * x5) →
  ∀ x41 : Int, x41 = IntKind.u64.wrap (x39 - x40) →
  (0 ≤ x4) ∧
  ∀ x42 : Int, x42 = Int.fdiv x41 (2 ^ (Nat.min (Int.toNat x4) 64)) →
  (.tuple #[.int .u64 x37, .int .u64 x42] : Value) = v)) ∧ (¬ (4294967296 ≤ x35) → (
  Ix32 [.i x34, .i x35] ∧ mx32 [.i x34, .i x35] < mx32 [.i x32, .i x33])))) ∧ (¬ (4294967296 ≤ x32) → (
  ∀ x34 : Int, x34 = IntKind.u64.wrap (x32 * x7) →
  ∀ x35 : Int, x35 = IntKind.u64.wrap (4294967296 * x33) →
  ∀ x36 : Int, x36 = IntKind.u64.wrap (x35 + x14) →
  ((x36 < x34) → (
  ∀ x37 : Int, x37 = IntKind.u64.wrap (x32 - 1) →
  ∀ x38 : Int, x38 = IntKind.u64.wrap (x33 + x6) →
  ((4294967296 ≤ x38) → (
  ∀ x39 : Int, x39 = IntKind.u64.wrap (x23 * 4294967296) →
  ∀ x40 : Int, x40 = IntKind.u64.wrap (x39 + x37) →
  ∀ x41 : Int, x41 = IntKind.u64.wrap (x28 * 4294967296) →
  ∀ x42 : Int, x42 = IntKind.u64.wrap (x41 + x14) →
  ∀ x43 : Int, x43 = IntKind.u64.wrap (x37 * x5) →
  ∀ x44 : Int, x44 = IntKind.u64.wrap (x42 - x43) →
  (0 ≤ x4) ∧
  ∀ x45 : Int, x45 = Int.fdiv x44 (2 ^ (Nat.min (Int.toNat x4) 64)) →
  (.tuple #[.int .u64 x40, .int .u64 x45] : Value) = v)) ∧ (¬ (4294967296 ≤ x38) → (
  Ix32 [.i x37, .i x38] ∧ mx32 [.i x37, .i x38] < mx32 [.i x32, .i x33])))) ∧ (¬ (x36 < x34) → (
  ∀ x37 : Int, x37 = IntKind.u64.wrap (x23 * 4294967296) →
  ∀ x38 : Int, x38 = IntKind.u64.wrap (x37 + x32) →
  ∀ x39 : Int, x39 = IntKind.u64.wrap (x28 * 4294967296) →
  ∀ x40 : Int, x40 = IntKind.u64.wrap (x39 + x14) →
  ∀ x41 : Int, x41 = IntKind.u64.wrap (x32 * x5) →
  ∀ x42 : Int, x42 = IntKind.u64.wrap (x40 - x41) →
  (0 ≤ x4) ∧
  ∀ x43 : Int, x43 = Int.fdiv x42 (2 ^ (Nat.min (Int.toNat x4) 64)) →
  (.tuple #[.int .u64 x38, .int .u64 x43] : Value) = v))))))) ∧ (¬ (4294967296 ≤ x24) → (
  Ix18 [.i x23, .i x24] ∧ mx18 [.i x23, .i x24] < mx18 [.i x18, .i x19])))) ∧ (¬ (x22 < x20) → (
  ∀ x23 : Int, x23 = IntKind.u64.wrap (x11 * 4294967296) →
  ∀ x24 : Int, x24 = IntKind.u64.wrap (x23 + x13) →
  ∀ x25 : Int, x25 = IntKind.u64.wrap (x18 * x5) →
  ∀ x26 : Int, x26 = IntKind.u64.wrap (x24 - x25) →
  (x6 ≠ 0) ∧
  ∀ x27 : Int, x27 = IntKind.u64.wrap (Int.tdiv x26 x6) →
  ∀ x28 : Int, x28 = IntKind.u64.wrap (x27 * x6) →
  ∀ x29 : Int, x29 = IntKind.u64.wrap (x26 - x28) →
  ∃ (Ix30 : List Vc.Vl → Prop) (mx30 : List Vc.Vl → Nat), Ix30 [.i x27, .i x29] ∧ ∀ (x30 : Int) (x31 : Int), Ix30 [.i x30, .i x31] → (
  ((4294967296 ≤ x30) → (
  ∀ x32 : Int, x32 = IntKind.u64.wrap (x30 - 1) →
  ∀ x33 : Int, x33 = IntKind.u64.wrap (x31 + x6) →
  ((4294967296 ≤ x33) → (
  ∀ x34 : Int, x34 = IntKind.u64.wrap (x18 * 4294967296) →
  ∀ x35 : Int, x35 = IntKind.u64.wrap (x34 + x32) →
  ∀ x36 : Int, x36 = IntKind.u64.wrap (x26 * 4294967296) →
  ∀ x37 : Int, x37 = IntKind.u64.wrap (x36 + x14) →
  ∀ x38 : Int, x38 = IntKind.u64.wrap (x32 * x5) →
  ∀ x39 : Int, x39 = IntKind.u64.wrap (x37 - x38) →
  (0 ≤ x4) ∧
  ∀ x40 : Int, x40 = Int.fdiv x39 (2 ^ (Nat.min (Int.toNat x4) 64)) →
  (.tuple #[.int .u64 x35, .int .u64 x40] : Value) = v)) ∧ (¬ (4294967296 ≤ x33) → (
  Ix30 [.i x32, .i x33] ∧ mx30 [.i x32, .i x33] < mx30 [.i x30, .i x31])))) ∧ (¬ (4294967296 ≤ x30) → (
  ∀ x32 : Int, x32 = IntKind.u64.wrap (x30 * x7) →
  ∀ x33 : Int, x33 = IntKind.u64.wrap (4294967296 * x31) →
  ∀ x34 : Int, x34 = IntKind.u64.wrap (x33 + x14) →
  ((x34 < x32) → (
  ∀ x35 : Int, x35 = IntKind.u64.wrap (x30 - 1) →
  ∀ x36 : Int, x36 = IntKind.u64.wrap (x31 + x6) →
  ((4294967296 ≤ x36) → (
  ∀ x37 : Int, x37 = IntKind.u64.wrap (x18 * 4294967296) →
  ∀ x38 : Int, x38 = IntKind.u64.wrap (x37 + x35) →
  ∀ x39 : Int, x39 = IntKind.u64.wrap (x26 * 4294967296) →
  ∀ x40 : Int, x40 = IntKind.u64.wrap (x39 + x14) →
  ∀ x41 : Int, x41 = IntKind.u64.wrap (x35 * x5) →
  ∀ x42 : Int, x42 = IntKind.u64.wrap (x40 - x41) →
  (0 ≤ x4) ∧
  ∀ x43 : Int, x43 = Int.fdiv x42 (2 ^ (Nat.min (Int.toNat x4) 64)) →
  (.tuple #[.int .u64 x38, .int .u64 x43] : Value) = v)) ∧ (¬ (4294967296 ≤ x36) → (
  Ix30 [.i x35, .i x36] ∧ mx30 [.i x35, .i x36] < mx30 [.i x30, .i x31])))) ∧ (¬ (x34 < x32) → (
  ∀ x35 : Int, x35 = IntKind.u64.wrap (x18 * 4294967296) →
  ∀ x36 : Int, x36 = IntKind.u64.wrap (x35 + x30) →
  ∀ x37 : Int, x37 = IntKind.u64.wrap (x26 * 4294967296) →
  ∀ x38 : Int, x38 = IntKind.u64.wrap (x37 + x14) →
  ∀ x39 : Int, x39 = IntKind.u64.wrap (x30 * x5) →
  ∀ x40 : Int, x40 = IntKind.u64.wrap (x38 - x39) →
  (0 ≤ x4) ∧
  ∀ x41 : Int, x41 = Int.fdiv x40 (2 ^ (Nat.min (Int.toNat x4) 64)) →
  (.tuple #[.int .u64 x36, .int .u64 x41] : Value) = v))))))))))))))))) : Calls Tryz.prog 140 #[.int .u64 x0, .int .u64 x1, .int .u64 x2] w (Vc.Ret v w) :=
  Vc.pure_of base [(17, .inv [] [15, 16] [67, 68, 69, 70, 71, 72, 73, 74, 75, 76, 77, 78, 79, 80, 81, 82, 83, 84, 85]), (24, .inv [] [18, 16] [102, 103, 104, 105, 106, 107, 108, 109, 110, 111, 112, 113, 114, 115, 116, 117, 118, 119, 120])] 200 Tryz.func140 (b := (Tryz.f140.body).getD .skip) (by kernel_rfl) [.cv (.one (.int .u64 (.var 0))), .cv (.one (.int .u64 (.var 1))), .cv (.one (.int .u64 (.var 2)))] ⟨3, 0, 0, 0, 0, 0, 0⟩ (Vc.envOf [x0, x1, x2] [] [] []) (by kernel_rfl) (by kernel_rfl) (by kernel_rfl) h

theorem vc_span_divide (x0 x1 x2 x3 : Int) (b0 b1 : Bool) (w : World) (v : Value) (h : 
  ((x2 = 0) → (
  (x3 ≠ 0) ∧
  ∀ x4 : Int, x4 = IntKind.u64.wrap (Int.tdiv x0 x3) →
  (x3 ≠ 0) ∧
  ∀ x5 : Int, x5 = Int.tmod x0 x3 →
  ∃ (x6 : Int), ∃ (x7 : Int), (∀ w' : World, Below w.heap.size w w' → Calls Tryz.prog 140 #[.int .u64 x5, .int .u64 x1, .int .u64 x3] w' (Vc.Ret (.tuple #[.int .u64 x6, .int .u64 x7]) w')) ∧
  ∃ (b2 : Bool), (∀ w' : World, Below w.heap.size w w' → Calls Tryz.prog 142 #[.agg #[.bool false, .int .u64 0, .int .u64 x7]] w' (Vc.Ret (.bool b2) w')) ∧
  ((b2 = true) → (
  ((b0 = true) → (
  (.tuple #[.agg #[.bool true, .int .u64 x4, .int .u64 x6], .agg #[.bool true, .int .u64 x4, .int .u64 x6]] : Value) = v)) ∧ (¬ (b0 = true) → (
  (.tuple #[.agg #[.bool false, .int .u64 x4, .int .u64 x6], .agg #[.bool false, .int .u64 x4, .int .u64 x6]] : Value) = v)))) ∧ (¬ (b2 = true) → (
  ∃ (b3 : Bool), ∃ (x8 : Int), ∃ (x9 : Int), (∀ w' : World, Below w.heap.size w w' → Calls Tryz.prog 126 #[.agg #[.bool false, .int .u64 x4, .int .u64 x6], .agg #[.bool false, .int .u64 0, .int .u64 1]] w' (Vc.Ret (.agg #[.bool b3, .int .u64 x8, .int .u64 x9]) w')) ∧
  ((b0 = true) → (
  (.tuple #[.agg #[.bool true, .int .u64 x8, .int .u64 x9], .agg #[.bool true, .int .u64 x4, .int .u64 x6]] : Value) = v)) ∧ (¬ (b0 = true) → (
  (.tuple #[.agg #[.bool false, .int .u64 x4, .int .u64 x6], .agg #[.bool b3, .int .u64 x8, .int .u64 x9]] : Value) = v)))))) ∧ (¬ (x2 = 0) → (
  ∃ (b2 : Bool), ∃ (x4 : Int), ∃ (x5 : Int), ∃ (b3 : Bool), ∃ (x6 : Int), ∃ (x7 : Int), (∀ w' : World, Below w.heap.size w w' → Calls Tryz.prog 141 #[.agg #[.bool b0, .int .u64 x0, .int .u64 x1], .agg #[.bool b1, .int .u64 x2, .int .u64 x3]] w' (Vc.Ret (.tuple #[.agg #[.bool b2, .int .u64 x4, .int .u64 x5], .agg #[.bool b3, .int .u64 x6, .int .u64 x7]]) w')) ∧
  ∃ (b4 : Bool), (∀ w' : World, Below w.heap.size w w' → Calls Tryz.prog 142 #[.agg #[.bool b3, .int .u64 x6, .int .u64 x7]] w' (Vc.Ret (.bool b4) w')) ∧
  ((b4 = true) → (
  ((b0 = true) → (
  (.tuple #[.agg #[.bool true, .int .u64 x4, .int .u64 x5], .agg #[.bool true, .int .u64 x4, .int .u64 x5]] : Value) = v)) ∧ (¬ (b0 = true) → (
  (.tuple #[.agg #[.bool b2, .int .u64 x4, .int .u64 x5], .agg #[.bool b2, .int .u64 x4, .int .u64 x5]] : Value) = v)))) ∧ (¬ (b4 = true) → (
  ∃ (b5 : Bool), ∃ (x8 : Int), ∃ (x9 : Int), (∀ w' : World, Below w.heap.size w w' → Calls Tryz.prog 126 #[.agg #[.bool false, .int .u64 x4, .int .u64 x5], .agg #[.bool false, .int .u64 0, .int .u64 1]] w' (Vc.Ret (.agg #[.bool b5, .int .u64 x8, .int .u64 x9]) w')) ∧
  ((b0 = true) → (
  (.tuple #[.agg #[.bool true, .int .u64 x8, .int .u64 x9], .agg #[.bool true, .int .u64 x4, .int .u64 x5]] : Value) = v)) ∧ (¬ (b0 = true) → (
  (.tuple #[.agg #[.bool b2, .int .u64 x4, .int .u64 x5], .agg #[.bool b5, .int .u64 x8, .int .u64 x9]] : Value) = v))))))) : Calls Tryz.prog 123 #[.agg #[.bool b0, .int .u64 x0, .int .u64 x1], .agg #[.bool b1, .int .u64 x2, .int .u64 x3]] w (Vc.Ret v w) :=
  Vc.pure_of base [] 200 Tryz.func123 (b := (Tryz.f123.body).getD .skip) (by kernel_rfl) [.cv (.agg [.bool (.var 0), .int .u64 (.var 0), .int .u64 (.var 1)]), .cv (.agg [.bool (.var 1), .int .u64 (.var 2), .int .u64 (.var 3)])] ⟨4, 2, 0, 0, 0, 0, 0⟩ (Vc.envOf [x0, x1, x2, x3] [b0, b1] [] []) (by kernel_rfl) (by kernel_rfl) (by kernel_rfl) h

theorem vc__span_big__num (x0 x1 : Int) (b0 : Bool) (w : World) (v : Value) (h : 
  ((0 < x0) → (
  (.tuple #[.int .i64 0, .bool false] : Value) = v)) ∧ (¬ (0 < x0) → (
  ((9223372036854775807 < x1) → (
  (.tuple #[.int .i64 0, .bool false] : Value) = v)) ∧ (¬ (9223372036854775807 < x1) → (
  ((b0 = true) → (
  ∀ x2 : Int, x2 = IntKind.i64.wrap (x1) →
  ∀ x3 : Int, x3 = IntKind.i64.wrap (0 - x2) →
  (.tuple #[.int .i64 x3, .bool true] : Value) = v)) ∧ (¬ (b0 = true) → (
  ∀ x2 : Int, x2 = IntKind.i64.wrap (x1) →
  (.tuple #[.int .i64 x2, .bool true] : Value) = v))))))) : Calls Tryz.prog 143 #[.agg #[.bool b0, .int .u64 x0, .int .u64 x1]] w (Vc.Ret v w) :=
  Vc.pure_of base [] 200 Tryz.func143 (b := (Tryz.f143.body).getD .skip) (by kernel_rfl) [.cv (.agg [.bool (.var 0), .int .u64 (.var 0), .int .u64 (.var 1)])] ⟨2, 1, 0, 0, 0, 0, 0⟩ (Vc.envOf [x0, x1] [b0] [] []) (by kernel_rfl) (by kernel_rfl) (by kernel_rfl) h

theorem vc_span_fit (x0 x1 x2 x3 : Int) (b0 b1 : Bool) (w : World) (v : Value) (h : 
  ∃ (x4 : Int), ∃ (b2 : Bool), (∀ w' : World, Below w.heap.size w w' → Calls Tryz.prog 143 #[.agg #[.bool b0, .int .u64 x0, .int .u64 x1]] w' (Vc.Ret (.tuple #[.int .i64 x4, .bool b2]) w')) ∧
  ∃ (x5 : Int), ∃ (b3 : Bool), (∀ w' : World, Below w.heap.size w w' → Calls Tryz.prog 143 #[.agg #[.bool b1, .int .u64 x2, .int .u64 x3]] w' (Vc.Ret (.tuple #[.int .i64 x5, .bool b3]) w')) ∧
  ((b2 = true) → (
  ((b3 = true) → (
  (.tuple #[.agg #[.int .i64 x4, .int .i64 x5], .int .i64 0] : Value) = v)) ∧ (¬ (b3 = true) → (
  (.tuple #[.agg #[.int .i64 0, .int .i64 0], .int .i64 4] : Value) = v)))) ∧ (¬ (b2 = true) → (
  (.tuple #[.agg #[.int .i64 0, .int .i64 0], .int .i64 4] : Value) = v))) : Calls Tryz.prog 124 #[.agg #[.bool b0, .int .u64 x0, .int .u64 x1], .agg #[.bool b1, .int .u64 x2, .int .u64 x3]] w (Vc.Ret v w) :=
  Vc.pure_of base [] 200 Tryz.func124 (b := (Tryz.f124.body).getD .skip) (by kernel_rfl) [.cv (.agg [.bool (.var 0), .int .u64 (.var 0), .int .u64 (.var 1)]), .cv (.agg [.bool (.var 1), .int .u64 (.var 2), .int .u64 (.var 3)])] ⟨4, 2, 0, 0, 0, 0, 0⟩ (Vc.envOf [x0, x1, x2, x3] [b0, b1] [] []) (by kernel_rfl) (by kernel_rfl) (by kernel_rfl) h

theorem vc_span_ratio (x0 x1 : Int) (w : World) (v : Value) (h : 
  ∃ (b0 : Bool), ∃ (x2 : Int), ∃ (x3 : Int), (∀ w' : World, Below w.heap.size w w' → Calls Tryz.prog 122 #[.int .i64 x0] w' (Vc.Ret (.agg #[.bool b0, .int .u64 x2, .int .u64 x3]) w')) ∧
  ∃ (b1 : Bool), ∃ (x4 : Int), ∃ (x5 : Int), (∀ w' : World, Below w.heap.size w w' → Calls Tryz.prog 153 #[.agg #[.bool b0, .int .u64 x2, .int .u64 x3], .int .u64 32] w' (Vc.Ret (.agg #[.bool b1, .int .u64 x4, .int .u64 x5]) w')) ∧
  ∃ (b2 : Bool), ∃ (x6 : Int), ∃ (x7 : Int), (∀ w' : World, Below w.heap.size w w' → Calls Tryz.prog 122 #[.int .i64 x1] w' (Vc.Ret (.agg #[.bool b2, .int .u64 x6, .int .u64 x7]) w')) ∧
  ∃ (b3 : Bool), ∃ (x8 : Int), ∃ (x9 : Int), ∃ (b4 : Bool), ∃ (x10 : Int), ∃ (x11 : Int), (∀ w' : World, Below w.heap.size w w' → Calls Tryz.prog 123 #[.agg #[.bool (!(b1 == b2)), .int .u64 x4, .int .u64 x5], .agg #[.bool false, .int .u64 x6, .int .u64 x7]] w' (Vc.Ret (.tuple #[.agg #[.bool b3, .int .u64 x8, .int .u64 x9], .agg #[.bool b4, .int .u64 x10, .int .u64 x11]]) w')) ∧
  (.tuple #[.agg #[.bool b3, .int .u64 x8, .int .u64 x9], .agg #[.bool b4, .int .u64 x10, .int .u64 x11]] : Value) = v) : Calls Tryz.prog 147 #[.int .i64 x0, .int .i64 x1] w (Vc.Ret v w) :=
  Vc.pure_of base [] 200 Tryz.func147 (b := (Tryz.f147.body).getD .skip) (by kernel_rfl) [.cv (.one (.int .i64 (.var 0))), .cv (.one (.int .i64 (.var 1)))] ⟨2, 0, 0, 0, 0, 0, 0⟩ (Vc.envOf [x0, x1] [] [] []) (by kernel_rfl) (by kernel_rfl) (by kernel_rfl) h

theorem vc_span_Add_1 (x0 x1 : Int) (w : World) (v : Value) (h : 
  ∃ (b0 : Bool), ∃ (x2 : Int), ∃ (x3 : Int), (∀ w' : World, Below w.heap.size w w' → Calls Tryz.prog 122 #[.int .i64 x0] w' (Vc.Ret (.agg #[.bool b0, .int .u64 x2, .int .u64 x3]) w')) ∧
  ∃ (b1 : Bool), ∃ (x4 : Int), ∃ (x5 : Int), (∀ w' : World, Below w.heap.size w w' → Calls Tryz.prog 122 #[.int .i64 x1] w' (Vc.Ret (.agg #[.bool b1, .int .u64 x4, .int .u64 x5]) w')) ∧
  ∃ (b2 : Bool), ∃ (x6 : Int), ∃ (x7 : Int), (∀ w' : World, Below w.heap.size w w' → Calls Tryz.prog 126 #[.agg #[.bool b0, .int .u64 x2, .int .u64 x3], .agg #[.bool b1, .int .u64 x4, .int .u64 x5]] w' (Vc.Ret (.agg #[.bool b2, .int .u64 x6, .int .u64 x7]) w')) ∧
  (.agg #[.bool b2, .int .u64 x6, .int .u64 x7] : Value) = v) : Calls Tryz.prog 125 #[.int .i64 x0, .int .i64 x1] w (Vc.Ret v w) :=
  Vc.pure_of base [] 200 Tryz.func125 (b := (Tryz.f125.body).getD .skip) (by kernel_rfl) [.cv (.one (.int .i64 (.var 0))), .cv (.one (.int .i64 (.var 1)))] ⟨2, 0, 0, 0, 0, 0, 0⟩ (Vc.envOf [x0, x1] [] [] []) (by kernel_rfl) (by kernel_rfl) (by kernel_rfl) h

theorem vc_span_Add (x0 x1 x2 x3 : Int) (w : World) (v : Value) (h : 
  ∃ (x4 : Int), (∀ (β : Nat → Nat) (w' : World), Below w.heap.size w w' → ((w.heap.size ≤ β 3 ∧ w'.heap[β 3]? = some (.cells #[.int .i64 x0, .int .i64 x1, .int .i64 x2, .int .i64 x3] 37)) ∧ True) → Calls Tryz.prog 118 #[.slice (some ⟨β 3, 0, none⟩) 2 2] w' (Vc.Ret (.int .i64 x4) w')) ∧
  ((x4 = 0) → (
  ∃ (b0 : Bool), ∃ (x5 : Int), ∃ (x6 : Int), (∀ w' : World, Below w.heap.size w w' → Calls Tryz.prog 125 #[.int .i64 x0, .int .i64 x2] w' (Vc.Ret (.agg #[.bool b0, .int .u64 x5, .int .u64 x6]) w')) ∧
  ∃ (b1 : Bool), ∃ (x7 : Int), ∃ (x8 : Int), (∀ w' : World, Below w.heap.size w w' → Calls Tryz.prog 125 #[.int .i64 x1, .int .i64 x3] w' (Vc.Ret (.agg #[.bool b1, .int .u64 x7, .int .u64 x8]) w')) ∧
  ∃ (x9 : Int), ∃ (x10 : Int), ∃ (x11 : Int), (∀ w' : World, Below w.heap.size w w' → Calls Tryz.prog 124 #[.agg #[.bool b0, .int .u64 x5, .int .u64 x6], .agg #[.bool b1, .int .u64 x7, .int .u64 x8]] w' (Vc.Ret (.tuple #[.agg #[.int .i64 x9, .int .i64 x10], .int .i64 x11]) w')) ∧
  (.tuple #[.agg #[.int .i64 x9, .int .i64 x10], .int .i64 x11] : Value) = v)) ∧ (¬ (x4 = 0) → (
  (.tuple #[.agg #[.int .i64 0, .int .i64 0], .int .i64 x4] : Value) = v))) : Calls Tryz.prog 87 #[.agg #[.int .i64 x0, .int .i64 x1], .agg #[.int .i64 x2, .int .i64 x3]] w (Vc.Ret v w) :=
  Vc.pure_of base [] 200 Tryz.func87 (b := (Tryz.f87.body).getD .skip) (by kernel_rfl) [.cv (.agg [.int .i64 (.var 0), .int .i64 (.var 1)]), .cv (.agg [.int .i64 (.var 2), .int .i64 (.var 3)])] ⟨4, 0, 0, 0, 0, 0, 0⟩ (Vc.envOf [x0, x1, x2, x3] [] [] []) (by kernel_rfl) (by kernel_rfl) (by kernel_rfl) h

theorem vc_span_Neg (x0 x1 : Int) (w : World) (v : Value) (h : 
  ∃ (x2 : Int), (∀ w' : World, Below w.heap.size w w' → Calls Tryz.prog 83 #[.agg #[.int .i64 x0, .int .i64 x1]] w' (Vc.Ret (.int .i64 x2) w')) ∧
  ((x2 = 0) → (
  ∀ x3 : Int, x3 = IntKind.i64.wrap (0 - x1) →
  ∀ x4 : Int, x4 = IntKind.i64.wrap (0 - x0) →
  (.tuple #[.agg #[.int .i64 x3, .int .i64 x4], .int .i64 0] : Value) = v)) ∧ (¬ (x2 = 0) → (
  (.tuple #[.agg #[.int .i64 0, .int .i64 0], .int .i64 x2] : Value) = v))) : Calls Tryz.prog 150 #[.agg #[.int .i64 x0, .int .i64 x1]] w (Vc.Ret v w) :=
  Vc.pure_of base [] 200 Tryz.func150 (b := (Tryz.f150.body).getD .skip) (by kernel_rfl) [.cv (.agg [.int .i64 (.var 0), .int .i64 (.var 1)])] ⟨2, 0, 0, 0, 0, 0, 0⟩ (Vc.envOf [x0, x1] [] [] []) (by kernel_rfl) (by kernel_rfl) (by kernel_rfl) h

theorem vc_span_hull_2 (p0 : Nat × Nat) (w : World) (v : Value) (h : 
  ∃ (b0 : Bool), w.cell? ⟨p0.1, p0.2 + (Int.toNat 0) * 3 + 0, none⟩ = some (.bool b0) ∧
  ∃ (x0 : Int), w.cell? ⟨p0.1, p0.2 + (Int.toNat 0) * 3 + 1, none⟩ = some (.int .u64 x0) ∧
  ∃ (x1 : Int), w.cell? ⟨p0.1, p0.2 + (Int.toNat 0) * 3 + 2, none⟩ = some (.int .u64 x1) ∧
  ∃ (b1 : Bool), w.cell? ⟨p0.1, p0.2 + (Int.toNat 0) * 3 + 0, none⟩ = some (.bool b1) ∧
  ∃ (x2 : Int), w.cell? ⟨p0.1, p0.2 + (Int.toNat 0) * 3 + 1, none⟩ = some (.int .u64 x2) ∧
  ∃ (x3 : Int), w.cell? ⟨p0.1, p0.2 + (Int.toNat 0) * 3 + 2, none⟩ = some (.int .u64 x3) ∧
  ∃ (b2 : Bool), w.cell? ⟨p0.1, p0.2 + (Int.toNat 1) * 3 + 0, none⟩ = some (.bool b2) ∧
  ∃ (x4 : Int), w.cell? ⟨p0.1, p0.2 + (Int.toNat 1) * 3 + 1, none⟩ = some (.int .u64 x4) ∧
  ∃ (x5 : Int), w.cell? ⟨p0.1, p0.2 + (Int.toNat 1) * 3 + 2, none⟩ = some (.int .u64 x5) ∧
  ∃ (b3 : Bool), (∀ w' : World, Below w.heap.size w w' → Calls Tryz.prog 139 #[.agg #[.bool b2, .int .u64 x4, .int .u64 x5], .agg #[.bool b0, .int .u64 x0, .int .u64 x1]] w' (Vc.Ret (.bool b3) w')) ∧
  ((b3 = true) → (
  ∃ (b4 : Bool), (∀ w' : World, Below w.heap.size w w' → Calls Tryz.prog 139 #[.agg #[.bool b1, .int .u64 x2, .int .u64 x3], .agg #[.bool b2, .int .u64 x4, .int .u64 x5]] w' (Vc.Ret (.bool b4) w')) ∧
  ((b4 = true) → (
  (.tuple #[.agg #[.bool b2, .int .u64 x4, .int .u64 x5], .agg #[.bool b2, .int .u64 x4, .int .u64 x5]] : Value) = v)) ∧ (¬ (b4 = true) → (
  (.tuple #[.agg #[.bool b2, .int .u64 x4, .int .u64 x5], .agg #[.bool b1, .int .u64 x2, .int .u64 x3]] : Value) = v)))) ∧ (¬ (b3 = true) → (
  ∃ (b4 : Bool), (∀ w' : World, Below w.heap.size w w' → Calls Tryz.prog 139 #[.agg #[.bool b1, .int .u64 x2, .int .u64 x3], .agg #[.bool b2, .int .u64 x4, .int .u64 x5]] w' (Vc.Ret (.bool b4) w')) ∧
  ((b4 = true) → (
  (.tuple #[.agg #[.bool b0, .int .u64 x0, .int .u64 x1], .agg #[.bool b2, .int .u64 x4, .int .u64 x5]] : Value) = v)) ∧ (¬ (b4 = true) → (
  (.tuple #[.agg #[.bool b0, .int .u64 x0, .int .u64 x1], .agg #[.bool b1, .int .u64 x2, .int .u64 x3]] : Value) = v))))) : Calls Tryz.prog 121 #[.slice (some ⟨p0.1, p0.2, none⟩) 2 2] w (Vc.Ret v w) :=
  Vc.pure_of base [(3, .unroll)] 200 Tryz.func121 (b := (Tryz.f121.body).getD .skip) (by kernel_rfl) [.cv (.one (.xsl 0 (.lit (0)) 3 (.lit (2)) (.lit (2))))] ⟨0, 0, 0, 1, 0, 0, 0⟩ (Vc.envOf [] [] [] [p0]) (by kernel_rfl) (by kernel_rfl) (by kernel_rfl) h

theorem vc_span_hull_4 (p0 : Nat × Nat) (w : World) (v : Value) (h : 
  ∃ (b0 : Bool), w.cell? ⟨p0.1, p0.2 + (Int.toNat 0) * 3 + 0, none⟩ = some (.bool b0) ∧
  ∃ (x0 : Int), w.cell? ⟨p0.1, p0.2 + (Int.toNat 0) * 3 + 1, none⟩ = some (.int .u64 x0) ∧
  ∃ (x1 : Int), w.cell? ⟨p0.1, p0.2 + (Int.toNat 0) * 3 + 2, none⟩ = some (.int .u64 x1) ∧
  ∃ (b1 : Bool), w.cell? ⟨p0.1, p0.2 + (Int.toNat 0) * 3 + 0, none⟩ = some (.bool b1) ∧
  ∃ (x2 : Int), w.cell? ⟨p0.1, p0.2 + (Int.toNat 0) * 3 + 1, none⟩ = some (.int .u64 x2) ∧
  ∃ (x3 : Int), w.cell? ⟨p0.1, p0.2 + (Int.toNat 0) * 3 + 2, none⟩ = some (.int .u64 x3) ∧
  ∃ (b2 : Bool), w.cell? ⟨p0.1, p0.2 + (Int.toNat 1) * 3 + 0, none⟩ = some (.bool b2) ∧
  ∃ (x4 : Int), w.cell? ⟨p0.1, p0.2 + (Int.toNat 1) * 3 + 1, none⟩ = some (.int .u64 x4) ∧
  ∃ (x5 : Int), w.cell? ⟨p0.1, p0.2 + (Int.toNat 1) * 3 + 2, none⟩ = some (.int .u64 x5) ∧
  ∃ (b3 : Bool), (∀ w' : World, Below w.heap.size w w' → Calls Tryz.prog 139 #[.agg #[.bool b2, .int .u64 x4, .int .u64 x5], .agg #[.bool b0, .int .u64 x0, .int .u64 x1]] w' (Vc.Ret (.bool b3) w')) ∧
  ((b3 = true) → (
  ∃ (b4 : Bool), (∀ w' : World, Below w.heap.size w w' → Calls Tryz.prog 139 #[.agg #[.bool b1, .int .u64 x2, .int .u64 x3], .agg #[.bool b2, .int .u64 x4, .int .u64 x5]] w' (Vc.Ret (.bool b4) w')) ∧
  ((b4 = true) → (
  ∃ (b5 : Bool), w.cell? ⟨p0.1, p0.2 + (Int.toNat 2) * 3 + 0, none⟩ = some (.bool b5) ∧
  ∃ (x6 : Int), w.cell? ⟨p0.1, p0.2 + (Int.toNat 2) * 3 + 1, none⟩ = some (.int .u64 x6) ∧
  ∃ (x7 : Int), w.cell? ⟨p0.1, p0.2 + (Int.toNat 2) * 3 + 2, none⟩ = some (.int .u64 x7) ∧
  ∃ (b6 : Bool), (∀ w' : World, Below w.heap.size w w' → Calls Tryz.prog 139 #[.agg #[.bool b5, .int .u64 x6, .int .u64 x7], .agg #[.bool b2, .int .u64 x4, .int .u64 x5]] w' (Vc.Ret (.bool b6) w')) ∧
  ((b6 = true) → (
  ∃ (b7 : Bool), (∀ w' : World, Below w.heap.size w w' → Calls Tryz.prog 139 #[.agg #[.bool b2, .int .u64 x4, .int .u64 x5], .agg #[.bool b5, .int .u64 x6, .int .u64 x7]] w' (Vc.Ret (.bool b7) w')) ∧
  ((b7 = true) → (
  ∃ (b8 : Bool), w.cell? ⟨p0.1, p0.2 + (Int.toNat 3) * 3 + 0, none⟩ = some (.bool b8) ∧
  ∃ (x8 : Int), w.cell? ⟨p0.1, p0.2 + (Int.toNat 3) * 3 + 1, none⟩ = some (.int .u64 x8) ∧
  ∃ (x9 : Int), w.cell? ⟨p0.1, p0.2 + (Int.toNat 3) * 3 + 2, none⟩ = some (.int .u64 x9) ∧
  ∃ (b9 : Bool), (∀ w' : World, Below w.heap.size w w' → Calls Tryz.prog 139 #[.agg #[.bool b8, .int .u64 x8, .int .u64 x9], .agg #[.bool b5, .int .u64 x6, .int .u64 x7]] w' (Vc.Ret (.bool b9) w')) ∧
  ((b9 = true) → (
  ∃ (b10 : Bool), (∀ w' : World, Below w.heap.size w w' → Calls Tryz.prog 139 #[.agg #[.bool b5, .int .u64 x6, .int .u64 x7], .agg #[.bool b8, .int .u64 x8, .int .u64 x9]] w' (Vc.Ret (.bool b10) w')) ∧
  ((b10 = true) → (
  (.tuple #[.agg #[.bool b8, .int .u64 x8, .int .u64 x9], .agg #[.bool b8, .int .u64 x8, .int .u64 x9]] : Value) = v)) ∧ (¬ (b10 = true) → (
  (.tuple #[.agg #[.bool b8, .int .u64 x8, .int .u64 x9], .agg #[.bool b5, .int .u64 x6, .int .u64 x7]] : Value) = v)))) ∧ (¬ (b9 = true) → (
  ∃ (b10 : Bool), (∀ w' : World, Below w.heap.size w w' → Calls Tryz.prog 139 #[.agg #[.bool b5, .int .u64 x6, .int .u64 x7], .agg #[.bool b8, .int .u64 x8, .int .u64 x9]] w' (Vc.Ret (.bool b10) w')) ∧
  ((b10 = true) → (
  (.tuple #[.agg #[.bool b5, .int .u64 x6, .int .u64 x7], .agg #[.bool b8, .int .u64 x8, .int .u64 x9]] : Value) = v)) ∧ (¬ (b10 = true) → (
  (.tuple #[.agg #[.bool b5, .int .u64 x6, .int .u64 x7], .agg #[.bool b5, .int .u64 x6, .int .u64 x7]] : Value) = v)))))) ∧ (¬ (b7 = true) → (
  ∃ (b8 : Bool), w.cell? ⟨p0.1, p0.2 + (Int.toNat 3) * 3 + 0, none⟩ = some (.bool b8) ∧
  ∃ (x8 : Int), w.cell? ⟨p0.1, p0.2 + (Int.toNat 3) * 3 + 1, none⟩ = some (.int .u64 x8) ∧
  ∃ (x9 : Int), w.cell? ⟨p0.1, p0.2 + (Int.toNat 3) * 3 + 2, none⟩ = some (.int .u64 x9) ∧
  ∃ (b9 : Bool), (∀ w' : World, Below w.heap.size w w' → Calls Tryz.prog 139 #[.agg #[.bool b8, .int .u64 x8, .int .u64 x9], .agg #[.bool b5, .int .u64 x6, .int .u64 x7]] w' (Vc.Ret (.bool b9) w')) ∧
  ((b9 = true) → (
  ∃ (b10 : Bool), (∀ w' : World, Below w.heap.size w w' → Calls Tryz.prog 139 #[.agg #[.bool b2, .int .u64 x4, .int .u64 x5], .agg #[.bool b8, .int .u64 x8, .int .u64 x9]] w' (Vc.Ret (.bool b10) w')) ∧
  ((b10 = true) → (
  (.tuple #[.agg #[.bool b8, .int .u64 x8, .int .u64 x9], .agg #[.bool b8, .int .u64 x8, .int .u64 x9]] : Value) = v)) ∧ (¬ (b10 = true) → (
  (.tuple #[.agg #[.bool b8, .int .u64 x8, .int .u64 x9], .agg #[.bool b2, .int .u64 x4, .int .u64 x5]] : Value) = v)))) ∧ (¬ (b9 = true) → (
  ∃ (b10 : Bool), (∀ w' : World, Below w.heap.size w w' → Calls Tryz.prog 139 #[.agg #[.bool b2, .int .u64 x4, .int .u64 x5], .agg #[.bool b8, .int .u64 x8, .int .u64 x9]] w' (Vc.Ret (.bool b10) w')) ∧
  ((b10 = true) → (
  (.tuple #[.agg #[.bool b5, .int .u64 x6, .int .u64 x7], .agg #[.bool b8, .int .u64 x8, .int .u64 x9]] : Value) = v)) ∧ (¬ (b10 = true) → (
  (.tuple #[.agg #[.bool b5, .int .u64 x6, .int .u64 x7], .agg #[.bool b2, .int .u64 x4, .int .u64 x5]] : Value) = v)))))))) ∧ (¬ (b6 = true) → (
  ∃ (b7 : Bool), (∀ w' : World, Below w.heap.size w w' → Calls Tryz.prog 139 #[.agg #[.bool b2, .int .u64 x4, .int .u64 x5], .agg #[.bool b5, .int .u64 x6, .int .u64 x7]] w' (Vc.Ret (.bool b7) w')) ∧
  ((b7 = true) → (
  ∃ (b8 : Bool), w.cell? ⟨p0.1, p0.2 + (Int.toNat 3) * 3 + 0, none⟩ = some (.bool b8) ∧
  ∃ (x8 : Int), w.cell? ⟨p0.1, p0.2 + (Int.toNat 3) * 3 + 1, none⟩ = some (.int .u64 x8) ∧
  ∃ (x9 : Int), w.cell? ⟨p0.1, p0.2 + (Int.toNat 3) * 3 + 2, none⟩ = some (.int .u64 x9) ∧
  ∃ (b9 : Bool), (∀ w' : World, Below w.heap.size w w' → Calls Tryz.prog 139 #[.agg #[.bool b8, .int .u64 x8, .int .u64 x9], .agg #[.bool b2, .int .u64 x4, .int .u64 x5]] w' (Vc.Ret (.bool b9) w')) ∧
  ((b9 = true) → (
  ∃ (b10 : Bool), (∀ w' : World, Below w.heap.size w w' → Calls Tryz.prog 139 #[.agg #[.bool b5, .int .u64 x6, .int .u64 x7], .agg #[.bool b8, .int .u64 x8, .int .u64 x9]] w' (Vc.Ret (.bool b10) w')) ∧
  ((b10 = true) → (
  (.tuple #[.agg #[.bool b8, .int .u64 x8, .int .u64 x9], .agg #[.bool b8, .int .u64 x8, .int .u64 x9]] : Value) = v)) ∧ (¬ (b10 = true) → (
  (.tuple #[.agg #[.bool b8, .int .u64 x8, .int .u64 x9], .agg #[.bool b5, .int .u64 x6, .int .u64 x7]] : Value) = v)))) ∧ (¬ (b9 = true) → (
  ∃ (b10 : Bool), (∀ w' : World, Below w.heap.size w w' → Calls Tryz.prog 139 #[.agg #[.bool b5, .int .u64 x6, .int .u64 x7], .agg #[.bool b8, .int .u64 x8, .int .u64 x9]] w' (Vc.Ret (.bool b10) w')) ∧
  ((b10 = true) → (
  (.tuple #[.agg #[.bool b2, .int .u64 x4, .int .u64 x5], .agg #[.bool b8, .int .u64 x8, .int .u64 x9]] : Value) = v)) ∧ (¬ (b10 = true) → (
  (.tuple #[.agg #[.bool b2, .int .u64 x4, .int .u64 x5], .agg #[.bool b5, .int .u64 x6, .int .u64 x7]] : Value) = v)))))) ∧ (¬ (b7 = true) → (
  ∃ (b8 : Bool), w.cell? ⟨p0.1, p0.2 + (Int.toNat 3) * 3 + 0, none⟩ = some (.bool b8) ∧
  ∃ (x8 : Int), w.cell? ⟨p0.1, p0.2 + (Int.toNat 3) * 3 + 1, none⟩ = some (.int .u64 x8) ∧
  ∃ (x9 : Int), w.cell? ⟨p0.1, p0.2 + (Int.toNat 3) * 3 + 2, none⟩ = some (.int .u64 x9) ∧
  ∃ (b9 : Bool), (∀ w' : World, Below w.heap.size w w' → Calls Tryz.prog 139 #[.agg #[.bool b8, .int .u64 x8, .int .u64 x9], .agg #[.bool b2, .int .u64 x4, .int .u64 x5]] w' (Vc.Ret (.bool b9) w')) ∧
  ((b9 = true) → (
  ∃ (b10 : Bool), (∀ w' : World, Below w.heap.size w w' → Calls Tryz.prog 139 #[.agg #[.bool b2, .int .u64 x4, .int .u64 x5], .agg #[.bool b8, .int .u64 x8, .int .u64 x9]] w' (Vc.Ret (.bool b10) w')) ∧
  ((b10 = true) → (
  (.tuple #[.agg #[.bool b8, .int .u64 x8, .int .u64 x9], .agg #[.bool b8, .int .u64 x8, .int .u64 x9]] : Value) = v)) ∧ (¬ (b10 = true) → (
  (.tuple #[.agg #[.bool b8, .int .u64 x8, .int .u64 x9], .agg #[.bool b2, .int .u64 x4, .int .u64 x5]] : Value) = v)))) ∧ (¬ (b9 = true) → (
  ∃ (b10 : Bool), (∀ w' : World, Below w.heap.size w w' → Calls Tryz.prog 139 #[.agg #[.bool b2, .int .u64 x4, .int .u64 x5], .agg #[.bool b8, .int .u64 x8, .int .u64 x9]] w' (Vc.Ret (.bool b10) w')) ∧
  ((b10 = true) → (
  (.tuple #[.agg #[.bool b2, .int .u64 x4, .int .u64 x5], .agg #[.bool b8, .int .u64 x8, .int .u64 x9]] : Value) = v)) ∧ (¬ (b10 = true) → (
  (.tuple #[.agg #[.bool b2, .int .u64 x4, .int .u64 x5], .agg #[.bool b2, .int .u64 x4, .int .u64 x5]] : Value) = v)))))))))) ∧ (¬ (b4 = true) → (
  ∃ (b5 : Bool), w.cell? ⟨p0.1, p0.2 + (Int.toNat 2) * 3 + 0, none⟩ = some (.bool b5) ∧
  ∃ (x6 : Int), w.cell? ⟨p0.1, p0.2 + (Int.toNat 2) * 3 + 1, none⟩ = some (.int .u64 x6) ∧
  ∃ (x7 : Int), w.cell? ⟨p0.1, p0.2 + (Int.toNat 2) * 3 + 2, none⟩ = some (.int .u64 x7) ∧
  ∃ (b6 : Bool), (∀ w' : World, Below w.heap.size w w' → Calls Tryz.prog 139 #[.agg #[.bool b5, .int .u64 x6, .int .u64 x7], .agg #[.bool b2, .int .u64 x4, .int .u64 x5]] w' (Vc.Ret (.bool b6) w')) ∧
  ((b6 = true) → (
  ∃ (b7 : Bool), (∀ w' : World, Below w.heap.size w w' → Calls Tryz.prog 139 #[.agg #[.bool b1, .int .u64 x2, .int .u64 x3], .agg #[.bool b5, .int .u64 x6, .int .u64 x7]] w' (Vc.Ret (.bool b7) w')) ∧
  ((b7 = true) → (
  ∃ (b8 : Bool), w.cell? ⟨p0.1, p0.2 + (Int.toNat 3) * 3 + 0, none⟩ = some (.bool b8) ∧
  ∃ (x8 : Int), w.cell? ⟨p0.1, p0.2 + (Int.toNat 3) * 3 + 1, none⟩ = some (.int .u64 x8) ∧
  ∃ (x9 : Int), w.cell? ⟨p0.1, p0.2 + (Int.toNat 3) * 3 + 2, none⟩ = some (.int .u64 x9) ∧
  ∃ (b9 : Bool), (∀ w' : World, Below w.heap.size w w' → Calls Tryz.prog 139 #[.agg #[.bool b8, .int .u64 x8, .int .u64 x9], .agg #[.bool b5, .int .u64 x6, .int .u64 x7]] w' (Vc.Ret (.bool b9) w')) ∧
  ((b9 = true) → (
  ∃ (b10 : Bool), (∀ w' : World, Below w.heap.size w w' → Calls Tryz.prog 139 #[.agg #[.bool b5, .int .u64 x6, .int .u64 x7], .agg #[.bool b8, .int .u64 x8, .int .u64 x9]] w' (Vc.Ret (.bool b10) w')) ∧
  ((b10 = true) → (
  (.tuple #[.agg #[.bool b8, .int .u64 x8, .int .u64 x9], .agg #[.bool b8, .int .u64 x8, .int .u64 x9]] : Value) = v)) ∧ (¬ (b10 = true) → (
  (.tuple #[.agg #[.bool b8, .int .u64 x8, .int .u64 x9], .agg #[.bool b5, .int .u64 x6, .int .u64 x7]] : Value) = v)))) ∧ (¬ (b9 = true) → (
  ∃ (b10 : Bool), (∀ w' : World, Below w.heap.size w w' → Calls Tryz.prog 139 #[.agg #[.bool b5, .int .u64 x6, .int .u64 x7], .agg #[.bool b8, .int .u64 x8, .int .u64 x9]] w' (Vc.Ret (.bool b10) w')) ∧
  ((b10 = true) → (
  (.tuple #[.agg #[.bool b5, .int .u64 x6, .int .u64 x7], .agg #[.bool b8, .int .u64 x8, .int .u64 x9]] : Value) = v)) ∧ (¬ (b10 = true) → (
  (.tuple #[.agg #[.bool b5, .int .u64 x6, .int .u64 x7], .agg #[.bool b5, .int .u64 x6, .int .u64 x7]] : Value) = v)))))) ∧ (¬ (b7 = true) → (
  ∃ (b8 : Bool), w.cell? ⟨p0.1, p0.2 + (Int.toNat 3) * 3 + 0, none⟩ = some (.bool b8) ∧
  ∃ (x8 : Int), w.cell? ⟨p0.1, p0.2 + (Int.toNat 3) * 3 + 1, none⟩ = some (.int .u64 x8) ∧
  ∃ (x9 : Int), w.cell? ⟨p0.1, p0.2 + (Int.toNat 3) * 3 + 2, none⟩ = some (.int .u64 x9) ∧
  ∃ (b9 : Bool), (∀ w' : World, Below w.heap.size w w' → Calls Tryz.prog 139 #[.agg #[.bool b8, .int .u64 x8, .int .u64 x9], .agg #[.bool b5, .int .u64 x6, .int .u64 x7]] w' (Vc.Ret (.bool b9) w')) ∧
  ((b9 = true) → (
  ∃ (b10 : Bool), (∀ w' : World, Below w.heap.size w w' → Calls Tryz.prog 139 #[.agg #[.bool b1, .int .u64 x2, .int .u64 x3], .agg #[.bool b8, .int .u64 x8, .int .u64 x9]] w' (Vc.Ret (.bool b10) w')) ∧
  ((b10 = true) → (
  (.tuple #[.agg #[.bool b8, .int .u64 x8, .int .u64 x9], .agg #[.bool b8, .int .u64 x8, .int .u64 x9]] : Value) = v)) ∧ (¬ (b10 = true) → (
  (.tuple #[.agg #[.bool b8, .int .u64 x8, .int .u64 x9], .agg #[.bool b1, .int .u64 x2, .int .u64 x3]] : Value) = v)))) ∧ (¬ (b9 = true) → (
  ∃ (b10 : Bool), (∀ w' : World, Below w.heap.size w w' → Calls Tryz.prog 139 #[.agg #[.bool b1, .int .u64 x2, .int .u64 x3], .agg #[.bool b8, .int .u64 x8, .int .u64 x9]] w' (Vc.Ret (.bool b10) w')) ∧
  ((b10 = true) → (
  (.tuple #[.agg #[.bool b5, .int .u64 x6, .int .u64 x7], .agg #[.bool b8, .int .u64 x8, .int .u64 x9]] : Value) = v)) ∧ (¬ (b10 = true) → (
  (.tuple #[.agg #[.bool b5, .int .u64 x6, .int .u64 x7], .agg #[.bool b1, .int .u64 x2, .int .u64 x3]] : Value) = v)))))))) ∧ (¬ (b6 = true) → (
  ∃ (b7 : Bool), (∀ w' : World, Below w.heap.size w w' → Calls Tryz.prog 139 #[.agg #[.bool b1, .int .u64 x2, .int .u64 x3], .agg #[.bool b5, .int .u64 x6, .int .u64 x7]] w' (Vc.Ret (.bool b7) w')) ∧
  ((b7 = true) → (
  ∃ (b8 : Bool), w.cell? ⟨p0.1, p0.2 + (Int.toNat 3) * 3 + 0, none⟩ = some (.bool b8) ∧
  ∃ (x8 : Int), w.cell? ⟨p0.1, p0.2 + (Int.toNat 3) * 3 + 1, none⟩ = some (.int .u64 x8) ∧
  ∃ (x9 : Int), w.cell? ⟨p0.1, p0.2 + (Int.toNat 3) * 3 + 2, none⟩ = some (.int .u64 x9) ∧
  ∃ (b9 : Bool), (∀ w' : World, Below w.heap.size w w' → Calls Tryz.prog 139 #[.agg #[.bool b8, .int .u64 x8, .int .u64 x9], .agg #[.bool b2, .int .u64 x4, .int .u64 x5]] w' (Vc.Ret (.bool b9) w')) ∧
  ((b9 = true) → (
  ∃ (b10 : Bool), (∀ w' : World, Below w.heap.size w w' → Calls Tryz.prog 139 #[.agg #[.bool b5, .int .u64 x6, .int .u64 x7], .agg #[.bool b8, .int .u64 x8, .int .u64 x9]] w' (Vc.Ret (.bool b10) w')) ∧
  ((b10 = true) → (
  (.tuple #[.agg #[.bool b8, .int .u64 x8, .int .u64 x9], .agg #[.bool b8, .int .u64 x8, .int .u64 x9]] : Value) = v)) ∧ (¬ (b10 = true) → (
  (.tuple #[.agg #[.bool b8, .int .u64 x8, .int .u64 x9], .agg #[.bool b5, .int .u64 x6, .int .u64 x7]] : Value) = v)))) ∧ (¬ (b9 = true) → (
  ∃ (b10 : Bool), (∀ w' : World, Below w.heap.size w w' → Calls Tryz.prog 139 #[.agg #[.bool b5, .int .u64 x6, .int .u64 x7], .agg #[.bool b8, .int .u64 x8, .int .u64 x9]] w' (Vc.Ret (.bool b10) w')) ∧
  ((b10 = true) → (
  (.tuple #[.agg #[.bool b2, .int .u64 x4, .int .u64 x5], .agg #[.bool b8, .int .u64 x8, .int .u64 x9]] : Value) = v)) ∧ (¬ (b10 = true) → (
  (.tuple #[.agg #[.bool b2, .int .u64 x4, .int .u64 x5], .agg #[.bool b5, .int .u64 x6, .int .u64 x7]] : Value) = v)))))) ∧ (¬ (b7 = true) → (
  ∃ (b8 : Bool), w.cell? ⟨p0.1, p0.2 + (Int.toNat 3) * 3 + 0, none⟩ = some (.bool b8) ∧
  ∃ (x8 : Int), w.cell? ⟨p0.1, p0.2 + (Int.toNat 3) * 3 + 1, none⟩ = some (.int .u64 x8) ∧
  ∃ (x9 : Int), w.cell? ⟨p0.1, p0.2 + (Int.toNat 3) * 3 + 2, none⟩ = some (.int .u64 x9) ∧
  ∃ (b9 : Bool), (∀ w' : World, Below w.heap.size w w' → Calls Tryz.prog 139 #[.agg #[.bool b8, .int .u64 x8, .int .u64 x9], .agg #[.bool b2, .int .u64 x4, .int .u64 x5]] w' (Vc.Ret (.bool b9) w')) ∧
  ((b9 = true) → (
  ∃ (b10 : Bool), (∀ w' : World, Below w.heap.size w w' → Calls Tryz.prog 139 #[.agg #[.bool b1, .int .u64 x2, .int .u64 x3], .agg #[.bool b8, .int .u64 x8, .int .u64 x9]] w' (Vc.Ret (.bool b10) w')) ∧
  ((b10 = true) → (
  (.tuple #[.agg #[.bool b8, .int .u64 x8, .int .u64 x9], .agg #[.bool b8, .int .u64 x8, .int .u64 x9]] : Value) = v)) ∧ (¬ (b10 = true) → (
  (.tuple #[.agg #[.bool b8, .int .u64 x8, .int .u64 x9], .agg #[.bool b1, .int .u64 x2, .int .u64 x3]] : Value) = v)))) ∧ (¬ (b9 = true) → (
  ∃ (b10 : Bool), (∀ w' : World, Below w.heap.size w w' → Calls Tryz.prog 139 #[.agg #[.bool b1, .int .u64 x2, .int .u64 x3], .agg #[.bool b8, .int .u64 x8, .int .u64 x9]] w' (Vc.Ret (.bool b10) w')) ∧
  ((b10 = true) → (
  (.tuple #[.agg #[.bool b2, .int .u64 x4, .int .u64 x5], .agg #[.bool b8, .int .u64 x8, .int .u64 x9]] : Value) = v)) ∧ (¬ (b10 = true) → (
  (.tuple #[.agg #[.bool b2, .int .u64 x4, .int .u64 x5], .agg #[.bool b1, .int .u64 x2, .int .u64 x3]] : Value) = v)))))))))))) ∧ (¬ (b3 = true) → (
  ∃ (b4 : Bool), (∀ w' : World, Below w.heap.size w w' → Calls Tryz.prog 139 #[.agg #[.bool b1, .int .u64 x2, .int .u64 x3], .agg #[.bool b2, .int .u64 x4, .int .u64 x5]] w' (Vc.Ret (.bool b4) w')) ∧
  ((b4 = true) → (
  ∃ (b5 : Bool), w.cell? ⟨p0.1, p0.2 + (Int.toNat 2) * 3 + 0, none⟩ = some (.bool b5) ∧
  ∃ (x6 : Int), w.cell? ⟨p0.1, p0.2 + (Int.toNat 2) * 3 + 1, none⟩ = some (.int .u64 x6) ∧
  ∃ (x7 : Int), w.cell? ⟨p0.1, p0.2 + (Int.toNat 2) * 3 + 2, none⟩ = some (.int .u64 x7) ∧
  ∃ (b6 : Bool), (∀ w' : World, Below w.heap.size w w' → Calls Tryz.prog 139 #[.agg #[.bool b5, .int .u64 x6, .int .u64 x7], .agg #[.bool b0, .int .u64 x0, .int .u64 x1]] w' (Vc.Ret (.bool b6) w')) ∧
  ((b6 = true) → (
  ∃ (b7 : Bool), (∀ w' : World, Below w.heap.size w w' → Calls Tryz.prog 139 #[.agg #[.bool b2, .int .u64 x4, .int .u64 x5], .agg #[.bool b5, .int .u64 x6, .int .u64 x7]] w' (Vc.Ret (.bool b7) w')) ∧
  ((b7 = true) → (
  ∃ (b8 : Bool), w.cell? ⟨p0.1, p0.2 + (Int.toNat 3) * 3 + 0, none⟩ = some (.bool b8) ∧
  ∃ (x8 : Int), w.cell? ⟨p0.1, p0.2 + (Int.toNat 3) * 3 + 1, none⟩ = some (.int .u64 x8) ∧
  ∃ (x9 : Int), w.cell? ⟨p0.1, p0.2 + (Int.toNat 3) * 3 + 2, none⟩ = some (.int .u64 x9) ∧
  ∃ (b9 : Bool), (∀ w' : World, Below w.heap.size w w' → Calls Tryz.prog 139 #[.agg #[.bool b8, .int .u64 x8, .int .u64 x9], .agg #[.bool b5, .int .u64 x6, .int .u64 x7]] w' (Vc.Ret (.bool b9) w')) ∧
  ((b9 = true) → (
  ∃ (b10 : Bool), (∀ w' : World, Below w.heap.size w w' → Calls Tryz.prog 139 #[.agg #[.bool b5, .int .u64 x6, .int .u64 x7], .agg #[.bool b8, .int .u64 x8, .int .u64 x9]] w' (Vc.Ret (.bool b10) w')) ∧
  ((b10 = true) → (
  (.tuple #[.agg #[.bool b8, .int .u64 x8, .int .u64 x9], .agg #[.bool b8, .int .u64 x8, .int .u64 x9]] : Value) = v)) ∧ (¬ (b10 = true) → (
  (.tuple #[.agg #[.bool b8, .int .u64 x8, .int .u64 x9], .agg #[.bool b5, .int .u64 x6, .int .u64 x7]] : Value) = v)))) ∧ (¬ (b9 = true) → (
  ∃ (b10 : Bool), (∀ w' : World, Below w.heap.size w w' → Calls Tryz.prog 139 #[.agg #[.bool b5, .int .u64 x6, .int .u64 x7], .agg #[.bool b8, .int .u64 x8, .int .u64 x9]] w' (Vc.Ret (.bool b10) w')) ∧
  ((b10 = true) → (
  (.tuple #[.agg #[.bool b5, .int .u64 x6, .int .u64 x7], .agg #[.bool b8, .int .u64 x8, .int .u64 x9]] : Value) = v)) ∧ (¬ (b10 = true) → (
  (.tuple #[.agg #[.bool b5, .int .u64 x6, .int .u64 x7], .agg #[.bool b5, .int .u64 x6, .int .u64 x7]] : Value) = v)))))) ∧ (¬ (b7 = true) → (
  ∃ (b8 : Bool), w.cell? ⟨p0.1, p0.2 + (Int.toNat 3) * 3 + 0, none⟩ = some (.bool b8) ∧
  ∃ (x8 : Int), w.cell? ⟨p0.1, p0.2 + (Int.toNat 3) * 3 + 1, none⟩ = some (.int .u64 x8) ∧
  ∃ (x9 : Int), w.cell? ⟨p0.1, p0.2 + (Int.toNat 3) * 3 + 2, none⟩ = some (.int .u64 x9) ∧
  ∃ (b9 : Bool), (∀ w' : World, Below w.heap.size w w' → Calls Tryz.prog 139 #[.agg #[.bool b8, .int .u64 x8, .int .u64 x9], .agg #[.bool b5, .int .u64 x6, .int .u64 x7]] w' (Vc.Ret (.bool b9) w')) ∧
  ((b9 = true) → (
  ∃ (b10 : Bool), (∀ w' : World, Below w.heap.size w w' → Calls Tryz.prog 139 #[.agg #[.bool b2, .int .u64 x4, .int .u64 x5], .agg #[.bool b8, .int .u64 x8, .int .u64 x9]] w' (Vc.Ret (.bool b10) w')) ∧
  ((b10 = true) → (
  (.tuple #[.agg #[.bool b8, .int .u64 x8, .int .u64 x9], .agg #[.bool b8, .int .u64 x8, .int .u64 x9]] : Value) = v)) ∧ (¬ (b10 = true) → (
  (.tuple #[.agg #[.bool b8, .int .u64 x8, .int .u64 x9], .agg #[.bool b2, .int .u64 x4, .int .u64 x5]] : Value) = v)))) ∧ (¬ (b9 = true) → (
  ∃ (b10 : Bool), (∀ w' : World, Below w.heap.size w w' → Calls Tryz.prog 139 #[.agg #[.bool b2, .int .u64 x4, .int .u64 x5], .agg #[.bool b8, .int .u64 x8, .int .u64 x9]] w' (Vc.Ret (.bool b10) w')) ∧
  ((b10 = true) → (
  (.tuple #[.agg #[.bool b5, .int .u64 x6, .int .u64 x7], .agg #[.bool b8, .int .u64 x8, .int .u64 x9]] : Value) = v)) ∧ (¬ (b10 = true) → (
  (.tuple #[.agg #[.bool b5, .int .u64 x6, .int .u64 x7], .agg #[.bool b2, .int .u64 x4, .int .u64 x5]] : Value) = v)))))))) ∧ (¬ (b6 = true) → (
  ∃ (b7 : Bool), (∀ w' : World, Below w.heap.size w w' → Calls Tryz.prog 139 #[.agg #[.bool b2, .int .u64 x4, .int .u64 x5], .agg #[.bool b5, .int .u64 x6, .int .u64 x7]] w' (Vc.Ret (.bool b7) w')) ∧
  ((b7 = true) → (
  ∃ (b8 : Bool), w.cell? ⟨p0.1, p0.2 + (Int.toNat 3) * 3 + 0, none⟩ = some (.bool b8) ∧
  ∃ (x8 : Int), w.cell? ⟨p0.1, p0.2 + (Int.toNat 3) * 3 + 1, none⟩ = some (.int .u64 x8) ∧
  ∃ (x9 : Int), w.cell? ⟨p0.1, p0.2 + (Int.toNat 3) * 3 + 2, none⟩ = some (.int .u64 x9) ∧
  ∃ (b9 : Bool), (∀ w' : World, Below w.heap.size w w' → Calls Tryz.prog 139 #[.agg #[.bool b8, .int .u64 x8, .int .u64 x9], .agg #[.bool b0, .int .u64 x0, .int .u64 x1]] w' (Vc.Ret (.bool b9) w')) ∧
  ((b9 = true) → (
  ∃ (b10 : Bool), (∀ w' : World, Below w.heap.size w w' → Calls Tryz.prog 139 #[.agg #[.bool b5, .int .u64 x6, .int .u64 x7], .agg #[.bool b8, .int .u64 x8, .int .u64 x9]] w' (Vc.Ret (.bool b10) w')) ∧
  ((b10 = true) → (
  (.tuple #[.agg #[.bool b8, .int .u64 x8, .int .u64 x9], .agg #[.bool b8, .int .u64 x8, .int .u64 x9]] : Value) = v)) ∧ (¬ (b10 = true) → (
  (.tuple #[.agg #[.bool b8, .int .u64 x8, .int .u64 x9], .agg #[.bool b5, .int .u64 x6, .int .u64 x7]] : Value) = v)))) ∧ (¬ (b9 = true) → (
  ∃ (b10 : Bool), (∀ w' : World, Below w.heap.size w w' → Calls Tryz.prog 139 #[.agg #[.bool b5, .int .u64 x6, .int .u64 x7], .agg #[.bool b8, .int .u64 x8, .int .u64 x9]] w' (Vc.Ret (.bool b10) w')) ∧
  ((b10 = true) → (
  (.tuple #[.agg #[.bool b0, .int .u64 x0, .int .u64 x1], .agg #[.bool b8, .int .u64 x8, .int .u64 x9]] : Value) = v)) ∧ (¬ (b10 = true) → (
  (.tuple #[.agg #[.bool b0, .int .u64 x0, .int .u64 x1], .agg #[.bool b5, .int .u64 x6, .int .u64 x7]] : Value) = v)))))) ∧ (¬ (b7 = true) → (
  ∃ (b8 : Bool), w.cell? ⟨p0.1, p0.2 + (Int.toNat 3) * 3 + 0, none⟩ = some (.bool b8) ∧
  ∃ (x8 : Int), w.cell? ⟨p0.1, p0.2 + (Int.toNat 3) * 3 + 1, none⟩ = some (.int .u64 x8) ∧
  ∃ (x9 : Int), w.cell? ⟨p0.1, p0.2 + (Int.toNat 3) * 3 + 2, none⟩ = some (.int .u64 x9) ∧
  ∃ (b9 : Bool), (∀ w' : World, Below w.heap.size w w' → Calls Tryz.prog 139 #[.agg #[.bool b8, .int .u64 x8, .int .u64 x9], .agg #[.bool b0, .int .u64 x0, .int .u64 x1]] w' (Vc.Ret (.bool b9) w')) ∧
  ((b9 = true) → (
  ∃ (b10 : Bool), (∀ w' : World, Below w.heap.size w w' → Calls Tryz.prog 139 #[.agg #[.bool b2, .int .u64 x4, .int .u64 x5], .agg #[.bool b8, .int .u64 x8, .int .u64 x9]] w' (Vc.Ret (.bool b10) w')) ∧
  ((b10 = true) → (
  (.tuple #[.agg #[.bool b8, .int .u64 x8, .int .u64 x9], .agg #[.bool b8, .int .u64 x8, .int .u64 x9]] : Value) = v)) ∧ (¬ (b10 = true) → (
  (.tuple #[.agg #[.bool b8, .int .u64 x8, .int .u64 x9], .agg #[.bool b2, .int .u64 x4, .int .u64 x5]] : Value) = v)))) ∧ (¬ (b9 = true) → (
  ∃ (b10 : Bool), (∀ w' : World, Below w.heap.size w w' → Calls Tryz.prog 139 #[.agg #[.bool b2, .int .u64 x4, .int .u64 x5], .agg #[.bool b8, .int .u64 x8, .int .u64 x9]] w' (Vc.Ret (.bool b10) w')) ∧
  ((b10 = true) → (
  (.tuple #[.agg #[.bool b0, .int .u64 x0, .int .u64 x1], .agg #[.bool b8, .int .u64 x8, .int .u64 x9]] : Value) = v)) ∧ (¬ (b10 = true) → (
  (.tuple #[.agg #[.bool b0, .int .u64 x0, .int .u64 x1], .agg #[.bool b2, .int .u64 x4, .int .u64 x5]] : Value) = v)))))))))) ∧ (¬ (b4 = true) → (
  ∃ (b5 : Bool), w.cell? ⟨p0.1, p0.2 + (Int.toNat 2) * 3 + 0, none⟩ = some (.bool b5) ∧
  ∃ (x6 : Int), w.cell? ⟨p0.1, p0.2 + (Int.toNat 2) * 3 + 1, none⟩ = some (.int .u64 x6) ∧
  ∃ (x7 : Int), w.cell? ⟨p0.1, p0.2 + (Int.toNat 2) * 3 + 2, none⟩ = some (.int .u64 x7) ∧
  ∃ (b6 : Bool), (∀ w' : World, Below w.heap.size w w' → Calls Tryz.prog 139 #[.agg #[.bool b5, .int .u64 x6, .int .u64 x7], .agg #[.bool b0, .int .u64 x0, .int .u64 x1]] w' (Vc.Ret (.bool b6) w')) ∧
  ((b6 = true) → (
  ∃ (b7 : Bool), (∀ w' : World, Below w.heap.size w w' → Calls Tryz.prog 139 #[.agg #[.bool b1, .int .u64 x2, .int .u64 x3], .agg #[.bool b5, .int .u64 x6, .int .u64 x7]] w' (Vc.Ret (.bool b7) w')) ∧
  ((b7 = true) → (
  ∃ (b8 : Bool), w.cell? ⟨p0.1, p0.2 + (Int.toNat 3) * 3 + 0, none⟩ = some (.bool b8) ∧
  ∃ (x8 : Int), w.cell? ⟨p0.1, p0.2 + (Int.toNat 3) * 3 + 1, none⟩ = some (.int .u64 x8) ∧
  ∃ (x9 : Int), w.cell? ⟨p0.1, p0.2 + (Int.toNat 3) * 3 + 2, none⟩ = some (.int .u64 x9) ∧
  ∃ (b9 : Bool), (∀ w' : World, Below w.heap.size w w' → Calls Tryz.prog 139 #[.agg #[.bool b8, .int .u64 x8, .int .u64 x9], .agg #[.bool b5, .int .u64 x6, .int .u64 x7]] w' (Vc.Ret (.bool b9) w')) ∧
  ((b9 = true) → (
  ∃ (b10 : Bool), (∀ w' : World, Below w.heap.size w w' → Calls Tryz.prog 139 #[.agg #[.bool b5, .int .u64 x6, .int .u64 x7], .agg #[.bool b8, .int .u64 x8, .int .u64 x9]] w' (Vc.Ret (.bool b10) w')) ∧
  ((b10 = true) → (
  (.tuple #[.agg #[.bool b8, .int .u64 x8, .int .u64 x9], .agg #[.bool b8, .int .u64 x8, .int .u64 x9]] : Value) = v)) ∧ (¬ (b10 = true) → (
  (.tuple #[.agg #[.bool b8, .int .u64 x8, .int .u64 x9], .agg #[.bool b5, .int .u64 x6, .int .u64 x7]] : Value) = v)))) ∧ (¬ (b9 = true) → (
  ∃ (b10 : Bool), (∀ w' : World, Below w.heap.size w w' → Calls Tryz.prog 139 #[.agg #[.bool b5, .int .u64 x6, .int .u64 x7], .agg #[.bool b8, .int .u64 x8, .int .u64 x9]] w' (Vc.Ret (.bool b10) w')) ∧
  ((b10 = true) → (
  (.tuple #[.agg #[.bool b5, .int .u64 x6, .int .u64 x7], .agg #[.bool b8, .int .u64 x8, .int .u64 x9]] : Value) = v)) ∧ (¬ (b10 = true) → (
  (.tuple #[.agg #[.bool b5, .int .u64 x6, .int .u64 x7], .agg #[.bool b5, .int .u64 x6, .int .u64 x7]] : Value) = v)))))) ∧ (¬ (b7 = true) → (
  ∃ (b8 : Bool), w.cell? ⟨p0.1, p0.2 + (Int.toNat 3) * 3 + 0, none⟩ = some (.bool b8) ∧
  ∃ (x8 : Int), w.cell? ⟨p0.1, p0.2 + (Int.toNat 3) * 3 + 1, none⟩ = some (.int .u64 x8) ∧
  ∃ (x9 : Int), w.cell? ⟨p0.1, p0.2 + (Int.toNat 3) * 3 + 2, none⟩ = some (.int .u64 x9) ∧
  ∃ (b9 : Bool), (∀ w' : World, Below w.heap.size w w' → Calls Tryz.prog 139 #[.agg #[.bool b8, .int .u64 x8, .int .u64 x9], .agg #[.bool b5, .int .u64 x6, .int .u64 x7]] w' (Vc.Ret (.bool b9) w')) ∧
  ((b9 = true) → (
  ∃ (b10 : Bool), (∀ w' : World, Below w.heap.size w w' → Calls Tryz.prog 139 #[.agg #[.bool b1, .int .u64 x2, .int .u64 x3], .agg #[.bool b8, .int .u64 x8, .int .u64 x9]] w' (Vc.Ret (.bool b10) w')) ∧
  ((b10 = true) → (
  (.tuple #[.agg #[.bool b8, .int .u64 x8, .int .u64 x9], .agg #[.bool b8, .int .u64 x8, .int .u64 x9]] : Value) = v)) ∧ (¬ (b10 = true) → (
  (.tuple #[.agg #[.bool b8, .int .u64 x8, .int .u64 x9], .agg #[.bool b1, .int .u64 x2, .int .u64 x3]] : Value) = v)))) ∧ (¬ (b9 = true) → (
  ∃ (b10 : Bool), (∀ w' : World, Below w.heap.size w w' → Calls Tryz.prog 139 #[.agg #[.bool b1, .int .u64 x2, .int .u64 x3], .agg #[.bool b8, .int .u64 x8, .int .u64 x9]] w' (Vc.Ret (.bool b10) w')) ∧
  ((b10 = true) → (
  (.tuple #[.agg #[.bool b5, .int .u64 x6, .int .u64 x7], .agg #[.bool b8, .int .u64 x8, .int .u64 x9]] : Value) = v)) ∧ (¬ (b10 = true) → (
  (.tuple #[.agg #[.bool b5, .int .u64 x6, .int .u64 x7], .agg #[.bool b1, .int .u64 x2, .int .u64 x3]] : Value) = v)))))))) ∧ (¬ (b6 = true) → (
  ∃ (b7 : Bool), (∀ w' : World, Below w.heap.size w w' → Calls Tryz.prog 139 #[.agg #[.bool b1, .int .u64 x2, .int .u64 x3], .agg #[.bool b5, .int .u64 x6, .int .u64 x7]] w' (Vc.Ret (.bool b7) w')) ∧
  ((b7 = true) → (
  ∃ (b8 : Bool), w.cell? ⟨p0.1, p0.2 + (Int.toNat 3) * 3 + 0, none⟩ = some (.bool b8) ∧
  ∃ (x8 : Int), w.cell? ⟨p0.1, p0.2 + (Int.toNat 3) * 3 + 1, none⟩ = some (.int .u64 x8) ∧
  ∃ (x9 : Int), w.cell? ⟨p0.1, p0.2 + (Int.toNat 3) * 3 + 2, none⟩ = some (.int .u64 x9) ∧
  ∃ (b9 : Bool), (∀ w' : World, Below w.heap.size w w' → Calls Tryz.prog 139 #[.agg #[.bool b8, .int .u64 x8, .int .u64 x9], .agg #[.bool b0, .int .u64 x0, .int .u64 x1]] w' (Vc.Ret (.bool b9) w')) ∧
  ((b9 = true) → (
  ∃ (b10 : Bool), (∀ w' : World, Below w.heap.size w w' → Calls Tryz.prog 139 #[.agg #[.bool b5, .int .u64 x6, .int .u64 x7], .agg #[.bool b8, .int .u64 x8, .int .u64 x9]] w' (Vc.Ret (.bool b10) w')) ∧
  ((b10 = true) → (
  (.tuple #[.agg #[.bool b8, .int .u64 x8, .int .u64 x9], .agg #[.bool b8, .int .u64 x8, .int .u64 x9]] : Value) = v)) ∧ (¬ (b10 = true) → (
  (.tuple #[.agg #[.bool b8, .int .u64 x8, .int .u64 x9], .agg #[.bool b5, .int .u64 x6, .int .u64 x7]] : Value) = v)))) ∧ (¬ (b9 = true) → (
  ∃ (b10 : Bool), (∀ w' : World, Below w.heap.size w w' → Calls Tryz.prog 139 #[.agg #[.bool b5, .int .u64 x6, .int .u64 x7], .agg #[.bool b8, .int .u64 x8, .int .u64 x9]] w' (Vc.Ret (.bool b10) w')) ∧
  ((b10 = true) → (
  (.tuple #[.agg #[.bool b0, .int .u64 x0, .int .u64 x1], .agg #[.bool b8, .int .u64 x8, .int .u64 x9]] : Value) = v)) ∧ (¬ (b10 = true) → (
  (.tuple #[.agg #[.bool b0, .int .u64 x0, .int .u64 x1], .agg #[.bool b5, .int .u64 x6, .int .u64 x7]] : Value) = v)))))) ∧ (¬ (b7 = true) → (
  ∃ (b8 : Bool), w.cell? ⟨p0.1, p0.2 + (Int.toNat 3) * 3 + 0, none⟩ = some (.bool b8) ∧
  ∃ (x8 : Int), w.cell? ⟨p0.1, p0.2 + (Int.toNat 3) * 3 + 1, none⟩ = some (.int .u64 x8) ∧
  ∃ (x9 : Int), w.cell? ⟨p0.1, p0.2 + (Int.toNat 3) * 3 + 2, none⟩ = some (.int .u64 x9) ∧
  ∃ (b9 : Bool), (∀ w' : World, Below w.heap.size w w' → Calls Tryz.prog 139 #[.agg #[.bool b8, .int .u64 x8, .int .u64 x9], .agg #[.bool b0, .int .u64 x0, .int .u64 x1]] w' (Vc.Ret (.bool b9) w')) ∧
  ((b9 = true) → (
  ∃ (b10 : Bool), (∀ w' : World, Below w.heap.size w w' → Calls Tryz.prog 139 #[.agg #[.bool b1, .int .u64 x2, .int .u64 x3], .agg #[.bool b8, .int .u64 x8, .int .u64 x9]] w' (Vc.Ret (.bool b10) w')) ∧
  ((b10 = true) → (
  (.tuple #[.agg #[.bool b8, .int .u64 x8, .int .u64 x9], .agg #[.bool b8, .int .u64 x8, .int .u64 x9]] : Value) = v)) ∧ (¬ (b10 = true) → (
  (.tuple #[.agg #[.bool b8, .int .u64 x8, .int .u64 x9], .agg #[.bool b1, .int .u64 x2, .int .u64 x3]] : Value) = v)))) ∧ (¬ (b9 = true) → (
  ∃ (b10 : Bool), (∀ w' : World, Below w.heap.size w w' → Calls Tryz.prog 139 #[.agg #[.bool b1, .int .u64 x2, .int .u64 x3], .agg #[.bool b8, .int .u64 x8, .int .u64 x9]] w' (Vc.Ret (.bool b10) w')) ∧
  ((b10 = true) → (
  (.tuple #[.agg #[.bool b0, .int .u64 x0, .int .u64 x1], .agg #[.bool b8, .int .u64 x8, .int .u64 x9]] : Value) = v)) ∧ (¬ (b10 = true) → (
  (.tuple #[.agg #[.bool b0, .int .u64 x0, .int .u64 x1], .agg #[.bool b1, .int .u64 x2, .int .u64 x3]] : Value) = v))))))))))))) : Calls Tryz.prog 121 #[.slice (some ⟨p0.1, p0.2, none⟩) 4 4] w (Vc.Ret v w) :=
  Vc.pure_of base [(3, .unroll)] 200 Tryz.func121 (b := (Tryz.f121.body).getD .skip) (by kernel_rfl) [.cv (.one (.xsl 0 (.lit (0)) 3 (.lit (4)) (.lit (4))))] ⟨0, 0, 0, 1, 0, 0, 0⟩ (Vc.envOf [] [] [] [p0]) (by kernel_rfl) (by kernel_rfl) (by kernel_rfl) h

theorem vc_span_hull_n (p0 : Nat × Nat) (x0 x1 : Int) (w : World) (v : Value) (h : 
  (0 < x0) ∧
  ∃ (b0 : Bool), w.cell? ⟨p0.1, p0.2 + (Int.toNat 0) * 3 + 0, none⟩ = some (.bool b0) ∧
  ∃ (x2 : Int), w.cell? ⟨p0.1, p0.2 + (Int.toNat 0) * 3 + 1, none⟩ = some (.int .u64 x2) ∧
  ∃ (x3 : Int), w.cell? ⟨p0.1, p0.2 + (Int.toNat 0) * 3 + 2, none⟩ = some (.int .u64 x3) ∧
  (0 < x0) ∧
  ∃ (b1 : Bool), w.cell? ⟨p0.1, p0.2 + (Int.toNat 0) * 3 + 0, none⟩ = some (.bool b1) ∧
  ∃ (x4 : Int), w.cell? ⟨p0.1, p0.2 + (Int.toNat 0) * 3 + 1, none⟩ = some (.int .u64 x4) ∧
  ∃ (x5 : Int), w.cell? ⟨p0.1, p0.2 + (Int.toNat 0) * 3 + 2, none⟩ = some (.int .u64 x5) ∧
  (0 ≤ x0) ∧
  (x0 ≤ x1) ∧
  (1 ≤ x0) ∧
  (x0 ≤ x1) ∧
  ∀ x6 : Int, x6 = x0 - 1 →
  ∀ x7 : Int, x7 = x1 - 1 →
  ((1 < x1) → (
  (0 ≤ x6) ∧
  ∃ (Ix8 : List Vc.Vl → Prop) (mx8 : List Vc.Vl → Nat), Ix8 [.i 0, .b b0, .i x2, .i x3, .b b1, .i x4, .i x5] ∧ ∀ (x8 : Int) (b2 : Bool) (x9 : Int) (x10 : Int) (b3 : Bool) (x11 : Int) (x12 : Int), Ix8 [.i x8, .b b2, .i x9, .i x10, .b b3, .i x11, .i x12] → (
  ((x8 < x6) → (
  (0 ≤ x8) ∧
  (x8 < x6) ∧
  ∀ x13 : Int, x13 = 1 + x8 →
  ∃ (b4 : Bool), w.cell? ⟨p0.1, p0.2 + (Int.toNat x13) * 3 + 0, none⟩ = some (.bool b4) ∧
  ∃ (x14 : Int), w.cell? ⟨p0.1, p0.2 + (Int.toNat x13) * 3 + 1, none⟩ = some (.int .u64 x14) ∧
  ∃ (x15 : Int), w.cell? ⟨p0.1, p0.2 + (Int.toNat x13) * 3 + 2, none⟩ = some (.int .u64 x15) ∧
  ∃ (b5 : Bool), (∀ w' : World, Below w.heap.size w w' → Calls Tryz.prog 139 #[.agg #[.bool b4, .int .u64 x14, .int .u64 x15], .agg #[.bool b2, .int .u64 x9, .int .u64 x10]] w' (Vc.Ret (.bool b5) w')) ∧
  ((b5 = true) → (
  ∃ (b6 : Bool), (∀ w' : World, Below w.heap.size w w' → Calls Tryz.prog 139 #[.agg #[.bool b3, .int .u64 x11, .int .u64 x12], .agg #[.bool b4, .int .u64 x14, .int .u64 x15]] w' (Vc.Ret (.bool b6) w')) ∧
  ((b6 = true) → (
  ∀ x16 : Int, x16 = IntKind.i64.wrap (x8 + 1) →
  Ix8 [.i x16, .b b4, .i x14, .i x15, .b b4, .i x14, .i x15] ∧ mx8 [.i x16, .b b4, .i x14, .i x15, .b b4, .i x14, .i x15] < mx8 [.i x8, .b b2, .i x9, .i x10, .b b3, .i x11, .i x12])) ∧ (¬ (b6 = true) → (
  ∀ x16 : Int, x16 = IntKind.i64.wrap (x8 + 1) →
  Ix8 [.i x16, .b b4, .i x14, .i x15, .b b3, .i x11, .i x12] ∧ mx8 [.i x16, .b b4, .i x14, .i x15, .b b3, .i x11, .i x12] < mx8 [.i x8, .b b2, .i x9, .i x10, .b b3, .i x11, .i x12])))) ∧ (¬ (b5 = true) → (
  ∃ (b6 : Bool), (∀ w' : World, Below w.heap.size w w' → Calls Tryz.prog 139 #[.agg #[.bool b3, .int .u64 x11, .int .u64 x12], .agg #[.bool b4, .int .u64 x14, .int .u64 x15]] w' (Vc.Ret (.bool b6) w')) ∧
  ((b6 = true) → (
  ∀ x16 : Int, x16 = IntKind.i64.wrap (x8 + 1) →
  Ix8 [.i x16, .b b2, .i x9, .i x10, .b b4, .i x14, .i x15] ∧ mx8 [.i x16, .b b2, .i x9, .i x10, .b b4, .i x14, .i x15] < mx8 [.i x8, .b b2, .i x9, .i x10, .b b3, .i x11, .i x12])) ∧ (¬ (b6 = true) → (
  ∀ x16 : Int, x16 = IntKind.i64.wrap (x8 + 1) →
  Ix8 [.i x16, .b b2, .i x9, .i x10, .b b3, .i x11, .i x12] ∧ mx8 [.i x16, .b b2, .i x9, .i x10, .b b3, .i x11, .i x12] < mx8 [.i x8, .b b2, .i x9, .i x10, .b b3, .i x11, .i x12])))))) ∧ (¬ (x8 < x6) → (
  (.tuple #[.agg #[.bool b2, .int .u64 x9, .int .u64 x10], .agg #[.bool b3, .int .u64 x11, .int .u64 x12]] : Value) = v))))) ∧ (¬ (1 < x1) → (
  (0 ≤ x6) ∧
  ∃ (Ix8 : List Vc.Vl → Prop) (mx8 : List Vc.Vl → Nat), Ix8 [.i 0, .b b0, .i x2, .i x3, .b b1, .i x4, .i x5] ∧ ∀ (x8 : Int) (b2 : Bool) (x9 : Int) (x10 : Int) (b3 : Bool) (x11 : Int) (x12 : Int), Ix8 [.i x8, .b b2, .i x9, .i x10, .b b3, .i x11, .i x12] → (
  ((x8 < x6) → (
  (0 ≤ x8) ∧
  (x8 < x6) ∧
  ∃ (b4 : Bool), w.cell? ⟨p0.1, p0.2 + (Int.toNat x8) * 3 + 0, none⟩ = some (.bool b4) ∧
  ∃ (x13 : Int), w.cell? ⟨p0.1, p0.2 + (Int.toNat x8) * 3 + 1, none⟩ = some (.int .u64 x13) ∧
  ∃ (x14 : Int), w.cell? ⟨p0.1, p0.2 + (Int.toNat x8) * 3 + 2, none⟩ = some (.int .u64 x14) ∧
  ∃ (b5 : Bool), (∀ w' : World, Below w.heap.size w w' → Calls Tryz.prog 139 #[.agg #[.bool b4, .int .u64 x13, .int .u64 x14], .agg #[.bool b2, .int .u64 x9, .int .u64 x10]] w' (Vc.Ret (.bool b5) w')) ∧
  ((b5 = true) → (
  ∃ (b6 : Bool), (∀ w' : World, Below w.heap.size w w' → Calls Tryz.prog 139 #[.agg #[.bool b3, .int .u64 x11, .int .u64 x12], .agg #[.bool b4, .int .u64 x13, .int .u64 x14]] w' (Vc.Ret (.bool b6) w')) ∧
  ((b6 = true) → (
  ∀ x15 : Int, x15 = IntKind.i64.wrap (x8 + 1) →
  Ix8 [.i x15, .b b4, .i x13, .i x14, .b b4, .i x13, .i x14] ∧ mx8 [.i x15, .b b4, .i x13, .i x14, .b b4, .i x13, .i x14] < mx8 [.i x8, .b b2, .i x9, .i x10, .b b3, .i x11, .i x12])) ∧ (¬ (b6 = true) → (
  ∀ x15 : Int, x15 = IntKind.i64.wrap (x8 + 1) →
  Ix8 [.i x15, .b b4, .i x13, .i x14, .b b3, .i x11, .i x12] ∧ mx8 [.i x15, .b b4, .i x13, .i x14, .b b3, .i x11, .i x12] < mx8 [.i x8, .b b2, .i x9, .i x10, .b b3, .i x11, .i x12])))) ∧ (¬ (b5 = true) → (
  ∃ (b6 : Bool), (∀ w' : World, Below w.heap.size w w' → Calls Tryz.prog 139 #[.agg #[.bool b3, .int .u64 x11, .int .u64 x12], .agg #[.bool b4, .int .u64 x13, .int .u64 x14]] w' (Vc.Ret (.bool b6) w')) ∧
  ((b6 = true) → (
  ∀ x15 : Int, x15 = IntKind.i64.wrap (x8 + 1) →
  Ix8 [.i x15, .b b2, .i x9, .i x10, .b b4, .i x13, .i x14] ∧ mx8 [.i x15, .b b2, .i x9, .i x10, .b b4, .i x13, .i x14] < mx8 [.i x8, .b b2, .i x9, .i x10, .b b3, .i x11, .i x12])) ∧ (¬ (b6 = true) → (
  ∀ x15 : Int, x15 = IntKind.i64.wrap (x8 + 1) →
  Ix8 [.i x15, .b b2, .i x9, .i x10, .b b3, .i x11, .i x12] ∧ mx8 [.i x15, .b b2, .i x9, .i x10, .b b3, .i x11, .i x12] < mx8 [.i x8, .b b2, .i x9, .i x10, .b b3, .i x11, .i x12])))))) ∧ (¬ (x8 < x6) → (
  (.tuple #[.agg #[.bool b2, .int .u64 x9, .int .u64 x10], .agg #[.bool b3, .int .u64 x11, .int .u64 x12]] : Value) = v)))))) : Calls Tryz.prog 121 #[.slice (some ⟨p0.1, p0.2, none⟩) (Int.toNat x0) (Int.toNat x1)] w (Vc.Ret v w) :=
  Vc.pure_of base [(3, .inv [(2, 0), (2, 1), (2, 2), (3, 0), (3, 1), (3, 2)] [15] [16, 17, 18, 5, 19, 20, 21, 22, 23, 24, 25, 26, 27])] 200 Tryz.func121 (b := (Tryz.f121.body).getD .skip) (by kernel_rfl) [.cv (.one (.xsl 0 (.lit (0)) 3 (.var 0) (.var 1)))] ⟨2, 0, 0, 1, 0, 0, 0⟩ (Vc.envOf [x0, x1] [] [] [p0]) (by kernel_rfl) (by kernel_rfl) (by kernel_rfl) h

theorem vc_span_Scale (x0 x1 x2 : Int) (w : World) (v : Value) (h : 
  ∃ (x3 : Int), (∀ w' : World, Below w.heap.size w w' → Calls Tryz.prog 83 #[.agg #[.int .i64 x0, .int .i64 x1]] w' (Vc.Ret (.int .i64 x3) w')) ∧
  ((x3 = 0) → (
  ∃ (b0 : Bool), ∃ (x4 : Int), ∃ (x5 : Int), (∀ w' : World, Below w.heap.size w w' → Calls Tryz.prog 120 #[.int .i64 x0, .int .i64 x2] w' (Vc.Ret (.agg #[.bool b0, .int .u64 x4, .int .u64 x5]) w')) ∧
  ∃ (b1 : Bool), ∃ (x6 : Int), ∃ (x7 : Int), (∀ w' : World, Below w.heap.size w w' → Calls Tryz.prog 120 #[.int .i64 x1, .int .i64 x2] w' (Vc.Ret (.agg #[.bool b1, .int .u64 x6, .int .u64 x7]) w')) ∧
  ∃ (b2 : Bool), ∃ (x8 : Int), ∃ (x9 : Int), ∃ (b3 : Bool), ∃ (x10 : Int), ∃ (x11 : Int), (∀ (β : Nat → Nat) (w' : World), Below w.heap.size w w' → ((w.heap.size ≤ β 2 ∧ w'.heap[β 2]? = some (.cells #[.bool b0, .int .u64 x4, .int .u64 x5, .bool b1, .int .u64 x6, .int .u64 x7] 163)) ∧ True) → Calls Tryz.prog 121 #[.slice (some ⟨β 2, 0, none⟩) 2 2] w' (Vc.Ret (.tuple #[.agg #[.bool b2, .int .u64 x8, .int .u64 x9], .agg #[.bool b3, .int .u64 x10, .int .u64 x11]]) w')) ∧
  ∃ (x12 : Int), ∃ (x13 : Int), ∃ (x14 : Int), (∀ w' : World, Below w.heap.size w w' → Calls Tryz.prog 124 #[.agg #[.bool b2, .int .u64 x8, .int .u64 x9], .agg #[.bool b3, .int .u64 x10, .int .u64 x11]] w' (Vc.Ret (.tuple #[.agg #[.int .i64 x12, .int .i64 x13], .int .i64 x14]) w')) ∧
  (.tuple #[.agg #[.int .i64 x12, .int .i64 x13], .int .i64 x14] : Value) = v)) ∧ (¬ (x3 = 0) → (
  (.tuple #[.agg #[.int .i64 0, .int .i64 0], .int .i64 x3] : Value) = v))) : Calls Tryz.prog 117 #[.agg #[.int .i64 x0, .int .i64 x1], .int .i64 x2] w (Vc.Ret v w) :=
  Vc.pure_of base [] 200 Tryz.func117 (b := (Tryz.f117.body).getD .skip) (by kernel_rfl) [.cv (.agg [.int .i64 (.var 0), .int .i64 (.var 1)]), .cv (.one (.int .i64 (.var 2)))] ⟨3, 0, 0, 0, 0, 0, 0⟩ (Vc.envOf [x0, x1, x2] [] [] []) (by kernel_rfl) (by kernel_rfl) (by kernel_rfl) h

theorem vc_span_Mul_1 (x0 x1 : Int) (w : World) (v : Value) (h : 
  ∃ (b0 : Bool), ∃ (x2 : Int), ∃ (x3 : Int), (∀ w' : World, Below w.heap.size w w' → Calls Tryz.prog 120 #[.int .i64 x0, .int .i64 x1] w' (Vc.Ret (.agg #[.bool b0, .int .u64 x2, .int .u64 x3]) w')) ∧
  (.agg #[.bool b0, .int .u64 x2, .int .u64 x3] : Value) = v) : Calls Tryz.prog 119 #[.int .i64 x0, .int .i64 x1] w (Vc.Ret v w) :=
  Vc.pure_of base [] 200 Tryz.func119 (b := (Tryz.f119.body).getD .skip) (by kernel_rfl) [.cv (.one (.int .i64 (.var 0))), .cv (.one (.int .i64 (.var 1)))] ⟨2, 0, 0, 0, 0, 0, 0⟩ (Vc.envOf [x0, x1] [] [] []) (by kernel_rfl) (by kernel_rfl) (by kernel_rfl) h

theorem vc_span_Mul (x0 x1 x2 x3 : Int) (w : World) (v : Value) (h : 
  ∃ (x4 : Int), (∀ (β : Nat → Nat) (w' : World), Below w.heap.size w w' → ((w.heap.size ≤ β 3 ∧ w'.heap[β 3]? = some (.cells #[.int .i64 x0, .int .i64 x1, .int .i64 x2, .int .i64 x3] 37)) ∧ True) → Calls Tryz.prog 118 #[.slice (some ⟨β 3, 0, none⟩) 2 2] w' (Vc.Ret (.int .i64 x4) w')) ∧
  ((x4 = 0) → (
  ∃ (b0 : Bool), ∃ (x5 : Int), ∃ (x6 : Int), (∀ w' : World, Below w.heap.size w w' → Calls Tryz.prog 119 #[.int .i64 x0, .int .i64 x2] w' (Vc.Ret (.agg #[.bool b0, .int .u64 x5, .int .u64 x6]) w')) ∧
  ∃ (b1 : Bool), ∃ (x7 : Int), ∃ (x8 : Int), (∀ w' : World, Below w.heap.size w w' → Calls Tryz.prog 119 #[.int .i64 x0, .int .i64 x3] w' (Vc.Ret (.agg #[.bool b1, .int .u64 x7, .int .u64 x8]) w')) ∧
  ∃ (b2 : Bool), ∃ (x9 : Int), ∃ (x10 : Int), (∀ w' : World, Below w.heap.size w w' → Calls Tryz.prog 119 #[.int .i64 x1, .int .i64 x2] w' (Vc.Ret (.agg #[.bool b2, .int .u64 x9, .int .u64 x10]) w')) ∧
  ∃ (b3 : Bool), ∃ (x11 : Int), ∃ (x12 : Int), (∀ w' : World, Below w.heap.size w w' → Calls Tryz.prog 119 #[.int .i64 x1, .int .i64 x3] w' (Vc.Ret (.agg #[.bool b3, .int .u64 x11, .int .u64 x12]) w')) ∧
  ∃ (b4 : Bool), ∃ (x13 : Int), ∃ (x14 : Int), ∃ (b5 : Bool), ∃ (x15 : Int), ∃ (x16 : Int), (∀ (β : Nat → Nat) (w' : World), Below w.heap.size w w' → ((w.heap.size ≤ β 4 ∧ w'.heap[β 4]? = some (.cells #[.bool b0, .int .u64 x5, .int .u64 x6, .bool b1, .int .u64 x7, .int .u64 x8, .bool b2, .int .u64 x9, .int .u64 x10, .bool b3, .int .u64 x11, .int .u64 x12] 163)) ∧ True) → Calls Tryz.prog 121 #[.slice (some ⟨β 4, 0, none⟩) 4 4] w' (Vc.Ret (.tuple #[.agg #[.bool b4, .int .u64 x13, .int .u64 x14], .agg #[.bool b5, .int .u64 x15, .int .u64 x16]]) w')) ∧
  ∃ (b6 : Bool), ∃ (x17 : Int), ∃ (x18 : Int), (∀ w' : World, Below w.heap.size w w' → Calls Tryz.prog 122 #[.int .i64 4294967296] w' (Vc.Ret (.agg #[.bool b6, .int .u64 x17, .int .u64 x18]) w')) ∧
  ∃ (b7 : Bool), ∃ (x19 : Int), ∃ (x20 : Int), ∃ (b8 : Bool), ∃ (x21 : Int), ∃ (x22 : Int), (∀ w' : World, Below w.heap.size w w' → Calls Tryz.prog 123 #[.agg #[.bool b4, .int .u64 x13, .int .u64 x14], .agg #[.bool b6, .int .u64 x17, .int .u64 x18]] w' (Vc.Ret (.tuple #[.agg #[.bool b7, .int .u64 x19, .int .u64 x20], .agg #[.bool b8, .int .u64 x21, .int .u64 x22]]) w')) ∧
  ∃ (b9 : Bool), ∃ (x23 : Int), ∃ (x24 : Int), ∃ (b10 : Bool), ∃ (x25 : Int), ∃ (x26 : Int), (∀ w' : World, Below w.heap.size w w' → Calls Tryz.prog 123 #[.agg #[.bool b5, .int .u64 x15, .int .u64 x16], .agg #[.bool b6, .int .u64 x17, .int .u64 x18]] w' (Vc.Ret (.tuple #[.agg #[.bool b9, .int .u64 x23, .int .u64 x24], .agg #[.bool b10, .int .u64 x25, .int .u64 x26]]) w')) ∧
  ∃ (x27 : Int), ∃ (x28 : Int), ∃ (x29 : Int), (∀ w' : World, Below w.heap.size w w' → Calls Tryz.prog 124 #[.agg #[.bool b7, .int .u64 x19, .int .u64 x20], .agg #[.bool b10, .int .u64 x25, .int .u64 x26]] w' (Vc.Ret (.tuple #[.agg #[.int .i64 x27, .int .i64 x28], .int .i64 x29]) w')) ∧
  (.tuple #[.agg #[.int .i64 x27, .int .i64 x28], .int .i64 x29] : Value) = v)) ∧ (¬ (x4 = 0) → (
  (.tuple #[.agg #[.int .i64 0, .int .i64 0], .int .i64 x4] : Value) = v))) : Calls Tryz.prog 86 #[.agg #[.int .i64 x0, .int .i64 x1], .agg #[.int .i64 x2, .int .i64 x3]] w (Vc.Ret v w) :=
  Vc.pure_of base [] 200 Tryz.func86 (b := (Tryz.f86.body).getD .skip) (by kernel_rfl) [.cv (.agg [.int .i64 (.var 0), .int .i64 (.var 1)]), .cv (.agg [.int .i64 (.var 2), .int .i64 (.var 3)])] ⟨4, 0, 0, 0, 0, 0, 0⟩ (Vc.envOf [x0, x1, x2, x3] [] [] []) (by kernel_rfl) (by kernel_rfl) (by kernel_rfl) h

theorem vc_span_Div (x0 x1 x2 x3 : Int) (w : World) (v : Value) (h : 
  ∃ (x4 : Int), (∀ (β : Nat → Nat) (w' : World), Below w.heap.size w w' → ((w.heap.size ≤ β 3 ∧ w'.heap[β 3]? = some (.cells #[.int .i64 x0, .int .i64 x1, .int .i64 x2, .int .i64 x3] 37)) ∧ True) → Calls Tryz.prog 118 #[.slice (some ⟨β 3, 0, none⟩) 2 2] w' (Vc.Ret (.int .i64 x4) w')) ∧
  ((x4 = 0) → (
  ((x2 ≤ 0) → (
  ((0 ≤ x3) → (
  (.tuple #[.agg #[.int .i64 0, .int .i64 0], .int .i64 10] : Value) = v)) ∧ (¬ (0 ≤ x3) → (
  ∃ (b0 : Bool), ∃ (x5 : Int), ∃ (x6 : Int), ∃ (b1 : Bool), ∃ (x7 : Int), ∃ (x8 : Int), (∀ w' : World, Below w.heap.size w w' → Calls Tryz.prog 147 #[.int .i64 x0, .int .i64 x2] w' (Vc.Ret (.tuple #[.agg #[.bool b0, .int .u64 x5, .int .u64 x6], .agg #[.bool b1, .int .u64 x7, .int .u64 x8]]) w')) ∧
  ∃ (b2 : Bool), ∃ (x9 : Int), ∃ (x10 : Int), ∃ (b3 : Bool), ∃ (x11 : Int), ∃ (x12 : Int), (∀ w' : World, Below w.heap.size w w' → Calls Tryz.prog 147 #[.int .i64 x0, .int .i64 x3] w' (Vc.Ret (.tuple #[.agg #[.bool b2, .int .u64 x9, .int .u64 x10], .agg #[.bool b3, .int .u64 x11, .int .u64 x12]]) w')) ∧
  ∃ (b4 : Bool), ∃ (x13 : Int), ∃ (x14 : Int), ∃ (b5 : Bool), ∃ (x15 : Int), ∃ (x16 : Int), (∀ w' : World, Below w.heap.size w w' → Calls Tryz.prog 147 #[.int .i64 x1, .int .i64 x2] w' (Vc.Ret (.tuple #[.agg #[.bool b4, .int .u64 x13, .int .u64 x14], .agg #[.bool b5, .int .u64 x15, .int .u64 x16]]) w')) ∧
  ∃ (b6 : Bool), ∃ (x17 : Int), ∃ (x18 : Int), ∃ (b7 : Bool), ∃ (x19 : Int), ∃ (x20 : Int), (∀ w' : World, Below w.heap.size w w' → Calls Tryz.prog 147 #[.int .i64 x1, .int .i64 x3] w' (Vc.Ret (.tuple #[.agg #[.bool b6, .int .u64 x17, .int .u64 x18], .agg #[.bool b7, .int .u64 x19, .int .u64 x20]]) w')) ∧
  ∃ (b8 : Bool), ∃ (x21 : Int), ∃ (x22 : Int), ∃ (b9 : Bool), ∃ (x23 : Int), ∃ (x24 : Int), (∀ (β : Nat → Nat) (w' : World), Below w.heap.size w w' → (Vc.RowOk w.heap.size (β 46) (β 47) (β 48) (β 49) (([.bool b0, .int .u64 x5, .int .u64 x6, .bool b2, .int .u64 x9, .int .u64 x10, .bool b4, .int .u64 x13, .int .u64 x14, .bool b6, .int .u64 x17, .int .u64 x18] : List Value)) 3 163 w' ∧ True) → Calls Tryz.prog 121 #[Vc.ownV (β 46) (β 47) (β 48) (β 49)] w' (Vc.Ret (.tuple #[.agg #[.bool b8, .int .u64 x21, .int .u64 x22], .agg #[.bool b9, .int .u64 x23, .int .u64 x24]]) w')) ∧
  ∃ (b10 : Bool), ∃ (x25 : Int), ∃ (x26 : Int), ∃ (b11 : Bool), ∃ (x27 : Int), ∃ (x28 : Int), (∀ (β : Nat → Nat) (w' : World), Below w.heap.size w w' → (Vc.RowOk w.heap.size (β 51) (β 52) (β 53) (β 54) (([.bool b1, .int .u64 x7, .int .u64 x8, .bool b3, .int .u64 x11, .int .u64 x12, .bool b5, .int .u64 x15, .int .u64 x16, .bool b7, .int .u64 x19, .int .u64 x20] : List Value)) 3 163 w' ∧ True) → Calls Tryz.prog 121 #[Vc.ownV (β 51) (β 52) (β 53) (β 54)] w' (Vc.Ret (.tuple #[.agg #[.bool b10, .int .u64 x25, .int .u64 x26], .agg #[.bool b11, .int .u64 x27, .int .u64 x28]]) w')) ∧
  ∃ (x29 : Int), ∃ (x30 : Int), ∃ (x31 : Int), (∀ w' : World, Below w.heap.size w w' → Calls Tryz.prog 124 #[.agg #[.bool b8, .int .u64 x21, .int .u64 x22], .agg #[.bool b11, .int .u64 x27, .int .u64 x28]] w' (Vc.Ret (.tuple #[.agg #[.int .i64 x29, .int .i64 x30], .int .i64 x31]) w')) ∧
  (.tuple #[.agg #[.int .i64 x29, .int .i64 x30], .int .i64 x31] : Value) = v)))) ∧ (¬ (x2 ≤ 0) → (
  ∃ (b0 : Bool), ∃ (x5 : Int), ∃ (x6 : Int), ∃ (b1 : Bool), ∃ (x7 : Int), ∃ (x8 : Int), (∀ w' : World, Below w.heap.size w w' → Calls Tryz.prog 147 #[.int .i64 x0, .int .i64 x2] w' (Vc.Ret (.tuple #[.agg #[.bool b0, .int .u64 x5, .int .u64 x6], .agg #[.bool b1, .int .u64 x7, .int .u64 x8]]) w')) ∧
  ∃ (b2 : Bool), ∃ (x9 : Int), ∃ (x10 : Int), ∃ (b3 : Bool), ∃ (x11 : Int), ∃ (x12 : Int), (∀ w' : World, Below w.heap.size w w' → Calls Tryz.prog 147 #[.int .i64 x0, .int .i64 x3] w' (Vc.Ret (.tuple #[.agg #[.bool b2, .int .u64 x9, .int .u64 x10], .agg #[.bool b3, .int .u64 x11, .int .u64 x12]]) w')) ∧
  ∃ (b4 : Bool), ∃ (x13 : Int), ∃ (x14 : Int), ∃ (b5 : Bool), ∃ (x15 : Int), ∃ (x16 : Int), (∀ w' : World, Below w.heap.size w w' → Calls Tryz.prog 147 #[.int .i64 x1, .int .i64 x2] w' (Vc.Ret (.tuple #[.agg #[.bool b4, .int .u64 x13, .int .u64 x14], .agg #[.bool b5, .int .u64 x15, .int .u64 x16]]) w')) ∧
  ∃ (b6 : Bool), ∃ (x17 : Int), ∃ (x18 : Int), ∃ (b7 : Bool), ∃ (x19 : Int), ∃ (x20 : Int), (∀ w' : World, Below w.heap.size w w' → Calls Tryz.prog 147 #[.int .i64 x1, .int .i64 x3] w' (Vc.Ret (.tuple #[.agg #[.bool b6, .int .u64 x17, .int .u64 x18], .agg #[.bool b7, .int .u64 x19, .int .u64 x20]]) w')) ∧
  ∃ (b8 : Bool), ∃ (x21 : Int), ∃ (x22 : Int), ∃ (b9 : Bool), ∃ (x23 : Int), ∃ (x24 : Int), (∀ (β : Nat → Nat) (w' : World), Below w.heap.size w w' → (Vc.RowOk w.heap.size (β 46) (β 47) (β 48) (β 49) (([.bool b0, .int .u64 x5, .int .u64 x6, .bool b2, .int .u64 x9, .int .u64 x10, .bool b4, .int .u64 x13, .int .u64 x14, .bool b6, .int .u64 x17, .int .u64 x18] : List Value)) 3 163 w' ∧ True) → Calls Tryz.prog 121 #[Vc.ownV (β 46) (β 47) (β 48) (β 49)] w' (Vc.Ret (.tuple #[.agg #[.bool b8, .int .u64 x21, .int .u64 x22], .agg #[.bool b9, .int .u64 x23, .int .u64 x24]]) w')) ∧
  ∃ (b10 : Bool), ∃ (x25 : Int), ∃ (x26 : Int), ∃ (b11 : Bool), ∃ (x27 : Int), ∃ (x28 : Int), (∀ (β : Nat → Nat) (w' : World), Below w.heap.size w w' → (Vc.RowOk w.heap.size (β 51) (β 52) (β 53) (β 54) (([.bool b1, .int .u64 x7, .int .u64 x8, .bool b3, .int .u64 x11, .int .u64 x12, .bool b5, .int .u64 x15, .int .u64 x16, .bool b7, .int .u64 x19, .int .u64 x20] : List Value)) 3 163 w' ∧ True) → Calls Tryz.prog 121 #[Vc.ownV (β 51) (β 52) (β 53) (β 54)] w' (Vc.Ret (.tuple #[.agg #[.bool b10, .int .u64 x25, .int .u64 x26], .agg #[.bool b11, .int .u64 x27, .int .u64 x28]]) w')) ∧
  ∃ (x29 : Int), ∃ (x30 : Int), ∃ (x31 : Int), (∀ w' : World, Below w.heap.size w w' → Calls Tryz.prog 124 #[.agg #[.bool b8, .int .u64 x21, .int .u64 x22], .agg #[.bool b11, .int .u64 x27, .int .u64 x28]] w' (Vc.Ret (.tuple #[.agg #[.int .i64 x29, .int .i64 x30], .int .i64 x31]) w')) ∧
  (.tuple #[.agg #[.int .i64 x29, .int .i64 x30], .int .i64 x31] : Value) = v)))) ∧ (¬ (x4 = 0) → (
  (.tuple #[.agg #[.int .i64 0, .int .i64 0], .int .i64 x4] : Value) = v))) : Calls Tryz.prog 128 #[.agg #[.int .i64 x0, .int .i64 x1], .agg #[.int .i64 x2, .int .i64 x3]] w (Vc.Ret v w) :=
  Vc.pure_of base [(8, .unroll), (11, .unroll)] 200 Tryz.func128 (b := (Tryz.f128.body).getD .skip) (by kernel_rfl) [.cv (.agg [.int .i64 (.var 0), .int .i64 (.var 1)]), .cv (.agg [.int .i64 (.var 2), .int .i64 (.var 3)])] ⟨4, 0, 0, 0, 0, 0, 0⟩ (Vc.envOf [x0, x1, x2, x3] [] [] []) (by kernel_rfl) (by kernel_rfl) (by kernel_rfl) h

theorem vc_span_Abs (x0 x1 : Int) (w : World) (v : Value) (h : 
  ∃ (x2 : Int), (∀ w' : World, Below w.heap.size w w' → Calls Tryz.prog 83 #[.agg #[.int .i64 x0, .int .i64 x1]] w' (Vc.Ret (.int .i64 x2) w')) ∧
  ((x2 = 0) → (
  ((0 ≤ x0) → (
  (.tuple #[.agg #[.int .i64 x0, .int .i64 x1], .int .i64 0] : Value) = v)) ∧ (¬ (0 ≤ x0) → (
  ((x1 ≤ 0) → (
  ∃ (x3 : Int), ∃ (x4 : Int), ∃ (x5 : Int), (∀ w' : World, Below w.heap.size w w' → Calls Tryz.prog 150 #[.agg #[.int .i64 x0, .int .i64 x1]] w' (Vc.Ret (.tuple #[.agg #[.int .i64 x3, .int .i64 x4], .int .i64 x5]) w')) ∧
  (.tuple #[.agg #[.int .i64 x3, .int .i64 x4], .int .i64 x5] : Value) = v)) ∧ (¬ (x1 ≤ 0) → (
  ∀ x3 : Int, x3 = IntKind.i64.wrap (0 - x0) →
  ∀ x4 : Int, x4 = (if x1 > x3 then x1 else x3) →
  (.tuple #[.agg #[.int .i64 0, .int .i64 x4], .int .i64 0] : Value) = v)))))) ∧ (¬ (x2 = 0) → (
  (.tuple #[.agg #[.int .i64 0, .int .i64 0], .int .i64 2] : Value) = v))) : Calls Tryz.prog 136 #[.agg #[.int .i64 x0, .int .i64 x1]] w (Vc.Ret v w) :=
  Vc.pure_of base [] 200 Tryz.func136 (b := (Tryz.f136.body).getD .skip) (by kernel_rfl) [.cv (.agg [.int .i64 (.var 0), .int .i64 (.var 1)])] ⟨2, 0, 0, 0, 0, 0, 0⟩ (Vc.envOf [x0, x1] [] [] []) (by kernel_rfl) (by kernel_rfl) (by kernel_rfl) h

theorem vc_span_Square (x0 x1 : Int) (w : World) (v : Value) (h : 
  ∃ (x2 : Int), ∃ (x3 : Int), ∃ (x4 : Int), (∀ w' : World, Below w.heap.size w w' → Calls Tryz.prog 136 #[.agg #[.int .i64 x0, .int .i64 x1]] w' (Vc.Ret (.tuple #[.agg #[.int .i64 x2, .int .i64 x3], .int .i64 x4]) w')) ∧
  ((x4 = 0) → (
  ∃ (x5 : Int), ∃ (x6 : Int), ∃ (x7 : Int), (∀ w' : World, Below w.heap.size w w' → Calls Tryz.prog 86 #[.agg #[.int .i64 x2, .int .i64 x3], .agg #[.int .i64 x2, .int .i64 x3]] w' (Vc.Ret (.tuple #[.agg #[.int .i64 x5, .int .i64 x6], .int .i64 x7]) w')) ∧
  (.tuple #[.agg #[.int .i64 x5, .int .i64 x6], .int .i64 x7] : Value) = v)) ∧ (¬ (x4 = 0) → (
  (.tuple #[.agg #[.int .i64 0, .int .i64 0], .int .i64 x4] : Value) = v))) : Calls Tryz.prog 116 #[.agg #[.int .i64 x0, .int .i64 x1]] w (Vc.Ret v w) :=
  Vc.pure_of base [] 200 Tryz.func116 (b := (Tryz.f116.body).getD .skip) (by kernel_rfl) [.cv (.agg [.int .i64 (.var 0), .int .i64 (.var 1)])] ⟨2, 0, 0, 0, 0, 0, 0⟩ (Vc.envOf [x0, x1] [] [] []) (by kernel_rfl) (by kernel_rfl) (by kernel_rfl) h

theorem vc_span_root (x0 : Int) (w : World) (v : Value) (h : 
  ∃ (b0 : Bool), ∃ (x1 : Int), ∃ (x2 : Int), (∀ w' : World, Below w.heap.size w w' → Calls Tryz.prog 122 #[.int .i64 x0] w' (Vc.Ret (.agg #[.bool b0, .int .u64 x1, .int .u64 x2]) w')) ∧
  ∃ (b1 : Bool), ∃ (x3 : Int), ∃ (x4 : Int), (∀ w' : World, Below w.heap.size w w' → Calls Tryz.prog 153 #[.agg #[.bool b0, .int .u64 x1, .int .u64 x2], .int .u64 32] w' (Vc.Ret (.agg #[.bool b1, .int .u64 x3, .int .u64 x4]) w')) ∧
  ∃ (Ix5 : List Vc.Vl → Prop) (mx5 : List Vc.Vl → Nat), Ix5 [.i 0, .i 281474976710656] ∧ ∀ (x5 : Int) (x6 : Int), Ix5 [.i x5, .i x6] → (
  ((0 < x6) → (
  ∀ x7 : Int, x7 = bits .or .u64 x5 x6 →
  ∀ x8 : Int, x8 = bits .or .u64 x5 x6 →
  ∃ (x9 : Int), ∃ (x10 : Int), (∀ w' : World, Below w.heap.size w w' → Calls Tryz.prog 137 #[.int .u64 x7, .int .u64 x8] w' (Vc.Ret (.tuple #[.int .u64 x9, .int .u64 x10]) w')) ∧
  ((x9 < x3) → (
  ∀ x11 : Int, x11 = bits .or .u64 x5 x6 →
  ∀ x12 : Int, x12 = x6 / 2 →
  Ix5 [.i x11, .i x12] ∧ mx5 [.i x11, .i x12] < mx5 [.i x5, .i x6])) ∧ (¬ (x9 < x3) → (
  ((x9 = x3) → (
  ((x10 ≤ x4) → (
  ∀ x11 : Int, x11 = bits .or .u64 x5 x6 →
  ∀ x12 : Int, x12 = x6 / 2 →
  Ix5 [.i x11, .i x12] ∧ mx5 [.i x11, .i x12] < mx5 [.i x5, .i x6])) ∧ (¬ (x10 ≤ x4) → (
  ∀ x11 : Int, x11 = x6 / 2 →
  Ix5 [.i x5, .i x11] ∧ mx5 [.i x5, .i x11] < mx5 [.i x5, .i x6])))) ∧ (¬ (x9 = x3) → (
  ∀ x11 : Int, x11 = x6 / 2 →
  Ix5 [.i x5, .i x11] ∧ mx5 [.i x5, .i x11] < mx5 [.i x5, .i x6])))))) ∧ (¬ (0 < x6) → (
  ∃ (x7 : Int), ∃ (x8 : Int), (∀ w' : World, Below w.heap.size w w' → Calls Tryz.prog 137 #[.int .u64 x5, .int .u64 x5] w' (Vc.Ret (.tuple #[.int .u64 x7, .int .u64 x8]) w')) ∧
  ((x7 = x3) → (
  (.tuple #[.int .u64 x5, .bool (x8 == x4)] : Value) = v)) ∧ (¬ (x7 = x3) → (
  (.tuple #[.int .u64 x5, .bool false] : Value) = v)))))) : Calls Tryz.prog 146 #[.int .i64 x0] w (Vc.Ret v w) :=
  Vc.pure_of base [(3, .inv [] [2, 5] [13, 14, 18, 19, 20, 21, 22, 23, 24, 17, 25, 26, 6, 7, 27, 28, 29, 30, 31, 32, 33, 34, 35, 36, 37, 38, 39, 40, 41, 42, 43, 44, 45, 15, 16])] 200 Tryz.func146 (b := (Tryz.f146.body).getD .skip) (by kernel_rfl) [.cv (.one (.int .i64 (.var 0)))] ⟨1, 0, 0, 0, 0, 0, 0⟩ (Vc.envOf [x0] [] [] []) (by kernel_rfl) (by kernel_rfl) (by kernel_rfl) h

theorem vc_span_Root (x0 x1 : Int) (w : World) (v : Value) (h : 
  ∃ (x2 : Int), (∀ w' : World, Below w.heap.size w w' → Calls Tryz.prog 83 #[.agg #[.int .i64 x0, .int .i64 x1]] w' (Vc.Ret (.int .i64 x2) w')) ∧
  ((x2 = 0) → (
  ((x1 < 0) → (
  (.tuple #[.agg #[.int .i64 0, .int .i64 0], .int .i64 4] : Value) = v)) ∧ (¬ (x1 < 0) → (
  ∀ x3 : Int, x3 = (if 0 > x0 then 0 else x0) →
  ∃ (x4 : Int), ∃ (b0 : Bool), (∀ w' : World, Below w.heap.size w w' → Calls Tryz.prog 146 #[.int .i64 x3] w' (Vc.Ret (.tuple #[.int .u64 x4, .bool b0]) w')) ∧
  ∃ (x5 : Int), ∃ (b1 : Bool), (∀ w' : World, Below w.heap.size w w' → Calls Tryz.prog 146 #[.int .i64 x1] w' (Vc.Ret (.tuple #[.int .u64 x5, .bool b1]) w')) ∧
  ((b1 = true) → (
  ∀ x6 : Int, x6 = IntKind.i64.wrap (x4) →
  ∀ x7 : Int, x7 = IntKind.i64.wrap (x5) →
  (.tuple #[.agg #[.int .i64 x6, .int .i64 x7], .int .i64 0] : Value) = v)) ∧ (¬ (b1 = true) → (
  ∀ x6 : Int, x6 = IntKind.u64.wrap (x5 + 1) →
  ∀ x7 : Int, x7 = IntKind.i64.wrap (x4) →
  ∀ x8 : Int, x8 = IntKind.i64.wrap (x6) →
  (.tuple #[.agg #[.int .i64 x7, .int .i64 x8], .int .i64 0] : Value) = v)))))) ∧ (¬ (x2 = 0) → (
  (.tuple #[.agg #[.int .i64 0, .int .i64 0], .int .i64 x2] : Value) = v))) : Calls Tryz.prog 127 #[.agg #[.int .i64 x0, .int .i64 x1]] w (Vc.Ret v w) :=
  Vc.pure_of base [] 200 Tryz.func127 (b := (Tryz.f127.body).getD .skip) (by kernel_rfl) [.cv (.agg [.int .i64 (.var 0), .int .i64 (.var 1)])] ⟨2, 0, 0, 0, 0, 0, 0⟩ (Vc.envOf [x0, x1] [] [] []) (by kernel_rfl) (by kernel_rfl) (by kernel_rfl) h

theorem vc_ullagelaw09_SafetyImpacts (x0 x1 x2 x3 x4 x5 x6 x7 x8 x9 x10 x11 x12 x13 x14 x15 x16 x17 : Int) (w : World) (v : Value) (h : 
  ∃ (x18 : Int), ∃ (x19 : Int), ∃ (x20 : Int), ∃ (x21 : Int), ∃ (x22 : Int), (∀ w' : World, Below w.heap.size w w' → Calls Tryz.prog 13 #[.agg #[.int .i64 x0, .int .i64 x1, .int .i64 x2, .int .i64 x3, .int .i64 x4, .int .i64 x5, .int .i64 x6, .int .i64 x7, .int .i64 x8, .int .i64 x9, .int .i64 x10, .int .i64 x11, .int .i64 x12, .int .i64 x13, .int .i64 x14, .int .i64 x15, .int .i64 x16, .int .i64 x17]] w' (Vc.Ret (.tuple #[.agg #[.int .i64 x18, .int .i64 x19, .int .i64 x20, .int .i64 x21], .int .i64 x22]) w')) ∧
  ∃ (x23 : Int), ∃ (x24 : Int), ∃ (x25 : Int), ∃ (x26 : Int), ∃ (x27 : Int), (∀ w' : World, Below w.heap.size w w' → Calls Tryz.prog 14 #[.agg #[.int .i64 x0, .int .i64 x1, .int .i64 x2, .int .i64 x3, .int .i64 x4, .int .i64 x5, .int .i64 x6, .int .i64 x7, .int .i64 x8, .int .i64 x9, .int .i64 x10, .int .i64 x11, .int .i64 x12, .int .i64 x13, .int .i64 x14, .int .i64 x15, .int .i64 x16, .int .i64 x17]] w' (Vc.Ret (.tuple #[.agg #[.int .i64 x23, .int .i64 x24, .int .i64 x25, .int .i64 x26], .int .i64 x27]) w')) ∧
  (((x18 = x23) ∧ ((x19 = x24) ∧ ((x20 = x25) ∧ (x21 = x26)))) → (
  ((x22 = x27) → (
  ∃ (b0 : Bool), (∀ w' : World, Below w.heap.size w w' → Calls Tryz.prog 10 #[] w' (Vc.Ret (.bool b0) w')) ∧
  (.bool b0 : Value) = v)) ∧ (¬ (x22 = x27) → (
  (.bool false : Value) = v)))) ∧ (¬ ((x18 = x23) ∧ ((x19 = x24) ∧ ((x20 = x25) ∧ (x21 = x26)))) → (
  (.bool false : Value) = v))) : Calls Tryz.prog 4 #[.agg #[.int .i64 x0, .int .i64 x1, .int .i64 x2, .int .i64 x3, .int .i64 x4, .int .i64 x5, .int .i64 x6, .int .i64 x7, .int .i64 x8, .int .i64 x9, .int .i64 x10, .int .i64 x11, .int .i64 x12, .int .i64 x13, .int .i64 x14, .int .i64 x15, .int .i64 x16, .int .i64 x17]] w (Vc.Ret v w) :=
  Vc.pure_of base [] 200 Tryz.func4 (b := (Tryz.f4.body).getD .skip) (by kernel_rfl) [.cv (.agg [.int .i64 (.var 0), .int .i64 (.var 1), .int .i64 (.var 2), .int .i64 (.var 3), .int .i64 (.var 4), .int .i64 (.var 5), .int .i64 (.var 6), .int .i64 (.var 7), .int .i64 (.var 8), .int .i64 (.var 9), .int .i64 (.var 10), .int .i64 (.var 11), .int .i64 (.var 12), .int .i64 (.var 13), .int .i64 (.var 14), .int .i64 (.var 15), .int .i64 (.var 16), .int .i64 (.var 17)])] ⟨18, 0, 0, 0, 0, 0, 0⟩ (Vc.envOf [x0, x1, x2, x3, x4, x5, x6, x7, x8, x9, x10, x11, x12, x13, x14, x15, x16, x17] [] [] []) (by kernel_rfl) (by kernel_rfl) (by kernel_rfl) h

theorem vc_safety_within (x0 x1 x2 : Int) (w : World) (v : Value) (h : 
  ((x1 ≤ x0) → (
  (.bool (decide (x0 ≤ x2)) : Value) = v)) ∧ (¬ (x1 ≤ x0) → (
  (.bool false : Value) = v))) : Calls Tryz.prog 55 #[.int .i64 x0, .int .i64 x1, .int .i64 x2] w (Vc.Ret v w) :=
  Vc.pure_of base [] 200 Tryz.func55 (b := (Tryz.f55.body).getD .skip) (by kernel_rfl) [.cv (.one (.int .i64 (.var 0))), .cv (.one (.int .i64 (.var 1))), .cv (.one (.int .i64 (.var 2)))] ⟨3, 0, 0, 0, 0, 0, 0⟩ (Vc.envOf [x0, x1, x2] [] [] []) (by kernel_rfl) (by kernel_rfl) (by kernel_rfl) h

theorem vc_safety_left (x0 x1 x2 x3 x4 x5 : Int) (w : World) (v : Value) (h : 
  ∀ x6 : Int, x6 = IntKind.i64.wrap (x2 - x0) →
  ∀ x7 : Int, x7 = IntKind.i64.wrap (x5 - x1) →
  ∀ x8 : Int, x8 = IntKind.i64.wrap (x6 * x7) →
  ∀ x9 : Int, x9 = IntKind.i64.wrap (x3 - x1) →
  ∀ x10 : Int, x10 = IntKind.i64.wrap (x4 - x0) →
  ∀ x11 : Int, x11 = IntKind.i64.wrap (x9 * x10) →
  ∀ x12 : Int, x12 = IntKind.i64.wrap (x8 - x11) →
  (.int .i64 x12 : Value) = v) : Calls Tryz.prog 75 #[.agg #[.int .i64 x0, .int .i64 x1], .agg #[.int .i64 x2, .int .i64 x3], .agg #[.int .i64 x4, .int .i64 x5]] w (Vc.Ret v w) :=
  Vc.pure_of base [] 200 Tryz.func75 (b := (Tryz.f75.body).getD .skip) (by kernel_rfl) [.cv (.agg [.int .i64 (.var 0), .int .i64 (.var 1)]), .cv (.agg [.int .i64 (.var 2), .int .i64 (.var 3)]), .cv (.agg [.int .i64 (.var 4), .int .i64 (.var 5)])] ⟨6, 0, 0, 0, 0, 0, 0⟩ (Vc.envOf [x0, x1, x2, x3, x4, x5] [] [] []) (by kernel_rfl) (by kernel_rfl) (by kernel_rfl) h

theorem vc_safety_size (x0 : Int) (w : World) (v : Value) (h : 
  ∀ x1 : Int, x1 = IntKind.i64.wrap (0 - x0) →
  ∀ x2 : Int, x2 = (if x1 > x0 then x1 else x0) →
  (.int .i64 x2 : Value) = v) : Calls Tryz.prog 106 #[.int .i64 x0] w (Vc.Ret v w) :=
  Vc.pure_of base [] 200 Tryz.func106 (b := (Tryz.f106.body).getD .skip) (by kernel_rfl) [.cv (.one (.int .i64 (.var 0)))] ⟨1, 0, 0, 0, 0, 0, 0⟩ (Vc.envOf [x0] [] [] []) (by kernel_rfl) (by kernel_rfl) (by kernel_rfl) h

theorem vc_safety_checkRect (x0 x1 x2 x3 : Int) (w : World) (v : Value) (h : 
  ∃ (b0 : Bool), (∀ w' : World, Below w.heap.size w w' → Calls Tryz.prog 55 #[.int .i64 x0, .int .i64 (-536870912), .int .i64 x2] w' (Vc.Ret (.bool b0) w')) ∧
  ((b0 = true) → (
  ((x2 ≤ 536870912) → (
  ∃ (b1 : Bool), (∀ w' : World, Below w.heap.size w w' → Calls Tryz.prog 55 #[.int .i64 x1, .int .i64 (-536870912), .int .i64 x3] w' (Vc.Ret (.bool b1) w')) ∧
  ((b1 = true) → (
  (.bool (decide (x3 ≤ 536870912)) : Value) = v)) ∧ (¬ (b1 = true) → (
  (.bool false : Value) = v)))) ∧ (¬ (x2 ≤ 536870912) → (
  (.bool false : Value) = v)))) ∧ (¬ (b0 = true) → (
  (.bool false : Value) = v))) : Calls Tryz.prog 34 #[.agg #[.int .i64 x0, .int .i64 x1, .int .i64 x2, .int .i64 x3]] w (Vc.Ret v w) :=
  Vc.pure_of base [] 200 Tryz.func34 (b := (Tryz.f34.body).getD .skip) (by kernel_rfl) [.cv (.agg [.int .i64 (.var 0), .int .i64 (.var 1), .int .i64 (.var 2), .int .i64 (.var 3)])] ⟨4, 0, 0, 0, 0, 0, 0⟩ (Vc.envOf [x0, x1, x2, x3] [] [] []) (by kernel_rfl) (by kernel_rfl) (by kernel_rfl) h

theorem vc_safety_grown (x0 x1 x2 x3 x4 : Int) (w : World) (v : Value) (h : 
  ∀ x5 : Int, x5 = IntKind.i64.wrap (x0 - x4) →
  ∀ x6 : Int, x6 = IntKind.i64.wrap (x1 - x4) →
  ∀ x7 : Int, x7 = IntKind.i64.wrap (x2 + x4) →
  ∀ x8 : Int, x8 = IntKind.i64.wrap (x3 + x4) →
  (.agg #[.int .i64 x5, .int .i64 x6, .int .i64 x7, .int .i64 x8] : Value) = v) : Calls Tryz.prog 53 #[.agg #[.int .i64 x0, .int .i64 x1, .int .i64 x2, .int .i64 x3], .int .i64 x4] w (Vc.Ret v w) :=
  Vc.pure_of base [] 200 Tryz.func53 (b := (Tryz.f53.body).getD .skip) (by kernel_rfl) [.cv (.agg [.int .i64 (.var 0), .int .i64 (.var 1), .int .i64 (.var 2), .int .i64 (.var 3)]), .cv (.one (.int .i64 (.var 4)))] ⟨5, 0, 0, 0, 0, 0, 0⟩ (Vc.envOf [x0, x1, x2, x3, x4] [] [] []) (by kernel_rfl) (by kernel_rfl) (by kernel_rfl) h

theorem vc_safety_CheckZone_3 (x0 x1 x2 x3 : Int) (w : World) (v : Value) (h : 
  ((x1 < x3) → (
  (.bool true : Value) = v)) ∧ (¬ (x1 < x3) → (
  ((x3 = x1) → (
  (.bool (decide (x2 > x0)) : Value) = v)) ∧ (¬ (x3 = x1) → (
  (.bool false : Value) = v))))) : Calls Tryz.prog 73 #[.agg #[.int .i64 x0, .int .i64 x1], .agg #[.int .i64 x2, .int .i64 x3]] w (Vc.Ret v w) :=
  Vc.pure_of base [] 200 Tryz.func73 (b := (Tryz.f73.body).getD .skip) (by kernel_rfl) [.cv (.agg [.int .i64 (.var 0), .int .i64 (.var 1)]), .cv (.agg [.int .i64 (.var 2), .int .i64 (.var 3)])] ⟨4, 0, 0, 0, 0, 0, 0⟩ (Vc.envOf [x0, x1, x2, x3] [] [] []) (by kernel_rfl) (by kernel_rfl) (by kernel_rfl) h

theorem vc_safety_CheckZone (p0 : Nat × Nat) (x0 x1 : Int) (b0 : Bool) (s0 : List UInt8) (w : World) (v : Value) (h : 
  ∀ x2 : Int, x2 = ((s0.length : Nat) : Int) →
  ((1 ≤ x2) → (
  ((x2 ≤ 32) → (
  (0 ≤ x0) ∧
  ((¬ (b0 = true)) ∨ (x0 = 0)) ∧
  ((3 ≤ x0) → (
  ((x0 ≤ 16) → (
  (0 ≤ x0) ∧
  ((¬ (b0 = true)) ∨ (x0 = 0)) ∧
  ∃ (Ix3 : List Vc.Vl → Prop) (mx3 : List Vc.Vl → Nat), Ix3 [.i 0, .i 0] ∧ ∀ (x3 : Int) (x4 : Int), Ix3 [.i x3, .i x4] → (
  ((x4 < x0) → (
  (¬ (b0 = true)) ∧
  (0 ≤ x4) ∧
  (x4 < x0) ∧
  ∃ (x5 : Int), w.cell? ⟨p0.1, p0.2 + (Int.toNat x4) * 2 + 0, none⟩ = some (.int .i64 x5) ∧
  ∃ (x6 : Int), w.cell? ⟨p0.1, p0.2 + (Int.toNat x4) * 2 + 1, none⟩ = some (.int .i64 x6) ∧
  (((-268435456) ≤ x5) → (
  ((x5 ≤ 268435456) → (
  (((-268435456) ≤ x6) → (
  ((x6 ≤ 268435456) → (
  ∀ x7 : Int, x7 = IntKind.i64.wrap (x4 + 1) →
  Ix3 [.i x3, .i x7] ∧ mx3 [.i x3, .i x7] < mx3 [.i x3, .i x4])) ∧ (¬ (x6 ≤ 268435456) → (
  ((0 ≤ x4) → (
  (.bool false : Value) = v)) ∧ (¬ (0 ≤ x4) → (
  (0 ≤ x0) ∧
  ((¬ (b0 = true)) ∨ (x0 = 0)) ∧
  ∀ x7 : Int, x7 = IntKind.i64.wrap (x0 - 1) →
  (¬ (b0 = true)) ∧
  (0 ≤ x7) ∧
  (x7 < x0) ∧
  ∃ (x8 : Int), w.cell? ⟨p0.1, p0.2 + (Int.toNat x7) * 2 + 0, none⟩ = some (.int .i64 x8) ∧
  ∃ (x9 : Int), w.cell? ⟨p0.1, p0.2 + (Int.toNat x7) * 2 + 1, none⟩ = some (.int .i64 x9) ∧
  (0 ≤ x0) ∧
  ((¬ (b0 = true)) ∨ (x0 = 0)) ∧
  ∃ (Ix10 : List Vc.Vl → Prop) (mx10 : List Vc.Vl → Nat), Ix10 [.i 0, .i x8, .i x9, .i 0] ∧ ∀ (x10 : Int) (x11 : Int) (x12 : Int) (x13 : Int), Ix10 [.i x10, .i x11, .i x12, .i x13] → (
  ((x10 < x0) → (
  (¬ (b0 = true)) ∧
  (0 ≤ x10) ∧
  (x10 < x0) ∧
  ∃ (x14 : Int), w.cell? ⟨p0.1, p0.2 + (Int.toNat x10) * 2 + 0, none⟩ = some (.int .i64 x14) ∧
  ∃ (x15 : Int), w.cell? ⟨p0.1, p0.2 + (Int.toNat x10) * 2 + 1, none⟩ = some (.int .i64 x15) ∧
  ∀ x16 : Int, x16 = IntKind.i64.wrap (x10 + 1) →
  (0 ≤ x0) ∧
  ((¬ (b0 = true)) ∨ (x0 = 0)) ∧
  (x0 ≠ 0) ∧
  ∀ x17 : Int, x17 = Int.tmod x16 x0 →
  (¬ (b0 = true)) ∧
  (0 ≤ x17) ∧
  (x17 < x0) ∧
  ∃ (x18 : Int), w.cell? ⟨p0.1, p0.2 + (Int.toNat x17) * 2 + 0, none⟩ = some (.int .i64 x18) ∧
  ∃ (x19 : Int), w.cell? ⟨p0.1, p0.2 + (Int.toNat x17) * 2 + 1, none⟩ = some (.int .i64 x19) ∧
  ∃ (x20 : Int), (∀ w' : World, Below w.heap.size w w' → Calls Tryz.prog 75 #[.agg #[.int .i64 x11, .int .i64 x12], .agg #[.int .i64 x14, .int .i64 x15], .agg #[.int .i64 x18, .int .i64 x19]] w' (Vc.Ret (.int .i64 x20) w')) ∧
  ((x20 ≤ 0) → (
  (.bool false : Value) = v)) ∧ (¬ (x20 ≤ 0) → (
  ∃ (b1 : Bool), (∀ w' : World, Below w.heap.size w w' → Calls Tryz.prog 73 #[.agg #[.int .i64 x11, .int .i64 x12], .agg #[.int .i64 x14, .int .i64 x15]] w' (Vc.Ret (.bool b1) w')) ∧
  ((x15 < x19) → (
  ((b1 = true) → (
  ∀ x21 : Int, x21 = IntKind.i64.wrap (x10 + 1) →
  Ix10 [.i x21, .i x14, .i x15, .i x13] ∧ mx10 [.i x21, .i x14, .i x15, .i x13] < mx10 [.i x10, .i x11, .i x12, .i x13])) ∧ (¬ (b1 = true) → (
  ∀ x21 : Int, x21 = IntKind.i64.wrap (x13 + 1) →
  ∀ x22 : Int, x22 = IntKind.i64.wrap (x10 + 1) →
  Ix10 [.i x22, .i x14, .i x15, .i x21] ∧ mx10 [.i x22, .i x14, .i x15, .i x21] < mx10 [.i x10, .i x11, .i x12, .i x13])))) ∧ (¬ (x15 < x19) → (
  ((x19 = x15) → (
  ((((b1 = true) ↔ (x14 < x18))) → (
  ∀ x21 : Int, x21 = IntKind.i64.wrap (x10 + 1) →
  Ix10 [.i x21, .i x14, .i x15, .i x13] ∧ mx10 [.i x21, .i x14, .i x15, .i x13] < mx10 [.i x10, .i x11, .i x12, .i x13])) ∧ (¬ (((b1 = true) ↔ (x14 < x18))) → (
  ∀ x21 : Int, x21 = IntKind.i64.wrap (x13 + 1) →
  ∀ x22 : Int, x22 = IntKind.i64.wrap (x10 + 1) →
  Ix10 [.i x22, .i x14, .i x15, .i x21] ∧ mx10 [.i x22, .i x14, .i x15, .i x21] < mx10 [.i x10, .i x11, .i x12, .i x13])))) ∧ (¬ (x19 = x15) → (
  ((b1 = true) → (
  ∀ x21 : Int, x21 = IntKind.i64.wrap (x13 + 1) →
  ∀ x22 : Int, x22 = IntKind.i64.wrap (x10 + 1) →
  Ix10 [.i x22, .i x14, .i x15, .i x21] ∧ mx10 [.i x22, .i x14, .i x15, .i x21] < mx10 [.i x10, .i x11, .i x12, .i x13])) ∧ (¬ (b1 = true) → (
  ∀ x21 : Int, x21 = IntKind.i64.wrap (x10 + 1) →
  Ix10 [.i x21, .i x14, .i x15, .i x13] ∧ mx10 [.i x21, .i x14, .i x15, .i x13] < mx10 [.i x10, .i x11, .i x12, .i x13])))))))))) ∧ (¬ (x10 < x0) → (
  (.bool (x13 == 2) : Value) = v))))))))) ∧ (¬ ((-268435456) ≤ x6) → (
  ((0 ≤ x4) → (
  (.bool false : Value) = v)) ∧ (¬ (0 ≤ x4) → (
  (0 ≤ x0) ∧
  ((¬ (b0 = true)) ∨ (x0 = 0)) ∧
  ∀ x7 : Int, x7 = IntKind.i64.wrap (x0 - 1) →
  (¬ (b0 = true)) ∧
  (0 ≤ x7) ∧
  (x7 < x0) ∧
  ∃ (x8 : Int), w.cell? ⟨p0.1, p0.2 + (Int.toNat x7) * 2 + 0, none⟩ = some (.int .i64 x8) ∧
  ∃ (x9 : Int), w.cell? ⟨p0.1, p0.2 + (Int.toNat x7) * 2 + 1, none⟩ = some (.int .i64 x9) ∧
  (0 ≤ x0) ∧
  ((¬ (b0 = true)) ∨ (x0 = 0)) ∧
  ∃ (Ix10 : List Vc.Vl → Prop) (mx10 : List Vc.Vl → Nat), Ix10 [.i 0, .i x8, .i x9, .i 0] ∧ ∀ (x10 : Int) (x11 : Int) (x12 : Int) (x13 : Int), Ix10 [.i x10, .i x11, .i x12, .i x13] → (
  ((x10 < x0) → (
  (¬ (b0 = true)) ∧
  (0 ≤ x10) ∧
  (x10 < x0) ∧
  ∃ (x14 : Int), w.cell? ⟨p0.1, p0.2 + (Int.toNat x10) * 2 + 0, none⟩ = some (.int .i64 x14) ∧
  ∃ (x15 : Int), w.cell? ⟨p0.1, p0.2 + (Int.toNat x10) * 2 + 1, none⟩ = some (.int .i64 x15) ∧
  ∀ x16 : Int, x16 = IntKind.i64.wrap (x10 + 1) →
  (0 ≤ x0) ∧
  ((¬ (b0 = true)) ∨ (x0 = 0)) ∧
  (x0 ≠ 0) ∧
  ∀ x17 : Int, x17 = Int.tmod x16 x0 →
  (¬ (b0 = true)) ∧
  (0 ≤ x17) ∧
  (x17 < x0) ∧
  ∃ (x18 : Int), w.cell? ⟨p0.1, p0.2 + (Int.toNat x17) * 2 + 0, none⟩ = some (.int .i64 x18) ∧
  ∃ (x19 : Int), w.cell? ⟨p0.1, p0.2 + (Int.toNat x17) * 2 + 1, none⟩ = some (.int .i64 x19) ∧
  ∃ (x20 : Int), (∀ w' : World, Below w.heap.size w w' → Calls Tryz.prog 75 #[.agg #[.int .i64 x11, .int .i64 x12], .agg #[.int .i64 x14, .int .i64 x15], .agg #[.int .i64 x18, .int .i64 x19]] w' (Vc.Ret (.int .i64 x20) w')) ∧
  ((x20 ≤ 0) → (
  (.bool false : Value) = v)) ∧ (¬ (x20 ≤ 0) → (
  ∃ (b1 : Bool), (∀ w' : World, Below w.heap.size w w' → Calls Tryz.prog 73 #[.agg #[.int .i64 x11, .int .i64 x12], .agg #[.int .i64 x14, .int .i64 x15]] w' (Vc.Ret (.bool b1) w')) ∧
  ((x15 < x19) → (
  ((b1 = true) → (
  ∀ x21 : Int, x21 = IntKind.i64.wrap (x10 + 1) →
  Ix10 [.i x21, .i x14, .i x15, .i x13] ∧ mx10 [.i x21, .i x14, .i x15, .i x13] < mx10 [.i x10, .i x11, .i x12, .i x13])) ∧ (¬ (b1 = true) → (
  ∀ x21 : Int, x21 = IntKind.i64.wrap (x13 + 1) →
  ∀ x22 : Int, x22 = IntKind.i64.wrap (x10 + 1) →
  Ix10 [.i x22, .i x14, .i x15, .i x21] ∧ mx10 [.i x22, .i x14, .i x15, .i x21] < mx10 [.i x10, .i x11, .i x12, .i x13])))) ∧ (¬ (x15 < x19) → (
  ((x19 = x15) → (
  ((((b1 = true) ↔ (x14 < x18))) → (
  ∀ x21 : Int, x21 = IntKind.i64.wrap (x10 + 1) →
  Ix10 [.i x21, .i x14, .i x15, .i x13] ∧ mx10 [.i x21, .i x14, .i x15, .i x13] < mx10 [.i x10, .i x11, .i x12, .i x13])) ∧ (¬ (((b1 = true) ↔ (x14 < x18))) → (
  ∀ x21 : Int, x21 = IntKind.i64.wrap (x13 + 1) →
  ∀ x22 : Int, x22 = IntKind.i64.wrap (x10 + 1) →
  Ix10 [.i x22, .i x14, .i x15, .i x21] ∧ mx10 [.i x22, .i x14, .i x15, .i x21] < mx10 [.i x10, .i x11, .i x12, .i x13])))) ∧ (¬ (x19 = x15) → (
  ((b1 = true) → (
  ∀ x21 : Int, x21 = IntKind.i64.wrap (x13 + 1) →
  ∀ x22 : Int, x22 = IntKind.i64.wrap (x10 + 1) →
  Ix10 [.i x22, .i x14, .i x15, .i x21] ∧ mx10 [.i x22, .i x14, .i x15, .i x21] < mx10 [.i x10, .i x11, .i x12, .i x13])) ∧ (¬ (b1 = true) → (
  ∀ x21 : Int, x21 = IntKind.i64.wrap (x10 + 1) →
  Ix10 [.i x21, .i x14, .i x15, .i x13] ∧ mx10 [.i x21, .i x14, .i x15, .i x13] < mx10 [.i x10, .i x11, .i x12, .i x13])))))))))) ∧ (¬ (x10 < x0) → (
  (.bool (x13 == 2) : Value) = v))))))))) ∧ (¬ (x5 ≤ 268435456) → (
  ((0 ≤ x4) → (
  (.bool false : Value) = v)) ∧ (¬ (0 ≤ x4) → (
  (0 ≤ x0) ∧
  ((¬ (b0 = true)) ∨ (x0 = 0)) ∧
  ∀ x7 : Int, x7 = IntKind.i64.wrap (x0 - 1) →
  (¬ (b0 = true)) ∧
  (0 ≤ x7) ∧
  (x7 < x0) ∧
  ∃ (x8 : Int), w.cell? ⟨p0.1, p0.2 + (Int.toNat x7) * 2 + 0, none⟩ = some (.int .i64 x8) ∧
  ∃ (x9 : Int), w.cell? ⟨p0.1, p0.2 + (Int.toNat x7) * 2 + 1, none⟩ = some (.int .i64 x9) ∧
  (0 ≤ x0) ∧
  ((¬ (b0 = true)) ∨ (x0 = 0)) ∧
  ∃ (Ix10 : List Vc.Vl → Prop) (mx10 : List Vc.Vl → Nat), Ix10 [.i 0, .i x8, .i x9, .i 0] ∧ ∀ (x10 : Int) (x11 : Int) (x12 : Int) (x13 : Int), Ix10 [.i x10, .i x11, .i x12, .i x13] → (
  ((x10 < x0) → (
  (¬ (b0 = true)) ∧
  (0 ≤ x10) ∧
  (x10 < x0) ∧
  ∃ (x14 : Int), w.cell? ⟨p0.1, p0.2 + (Int.toNat x10) * 2 + 0, none⟩ = some (.int .i64 x14) ∧
  ∃ (x15 : Int), w.cell? ⟨p0.1, p0.2 + (Int.toNat x10) * 2 + 1, none⟩ = some (.int .i64 x15) ∧
  ∀ x16 : Int, x16 = IntKind.i64.wrap (x10 + 1) →
  (0 ≤ x0) ∧
  ((¬ (b0 = true)) ∨ (x0 = 0)) ∧
  (x0 ≠ 0) ∧
  ∀ x17 : Int, x17 = Int.tmod x16 x0 →
  (¬ (b0 = true)) ∧
  (0 ≤ x17) ∧
  (x17 < x0) ∧
  ∃ (x18 : Int), w.cell? ⟨p0.1, p0.2 + (Int.toNat x17) * 2 + 0, none⟩ = some (.int .i64 x18) ∧
  ∃ (x19 : Int), w.cell? ⟨p0.1, p0.2 + (Int.toNat x17) * 2 + 1, none⟩ = some (.int .i64 x19) ∧
  ∃ (x20 : Int), (∀ w' : World, Below w.heap.size w w' → Calls Tryz.prog 75 #[.agg #[.int .i64 x11, .int .i64 x12], .agg #[.int .i64 x14, .int .i64 x15], .agg #[.int .i64 x18, .int .i64 x19]] w' (Vc.Ret (.int .i64 x20) w')) ∧
  ((x20 ≤ 0) → (
  (.bool false : Value) = v)) ∧ (¬ (x20 ≤ 0) → (
  ∃ (b1 : Bool), (∀ w' : World, Below w.heap.size w w' → Calls Tryz.prog 73 #[.agg #[.int .i64 x11, .int .i64 x12], .agg #[.int .i64 x14, .int .i64 x15]] w' (Vc.Ret (.bool b1) w')) ∧
  ((x15 < x19) → (
  ((b1 = true) → (
  ∀ x21 : Int, x21 = IntKind.i64.wrap (x10 + 1) →
  Ix10 [.i x21, .i x14, .i x15, .i x13] ∧ mx10 [.i x21, .i x14, .i x15, .i x13] < mx10 [.i x10, .i x11, .i x12, .i x13])) ∧ (¬ (b1 = true) → (
  ∀ x21 : Int, x21 = IntKind.i64.wrap (x13 + 1) →
  ∀ x22 : Int, x22 = IntKind.i64.wrap (x10 + 1) →
  Ix10 [.i x22, .i x14, .i x15, .i x21] ∧ mx10 [.i x22, .i x14, .i x15, .i x21] < mx10 [.i x10, .i x11, .i x12, .i x13])))) ∧ (¬ (x15 < x19) → (
  ((x19 = x15) → (
  ((((b1 = true) ↔ (x14 < x18))) → (
  ∀ x21 : Int, x21 = IntKind.i64.wrap (x10 + 1) →
  Ix10 [.i x21, .i x14, .i x15, .i x13] ∧ mx10 [.i x21, .i x14, .i x15, .i x13] < mx10 [.i x10, .i x11, .i x12, .i x13])) ∧ (¬ (((b1 = true) ↔ (x14 < x18))) → (
  ∀ x21 : Int, x21 = IntKind.i64.wrap (x13 + 1) →
  ∀ x22 : Int, x22 = IntKind.i64.wrap (x10 + 1) →
  Ix10 [.i x22, .i x14, .i x15, .i x21] ∧ mx10 [.i x22, .i x14, .i x15, .i x21] < mx10 [.i x10, .i x11, .i x12, .i x13])))) ∧ (¬ (x19 = x15) → (
  ((b1 = true) → (
  ∀ x21 : Int, x21 = IntKind.i64.wrap (x13 + 1) →
  ∀ x22 : Int, x22 = IntKind.i64.wrap (x10 + 1) →
  Ix10 [.i x22, .i x14, .i x15, .i x21] ∧ mx10 [.i x22, .i x14, .i x15, .i x21] < mx10 [.i x10, .i x11, .i x12, .i x13])) ∧ (¬ (b1 = true) → (
  ∀ x21 : Int, x21 = IntKind.i64.wrap (x10 + 1) →
  Ix10 [.i x21, .i x14, .i x15, .i x13] ∧ mx10 [.i x21, .i x14, .i x15, .i x13] < mx10 [.i x10, .i x11, .i x12, .i x13])))))))))) ∧ (¬ (x10 < x0) → (
  (.bool (x13 == 2) : Value) = v))))))))) ∧ (¬ ((-268435456) ≤ x5) → (
  ((0 ≤ x4) → (
  (.bool false : Value) = v)) ∧ (¬ (0 ≤ x4) → (
  (0 ≤ x0) ∧
  ((¬ (b0 = true)) ∨ (x0 = 0)) ∧
  ∀ x7 : Int, x7 = IntKind.i64.wrap (x0 - 1) →
  (¬ (b0 = true)) ∧
  (0 ≤ x7) ∧
  (x7 < x0) ∧
  ∃ (x8 : Int), w.cell? ⟨p0.1, p0.2 + (Int.toNat x7) * 2 + 0, none⟩ = some (.int .i64 x8) ∧
  ∃ (x9 : Int), w.cell? ⟨p0.1, p0.2 + (Int.toNat x7) * 2 + 1, none⟩ = some (.int .i64 x9) ∧
  (0 ≤ x0) ∧
  ((¬ (b0 = true)) ∨ (x0 = 0)) ∧
  ∃ (Ix10 : List Vc.Vl → Prop) (mx10 : List Vc.Vl → Nat), Ix10 [.i 0, .i x8, .i x9, .i 0] ∧ ∀ (x10 : Int) (x11 : Int) (x12 : Int) (x13 : Int), Ix10 [.i x10, .i x11, .i x12, .i x13] → (
  ((x10 < x0) → (
  (¬ (b0 = true)) ∧
  (0 ≤ x10) ∧
  (x10 < x0) ∧
  ∃ (x14 : Int), w.cell? ⟨p0.1, p0.2 + (Int.toNat x10) * 2 + 0, none⟩ = some (.int .i64 x14) ∧
  ∃ (x15 : Int), w.cell? ⟨p0.1, p0.2 + (Int.toNat x10) * 2 + 1, none⟩ = some (.int .i64 x15) ∧
  ∀ x16 : Int, x16 = IntKind.i64.wrap (x10 + 1) →
  (0 ≤ x0) ∧
  ((¬ (b0 = true)) ∨ (x0 = 0)) ∧
  (x0 ≠ 0) ∧
  ∀ x17 : Int, x17 = Int.tmod x16 x0 →
  (¬ (b0 = true)) ∧
  (0 ≤ x17) ∧
  (x17 < x0) ∧
  ∃ (x18 : Int), w.cell? ⟨p0.1, p0.2 + (Int.toNat x17) * 2 + 0, none⟩ = some (.int .i64 x18) ∧
  ∃ (x19 : Int), w.cell? ⟨p0.1, p0.2 + (Int.toNat x17) * 2 + 1, none⟩ = some (.int .i64 x19) ∧
  ∃ (x20 : Int), (∀ w' : World, Below w.heap.size w w' → Calls Tryz.prog 75 #[.agg #[.int .i64 x11, .int .i64 x12], .agg #[.int .i64 x14, .int .i64 x15], .agg #[.int .i64 x18, .int .i64 x19]] w' (Vc.Ret (.int .i64 x20) w')) ∧
  ((x20 ≤ 0) → (
  (.bool false : Value) = v)) ∧ (¬ (x20 ≤ 0) → (
  ∃ (b1 : Bool), (∀ w' : World, Below w.heap.size w w' → Calls Tryz.prog 73 #[.agg #[.int .i64 x11, .int .i64 x12], .agg #[.int .i64 x14, .int .i64 x15]] w' (Vc.Ret (.bool b1) w')) ∧
  ((x15 < x19) → (
  ((b1 = true) → (
  ∀ x21 : Int, x21 = IntKind.i64.wrap (x10 + 1) →
  Ix10 [.i x21, .i x14, .i x15, .i x13] ∧ mx10 [.i x21, .i x14, .i x15, .i x13] < mx10 [.i x10, .i x11, .i x12, .i x13])) ∧ (¬ (b1 = true) → (
  ∀ x21 : Int, x21 = IntKind.i64.wrap (x13 + 1) →
  ∀ x22 : Int, x22 = IntKind.i64.wrap (x10 + 1) →
  Ix10 [.i x22, .i x14, .i x15, .i x21] ∧ mx10 [.i x22, .i x14, .i x15, .i x21] < mx10 [.i x10, .i x11, .i x12, .i x13])))) ∧ (¬ (x15 < x19) → (
  ((x19 = x15) → (
  ((((b1 = true) ↔ (x14 < x18))) → (
  ∀ x21 : Int, x21 = IntKind.i64.wrap (x10 + 1) →
  Ix10 [.i x21, .i x14, .i x15, .i x13] ∧ mx10 [.i x21, .i x14, .i x15, .i x13] < mx10 [.i x10, .i x11, .i x12, .i x13])) ∧ (¬ (((b1 = true) ↔ (x14 < x18))) → (
  ∀ x21 : Int, x21 = IntKind.i64.wrap (x13 + 1) →
  ∀ x22 : Int, x22 = IntKind.i64.wrap (x10 + 1) →
  Ix10 [.i x22, .i x14, .i x15, .i x21] ∧ mx10 [.i x22, .i x14, .i x15, .i x21] < mx10 [.i x10, .i x11, .i x12, .i x13])))) ∧ (¬ (x19 = x15) → (
  ((b1 = true) → (
  ∀ x21 : Int, x21 = IntKind.i64.wrap (x13 + 1) →
  ∀ x22 : Int, x22 = IntKind.i64.wrap (x10 + 1) →
  Ix10 [.i x22, .i x14, .i x15, .i x21] ∧ mx10 [.i x22, .i x14, .i x15, .i x21] < mx10 [.i x10, .i x11, .i x12, .i x13])) ∧ (¬ (b1 = true) → (
  ∀ x21 : Int, x21 = IntKind.i64.wrap (x10 + 1) →
  Ix10 [.i x21, .i x14, .i x15, .i x13] ∧ mx10 [.i x21, .i x14, .i x15, .i x13] < mx10 [.i x10, .i x11, .i x12, .i x13])))))))))) ∧ (¬ (x10 < x0) → (
  (.bool (x13 == 2) : Value) = v))))))))) ∧ (¬ (x4 < x0) → (
  (0 ≤ x0) ∧
  ((¬ (b0 = true)) ∨ (x0 = 0)) ∧
  ∀ x5 : Int, x5 = IntKind.i64.wrap (x0 - 1) →
  (¬ (b0 = true)) ∧
  (0 ≤ x5) ∧
  (x5 < x0) ∧
  ∃ (x6 : Int), w.cell? ⟨p0.1, p0.2 + (Int.toNat x5) * 2 + 0, none⟩ = some (.int .i64 x6) ∧
  ∃ (x7 : Int), w.cell? ⟨p0.1, p0.2 + (Int.toNat x5) * 2 + 1, none⟩ = some (.int .i64 x7) ∧
  (0 ≤ x0) ∧
  ((¬ (b0 = true)) ∨ (x0 = 0)) ∧
  ∃ (Ix8 : List Vc.Vl → Prop) (mx8 : List Vc.Vl → Nat), Ix8 [.i 0, .i x6, .i x7, .i 0] ∧ ∀ (x8 : Int) (x9 : Int) (x10 : Int) (x11 : Int), Ix8 [.i x8, .i x9, .i x10, .i x11] → (
  ((x8 < x0) → (
  (¬ (b0 = true)) ∧
  (0 ≤ x8) ∧
  (x8 < x0) ∧
  ∃ (x12 : Int), w.cell? ⟨p0.1, p0.2 + (Int.toNat x8) * 2 + 0, none⟩ = some (.int .i64 x12) ∧
  ∃ (x13 : Int), w.cell? ⟨p0.1, p0.2 + (Int.toNat x8) * 2 + 1, none⟩ = some (.int .i64 x13) ∧
  ∀ x14 : Int, x14 = IntKind.i64.wrap (x8 + 1) →
  (0 ≤ x0) ∧
  ((¬ (b0 = true)) ∨ (x0 = 0)) ∧
  (x0 ≠ 0) ∧
  ∀ x15 : Int, x15 = Int.tmod x14 x0 →
  (¬ (b0 = true)) ∧
  (0 ≤ x15) ∧
  (x15 < x0) ∧
  ∃ (x16 : Int), w.cell? ⟨p0.1, p0.2 + (Int.toNat x15) * 2 + 0, none⟩ = some (.int .i64 x16) ∧
  ∃ (x17 : Int), w.cell? ⟨p0.1, p0.2 + (Int.toNat x15) * 2 + 1, none⟩ = some (.int .i64 x17) ∧
  ∃ (x18 : Int), (∀ w' : World, Below w.heap.size w w' → Calls Tryz.prog 75 #[.agg #[.int .i64 x9, .int .i64 x10], .agg #[.int .i64 x12, .int .i64 x13], .agg #[.int .i64 x16, .int .i64 x17]] w' (Vc.Ret (.int .i64 x18) w')) ∧
  ((x18 ≤ 0) → (
  (.bool false : Value) = v)) ∧ (¬ (x18 ≤ 0) → (
  ∃ (b1 : Bool), (∀ w' : World, Below w.heap.size w w' → Calls Tryz.prog 73 #[.agg #[.int .i64 x9, .int .i64 x10], .agg #[.int .i64 x12, .int .i64 x13]] w' (Vc.Ret (.bool b1) w')) ∧
  ((x13 < x17) → (
  ((b1 = true) → (
  ∀ x19 : Int, x19 = IntKind.i64.wrap (x8 + 1) →
  Ix8 [.i x19, .i x12, .i x13, .i x11] ∧ mx8 [.i x19, .i x12, .i x13, .i x11] < mx8 [.i x8, .i x9, .i x10, .i x11])) ∧ (¬ (b1 = true) → (
  ∀ x19 : Int, x19 = IntKind.i64.wrap (x11 + 1) →
  ∀ x20 : Int, x20 = IntKind.i64.wrap (x8 + 1) →
  Ix8 [.i x20, .i x12, .i x13, .i x19] ∧ mx8 [.i x20, .i x12, .i x13, .i x19] < mx8 [.i x8, .i x9, .i x10, .i x11])))) ∧ (¬ (x13 < x17) → (
  ((x17 = x13) → (
  ((((b1 = true) ↔ (x12 < x16))) → (
  ∀ x19 : Int, x19 = IntKind.i64.wrap (x8 + 1) →
  Ix8 [.i x19, .i x12, .i x13, .i x11] ∧ mx8 [.i x19, .i x12, .i x13, .i x11] < mx8 [.i x8, .i x9, .i x10, .i x11])) ∧ (¬ (((b1 = true) ↔ (x12 < x16))) → (
  ∀ x19 : Int, x19 = IntKind.i64.wrap (x11 + 1) →
  ∀ x20 : Int, x20 = IntKind.i64.wrap (x8 + 1) →
  Ix8 [.i x20, .i x12, .i x13, .i x19] ∧ mx8 [.i x20, .i x12, .i x13, .i x19] < mx8 [.i x8, .i x9, .i x10, .i x11])))) ∧ (¬ (x17 = x13) → (
  ((b1 = true) → (
  ∀ x19 : Int, x19 = IntKind.i64.wrap (x11 + 1) →
  ∀ x20 : Int, x20 = IntKind.i64.wrap (x8 + 1) →
  Ix8 [.i x20, .i x12, .i x13, .i x19] ∧ mx8 [.i x20, .i x12, .i x13, .i x19] < mx8 [.i x8, .i x9, .i x10, .i x11])) ∧ (¬ (b1 = true) → (
  ∀ x19 : Int, x19 = IntKind.i64.wrap (x8 + 1) →
  Ix8 [.i x19, .i x12, .i x13, .i x11] ∧ mx8 [.i x19, .i x12, .i x13, .i x11] < mx8 [.i x8, .i x9, .i x10, .i x11])))))))))) ∧ (¬ (x8 < x0) → (
  (.bool (x11 == 2) : Value) = v)))))))) ∧ (¬ (x0 ≤ 16) → (
  (.bool false : Value) = v)))) ∧ (¬ (3 ≤ x0) → (
  (.bool false : Value) = v)))) ∧ (¬ (x2 ≤ 32) → (
  (.bool false : Value) = v)))) ∧ (¬ (1 ≤ x2) → (
  (.bool false : Value) = v))) : Calls Tryz.prog 33 #[.agg #[.string ⟨s0.toArray⟩, (if b0 = true then .slice none 0 0 else .slice (some ⟨p0.1, p0.2, none⟩) (Int.toNat x0) (Int.toNat x1) : Value)]] w (Vc.Ret v w) :=
  Vc.pure_of (base_inl [71, 113, 72, 70, 55, 74, 114, 73] (by kernel_rfl)) [(2, .inv [] [4, 8] [9, 10, 5, 11, 12, 13, 14, 15, 16, 17, 18]), (1, .inva [[(4, 0), (4, 1), (5, 0)], [(5, 0), (5, 1), (6, 0)]] [] [7] [8, 9, 10, 11, 4, 3, 12, 13, 14, 15, 16, 17, 18, 19, 20, 21, 22, 23, 24])] 200 Tryz.func33 (b := (Tryz.f33.body).getD .skip) (by kernel_rfl) [.cv (.agg [.sv 0, .qsl 0 0 2 (.var 0) (.var 1)])] ⟨2, 1, 0, 1, 0, 1, 0⟩ (Vc.envOf [x0, x1] [b0] [] [p0] [s0]) (by kernel_rfl) (by kernel_rfl) (by kernel_rfl) h

theorem vc_safety_contains (p0 : Nat × Nat) (x0 x1 x2 x3 : Int) (b0 : Bool) (s0 : List UInt8) (w : World) (v : Value) (h : 
  (0 ≤ x0) ∧
  ((¬ (b0 = true)) ∨ (x0 = 0)) ∧
  ∃ (Ix4 : List Vc.Vl → Prop) (mx4 : List Vc.Vl → Nat), Ix4 [.i 0] ∧ ∀ (x4 : Int), Ix4 [.i x4] → (
  ((x4 < x0) → (
  (¬ (b0 = true)) ∧
  (0 ≤ x4) ∧
  (x4 < x0) ∧
  ∃ (x5 : Int), w.cell? ⟨p0.1, p0.2 + (Int.toNat x4) * 2 + 0, none⟩ = some (.int .i64 x5) ∧
  ∃ (x6 : Int), w.cell? ⟨p0.1, p0.2 + (Int.toNat x4) * 2 + 1, none⟩ = some (.int .i64 x6) ∧
  ∀ x7 : Int, x7 = IntKind.i64.wrap (x4 + 1) →
  (0 ≤ x0) ∧
  ((¬ (b0 = true)) ∨ (x0 = 0)) ∧
  (x0 ≠ 0) ∧
  ∀ x8 : Int, x8 = Int.tmod x7 x0 →
  (¬ (b0 = true)) ∧
  (0 ≤ x8) ∧
  (x8 < x0) ∧
  ∃ (x9 : Int), w.cell? ⟨p0.1, p0.2 + (Int.toNat x8) * 2 + 0, none⟩ = some (.int .i64 x9) ∧
  ∃ (x10 : Int), w.cell? ⟨p0.1, p0.2 + (Int.toNat x8) * 2 + 1, none⟩ = some (.int .i64 x10) ∧
  ∃ (x11 : Int), (∀ w' : World, Below w.heap.size w w' → Calls Tryz.prog 75 #[.agg #[.int .i64 x5, .int .i64 x6], .agg #[.int .i64 x9, .int .i64 x10], .agg #[.int .i64 x2, .int .i64 x3]] w' (Vc.Ret (.int .i64 x11) w')) ∧
  ((x11 < 0) → (
  (.bool false : Value) = v)) ∧ (¬ (x11 < 0) → (
  ∀ x12 : Int, x12 = IntKind.i64.wrap (x4 + 1) →
  Ix4 [.i x12] ∧ mx4 [.i x12] < mx4 [.i x4])))) ∧ (¬ (x4 < x0) → (
  (.bool true : Value) = v)))) : Calls Tryz.prog 78 #[.agg #[.string ⟨s0.toArray⟩, (if b0 = true then .slice none 0 0 else .slice (some ⟨p0.1, p0.2, none⟩) (Int.toNat x0) (Int.toNat x1) : Value)], .agg #[.int .i64 x2, .int .i64 x3]] w (Vc.Ret v w) :=
  Vc.pure_of (base_inl [74, 114] (by kernel_rfl)) [(1, .inv [] [7] [8, 9, 10, 11, 4, 3, 12, 13, 14, 15, 16, 17, 18, 19, 20, 21, 22, 23, 24])] 200 Tryz.func78 (b := (Tryz.f78.body).getD .skip) (by kernel_rfl) [.cv (.agg [.sv 0, .qsl 0 0 2 (.var 0) (.var 1)]), .cv (.agg [.int .i64 (.var 2), .int .i64 (.var 3)])] ⟨4, 1, 0, 1, 0, 1, 0⟩ (Vc.envOf [x0, x1, x2, x3] [b0] [] [p0] [s0]) (by kernel_rfl) (by kernel_rfl) (by kernel_rfl) h

theorem vc_safety_CheckPlan (p0 p1 p2 : Nat × Nat) (x0 x1 x2 x3 x4 x5 x6 x7 x8 x9 : Int) (b0 b1 b2 : Bool) (s0 : List UInt8) (w : World) (v : Value) (h : 
  ∃ (b3 : Bool), (∀ w' : World, Below w.heap.size w w' → Calls Tryz.prog 33 #[.agg #[.string ⟨s0.toArray⟩, (if b0 = true then .slice none 0 0 else .slice (some ⟨p0.1, p0.2, none⟩) (Int.toNat x0) (Int.toNat x1) : Value)]] w' (Vc.Ret (.bool b3) w')) ∧
  ((b3 = true) → (
  (0 ≤ x2) ∧
  ((¬ (b1 = true)) ∨ (x2 = 0)) ∧
  ((16 < x2) → (
  (.bool false : Value) = v)) ∧ (¬ (16 < x2) → (
  (0 ≤ x4) ∧
  ((¬ (b2 = true)) ∨ (x4 = 0)) ∧
  ((16 < x4) → (
  (.bool false : Value) = v)) ∧ (¬ (16 < x4) → (
  (0 ≤ x2) ∧
  ((¬ (b1 = true)) ∨ (x2 = 0)) ∧
  ∃ (Ix10 : List Vc.Vl → Prop) (mx10 : List Vc.Vl → Nat), Ix10 [.i 0, .i 0] ∧ ∀ (x10 : Int) (x11 : Int), Ix10 [.i x10, .i x11] → (
  ((x11 < x2) → (
  (¬ (b1 = true)) ∧
  (0 ≤ x11) ∧
  (x11 < x2) ∧
  ∃ (s1 : List UInt8), w.cell? ⟨p1.1, p1.2 + (Int.toNat x11) * 2 + 0, none⟩ = some (.string ⟨s1.toArray⟩) ∧
  ∃ (b4 : Bool) (p3 : Nat × Nat) (x12 x13 : Int), w.cell? ⟨p1.1, p1.2 + (Int.toNat x11) * 2 + 1, none⟩ = some ((if b4 = true then .slice none 0 0 else .slice (some ⟨p3.1, p3.2, none⟩) (Int.toNat x12) (Int.toNat x13) : Value)) ∧
  ∃ (b5 : Bool), (∀ w' : World, Below w.heap.size w w' → Calls Tryz.prog 33 #[.agg #[.string ⟨s1.toArray⟩, (if b4 = true then .slice none 0 0 else .slice (some ⟨p3.1, p3.2, none⟩) (Int.toNat x12) (Int.toNat x13) : Value)]] w' (Vc.Ret (.bool b5) w')) ∧
  ((b5 = true) → (
  ∀ x14 : Int, x14 = IntKind.i64.wrap (x11 + 1) →
  Ix10 [.i x10, .i x14] ∧ mx10 [.i x10, .i x14] < mx10 [.i x10, .i x11])) ∧ (¬ (b5 = true) → (
  ((0 ≤ x11) → (
  (.bool false : Value) = v)) ∧ (¬ (0 ≤ x11) → (
  (0 ≤ x4) ∧
  ((¬ (b2 = true)) ∨ (x4 = 0)) ∧
  ∃ (Ix14 : List Vc.Vl → Prop) (mx14 : List Vc.Vl → Nat), Ix14 [.i 0, .i 0] ∧ ∀ (x14 : Int) (x15 : Int), Ix14 [.i x14, .i x15] → (
  ((x15 < x4) → (
  (¬ (b2 = true)) ∧
  (0 ≤ x15) ∧
  (x15 < x4) ∧
  ∃ (s2 : List UInt8), w.cell? ⟨p2.1, p2.2 + (Int.toNat x15) * 4 + 0, none⟩ = some (.string ⟨s2.toArray⟩) ∧
  ∃ (b6 : Bool) (p4 : Nat × Nat) (x16 x17 : Int), w.cell? ⟨p2.1, p2.2 + (Int.toNat x15) * 4 + 1, none⟩ = some ((if b6 = true then .slice none 0 0 else .slice (some ⟨p4.1, p4.2, none⟩) (Int.toNat x16) (Int.toNat x17) : Value)) ∧
  ∃ (x18 : Int), w.cell? ⟨p2.1, p2.2 + (Int.toNat x15) * 4 + 2, none⟩ = some (.int .i64 x18) ∧
  ∃ (x19 : Int), w.cell? ⟨p2.1, p2.2 + (Int.toNat x15) * 4 + 3, none⟩ = some (.int .i64 x19) ∧
  ∃ (b7 : Bool), (∀ w' : World, Below w.heap.size w w' → Calls Tryz.prog 33 #[.agg #[.string ⟨s2.toArray⟩, (if b6 = true then .slice none 0 0 else .slice (some ⟨p4.1, p4.2, none⟩) (Int.toNat x16) (Int.toNat x17) : Value)]] w' (Vc.Ret (.bool b7) w')) ∧
  ((b7 = true) → (
  ∃ (b8 : Bool), (∀ w' : World, Below w.heap.size w w' → Calls Tryz.prog 55 #[.int .i64 x18, .int .i64 0, .int .i64 1073741824] w' (Vc.Ret (.bool b8) w')) ∧
  ((b8 = true) → (
  ∃ (b9 : Bool), (∀ w' : World, Below w.heap.size w w' → Calls Tryz.prog 55 #[.int .i64 x19, .int .i64 1, .int .i64 1073741824] w' (Vc.Ret (.bool b9) w')) ∧
  ((b9 = true) → (
  ∀ x20 : Int, x20 = IntKind.i64.wrap (x15 + 1) →
  Ix14 [.i x14, .i x20] ∧ mx14 [.i x14, .i x20] < mx14 [.i x14, .i x15])) ∧ (¬ (b9 = true) → (
  ((0 ≤ x15) → (
  (.bool false : Value) = v)) ∧ (¬ (0 ≤ x15) → (
  ∃ (b10 : Bool), (∀ w' : World, Below w.heap.size w w' → Calls Tryz.prog 55 #[.int .i64 x6, .int .i64 0, .int .i64 268435456] w' (Vc.Ret (.bool b10) w')) ∧
  ((b10 = true) → (
  ∃ (b11 : Bool), (∀ w' : World, Below w.heap.size w w' → Calls Tryz.prog 55 #[.int .i64 x8, .int .i64 0, .int .i64 268435456] w' (Vc.Ret (.bool b11) w')) ∧
  ((b11 = true) → (
  ∃ (b12 : Bool), (∀ w' : World, Below w.heap.size w w' → Calls Tryz.prog 55 #[.int .i64 x9, .int .i64 0, .int .i64 268435456] w' (Vc.Ret (.bool b12) w')) ∧
  ((b12 = true) → (
  ∃ (b13 : Bool), (∀ w' : World, Below w.heap.size w w' → Calls Tryz.prog 55 #[.int .i64 x7, .int .i64 0, .int .i64 1000] w' (Vc.Ret (.bool b13) w')) ∧
  (.bool b13 : Value) = v)) ∧ (¬ (b12 = true) → (
  (.bool false : Value) = v)))) ∧ (¬ (b11 = true) → (
  (.bool false : Value) = v)))) ∧ (¬ (b10 = true) → (
  (.bool false : Value) = v)))))))) ∧ (¬ (b8 = true) → (
  ((0 ≤ x15) → (
  (.bool false : Value) = v)) ∧ (¬ (0 ≤ x15) → (
  ∃ (b9 : Bool), (∀ w' : World, Below w.heap.size w w' → Calls Tryz.prog 55 #[.int .i64 x6, .int .i64 0, .int .i64 268435456] w' (Vc.Ret (.bool b9) w')) ∧
  ((b9 = true) → (
  ∃ (b10 : Bool), (∀ w' : World, Below w.heap.size w w' → Calls Tryz.prog 55 #[.int .i64 x8, .int .i64 0, .int .i64 268435456] w' (Vc.Ret (.bool b10) w')) ∧
  ((b10 = true) → (
  ∃ (b11 : Bool), (∀ w' : World, Below w.heap.size w w' → Calls Tryz.prog 55 #[.int .i64 x9, .int .i64 0, .int .i64 268435456] w' (Vc.Ret (.bool b11) w')) ∧
  ((b11 = true) → (
  ∃ (b12 : Bool), (∀ w' : World, Below w.heap.size w w' → Calls Tryz.prog 55 #[.int .i64 x7, .int .i64 0, .int .i64 1000] w' (Vc.Ret (.bool b12) w')) ∧
  (.bool b12 : Value) = v)) ∧ (¬ (b11 = true) → (
  (.bool false : Value) = v)))) ∧ (¬ (b10 = true) → (
  (.bool false : Value) = v)))) ∧ (¬ (b9 = true) → (
  (.bool false : Value) = v)))))))) ∧ (¬ (b7 = true) → (
  ((0 ≤ x15) → (
  (.bool false : Value) = v)) ∧ (¬ (0 ≤ x15) → (
  ∃ (b8 : Bool), (∀ w' : World, Below w.heap.size w w' → Calls Tryz.prog 55 #[.int .i64 x6, .int .i64 0, .int .i64 268435456] w' (Vc.Ret (.bool b8) w')) ∧
  ((b8 = true) → (
  ∃ (b9 : Bool), (∀ w' : World, Below w.heap.size w w' → Calls Tryz.prog 55 #[.int .i64 x8, .int .i64 0, .int .i64 268435456] w' (Vc.Ret (.bool b9) w')) ∧
  ((b9 = true) → (
  ∃ (b10 : Bool), (∀ w' : World, Below w.heap.size w w' → Calls Tryz.prog 55 #[.int .i64 x9, .int .i64 0, .int .i64 268435456] w' (Vc.Ret (.bool b10) w')) ∧
  ((b10 = true) → (
  ∃ (b11 : Bool), (∀ w' : World, Below w.heap.size w w' → Calls Tryz.prog 55 #[.int .i64 x7, .int .i64 0, .int .i64 1000] w' (Vc.Ret (.bool b11) w')) ∧
  (.bool b11 : Value) = v)) ∧ (¬ (b10 = true) → (
  (.bool false : Value) = v)))) ∧ (¬ (b9 = true) → (
  (.bool false : Value) = v)))) ∧ (¬ (b8 = true) → (
  (.bool false : Value) = v)))))))) ∧ (¬ (x15 < x4) → (
  ∃ (b6 : Bool), (∀ w' : World, Below w.heap.size w w' → Calls Tryz.prog 55 #[.int .i64 x6, .int .i64 0, .int .i64 268435456] w' (Vc.Ret (.bool b6) w')) ∧
  ((b6 = true) → (
  ∃ (b7 : Bool), (∀ w' : World, Below w.heap.size w w' → Calls Tryz.prog 55 #[.int .i64 x8, .int .i64 0, .int .i64 268435456] w' (Vc.Ret (.bool b7) w')) ∧
  ((b7 = true) → (
  ∃ (b8 : Bool), (∀ w' : World, Below w.heap.size w w' → Calls Tryz.prog 55 #[.int .i64 x9, .int .i64 0, .int .i64 268435456] w' (Vc.Ret (.bool b8) w')) ∧
  ((b8 = true) → (
  ∃ (b9 : Bool), (∀ w' : World, Below w.heap.size w w' → Calls Tryz.prog 55 #[.int .i64 x7, .int .i64 0, .int .i64 1000] w' (Vc.Ret (.bool b9) w')) ∧
  (.bool b9 : Value) = v)) ∧ (¬ (b8 = true) → (
  (.bool false : Value) = v)))) ∧ (¬ (b7 = true) → (
  (.bool false : Value) = v)))) ∧ (¬ (b6 = true) → (
  (.bool false : Value) = v))))))))))) ∧ (¬ (x11 < x2) → (
  (0 ≤ x4) ∧
  ((¬ (b2 = true)) ∨ (x4 = 0)) ∧
  ∃ (Ix12 : List Vc.Vl → Prop) (mx12 : List Vc.Vl → Nat), Ix12 [.i 0, .i 0] ∧ ∀ (x12 : Int) (x13 : Int), Ix12 [.i x12, .i x13] → (
  ((x13 < x4) → (
  (¬ (b2 = true)) ∧
  (0 ≤ x13) ∧
  (x13 < x4) ∧
  ∃ (s1 : List UInt8), w.cell? ⟨p2.1, p2.2 + (Int.toNat x13) * 4 + 0, none⟩ = some (.string ⟨s1.toArray⟩) ∧
  ∃ (b4 : Bool) (p3 : Nat × Nat) (x14 x15 : Int), w.cell? ⟨p2.1, p2.2 + (Int.toNat x13) * 4 + 1, none⟩ = some ((if b4 = true then .slice none 0 0 else .slice (some ⟨p3.1, p3.2, none⟩) (Int.toNat x14) (Int.toNat x15) : Value)) ∧
  ∃ (x16 : Int), w.cell? ⟨p2.1, p2.2 + (Int.toNat x13) * 4 + 2, none⟩ = some (.int .i64 x16) ∧
  ∃ (x17 : Int), w.cell? ⟨p2.1, p2.2 + (Int.toNat x13) * 4 + 3, none⟩ = some (.int .i64 x17) ∧
  ∃ (b5 : Bool), (∀ w' : World, Below w.heap.size w w' → Calls Tryz.prog 33 #[.agg #[.string ⟨s1.toArray⟩, (if b4 = true then .slice none 0 0 else .slice (some ⟨p3.1, p3.2, none⟩) (Int.toNat x14) (Int.toNat x15) : Value)]] w' (Vc.Ret (.bool b5) w')) ∧
  ((b5 = true) → (
  ∃ (b6 : Bool), (∀ w' : World, Below w.heap.size w w' → Calls Tryz.prog 55 #[.int .i64 x16, .int .i64 0, .int .i64 1073741824] w' (Vc.Ret (.bool b6) w')) ∧
  ((b6 = true) → (
  ∃ (b7 : Bool), (∀ w' : World, Below w.heap.size w w' → Calls Tryz.prog 55 #[.int .i64 x17, .int .i64 1, .int .i64 1073741824] w' (Vc.Ret (.bool b7) w')) ∧
  ((b7 = true) → (
  ∀ x18 : Int, x18 = IntKind.i64.wrap (x13 + 1) →
  Ix12 [.i x12, .i x18] ∧ mx12 [.i x12, .i x18] < mx12 [.i x12, .i x13])) ∧ (¬ (b7 = true) → (
  ((0 ≤ x13) → (
  (.bool false : Value) = v)) ∧ (¬ (0 ≤ x13) → (
  ∃ (b8 : Bool), (∀ w' : World, Below w.heap.size w w' → Calls Tryz.prog 55 #[.int .i64 x6, .int .i64 0, .int .i64 268435456] w' (Vc.Ret (.bool b8) w')) ∧
  ((b8 = true) → (
  ∃ (b9 : Bool), (∀ w' : World, Below w.heap.size w w' → Calls Tryz.prog 55 #[.int .i64 x8, .int .i64 0, .int .i64 268435456] w' (Vc.Ret (.bool b9) w')) ∧
  ((b9 = true) → (
  ∃ (b10 : Bool), (∀ w' : World, Below w.heap.size w w' → Calls Tryz.prog 55 #[.int .i64 x9, .int .i64 0, .int .i64 268435456] w' (Vc.Ret (.bool b10) w')) ∧
  ((b10 = true) → (
  ∃ (b11 : Bool), (∀ w' : World, Below w.heap.size w w' → Calls Tryz.prog 55 #[.int .i64 x7, .int .i64 0, .int .i64 1000] w' (Vc.Ret (.bool b11) w')) ∧
  (.bool b11 : Value) = v)) ∧ (¬ (b10 = true) → (
  (.bool false : Value) = v)))) ∧ (¬ (b9 = true) → (
  (.bool false : Value) = v)))) ∧ (¬ (b8 = true) → (
  (.bool false : Value) = v)))))))) ∧ (¬ (b6 = true) → (
  ((0 ≤ x13) → (
  (.bool false : Value) = v)) ∧ (¬ (0 ≤ x13) → (
  ∃ (b7 : Bool), (∀ w' : World, Below w.heap.size w w' → Calls Tryz.prog 55 #[.int .i64 x6, .int .i64 0, .int .i64 268435456] w' (Vc.Ret (.bool b7) w')) ∧
  ((b7 = true) → (
  ∃ (b8 : Bool), (∀ w' : World, Below w.heap.size w w' → Calls Tryz.prog 55 #[.int .i64 x8, .int .i64 0, .int .i64 268435456] w' (Vc.Ret (.bool b8) w')) ∧
  ((b8 = true) → (
  ∃ (b9 : Bool), (∀ w' : World, Below w.heap.size w w' → Calls Tryz.prog 55 #[.int .i64 x9, .int .i64 0, .int .i64 268435456] w' (Vc.Ret (.bool b9) w')) ∧
  ((b9 = true) → (
  ∃ (b10 : Bool), (∀ w' : World, Below w.heap.size w w' → Calls Tryz.prog 55 #[.int .i64 x7, .int .i64 0, .int .i64 1000] w' (Vc.Ret (.bool b10) w')) ∧
  (.bool b10 : Value) = v)) ∧ (¬ (b9 = true) → (
  (.bool false : Value) = v)))) ∧ (¬ (b8 = true) → (
  (.bool false : Value) = v)))) ∧ (¬ (b7 = true) → (
  (.bool false : Value) = v)))))))) ∧ (¬ (b5 = true) → (
  ((0 ≤ x13) → (
  (.bool false : Value) = v)) ∧ (¬ (0 ≤ x13) → (
  ∃ (b6 : Bool), (∀ w' : World, Below w.heap.size w w' → Calls Tryz.prog 55 #[.int .i64 x6, .int .i64 0, .int .i64 268435456] w' (Vc.Ret (.bool b6) w')) ∧
  ((b6 = true) → (
  ∃ (b7 : Bool), (∀ w' : World, Below w.heap.size w w' → Calls Tryz.prog 55 #[.int .i64 x8, .int .i64 0, .int .i64 268435456] w' (Vc.Ret (.bool b7) w')) ∧
  ((b7 = true) → (
  ∃ (b8 : Bool), (∀ w' : World, Below w.heap.size w w' → Calls Tryz.prog 55 #[.int .i64 x9, .int .i64 0, .int .i64 268435456] w' (Vc.Ret (.bool b8) w')) ∧
  ((b8 = true) → (
  ∃ (b9 : Bool), (∀ w' : World, Below w.heap.size w w' → Calls Tryz.prog 55 #[.int .i64 x7, .int .i64 0, .int .i64 1000] w' (Vc.Ret (.bool b9) w')) ∧
  (.bool b9 : Value) = v)) ∧ (¬ (b8 = true) → (
  (.bool false : Value) = v)))) ∧ (¬ (b7 = true) → (
  (.bool false : Value) = v)))) ∧ (¬ (b6 = true) → (
  (.bool false : Value) = v)))))))) ∧ (¬ (x13 < x4) → (
  ∃ (b4 : Bool), (∀ w' : World, Below w.heap.size w w' → Calls Tryz.prog 55 #[.int .i64 x6, .int .i64 0, .int .i64 268435456] w' (Vc.Ret (.bool b4) w')) ∧
  ((b4 = true) → (
  ∃ (b5 : Bool), (∀ w' : World, Below w.heap.size w w' → Calls Tryz.prog 55 #[.int .i64 x8, .int .i64 0, .int .i64 268435456] w' (Vc.Ret (.bool b5) w')) ∧
  ((b5 = true) → (
  ∃ (b6 : Bool), (∀ w' : World, Below w.heap.size w w' → Calls Tryz.prog 55 #[.int .i64 x9, .int .i64 0, .int .i64 268435456] w' (Vc.Ret (.bool b6) w')) ∧
  ((b6 = true) → (
  ∃ (b7 : Bool), (∀ w' : World, Below w.heap.size w w' → Calls Tryz.prog 55 #[.int .i64 x7, .int .i64 0, .int .i64 1000] w' (Vc.Ret (.bool b7) w')) ∧
  (.bool b7 : Value) = v)) ∧ (¬ (b6 = true) → (
  (.bool false : Value) = v)))) ∧ (¬ (b5 = true) → (
  (.bool false : Value) = v)))) ∧ (¬ (b4 = true) → (
  (.bool false : Value) = v)))))))))))))) ∧ (¬ (b3 = true) → (
  (.bool false : Value) = v))) : Calls Tryz.prog 23 #[.agg #[.string ⟨s0.toArray⟩, (if b0 = true then .slice none 0 0 else .slice (some ⟨p0.1, p0.2, none⟩) (Int.toNat x0) (Int.toNat x1) : Value), (if b1 = true then .slice none 0 0 else .slice (some ⟨p1.1, p1.2, none⟩) (Int.toNat x2) (Int.toNat x3) : Value), (if b2 = true then .slice none 0 0 else .slice (some ⟨p2.1, p2.2, none⟩) (Int.toNat x4) (Int.toNat x5) : Value), .int .i64 x6, .int .i64 x7, .int .i64 x8, .int .i64 x9]] w (Vc.Ret v w) :=
  Vc.pure_of (base_inl [59, 110, 64, 111, 62, 63, 65] (by kernel_rfl)) [(2, .inv [] [4, 8] [9, 10, 5, 11, 12, 13, 14, 15, 16, 17, 18]), (2, .inv [] [4, 8] [9, 10, 5, 11, 12, 13, 14, 15, 16, 17, 18])] 200 Tryz.func23 (b := (Tryz.f23.body).getD .skip) (by kernel_rfl) [.cv (.agg [.sv 0, .qsl 0 0 2 (.var 0) (.var 1), .qsl 1 1 2 (.var 2) (.var 3), .qsl 2 2 4 (.var 4) (.var 5), .int .i64 (.var 6), .int .i64 (.var 7), .int .i64 (.var 8), .int .i64 (.var 9)])] ⟨10, 3, 0, 3, 0, 1, 0⟩ (Vc.envOf [x0, x1, x2, x3, x4, x5, x6, x7, x8, x9] [b0, b1, b2] [] [p0, p1, p2] [s0]) (by kernel_rfl) (by kernel_rfl) (by kernel_rfl) h

theorem vc_safety_side (p0 : Nat × Nat) (x0 x1 x2 x3 x4 x5 : Int) (b0 : Bool) (s0 : List UInt8) (w : World) (v : Value) (h : 
  ∃ (b1 : Bool), (∀ w' : World, Below w.heap.size w w' → Calls Tryz.prog 78 #[.agg #[.string ⟨s0.toArray⟩, (if b0 = true then .slice none 0 0 else .slice (some ⟨p0.1, p0.2, none⟩) (Int.toNat x0) (Int.toNat x1) : Value)], .agg #[.int .i64 x2, .int .i64 x3]] w' (Vc.Ret (.bool b1) w')) ∧
  ((b1 = true) → (
  ∃ (b2 : Bool), (∀ w' : World, Below w.heap.size w w' → Calls Tryz.prog 78 #[.agg #[.string ⟨s0.toArray⟩, (if b0 = true then .slice none 0 0 else .slice (some ⟨p0.1, p0.2, none⟩) (Int.toNat x0) (Int.toNat x1) : Value)], .agg #[.int .i64 x4, .int .i64 x3]] w' (Vc.Ret (.bool b2) w')) ∧
  ((b2 = true) → (
  ∃ (b3 : Bool), (∀ w' : World, Below w.heap.size w w' → Calls Tryz.prog 78 #[.agg #[.string ⟨s0.toArray⟩, (if b0 = true then .slice none 0 0 else .slice (some ⟨p0.1, p0.2, none⟩) (Int.toNat x0) (Int.toNat x1) : Value)], .agg #[.int .i64 x4, .int .i64 x5]] w' (Vc.Ret (.bool b3) w')) ∧
  ((b3 = true) → (
  ∃ (b4 : Bool), (∀ w' : World, Below w.heap.size w w' → Calls Tryz.prog 78 #[.agg #[.string ⟨s0.toArray⟩, (if b0 = true then .slice none 0 0 else .slice (some ⟨p0.1, p0.2, none⟩) (Int.toNat x0) (Int.toNat x1) : Value)], .agg #[.int .i64 x2, .int .i64 x5]] w' (Vc.Ret (.bool b4) w')) ∧
  ((b4 = true) → (
  (.int .i64 1 : Value) = v)) ∧ (¬ (b4 = true) → (
  ∃ (b5 : Bool), (∀ (β : Nat → Nat) (w' : World), Below w.heap.size w w' → ((w.heap.size ≤ β 3 ∧ w'.heap[β 3]? = some (.cells #[.int .i64 x2, .int .i64 x3, .int .i64 x4, .int .i64 x3, .int .i64 x4, .int .i64 x5, .int .i64 x2, .int .i64 x5] 26)) ∧ True) → Calls Tryz.prog 56 #[(if b0 = true then .slice none 0 0 else .slice (some ⟨p0.1, p0.2, none⟩) (Int.toNat x0) (Int.toNat x1) : Value), .slice (some ⟨β 3, 0, none⟩) 4 4, .int .i64 0] w' (Vc.Ret (.bool b5) w')) ∧
  ((b5 = true) → (
  (.int .i64 (-1) : Value) = v)) ∧ (¬ (b5 = true) → (
  (.int .i64 0 : Value) = v)))))) ∧ (¬ (b3 = true) → (
  ∃ (b4 : Bool), (∀ (β : Nat → Nat) (w' : World), Below w.heap.size w w' → ((w.heap.size ≤ β 3 ∧ w'.heap[β 3]? = some (.cells #[.int .i64 x2, .int .i64 x3, .int .i64 x4, .int .i64 x3, .int .i64 x4, .int .i64 x5, .int .i64 x2, .int .i64 x5] 26)) ∧ True) → Calls Tryz.prog 56 #[(if b0 = true then .slice none 0 0 else .slice (some ⟨p0.1, p0.2, none⟩) (Int.toNat x0) (Int.toNat x1) : Value), .slice (some ⟨β 3, 0, none⟩) 4 4, .int .i64 0] w' (Vc.Ret (.bool b4) w')) ∧
  ((b4 = true) → (
  (.int .i64 (-1) : Value) = v)) ∧ (¬ (b4 = true) → (
  (.int .i64 0 : Value) = v)))))) ∧ (¬ (b2 = true) → (
  ∃ (b3 : Bool), (∀ (β : Nat → Nat) (w' : World), Below w.heap.size w w' → ((w.heap.size ≤ β 3 ∧ w'.heap[β 3]? = some (.cells #[.int .i64 x2, .int .i64 x3, .int .i64 x4, .int .i64 x3, .int .i64 x4, .int .i64 x5, .int .i64 x2, .int .i64 x5] 26)) ∧ True) → Calls Tryz.prog 56 #[(if b0 = true then .slice none 0 0 else .slice (some ⟨p0.1, p0.2, none⟩) (Int.toNat x0) (Int.toNat x1) : Value), .slice (some ⟨β 3, 0, none⟩) 4 4, .int .i64 0] w' (Vc.Ret (.bool b3) w')) ∧
  ((b3 = true) → (
  (.int .i64 (-1) : Value) = v)) ∧ (¬ (b3 = true) → (
  (.int .i64 0 : Value) = v)))))) ∧ (¬ (b1 = true) → (
  ∃ (b2 : Bool), (∀ (β : Nat → Nat) (w' : World), Below w.heap.size w w' → ((w.heap.size ≤ β 3 ∧ w'.heap[β 3]? = some (.cells #[.int .i64 x2, .int .i64 x3, .int .i64 x4, .int .i64 x3, .int .i64 x4, .int .i64 x5, .int .i64 x2, .int .i64 x5] 26)) ∧ True) → Calls Tryz.prog 56 #[(if b0 = true then .slice none 0 0 else .slice (some ⟨p0.1, p0.2, none⟩) (Int.toNat x0) (Int.toNat x1) : Value), .slice (some ⟨β 3, 0, none⟩) 4 4, .int .i64 0] w' (Vc.Ret (.bool b2) w')) ∧
  ((b2 = true) → (
  (.int .i64 (-1) : Value) = v)) ∧ (¬ (b2 = true) → (
  (.int .i64 0 : Value) = v))))) : Calls Tryz.prog 35 #[.agg #[.string ⟨s0.toArray⟩, (if b0 = true then .slice none 0 0 else .slice (some ⟨p0.1, p0.2, none⟩) (Int.toNat x0) (Int.toNat x1) : Value)], .agg #[.int .i64 x2, .int .i64 x3, .int .i64 x4, .int .i64 x5]] w (Vc.Ret v w) :=
  Vc.pure_of (base_inl [76, 71, 113, 77] (by kernel_rfl)) [(2, .unroll)] 200 Tryz.func35 (b := (Tryz.f35.body).getD .skip) (by kernel_rfl) [.cv (.agg [.sv 0, .qsl 0 0 2 (.var 0) (.var 1)]), .cv (.agg [.int .i64 (.var 2), .int .i64 (.var 3), .int .i64 (.var 4), .int .i64 (.var 5)])] ⟨6, 1, 0, 1, 0, 1, 0⟩ (Vc.envOf [x0, x1, x2, x3, x4, x5] [b0] [] [p0] [s0]) (by kernel_rfl) (by kernel_rfl) (by kernel_rfl) h

theorem vc_safety_Side (p0 : Nat × Nat) (x0 x1 x2 x3 x4 x5 : Int) (b0 : Bool) (s0 : List UInt8) (w : World) (v : Value) (h : 
  ∃ (b1 : Bool), (∀ w' : World, Below w.heap.size w w' → Calls Tryz.prog 33 #[.agg #[.string ⟨s0.toArray⟩, (if b0 = true then .slice none 0 0 else .slice (some ⟨p0.1, p0.2, none⟩) (Int.toNat x0) (Int.toNat x1) : Value)]] w' (Vc.Ret (.bool b1) w')) ∧
  ((b1 = true) → (
  ∃ (b2 : Bool), (∀ w' : World, Below w.heap.size w w' → Calls Tryz.prog 34 #[.agg #[.int .i64 x2, .int .i64 x3, .int .i64 x4, .int .i64 x5]] w' (Vc.Ret (.bool b2) w')) ∧
  ((b2 = true) → (
  ∃ (x6 : Int), (∀ w' : World, Below w.heap.size w w' → Calls Tryz.prog 35 #[.agg #[.string ⟨s0.toArray⟩, (if b0 = true then .slice none 0 0 else .slice (some ⟨p0.1, p0.2, none⟩) (Int.toNat x0) (Int.toNat x1) : Value)], .agg #[.int .i64 x2, .int .i64 x3, .int .i64 x4, .int .i64 x5]] w' (Vc.Ret (.int .i64 x6) w')) ∧
  (.tuple #[.int .i64 x6, .int .i64 0] : Value) = v)) ∧ (¬ (b2 = true) → (
  (.tuple #[.int .i64 0, .int .i64 2] : Value) = v)))) ∧ (¬ (b1 = true) → (
  (.tuple #[.int .i64 0, .int .i64 2] : Value) = v))) : Calls Tryz.prog 11 #[.agg #[.string ⟨s0.toArray⟩, (if b0 = true then .slice none 0 0 else .slice (some ⟨p0.1, p0.2, none⟩) (Int.toNat x0) (Int.toNat x1) : Value)], .agg #[.int .i64 x2, .int .i64 x3, .int .i64 x4, .int .i64 x5]] w (Vc.Ret v w) :=
  Vc.pure_of base [] 200 Tryz.func11 (b := (Tryz.f11.body).getD .skip) (by kernel_rfl) [.cv (.agg [.sv 0, .qsl 0 0 2 (.var 0) (.var 1)]), .cv (.agg [.int .i64 (.var 2), .int .i64 (.var 3), .int .i64 (.var 4), .int .i64 (.var 5)])] ⟨6, 1, 0, 1, 0, 1, 0⟩ (Vc.envOf [x0, x1, x2, x3, x4, x5] [b0] [] [p0] [s0]) (by kernel_rfl) (by kernel_rfl) (by kernel_rfl) h

theorem vc_safety_Apart (p0 p1 : Nat × Nat) (x0 x1 x2 x3 x4 : Int) (b0 b1 : Bool) (s0 s1 : List UInt8) (w : World) (v : Value) (h : 
  ∃ (b2 : Bool), (∀ w' : World, Below w.heap.size w w' → Calls Tryz.prog 33 #[.agg #[.string ⟨s0.toArray⟩, (if b0 = true then .slice none 0 0 else .slice (some ⟨p0.1, p0.2, none⟩) (Int.toNat x0) (Int.toNat x1) : Value)]] w' (Vc.Ret (.bool b2) w')) ∧
  ((b2 = true) → (
  ∃ (b3 : Bool), (∀ w' : World, Below w.heap.size w w' → Calls Tryz.prog 33 #[.agg #[.string ⟨s1.toArray⟩, (if b1 = true then .slice none 0 0 else .slice (some ⟨p1.1, p1.2, none⟩) (Int.toNat x2) (Int.toNat x3) : Value)]] w' (Vc.Ret (.bool b3) w')) ∧
  ((b3 = true) → (
  ∃ (b4 : Bool), (∀ w' : World, Below w.heap.size w w' → Calls Tryz.prog 55 #[.int .i64 x4, .int .i64 0, .int .i64 1099511627776] w' (Vc.Ret (.bool b4) w')) ∧
  ((b4 = true) → (
  ((536870912 ≤ x4) → (
  (.tuple #[.bool false, .int .i64 0] : Value) = v)) ∧ (¬ (536870912 ≤ x4) → (
  ∃ (b5 : Bool), (∀ w' : World, Below w.heap.size w w' → Calls Tryz.prog 56 #[(if b0 = true then .slice none 0 0 else .slice (some ⟨p0.1, p0.2, none⟩) (Int.toNat x0) (Int.toNat x1) : Value), (if b1 = true then .slice none 0 0 else .slice (some ⟨p1.1, p1.2, none⟩) (Int.toNat x2) (Int.toNat x3) : Value), .int .i64 x4] w' (Vc.Ret (.bool b5) w')) ∧
  (.tuple #[.bool b5, .int .i64 0] : Value) = v)))) ∧ (¬ (b4 = true) → (
  (.tuple #[.bool false, .int .i64 4] : Value) = v)))) ∧ (¬ (b3 = true) → (
  (.tuple #[.bool false, .int .i64 2] : Value) = v)))) ∧ (¬ (b2 = true) → (
  (.tuple #[.bool false, .int .i64 2] : Value) = v))) : Calls Tryz.prog 19 #[.agg #[.string ⟨s0.toArray⟩, (if b0 = true then .slice none 0 0 else .slice (some ⟨p0.1, p0.2, none⟩) (Int.toNat x0) (Int.toNat x1) : Value)], .agg #[.string ⟨s1.toArray⟩, (if b1 = true then .slice none 0 0 else .slice (some ⟨p1.1, p1.2, none⟩) (Int.toNat x2) (Int.toNat x3) : Value)], .int .i64 x4] w (Vc.Ret v w) :=
  Vc.pure_of base [] 200 Tryz.func19 (b := (Tryz.f19.body).getD .skip) (by kernel_rfl) [.cv (.agg [.sv 0, .qsl 0 0 2 (.var 0) (.var 1)]), .cv (.agg [.sv 1, .qsl 1 1 2 (.var 2) (.var 3)]), .cv (.one (.int .i64 (.var 4)))] ⟨5, 2, 0, 2, 0, 2, 0⟩ (Vc.envOf [x0, x1, x2, x3, x4] [b0, b1] [] [p0, p1] [s0, s1]) (by kernel_rfl) (by kernel_rfl) (by kernel_rfl) h

theorem vc_safety_Risk (p0 p1 p2 : Nat × Nat) (x0 x1 x2 x3 x4 x5 x6 x7 x8 x9 x10 x11 x12 x13 : Int) (b0 b1 b2 : Bool) (s0 : List UInt8) (w : World) (v : Value) (h : 
  ∃ (b3 : Bool), (∀ w' : World, Below w.heap.size w w' → Calls Tryz.prog 23 #[.agg #[.string ⟨s0.toArray⟩, (if b0 = true then .slice none 0 0 else .slice (some ⟨p0.1, p0.2, none⟩) (Int.toNat x0) (Int.toNat x1) : Value), (if b1 = true then .slice none 0 0 else .slice (some ⟨p1.1, p1.2, none⟩) (Int.toNat x2) (Int.toNat x3) : Value), (if b2 = true then .slice none 0 0 else .slice (some ⟨p2.1, p2.2, none⟩) (Int.toNat x4) (Int.toNat x5) : Value), .int .i64 x6, .int .i64 x7, .int .i64 x8, .int .i64 x9]] w' (Vc.Ret (.bool b3) w')) ∧
  ((b3 = true) → (
  ∃ (b4 : Bool), (∀ w' : World, Below w.heap.size w w' → Calls Tryz.prog 34 #[.agg #[.int .i64 x10, .int .i64 x11, .int .i64 x12, .int .i64 x13]] w' (Vc.Ret (.bool b4) w')) ∧
  ((b4 = true) → (
  (0 ≤ x4) ∧
  ((¬ (b2 = true)) ∨ (x4 = 0)) ∧
  ∃ (Ix14 : List Vc.Vl → Prop) (mx14 : List Vc.Vl → Nat), Ix14 [.i 0, .i 0] ∧ ∀ (x14 : Int) (x15 : Int), Ix14 [.i x14, .i x15] → (
  ((x15 < x4) → (
  (¬ (b2 = true)) ∧
  (0 ≤ x15) ∧
  (x15 < x4) ∧
  ∃ (s1 : List UInt8), w.cell? ⟨p2.1, p2.2 + (Int.toNat x15) * 4 + 0, none⟩ = some (.string ⟨s1.toArray⟩) ∧
  ∃ (b5 : Bool) (p3 : Nat × Nat) (x16 x17 : Int), w.cell? ⟨p2.1, p2.2 + (Int.toNat x15) * 4 + 1, none⟩ = some ((if b5 = true then .slice none 0 0 else .slice (some ⟨p3.1, p3.2, none⟩) (Int.toNat x16) (Int.toNat x17) : Value)) ∧
  ∃ (x18 : Int), w.cell? ⟨p2.1, p2.2 + (Int.toNat x15) * 4 + 2, none⟩ = some (.int .i64 x18) ∧
  ∃ (x19 : Int), w.cell? ⟨p2.1, p2.2 + (Int.toNat x15) * 4 + 3, none⟩ = some (.int .i64 x19) ∧
  ∃ (x20 : Int), ∃ (x21 : Int), ∃ (x22 : Int), ∃ (x23 : Int), (∀ w' : World, Below w.heap.size w w' → Calls Tryz.prog 53 #[.agg #[.int .i64 x10, .int .i64 x11, .int .i64 x12, .int .i64 x13], .int .i64 x8] w' (Vc.Ret (.agg #[.int .i64 x20, .int .i64 x21, .int .i64 x22, .int .i64 x23]) w')) ∧
  ∃ (x24 : Int), (∀ w' : World, Below w.heap.size w w' → Calls Tryz.prog 35 #[.agg #[.string ⟨s1.toArray⟩, (if b5 = true then .slice none 0 0 else .slice (some ⟨p3.1, p3.2, none⟩) (Int.toNat x16) (Int.toNat x17) : Value)], .agg #[.int .i64 x20, .int .i64 x21, .int .i64 x22, .int .i64 x23]] w' (Vc.Ret (.int .i64 x24) w')) ∧
  ((0 ≤ x24) → (
  ∀ x25 : Int, x25 = IntKind.i64.wrap (x18 * x9) →
  ∀ x26 : Int, x26 = IntKind.i64.wrap (x25 + x19) →
  ∀ x27 : Int, x27 = IntKind.i64.wrap (x26 - 1) →
  (x19 ≠ 0) ∧
  ∀ x28 : Int, x28 = IntKind.i64.wrap (Int.tdiv x27 x19) →
  ∀ x29 : Int, x29 = (if x28 < x18 then x28 else x18) →
  ∀ x30 : Int, x30 = IntKind.i64.wrap (x14 + x29) →
  ∀ x31 : Int, x31 = IntKind.i64.wrap (x15 + 1) →
  Ix14 [.i x30, .i x31] ∧ mx14 [.i x30, .i x31] < mx14 [.i x14, .i x15])) ∧ (¬ (0 ≤ x24) → (
  ∀ x25 : Int, x25 = IntKind.i64.wrap (x15 + 1) →
  Ix14 [.i x14, .i x25] ∧ mx14 [.i x14, .i x25] < mx14 [.i x14, .i x15])))) ∧ (¬ (x15 < x4) → (
  (.tuple #[.int .i64 x14, .int .i64 0] : Value) = v))))) ∧ (¬ (b4 = true) → (
  (.tuple #[.int .i64 0, .int .i64 2] : Value) = v)))) ∧ (¬ (b3 = true) → (
  (.tuple #[.int .i64 0, .int .i64 2] : Value) = v))) : Calls Tryz.prog 16 #[.agg #[.string ⟨s0.toArray⟩, (if b0 = true then .slice none 0 0 else .slice (some ⟨p0.1, p0.2, none⟩) (Int.toNat x0) (Int.toNat x1) : Value), (if b1 = true then .slice none 0 0 else .slice (some ⟨p1.1, p1.2, none⟩) (Int.toNat x2) (Int.toNat x3) : Value), (if b2 = true then .slice none 0 0 else .slice (some ⟨p2.1, p2.2, none⟩) (Int.toNat x4) (Int.toNat x5) : Value), .int .i64 x6, .int .i64 x7, .int .i64 x8, .int .i64 x9], .agg #[.int .i64 x10, .int .i64 x11, .int .i64 x12, .int .i64 x13]] w (Vc.Ret v w) :=
  Vc.pure_of base [(5, .inv [] [6, 20] [21, 22, 23, 8, 24, 25, 26, 27, 28, 29, 30, 31, 32, 33, 34, 35, 36, 37, 38, 39, 40, 41, 42, 43, 44, 45, 46, 47, 48, 49])] 200 Tryz.func16 (b := (Tryz.f16.body).getD .skip) (by kernel_rfl) [.cv (.agg [.sv 0, .qsl 0 0 2 (.var 0) (.var 1), .qsl 1 1 2 (.var 2) (.var 3), .qsl 2 2 4 (.var 4) (.var 5), .int .i64 (.var 6), .int .i64 (.var 7), .int .i64 (.var 8), .int .i64 (.var 9)]), .cv (.agg [.int .i64 (.var 10), .int .i64 (.var 11), .int .i64 (.var 12), .int .i64 (.var 13)])] ⟨14, 3, 0, 3, 0, 1, 0⟩ (Vc.envOf [x0, x1, x2, x3, x4, x5, x6, x7, x8, x9, x10, x11, x12, x13] [b0, b1, b2] [] [p0, p1, p2] [s0]) (by kernel_rfl) (by kernel_rfl) (by kernel_rfl) h

theorem vc_safety_Impact (x0 x1 x2 x3 x4 x5 x6 x7 x8 x9 x10 x11 x12 x13 x14 x15 x16 x17 : Int) (w : World) (v : Value) (h : 
  ∃ (b0 : Bool), (∀ w' : World, Below w.heap.size w w' → Calls Tryz.prog 39 #[.agg #[.int .i64 x0, .int .i64 x1, .int .i64 x2, .int .i64 x3, .int .i64 x4, .int .i64 x5, .int .i64 x6, .int .i64 x7, .int .i64 x8, .int .i64 x9, .int .i64 x10, .int .i64 x11, .int .i64 x12, .int .i64 x13, .int .i64 x14, .int .i64 x15, .int .i64 x16, .int .i64 x17]] w' (Vc.Ret (.bool b0) w')) ∧
  ((b0 = true) → (
  ∃ (x18 : Int), ∃ (x19 : Int), ∃ (x20 : Int), (∀ w' : World, Below w.heap.size w w' → Calls Tryz.prog 84 #[.agg #[.int .i64 x10, .int .i64 x11], .agg #[.int .i64 x10, .int .i64 x11]] w' (Vc.Ret (.tuple #[.agg #[.int .i64 x18, .int .i64 x19], .int .i64 x20]) w')) ∧
  ((x20 = 0) → (
  ∃ (x21 : Int), ∃ (x22 : Int), ∃ (x23 : Int), (∀ w' : World, Below w.heap.size w w' → Calls Tryz.prog 85 #[.agg #[.int .i64 x12, .int .i64 x13], .agg #[.int .i64 x12, .int .i64 x13]] w' (Vc.Ret (.tuple #[.agg #[.int .i64 x21, .int .i64 x22], .int .i64 x23]) w')) ∧
  ((x23 = 0) → (
  ∃ (x24 : Int), ∃ (x25 : Int), ∃ (x26 : Int), (∀ w' : World, Below w.heap.size w w' → Calls Tryz.prog 86 #[.agg #[.int .i64 x21, .int .i64 x22], .agg #[.int .i64 x4, .int .i64 x5]] w' (Vc.Ret (.tuple #[.agg #[.int .i64 x24, .int .i64 x25], .int .i64 x26]) w')) ∧
  ((x26 = 0) → (
  ∃ (x27 : Int), ∃ (x28 : Int), ∃ (x29 : Int), (∀ w' : World, Below w.heap.size w w' → Calls Tryz.prog 87 #[.agg #[.int .i64 x18, .int .i64 x19], .agg #[.int .i64 x24, .int .i64 x25]] w' (Vc.Ret (.tuple #[.agg #[.int .i64 x27, .int .i64 x28], .int .i64 x29]) w')) ∧
  ((x29 = 0) → (
  ∃ (x30 : Int), ∃ (x31 : Int), ∃ (x32 : Int), (∀ w' : World, Below w.heap.size w w' → Calls Tryz.prog 88 #[.agg #[.int .i64 x27, .int .i64 x28], .agg #[.int .i64 x27, .int .i64 x28]] w' (Vc.Ret (.tuple #[.agg #[.int .i64 x30, .int .i64 x31], .int .i64 x32]) w')) ∧
  ((x32 = 0) → (
  ∃ (x33 : Int), ∃ (x34 : Int), ∃ (x35 : Int), (∀ w' : World, Below w.heap.size w w' → Calls Tryz.prog 87 #[.agg #[.int .i64 x10, .int .i64 x11], .agg #[.int .i64 x30, .int .i64 x31]] w' (Vc.Ret (.tuple #[.agg #[.int .i64 x33, .int .i64 x34], .int .i64 x35]) w')) ∧
  ((x35 = 0) → (
  ∃ (x36 : Int), ∃ (x37 : Int), ∃ (x38 : Int), (∀ w' : World, Below w.heap.size w w' → Calls Tryz.prog 89 #[.agg #[.int .i64 x33, .int .i64 x34], .agg #[.int .i64 x12, .int .i64 x13]] w' (Vc.Ret (.tuple #[.agg #[.int .i64 x36, .int .i64 x37], .int .i64 x38]) w')) ∧
  ((x38 = 0) → (
  ∃ (x39 : Int), ∃ (x40 : Int), ∃ (x41 : Int), (∀ w' : World, Below w.heap.size w w' → Calls Tryz.prog 86 #[.agg #[.int .i64 x6, .int .i64 x7], .agg #[.int .i64 x36, .int .i64 x37]] w' (Vc.Ret (.tuple #[.agg #[.int .i64 x39, .int .i64 x40], .int .i64 x41]) w')) ∧
  ((x41 = 0) → (
  ∃ (x42 : Int), ∃ (x43 : Int), ∃ (x44 : Int), (∀ w' : World, Below w.heap.size w w' → Calls Tryz.prog 87 #[.agg #[.int .i64 x0, .int .i64 x1], .agg #[.int .i64 x39, .int .i64 x40]] w' (Vc.Ret (.tuple #[.agg #[.int .i64 x42, .int .i64 x43], .int .i64 x44]) w')) ∧
  ((x44 = 0) → (
  ∃ (x45 : Int), ∃ (x46 : Int), ∃ (x47 : Int), (∀ w' : World, Below w.heap.size w w' → Calls Tryz.prog 86 #[.agg #[.int .i64 x14, .int .i64 x15], .agg #[.int .i64 x36, .int .i64 x37]] w' (Vc.Ret (.tuple #[.agg #[.int .i64 x45, .int .i64 x46], .int .i64 x47]) w')) ∧
  ((x47 = 0) → (
  ∃ (x48 : Int), ∃ (x49 : Int), ∃ (x50 : Int), (∀ w' : World, Below w.heap.size w w' → Calls Tryz.prog 87 #[.agg #[.int .i64 x42, .int .i64 x43], .agg #[.int .i64 x45, .int .i64 x46]] w' (Vc.Ret (.tuple #[.agg #[.int .i64 x48, .int .i64 x49], .int .i64 x50]) w')) ∧
  ((x50 = 0) → (
  ∃ (x51 : Int), ∃ (x52 : Int), ∃ (x53 : Int), (∀ w' : World, Below w.heap.size w w' → Calls Tryz.prog 86 #[.agg #[.int .i64 x8, .int .i64 x9], .agg #[.int .i64 x36, .int .i64 x37]] w' (Vc.Ret (.tuple #[.agg #[.int .i64 x51, .int .i64 x52], .int .i64 x53]) w')) ∧
  ((x53 = 0) → (
  ∃ (x54 : Int), ∃ (x55 : Int), ∃ (x56 : Int), (∀ w' : World, Below w.heap.size w w' → Calls Tryz.prog 87 #[.agg #[.int .i64 x2, .int .i64 x3], .agg #[.int .i64 x51, .int .i64 x52]] w' (Vc.Ret (.tuple #[.agg #[.int .i64 x54, .int .i64 x55], .int .i64 x56]) w')) ∧
  ((x56 = 0) → (
  ∃ (x57 : Int), ∃ (x58 : Int), ∃ (x59 : Int), (∀ w' : World, Below w.heap.size w w' → Calls Tryz.prog 86 #[.agg #[.int .i64 x16, .int .i64 x17], .agg #[.int .i64 x36, .int .i64 x37]] w' (Vc.Ret (.tuple #[.agg #[.int .i64 x57, .int .i64 x58], .int .i64 x59]) w')) ∧
  ((x59 = 0) → (
  ∃ (x60 : Int), ∃ (x61 : Int), ∃ (x62 : Int), (∀ w' : World, Below w.heap.size w w' → Calls Tryz.prog 87 #[.agg #[.int .i64 x54, .int .i64 x55], .agg #[.int .i64 x57, .int .i64 x58]] w' (Vc.Ret (.tuple #[.agg #[.int .i64 x60, .int .i64 x61], .int .i64 x62]) w')) ∧
  ((x62 = 0) → (
  ((x62 = 0) → (
  ∃ (x63 : Int), (∀ w' : World, Below w.heap.size w w' → Calls Tryz.prog 41 #[.int .i64 x48] w' (Vc.Ret (.int .i64 x63) w')) ∧
  ∃ (x64 : Int), (∀ w' : World, Below w.heap.size w w' → Calls Tryz.prog 41 #[.int .i64 x60] w' (Vc.Ret (.int .i64 x64) w')) ∧
  ∃ (x65 : Int), (∀ w' : World, Below w.heap.size w w' → Calls Tryz.prog 42 #[.int .i64 x49] w' (Vc.Ret (.int .i64 x65) w')) ∧
  ∃ (x66 : Int), (∀ w' : World, Below w.heap.size w w' → Calls Tryz.prog 42 #[.int .i64 x61] w' (Vc.Ret (.int .i64 x66) w')) ∧
  ∃ (b1 : Bool), (∀ w' : World, Below w.heap.size w w' → Calls Tryz.prog 34 #[.agg #[.int .i64 x63, .int .i64 x64, .int .i64 x65, .int .i64 x66]] w' (Vc.Ret (.bool b1) w')) ∧
  ((b1 = true) → (
  (.tuple #[.agg #[.int .i64 x63, .int .i64 x64, .int .i64 x65, .int .i64 x66], .int .i64 0] : Value) = v)) ∧ (¬ (b1 = true) → (
  (.tuple #[.agg #[.int .i64 0, .int .i64 0, .int .i64 0, .int .i64 0], .int .i64 4] : Value) = v)))) ∧ (¬ (x62 = 0) → (
  (.tuple #[.agg #[.int .i64 0, .int .i64 0, .int .i64 0, .int .i64 0], .int .i64 x62] : Value) = v)))) ∧ (¬ (x62 = 0) → (
  ((x62 = 0) → (
  ∃ (x63 : Int), (∀ w' : World, Below w.heap.size w w' → Calls Tryz.prog 41 #[.int .i64 x48] w' (Vc.Ret (.int .i64 x63) w')) ∧
  ∃ (x64 : Int), (∀ w' : World, Below w.heap.size w w' → Calls Tryz.prog 41 #[.int .i64 x60] w' (Vc.Ret (.int .i64 x64) w')) ∧
  ∃ (x65 : Int), (∀ w' : World, Below w.heap.size w w' → Calls Tryz.prog 42 #[.int .i64 x49] w' (Vc.Ret (.int .i64 x65) w')) ∧
  ∃ (x66 : Int), (∀ w' : World, Below w.heap.size w w' → Calls Tryz.prog 42 #[.int .i64 x61] w' (Vc.Ret (.int .i64 x66) w')) ∧
  ∃ (b1 : Bool), (∀ w' : World, Below w.heap.size w w' → Calls Tryz.prog 34 #[.agg #[.int .i64 x63, .int .i64 x64, .int .i64 x65, .int .i64 x66]] w' (Vc.Ret (.bool b1) w')) ∧
  ((b1 = true) → (
  (.tuple #[.agg #[.int .i64 x63, .int .i64 x64, .int .i64 x65, .int .i64 x66], .int .i64 0] : Value) = v)) ∧ (¬ (b1 = true) → (
  (.tuple #[.agg #[.int .i64 0, .int .i64 0, .int .i64 0, .int .i64 0], .int .i64 4] : Value) = v)))) ∧ (¬ (x62 = 0) → (
  (.tuple #[.agg #[.int .i64 0, .int .i64 0, .int .i64 0, .int .i64 0], .int .i64 x62] : Value) = v)))))) ∧ (¬ (x59 = 0) → (
  ((x59 = 0) → (
  ∃ (x60 : Int), (∀ w' : World, Below w.heap.size w w' → Calls Tryz.prog 41 #[.int .i64 x48] w' (Vc.Ret (.int .i64 x60) w')) ∧
  ∃ (x61 : Int), (∀ w' : World, Below w.heap.size w w' → Calls Tryz.prog 41 #[.int .i64 x54] w' (Vc.Ret (.int .i64 x61) w')) ∧
  ∃ (x62 : Int), (∀ w' : World, Below w.heap.size w w' → Calls Tryz.prog 42 #[.int .i64 x49] w' (Vc.Ret (.int .i64 x62) w')) ∧
  ∃ (x63 : Int), (∀ w' : World, Below w.heap.size w w' → Calls Tryz.prog 42 #[.int .i64 x55] w' (Vc.Ret (.int .i64 x63) w')) ∧
  ∃ (b1 : Bool), (∀ w' : World, Below w.heap.size w w' → Calls Tryz.prog 34 #[.agg #[.int .i64 x60, .int .i64 x61, .int .i64 x62, .int .i64 x63]] w' (Vc.Ret (.bool b1) w')) ∧
  ((b1 = true) → (
  (.tuple #[.agg #[.int .i64 x60, .int .i64 x61, .int .i64 x62, .int .i64 x63], .int .i64 0] : Value) = v)) ∧ (¬ (b1 = true) → (
  (.tuple #[.agg #[.int .i64 0, .int .i64 0, .int .i64 0, .int .i64 0], .int .i64 4] : Value) = v)))) ∧ (¬ (x59 = 0) → (
  (.tuple #[.agg #[.int .i64 0, .int .i64 0, .int .i64 0, .int .i64 0], .int .i64 x59] : Value) = v)))))) ∧ (¬ (x56 = 0) → (
  ((x56 = 0) → (
  ∃ (x57 : Int), (∀ w' : World, Below w.heap.size w w' → Calls Tryz.prog 41 #[.int .i64 x48] w' (Vc.Ret (.int .i64 x57) w')) ∧
  ∃ (x58 : Int), (∀ w' : World, Below w.heap.size w w' → Calls Tryz.prog 41 #[.int .i64 x54] w' (Vc.Ret (.int .i64 x58) w')) ∧
  ∃ (x59 : Int), (∀ w' : World, Below w.heap.size w w' → Calls Tryz.prog 42 #[.int .i64 x49] w' (Vc.Ret (.int .i64 x59) w')) ∧
  ∃ (x60 : Int), (∀ w' : World, Below w.heap.size w w' → Calls Tryz.prog 42 #[.int .i64 x55] w' (Vc.Ret (.int .i64 x60) w')) ∧
  ∃ (b1 : Bool), (∀ w' : World, Below w.heap.size w w' → Calls Tryz.prog 34 #[.agg #[.int .i64 x57, .int .i64 x58, .int .i64 x59, .int .i64 x60]] w' (Vc.Ret (.bool b1) w')) ∧
  ((b1 = true) → (
  (.tuple #[.agg #[.int .i64 x57, .int .i64 x58, .int .i64 x59, .int .i64 x60], .int .i64 0] : Value) = v)) ∧ (¬ (b1 = true) → (
  (.tuple #[.agg #[.int .i64 0, .int .i64 0, .int .i64 0, .int .i64 0], .int .i64 4] : Value) = v)))) ∧ (¬ (x56 = 0) → (
  (.tuple #[.agg #[.int .i64 0, .int .i64 0, .int .i64 0, .int .i64 0], .int .i64 x56] : Value) = v)))))) ∧ (¬ (x53 = 0) → (
  ((x53 = 0) → (
  ∃ (x54 : Int), (∀ w' : World, Below w.heap.size w w' → Calls Tryz.prog 41 #[.int .i64 x48] w' (Vc.Ret (.int .i64 x54) w')) ∧
  ∃ (x55 : Int), (∀ w' : World, Below w.heap.size w w' → Calls Tryz.prog 41 #[.int .i64 0] w' (Vc.Ret (.int .i64 x55) w')) ∧
  ∃ (x56 : Int), (∀ w' : World, Below w.heap.size w w' → Calls Tryz.prog 42 #[.int .i64 x49] w' (Vc.Ret (.int .i64 x56) w')) ∧
  ∃ (x57 : Int), (∀ w' : World, Below w.heap.size w w' → Calls Tryz.prog 42 #[.int .i64 0] w' (Vc.Ret (.int .i64 x57) w')) ∧
  ∃ (b1 : Bool), (∀ w' : World, Below w.heap.size w w' → Calls Tryz.prog 34 #[.agg #[.int .i64 x54, .int .i64 x55, .int .i64 x56, .int .i64 x57]] w' (Vc.Ret (.bool b1) w')) ∧
  ((b1 = true) → (
  (.tuple #[.agg #[.int .i64 x54, .int .i64 x55, .int .i64 x56, .int .i64 x57], .int .i64 0] : Value) = v)) ∧ (¬ (b1 = true) → (
  (.tuple #[.agg #[.int .i64 0, .int .i64 0, .int .i64 0, .int .i64 0], .int .i64 4] : Value) = v)))) ∧ (¬ (x53 = 0) → (
  (.tuple #[.agg #[.int .i64 0, .int .i64 0, .int .i64 0, .int .i64 0], .int .i64 x53] : Value) = v)))))) ∧ (¬ (x50 = 0) → (
  ((x50 = 0) → (
  ∃ (x51 : Int), (∀ w' : World, Below w.heap.size w w' → Calls Tryz.prog 41 #[.int .i64 x48] w' (Vc.Ret (.int .i64 x51) w')) ∧
  ∃ (x52 : Int), (∀ w' : World, Below w.heap.size w w' → Calls Tryz.prog 41 #[.int .i64 0] w' (Vc.Ret (.int .i64 x52) w')) ∧
  ∃ (x53 : Int), (∀ w' : World, Below w.heap.size w w' → Calls Tryz.prog 42 #[.int .i64 x49] w' (Vc.Ret (.int .i64 x53) w')) ∧
  ∃ (x54 : Int), (∀ w' : World, Below w.heap.size w w' → Calls Tryz.prog 42 #[.int .i64 0] w' (Vc.Ret (.int .i64 x54) w')) ∧
  ∃ (b1 : Bool), (∀ w' : World, Below w.heap.size w w' → Calls Tryz.prog 34 #[.agg #[.int .i64 x51, .int .i64 x52, .int .i64 x53, .int .i64 x54]] w' (Vc.Ret (.bool b1) w')) ∧
  ((b1 = true) → (
  (.tuple #[.agg #[.int .i64 x51, .int .i64 x52, .int .i64 x53, .int .i64 x54], .int .i64 0] : Value) = v)) ∧ (¬ (b1 = true) → (
  (.tuple #[.agg #[.int .i64 0, .int .i64 0, .int .i64 0, .int .i64 0], .int .i64 4] : Value) = v)))) ∧ (¬ (x50 = 0) → (
  (.tuple #[.agg #[.int .i64 0, .int .i64 0, .int .i64 0, .int .i64 0], .int .i64 x50] : Value) = v)))))) ∧ (¬ (x47 = 0) → (
  ((x47 = 0) → (
  ∃ (x48 : Int), (∀ w' : World, Below w.heap.size w w' → Calls Tryz.prog 41 #[.int .i64 x42] w' (Vc.Ret (.int .i64 x48) w')) ∧
  ∃ (x49 : Int), (∀ w' : World, Below w.heap.size w w' → Calls Tryz.prog 41 #[.int .i64 0] w' (Vc.Ret (.int .i64 x49) w')) ∧
  ∃ (x50 : Int), (∀ w' : World, Below w.heap.size w w' → Calls Tryz.prog 42 #[.int .i64 x43] w' (Vc.Ret (.int .i64 x50) w')) ∧
  ∃ (x51 : Int), (∀ w' : World, Below w.heap.size w w' → Calls Tryz.prog 42 #[.int .i64 0] w' (Vc.Ret (.int .i64 x51) w')) ∧
  ∃ (b1 : Bool), (∀ w' : World, Below w.heap.size w w' → Calls Tryz.prog 34 #[.agg #[.int .i64 x48, .int .i64 x49, .int .i64 x50, .int .i64 x51]] w' (Vc.Ret (.bool b1) w')) ∧
  ((b1 = true) → (
  (.tuple #[.agg #[.int .i64 x48, .int .i64 x49, .int .i64 x50, .int .i64 x51], .int .i64 0] : Value) = v)) ∧ (¬ (b1 = true) → (
  (.tuple #[.agg #[.int .i64 0, .int .i64 0, .int .i64 0, .int .i64 0], .int .i64 4] : Value) = v)))) ∧ (¬ (x47 = 0) → (
  (.tuple #[.agg #[.int .i64 0, .int .i64 0, .int .i64 0, .int .i64 0], .int .i64 x47] : Value) = v)))))) ∧ (¬ (x44 = 0) → (
  ((x44 = 0) → (
  ∃ (x45 : Int), (∀ w' : World, Below w.heap.size w w' → Calls Tryz.prog 41 #[.int .i64 x42] w' (Vc.Ret (.int .i64 x45) w')) ∧
  ∃ (x46 : Int), (∀ w' : World, Below w.heap.size w w' → Calls Tryz.prog 41 #[.int .i64 0] w' (Vc.Ret (.int .i64 x46) w')) ∧
  ∃ (x47 : Int), (∀ w' : World, Below w.heap.size w w' → Calls Tryz.prog 42 #[.int .i64 x43] w' (Vc.Ret (.int .i64 x47) w')) ∧
  ∃ (x48 : Int), (∀ w' : World, Below w.heap.size w w' → Calls Tryz.prog 42 #[.int .i64 0] w' (Vc.Ret (.int .i64 x48) w')) ∧
  ∃ (b1 : Bool), (∀ w' : World, Below w.heap.size w w' → Calls Tryz.prog 34 #[.agg #[.int .i64 x45, .int .i64 x46, .int .i64 x47, .int .i64 x48]] w' (Vc.Ret (.bool b1) w')) ∧
  ((b1 = true) → (
  (.tuple #[.agg #[.int .i64 x45, .int .i64 x46, .int .i64 x47, .int .i64 x48], .int .i64 0] : Value) = v)) ∧ (¬ (b1 = true) → (
  (.tuple #[.agg #[.int .i64 0, .int .i64 0, .int .i64 0, .int .i64 0], .int .i64 4] : Value) = v)))) ∧ (¬ (x44 = 0) → (
  (.tuple #[.agg #[.int .i64 0, .int .i64 0, .int .i64 0, .int .i64 0], .int .i64 x44] : Value) = v)))))) ∧ (¬ (x41 = 0) → (
  ((x41 = 0) → (
  ∃ (x42 : Int), (∀ w' : World, Below w.heap.size w w' → Calls Tryz.prog 41 #[.int .i64 0] w' (Vc.Ret (.int .i64 x42) w')) ∧
  ∃ (x43 : Int), (∀ w' : World, Below w.heap.size w w' → Calls Tryz.prog 41 #[.int .i64 0] w' (Vc.Ret (.int .i64 x43) w')) ∧
  ∃ (x44 : Int), (∀ w' : World, Below w.heap.size w w' → Calls Tryz.prog 42 #[.int .i64 0] w' (Vc.Ret (.int .i64 x44) w')) ∧
  ∃ (x45 : Int), (∀ w' : World, Below w.heap.size w w' → Calls Tryz.prog 42 #[.int .i64 0] w' (Vc.Ret (.int .i64 x45) w')) ∧
  ∃ (b1 : Bool), (∀ w' : World, Below w.heap.size w w' → Calls Tryz.prog 34 #[.agg #[.int .i64 x42, .int .i64 x43, .int .i64 x44, .int .i64 x45]] w' (Vc.Ret (.bool b1) w')) ∧
  ((b1 = true) → (
  (.tuple #[.agg #[.int .i64 x42, .int .i64 x43, .int .i64 x44, .int .i64 x45], .int .i64 0] : Value) = v)) ∧ (¬ (b1 = true) → (
  (.tuple #[.agg #[.int .i64 0, .int .i64 0, .int .i64 0, .int .i64 0], .int .i64 4] : Value) = v)))) ∧ (¬ (x41 = 0) → (
  (.tuple #[.agg #[.int .i64 0, .int .i64 0, .int .i64 0, .int .i64 0], .int .i64 x41] : Value) = v)))))) ∧ (¬ (x38 = 0) → (
  ((x38 = 0) → (
  ∃ (x39 : Int), (∀ w' : World, Below w.heap.size w w' → Calls Tryz.prog 41 #[.int .i64 0] w' (Vc.Ret (.int .i64 x39) w')) ∧
  ∃ (x40 : Int), (∀ w' : World, Below w.heap.size w w' → Calls Tryz.prog 41 #[.int .i64 0] w' (Vc.Ret (.int .i64 x40) w')) ∧
  ∃ (x41 : Int), (∀ w' : World, Below w.heap.size w w' → Calls Tryz.prog 42 #[.int .i64 0] w' (Vc.Ret (.int .i64 x41) w')) ∧
  ∃ (x42 : Int), (∀ w' : World, Below w.heap.size w w' → Calls Tryz.prog 42 #[.int .i64 0] w' (Vc.Ret (.int .i64 x42) w')) ∧
  ∃ (b1 : Bool), (∀ w' : World, Below w.heap.size w w' → Calls Tryz.prog 34 #[.agg #[.int .i64 x39, .int .i64 x40, .int .i64 x41, .int .i64 x42]] w' (Vc.Ret (.bool b1) w')) ∧
  ((b1 = true) → (
  (.tuple #[.agg #[.int .i64 x39, .int .i64 x40, .int .i64 x41, .int .i64 x42], .int .i64 0] : Value) = v)) ∧ (¬ (b1 = true) → (
  (.tuple #[.agg #[.int .i64 0, .int .i64 0, .int .i64 0, .int .i64 0], .int .i64 4] : Value) = v)))) ∧ (¬ (x38 = 0) → (
  (.tuple #[.agg #[.int .i64 0, .int .i64 0, .int .i64 0, .int .i64 0], .int .i64 x38] : Value) = v)))))) ∧ (¬ (x35 = 0) → (
  ((x35 = 0) → (
  ∃ (x36 : Int), (∀ w' : World, Below w.heap.size w w' → Calls Tryz.prog 41 #[.int .i64 0] w' (Vc.Ret (.int .i64 x36) w')) ∧
  ∃ (x37 : Int), (∀ w' : World, Below w.heap.size w w' → Calls Tryz.prog 41 #[.int .i64 0] w' (Vc.Ret (.int .i64 x37) w')) ∧
  ∃ (x38 : Int), (∀ w' : World, Below w.heap.size w w' → Calls Tryz.prog 42 #[.int .i64 0] w' (Vc.Ret (.int .i64 x38) w')) ∧
  ∃ (x39 : Int), (∀ w' : World, Below w.heap.size w w' → Calls Tryz.prog 42 #[.int .i64 0] w' (Vc.Ret (.int .i64 x39) w')) ∧
  ∃ (b1 : Bool), (∀ w' : World, Below w.heap.size w w' → Calls Tryz.prog 34 #[.agg #[.int .i64 x36, .int .i64 x37, .int .i64 x38, .int .i64 x39]] w' (Vc.Ret (.bool b1) w')) ∧
  ((b1 = true) → (
  (.tuple #[.agg #[.int .i64 x36, .int .i64 x37, .int .i64 x38, .int .i64 x39], .int .i64 0] : Value) = v)) ∧ (¬ (b1 = true) → (
  (.tuple #[.agg #[.int .i64 0, .int .i64 0, .int .i64 0, .int .i64 0], .int .i64 4] : Value) = v)))) ∧ (¬ (x35 = 0) → (
  (.tuple #[.agg #[.int .i64 0, .int .i64 0, .int .i64 0, .int .i64 0], .int .i64 x35] : Value) = v)))))) ∧ (¬ (x32 = 0) → (
  ((x32 = 0) → (
  ∃ (x33 : Int), (∀ w' : World, Below w.heap.size w w' → Calls Tryz.prog 41 #[.int .i64 0] w' (Vc.Ret (.int .i64 x33) w')) ∧
  ∃ (x34 : Int), (∀ w' : World, Below w.heap.size w w' → Calls Tryz.prog 41 #[.int .i64 0] w' (Vc.Ret (.int .i64 x34) w')) ∧
  ∃ (x35 : Int), (∀ w' : World, Below w.heap.size w w' → Calls Tryz.prog 42 #[.int .i64 0] w' (Vc.Ret (.int .i64 x35) w')) ∧
  ∃ (x36 : Int), (∀ w' : World, Below w.heap.size w w' → Calls Tryz.prog 42 #[.int .i64 0] w' (Vc.Ret (.int .i64 x36) w')) ∧
  ∃ (b1 : Bool), (∀ w' : World, Below w.heap.size w w' → Calls Tryz.prog 34 #[.agg #[.int .i64 x33, .int .i64 x34, .int .i64 x35, .int .i64 x36]] w' (Vc.Ret (.bool b1) w')) ∧
  ((b1 = true) → (
  (.tuple #[.agg #[.int .i64 x33, .int .i64 x34, .int .i64 x35, .int .i64 x36], .int .i64 0] : Value) = v)) ∧ (¬ (b1 = true) → (
  (.tuple #[.agg #[.int .i64 0, .int .i64 0, .int .i64 0, .int .i64 0], .int .i64 4] : Value) = v)))) ∧ (¬ (x32 = 0) → (
  (.tuple #[.agg #[.int .i64 0, .int .i64 0, .int .i64 0, .int .i64 0], .int .i64 x32] : Value) = v)))))) ∧ (¬ (x29 = 0) → (
  ((x29 = 0) → (
  ∃ (x30 : Int), (∀ w' : World, Below w.heap.size w w' → Calls Tryz.prog 41 #[.int .i64 0] w' (Vc.Ret (.int .i64 x30) w')) ∧
  ∃ (x31 : Int), (∀ w' : World, Below w.heap.size w w' → Calls Tryz.prog 41 #[.int .i64 0] w' (Vc.Ret (.int .i64 x31) w')) ∧
  ∃ (x32 : Int), (∀ w' : World, Below w.heap.size w w' → Calls Tryz.prog 42 #[.int .i64 0] w' (Vc.Ret (.int .i64 x32) w')) ∧
  ∃ (x33 : Int), (∀ w' : World, Below w.heap.size w w' → Calls Tryz.prog 42 #[.int .i64 0] w' (Vc.Ret (.int .i64 x33) w')) ∧
  ∃ (b1 : Bool), (∀ w' : World, Below w.heap.size w w' → Calls Tryz.prog 34 #[.agg #[.int .i64 x30, .int .i64 x31, .int .i64 x32, .int .i64 x33]] w' (Vc.Ret (.bool b1) w')) ∧
  ((b1 = true) → (
  (.tuple #[.agg #[.int .i64 x30, .int .i64 x31, .int .i64 x32, .int .i64 x33], .int .i64 0] : Value) = v)) ∧ (¬ (b1 = true) → (
  (.tuple #[.agg #[.int .i64 0, .int .i64 0, .int .i64 0, .int .i64 0], .int .i64 4] : Value) = v)))) ∧ (¬ (x29 = 0) → (
  (.tuple #[.agg #[.int .i64 0, .int .i64 0, .int .i64 0, .int .i64 0], .int .i64 x29] : Value) = v)))))) ∧ (¬ (x26 = 0) → (
  ((x26 = 0) → (
  ∃ (x27 : Int), (∀ w' : World, Below w.heap.size w w' → Calls Tryz.prog 41 #[.int .i64 0] w' (Vc.Ret (.int .i64 x27) w')) ∧
  ∃ (x28 : Int), (∀ w' : World, Below w.heap.size w w' → Calls Tryz.prog 41 #[.int .i64 0] w' (Vc.Ret (.int .i64 x28) w')) ∧
  ∃ (x29 : Int), (∀ w' : World, Below w.heap.size w w' → Calls Tryz.prog 42 #[.int .i64 0] w' (Vc.Ret (.int .i64 x29) w')) ∧
  ∃ (x30 : Int), (∀ w' : World, Below w.heap.size w w' → Calls Tryz.prog 42 #[.int .i64 0] w' (Vc.Ret (.int .i64 x30) w')) ∧
  ∃ (b1 : Bool), (∀ w' : World, Below w.heap.size w w' → Calls Tryz.prog 34 #[.agg #[.int .i64 x27, .int .i64 x28, .int .i64 x29, .int .i64 x30]] w' (Vc.Ret (.bool b1) w')) ∧
  ((b1 = true) → (
  (.tuple #[.agg #[.int .i64 x27, .int .i64 x28, .int .i64 x29, .int .i64 x30], .int .i64 0] : Value) = v)) ∧ (¬ (b1 = true) → (
  (.tuple #[.agg #[.int .i64 0, .int .i64 0, .int .i64 0, .int .i64 0], .int .i64 4] : Value) = v)))) ∧ (¬ (x26 = 0) → (
  (.tuple #[.agg #[.int .i64 0, .int .i64 0, .int .i64 0, .int .i64 0], .int .i64 x26] : Value) = v)))))) ∧ (¬ (x23 = 0) → (
  ((x23 = 0) → (
  ∃ (x24 : Int), (∀ w' : World, Below w.heap.size w w' → Calls Tryz.prog 41 #[.int .i64 0] w' (Vc.Ret (.int .i64 x24) w')) ∧
  ∃ (x25 : Int), (∀ w' : World, Below w.heap.size w w' → Calls Tryz.prog 41 #[.int .i64 0] w' (Vc.Ret (.int .i64 x25) w')) ∧
  ∃ (x26 : Int), (∀ w' : World, Below w.heap.size w w' → Calls Tryz.prog 42 #[.int .i64 0] w' (Vc.Ret (.int .i64 x26) w')) ∧
  ∃ (x27 : Int), (∀ w' : World, Below w.heap.size w w' → Calls Tryz.prog 42 #[.int .i64 0] w' (Vc.Ret (.int .i64 x27) w')) ∧
  ∃ (b1 : Bool), (∀ w' : World, Below w.heap.size w w' → Calls Tryz.prog 34 #[.agg #[.int .i64 x24, .int .i64 x25, .int .i64 x26, .int .i64 x27]] w' (Vc.Ret (.bool b1) w')) ∧
  ((b1 = true) → (
  (.tuple #[.agg #[.int .i64 x24, .int .i64 x25, .int .i64 x26, .int .i64 x27], .int .i64 0] : Value) = v)) ∧ (¬ (b1 = true) → (
  (.tuple #[.agg #[.int .i64 0, .int .i64 0, .int .i64 0, .int .i64 0], .int .i64 4] : Value) = v)))) ∧ (¬ (x23 = 0) → (
  (.tuple #[.agg #[.int .i64 0, .int .i64 0, .int .i64 0, .int .i64 0], .int .i64 x23] : Value) = v)))))) ∧ (¬ (x20 = 0) → (
  ((x20 = 0) → (
  ∃ (x21 : Int), (∀ w' : World, Below w.heap.size w w' → Calls Tryz.prog 41 #[.int .i64 0] w' (Vc.Ret (.int .i64 x21) w')) ∧
  ∃ (x22 : Int), (∀ w' : World, Below w.heap.size w w' → Calls Tryz.prog 41 #[.int .i64 0] w' (Vc.Ret (.int .i64 x22) w')) ∧
  ∃ (x23 : Int), (∀ w' : World, Below w.heap.size w w' → Calls Tryz.prog 42 #[.int .i64 0] w' (Vc.Ret (.int .i64 x23) w')) ∧
  ∃ (x24 : Int), (∀ w' : World, Below w.heap.size w w' → Calls Tryz.prog 42 #[.int .i64 0] w' (Vc.Ret (.int .i64 x24) w')) ∧
  ∃ (b1 : Bool), (∀ w' : World, Below w.heap.size w w' → Calls Tryz.prog 34 #[.agg #[.int .i64 x21, .int .i64 x22, .int .i64 x23, .int .i64 x24]] w' (Vc.Ret (.bool b1) w')) ∧
  ((b1 = true) → (
  (.tuple #[.agg #[.int .i64 x21, .int .i64 x22, .int .i64 x23, .int .i64 x24], .int .i64 0] : Value) = v)) ∧ (¬ (b1 = true) → (
  (.tuple #[.agg #[.int .i64 0, .int .i64 0, .int .i64 0, .int .i64 0], .int .i64 4] : Value) = v)))) ∧ (¬ (x20 = 0) → (
  (.tuple #[.agg #[.int .i64 0, .int .i64 0, .int .i64 0, .int .i64 0], .int .i64 x20] : Value) = v)))))) ∧ (¬ (b0 = true) → (
  (.tuple #[.agg #[.int .i64 0, .int .i64 0, .int .i64 0, .int .i64 0], .int .i64 2] : Value) = v))) : Calls Tryz.prog 13 #[.agg #[.int .i64 x0, .int .i64 x1, .int .i64 x2, .int .i64 x3, .int .i64 x4, .int .i64 x5, .int .i64 x6, .int .i64 x7, .int .i64 x8, .int .i64 x9, .int .i64 x10, .int .i64 x11, .int .i64 x12, .int .i64 x13, .int .i64 x14, .int .i64 x15, .int .i64 x16, .int .i64 x17]] w (Vc.Ret v w) :=
  Vc.pure_of (base_inl [40] (by kernel_rfl)) [(6, .unroll)] 200 Tryz.func13 (b := (Tryz.f13.body).getD .skip) (by kernel_rfl) [.cv (.agg [.int .i64 (.var 0), .int .i64 (.var 1), .int .i64 (.var 2), .int .i64 (.var 3), .int .i64 (.var 4), .int .i64 (.var 5), .int .i64 (.var 6), .int .i64 (.var 7), .int .i64 (.var 8), .int .i64 (.var 9), .int .i64 (.var 10), .int .i64 (.var 11), .int .i64 (.var 12), .int .i64 (.var 13), .int .i64 (.var 14), .int .i64 (.var 15), .int .i64 (.var 16), .int .i64 (.var 17)])] ⟨18, 0, 0, 0, 0, 0, 0⟩ (Vc.envOf [x0, x1, x2, x3, x4, x5, x6, x7, x8, x9, x10, x11, x12, x13, x14, x15, x16, x17] [] [] []) (by kernel_rfl) (by kernel_rfl) (by kernel_rfl) h

theorem vc_safety_down (x0 : Int) (w : World) (v : Value) (h : 
  ((x0 < (-4503599627370496)) → (
  (.int .i64 536870913 : Value) = v)) ∧ (¬ (x0 < (-4503599627370496)) → (
  ((4503599627370496 < x0) → (
  (.int .i64 536870913 : Value) = v)) ∧ (¬ (4503599627370496 < x0) → (
  ∀ x1 : Int, x1 = IntKind.i64.wrap (x0 * 1000) →
  ∀ x2 : Int, x2 = x1 / 4294967296 →
  (.int .i64 x2 : Value) = v))))) : Calls Tryz.prog 41 #[.int .i64 x0] w (Vc.Ret v w) :=
  Vc.pure_of base [] 200 Tryz.func41 (b := (Tryz.f41.body).getD .skip) (by kernel_rfl) [.cv (.one (.int .i64 (.var 0)))] ⟨1, 0, 0, 0, 0, 0, 0⟩ (Vc.envOf [x0] [] [] []) (by kernel_rfl) (by kernel_rfl) (by kernel_rfl) h

theorem vc_safety_up (x0 : Int) (w : World) (v : Value) (h : 
  ∀ x1 : Int, x1 = IntKind.i64.wrap (0 - x0) →
  ∃ (x2 : Int), (∀ w' : World, Below w.heap.size w w' → Calls Tryz.prog 41 #[.int .i64 x1] w' (Vc.Ret (.int .i64 x2) w')) ∧
  ∀ x3 : Int, x3 = IntKind.i64.wrap (0 - x2) →
  (.int .i64 x3 : Value) = v) : Calls Tryz.prog 42 #[.int .i64 x0] w (Vc.Ret v w) :=
  Vc.pure_of base [] 200 Tryz.func42 (b := (Tryz.f42.body).getD .skip) (by kernel_rfl) [.cv (.one (.int .i64 (.var 0)))] ⟨1, 0, 0, 0, 0, 0, 0⟩ (Vc.envOf [x0] [] [] []) (by kernel_rfl) (by kernel_rfl) (by kernel_rfl) h

theorem vc_safety_square (x0 x1 x2 x3 : Int) (w : World) (v : Value) (h : 
  ∃ (x4 : Int), ∃ (x5 : Int), ∃ (x6 : Int), (∀ w' : World, Below w.heap.size w w' → Calls Tryz.prog 116 #[.agg #[.int .i64 x0, .int .i64 x1]] w' (Vc.Ret (.tuple #[.agg #[.int .i64 x4, .int .i64 x5], .int .i64 x6]) w')) ∧
  (.tuple #[.agg #[.int .i64 x4, .int .i64 x5], .int .i64 x6] : Value) = v) : Calls Tryz.prog 84 #[.agg #[.int .i64 x0, .int .i64 x1], .agg #[.int .i64 x2, .int .i64 x3]] w (Vc.Ret v w) :=
  Vc.pure_of base [] 200 Tryz.func84 (b := (Tryz.f84.body).getD .skip) (by kernel_rfl) [.cv (.agg [.int .i64 (.var 0), .int .i64 (.var 1)]), .cv (.agg [.int .i64 (.var 2), .int .i64 (.var 3)])] ⟨4, 0, 0, 0, 0, 0, 0⟩ (Vc.envOf [x0, x1, x2, x3] [] [] []) (by kernel_rfl) (by kernel_rfl) (by kernel_rfl) h

theorem vc_safety_double (x0 x1 x2 x3 : Int) (w : World) (v : Value) (h : 
  ∃ (x4 : Int), ∃ (x5 : Int), ∃ (x6 : Int), (∀ w' : World, Below w.heap.size w w' → Calls Tryz.prog 117 #[.agg #[.int .i64 x0, .int .i64 x1], .int .i64 2] w' (Vc.Ret (.tuple #[.agg #[.int .i64 x4, .int .i64 x5], .int .i64 x6]) w')) ∧
  (.tuple #[.agg #[.int .i64 x4, .int .i64 x5], .int .i64 x6] : Value) = v) : Calls Tryz.prog 85 #[.agg #[.int .i64 x0, .int .i64 x1], .agg #[.int .i64 x2, .int .i64 x3]] w (Vc.Ret v w) :=
  Vc.pure_of base [] 200 Tryz.func85 (b := (Tryz.f85.body).getD .skip) (by kernel_rfl) [.cv (.agg [.int .i64 (.var 0), .int .i64 (.var 1)]), .cv (.agg [.int .i64 (.var 2), .int .i64 (.var 3)])] ⟨4, 0, 0, 0, 0, 0, 0⟩ (Vc.envOf [x0, x1, x2, x3] [] [] []) (by kernel_rfl) (by kernel_rfl) (by kernel_rfl) h

theorem vc_safety_root (x0 x1 x2 x3 : Int) (w : World) (v : Value) (h : 
  ∃ (x4 : Int), ∃ (x5 : Int), ∃ (x6 : Int), (∀ w' : World, Below w.heap.size w w' → Calls Tryz.prog 127 #[.agg #[.int .i64 x0, .int .i64 x1]] w' (Vc.Ret (.tuple #[.agg #[.int .i64 x4, .int .i64 x5], .int .i64 x6]) w')) ∧
  (.tuple #[.agg #[.int .i64 x4, .int .i64 x5], .int .i64 x6] : Value) = v) : Calls Tryz.prog 88 #[.agg #[.int .i64 x0, .int .i64 x1], .agg #[.int .i64 x2, .int .i64 x3]] w (Vc.Ret v w) :=
  Vc.pure_of base [] 200 Tryz.func88 (b := (Tryz.f88.body).getD .skip) (by kernel_rfl) [.cv (.agg [.int .i64 (.var 0), .int .i64 (.var 1)]), .cv (.agg [.int .i64 (.var 2), .int .i64 (.var 3)])] ⟨4, 0, 0, 0, 0, 0, 0⟩ (Vc.envOf [x0, x1, x2, x3] [] [] []) (by kernel_rfl) (by kernel_rfl) (by kernel_rfl) h

theorem vc_safety_forward (x0 x1 x2 x3 : Int) (w : World) (v : Value) (h : 
  ∃ (x4 : Int), ∃ (x5 : Int), ∃ (x6 : Int), (∀ w' : World, Below w.heap.size w w' → Calls Tryz.prog 128 #[.agg #[.int .i64 x0, .int .i64 x1], .agg #[.int .i64 x2, .int .i64 x3]] w' (Vc.Ret (.tuple #[.agg #[.int .i64 x4, .int .i64 x5], .int .i64 x6]) w')) ∧
  ∀ x7 : Int, x7 = (if x4 > 0 then x4 else 0) →
  (.tuple #[.agg #[.int .i64 x7, .int .i64 x5], .int .i64 x6] : Value) = v) : Calls Tryz.prog 89 #[.agg #[.int .i64 x0, .int .i64 x1], .agg #[.int .i64 x2, .int .i64 x3]] w (Vc.Ret v w) :=
  Vc.pure_of base [] 200 Tryz.func89 (b := (Tryz.f89.body).getD .skip) (by kernel_rfl) [.cv (.agg [.int .i64 (.var 0), .int .i64 (.var 1)]), .cv (.agg [.int .i64 (.var 2), .int .i64 (.var 3)])] ⟨4, 0, 0, 0, 0, 0, 0⟩ (Vc.envOf [x0, x1, x2, x3] [] [] []) (by kernel_rfl) (by kernel_rfl) (by kernel_rfl) h

theorem vc_safety_valid (x0 x1 x2 x3 x4 x5 x6 x7 x8 x9 x10 x11 x12 x13 x14 x15 x16 x17 : Int) (w : World) (v : Value) (h : 
  ∃ (x18 : Int), (∀ w' : World, Below w.heap.size w w' → Calls Tryz.prog 83 #[.agg #[.int .i64 x0, .int .i64 x1]] w' (Vc.Ret (.int .i64 x18) w')) ∧
  ((x18 = 0) → (
  ∃ (x19 : Int), (∀ w' : World, Below w.heap.size w w' → Calls Tryz.prog 83 #[.agg #[.int .i64 x2, .int .i64 x3]] w' (Vc.Ret (.int .i64 x19) w')) ∧
  ((x19 = 0) → (
  ∃ (x20 : Int), (∀ w' : World, Below w.heap.size w w' → Calls Tryz.prog 83 #[.agg #[.int .i64 x4, .int .i64 x5]] w' (Vc.Ret (.int .i64 x20) w')) ∧
  ((x20 = 0) → (
  ∃ (x21 : Int), (∀ w' : World, Below w.heap.size w w' → Calls Tryz.prog 83 #[.agg #[.int .i64 x6, .int .i64 x7]] w' (Vc.Ret (.int .i64 x21) w')) ∧
  ((x21 = 0) → (
  ∃ (x22 : Int), (∀ w' : World, Below w.heap.size w w' → Calls Tryz.prog 83 #[.agg #[.int .i64 x8, .int .i64 x9]] w' (Vc.Ret (.int .i64 x22) w')) ∧
  ((x22 = 0) → (
  ∃ (x23 : Int), (∀ w' : World, Below w.heap.size w w' → Calls Tryz.prog 83 #[.agg #[.int .i64 x10, .int .i64 x11]] w' (Vc.Ret (.int .i64 x23) w')) ∧
  ((x23 = 0) → (
  ∃ (x24 : Int), (∀ w' : World, Below w.heap.size w w' → Calls Tryz.prog 83 #[.agg #[.int .i64 x12, .int .i64 x13]] w' (Vc.Ret (.int .i64 x24) w')) ∧
  ((x24 = 0) → (
  ∃ (x25 : Int), (∀ w' : World, Below w.heap.size w w' → Calls Tryz.prog 83 #[.agg #[.int .i64 x14, .int .i64 x15]] w' (Vc.Ret (.int .i64 x25) w')) ∧
  ((x25 = 0) → (
  ∃ (x26 : Int), (∀ w' : World, Below w.heap.size w w' → Calls Tryz.prog 83 #[.agg #[.int .i64 x16, .int .i64 x17]] w' (Vc.Ret (.int .i64 x26) w')) ∧
  ((x26 = 0) → (
  ((0 < x12) → (
  (.bool (decide (x4 ≥ 0)) : Value) = v)) ∧ (¬ (0 < x12) → (
  (.bool false : Value) = v)))) ∧ (¬ (x26 = 0) → (
  (.bool false : Value) = v)))) ∧ (¬ (x25 = 0) → (
  (.bool false : Value) = v)))) ∧ (¬ (x24 = 0) → (
  (.bool false : Value) = v)))) ∧ (¬ (x23 = 0) → (
  (.bool false : Value) = v)))) ∧ (¬ (x22 = 0) → (
  (.bool false : Value) = v)))) ∧ (¬ (x21 = 0) → (
  (.bool false : Value) = v)))) ∧ (¬ (x20 = 0) → (
  (.bool false : Value) = v)))) ∧ (¬ (x19 = 0) → (
  (.bool false : Value) = v)))) ∧ (¬ (x18 = 0) → (
  (.bool false : Value) = v))) : Calls Tryz.prog 39 #[.agg #[.int .i64 x0, .int .i64 x1, .int .i64 x2, .int .i64 x3, .int .i64 x4, .int .i64 x5, .int .i64 x6, .int .i64 x7, .int .i64 x8, .int .i64 x9, .int .i64 x10, .int .i64 x11, .int .i64 x12, .int .i64 x13, .int .i64 x14, .int .i64 x15, .int .i64 x16, .int .i64 x17]] w (Vc.Ret v w) :=
  Vc.pure_of base [(2, .unroll)] 200 Tryz.func39 (b := (Tryz.f39.body).getD .skip) (by kernel_rfl) [.cv (.agg [.int .i64 (.var 0), .int .i64 (.var 1), .int .i64 (.var 2), .int .i64 (.var 3), .int .i64 (.var 4), .int .i64 (.var 5), .int .i64 (.var 6), .int .i64 (.var 7), .int .i64 (.var 8), .int .i64 (.var 9), .int .i64 (.var 10), .int .i64 (.var 11), .int .i64 (.var 12), .int .i64 (.var 13), .int .i64 (.var 14), .int .i64 (.var 15), .int .i64 (.var 16), .int .i64 (.var 17)])] ⟨18, 0, 0, 0, 0, 0, 0⟩ (Vc.envOf [x0, x1, x2, x3, x4, x5, x6, x7, x8, x9, x10, x11, x12, x13, x14, x15, x16, x17] [] [] []) (by kernel_rfl) (by kernel_rfl) (by kernel_rfl) h

theorem vc_safety_near (x0 x1 : Int) (w : World) (v : Value) (h : 
  ∃ (x2 : Int), (∀ w' : World, Below w.heap.size w w' → Calls Tryz.prog 112 #[.int .i64 x0] w' (Vc.Ret (.int .i64 x2) w')) ∧
  ∀ x3 : Int, x3 = (if 536870912 < x1 then 536870912 else x1) →
  ∀ x4 : Int, x4 = (if x3 > (-536870912) then x3 else (-536870912)) →
  (.agg #[.int .i64 x2, .int .i64 x4] : Value) = v) : Calls Tryz.prog 68 #[.agg #[.int .i64 x0, .int .i64 x1]] w (Vc.Ret v w) :=
  Vc.pure_of (base_inl [112] (by kernel_rfl)) [] 200 Tryz.func68 (b := (Tryz.f68.body).getD .skip) (by kernel_rfl) [.cv (.agg [.int .i64 (.var 0), .int .i64 (.var 1)])] ⟨2, 0, 0, 0, 0, 0, 0⟩ (Vc.envOf [x0, x1] [] [] []) (by kernel_rfl) (by kernel_rfl) (by kernel_rfl) h

theorem vc_safety_apart_1_1 (p0 p1 : Nat × Nat) (x0 x1 : Int) (w : World) (v : Value) (h : 
  ∃ (x2 : Int), w.cell? ⟨p0.1, p0.2 + (Int.toNat 0) * 1 + 0, none⟩ = some (.int .i64 x2) ∧
  ∀ x3 : Int, x3 = IntKind.i64.wrap (x2 * x0) →
  ∃ (x4 : Int), w.cell? ⟨p1.1, p1.2 + (Int.toNat 0) * 1 + 0, none⟩ = some (.int .i64 x4) ∧
  ∀ x5 : Int, x5 = IntKind.i64.wrap (x4 * x1) →
  ∀ x6 : Int, x6 = IntKind.i64.wrap (x3 + x5) →
  (.int .i64 x6 : Value) = v) : Calls Tryz.prog 104 #[.agg #[.int .i64 x0, .int .i64 x1], .pointer (some ⟨p0.1, p0.2 + (Int.toNat 0) * 1 + 0, none⟩), .pointer (some ⟨p1.1, p1.2 + (Int.toNat 0) * 1 + 0, none⟩)] w (Vc.Ret v w) :=
  Vc.pure_of base [] 200 Tryz.func104 (b := (Tryz.f104.body).getD .skip) (by kernel_rfl) [.cv (.agg [.int .i64 (.var 0), .int .i64 (.var 1)]), .cv (.one (.ext 0 (.lit (0)) 1 0)), .cv (.one (.ext 1 (.lit (0)) 1 0))] ⟨2, 0, 0, 2, 0, 0, 0⟩ (Vc.envOf [x0, x1] [] [] [p0, p1]) (by kernel_rfl) (by kernel_rfl) (by kernel_rfl) h

theorem vc_safety_apart_1 (p0 p1 p2 : Nat × Nat) (x0 x1 : Int) (w : World) (v : Value) (h : 
  ∃ (b0 : Bool) (p3 : Nat × Nat) (x2 x3 : Int), w.cell? ⟨p0.1, p0.2 + (Int.toNat 0) * 1 + 0, none⟩ = some ((if b0 = true then .slice none 0 0 else .slice (some ⟨p3.1, p3.2, none⟩) (Int.toNat x2) (Int.toNat x3) : Value)) ∧
  (¬ (b0 = true)) ∧
  (0 < x2) ∧
  ∃ (x4 : Int), w.cell? ⟨p3.1, p3.2 + (Int.toNat 0) * 2 + 0, none⟩ = some (.int .i64 x4) ∧
  ∃ (x5 : Int), w.cell? ⟨p3.1, p3.2 + (Int.toNat 0) * 2 + 1, none⟩ = some (.int .i64 x5) ∧
  ∃ (x6 : Int), (∀ (β : Nat → Nat) (w' : World), Below w.heap.size w w' → ((w.heap.size ≤ β 0 ∧ w'.heap[β 0]? = some (.cells #[.int .i64 x0] 3)) ∧ (w.heap.size ≤ β 1 ∧ w'.heap[β 1]? = some (.cells #[.int .i64 x1] 3)) ∧ True) → Calls Tryz.prog 104 #[.agg #[.int .i64 x4, .int .i64 x5], Vc.ptr (β 0) 0, Vc.ptr (β 1) 0] w' (Vc.Ret (.int .i64 x6) w')) ∧
  (¬ (b0 = true)) ∧
  (0 < x2) ∧
  ∃ (x7 : Int), w.cell? ⟨p3.1, p3.2 + (Int.toNat 0) * 2 + 0, none⟩ = some (.int .i64 x7) ∧
  ∃ (x8 : Int), w.cell? ⟨p3.1, p3.2 + (Int.toNat 0) * 2 + 1, none⟩ = some (.int .i64 x8) ∧
  ∃ (x9 : Int), (∀ (β : Nat → Nat) (w' : World), Below w.heap.size w w' → ((w.heap.size ≤ β 0 ∧ w'.heap[β 0]? = some (.cells #[.int .i64 x0] 3)) ∧ (w.heap.size ≤ β 1 ∧ w'.heap[β 1]? = some (.cells #[.int .i64 x1] 3)) ∧ True) → Calls Tryz.prog 104 #[.agg #[.int .i64 x7, .int .i64 x8], Vc.ptr (β 0) 0, Vc.ptr (β 1) 0] w' (Vc.Ret (.int .i64 x9) w')) ∧
  (0 ≤ x2) ∧
  ((¬ (b0 = true)) ∨ (x2 = 0)) ∧
  ∃ (Ix10 : List Vc.Vl → Prop) (mx10 : List Vc.Vl → Nat), Ix10 [.i x6, .i x9, .i 0] ∧ ∀ (x10 : Int) (x11 : Int) (x12 : Int), Ix10 [.i x10, .i x11, .i x12] → (
  ((x12 < x2) → (
  (¬ (b0 = true)) ∧
  (0 ≤ x12) ∧
  (x12 < x2) ∧
  ∃ (x13 : Int), w.cell? ⟨p3.1, p3.2 + (Int.toNat x12) * 2 + 0, none⟩ = some (.int .i64 x13) ∧
  ∃ (x14 : Int), w.cell? ⟨p3.1, p3.2 + (Int.toNat x12) * 2 + 1, none⟩ = some (.int .i64 x14) ∧
  ∃ (x15 : Int), (∀ (β : Nat → Nat) (w' : World), Below w.heap.size w w' → ((w.heap.size ≤ β 0 ∧ w'.heap[β 0]? = some (.cells #[.int .i64 x0] 3)) ∧ (w.heap.size ≤ β 1 ∧ w'.heap[β 1]? = some (.cells #[.int .i64 x1] 3)) ∧ True) → Calls Tryz.prog 104 #[.agg #[.int .i64 x13, .int .i64 x14], Vc.ptr (β 0) 0, Vc.ptr (β 1) 0] w' (Vc.Ret (.int .i64 x15) w')) ∧
  ∀ x16 : Int, x16 = (if x15 < x10 then x15 else x10) →
  ∃ (x17 : Int), (∀ (β : Nat → Nat) (w' : World), Below w.heap.size w w' → ((w.heap.size ≤ β 0 ∧ w'.heap[β 0]? = some (.cells #[.int .i64 x0] 3)) ∧ (w.heap.size ≤ β 1 ∧ w'.heap[β 1]? = some (.cells #[.int .i64 x1] 3)) ∧ True) → Calls Tryz.prog 104 #[.agg #[.int .i64 x13, .int .i64 x14], Vc.ptr (β 0) 0, Vc.ptr (β 1) 0] w' (Vc.Ret (.int .i64 x17) w')) ∧
  ∀ x18 : Int, x18 = (if x17 > x11 then x17 else x11) →
  ∀ x19 : Int, x19 = IntKind.i64.wrap (x12 + 1) →
  Ix10 [.i x16, .i x18, .i x19] ∧ mx10 [.i x16, .i x18, .i x19] < mx10 [.i x10, .i x11, .i x12])) ∧ (¬ (x12 < x2) → (
  ∃ (b1 : Bool) (p4 : Nat × Nat) (x13 x14 : Int), w.cell? ⟨p1.1, p1.2 + (Int.toNat 0) * 1 + 0, none⟩ = some ((if b1 = true then .slice none 0 0 else .slice (some ⟨p4.1, p4.2, none⟩) (Int.toNat x13) (Int.toNat x14) : Value)) ∧
  (¬ (b1 = true)) ∧
  (0 < x13) ∧
  ∃ (x15 : Int), w.cell? ⟨p4.1, p4.2 + (Int.toNat 0) * 2 + 0, none⟩ = some (.int .i64 x15) ∧
  ∃ (x16 : Int), w.cell? ⟨p4.1, p4.2 + (Int.toNat 0) * 2 + 1, none⟩ = some (.int .i64 x16) ∧
  ∃ (x17 : Int), (∀ (β : Nat → Nat) (w' : World), Below w.heap.size w w' → ((w.heap.size ≤ β 0 ∧ w'.heap[β 0]? = some (.cells #[.int .i64 x0] 3)) ∧ (w.heap.size ≤ β 1 ∧ w'.heap[β 1]? = some (.cells #[.int .i64 x1] 3)) ∧ True) → Calls Tryz.prog 104 #[.agg #[.int .i64 x15, .int .i64 x16], Vc.ptr (β 0) 0, Vc.ptr (β 1) 0] w' (Vc.Ret (.int .i64 x17) w')) ∧
  (¬ (b1 = true)) ∧
  (0 < x13) ∧
  ∃ (x18 : Int), w.cell? ⟨p4.1, p4.2 + (Int.toNat 0) * 2 + 0, none⟩ = some (.int .i64 x18) ∧
  ∃ (x19 : Int), w.cell? ⟨p4.1, p4.2 + (Int.toNat 0) * 2 + 1, none⟩ = some (.int .i64 x19) ∧
  ∃ (x20 : Int), (∀ (β : Nat → Nat) (w' : World), Below w.heap.size w w' → ((w.heap.size ≤ β 0 ∧ w'.heap[β 0]? = some (.cells #[.int .i64 x0] 3)) ∧ (w.heap.size ≤ β 1 ∧ w'.heap[β 1]? = some (.cells #[.int .i64 x1] 3)) ∧ True) → Calls Tryz.prog 104 #[.agg #[.int .i64 x18, .int .i64 x19], Vc.ptr (β 0) 0, Vc.ptr (β 1) 0] w' (Vc.Ret (.int .i64 x20) w')) ∧
  (0 ≤ x13) ∧
  ((¬ (b1 = true)) ∨ (x13 = 0)) ∧
  ∃ (Ix21 : List Vc.Vl → Prop) (mx21 : List Vc.Vl → Nat), Ix21 [.i x17, .i x20, .i 0] ∧ ∀ (x21 : Int) (x22 : Int) (x23 : Int), Ix21 [.i x21, .i x22, .i x23] → (
  ((x23 < x13) → (
  (¬ (b1 = true)) ∧
  (0 ≤ x23) ∧
  (x23 < x13) ∧
  ∃ (x24 : Int), w.cell? ⟨p4.1, p4.2 + (Int.toNat x23) * 2 + 0, none⟩ = some (.int .i64 x24) ∧
  ∃ (x25 : Int), w.cell? ⟨p4.1, p4.2 + (Int.toNat x23) * 2 + 1, none⟩ = some (.int .i64 x25) ∧
  ∃ (x26 : Int), (∀ (β : Nat → Nat) (w' : World), Below w.heap.size w w' → ((w.heap.size ≤ β 0 ∧ w'.heap[β 0]? = some (.cells #[.int .i64 x0] 3)) ∧ (w.heap.size ≤ β 1 ∧ w'.heap[β 1]? = some (.cells #[.int .i64 x1] 3)) ∧ True) → Calls Tryz.prog 104 #[.agg #[.int .i64 x24, .int .i64 x25], Vc.ptr (β 0) 0, Vc.ptr (β 1) 0] w' (Vc.Ret (.int .i64 x26) w')) ∧
  ∀ x27 : Int, x27 = (if x26 < x21 then x26 else x21) →
  ∃ (x28 : Int), (∀ (β : Nat → Nat) (w' : World), Below w.heap.size w w' → ((w.heap.size ≤ β 0 ∧ w'.heap[β 0]? = some (.cells #[.int .i64 x0] 3)) ∧ (w.heap.size ≤ β 1 ∧ w'.heap[β 1]? = some (.cells #[.int .i64 x1] 3)) ∧ True) → Calls Tryz.prog 104 #[.agg #[.int .i64 x24, .int .i64 x25], Vc.ptr (β 0) 0, Vc.ptr (β 1) 0] w' (Vc.Ret (.int .i64 x28) w')) ∧
  ∀ x29 : Int, x29 = (if x28 > x22 then x28 else x22) →
  ∀ x30 : Int, x30 = IntKind.i64.wrap (x23 + 1) →
  Ix21 [.i x27, .i x29, .i x30] ∧ mx21 [.i x27, .i x29, .i x30] < mx21 [.i x21, .i x22, .i x23])) ∧ (¬ (x23 < x13) → (
  ∃ (x24 : Int), w.cell? ⟨p2.1, p2.2 + (Int.toNat 0) * 1 + 0, none⟩ = some (.int .i64 x24) ∧
  ∃ (x25 : Int), (∀ w' : World, Below w.heap.size w w' → Calls Tryz.prog 106 #[.int .i64 x0] w' (Vc.Ret (.int .i64 x25) w')) ∧
  ∃ (x26 : Int), (∀ w' : World, Below w.heap.size w w' → Calls Tryz.prog 106 #[.int .i64 x1] w' (Vc.Ret (.int .i64 x26) w')) ∧
  ∀ x27 : Int, x27 = IntKind.i64.wrap (x25 + x26) →
  ∀ x28 : Int, x28 = IntKind.i64.wrap (x24 * x27) →
  ∀ x29 : Int, x29 = IntKind.i64.wrap (x21 - x11) →
  ((x28 < x29) → (
  (.bool true : Value) = v)) ∧ (¬ (x28 < x29) → (
  ∀ x30 : Int, x30 = IntKind.i64.wrap (x10 - x22) →
  (.bool (decide (x30 > x28)) : Value) = v))))))))) : Calls Tryz.prog 103 #[.int .i64 x0, .int .i64 x1, .pointer (some ⟨p0.1, p0.2 + (Int.toNat 0) * 1 + 0, none⟩), .pointer (some ⟨p1.1, p1.2 + (Int.toNat 0) * 1 + 0, none⟩), .pointer (some ⟨p2.1, p2.2 + (Int.toNat 0) * 1 + 0, none⟩)] w (Vc.Ret v w) :=
  Vc.pure_of (base_inl [105] (by kernel_rfl)) [(3, .inv [] [3, 4, 19] [20, 21, 22, 6, 23, 24, 25, 26, 27, 28, 29, 30, 31, 32, 33])] 200 Tryz.func103 (b := (Tryz.f103.body).getD .skip) (by kernel_rfl) [.cv (.one (.int .i64 (.var 0))), .cv (.one (.int .i64 (.var 1))), .cv (.one (.ext 0 (.lit (0)) 1 0)), .cv (.one (.ext 1 (.lit (0)) 1 0)), .cv (.one (.ext 2 (.lit (0)) 1 0))] ⟨2, 0, 0, 3, 0, 0, 0⟩ (Vc.envOf [x0, x1] [] [] [p0, p1, p2]) (by kernel_rfl) (by kernel_rfl) (by kernel_rfl) h

theorem vc_safety_apart (p0 p1 : Nat × Nat) (x0 x1 x2 x3 x4 : Int) (b0 b1 : Bool) (w : World) (v : Value) (h : 
  ∃ (b2 : Bool), (∀ (β : Nat → Nat) (w' : World), Below w.heap.size w w' → ((w.heap.size ≤ β 0 ∧ w'.heap[β 0]? = some (.cells #[(if b0 = true then .slice none 0 0 else .slice (some ⟨p0.1, p0.2, none⟩) (Int.toNat x0) (Int.toNat x1) : Value)] 22)) ∧ (w.heap.size ≤ β 1 ∧ w'.heap[β 1]? = some (.cells #[(if b1 = true then .slice none 0 0 else .slice (some ⟨p1.1, p1.2, none⟩) (Int.toNat x2) (Int.toNat x3) : Value)] 22)) ∧ (w.heap.size ≤ β 2 ∧ w'.heap[β 2]? = some (.cells #[.int .i64 x4] 3)) ∧ True) → Calls Tryz.prog 103 #[.int .i64 1, .int .i64 0, Vc.ptr (β 0) 0, Vc.ptr (β 1) 0, Vc.ptr (β 2) 0] w' (Vc.Ret (.bool b2) w')) ∧
  ((b2 = true) → (
  (.bool true : Value) = v)) ∧ (¬ (b2 = true) → (
  ∃ (b3 : Bool), (∀ (β : Nat → Nat) (w' : World), Below w.heap.size w w' → ((w.heap.size ≤ β 0 ∧ w'.heap[β 0]? = some (.cells #[(if b0 = true then .slice none 0 0 else .slice (some ⟨p0.1, p0.2, none⟩) (Int.toNat x0) (Int.toNat x1) : Value)] 22)) ∧ (w.heap.size ≤ β 1 ∧ w'.heap[β 1]? = some (.cells #[(if b1 = true then .slice none 0 0 else .slice (some ⟨p1.1, p1.2, none⟩) (Int.toNat x2) (Int.toNat x3) : Value)] 22)) ∧ (w.heap.size ≤ β 2 ∧ w'.heap[β 2]? = some (.cells #[.int .i64 x4] 3)) ∧ True) → Calls Tryz.prog 103 #[.int .i64 0, .int .i64 1, Vc.ptr (β 0) 0, Vc.ptr (β 1) 0, Vc.ptr (β 2) 0] w' (Vc.Ret (.bool b3) w')) ∧
  ((b3 = true) → (
  (.bool true : Value) = v)) ∧ (¬ (b3 = true) → (
  (0 ≤ x0) ∧
  ((¬ (b0 = true)) ∨ (x0 = 0)) ∧
  ∃ (Ix5 : List Vc.Vl → Prop) (mx5 : List Vc.Vl → Nat), Ix5 [.i 0] ∧ ∀ (x5 : Int), Ix5 [.i x5] → (
  ((x5 < x0) → (
  (¬ (b0 = true)) ∧
  (0 ≤ x5) ∧
  (x5 < x0) ∧
  ∃ (x6 : Int), w.cell? ⟨p0.1, p0.2 + (Int.toNat x5) * 2 + 0, none⟩ = some (.int .i64 x6) ∧
  ∃ (x7 : Int), w.cell? ⟨p0.1, p0.2 + (Int.toNat x5) * 2 + 1, none⟩ = some (.int .i64 x7) ∧
  ∀ x8 : Int, x8 = IntKind.i64.wrap (x5 + 1) →
  (0 ≤ x0) ∧
  ((¬ (b0 = true)) ∨ (x0 = 0)) ∧
  (x0 ≠ 0) ∧
  ∀ x9 : Int, x9 = Int.tmod x8 x0 →
  (¬ (b0 = true)) ∧
  (0 ≤ x9) ∧
  (x9 < x0) ∧
  ∃ (x10 : Int), w.cell? ⟨p0.1, p0.2 + (Int.toNat x9) * 2 + 0, none⟩ = some (.int .i64 x10) ∧
  ∃ (x11 : Int), w.cell? ⟨p0.1, p0.2 + (Int.toNat x9) * 2 + 1, none⟩ = some (.int .i64 x11) ∧
  ∀ x12 : Int, x12 = IntKind.i64.wrap (x7 - x11) →
  ∀ x13 : Int, x13 = IntKind.i64.wrap (x10 - x6) →
  ∃ (b4 : Bool), (∀ (β : Nat → Nat) (w' : World), Below w.heap.size w w' → ((w.heap.size ≤ β 0 ∧ w'.heap[β 0]? = some (.cells #[(if b0 = true then .slice none 0 0 else .slice (some ⟨p0.1, p0.2, none⟩) (Int.toNat x0) (Int.toNat x1) : Value)] 22)) ∧ (w.heap.size ≤ β 1 ∧ w'.heap[β 1]? = some (.cells #[(if b1 = true then .slice none 0 0 else .slice (some ⟨p1.1, p1.2, none⟩) (Int.toNat x2) (Int.toNat x3) : Value)] 22)) ∧ (w.heap.size ≤ β 2 ∧ w'.heap[β 2]? = some (.cells #[.int .i64 x4] 3)) ∧ True) → Calls Tryz.prog 103 #[.int .i64 x12, .int .i64 x13, Vc.ptr (β 0) 0, Vc.ptr (β 1) 0, Vc.ptr (β 2) 0] w' (Vc.Ret (.bool b4) w')) ∧
  ((b4 = true) → (
  (.bool true : Value) = v)) ∧ (¬ (b4 = true) → (
  ∀ x14 : Int, x14 = IntKind.i64.wrap (x5 + 1) →
  Ix5 [.i x14] ∧ mx5 [.i x14] < mx5 [.i x5])))) ∧ (¬ (x5 < x0) → (
  (0 ≤ x2) ∧
  ((¬ (b1 = true)) ∨ (x2 = 0)) ∧
  ∃ (Ix6 : List Vc.Vl → Prop) (mx6 : List Vc.Vl → Nat), Ix6 [.i 0] ∧ ∀ (x6 : Int), Ix6 [.i x6] → (
  ((x6 < x2) → (
  (¬ (b1 = true)) ∧
  (0 ≤ x6) ∧
  (x6 < x2) ∧
  ∃ (x7 : Int), w.cell? ⟨p1.1, p1.2 + (Int.toNat x6) * 2 + 0, none⟩ = some (.int .i64 x7) ∧
  ∃ (x8 : Int), w.cell? ⟨p1.1, p1.2 + (Int.toNat x6) * 2 + 1, none⟩ = some (.int .i64 x8) ∧
  ∀ x9 : Int, x9 = IntKind.i64.wrap (x6 + 1) →
  (0 ≤ x2) ∧
  ((¬ (b1 = true)) ∨ (x2 = 0)) ∧
  (x2 ≠ 0) ∧
  ∀ x10 : Int, x10 = Int.tmod x9 x2 →
  (¬ (b1 = true)) ∧
  (0 ≤ x10) ∧
  (x10 < x2) ∧
  ∃ (x11 : Int), w.cell? ⟨p1.1, p1.2 + (Int.toNat x10) * 2 + 0, none⟩ = some (.int .i64 x11) ∧
  ∃ (x12 : Int), w.cell? ⟨p1.1, p1.2 + (Int.toNat x10) * 2 + 1, none⟩ = some (.int .i64 x12) ∧
  ∀ x13 : Int, x13 = IntKind.i64.wrap (x8 - x12) →
  ∀ x14 : Int, x14 = IntKind.i64.wrap (x11 - x7) →
  ∃ (b4 : Bool), (∀ (β : Nat → Nat) (w' : World), Below w.heap.size w w' → ((w.heap.size ≤ β 0 ∧ w'.heap[β 0]? = some (.cells #[(if b0 = true then .slice none 0 0 else .slice (some ⟨p0.1, p0.2, none⟩) (Int.toNat x0) (Int.toNat x1) : Value)] 22)) ∧ (w.heap.size ≤ β 1 ∧ w'.heap[β 1]? = some (.cells #[(if b1 = true then .slice none 0 0 else .slice (some ⟨p1.1, p1.2, none⟩) (Int.toNat x2) (Int.toNat x3) : Value)] 22)) ∧ (w.heap.size ≤ β 2 ∧ w'.heap[β 2]? = some (.cells #[.int .i64 x4] 3)) ∧ True) → Calls Tryz.prog 103 #[.int .i64 x13, .int .i64 x14, Vc.ptr (β 0) 0, Vc.ptr (β 1) 0, Vc.ptr (β 2) 0] w' (Vc.Ret (.bool b4) w')) ∧
  ((b4 = true) → (
  (.bool true : Value) = v)) ∧ (¬ (b4 = true) → (
  ∀ x15 : Int, x15 = IntKind.i64.wrap (x6 + 1) →
  Ix6 [.i x15] ∧ mx6 [.i x15] < mx6 [.i x6])))) ∧ (¬ (x6 < x2) → (
  (.bool false : Value) = v))))))))))) : Calls Tryz.prog 56 #[(if b0 = true then .slice none 0 0 else .slice (some ⟨p0.1, p0.2, none⟩) (Int.toNat x0) (Int.toNat x1) : Value), (if b1 = true then .slice none 0 0 else .slice (some ⟨p1.1, p1.2, none⟩) (Int.toNat x2) (Int.toNat x3) : Value), .int .i64 x4] w (Vc.Ret v w) :=
  Vc.pure_of (base_inl [74, 114] (by kernel_rfl)) [(5, .unroll), (1, .inv [] [7] [8, 9, 10, 11, 4, 3, 12, 13, 14, 15, 16, 17, 18, 19, 20, 21, 22, 23, 24])] 200 Tryz.func56 (b := (Tryz.f56.body).getD .skip) (by kernel_rfl) [.cv (.one (.qsl 0 0 2 (.var 0) (.var 1))), .cv (.one (.qsl 1 1 2 (.var 2) (.var 3))), .cv (.one (.int .i64 (.var 4)))] ⟨5, 2, 0, 2, 0, 0, 0⟩ (Vc.envOf [x0, x1, x2, x3, x4] [b0, b1] [] [p0, p1]) (by kernel_rfl) (by kernel_rfl) (by kernel_rfl) h

theorem vc_ullageref09_in (x0 x1 x2 : Int) (w : World) (v : Value) (h : 
  ((x1 ≤ x0) → (
  (.bool (decide (x0 ≤ x2)) : Value) = v)) ∧ (¬ (x1 ≤ x0) → (
  (.bool false : Value) = v))) : Calls Tryz.prog 57 #[.int .i64 x0, .int .i64 x1, .int .i64 x2] w (Vc.Ret v w) :=
  Vc.pure_of base [] 200 Tryz.func57 (b := (Tryz.f57.body).getD .skip) (by kernel_rfl) [.cv (.one (.int .i64 (.var 0))), .cv (.one (.int .i64 (.var 1))), .cv (.one (.int .i64 (.var 2)))] ⟨3, 0, 0, 0, 0, 0, 0⟩ (Vc.envOf [x0, x1, x2] [] [] []) (by kernel_rfl) (by kernel_rfl) (by kernel_rfl) h

theorem vc_ullageref09_do (x0 x1 x2 x3 : Int) (w : World) (v : Value) (h : 
  ((x0 = 0) → (
  (.tuple #[.agg #[.int .i64 x3], .agg #[.int .i64 x1, .int .i64 x2]] : Value) = v)) ∧ (¬ (x0 = 0) → (
  (.tuple #[.agg #[.int .i64 x0], .agg #[.int .i64 0, .int .i64 0]] : Value) = v))) : Calls Tryz.prog 45 #[.agg #[.int .i64 x0], .agg #[.int .i64 x1, .int .i64 x2], .int .i64 x3] w (Vc.Ret v w) :=
  Vc.pure_of base [] 200 Tryz.func45 (b := (Tryz.f45.body).getD .skip) (by kernel_rfl) [.cv (.agg [.int .i64 (.var 0)]), .cv (.agg [.int .i64 (.var 1), .int .i64 (.var 2)]), .cv (.one (.int .i64 (.var 3)))] ⟨4, 0, 0, 0, 0, 0, 0⟩ (Vc.envOf [x0, x1, x2, x3] [] [] []) (by kernel_rfl) (by kernel_rfl) (by kernel_rfl) h

theorem vc_ullageref09_add (x0 x1 x2 x3 x4 : Int) (w : World) (v : Value) (h : 
  ∃ (x5 : Int), ∃ (x6 : Int), ∃ (x7 : Int), (∀ w' : World, Below w.heap.size w w' → Calls Tryz.prog 96 #[.agg #[.int .i64 x1, .int .i64 x2], .agg #[.int .i64 x3, .int .i64 x4]] w' (Vc.Ret (.tuple #[.agg #[.int .i64 x5, .int .i64 x6], .int .i64 x7]) w')) ∧
  ∃ (x8 : Int), ∃ (x9 : Int), ∃ (x10 : Int), (∀ w' : World, Below w.heap.size w w' → Calls Tryz.prog 45 #[.agg #[.int .i64 x0], .agg #[.int .i64 x5, .int .i64 x6], .int .i64 x7] w' (Vc.Ret (.tuple #[.agg #[.int .i64 x8], .agg #[.int .i64 x9, .int .i64 x10]]) w')) ∧
  (.tuple #[.agg #[.int .i64 x8], .agg #[.int .i64 x9, .int .i64 x10]] : Value) = v) : Calls Tryz.prog 48 #[.agg #[.int .i64 x0], .agg #[.int .i64 x1, .int .i64 x2], .agg #[.int .i64 x3, .int .i64 x4]] w (Vc.Ret v w) :=
  Vc.pure_of base [] 200 Tryz.func48 (b := (Tryz.f48.body).getD .skip) (by kernel_rfl) [.cv (.agg [.int .i64 (.var 0)]), .cv (.agg [.int .i64 (.var 1), .int .i64 (.var 2)]), .cv (.agg [.int .i64 (.var 3), .int .i64 (.var 4)])] ⟨5, 0, 0, 0, 0, 0, 0⟩ (Vc.envOf [x0, x1, x2, x3, x4] [] [] []) (by kernel_rfl) (by kernel_rfl) (by kernel_rfl) h

theorem vc_ullageref09_mul (x0 x1 x2 x3 x4 : Int) (w : World) (v : Value) (h : 
  ∃ (x5 : Int), ∃ (x6 : Int), ∃ (x7 : Int), (∀ w' : World, Below w.heap.size w w' → Calls Tryz.prog 92 #[.agg #[.int .i64 x1, .int .i64 x2], .agg #[.int .i64 x3, .int .i64 x4]] w' (Vc.Ret (.tuple #[.agg #[.int .i64 x5, .int .i64 x6], .int .i64 x7]) w')) ∧
  ∃ (x8 : Int), ∃ (x9 : Int), ∃ (x10 : Int), (∀ w' : World, Below w.heap.size w w' → Calls Tryz.prog 45 #[.agg #[.int .i64 x0], .agg #[.int .i64 x5, .int .i64 x6], .int .i64 x7] w' (Vc.Ret (.tuple #[.agg #[.int .i64 x8], .agg #[.int .i64 x9, .int .i64 x10]]) w')) ∧
  (.tuple #[.agg #[.int .i64 x8], .agg #[.int .i64 x9, .int .i64 x10]] : Value) = v) : Calls Tryz.prog 47 #[.agg #[.int .i64 x0], .agg #[.int .i64 x1, .int .i64 x2], .agg #[.int .i64 x3, .int .i64 x4]] w (Vc.Ret v w) :=
  Vc.pure_of base [] 200 Tryz.func47 (b := (Tryz.f47.body).getD .skip) (by kernel_rfl) [.cv (.agg [.int .i64 (.var 0)]), .cv (.agg [.int .i64 (.var 1), .int .i64 (.var 2)]), .cv (.agg [.int .i64 (.var 3), .int .i64 (.var 4)])] ⟨5, 0, 0, 0, 0, 0, 0⟩ (Vc.envOf [x0, x1, x2, x3, x4] [] [] []) (by kernel_rfl) (by kernel_rfl) (by kernel_rfl) h

theorem vc_ullageref09_along (x0 x1 x2 x3 x4 x5 x6 x7 x8 : Int) (w : World) (v : Value) (h : 
  ∃ (x9 : Int), ∃ (x10 : Int), ∃ (x11 : Int), (∀ w' : World, Below w.heap.size w w' → Calls Tryz.prog 47 #[.agg #[.int .i64 x0], .agg #[.int .i64 x3, .int .i64 x4], .agg #[.int .i64 x7, .int .i64 x8]] w' (Vc.Ret (.tuple #[.agg #[.int .i64 x9], .agg #[.int .i64 x10, .int .i64 x11]]) w')) ∧
  ∃ (x12 : Int), ∃ (x13 : Int), ∃ (x14 : Int), (∀ w' : World, Below w.heap.size w w' → Calls Tryz.prog 48 #[.agg #[.int .i64 x9], .agg #[.int .i64 x1, .int .i64 x2], .agg #[.int .i64 x10, .int .i64 x11]] w' (Vc.Ret (.tuple #[.agg #[.int .i64 x12], .agg #[.int .i64 x13, .int .i64 x14]]) w')) ∧
  ∃ (x15 : Int), ∃ (x16 : Int), ∃ (x17 : Int), (∀ w' : World, Below w.heap.size w w' → Calls Tryz.prog 47 #[.agg #[.int .i64 x12], .agg #[.int .i64 x5, .int .i64 x6], .agg #[.int .i64 x7, .int .i64 x8]] w' (Vc.Ret (.tuple #[.agg #[.int .i64 x15], .agg #[.int .i64 x16, .int .i64 x17]]) w')) ∧
  ∃ (x18 : Int), ∃ (x19 : Int), ∃ (x20 : Int), (∀ w' : World, Below w.heap.size w w' → Calls Tryz.prog 48 #[.agg #[.int .i64 x15], .agg #[.int .i64 x13, .int .i64 x14], .agg #[.int .i64 x16, .int .i64 x17]] w' (Vc.Ret (.tuple #[.agg #[.int .i64 x18], .agg #[.int .i64 x19, .int .i64 x20]]) w')) ∧
  (.tuple #[.agg #[.int .i64 x18], .agg #[.int .i64 x19, .int .i64 x20]] : Value) = v) : Calls Tryz.prog 51 #[.agg #[.int .i64 x0], .agg #[.int .i64 x1, .int .i64 x2], .agg #[.int .i64 x3, .int .i64 x4], .agg #[.int .i64 x5, .int .i64 x6], .agg #[.int .i64 x7, .int .i64 x8]] w (Vc.Ret v w) :=
  Vc.pure_of base [] 200 Tryz.func51 (b := (Tryz.f51.body).getD .skip) (by kernel_rfl) [.cv (.agg [.int .i64 (.var 0)]), .cv (.agg [.int .i64 (.var 1), .int .i64 (.var 2)]), .cv (.agg [.int .i64 (.var 3), .int .i64 (.var 4)]), .cv (.agg [.int .i64 (.var 5), .int .i64 (.var 6)]), .cv (.agg [.int .i64 (.var 7), .int .i64 (.var 8)])] ⟨9, 0, 0, 0, 0, 0, 0⟩ (Vc.envOf [x0, x1, x2, x3, x4, x5, x6, x7, x8] [] [] []) (by kernel_rfl) (by kernel_rfl) (by kernel_rfl) h

theorem vc_ullageref09_metres (x0 : Int) (w : World) (v : Value) (h : 
  ∃ (b0 : Bool), (∀ w' : World, Below w.heap.size w w' → Calls Tryz.prog 57 #[.int .i64 x0, .int .i64 (-4503599627370496), .int .i64 4503599627370496] w' (Vc.Ret (.bool b0) w')) ∧
  ((b0 = true) → (
  ∀ x1 : Int, x1 = IntKind.i64.wrap (x0 * 1000) →
  ∀ x2 : Int, x2 = IntKind.i64.wrap (Int.tdiv x1 4294967296) →
  ((x1 < 0) → (
  ∀ x3 : Int, x3 = Int.tmod x1 4294967296 →
  ((x3 = 0) → (
  ∃ (b1 : Bool), (∀ w' : World, Below w.heap.size w w' → Calls Tryz.prog 57 #[.int .i64 x2, .int .i64 (-536870912), .int .i64 536870912] w' (Vc.Ret (.bool b1) w')) ∧
  (.tuple #[.int .i64 x2, .bool b1] : Value) = v)) ∧ (¬ (x3 = 0) → (
  ∀ x4 : Int, x4 = IntKind.i64.wrap (x2 - 1) →
  ∃ (b1 : Bool), (∀ w' : World, Below w.heap.size w w' → Calls Tryz.prog 57 #[.int .i64 x4, .int .i64 (-536870912), .int .i64 536870912] w' (Vc.Ret (.bool b1) w')) ∧
  (.tuple #[.int .i64 x4, .bool b1] : Value) = v)))) ∧ (¬ (x1 < 0) → (
  ∃ (b1 : Bool), (∀ w' : World, Below w.heap.size w w' → Calls Tryz.prog 57 #[.int .i64 x2, .int .i64 (-536870912), .int .i64 536870912] w' (Vc.Ret (.bool b1) w')) ∧
  (.tuple #[.int .i64 x2, .bool b1] : Value) = v)))) ∧ (¬ (b0 = true) → (
  (.tuple #[.int .i64 0, .bool false] : Value) = v))) : Calls Tryz.prog 52 #[.int .i64 x0] w (Vc.Ret v w) :=
  Vc.pure_of base [] 200 Tryz.func52 (b := (Tryz.f52.body).getD .skip) (by kernel_rfl) [.cv (.one (.int .i64 (.var 0)))] ⟨1, 0, 0, 0, 0, 0, 0⟩ (Vc.envOf [x0] [] [] []) (by kernel_rfl) (by kernel_rfl) (by kernel_rfl) h

theorem vc_ullageref09_Impact (x0 x1 x2 x3 x4 x5 x6 x7 x8 x9 x10 x11 x12 x13 x14 x15 x16 x17 : Int) (w : World) (v : Value) (h : 
  ∃ (x18 : Int), (∀ w' : World, Below w.heap.size w w' → Calls Tryz.prog 43 #[.agg #[.int .i64 x0, .int .i64 x1]] w' (Vc.Ret (.int .i64 x18) w')) ∧
  ((x18 = 0) → (
  ∃ (x19 : Int), (∀ w' : World, Below w.heap.size w w' → Calls Tryz.prog 43 #[.agg #[.int .i64 x2, .int .i64 x3]] w' (Vc.Ret (.int .i64 x19) w')) ∧
  ((x19 = 0) → (
  ∃ (x20 : Int), (∀ w' : World, Below w.heap.size w w' → Calls Tryz.prog 43 #[.agg #[.int .i64 x4, .int .i64 x5]] w' (Vc.Ret (.int .i64 x20) w')) ∧
  ((x20 = 0) → (
  ∃ (x21 : Int), (∀ w' : World, Below w.heap.size w w' → Calls Tryz.prog 43 #[.agg #[.int .i64 x6, .int .i64 x7]] w' (Vc.Ret (.int .i64 x21) w')) ∧
  ((x21 = 0) → (
  ∃ (x22 : Int), (∀ w' : World, Below w.heap.size w w' → Calls Tryz.prog 43 #[.agg #[.int .i64 x8, .int .i64 x9]] w' (Vc.Ret (.int .i64 x22) w')) ∧
  ((x22 = 0) → (
  ∃ (x23 : Int), (∀ w' : World, Below w.heap.size w w' → Calls Tryz.prog 43 #[.agg #[.int .i64 x10, .int .i64 x11]] w' (Vc.Ret (.int .i64 x23) w')) ∧
  ((x23 = 0) → (
  ∃ (x24 : Int), (∀ w' : World, Below w.heap.size w w' → Calls Tryz.prog 43 #[.agg #[.int .i64 x12, .int .i64 x13]] w' (Vc.Ret (.int .i64 x24) w')) ∧
  ((x24 = 0) → (
  ∃ (x25 : Int), (∀ w' : World, Below w.heap.size w w' → Calls Tryz.prog 43 #[.agg #[.int .i64 x14, .int .i64 x15]] w' (Vc.Ret (.int .i64 x25) w')) ∧
  ((x25 = 0) → (
  ∃ (x26 : Int), (∀ w' : World, Below w.heap.size w w' → Calls Tryz.prog 43 #[.agg #[.int .i64 x16, .int .i64 x17]] w' (Vc.Ret (.int .i64 x26) w')) ∧
  ((x26 = 0) → (
  ((x12 ≤ 0) → (
  (.tuple #[.agg #[.int .i64 0, .int .i64 0, .int .i64 0, .int .i64 0], .int .i64 2] : Value) = v)) ∧ (¬ (x12 ≤ 0) → (
  ((x4 < 0) → (
  (.tuple #[.agg #[.int .i64 0, .int .i64 0, .int .i64 0, .int .i64 0], .int .i64 2] : Value) = v)) ∧ (¬ (x4 < 0) → (
  ∃ (x27 : Int), ∃ (x28 : Int), ∃ (x29 : Int), (∀ w' : World, Below w.heap.size w w' → Calls Tryz.prog 44 #[.agg #[.int .i64 x10, .int .i64 x11]] w' (Vc.Ret (.tuple #[.agg #[.int .i64 x27, .int .i64 x28], .int .i64 x29]) w')) ∧
  ∃ (x30 : Int), ∃ (x31 : Int), ∃ (x32 : Int), (∀ w' : World, Below w.heap.size w w' → Calls Tryz.prog 45 #[.agg #[.int .i64 0], .agg #[.int .i64 x27, .int .i64 x28], .int .i64 x29] w' (Vc.Ret (.tuple #[.agg #[.int .i64 x30], .agg #[.int .i64 x31, .int .i64 x32]]) w')) ∧
  ∃ (x33 : Int), ∃ (x34 : Int), ∃ (x35 : Int), (∀ w' : World, Below w.heap.size w w' → Calls Tryz.prog 46 #[.agg #[.int .i64 x12, .int .i64 x13], .int .i64 2] w' (Vc.Ret (.tuple #[.agg #[.int .i64 x33, .int .i64 x34], .int .i64 x35]) w')) ∧
  ∃ (x36 : Int), ∃ (x37 : Int), ∃ (x38 : Int), (∀ w' : World, Below w.heap.size w w' → Calls Tryz.prog 45 #[.agg #[.int .i64 x30], .agg #[.int .i64 x33, .int .i64 x34], .int .i64 x35] w' (Vc.Ret (.tuple #[.agg #[.int .i64 x36], .agg #[.int .i64 x37, .int .i64 x38]]) w')) ∧
  ∃ (x39 : Int), ∃ (x40 : Int), ∃ (x41 : Int), (∀ w' : World, Below w.heap.size w w' → Calls Tryz.prog 47 #[.agg #[.int .i64 x36], .agg #[.int .i64 x37, .int .i64 x38], .agg #[.int .i64 x4, .int .i64 x5]] w' (Vc.Ret (.tuple #[.agg #[.int .i64 x39], .agg #[.int .i64 x40, .int .i64 x41]]) w')) ∧
  ∃ (x42 : Int), ∃ (x43 : Int), ∃ (x44 : Int), (∀ w' : World, Below w.heap.size w w' → Calls Tryz.prog 48 #[.agg #[.int .i64 x39], .agg #[.int .i64 x31, .int .i64 x32], .agg #[.int .i64 x40, .int .i64 x41]] w' (Vc.Ret (.tuple #[.agg #[.int .i64 x42], .agg #[.int .i64 x43, .int .i64 x44]]) w')) ∧
  ∃ (x45 : Int), ∃ (x46 : Int), ∃ (x47 : Int), (∀ w' : World, Below w.heap.size w w' → Calls Tryz.prog 49 #[.agg #[.int .i64 x43, .int .i64 x44]] w' (Vc.Ret (.tuple #[.agg #[.int .i64 x45, .int .i64 x46], .int .i64 x47]) w')) ∧
  ∃ (x48 : Int), ∃ (x49 : Int), ∃ (x50 : Int), (∀ w' : World, Below w.heap.size w w' → Calls Tryz.prog 45 #[.agg #[.int .i64 x42], .agg #[.int .i64 x45, .int .i64 x46], .int .i64 x47] w' (Vc.Ret (.tuple #[.agg #[.int .i64 x48], .agg #[.int .i64 x49, .int .i64 x50]]) w')) ∧
  ∃ (x51 : Int), ∃ (x52 : Int), ∃ (x53 : Int), (∀ w' : World, Below w.heap.size w w' → Calls Tryz.prog 48 #[.agg #[.int .i64 x48], .agg #[.int .i64 x10, .int .i64 x11], .agg #[.int .i64 x49, .int .i64 x50]] w' (Vc.Ret (.tuple #[.agg #[.int .i64 x51], .agg #[.int .i64 x52, .int .i64 x53]]) w')) ∧
  ∃ (x54 : Int), ∃ (x55 : Int), ∃ (x56 : Int), (∀ w' : World, Below w.heap.size w w' → Calls Tryz.prog 50 #[.agg #[.int .i64 x52, .int .i64 x53], .agg #[.int .i64 x12, .int .i64 x13]] w' (Vc.Ret (.tuple #[.agg #[.int .i64 x54, .int .i64 x55], .int .i64 x56]) w')) ∧
  ∃ (x57 : Int), ∃ (x58 : Int), ∃ (x59 : Int), (∀ w' : World, Below w.heap.size w w' → Calls Tryz.prog 45 #[.agg #[.int .i64 x51], .agg #[.int .i64 x54, .int .i64 x55], .int .i64 x56] w' (Vc.Ret (.tuple #[.agg #[.int .i64 x57], .agg #[.int .i64 x58, .int .i64 x59]]) w')) ∧
  ∀ x60 : Int, x60 = (if x58 > 0 then x58 else 0) →
  ∃ (x61 : Int), ∃ (x62 : Int), ∃ (x63 : Int), (∀ w' : World, Below w.heap.size w w' → Calls Tryz.prog 51 #[.agg #[.int .i64 x57], .agg #[.int .i64 x0, .int .i64 x1], .agg #[.int .i64 x6, .int .i64 x7], .agg #[.int .i64 x14, .int .i64 x15], .agg #[.int .i64 x60, .int .i64 x59]] w' (Vc.Ret (.tuple #[.agg #[.int .i64 x61], .agg #[.int .i64 x62, .int .i64 x63]]) w')) ∧
  ∃ (x64 : Int), ∃ (x65 : Int), ∃ (x66 : Int), (∀ w' : World, Below w.heap.size w w' → Calls Tryz.prog 51 #[.agg #[.int .i64 x61], .agg #[.int .i64 x2, .int .i64 x3], .agg #[.int .i64 x8, .int .i64 x9], .agg #[.int .i64 x16, .int .i64 x17], .agg #[.int .i64 x60, .int .i64 x59]] w' (Vc.Ret (.tuple #[.agg #[.int .i64 x64], .agg #[.int .i64 x65, .int .i64 x66]]) w')) ∧
  ((x64 = 0) → (
  ∃ (x67 : Int), ∃ (b0 : Bool), (∀ w' : World, Below w.heap.size w w' → Calls Tryz.prog 52 #[.int .i64 x62] w' (Vc.Ret (.tuple #[.int .i64 x67, .bool b0]) w')) ∧
  ∃ (x68 : Int), ∃ (b1 : Bool), (∀ w' : World, Below w.heap.size w w' → Calls Tryz.prog 52 #[.int .i64 x65] w' (Vc.Ret (.tuple #[.int .i64 x68, .bool b1]) w')) ∧
  ∀ x69 : Int, x69 = IntKind.i64.wrap (0 - x63) →
  ∃ (x70 : Int), ∃ (b2 : Bool), (∀ w' : World, Below w.heap.size w w' → Calls Tryz.prog 52 #[.int .i64 x69] w' (Vc.Ret (.tuple #[.int .i64 x70, .bool b2]) w')) ∧
  ∀ x71 : Int, x71 = IntKind.i64.wrap (0 - x66) →
  ∃ (x72 : Int), ∃ (b3 : Bool), (∀ w' : World, Below w.heap.size w w' → Calls Tryz.prog 52 #[.int .i64 x71] w' (Vc.Ret (.tuple #[.int .i64 x72, .bool b3]) w')) ∧
  ((b0 = true) → (
  ((b1 = true) → (
  ((b2 = true) → (
  ((b3 = true) → (
  ∀ x73 : Int, x73 = IntKind.i64.wrap (0 - x70) →
  ∀ x74 : Int, x74 = IntKind.i64.wrap (0 - x72) →
  (.tuple #[.agg #[.int .i64 x67, .int .i64 x68, .int .i64 x73, .int .i64 x74], .int .i64 0] : Value) = v)) ∧ (¬ (b3 = true) → (
  (.tuple #[.agg #[.int .i64 0, .int .i64 0, .int .i64 0, .int .i64 0], .int .i64 4] : Value) = v)))) ∧ (¬ (b2 = true) → (
  (.tuple #[.agg #[.int .i64 0, .int .i64 0, .int .i64 0, .int .i64 0], .int .i64 4] : Value) = v)))) ∧ (¬ (b1 = true) → (
  (.tuple #[.agg #[.int .i64 0, .int .i64 0, .int .i64 0, .int .i64 0], .int .i64 4] : Value) = v)))) ∧ (¬ (b0 = true) → (
  (.tuple #[.agg #[.int .i64 0, .int .i64 0, .int .i64 0, .int .i64 0], .int .i64 4] : Value) = v)))) ∧ (¬ (x64 = 0) → (
  (.tuple #[.agg #[.int .i64 0, .int .i64 0, .int .i64 0, .int .i64 0], .int .i64 x64] : Value) = v)))))))) ∧ (¬ (x26 = 0) → (
  (.tuple #[.agg #[.int .i64 0, .int .i64 0, .int .i64 0, .int .i64 0], .int .i64 2] : Value) = v)))) ∧ (¬ (x25 = 0) → (
  (.tuple #[.agg #[.int .i64 0, .int .i64 0, .int .i64 0, .int .i64 0], .int .i64 2] : Value) = v)))) ∧ (¬ (x24 = 0) → (
  (.tuple #[.agg #[.int .i64 0, .int .i64 0, .int .i64 0, .int .i64 0], .int .i64 2] : Value) = v)))) ∧ (¬ (x23 = 0) → (
  (.tuple #[.agg #[.int .i64 0, .int .i64 0, .int .i64 0, .int .i64 0], .int .i64 2] : Value) = v)))) ∧ (¬ (x22 = 0) → (
  (.tuple #[.agg #[.int .i64 0, .int .i64 0, .int .i64 0, .int .i64 0], .int .i64 2] : Value) = v)))) ∧ (¬ (x21 = 0) → (
  (.tuple #[.agg #[.int .i64 0, .int .i64 0, .int .i64 0, .int .i64 0], .int .i64 2] : Value) = v)))) ∧ (¬ (x20 = 0) → (
  (.tuple #[.agg #[.int .i64 0, .int .i64 0, .int .i64 0, .int .i64 0], .int .i64 2] : Value) = v)))) ∧ (¬ (x19 = 0) → (
  (.tuple #[.agg #[.int .i64 0, .int .i64 0, .int .i64 0, .int .i64 0], .int .i64 2] : Value) = v)))) ∧ (¬ (x18 = 0) → (
  (.tuple #[.agg #[.int .i64 0, .int .i64 0, .int .i64 0, .int .i64 0], .int .i64 2] : Value) = v))) : Calls Tryz.prog 14 #[.agg #[.int .i64 x0, .int .i64 x1, .int .i64 x2, .int .i64 x3, .int .i64 x4, .int .i64 x5, .int .i64 x6, .int .i64 x7, .int .i64 x8, .int .i64 x9, .int .i64 x10, .int .i64 x11, .int .i64 x12, .int .i64 x13, .int .i64 x14, .int .i64 x15, .int .i64 x16, .int .i64 x17]] w (Vc.Ret v w) :=
  Vc.pure_of base [(3, .unroll)] 200 Tryz.func14 (b := (Tryz.f14.body).getD .skip) (by kernel_rfl) [.cv (.agg [.int .i64 (.var 0), .int .i64 (.var 1), .int .i64 (.var 2), .int .i64 (.var 3), .int .i64 (.var 4), .int .i64 (.var 5), .int .i64 (.var 6), .int .i64 (.var 7), .int .i64 (.var 8), .int .i64 (.var 9), .int .i64 (.var 10), .int .i64 (.var 11), .int .i64 (.var 12), .int .i64 (.var 13), .int .i64 (.var 14), .int .i64 (.var 15), .int .i64 (.var 16), .int .i64 (.var 17)])] ⟨18, 0, 0, 0, 0, 0, 0⟩ (Vc.envOf [x0, x1, x2, x3, x4, x5, x6, x7, x8, x9, x10, x11, x12, x13, x14, x15, x16, x17] [] [] []) (by kernel_rfl) (by kernel_rfl) (by kernel_rfl) h

theorem vc_ullagelaw09_rect (x0 x1 x2 x3 : Int) (w : World) (v : Value) (h : 
  (.agg #[.int .i64 x0, .int .i64 x1, .int .i64 x2, .int .i64 x3] : Value) = v) : Calls Tryz.prog 18 #[.int .i64 x0, .int .i64 x1, .int .i64 x2, .int .i64 x3] w (Vc.Ret v w) :=
  Vc.pure_of base [] 200 Tryz.func18 (b := (Tryz.f18.body).getD .skip) (by kernel_rfl) [.cv (.one (.int .i64 (.var 0))), .cv (.one (.int .i64 (.var 1))), .cv (.one (.int .i64 (.var 2))), .cv (.one (.int .i64 (.var 3)))] ⟨4, 0, 0, 0, 0, 0, 0⟩ (Vc.envOf [x0, x1, x2, x3] [] [] []) (by kernel_rfl) (by kernel_rfl) (by kernel_rfl) h

theorem vc_ullagelaw09_awake (w : World) (v : Value) (h : 
  ∃ (x0 : Int), ∃ (x1 : Int), (∀ (β : Nat → Nat) (w' : World), Below w.heap.size w w' → ((w.heap.size ≤ β 1 ∧ w'.heap[β 1]? = some (.cells #[.int .i64 0, .int .i64 0, .int .i64 100, .int .i64 0, .int .i64 100, .int .i64 100, .int .i64 0, .int .i64 100] 26)) ∧ True) → Calls Tryz.prog 11 #[.agg #[.string ⟨(([113] : List UInt8)).toArray⟩, .slice (some ⟨β 1, 0, none⟩) 4 4], .agg #[.int .i64 10, .int .i64 10, .int .i64 90, .int .i64 100]] w' (Vc.Ret (.tuple #[.int .i64 x0, .int .i64 x1]) w')) ∧
  ∃ (x2 : Int), ∃ (x3 : Int), (∀ (β : Nat → Nat) (w' : World), Below w.heap.size w w' → ((w.heap.size ≤ β 4 ∧ w'.heap[β 4]? = some (.cells #[.int .i64 0, .int .i64 0, .int .i64 100, .int .i64 0, .int .i64 100, .int .i64 100, .int .i64 0, .int .i64 100] 26)) ∧ True) → Calls Tryz.prog 11 #[.agg #[.string ⟨(([113] : List UInt8)).toArray⟩, .slice (some ⟨β 4, 0, none⟩) 4 4], .agg #[.int .i64 10, .int .i64 10, .int .i64 90, .int .i64 101]] w' (Vc.Ret (.tuple #[.int .i64 x2, .int .i64 x3]) w')) ∧
  ∃ (x4 : Int), ∃ (x5 : Int), (∀ (β : Nat → Nat) (w' : World), Below w.heap.size w w' → ((w.heap.size ≤ β 6 ∧ w'.heap[β 6]? = some (.cells #[.int .i64 0, .int .i64 0, .int .i64 10, .int .i64 0, .int .i64 0, .int .i64 10] 26)) ∧ True) → Calls Tryz.prog 11 #[.agg #[.string ⟨(([116] : List UInt8)).toArray⟩, .slice (some ⟨β 6, 0, none⟩) 3 3], .agg #[.int .i64 6, .int .i64 6, .int .i64 9, .int .i64 9]] w' (Vc.Ret (.tuple #[.int .i64 x4, .int .i64 x5]) w')) ∧
  ∃ (b0 : Bool), ∃ (x6 : Int), (∀ (β : Nat → Nat) (w' : World), Below w.heap.size w w' → ((w.heap.size ≤ β 9 ∧ w'.heap[β 9]? = some (.cells #[.int .i64 0, .int .i64 0, .int .i64 100, .int .i64 0, .int .i64 100, .int .i64 100, .int .i64 0, .int .i64 100] 26)) ∧ (w.heap.size ≤ β 11 ∧ w'.heap[β 11]? = some (.cells #[.int .i64 0, .int .i64 110, .int .i64 100, .int .i64 110, .int .i64 100, .int .i64 210, .int .i64 0, .int .i64 210] 26)) ∧ True) → Calls Tryz.prog 19 #[.agg #[.string ⟨(([113] : List UInt8)).toArray⟩, .slice (some ⟨β 9, 0, none⟩) 4 4], .agg #[.string ⟨(([113] : List UInt8)).toArray⟩, .slice (some ⟨β 11, 0, none⟩) 4 4], .int .i64 9] w' (Vc.Ret (.tuple #[.bool b0, .int .i64 x6]) w')) ∧
  ∃ (b1 : Bool), ∃ (x7 : Int), (∀ (β : Nat → Nat) (w' : World), Below w.heap.size w w' → ((w.heap.size ≤ β 13 ∧ w'.heap[β 13]? = some (.cells #[.int .i64 0, .int .i64 0, .int .i64 100, .int .i64 0, .int .i64 100, .int .i64 100, .int .i64 0, .int .i64 100] 26)) ∧ (w.heap.size ≤ β 15 ∧ w'.heap[β 15]? = some (.cells #[.int .i64 0, .int .i64 110, .int .i64 100, .int .i64 110, .int .i64 100, .int .i64 210, .int .i64 0, .int .i64 210] 26)) ∧ True) → Calls Tryz.prog 19 #[.agg #[.string ⟨(([113] : List UInt8)).toArray⟩, .slice (some ⟨β 13, 0, none⟩) 4 4], .agg #[.string ⟨(([113] : List UInt8)).toArray⟩, .slice (some ⟨β 15, 0, none⟩) 4 4], .int .i64 10] w' (Vc.Ret (.tuple #[.bool b1, .int .i64 x7]) w')) ∧
  ∃ (x8 : Int), ∃ (x9 : Int), ∃ (x10 : Int), ∃ (x11 : Int), ∃ (x12 : Int), (∀ w' : World, Below w.heap.size w w' → Calls Tryz.prog 13 #[.agg #[.int .i64 4294967296, .int .i64 4294967296, .int .i64 0, .int .i64 0, .int .i64 0, .int .i64 0, .int .i64 4294967296, .int .i64 4294967296, .int .i64 0, .int .i64 0, .int .i64 21474836480, .int .i64 21474836480, .int .i64 42949672960, .int .i64 42949672960, .int .i64 0, .int .i64 0, .int .i64 0, .int .i64 0]] w' (Vc.Ret (.tuple #[.agg #[.int .i64 x8, .int .i64 x9, .int .i64 x10, .int .i64 x11], .int .i64 x12]) w')) ∧
  ∃ (x13 : Int), ∃ (x14 : Int), ∃ (x15 : Int), ∃ (x16 : Int), (∀ w' : World, Below w.heap.size w w' → Calls Tryz.prog 18 #[.int .i64 0, .int .i64 0, .int .i64 1, .int .i64 1] w' (Vc.Ret (.agg #[.int .i64 x13, .int .i64 x14, .int .i64 x15, .int .i64 x16]) w')) ∧
  ∃ (x17 : Int), ∃ (x18 : Int), (∀ (β : Nat → Nat) (w' : World), Below w.heap.size w w' → ((w.heap.size ≤ β 22 ∧ w'.heap[β 22]? = some (.cells #[.int .i64 0, .int .i64 0, .int .i64 100, .int .i64 0, .int .i64 100, .int .i64 100, .int .i64 0, .int .i64 100] 26)) ∧ (w.heap.size ≤ β 25 ∧ w'.heap[β 25]? = some (.cells #[.string ⟨(([113] : List UInt8)).toArray⟩, .slice (some ⟨β 24, 0, none⟩) 4 4, .int .i64 1000, .int .i64 400] 82)) ∧ (w.heap.size ≤ β 24 ∧ w'.heap[β 24]? = some (.cells #[.int .i64 0, .int .i64 0, .int .i64 100, .int .i64 0, .int .i64 100, .int .i64 100, .int .i64 0, .int .i64 100] 26)) ∧ True) → Calls Tryz.prog 16 #[.agg #[.string ⟨(([113] : List UInt8)).toArray⟩, .slice (some ⟨β 22, 0, none⟩) 4 4, .slice none 0 0, .slice (some ⟨β 25, 0, none⟩) 1 1, .int .i64 1, .int .i64 1, .int .i64 5, .int .i64 3], .agg #[.int .i64 x13, .int .i64 x14, .int .i64 x15, .int .i64 x16]] w' (Vc.Ret (.tuple #[.int .i64 x17, .int .i64 x18]) w')) ∧
  ∃ (b2 : Bool), (∀ (β : Nat → Nat) (w' : World), Below w.heap.size w w' → ((w.heap.size ≤ β 22 ∧ w'.heap[β 22]? = some (.cells #[.int .i64 0, .int .i64 0, .int .i64 100, .int .i64 0, .int .i64 100, .int .i64 100, .int .i64 0, .int .i64 100] 26)) ∧ (w.heap.size ≤ β 25 ∧ w'.heap[β 25]? = some (.cells #[.string ⟨(([113] : List UInt8)).toArray⟩, .slice (some ⟨β 24, 0, none⟩) 4 4, .int .i64 1000, .int .i64 400] 82)) ∧ (w.heap.size ≤ β 24 ∧ w'.heap[β 24]? = some (.cells #[.int .i64 0, .int .i64 0, .int .i64 100, .int .i64 0, .int .i64 100, .int .i64 100, .int .i64 0, .int .i64 100] 26)) ∧ True) → Calls Tryz.prog 23 #[.agg #[.string ⟨(([113] : List UInt8)).toArray⟩, .slice (some ⟨β 22, 0, none⟩) 4 4, .slice none 0 0, .slice (some ⟨β 25, 0, none⟩) 1 1, .int .i64 1, .int .i64 1, .int .i64 5, .int .i64 3]] w' (Vc.Ret (.bool b2) w')) ∧
  ((b2 = true) → (
  ∃ (b3 : Bool), (∀ w' : World, Below w.heap.size w w' → Calls Tryz.prog 34 #[.agg #[.int .i64 10, .int .i64 10, .int .i64 20, .int .i64 20]] w' (Vc.Ret (.bool b3) w')) ∧
  ((b3 = true) → (
  ∃ (x19 : Int), (∀ (β : Nat → Nat) (w' : World), Below w.heap.size w w' → (Vc.RowOk w.heap.size (β 32) (β 33) (β 34) (β 35) (([.int .i64 0, .int .i64 0, .int .i64 100, .int .i64 0, .int .i64 100, .int .i64 100, .int .i64 0, .int .i64 100] : List Value)) 2 26 w' ∧ True) → Calls Tryz.prog 35 #[.agg #[.string ⟨(([113] : List UInt8)).toArray⟩, Vc.ownV (β 32) (β 33) (β 34) (β 35)], .agg #[.int .i64 10, .int .i64 10, .int .i64 20, .int .i64 20]] w' (Vc.Ret (.int .i64 x19) w')) ∧
  ((x19 = 1) → (
  ∃ (b4 : Bool), (∀ w' : World, Below w.heap.size w w' → Calls Tryz.prog 34 #[.agg #[.int .i64 95, .int .i64 0, .int .i64 101, .int .i64 5]] w' (Vc.Ret (.bool b4) w')) ∧
  ((b4 = true) → (
  ∃ (x20 : Int), (∀ (β : Nat → Nat) (w' : World), Below w.heap.size w w' → (Vc.RowOk w.heap.size (β 32) (β 33) (β 34) (β 35) (([.int .i64 0, .int .i64 0, .int .i64 100, .int .i64 0, .int .i64 100, .int .i64 100, .int .i64 0, .int .i64 100] : List Value)) 2 26 w' ∧ True) → Calls Tryz.prog 35 #[.agg #[.string ⟨(([113] : List UInt8)).toArray⟩, Vc.ownV (β 32) (β 33) (β 34) (β 35)], .agg #[.int .i64 95, .int .i64 0, .int .i64 101, .int .i64 5]] w' (Vc.Ret (.int .i64 x20) w')) ∧
  ((x20 = 1) → (
  ∃ (x21 : Int), ∃ (x22 : Int), ∃ (x23 : Int), ∃ (x24 : Int), (∀ w' : World, Below w.heap.size w w' → Calls Tryz.prog 53 #[.agg #[.int .i64 95, .int .i64 0, .int .i64 101, .int .i64 5], .int .i64 1] w' (Vc.Ret (.agg #[.int .i64 x21, .int .i64 x22, .int .i64 x23, .int .i64 x24]) w')) ∧
  ∃ (x25 : Int), ∃ (x26 : Int), (∀ w' : World, Below w.heap.size w w' → Calls Tryz.prog 68 #[.agg #[.int .i64 x21, .int .i64 x22]] w' (Vc.Ret (.agg #[.int .i64 x25, .int .i64 x26]) w')) ∧
  ∃ (x27 : Int), ∃ (x28 : Int), (∀ w' : World, Below w.heap.size w w' → Calls Tryz.prog 68 #[.agg #[.int .i64 x23, .int .i64 x24]] w' (Vc.Ret (.agg #[.int .i64 x27, .int .i64 x28]) w')) ∧
  ∃ (x29 : Int), (∀ (β : Nat → Nat) (w' : World), Below w.heap.size w w' → (Vc.RowOk w.heap.size (β 32) (β 33) (β 34) (β 35) (([.int .i64 0, .int .i64 0, .int .i64 100, .int .i64 0, .int .i64 100, .int .i64 100, .int .i64 0, .int .i64 100] : List Value)) 2 26 w' ∧ True) → Calls Tryz.prog 35 #[.agg #[.string ⟨(([113] : List UInt8)).toArray⟩, Vc.ownV (β 32) (β 33) (β 34) (β 35)], .agg #[.int .i64 x25, .int .i64 x26, .int .i64 x27, .int .i64 x28]] w' (Vc.Ret (.int .i64 x29) w')) ∧
  ((x29 = 1) → (
  ((x0 = 1) → (
  ((x2 = 0) → (
  ((x4 = (-1)) → (
  ((b0 = true) → (
  ((b1 = true) → (
  (.bool false : Value) = v)) ∧ (¬ (b1 = true) → (
  ((x12 = 0) → (
  ∃ (x30 : Int), ∃ (x31 : Int), ∃ (x32 : Int), ∃ (x33 : Int), (∀ w' : World, Below w.heap.size w w' → Calls Tryz.prog 18 #[.int .i64 2000, .int .i64 0, .int .i64 2000, .int .i64 0] w' (Vc.Ret (.agg #[.int .i64 x30, .int .i64 x31, .int .i64 x32, .int .i64 x33]) w')) ∧
  (((x8 = x30) ∧ ((x9 = x31) ∧ ((x10 = x32) ∧ (x11 = x33)))) → (
  ((x17 = 8) → (
  ((x18 = 0) → (
  ∃ (x34 : Int), ∃ (x35 : Int), ∃ (x36 : Int), ∃ (x37 : Int), (∀ w' : World, Below w.heap.size w w' → Calls Tryz.prog 18 #[.int .i64 94, .int .i64 (-1), .int .i64 102, .int .i64 6] w' (Vc.Ret (.agg #[.int .i64 x34, .int .i64 x35, .int .i64 x36, .int .i64 x37]) w')) ∧
  (.bool false : Value) = v)) ∧ (¬ (x18 = 0) → (
  (.bool false : Value) = v)))) ∧ (¬ (x17 = 8) → (
  (.bool false : Value) = v)))) ∧ (¬ ((x8 = x30) ∧ ((x9 = x31) ∧ ((x10 = x32) ∧ (x11 = x33)))) → (
  (.bool false : Value) = v)))) ∧ (¬ (x12 = 0) → (
  (.bool false : Value) = v)))))) ∧ (¬ (b0 = true) → (
  (.bool false : Value) = v)))) ∧ (¬ (x4 = (-1)) → (
  (.bool false : Value) = v)))) ∧ (¬ (x2 = 0) → (
  (.bool false : Value) = v)))) ∧ (¬ (x0 = 1) → (
  (.bool false : Value) = v)))) ∧ (¬ (x29 = 1) → (
  ((x29 = 0) → (
  ((x0 = 1) → (
  ((x2 = 0) → (
  ((x4 = (-1)) → (
  ((b0 = true) → (
  ((b1 = true) → (
  (.bool false : Value) = v)) ∧ (¬ (b1 = true) → (
  ((x12 = 0) → (
  ∃ (x30 : Int), ∃ (x31 : Int), ∃ (x32 : Int), ∃ (x33 : Int), (∀ w' : World, Below w.heap.size w w' → Calls Tryz.prog 18 #[.int .i64 2000, .int .i64 0, .int .i64 2000, .int .i64 0] w' (Vc.Ret (.agg #[.int .i64 x30, .int .i64 x31, .int .i64 x32, .int .i64 x33]) w')) ∧
  (((x8 = x30) ∧ ((x9 = x31) ∧ ((x10 = x32) ∧ (x11 = x33)))) → (
  ((x17 = 8) → (
  ((x18 = 0) → (
  ∃ (x34 : Int), ∃ (x35 : Int), ∃ (x36 : Int), ∃ (x37 : Int), (∀ w' : World, Below w.heap.size w w' → Calls Tryz.prog 18 #[.int .i64 94, .int .i64 (-1), .int .i64 102, .int .i64 6] w' (Vc.Ret (.agg #[.int .i64 x34, .int .i64 x35, .int .i64 x36, .int .i64 x37]) w')) ∧
  (.bool false : Value) = v)) ∧ (¬ (x18 = 0) → (
  (.bool false : Value) = v)))) ∧ (¬ (x17 = 8) → (
  (.bool false : Value) = v)))) ∧ (¬ ((x8 = x30) ∧ ((x9 = x31) ∧ ((x10 = x32) ∧ (x11 = x33)))) → (
  (.bool false : Value) = v)))) ∧ (¬ (x12 = 0) → (
  (.bool false : Value) = v)))))) ∧ (¬ (b0 = true) → (
  (.bool false : Value) = v)))) ∧ (¬ (x4 = (-1)) → (
  (.bool false : Value) = v)))) ∧ (¬ (x2 = 0) → (
  (.bool false : Value) = v)))) ∧ (¬ (x0 = 1) → (
  (.bool false : Value) = v)))) ∧ (¬ (x29 = 0) → (
  ((x0 = 1) → (
  ((x2 = 0) → (
  ((x4 = (-1)) → (
  ((b0 = true) → (
  ((b1 = true) → (
  (.bool false : Value) = v)) ∧ (¬ (b1 = true) → (
  ((x12 = 0) → (
  ∃ (x30 : Int), ∃ (x31 : Int), ∃ (x32 : Int), ∃ (x33 : Int), (∀ w' : World, Below w.heap.size w w' → Calls Tryz.prog 18 #[.int .i64 2000, .int .i64 0, .int .i64 2000, .int .i64 0] w' (Vc.Ret (.agg #[.int .i64 x30, .int .i64 x31, .int .i64 x32, .int .i64 x33]) w')) ∧
  (((x8 = x30) ∧ ((x9 = x31) ∧ ((x10 = x32) ∧ (x11 = x33)))) → (
  ((x17 = 8) → (
  ((x18 = 0) → (
  ∃ (x34 : Int), ∃ (x35 : Int), ∃ (x36 : Int), ∃ (x37 : Int), (∀ w' : World, Below w.heap.size w w' → Calls Tryz.prog 18 #[.int .i64 94, .int .i64 (-1), .int .i64 102, .int .i64 6] w' (Vc.Ret (.agg #[.int .i64 x34, .int .i64 x35, .int .i64 x36, .int .i64 x37]) w')) ∧
  (.bool false : Value) = v)) ∧ (¬ (x18 = 0) → (
  (.bool false : Value) = v)))) ∧ (¬ (x17 = 8) → (
  (.bool false : Value) = v)))) ∧ (¬ ((x8 = x30) ∧ ((x9 = x31) ∧ ((x10 = x32) ∧ (x11 = x33)))) → (
  (.bool false : Value) = v)))) ∧ (¬ (x12 = 0) → (
  (.bool false : Value) = v)))))) ∧ (¬ (b0 = true) → (
  (.bool false : Value) = v)))) ∧ (¬ (x4 = (-1)) → (
  (.bool false : Value) = v)))) ∧ (¬ (x2 = 0) → (
  (.bool false : Value) = v)))) ∧ (¬ (x0 = 1) → (
  (.bool false : Value) = v)))))))) ∧ (¬ (x20 = 1) → (
  ((x20 = 0) → (
  ∃ (x21 : Int), ∃ (x22 : Int), ∃ (x23 : Int), ∃ (x24 : Int), (∀ w' : World, Below w.heap.size w w' → Calls Tryz.prog 53 #[.agg #[.int .i64 95, .int .i64 0, .int .i64 101, .int .i64 5], .int .i64 1] w' (Vc.Ret (.agg #[.int .i64 x21, .int .i64 x22, .int .i64 x23, .int .i64 x24]) w')) ∧
  ∃ (x25 : Int), ∃ (x26 : Int), (∀ w' : World, Below w.heap.size w w' → Calls Tryz.prog 68 #[.agg #[.int .i64 x21, .int .i64 x22]] w' (Vc.Ret (.agg #[.int .i64 x25, .int .i64 x26]) w')) ∧
  ∃ (x27 : Int), ∃ (x28 : Int), (∀ w' : World, Below w.heap.size w w' → Calls Tryz.prog 68 #[.agg #[.int .i64 x23, .int .i64 x24]] w' (Vc.Ret (.agg #[.int .i64 x27, .int .i64 x28]) w')) ∧
  ∃ (x29 : Int), (∀ (β : Nat → Nat) (w' : World), Below w.heap.size w w' → (Vc.RowOk w.heap.size (β 32) (β 33) (β 34) (β 35) (([.int .i64 0, .int .i64 0, .int .i64 100, .int .i64 0, .int .i64 100, .int .i64 100, .int .i64 0, .int .i64 100] : List Value)) 2 26 w' ∧ True) → Calls Tryz.prog 35 #[.agg #[.string ⟨(([113] : List UInt8)).toArray⟩, Vc.ownV (β 32) (β 33) (β 34) (β 35)], .agg #[.int .i64 x25, .int .i64 x26, .int .i64 x27, .int .i64 x28]] w' (Vc.Ret (.int .i64 x29) w')) ∧
  ((x29 = 1) → (
  ((x0 = 1) → (
  ((x2 = 0) → (
  ((x4 = (-1)) → (
  ((b0 = true) → (
  ((b1 = true) → (
  (.bool false : Value) = v)) ∧ (¬ (b1 = true) → (
  ((x12 = 0) → (
  ∃ (x30 : Int), ∃ (x31 : Int), ∃ (x32 : Int), ∃ (x33 : Int), (∀ w' : World, Below w.heap.size w w' → Calls Tryz.prog 18 #[.int .i64 2000, .int .i64 0, .int .i64 2000, .int .i64 0] w' (Vc.Ret (.agg #[.int .i64 x30, .int .i64 x31, .int .i64 x32, .int .i64 x33]) w')) ∧
  (((x8 = x30) ∧ ((x9 = x31) ∧ ((x10 = x32) ∧ (x11 = x33)))) → (
  ((x17 = 8) → (
  ((x18 = 0) → (
  ∃ (x34 : Int), ∃ (x35 : Int), ∃ (x36 : Int), ∃ (x37 : Int), (∀ w' : World, Below w.heap.size w w' → Calls Tryz.prog 18 #[.int .i64 94, .int .i64 (-1), .int .i64 102, .int .i64 6] w' (Vc.Ret (.agg #[.int .i64 x34, .int .i64 x35, .int .i64 x36, .int .i64 x37]) w')) ∧
  (.bool false : Value) = v)) ∧ (¬ (x18 = 0) → (
  (.bool false : Value) = v)))) ∧ (¬ (x17 = 8) → (
  (.bool false : Value) = v)))) ∧ (¬ ((x8 = x30) ∧ ((x9 = x31) ∧ ((x10 = x32) ∧ (x11 = x33)))) → (
  (.bool false : Value) = v)))) ∧ (¬ (x12 = 0) → (
  (.bool false : Value) = v)))))) ∧ (¬ (b0 = true) → (
  (.bool false : Value) = v)))) ∧ (¬ (x4 = (-1)) → (
  (.bool false : Value) = v)))) ∧ (¬ (x2 = 0) → (
  (.bool false : Value) = v)))) ∧ (¬ (x0 = 1) → (
  (.bool false : Value) = v)))) ∧ (¬ (x29 = 1) → (
  ((x29 = 0) → (
  ((x0 = 1) → (
  ((x2 = 0) → (
  ((x4 = (-1)) → (
  ((b0 = true) → (
  ((b1 = true) → (
  (.bool false : Value) = v)) ∧ (¬ (b1 = true) → (
  ((x12 = 0) → (
  ∃ (x30 : Int), ∃ (x31 : Int), ∃ (x32 : Int), ∃ (x33 : Int), (∀ w' : World, Below w.heap.size w w' → Calls Tryz.prog 18 #[.int .i64 2000, .int .i64 0, .int .i64 2000, .int .i64 0] w' (Vc.Ret (.agg #[.int .i64 x30, .int .i64 x31, .int .i64 x32, .int .i64 x33]) w')) ∧
  (((x8 = x30) ∧ ((x9 = x31) ∧ ((x10 = x32) ∧ (x11 = x33)))) → (
  ((x17 = 8) → (
  ((x18 = 0) → (
  ∃ (x34 : Int), ∃ (x35 : Int), ∃ (x36 : Int), ∃ (x37 : Int), (∀ w' : World, Below w.heap.size w w' → Calls Tryz.prog 18 #[.int .i64 94, .int .i64 (-1), .int .i64 102, .int .i64 6] w' (Vc.Ret (.agg #[.int .i64 x34, .int .i64 x35, .int .i64 x36, .int .i64 x37]) w')) ∧
  (.bool ((x25 == x34) && ((x26 == x35) && ((x27 == x36) && (x28 == x37)))) : Value) = v)) ∧ (¬ (x18 = 0) → (
  (.bool false : Value) = v)))) ∧ (¬ (x17 = 8) → (
  (.bool false : Value) = v)))) ∧ (¬ ((x8 = x30) ∧ ((x9 = x31) ∧ ((x10 = x32) ∧ (x11 = x33)))) → (
  (.bool false : Value) = v)))) ∧ (¬ (x12 = 0) → (
  (.bool false : Value) = v)))))) ∧ (¬ (b0 = true) → (
  (.bool false : Value) = v)))) ∧ (¬ (x4 = (-1)) → (
  (.bool false : Value) = v)))) ∧ (¬ (x2 = 0) → (
  (.bool false : Value) = v)))) ∧ (¬ (x0 = 1) → (
  (.bool false : Value) = v)))) ∧ (¬ (x29 = 0) → (
  ((x0 = 1) → (
  ((x2 = 0) → (
  ((x4 = (-1)) → (
  ((b0 = true) → (
  ((b1 = true) → (
  (.bool false : Value) = v)) ∧ (¬ (b1 = true) → (
  ((x12 = 0) → (
  ∃ (x30 : Int), ∃ (x31 : Int), ∃ (x32 : Int), ∃ (x33 : Int), (∀ w' : World, Below w.heap.size w w' → Calls Tryz.prog 18 #[.int .i64 2000, .int .i64 0, .int .i64 2000, .int .i64 0] w' (Vc.Ret (.agg #[.int .i64 x30, .int .i64 x31, .int .i64 x32, .int .i64 x33]) w')) ∧
  (((x8 = x30) ∧ ((x9 = x31) ∧ ((x10 = x32) ∧ (x11 = x33)))) → (
  ((x17 = 8) → (
  ((x18 = 0) → (
  ∃ (x34 : Int), ∃ (x35 : Int), ∃ (x36 : Int), ∃ (x37 : Int), (∀ w' : World, Below w.heap.size w w' → Calls Tryz.prog 18 #[.int .i64 94, .int .i64 (-1), .int .i64 102, .int .i64 6] w' (Vc.Ret (.agg #[.int .i64 x34, .int .i64 x35, .int .i64 x36, .int .i64 x37]) w')) ∧
  (.bool false : Value) = v)) ∧ (¬ (x18 = 0) → (
  (.bool false : Value) = v)))) ∧ (¬ (x17 = 8) → (
  (.bool false : Value) = v)))) ∧ (¬ ((x8 = x30) ∧ ((x9 = x31) ∧ ((x10 = x32) ∧ (x11 = x33)))) → (
  (.bool false : Value) = v)))) ∧ (¬ (x12 = 0) → (
  (.bool false : Value) = v)))))) ∧ (¬ (b0 = true) → (
  (.bool false : Value) = v)))) ∧ (¬ (x4 = (-1)) → (
  (.bool false : Value) = v)))) ∧ (¬ (x2 = 0) → (
  (.bool false : Value) = v)))) ∧ (¬ (x0 = 1) → (
  (.bool false : Value) = v)))))))) ∧ (¬ (x20 = 0) → (
  ((x0 = 1) → (
  ((x2 = 0) → (
  ((x4 = (-1)) → (
  ((b0 = true) → (
  ((b1 = true) → (
  (.bool false : Value) = v)) ∧ (¬ (b1 = true) → (
  ((x12 = 0) → (
  ∃ (x21 : Int), ∃ (x22 : Int), ∃ (x23 : Int), ∃ (x24 : Int), (∀ w' : World, Below w.heap.size w w' → Calls Tryz.prog 18 #[.int .i64 2000, .int .i64 0, .int .i64 2000, .int .i64 0] w' (Vc.Ret (.agg #[.int .i64 x21, .int .i64 x22, .int .i64 x23, .int .i64 x24]) w')) ∧
  (((x8 = x21) ∧ ((x9 = x22) ∧ ((x10 = x23) ∧ (x11 = x24)))) → (
  ((x17 = 8) → (
  ((x18 = 0) → (
  (.bool false : Value) = v)) ∧ (¬ (x18 = 0) → (
  (.bool false : Value) = v)))) ∧ (¬ (x17 = 8) → (
  (.bool false : Value) = v)))) ∧ (¬ ((x8 = x21) ∧ ((x9 = x22) ∧ ((x10 = x23) ∧ (x11 = x24)))) → (
  (.bool false : Value) = v)))) ∧ (¬ (x12 = 0) → (
  (.bool false : Value) = v)))))) ∧ (¬ (b0 = true) → (
  (.bool false : Value) = v)))) ∧ (¬ (x4 = (-1)) → (
  (.bool false : Value) = v)))) ∧ (¬ (x2 = 0) → (
  (.bool false : Value) = v)))) ∧ (¬ (x0 = 1) → (
  (.bool false : Value) = v)))))))) ∧ (¬ (b4 = true) → (
  ∃ (x20 : Int), ∃ (x21 : Int), ∃ (x22 : Int), ∃ (x23 : Int), (∀ w' : World, Below w.heap.size w w' → Calls Tryz.prog 53 #[.agg #[.int .i64 10, .int .i64 10, .int .i64 20, .int .i64 20], .int .i64 1] w' (Vc.Ret (.agg #[.int .i64 x20, .int .i64 x21, .int .i64 x22, .int .i64 x23]) w')) ∧
  ∃ (x24 : Int), ∃ (x25 : Int), (∀ w' : World, Below w.heap.size w w' → Calls Tryz.prog 68 #[.agg #[.int .i64 x20, .int .i64 x21]] w' (Vc.Ret (.agg #[.int .i64 x24, .int .i64 x25]) w')) ∧
  ∃ (x26 : Int), ∃ (x27 : Int), (∀ w' : World, Below w.heap.size w w' → Calls Tryz.prog 68 #[.agg #[.int .i64 x22, .int .i64 x23]] w' (Vc.Ret (.agg #[.int .i64 x26, .int .i64 x27]) w')) ∧
  ∃ (x28 : Int), (∀ (β : Nat → Nat) (w' : World), Below w.heap.size w w' → (Vc.RowOk w.heap.size (β 32) (β 33) (β 34) (β 35) (([.int .i64 0, .int .i64 0, .int .i64 100, .int .i64 0, .int .i64 100, .int .i64 100, .int .i64 0, .int .i64 100] : List Value)) 2 26 w' ∧ True) → Calls Tryz.prog 35 #[.agg #[.string ⟨(([113] : List UInt8)).toArray⟩, Vc.ownV (β 32) (β 33) (β 34) (β 35)], .agg #[.int .i64 x24, .int .i64 x25, .int .i64 x26, .int .i64 x27]] w' (Vc.Ret (.int .i64 x28) w')) ∧
  ((x28 = 1) → (
  ((x0 = 1) → (
  ((x2 = 0) → (
  ((x4 = (-1)) → (
  ((b0 = true) → (
  ((b1 = true) → (
  (.bool false : Value) = v)) ∧ (¬ (b1 = true) → (
  ((x12 = 0) → (
  ∃ (x29 : Int), ∃ (x30 : Int), ∃ (x31 : Int), ∃ (x32 : Int), (∀ w' : World, Below w.heap.size w w' → Calls Tryz.prog 18 #[.int .i64 2000, .int .i64 0, .int .i64 2000, .int .i64 0] w' (Vc.Ret (.agg #[.int .i64 x29, .int .i64 x30, .int .i64 x31, .int .i64 x32]) w')) ∧
  (((x8 = x29) ∧ ((x9 = x30) ∧ ((x10 = x31) ∧ (x11 = x32)))) → (
  ((x17 = 8) → (
  ((x18 = 0) → (
  ∃ (x33 : Int), ∃ (x34 : Int), ∃ (x35 : Int), ∃ (x36 : Int), (∀ w' : World, Below w.heap.size w w' → Calls Tryz.prog 18 #[.int .i64 94, .int .i64 (-1), .int .i64 102, .int .i64 6] w' (Vc.Ret (.agg #[.int .i64 x33, .int .i64 x34, .int .i64 x35, .int .i64 x36]) w')) ∧
  (.bool false : Value) = v)) ∧ (¬ (x18 = 0) → (
  (.bool false : Value) = v)))) ∧ (¬ (x17 = 8) → (
  (.bool false : Value) = v)))) ∧ (¬ ((x8 = x29) ∧ ((x9 = x30) ∧ ((x10 = x31) ∧ (x11 = x32)))) → (
  (.bool false : Value) = v)))) ∧ (¬ (x12 = 0) → (
  (.bool false : Value) = v)))))) ∧ (¬ (b0 = true) → (
  (.bool false : Value) = v)))) ∧ (¬ (x4 = (-1)) → (
  (.bool false : Value) = v)))) ∧ (¬ (x2 = 0) → (
  (.bool false : Value) = v)))) ∧ (¬ (x0 = 1) → (
  (.bool false : Value) = v)))) ∧ (¬ (x28 = 1) → (
  ((x28 = 0) → (
  ((x0 = 1) → (
  ((x2 = 0) → (
  ((x4 = (-1)) → (
  ((b0 = true) → (
  ((b1 = true) → (
  (.bool false : Value) = v)) ∧ (¬ (b1 = true) → (
  ((x12 = 0) → (
  ∃ (x29 : Int), ∃ (x30 : Int), ∃ (x31 : Int), ∃ (x32 : Int), (∀ w' : World, Below w.heap.size w w' → Calls Tryz.prog 18 #[.int .i64 2000, .int .i64 0, .int .i64 2000, .int .i64 0] w' (Vc.Ret (.agg #[.int .i64 x29, .int .i64 x30, .int .i64 x31, .int .i64 x32]) w')) ∧
  (((x8 = x29) ∧ ((x9 = x30) ∧ ((x10 = x31) ∧ (x11 = x32)))) → (
  ((x17 = 8) → (
  ((x18 = 0) → (
  ∃ (x33 : Int), ∃ (x34 : Int), ∃ (x35 : Int), ∃ (x36 : Int), (∀ w' : World, Below w.heap.size w w' → Calls Tryz.prog 18 #[.int .i64 94, .int .i64 (-1), .int .i64 102, .int .i64 6] w' (Vc.Ret (.agg #[.int .i64 x33, .int .i64 x34, .int .i64 x35, .int .i64 x36]) w')) ∧
  (.bool false : Value) = v)) ∧ (¬ (x18 = 0) → (
  (.bool false : Value) = v)))) ∧ (¬ (x17 = 8) → (
  (.bool false : Value) = v)))) ∧ (¬ ((x8 = x29) ∧ ((x9 = x30) ∧ ((x10 = x31) ∧ (x11 = x32)))) → (
  (.bool false : Value) = v)))) ∧ (¬ (x12 = 0) → (
  (.bool false : Value) = v)))))) ∧ (¬ (b0 = true) → (
  (.bool false : Value) = v)))) ∧ (¬ (x4 = (-1)) → (
  (.bool false : Value) = v)))) ∧ (¬ (x2 = 0) → (
  (.bool false : Value) = v)))) ∧ (¬ (x0 = 1) → (
  (.bool false : Value) = v)))) ∧ (¬ (x28 = 0) → (
  ((x0 = 1) → (
  ((x2 = 0) → (
  ((x4 = (-1)) → (
  ((b0 = true) → (
  ((b1 = true) → (
  (.bool false : Value) = v)) ∧ (¬ (b1 = true) → (
  ((x12 = 0) → (
  ∃ (x29 : Int), ∃ (x30 : Int), ∃ (x31 : Int), ∃ (x32 : Int), (∀ w' : World, Below w.heap.size w w' → Calls Tryz.prog 18 #[.int .i64 2000, .int .i64 0, .int .i64 2000, .int .i64 0] w' (Vc.Ret (.agg #[.int .i64 x29, .int .i64 x30, .int .i64 x31, .int .i64 x32]) w')) ∧
  (((x8 = x29) ∧ ((x9 = x30) ∧ ((x10 = x31) ∧ (x11 = x32)))) → (
  ((x17 = 8) → (
  ((x18 = 0) → (
  ∃ (x33 : Int), ∃ (x34 : Int), ∃ (x35 : Int), ∃ (x36 : Int), (∀ w' : World, Below w.heap.size w w' → Calls Tryz.prog 18 #[.int .i64 94, .int .i64 (-1), .int .i64 102, .int .i64 6] w' (Vc.Ret (.agg #[.int .i64 x33, .int .i64 x34, .int .i64 x35, .int .i64 x36]) w')) ∧
  (.bool false : Value) = v)) ∧ (¬ (x18 = 0) → (
  (.bool false : Value) = v)))) ∧ (¬ (x17 = 8) → (
  (.bool false : Value) = v)))) ∧ (¬ ((x8 = x29) ∧ ((x9 = x30) ∧ ((x10 = x31) ∧ (x11 = x32)))) → (
  (.bool false : Value) = v)))) ∧ (¬ (x12 = 0) → (
  (.bool false : Value) = v)))))) ∧ (¬ (b0 = true) → (
  (.bool false : Value) = v)))) ∧ (¬ (x4 = (-1)) → (
  (.bool false : Value) = v)))) ∧ (¬ (x2 = 0) → (
  (.bool false : Value) = v)))) ∧ (¬ (x0 = 1) → (
  (.bool false : Value) = v)))))))))) ∧ (¬ (x19 = 1) → (
  ((x19 = 0) → (
  ∃ (b4 : Bool), (∀ w' : World, Below w.heap.size w w' → Calls Tryz.prog 34 #[.agg #[.int .i64 95, .int .i64 0, .int .i64 101, .int .i64 5]] w' (Vc.Ret (.bool b4) w')) ∧
  ((b4 = true) → (
  ∃ (x20 : Int), (∀ (β : Nat → Nat) (w' : World), Below w.heap.size w w' → (Vc.RowOk w.heap.size (β 32) (β 33) (β 34) (β 35) (([.int .i64 0, .int .i64 0, .int .i64 100, .int .i64 0, .int .i64 100, .int .i64 100, .int .i64 0, .int .i64 100] : List Value)) 2 26 w' ∧ True) → Calls Tryz.prog 35 #[.agg #[.string ⟨(([113] : List UInt8)).toArray⟩, Vc.ownV (β 32) (β 33) (β 34) (β 35)], .agg #[.int .i64 95, .int .i64 0, .int .i64 101, .int .i64 5]] w' (Vc.Ret (.int .i64 x20) w')) ∧
  ((x20 = 1) → (
  ∃ (x21 : Int), ∃ (x22 : Int), ∃ (x23 : Int), ∃ (x24 : Int), (∀ w' : World, Below w.heap.size w w' → Calls Tryz.prog 53 #[.agg #[.int .i64 95, .int .i64 0, .int .i64 101, .int .i64 5], .int .i64 1] w' (Vc.Ret (.agg #[.int .i64 x21, .int .i64 x22, .int .i64 x23, .int .i64 x24]) w')) ∧
  ∃ (x25 : Int), ∃ (x26 : Int), (∀ w' : World, Below w.heap.size w w' → Calls Tryz.prog 68 #[.agg #[.int .i64 x21, .int .i64 x22]] w' (Vc.Ret (.agg #[.int .i64 x25, .int .i64 x26]) w')) ∧
  ∃ (x27 : Int), ∃ (x28 : Int), (∀ w' : World, Below w.heap.size w w' → Calls Tryz.prog 68 #[.agg #[.int .i64 x23, .int .i64 x24]] w' (Vc.Ret (.agg #[.int .i64 x27, .int .i64 x28]) w')) ∧
  ∃ (x29 : Int), (∀ (β : Nat → Nat) (w' : World), Below w.heap.size w w' → (Vc.RowOk w.heap.size (β 32) (β 33) (β 34) (β 35) (([.int .i64 0, .int .i64 0, .int .i64 100, .int .i64 0, .int .i64 100, .int .i64 100, .int .i64 0, .int .i64 100] : List Value)) 2 26 w' ∧ True) → Calls Tryz.prog 35 #[.agg #[.string ⟨(([113] : List UInt8)).toArray⟩, Vc.ownV (β 32) (β 33) (β 34) (β 35)], .agg #[.int .i64 x25, .int .i64 x26, .int .i64 x27, .int .i64 x28]] w' (Vc.Ret (.int .i64 x29) w')) ∧
  ((x29 = 1) → (
  ((x0 = 1) → (
  ((x2 = 0) → (
  ((x4 = (-1)) → (
  ((b0 = true) → (
  ((b1 = true) → (
  (.bool false : Value) = v)) ∧ (¬ (b1 = true) → (
  ((x12 = 0) → (
  ∃ (x30 : Int), ∃ (x31 : Int), ∃ (x32 : Int), ∃ (x33 : Int), (∀ w' : World, Below w.heap.size w w' → Calls Tryz.prog 18 #[.int .i64 2000, .int .i64 0, .int .i64 2000, .int .i64 0] w' (Vc.Ret (.agg #[.int .i64 x30, .int .i64 x31, .int .i64 x32, .int .i64 x33]) w')) ∧
  (((x8 = x30) ∧ ((x9 = x31) ∧ ((x10 = x32) ∧ (x11 = x33)))) → (
  ((x17 = 8) → (
  ((x18 = 0) → (
  ∃ (x34 : Int), ∃ (x35 : Int), ∃ (x36 : Int), ∃ (x37 : Int), (∀ w' : World, Below w.heap.size w w' → Calls Tryz.prog 18 #[.int .i64 94, .int .i64 (-1), .int .i64 102, .int .i64 6] w' (Vc.Ret (.agg #[.int .i64 x34, .int .i64 x35, .int .i64 x36, .int .i64 x37]) w')) ∧
  (.bool false : Value) = v)) ∧ (¬ (x18 = 0) → (
  (.bool false : Value) = v)))) ∧ (¬ (x17 = 8) → (
  (.bool false : Value) = v)))) ∧ (¬ ((x8 = x30) ∧ ((x9 = x31) ∧ ((x10 = x32) ∧ (x11 = x33)))) → (
  (.bool false : Value) = v)))) ∧ (¬ (x12 = 0) → (
  (.bool false : Value) = v)))))) ∧ (¬ (b0 = true) → (
  (.bool false : Value) = v)))) ∧ (¬ (x4 = (-1)) → (
  (.bool false : Value) = v)))) ∧ (¬ (x2 = 0) → (
  (.bool false : Value) = v)))) ∧ (¬ (x0 = 1) → (
  (.bool false : Value) = v)))) ∧ (¬ (x29 = 1) → (
  ((x29 = 0) → (
  ((x0 = 1) → (
  ((x2 = 0) → (
  ((x4 = (-1)) → (
  ((b0 = true) → (
  ((b1 = true) → (
  (.bool false : Value) = v)) ∧ (¬ (b1 = true) → (
  ((x12 = 0) → (
  ∃ (x30 : Int), ∃ (x31 : Int), ∃ (x32 : Int), ∃ (x33 : Int), (∀ w' : World, Below w.heap.size w w' → Calls Tryz.prog 18 #[.int .i64 2000, .int .i64 0, .int .i64 2000, .int .i64 0] w' (Vc.Ret (.agg #[.int .i64 x30, .int .i64 x31, .int .i64 x32, .int .i64 x33]) w')) ∧
  (((x8 = x30) ∧ ((x9 = x31) ∧ ((x10 = x32) ∧ (x11 = x33)))) → (
  ((x17 = 8) → (
  ((x18 = 0) → (
  ∃ (x34 : Int), ∃ (x35 : Int), ∃ (x36 : Int), ∃ (x37 : Int), (∀ w' : World, Below w.heap.size w w' → Calls Tryz.prog 18 #[.int .i64 94, .int .i64 (-1), .int .i64 102, .int .i64 6] w' (Vc.Ret (.agg #[.int .i64 x34, .int .i64 x35, .int .i64 x36, .int .i64 x37]) w')) ∧
  (.bool false : Value) = v)) ∧ (¬ (x18 = 0) → (
  (.bool false : Value) = v)))) ∧ (¬ (x17 = 8) → (
  (.bool false : Value) = v)))) ∧ (¬ ((x8 = x30) ∧ ((x9 = x31) ∧ ((x10 = x32) ∧ (x11 = x33)))) → (
  (.bool false : Value) = v)))) ∧ (¬ (x12 = 0) → (
  (.bool false : Value) = v)))))) ∧ (¬ (b0 = true) → (
  (.bool false : Value) = v)))) ∧ (¬ (x4 = (-1)) → (
  (.bool false : Value) = v)))) ∧ (¬ (x2 = 0) → (
  (.bool false : Value) = v)))) ∧ (¬ (x0 = 1) → (
  (.bool false : Value) = v)))) ∧ (¬ (x29 = 0) → (
  ((x0 = 1) → (
  ((x2 = 0) → (
  ((x4 = (-1)) → (
  ((b0 = true) → (
  ((b1 = true) → (
  (.bool false : Value) = v)) ∧ (¬ (b1 = true) → (
  ((x12 = 0) → (
  ∃ (x30 : Int), ∃ (x31 : Int), ∃ (x32 : Int), ∃ (x33 : Int), (∀ w' : World, Below w.heap.size w w' → Calls Tryz.prog 18 #[.int .i64 2000, .int .i64 0, .int .i64 2000, .int .i64 0] w' (Vc.Ret (.agg #[.int .i64 x30, .int .i64 x31, .int .i64 x32, .int .i64 x33]) w')) ∧
  (((x8 = x30) ∧ ((x9 = x31) ∧ ((x10 = x32) ∧ (x11 = x33)))) → (
  ((x17 = 8) → (
  ((x18 = 0) → (
  ∃ (x34 : Int), ∃ (x35 : Int), ∃ (x36 : Int), ∃ (x37 : Int), (∀ w' : World, Below w.heap.size w w' → Calls Tryz.prog 18 #[.int .i64 94, .int .i64 (-1), .int .i64 102, .int .i64 6] w' (Vc.Ret (.agg #[.int .i64 x34, .int .i64 x35, .int .i64 x36, .int .i64 x37]) w')) ∧
  (.bool false : Value) = v)) ∧ (¬ (x18 = 0) → (
  (.bool false : Value) = v)))) ∧ (¬ (x17 = 8) → (
  (.bool false : Value) = v)))) ∧ (¬ ((x8 = x30) ∧ ((x9 = x31) ∧ ((x10 = x32) ∧ (x11 = x33)))) → (
  (.bool false : Value) = v)))) ∧ (¬ (x12 = 0) → (
  (.bool false : Value) = v)))))) ∧ (¬ (b0 = true) → (
  (.bool false : Value) = v)))) ∧ (¬ (x4 = (-1)) → (
  (.bool false : Value) = v)))) ∧ (¬ (x2 = 0) → (
  (.bool false : Value) = v)))) ∧ (¬ (x0 = 1) → (
  (.bool false : Value) = v)))))))) ∧ (¬ (x20 = 1) → (
  ((x20 = 0) → (
  ((x0 = 1) → (
  ((x2 = 0) → (
  ((x4 = (-1)) → (
  ((b0 = true) → (
  ((b1 = true) → (
  (.bool false : Value) = v)) ∧ (¬ (b1 = true) → (
  ((x12 = 0) → (
  ∃ (x21 : Int), ∃ (x22 : Int), ∃ (x23 : Int), ∃ (x24 : Int), (∀ w' : World, Below w.heap.size w w' → Calls Tryz.prog 18 #[.int .i64 2000, .int .i64 0, .int .i64 2000, .int .i64 0] w' (Vc.Ret (.agg #[.int .i64 x21, .int .i64 x22, .int .i64 x23, .int .i64 x24]) w')) ∧
  (((x8 = x21) ∧ ((x9 = x22) ∧ ((x10 = x23) ∧ (x11 = x24)))) → (
  ((x17 = 8) → (
  ((x18 = 0) → (
  (.bool false : Value) = v)) ∧ (¬ (x18 = 0) → (
  (.bool false : Value) = v)))) ∧ (¬ (x17 = 8) → (
  (.bool false : Value) = v)))) ∧ (¬ ((x8 = x21) ∧ ((x9 = x22) ∧ ((x10 = x23) ∧ (x11 = x24)))) → (
  (.bool false : Value) = v)))) ∧ (¬ (x12 = 0) → (
  (.bool false : Value) = v)))))) ∧ (¬ (b0 = true) → (
  (.bool false : Value) = v)))) ∧ (¬ (x4 = (-1)) → (
  (.bool false : Value) = v)))) ∧ (¬ (x2 = 0) → (
  (.bool false : Value) = v)))) ∧ (¬ (x0 = 1) → (
  (.bool false : Value) = v)))) ∧ (¬ (x20 = 0) → (
  ((x0 = 1) → (
  ((x2 = 0) → (
  ((x4 = (-1)) → (
  ((b0 = true) → (
  ((b1 = true) → (
  (.bool false : Value) = v)) ∧ (¬ (b1 = true) → (
  ((x12 = 0) → (
  ∃ (x21 : Int), ∃ (x22 : Int), ∃ (x23 : Int), ∃ (x24 : Int), (∀ w' : World, Below w.heap.size w w' → Calls Tryz.prog 18 #[.int .i64 2000, .int .i64 0, .int .i64 2000, .int .i64 0] w' (Vc.Ret (.agg #[.int .i64 x21, .int .i64 x22, .int .i64 x23, .int .i64 x24]) w')) ∧
  (((x8 = x21) ∧ ((x9 = x22) ∧ ((x10 = x23) ∧ (x11 = x24)))) → (
  ((x17 = 8) → (
  ((x18 = 0) → (
  (.bool false : Value) = v)) ∧ (¬ (x18 = 0) → (
  (.bool false : Value) = v)))) ∧ (¬ (x17 = 8) → (
  (.bool false : Value) = v)))) ∧ (¬ ((x8 = x21) ∧ ((x9 = x22) ∧ ((x10 = x23) ∧ (x11 = x24)))) → (
  (.bool false : Value) = v)))) ∧ (¬ (x12 = 0) → (
  (.bool false : Value) = v)))))) ∧ (¬ (b0 = true) → (
  (.bool false : Value) = v)))) ∧ (¬ (x4 = (-1)) → (
  (.bool false : Value) = v)))) ∧ (¬ (x2 = 0) → (
  (.bool false : Value) = v)))) ∧ (¬ (x0 = 1) → (
  (.bool false : Value) = v)))))))) ∧ (¬ (b4 = true) → (
  ∃ (x20 : Int), ∃ (x21 : Int), ∃ (x22 : Int), ∃ (x23 : Int), (∀ w' : World, Below w.heap.size w w' → Calls Tryz.prog 53 #[.agg #[.int .i64 10, .int .i64 10, .int .i64 20, .int .i64 20], .int .i64 1] w' (Vc.Ret (.agg #[.int .i64 x20, .int .i64 x21, .int .i64 x22, .int .i64 x23]) w')) ∧
  ∃ (x24 : Int), ∃ (x25 : Int), (∀ w' : World, Below w.heap.size w w' → Calls Tryz.prog 68 #[.agg #[.int .i64 x20, .int .i64 x21]] w' (Vc.Ret (.agg #[.int .i64 x24, .int .i64 x25]) w')) ∧
  ∃ (x26 : Int), ∃ (x27 : Int), (∀ w' : World, Below w.heap.size w w' → Calls Tryz.prog 68 #[.agg #[.int .i64 x22, .int .i64 x23]] w' (Vc.Ret (.agg #[.int .i64 x26, .int .i64 x27]) w')) ∧
  ∃ (x28 : Int), (∀ (β : Nat → Nat) (w' : World), Below w.heap.size w w' → (Vc.RowOk w.heap.size (β 32) (β 33) (β 34) (β 35) (([.int .i64 0, .int .i64 0, .int .i64 100, .int .i64 0, .int .i64 100, .int .i64 100, .int .i64 0, .int .i64 100] : List Value)) 2 26 w' ∧ True) → Calls Tryz.prog 35 #[.agg #[.string ⟨(([113] : List UInt8)).toArray⟩, Vc.ownV (β 32) (β 33) (β 34) (β 35)], .agg #[.int .i64 x24, .int .i64 x25, .int .i64 x26, .int .i64 x27]] w' (Vc.Ret (.int .i64 x28) w')) ∧
  ((x28 = 1) → (
  ((x0 = 1) → (
  ((x2 = 0) → (
  ((x4 = (-1)) → (
  ((b0 = true) → (
  ((b1 = true) → (
  (.bool false : Value) = v)) ∧ (¬ (b1 = true) → (
  ((x12 = 0) → (
  ∃ (x29 : Int), ∃ (x30 : Int), ∃ (x31 : Int), ∃ (x32 : Int), (∀ w' : World, Below w.heap.size w w' → Calls Tryz.prog 18 #[.int .i64 2000, .int .i64 0, .int .i64 2000, .int .i64 0] w' (Vc.Ret (.agg #[.int .i64 x29, .int .i64 x30, .int .i64 x31, .int .i64 x32]) w')) ∧
  (((x8 = x29) ∧ ((x9 = x30) ∧ ((x10 = x31) ∧ (x11 = x32)))) → (
  ((x17 = 8) → (
  ((x18 = 0) → (
  ∃ (x33 : Int), ∃ (x34 : Int), ∃ (x35 : Int), ∃ (x36 : Int), (∀ w' : World, Below w.heap.size w w' → Calls Tryz.prog 18 #[.int .i64 94, .int .i64 (-1), .int .i64 102, .int .i64 6] w' (Vc.Ret (.agg #[.int .i64 x33, .int .i64 x34, .int .i64 x35, .int .i64 x36]) w')) ∧
  (.bool false : Value) = v)) ∧ (¬ (x18 = 0) → (
  (.bool false : Value) = v)))) ∧ (¬ (x17 = 8) → (
  (.bool false : Value) = v)))) ∧ (¬ ((x8 = x29) ∧ ((x9 = x30) ∧ ((x10 = x31) ∧ (x11 = x32)))) → (
  (.bool false : Value) = v)))) ∧ (¬ (x12 = 0) → (
  (.bool false : Value) = v)))))) ∧ (¬ (b0 = true) → (
  (.bool false : Value) = v)))) ∧ (¬ (x4 = (-1)) → (
  (.bool false : Value) = v)))) ∧ (¬ (x2 = 0) → (
  (.bool false : Value) = v)))) ∧ (¬ (x0 = 1) → (
  (.bool false : Value) = v)))) ∧ (¬ (x28 = 1) → (
  ((x28 = 0) → (
  ((x0 = 1) → (
  ((x2 = 0) → (
  ((x4 = (-1)) → (
  ((b0 = true) → (
  ((b1 = true) → (
  (.bool false : Value) = v)) ∧ (¬ (b1 = true) → (
  ((x12 = 0) → (
  ∃ (x29 : Int), ∃ (x30 : Int), ∃ (x31 : Int), ∃ (x32 : Int), (∀ w' : World, Below w.heap.size w w' → Calls Tryz.prog 18 #[.int .i64 2000, .int .i64 0, .int .i64 2000, .int .i64 0] w' (Vc.Ret (.agg #[.int .i64 x29, .int .i64 x30, .int .i64 x31, .int .i64 x32]) w')) ∧
  (((x8 = x29) ∧ ((x9 = x30) ∧ ((x10 = x31) ∧ (x11 = x32)))) → (
  ((x17 = 8) → (
  ((x18 = 0) → (
  ∃ (x33 : Int), ∃ (x34 : Int), ∃ (x35 : Int), ∃ (x36 : Int), (∀ w' : World, Below w.heap.size w w' → Calls Tryz.prog 18 #[.int .i64 94, .int .i64 (-1), .int .i64 102, .int .i64 6] w' (Vc.Ret (.agg #[.int .i64 x33, .int .i64 x34, .int .i64 x35, .int .i64 x36]) w')) ∧
  (.bool ((x24 == x33) && ((x25 == x34) && ((x26 == x35) && (x27 == x36)))) : Value) = v)) ∧ (¬ (x18 = 0) → (
  (.bool false : Value) = v)))) ∧ (¬ (x17 = 8) → (
  (.bool false : Value) = v)))) ∧ (¬ ((x8 = x29) ∧ ((x9 = x30) ∧ ((x10 = x31) ∧ (x11 = x32)))) → (
  (.bool false : Value) = v)))) ∧ (¬ (x12 = 0) → (
  (.bool false : Value) = v)))))) ∧ (¬ (b0 = true) → (
  (.bool false : Value) = v)))) ∧ (¬ (x4 = (-1)) → (
  (.bool false : Value) = v)))) ∧ (¬ (x2 = 0) → (
  (.bool false : Value) = v)))) ∧ (¬ (x0 = 1) → (
  (.bool false : Value) = v)))) ∧ (¬ (x28 = 0) → (
  ((x0 = 1) → (
  ((x2 = 0) → (
  ((x4 = (-1)) → (
  ((b0 = true) → (
  ((b1 = true) → (
  (.bool false : Value) = v)) ∧ (¬ (b1 = true) → (
  ((x12 = 0) → (
  ∃ (x29 : Int), ∃ (x30 : Int), ∃ (x31 : Int), ∃ (x32 : Int), (∀ w' : World, Below w.heap.size w w' → Calls Tryz.prog 18 #[.int .i64 2000, .int .i64 0, .int .i64 2000, .int .i64 0] w' (Vc.Ret (.agg #[.int .i64 x29, .int .i64 x30, .int .i64 x31, .int .i64 x32]) w')) ∧
  (((x8 = x29) ∧ ((x9 = x30) ∧ ((x10 = x31) ∧ (x11 = x32)))) → (
  ((x17 = 8) → (
  ((x18 = 0) → (
  ∃ (x33 : Int), ∃ (x34 : Int), ∃ (x35 : Int), ∃ (x36 : Int), (∀ w' : World, Below w.heap.size w w' → Calls Tryz.prog 18 #[.int .i64 94, .int .i64 (-1), .int .i64 102, .int .i64 6] w' (Vc.Ret (.agg #[.int .i64 x33, .int .i64 x34, .int .i64 x35, .int .i64 x36]) w')) ∧
  (.bool false : Value) = v)) ∧ (¬ (x18 = 0) → (
  (.bool false : Value) = v)))) ∧ (¬ (x17 = 8) → (
  (.bool false : Value) = v)))) ∧ (¬ ((x8 = x29) ∧ ((x9 = x30) ∧ ((x10 = x31) ∧ (x11 = x32)))) → (
  (.bool false : Value) = v)))) ∧ (¬ (x12 = 0) → (
  (.bool false : Value) = v)))))) ∧ (¬ (b0 = true) → (
  (.bool false : Value) = v)))) ∧ (¬ (x4 = (-1)) → (
  (.bool false : Value) = v)))) ∧ (¬ (x2 = 0) → (
  (.bool false : Value) = v)))) ∧ (¬ (x0 = 1) → (
  (.bool false : Value) = v)))))))))) ∧ (¬ (x19 = 0) → (
  ((x0 = 1) → (
  ((x2 = 0) → (
  ((x4 = (-1)) → (
  ((b0 = true) → (
  ((b1 = true) → (
  (.bool false : Value) = v)) ∧ (¬ (b1 = true) → (
  ((x12 = 0) → (
  ∃ (x20 : Int), ∃ (x21 : Int), ∃ (x22 : Int), ∃ (x23 : Int), (∀ w' : World, Below w.heap.size w w' → Calls Tryz.prog 18 #[.int .i64 2000, .int .i64 0, .int .i64 2000, .int .i64 0] w' (Vc.Ret (.agg #[.int .i64 x20, .int .i64 x21, .int .i64 x22, .int .i64 x23]) w')) ∧
  (((x8 = x20) ∧ ((x9 = x21) ∧ ((x10 = x22) ∧ (x11 = x23)))) → (
  ((x17 = 8) → (
  ((x18 = 0) → (
  ∃ (x24 : Int), ∃ (x25 : Int), ∃ (x26 : Int), ∃ (x27 : Int), (∀ w' : World, Below w.heap.size w w' → Calls Tryz.prog 18 #[.int .i64 94, .int .i64 (-1), .int .i64 102, .int .i64 6] w' (Vc.Ret (.agg #[.int .i64 x24, .int .i64 x25, .int .i64 x26, .int .i64 x27]) w')) ∧
  (.bool false : Value) = v)) ∧ (¬ (x18 = 0) → (
  (.bool false : Value) = v)))) ∧ (¬ (x17 = 8) → (
  (.bool false : Value) = v)))) ∧ (¬ ((x8 = x20) ∧ ((x9 = x21) ∧ ((x10 = x22) ∧ (x11 = x23)))) → (
  (.bool false : Value) = v)))) ∧ (¬ (x12 = 0) → (
  (.bool false : Value) = v)))))) ∧ (¬ (b0 = true) → (
  (.bool false : Value) = v)))) ∧ (¬ (x4 = (-1)) → (
  (.bool false : Value) = v)))) ∧ (¬ (x2 = 0) → (
  (.bool false : Value) = v)))) ∧ (¬ (x0 = 1) → (
  (.bool false : Value) = v)))))))) ∧ (¬ (b3 = true) → (
  ∃ (b4 : Bool), (∀ w' : World, Below w.heap.size w w' → Calls Tryz.prog 34 #[.agg #[.int .i64 95, .int .i64 0, .int .i64 101, .int .i64 5]] w' (Vc.Ret (.bool b4) w')) ∧
  ((b4 = true) → (
  ∃ (x19 : Int), (∀ (β : Nat → Nat) (w' : World), Below w.heap.size w w' → (Vc.RowOk w.heap.size (β 32) (β 33) (β 34) (β 35) (([.int .i64 0, .int .i64 0, .int .i64 100, .int .i64 0, .int .i64 100, .int .i64 100, .int .i64 0, .int .i64 100] : List Value)) 2 26 w' ∧ True) → Calls Tryz.prog 35 #[.agg #[.string ⟨(([113] : List UInt8)).toArray⟩, Vc.ownV (β 32) (β 33) (β 34) (β 35)], .agg #[.int .i64 95, .int .i64 0, .int .i64 101, .int .i64 5]] w' (Vc.Ret (.int .i64 x19) w')) ∧
  ((x19 = 1) → (
  ∃ (x20 : Int), ∃ (x21 : Int), ∃ (x22 : Int), ∃ (x23 : Int), (∀ w' : World, Below w.heap.size w w' → Calls Tryz.prog 53 #[.agg #[.int .i64 95, .int .i64 0, .int .i64 101, .int .i64 5], .int .i64 1] w' (Vc.Ret (.agg #[.int .i64 x20, .int .i64 x21, .int .i64 x22, .int .i64 x23]) w')) ∧
  ∃ (x24 : Int), ∃ (x25 : Int), (∀ w' : World, Below w.heap.size w w' → Calls Tryz.prog 68 #[.agg #[.int .i64 x20, .int .i64 x21]] w' (Vc.Ret (.agg #[.int .i64 x24, .int .i64 x25]) w')) ∧
  ∃ (x26 : Int), ∃ (x27 : Int), (∀ w' : World, Below w.heap.size w w' → Calls Tryz.prog 68 #[.agg #[.int .i64 x22, .int .i64 x23]] w' (Vc.Ret (.agg #[.int .i64 x26, .int .i64 x27]) w')) ∧
  ∃ (x28 : Int), (∀ (β : Nat → Nat) (w' : World), Below w.heap.size w w' → (Vc.RowOk w.heap.size (β 32) (β 33) (β 34) (β 35) (([.int .i64 0, .int .i64 0, .int .i64 100, .int .i64 0, .int .i64 100, .int .i64 100, .int .i64 0, .int .i64 100] : List Value)) 2 26 w' ∧ True) → Calls Tryz.prog 35 #[.agg #[.string ⟨(([113] : List UInt8)).toArray⟩, Vc.ownV (β 32) (β 33) (β 34) (β 35)], .agg #[.int .i64 x24, .int .i64 x25, .int .i64 x26, .int .i64 x27]] w' (Vc.Ret (.int .i64 x28) w')) ∧
  ((x28 = 1) → (
  ((x0 = 1) → (
  ((x2 = 0) → (
  ((x4 = (-1)) → (
  ((b0 = true) → (
  ((b1 = true) → (
  (.bool false : Value) = v)) ∧ (¬ (b1 = true) → (
  ((x12 = 0) → (
  ∃ (x29 : Int), ∃ (x30 : Int), ∃ (x31 : Int), ∃ (x32 : Int), (∀ w' : World, Below w.heap.size w w' → Calls Tryz.prog 18 #[.int .i64 2000, .int .i64 0, .int .i64 2000, .int .i64 0] w' (Vc.Ret (.agg #[.int .i64 x29, .int .i64 x30, .int .i64 x31, .int .i64 x32]) w')) ∧
  (((x8 = x29) ∧ ((x9 = x30) ∧ ((x10 = x31) ∧ (x11 = x32)))) → (
  ((x17 = 8) → (
  ((x18 = 0) → (
  ∃ (x33 : Int), ∃ (x34 : Int), ∃ (x35 : Int), ∃ (x36 : Int), (∀ w' : World, Below w.heap.size w w' → Calls Tryz.prog 18 #[.int .i64 94, .int .i64 (-1), .int .i64 102, .int .i64 6] w' (Vc.Ret (.agg #[.int .i64 x33, .int .i64 x34, .int .i64 x35, .int .i64 x36]) w')) ∧
  (.bool false : Value) = v)) ∧ (¬ (x18 = 0) → (
  (.bool false : Value) = v)))) ∧ (¬ (x17 = 8) → (
  (.bool false : Value) = v)))) ∧ (¬ ((x8 = x29) ∧ ((x9 = x30) ∧ ((x10 = x31) ∧ (x11 = x32)))) → (
  (.bool false : Value) = v)))) ∧ (¬ (x12 = 0) → (
  (.bool false : Value) = v)))))) ∧ (¬ (b0 = true) → (
  (.bool false : Value) = v)))) ∧ (¬ (x4 = (-1)) → (
  (.bool false : Value) = v)))) ∧ (¬ (x2 = 0) → (
  (.bool false : Value) = v)))) ∧ (¬ (x0 = 1) → (
  (.bool false : Value) = v)))) ∧ (¬ (x28 = 1) → (
  ((x28 = 0) → (
  ((x0 = 1) → (
  ((x2 = 0) → (
  ((x4 = (-1)) → (
  ((b0 = true) → (
  ((b1 = true) → (
  (.bool false : Value) = v)) ∧ (¬ (b1 = true) → (
  ((x12 = 0) → (
  ∃ (x29 : Int), ∃ (x30 : Int), ∃ (x31 : Int), ∃ (x32 : Int), (∀ w' : World, Below w.heap.size w w' → Calls Tryz.prog 18 #[.int .i64 2000, .int .i64 0, .int .i64 2000, .int .i64 0] w' (Vc.Ret (.agg #[.int .i64 x29, .int .i64 x30, .int .i64 x31, .int .i64 x32]) w')) ∧
  (((x8 = x29) ∧ ((x9 = x30) ∧ ((x10 = x31) ∧ (x11 = x32)))) → (
  ((x17 = 8) → (
  ((x18 = 0) → (
  ∃ (x33 : Int), ∃ (x34 : Int), ∃ (x35 : Int), ∃ (x36 : Int), (∀ w' : World, Below w.heap.size w w' → Calls Tryz.prog 18 #[.int .i64 94, .int .i64 (-1), .int .i64 102, .int .i64 6] w' (Vc.Ret (.agg #[.int .i64 x33, .int .i64 x34, .int .i64 x35, .int .i64 x36]) w')) ∧
  (.bool false : Value) = v)) ∧ (¬ (x18 = 0) → (
  (.bool false : Value) = v)))) ∧ (¬ (x17 = 8) → (
  (.bool false : Value) = v)))) ∧ (¬ ((x8 = x29) ∧ ((x9 = x30) ∧ ((x10 = x31) ∧ (x11 = x32)))) → (
  (.bool false : Value) = v)))) ∧ (¬ (x12 = 0) → (
  (.bool false : Value) = v)))))) ∧ (¬ (b0 = true) → (
  (.bool false : Value) = v)))) ∧ (¬ (x4 = (-1)) → (
  (.bool false : Value) = v)))) ∧ (¬ (x2 = 0) → (
  (.bool false : Value) = v)))) ∧ (¬ (x0 = 1) → (
  (.bool false : Value) = v)))) ∧ (¬ (x28 = 0) → (
  ((x0 = 1) → (
  ((x2 = 0) → (
  ((x4 = (-1)) → (
  ((b0 = true) → (
  ((b1 = true) → (
  (.bool false : Value) = v)) ∧ (¬ (b1 = true) → (
  ((x12 = 0) → (
  ∃ (x29 : Int), ∃ (x30 : Int), ∃ (x31 : Int), ∃ (x32 : Int), (∀ w' : World, Below w.heap.size w w' → Calls Tryz.prog 18 #[.int .i64 2000, .int .i64 0, .int .i64 2000, .int .i64 0] w' (Vc.Ret (.agg #[.int .i64 x29, .int .i64 x30, .int .i64 x31, .int .i64 x32]) w')) ∧
  (((x8 = x29) ∧ ((x9 = x30) ∧ ((x10 = x31) ∧ (x11 = x32)))) → (
  ((x17 = 8) → (
  ((x18 = 0) → (
  ∃ (x33 : Int), ∃ (x34 : Int), ∃ (x35 : Int), ∃ (x36 : Int), (∀ w' : World, Below w.heap.size w w' → Calls Tryz.prog 18 #[.int .i64 94, .int .i64 (-1), .int .i64 102, .int .i64 6] w' (Vc.Ret (.agg #[.int .i64 x33, .int .i64 x34, .int .i64 x35, .int .i64 x36]) w')) ∧
  (.bool false : Value) = v)) ∧ (¬ (x18 = 0) → (
  (.bool false : Value) = v)))) ∧ (¬ (x17 = 8) → (
  (.bool false : Value) = v)))) ∧ (¬ ((x8 = x29) ∧ ((x9 = x30) ∧ ((x10 = x31) ∧ (x11 = x32)))) → (
  (.bool false : Value) = v)))) ∧ (¬ (x12 = 0) → (
  (.bool false : Value) = v)))))) ∧ (¬ (b0 = true) → (
  (.bool false : Value) = v)))) ∧ (¬ (x4 = (-1)) → (
  (.bool false : Value) = v)))) ∧ (¬ (x2 = 0) → (
  (.bool false : Value) = v)))) ∧ (¬ (x0 = 1) → (
  (.bool false : Value) = v)))))))) ∧ (¬ (x19 = 1) → (
  ((x19 = 0) → (
  ∃ (x20 : Int), ∃ (x21 : Int), ∃ (x22 : Int), ∃ (x23 : Int), (∀ w' : World, Below w.heap.size w w' → Calls Tryz.prog 53 #[.agg #[.int .i64 95, .int .i64 0, .int .i64 101, .int .i64 5], .int .i64 1] w' (Vc.Ret (.agg #[.int .i64 x20, .int .i64 x21, .int .i64 x22, .int .i64 x23]) w')) ∧
  ∃ (x24 : Int), ∃ (x25 : Int), (∀ w' : World, Below w.heap.size w w' → Calls Tryz.prog 68 #[.agg #[.int .i64 x20, .int .i64 x21]] w' (Vc.Ret (.agg #[.int .i64 x24, .int .i64 x25]) w')) ∧
  ∃ (x26 : Int), ∃ (x27 : Int), (∀ w' : World, Below w.heap.size w w' → Calls Tryz.prog 68 #[.agg #[.int .i64 x22, .int .i64 x23]] w' (Vc.Ret (.agg #[.int .i64 x26, .int .i64 x27]) w')) ∧
  ∃ (x28 : Int), (∀ (β : Nat → Nat) (w' : World), Below w.heap.size w w' → (Vc.RowOk w.heap.size (β 32) (β 33) (β 34) (β 35) (([.int .i64 0, .int .i64 0, .int .i64 100, .int .i64 0, .int .i64 100, .int .i64 100, .int .i64 0, .int .i64 100] : List Value)) 2 26 w' ∧ True) → Calls Tryz.prog 35 #[.agg #[.string ⟨(([113] : List UInt8)).toArray⟩, Vc.ownV (β 32) (β 33) (β 34) (β 35)], .agg #[.int .i64 x24, .int .i64 x25, .int .i64 x26, .int .i64 x27]] w' (Vc.Ret (.int .i64 x28) w')) ∧
  ((x28 = 1) → (
  ((x0 = 1) → (
  ((x2 = 0) → (
  ((x4 = (-1)) → (
  ((b0 = true) → (
  ((b1 = true) → (
  (.bool false : Value) = v)) ∧ (¬ (b1 = true) → (
  ((x12 = 0) → (
  ∃ (x29 : Int), ∃ (x30 : Int), ∃ (x31 : Int), ∃ (x32 : Int), (∀ w' : World, Below w.heap.size w w' → Calls Tryz.prog 18 #[.int .i64 2000, .int .i64 0, .int .i64 2000, .int .i64 0] w' (Vc.Ret (.agg #[.int .i64 x29, .int .i64 x30, .int .i64 x31, .int .i64 x32]) w')) ∧
  (((x8 = x29) ∧ ((x9 = x30) ∧ ((x10 = x31) ∧ (x11 = x32)))) → (
  ((x17 = 8) → (
  ((x18 = 0) → (
  ∃ (x33 : Int), ∃ (x34 : Int), ∃ (x35 : Int), ∃ (x36 : Int), (∀ w' : World, Below w.heap.size w w' → Calls Tryz.prog 18 #[.int .i64 94, .int .i64 (-1), .int .i64 102, .int .i64 6] w' (Vc.Ret (.agg #[.int .i64 x33, .int .i64 x34, .int .i64 x35, .int .i64 x36]) w')) ∧
  (.bool false : Value) = v)) ∧ (¬ (x18 = 0) → (
  (.bool false : Value) = v)))) ∧ (¬ (x17 = 8) → (
  (.bool false : Value) = v)))) ∧ (¬ ((x8 = x29) ∧ ((x9 = x30) ∧ ((x10 = x31) ∧ (x11 = x32)))) → (
  (.bool false : Value) = v)))) ∧ (¬ (x12 = 0) → (
  (.bool false : Value) = v)))))) ∧ (¬ (b0 = true) → (
  (.bool false : Value) = v)))) ∧ (¬ (x4 = (-1)) → (
  (.bool false : Value) = v)))) ∧ (¬ (x2 = 0) → (
  (.bool false : Value) = v)))) ∧ (¬ (x0 = 1) → (
  (.bool false : Value) = v)))) ∧ (¬ (x28 = 1) → (
  ((x28 = 0) → (
  ((x0 = 1) → (
  ((x2 = 0) → (
  ((x4 = (-1)) → (
  ((b0 = true) → (
  ((b1 = true) → (
  (.bool false : Value) = v)) ∧ (¬ (b1 = true) → (
  ((x12 = 0) → (
  ∃ (x29 : Int), ∃ (x30 : Int), ∃ (x31 : Int), ∃ (x32 : Int), (∀ w' : World, Below w.heap.size w w' → Calls Tryz.prog 18 #[.int .i64 2000, .int .i64 0, .int .i64 2000, .int .i64 0] w' (Vc.Ret (.agg #[.int .i64 x29, .int .i64 x30, .int .i64 x31, .int .i64 x32]) w')) ∧
  (((x8 = x29) ∧ ((x9 = x30) ∧ ((x10 = x31) ∧ (x11 = x32)))) → (
  ((x17 = 8) → (
  ((x18 = 0) → (
  ∃ (x33 : Int), ∃ (x34 : Int), ∃ (x35 : Int), ∃ (x36 : Int), (∀ w' : World, Below w.heap.size w w' → Calls Tryz.prog 18 #[.int .i64 94, .int .i64 (-1), .int .i64 102, .int .i64 6] w' (Vc.Ret (.agg #[.int .i64 x33, .int .i64 x34, .int .i64 x35, .int .i64 x36]) w')) ∧
  (.bool ((x24 == x33) && ((x25 == x34) && ((x26 == x35) && (x27 == x36)))) : Value) = v)) ∧ (¬ (x18 = 0) → (
  (.bool false : Value) = v)))) ∧ (¬ (x17 = 8) → (
  (.bool false : Value) = v)))) ∧ (¬ ((x8 = x29) ∧ ((x9 = x30) ∧ ((x10 = x31) ∧ (x11 = x32)))) → (
  (.bool false : Value) = v)))) ∧ (¬ (x12 = 0) → (
  (.bool false : Value) = v)))))) ∧ (¬ (b0 = true) → (
  (.bool false : Value) = v)))) ∧ (¬ (x4 = (-1)) → (
  (.bool false : Value) = v)))) ∧ (¬ (x2 = 0) → (
  (.bool false : Value) = v)))) ∧ (¬ (x0 = 1) → (
  (.bool false : Value) = v)))) ∧ (¬ (x28 = 0) → (
  ((x0 = 1) → (
  ((x2 = 0) → (
  ((x4 = (-1)) → (
  ((b0 = true) → (
  ((b1 = true) → (
  (.bool false : Value) = v)) ∧ (¬ (b1 = true) → (
  ((x12 = 0) → (
  ∃ (x29 : Int), ∃ (x30 : Int), ∃ (x31 : Int), ∃ (x32 : Int), (∀ w' : World, Below w.heap.size w w' → Calls Tryz.prog 18 #[.int .i64 2000, .int .i64 0, .int .i64 2000, .int .i64 0] w' (Vc.Ret (.agg #[.int .i64 x29, .int .i64 x30, .int .i64 x31, .int .i64 x32]) w')) ∧
  (((x8 = x29) ∧ ((x9 = x30) ∧ ((x10 = x31) ∧ (x11 = x32)))) → (
  ((x17 = 8) → (
  ((x18 = 0) → (
  ∃ (x33 : Int), ∃ (x34 : Int), ∃ (x35 : Int), ∃ (x36 : Int), (∀ w' : World, Below w.heap.size w w' → Calls Tryz.prog 18 #[.int .i64 94, .int .i64 (-1), .int .i64 102, .int .i64 6] w' (Vc.Ret (.agg #[.int .i64 x33, .int .i64 x34, .int .i64 x35, .int .i64 x36]) w')) ∧
  (.bool false : Value) = v)) ∧ (¬ (x18 = 0) → (
  (.bool false : Value) = v)))) ∧ (¬ (x17 = 8) → (
  (.bool false : Value) = v)))) ∧ (¬ ((x8 = x29) ∧ ((x9 = x30) ∧ ((x10 = x31) ∧ (x11 = x32)))) → (
  (.bool false : Value) = v)))) ∧ (¬ (x12 = 0) → (
  (.bool false : Value) = v)))))) ∧ (¬ (b0 = true) → (
  (.bool false : Value) = v)))) ∧ (¬ (x4 = (-1)) → (
  (.bool false : Value) = v)))) ∧ (¬ (x2 = 0) → (
  (.bool false : Value) = v)))) ∧ (¬ (x0 = 1) → (
  (.bool false : Value) = v)))))))) ∧ (¬ (x19 = 0) → (
  ((x0 = 1) → (
  ((x2 = 0) → (
  ((x4 = (-1)) → (
  ((b0 = true) → (
  ((b1 = true) → (
  (.bool false : Value) = v)) ∧ (¬ (b1 = true) → (
  ((x12 = 0) → (
  ∃ (x20 : Int), ∃ (x21 : Int), ∃ (x22 : Int), ∃ (x23 : Int), (∀ w' : World, Below w.heap.size w w' → Calls Tryz.prog 18 #[.int .i64 2000, .int .i64 0, .int .i64 2000, .int .i64 0] w' (Vc.Ret (.agg #[.int .i64 x20, .int .i64 x21, .int .i64 x22, .int .i64 x23]) w')) ∧
  (((x8 = x20) ∧ ((x9 = x21) ∧ ((x10 = x22) ∧ (x11 = x23)))) → (
  ((x17 = 8) → (
  ((x18 = 0) → (
  (.bool false : Value) = v)) ∧ (¬ (x18 = 0) → (
  (.bool false : Value) = v)))) ∧ (¬ (x17 = 8) → (
  (.bool false : Value) = v)))) ∧ (¬ ((x8 = x20) ∧ ((x9 = x21) ∧ ((x10 = x22) ∧ (x11 = x23)))) → (
  (.bool false : Value) = v)))) ∧ (¬ (x12 = 0) → (
  (.bool false : Value) = v)))))) ∧ (¬ (b0 = true) → (
  (.bool false : Value) = v)))) ∧ (¬ (x4 = (-1)) → (
  (.bool false : Value) = v)))) ∧ (¬ (x2 = 0) → (
  (.bool false : Value) = v)))) ∧ (¬ (x0 = 1) → (
  (.bool false : Value) = v)))))))) ∧ (¬ (b4 = true) → (
  ((x0 = 1) → (
  ((x2 = 0) → (
  ((x4 = (-1)) → (
  ((b0 = true) → (
  ((b1 = true) → (
  (.bool false : Value) = v)) ∧ (¬ (b1 = true) → (
  ((x12 = 0) → (
  ∃ (x19 : Int), ∃ (x20 : Int), ∃ (x21 : Int), ∃ (x22 : Int), (∀ w' : World, Below w.heap.size w w' → Calls Tryz.prog 18 #[.int .i64 2000, .int .i64 0, .int .i64 2000, .int .i64 0] w' (Vc.Ret (.agg #[.int .i64 x19, .int .i64 x20, .int .i64 x21, .int .i64 x22]) w')) ∧
  (((x8 = x19) ∧ ((x9 = x20) ∧ ((x10 = x21) ∧ (x11 = x22)))) → (
  ((x17 = 8) → (
  ((x18 = 0) → (
  ∃ (x23 : Int), ∃ (x24 : Int), ∃ (x25 : Int), ∃ (x26 : Int), (∀ w' : World, Below w.heap.size w w' → Calls Tryz.prog 18 #[.int .i64 94, .int .i64 (-1), .int .i64 102, .int .i64 6] w' (Vc.Ret (.agg #[.int .i64 x23, .int .i64 x24, .int .i64 x25, .int .i64 x26]) w')) ∧
  (.bool false : Value) = v)) ∧ (¬ (x18 = 0) → (
  (.bool false : Value) = v)))) ∧ (¬ (x17 = 8) → (
  (.bool false : Value) = v)))) ∧ (¬ ((x8 = x19) ∧ ((x9 = x20) ∧ ((x10 = x21) ∧ (x11 = x22)))) → (
  (.bool false : Value) = v)))) ∧ (¬ (x12 = 0) → (
  (.bool false : Value) = v)))))) ∧ (¬ (b0 = true) → (
  (.bool false : Value) = v)))) ∧ (¬ (x4 = (-1)) → (
  (.bool false : Value) = v)))) ∧ (¬ (x2 = 0) → (
  (.bool false : Value) = v)))) ∧ (¬ (x0 = 1) → (
  (.bool false : Value) = v)))))))) ∧ (¬ (b2 = true) → (
  (.bool false : Value) = v))) : Calls Tryz.prog 10 #[] w (Vc.Ret v w) :=
  Vc.pure_of (base_inl [25, 27, 67, 66, 31, 32, 18] (by kernel_rfl)) [] 200 Tryz.func10 (b := (Tryz.f10.body).getD .skip) (by kernel_rfl) [] ⟨0, 0, 0, 0, 0, 0, 0⟩ (Vc.envOf [] [] [] []) (by kernel_rfl) (by kernel_rfl) (by kernel_rfl) h

theorem vc_safety_near_1 (x0 : Int) (w : World) (v : Value) (h : 
  ∀ x1 : Int, x1 = (if 536870912 < x0 then 536870912 else x0) →
  ∀ x2 : Int, x2 = (if x1 > (-536870912) then x1 else (-536870912)) →
  (.int .i64 x2 : Value) = v) : Calls Tryz.prog 112 #[.int .i64 x0] w (Vc.Ret v w) :=
  Vc.pure_of base [] 200 Tryz.func112 (b := (Tryz.f112.body).getD .skip) (by kernel_rfl) [.cv (.one (.int .i64 (.var 0)))] ⟨1, 0, 0, 0, 0, 0, 0⟩ (Vc.envOf [x0] [] [] []) (by kernel_rfl) (by kernel_rfl) (by kernel_rfl) h

end Go.Proofs.YtbpcdmjjdnjmbaaGreat
