/- What the walks of functions come to (written by program). -/
import Derived.Test.YtbpcdmjjdnjmbaaGreatKbG1
set_option linter.unusedVariables false
set_option maxRecDepth 100000
namespace Go.Proofs.YtbpcdmjjdnjmbaaGreat
open Go Go.RowKit
theorem vc_ullageref01_Number (x0 : Int) (w : World) (v : Value) (h : 
  (.bool (decide (x0 ≥ (-9223372036854775807))) : Value) = v) : Calls Tryz.prog 90 #[.int .i64 x0] w (Vc.Ret v w) :=
  Vc.pure_of base [] 200 Tryz.func90 (b := (Tryz.f90.body).getD .skip) (by kernel_rfl) [.cv (.one (.int .i64 (.var 0)))] ⟨1, 0, 0, 0, 0, 0, 0⟩ (Vc.envOf [x0] [] [] []) (by kernel_rfl) (by kernel_rfl) (by kernel_rfl) h

theorem vc_ullageref01_Check (x0 x1 : Int) (w : World) (v : Value) (h : 
  ∃ (b0 : Bool), (∀ w' : World, Below w.heap.size w w' → Calls Tryz.prog 90 #[.int .i64 x0] w' (Vc.Ret (.bool b0) w')) ∧
  ∃ (b1 : Bool), (∀ w' : World, Below w.heap.size w w' → Calls Tryz.prog 90 #[.int .i64 x1] w' (Vc.Ret (.bool b1) w')) ∧
  ((b0 = true) → (
  ((b1 = true) → (
  ((x1 < x0) → (
  (.int .i64 2 : Value) = v)) ∧ (¬ (x1 < x0) → (
  (.int .i64 0 : Value) = v)))) ∧ (¬ (b1 = true) → (
  (.int .i64 2 : Value) = v)))) ∧ (¬ (b0 = true) → (
  (.int .i64 2 : Value) = v))) : Calls Tryz.prog 43 #[.agg #[.int .i64 x0, .int .i64 x1]] w (Vc.Ret v w) :=
  Vc.pure_of base [] 200 Tryz.func43 (b := (Tryz.f43.body).getD .skip) (by kernel_rfl) [.cv (.agg [.int .i64 (.var 0), .int .i64 (.var 1)])] ⟨2, 0, 0, 0, 0, 0, 0⟩ (Vc.envOf [x0, x1] [] [] []) (by kernel_rfl) (by kernel_rfl) (by kernel_rfl) h

theorem vc_ullageref01_both (x0 x1 x2 x3 : Int) (w : World) (v : Value) (h : 
  ∃ (x4 : Int), (∀ w' : World, Below w.heap.size w w' → Calls Tryz.prog 43 #[.agg #[.int .i64 x0, .int .i64 x1]] w' (Vc.Ret (.int .i64 x4) w')) ∧
  ∃ (x5 : Int), (∀ w' : World, Below w.heap.size w w' → Calls Tryz.prog 43 #[.agg #[.int .i64 x2, .int .i64 x3]] w' (Vc.Ret (.int .i64 x5) w')) ∧
  ∀ x6 : Int, x6 = (if x5 > x4 then x5 else x4) →
  (.int .i64 x6 : Value) = v) : Calls Tryz.prog 100 #[.agg #[.int .i64 x0, .int .i64 x1], .agg #[.int .i64 x2, .int .i64 x3]] w (Vc.Ret v w) :=
  Vc.pure_of base [] 200 Tryz.func100 (b := (Tryz.f100.body).getD .skip) (by kernel_rfl) [.cv (.agg [.int .i64 (.var 0), .int .i64 (.var 1)]), .cv (.agg [.int .i64 (.var 2), .int .i64 (.var 3)])] ⟨4, 0, 0, 0, 0, 0, 0⟩ (Vc.envOf [x0, x1, x2, x3] [] [] []) (by kernel_rfl) (by kernel_rfl) (by kernel_rfl) h

theorem vc_ullageref01_size (x0 : Int) (w : World) (v : Value) (h : 
  ((x0 < 0) → (
  ∀ x1 : Int, x1 = IntKind.u64.wrap (x0) →
  ∀ x2 : Int, x2 = IntKind.u64.wrap (0 - x1) →
  (.int .u64 x2 : Value) = v)) ∧ (¬ (x0 < 0) → (
  ∀ x1 : Int, x1 = IntKind.u64.wrap (x0) →
  (.int .u64 x1 : Value) = v))) : Calls Tryz.prog 132 #[.int .i64 x0] w (Vc.Ret v w) :=
  Vc.pure_of base [] 200 Tryz.func132 (b := (Tryz.f132.body).getD .skip) (by kernel_rfl) [.cv (.one (.int .i64 (.var 0)))] ⟨1, 0, 0, 0, 0, 0, 0⟩ (Vc.envOf [x0] [] [] []) (by kernel_rfl) (by kernel_rfl) (by kernel_rfl) h

theorem vc_ullageref01_Of (x0 : Int) (w : World) (v : Value) (h : 
  ((x0 < 0) → (
  ∀ x1 : Int, x1 = IntKind.u64.wrap (x0) →
  (.agg #[.int .i64 (-1), .int .u64 x1] : Value) = v)) ∧ (¬ (x0 < 0) → (
  ∀ x1 : Int, x1 = IntKind.u64.wrap (x0) →
  (.agg #[.int .i64 0, .int .u64 x1] : Value) = v))) : Calls Tryz.prog 134 #[.int .i64 x0] w (Vc.Ret v w) :=
  Vc.pure_of base [] 200 Tryz.func134 (b := (Tryz.f134.body).getD .skip) (by kernel_rfl) [.cv (.one (.int .i64 (.var 0)))] ⟨1, 0, 0, 0, 0, 0, 0⟩ (Vc.envOf [x0] [] [] []) (by kernel_rfl) (by kernel_rfl) (by kernel_rfl) h

theorem vc_ullageref01_Plus (x0 x1 x2 x3 : Int) (w : World) (v : Value) (h : 
  ∀ x4 : Int, x4 = IntKind.u64.wrap (x1 + x3) →
  ∀ x5 : Int, x5 = IntKind.i64.wrap (x0 + x2) →
  ((x4 < x1) → (
  ∀ x6 : Int, x6 = IntKind.i64.wrap (x5 + 1) →
  (.agg #[.int .i64 x6, .int .u64 x4] : Value) = v)) ∧ (¬ (x4 < x1) → (
  (.agg #[.int .i64 x5, .int .u64 x4] : Value) = v))) : Calls Tryz.prog 133 #[.agg #[.int .i64 x0, .int .u64 x1], .agg #[.int .i64 x2, .int .u64 x3]] w (Vc.Ret v w) :=
  Vc.pure_of base [] 200 Tryz.func133 (b := (Tryz.f133.body).getD .skip) (by kernel_rfl) [.cv (.agg [.int .i64 (.var 0), .int .u64 (.var 1)]), .cv (.agg [.int .i64 (.var 2), .int .u64 (.var 3)])] ⟨4, 0, 0, 0, 0, 0, 0⟩ (Vc.envOf [x0, x1, x2, x3] [] [] []) (by kernel_rfl) (by kernel_rfl) (by kernel_rfl) h

theorem vc_ullageref01_Minus (x0 x1 : Int) (w : World) (v : Value) (h : 
  ∀ x2 : Int, x2 = bits .xor .i64 (-1) x0 →
  ∀ x3 : Int, x3 = bits .xor .u64 18446744073709551615 x1 →
  ∃ (x4 : Int), ∃ (x5 : Int), (∀ w' : World, Below w.heap.size w w' → Calls Tryz.prog 133 #[.agg #[.int .i64 x2, .int .u64 x3], .agg #[.int .i64 0, .int .u64 1]] w' (Vc.Ret (.agg #[.int .i64 x4, .int .u64 x5]) w')) ∧
  (.agg #[.int .i64 x4, .int .u64 x5] : Value) = v) : Calls Tryz.prog 131 #[.agg #[.int .i64 x0, .int .u64 x1]] w (Vc.Ret v w) :=
  Vc.pure_of base [] 200 Tryz.func131 (b := (Tryz.f131.body).getD .skip) (by kernel_rfl) [.cv (.agg [.int .i64 (.var 0), .int .u64 (.var 1)])] ⟨2, 0, 0, 0, 0, 0, 0⟩ (Vc.envOf [x0, x1] [] [] []) (by kernel_rfl) (by kernel_rfl) (by kernel_rfl) h

theorem vc_ullageref01_Less (x0 x1 x2 x3 : Int) (w : World) (v : Value) (h : 
  ((x0 < x2) → (
  (.bool true : Value) = v)) ∧ (¬ (x0 < x2) → (
  ((x0 = x2) → (
  (.bool (decide (x1 < x3)) : Value) = v)) ∧ (¬ (x0 = x2) → (
  (.bool false : Value) = v))))) : Calls Tryz.prog 94 #[.agg #[.int .i64 x0, .int .u64 x1], .agg #[.int .i64 x2, .int .u64 x3]] w (Vc.Ret v w) :=
  Vc.pure_of base [] 200 Tryz.func94 (b := (Tryz.f94.body).getD .skip) (by kernel_rfl) [.cv (.agg [.int .i64 (.var 0), .int .u64 (.var 1)]), .cv (.agg [.int .i64 (.var 2), .int .u64 (.var 3)])] ⟨4, 0, 0, 0, 0, 0, 0⟩ (Vc.envOf [x0, x1, x2, x3] [] [] []) (by kernel_rfl) (by kernel_rfl) (by kernel_rfl) h

theorem vc_ullageref01_Same (x0 x1 x2 x3 : Int) (w : World) (v : Value) (h : 
  ((x0 = x2) → (
  (.bool (x1 == x3) : Value) = v)) ∧ (¬ (x0 = x2) → (
  (.bool false : Value) = v))) : Calls Tryz.prog 149 #[.agg #[.int .i64 x0, .int .u64 x1], .agg #[.int .i64 x2, .int .u64 x3]] w (Vc.Ret v w) :=
  Vc.pure_of base [] 200 Tryz.func149 (b := (Tryz.f149.body).getD .skip) (by kernel_rfl) [.cv (.agg [.int .i64 (.var 0), .int .u64 (.var 1)]), .cv (.agg [.int .i64 (.var 2), .int .u64 (.var 3)])] ⟨4, 0, 0, 0, 0, 0, 0⟩ (Vc.envOf [x0, x1, x2, x3] [] [] []) (by kernel_rfl) (by kernel_rfl) (by kernel_rfl) h

theorem vc_ullageref01_Twice (x0 x1 : Int) (w : World) (v : Value) (h : 
  ∃ (x2 : Int), ∃ (x3 : Int), (∀ w' : World, Below w.heap.size w w' → Calls Tryz.prog 133 #[.agg #[.int .i64 x0, .int .u64 x1], .agg #[.int .i64 x0, .int .u64 x1]] w' (Vc.Ret (.agg #[.int .i64 x2, .int .u64 x3]) w')) ∧
  (.agg #[.int .i64 x2, .int .u64 x3] : Value) = v) : Calls Tryz.prog 155 #[.agg #[.int .i64 x0, .int .u64 x1]] w (Vc.Ret v w) :=
  Vc.pure_of base [] 200 Tryz.func155 (b := (Tryz.f155.body).getD .skip) (by kernel_rfl) [.cv (.agg [.int .i64 (.var 0), .int .u64 (.var 1)])] ⟨2, 0, 0, 0, 0, 0, 0⟩ (Vc.envOf [x0, x1] [] [] []) (by kernel_rfl) (by kernel_rfl) (by kernel_rfl) h

theorem vc_ullageref01_Up_32 (x0 x1 : Int) (w : World) (v : Value) (h : 
  ∀ x2 : Int, x2 = IntKind.i64.wrap (x0 * 4294967296) →
  ∀ x3 : Int, x3 = x1 / 4294967296 →
  ∀ x4 : Int, x4 = IntKind.i64.wrap (x3) →
  ∀ x5 : Int, x5 = IntKind.i64.wrap (x2 + x4) →
  ∀ x6 : Int, x6 = IntKind.u64.wrap (x1 * 4294967296) →
  (.agg #[.int .i64 x5, .int .u64 x6] : Value) = v) : Calls Tryz.prog 97 #[.agg #[.int .i64 x0, .int .u64 x1], .int .i64 32] w (Vc.Ret v w) :=
  Vc.pure_of base [] 200 Tryz.func97 (b := (Tryz.f97.body).getD .skip) (by kernel_rfl) [.cv (.agg [.int .i64 (.var 0), .int .u64 (.var 1)]), .cv (.one (.int .i64 (.lit (32))))] ⟨2, 0, 0, 0, 0, 0, 0⟩ (Vc.envOf [x0, x1] [] [] []) (by kernel_rfl) (by kernel_rfl) (by kernel_rfl) h

theorem vc_ullageref01_Times (x0 x1 : Int) (w : World) (v : Value) (h : 
  ∃ (x2 : Int), (∀ w' : World, Below w.heap.size w w' → Calls Tryz.prog 132 #[.int .i64 x0] w' (Vc.Ret (.int .u64 x2) w')) ∧
  ∃ (x3 : Int), (∀ w' : World, Below w.heap.size w w' → Calls Tryz.prog 132 #[.int .i64 x1] w' (Vc.Ret (.int .u64 x3) w')) ∧
  ∀ x4 : Int, x4 = Int.tmod x2 4294967296 →
  ∀ x5 : Int, x5 = Int.tmod x3 4294967296 →
  ∀ x6 : Int, x6 = IntKind.u64.wrap (x4 * x5) →
  ∀ x7 : Int, x7 = IntKind.u64.wrap (Int.tdiv x2 4294967296) →
  ∀ x8 : Int, x8 = Int.tmod x3 4294967296 →
  ∀ x9 : Int, x9 = IntKind.u64.wrap (x7 * x8) →
  ∀ x10 : Int, x10 = Int.tmod x2 4294967296 →
  ∀ x11 : Int, x11 = IntKind.u64.wrap (Int.tdiv x3 4294967296) →
  ∀ x12 : Int, x12 = IntKind.u64.wrap (x10 * x11) →
  ∀ x13 : Int, x13 = IntKind.u64.wrap (x9 + x12) →
  ∀ x14 : Int, x14 = IntKind.u64.wrap (Int.tdiv x13 4294967296) →
  ∀ x15 : Int, x15 = IntKind.i64.wrap (x14) →
  ∀ x16 : Int, x16 = Int.tmod x13 4294967296 →
  ∀ x17 : Int, x17 = IntKind.u64.wrap (x16 * 4294967296) →
  ∃ (x18 : Int), ∃ (x19 : Int), (∀ w' : World, Below w.heap.size w w' → Calls Tryz.prog 133 #[.agg #[.int .i64 x15, .int .u64 x17], .agg #[.int .i64 0, .int .u64 x6]] w' (Vc.Ret (.agg #[.int .i64 x18, .int .u64 x19]) w')) ∧
  ∀ x20 : Int, x20 = IntKind.u64.wrap (Int.tdiv x2 4294967296) →
  ∀ x21 : Int, x21 = IntKind.u64.wrap (Int.tdiv x3 4294967296) →
  ∀ x22 : Int, x22 = IntKind.u64.wrap (x20 * x21) →
  ∀ x23 : Int, x23 = IntKind.i64.wrap (x22) →
  ∀ x24 : Int, x24 = IntKind.i64.wrap (x18 + x23) →
  ((((x0 < 0) ↔ (x1 < 0))) → (
  (.agg #[.int .i64 x24, .int .u64 x19] : Value) = v)) ∧ (¬ (((x0 < 0) ↔ (x1 < 0))) → (
  ∃ (x25 : Int), ∃ (x26 : Int), (∀ w' : World, Below w.heap.size w w' → Calls Tryz.prog 131 #[.agg #[.int .i64 x24, .int .u64 x19]] w' (Vc.Ret (.agg #[.int .i64 x25, .int .u64 x26]) w')) ∧
  (.agg #[.int .i64 x25, .int .u64 x26] : Value) = v))) : Calls Tryz.prog 93 #[.int .i64 x0, .int .i64 x1] w (Vc.Ret v w) :=
  Vc.pure_of base [] 200 Tryz.func93 (b := (Tryz.f93.body).getD .skip) (by kernel_rfl) [.cv (.one (.int .i64 (.var 0))), .cv (.one (.int .i64 (.var 1)))] ⟨2, 0, 0, 0, 0, 0, 0⟩ (Vc.envOf [x0, x1] [] [] []) (by kernel_rfl) (by kernel_rfl) (by kernel_rfl) h

theorem vc_ullageref01_Down32 (x0 x1 : Int) (w : World) (v : Value) (h : 
  ∀ x2 : Int, x2 = IntKind.i64.wrap (Int.tdiv x0 4294967296) →
  ∀ x3 : Int, x3 = Int.tmod x0 4294967296 →
  ((x3 < 0) → (
  ∀ x4 : Int, x4 = IntKind.i64.wrap (x2 - 1) →
  ∀ x5 : Int, x5 = IntKind.i64.wrap (x4 * 4294967296) →
  ∀ x6 : Int, x6 = IntKind.i64.wrap (x0 - x5) →
  ∀ x7 : Int, x7 = IntKind.u64.wrap (x6) →
  ∀ x8 : Int, x8 = IntKind.u64.wrap (x7 * 4294967296) →
  ∀ x9 : Int, x9 = IntKind.u64.wrap (Int.tdiv x1 4294967296) →
  ∀ x10 : Int, x10 = IntKind.u64.wrap (x8 + x9) →
  (.agg #[.int .i64 x4, .int .u64 x10] : Value) = v)) ∧ (¬ (x3 < 0) → (
  ∀ x4 : Int, x4 = IntKind.i64.wrap (x2 * 4294967296) →
  ∀ x5 : Int, x5 = IntKind.i64.wrap (x0 - x4) →
  ∀ x6 : Int, x6 = IntKind.u64.wrap (x5) →
  ∀ x7 : Int, x7 = IntKind.u64.wrap (x6 * 4294967296) →
  ∀ x8 : Int, x8 = IntKind.u64.wrap (Int.tdiv x1 4294967296) →
  ∀ x9 : Int, x9 = IntKind.u64.wrap (x7 + x8) →
  (.agg #[.int .i64 x2, .int .u64 x9] : Value) = v))) : Calls Tryz.prog 130 #[.agg #[.int .i64 x0, .int .u64 x1]] w (Vc.Ret v w) :=
  Vc.pure_of base [] 200 Tryz.func130 (b := (Tryz.f130.body).getD .skip) (by kernel_rfl) [.cv (.agg [.int .i64 (.var 0), .int .u64 (.var 1)])] ⟨2, 0, 0, 0, 0, 0, 0⟩ (Vc.envOf [x0, x1] [] [] []) (by kernel_rfl) (by kernel_rfl) (by kernel_rfl) h

theorem vc_ullageref01_bit (x0 x1 x2 : Int) (w : World) (v : Value) (h : 
  ((64 ≤ x2) → (
  ∀ x3 : Int, x3 = IntKind.i64.wrap (x2 - 64) →
  (0 ≤ x3) ∧
  ∀ x4 : Int, x4 = Int.fdiv x0 (2 ^ (Nat.min (Int.toNat x3) 64)) →
  ∀ x5 : Int, x5 = bits .and .i64 x4 1 →
  (.bool (x5 == 1) : Value) = v)) ∧ (¬ (64 ≤ x2) → (
  (0 ≤ x2) ∧
  ∀ x3 : Int, x3 = Int.fdiv x1 (2 ^ (Nat.min (Int.toNat x2) 64)) →
  ∀ x4 : Int, x4 = bits .and .u64 x3 1 →
  (.bool (x4 == 1) : Value) = v))) : Calls Tryz.prog 154 #[.agg #[.int .i64 x0, .int .u64 x1], .int .i64 x2] w (Vc.Ret v w) :=
  Vc.pure_of base [] 200 Tryz.func154 (b := (Tryz.f154.body).getD .skip) (by kernel_rfl) [.cv (.agg [.int .i64 (.var 0), .int .u64 (.var 1)]), .cv (.one (.int .i64 (.var 2)))] ⟨3, 0, 0, 0, 0, 0, 0⟩ (Vc.envOf [x0, x1, x2] [] [] []) (by kernel_rfl) (by kernel_rfl) (by kernel_rfl) h

theorem vc_ullageref01_divide (x0 x1 x2 x3 : Int) (w : World) (v : Value) (h : 
  ((x0 = 0) → (
  ((x2 = 0) → (
  (x3 ≠ 0) ∧
  ∀ x4 : Int, x4 = IntKind.u64.wrap (Int.tdiv x1 x3) →
  (x3 ≠ 0) ∧
  ∀ x5 : Int, x5 = Int.tmod x1 x3 →
  (.tuple #[.agg #[.int .i64 0, .int .u64 x4], .agg #[.int .i64 0, .int .u64 x5]] : Value) = v)) ∧ (¬ (x2 = 0) → (
  ∃ (Ix4 : List Vc.Vl → Prop) (mx4 : List Vc.Vl → Nat), Ix4 [.i 127] ∧ ∀ (x4 : Int), Ix4 [.i x4] → (
  ((0 < x4) → (
  ∃ (b0 : Bool), (∀ w' : World, Below w.heap.size w w' → Calls Tryz.prog 154 #[.agg #[.int .i64 x0, .int .u64 x1], .int .i64 x4] w' (Vc.Ret (.bool b0) w')) ∧
  ((b0 = true) → (
  ∃ (Ix5 : List Vc.Vl → Prop) (mx5 : List Vc.Vl → Nat), Ix5 [.i x4, .i 0, .i 0, .i 0, .i 0] ∧ ∀ (x5 : Int) (x6 : Int) (x7 : Int) (x8 : Int) (x9 : Int), Ix5 [.i x5, .i x6, .i x7, .i x8, .i x9] → (
  ((0 ≤ x5) → (
  ∃ (x10 : Int), ∃ (x11 : Int), (∀ w' : World, Below w.heap.size w w' → Calls Tryz.prog 155 #[.agg #[.int .i64 x6, .int .u64 x7]] w' (Vc.Ret (.agg #[.int .i64 x10, .int .u64 x11]) w')) ∧
  ∃ (b1 : Bool), (∀ w' : World, Below w.heap.size w w' → Calls Tryz.prog 154 #[.agg #[.int .i64 x0, .int .u64 x1], .int .i64 x5] w' (Vc.Ret (.bool b1) w')) ∧
  ((b1 = true) → (
  ∃ (x12 : Int), ∃ (x13 : Int), (∀ w' : World, Below w.heap.size w w' → Calls Tryz.prog 133 #[.agg #[.int .i64 x10, .int .u64 x11], .agg #[.int .i64 0, .int .u64 1]] w' (Vc.Ret (.agg #[.int .i64 x12, .int .u64 x13]) w')) ∧
  ∃ (x14 : Int), ∃ (x15 : Int), (∀ w' : World, Below w.heap.size w w' → Calls Tryz.prog 155 #[.agg #[.int .i64 x8, .int .u64 x9]] w' (Vc.Ret (.agg #[.int .i64 x14, .int .u64 x15]) w')) ∧
  ∃ (b2 : Bool), (∀ w' : World, Below w.heap.size w w' → Calls Tryz.prog 94 #[.agg #[.int .i64 x12, .int .u64 x13], .agg #[.int .i64 x2, .int .u64 x3]] w' (Vc.Ret (.bool b2) w')) ∧
  ((b2 = true) → (
  ∀ x16 : Int, x16 = IntKind.i64.wrap (x5 - 1) →
  Ix5 [.i x16, .i x12, .i x13, .i x14, .i x15] ∧ mx5 [.i x16, .i x12, .i x13, .i x14, .i x15] < mx5 [.i x5, .i x6, .i x7, .i x8, .i x9])) ∧ (¬ (b2 = true) → (
  ∃ (x16 : Int), ∃ (x17 : Int), (∀ w' : World, Below w.heap.size w w' → Calls Tryz.prog 131 #[.agg #[.int .i64 x2, .int .u64 x3]] w' (Vc.Ret (.agg #[.int .i64 x16, .int .u64 x17]) w')) ∧
  ∃ (x18 : Int), ∃ (x19 : Int), (∀ w' : World, Below w.heap.size w w' → Calls Tryz.prog 133 #[.agg #[.int .i64 x12, .int .u64 x13], .agg #[.int .i64 x16, .int .u64 x17]] w' (Vc.Ret (.agg #[.int .i64 x18, .int .u64 x19]) w')) ∧
  ∃ (x20 : Int), ∃ (x21 : Int), (∀ w' : World, Below w.heap.size w w' → Calls Tryz.prog 133 #[.agg #[.int .i64 x14, .int .u64 x15], .agg #[.int .i64 0, .int .u64 1]] w' (Vc.Ret (.agg #[.int .i64 x20, .int .u64 x21]) w')) ∧
  ∀ x22 : Int, x22 = IntKind.i64.wrap (x5 - 1) →
  Ix5 [.i x22, .i x18, .i x19, .i x20, .i x21] ∧ mx5 [.i x22, .i x18, .i x19, .i x20, .i x21] < mx5 [.i x5, .i x6, .i x7, .i x8, .i x9])))) ∧ (¬ (b1 = true) → (
  ∃ (x12 : Int), ∃ (x13 : Int), (∀ w' : World, Below w.heap.size w w' → Calls Tryz.prog 155 #[.agg #[.int .i64 x8, .int .u64 x9]] w' (Vc.Ret (.agg #[.int .i64 x12, .int .u64 x13]) w')) ∧
  ∃ (b2 : Bool), (∀ w' : World, Below w.heap.size w w' → Calls Tryz.prog 94 #[.agg #[.int .i64 x10, .int .u64 x11], .agg #[.int .i64 x2, .int .u64 x3]] w' (Vc.Ret (.bool b2) w')) ∧
  ((b2 = true) → (
  ∀ x14 : Int, x14 = IntKind.i64.wrap (x5 - 1) →
  Ix5 [.i x14, .i x10, .i x11, .i x12, .i x13] ∧ mx5 [.i x14, .i x10, .i x11, .i x12, .i x13] < mx5 [.i x5, .i x6, .i x7, .i x8, .i x9])) ∧ (¬ (b2 = true) → (
  ∃ (x14 : Int), ∃ (x15 : Int), (∀ w' : World, Below w.heap.size w w' → Calls Tryz.prog 131 #[.agg #[.int .i64 x2, .int .u64 x3]] w' (Vc.Ret (.agg #[.int .i64 x14, .int .u64 x15]) w')) ∧
  ∃ (x16 : Int), ∃ (x17 : Int), (∀ w' : World, Below w.heap.size w w' → Calls Tryz.prog 133 #[.agg #[.int .i64 x10, .int .u64 x11], .agg #[.int .i64 x14, .int .u64 x15]] w' (Vc.Ret (.agg #[.int .i64 x16, .int .u64 x17]) w')) ∧
  ∃ (x18 : Int), ∃ (x19 : Int), (∀ w' : World, Below w.heap.size w w' → Calls Tryz.prog 133 #[.agg #[.int .i64 x12, .int .u64 x13], .agg #[.int .i64 0, .int .u64 1]] w' (Vc.Ret (.agg #[.int .i64 x18, .int .u64 x19]) w')) ∧
  ∀ x20 : Int, x20 = IntKind.i64.wrap (x5 - 1) →
  Ix5 [.i x20, .i x16, .i x17, .i x18, .i x19] ∧ mx5 [.i x20, .i x16, .i x17, .i x18, .i x19] < mx5 [.i x5, .i x6, .i x7, .i x8, .i x9])))))) ∧ (¬ (0 ≤ x5) → (
  (.tuple #[.agg #[.int .i64 x8, .int .u64 x9], .agg #[.int .i64 x6, .int .u64 x7]] : Value) = v))))) ∧ (¬ (b0 = true) → (
  ∀ x5 : Int, x5 = IntKind.i64.wrap (x4 - 1) →
  Ix4 [.i x5] ∧ mx4 [.i x5] < mx4 [.i x4])))) ∧ (¬ (0 < x4) → (
  ∃ (Ix5 : List Vc.Vl → Prop) (mx5 : List Vc.Vl → Nat), Ix5 [.i x4, .i 0, .i 0, .i 0, .i 0] ∧ ∀ (x5 : Int) (x6 : Int) (x7 : Int) (x8 : Int) (x9 : Int), Ix5 [.i x5, .i x6, .i x7, .i x8, .i x9] → (
  ((0 ≤ x5) → (
  ∃ (x10 : Int), ∃ (x11 : Int), (∀ w' : World, Below w.heap.size w w' → Calls Tryz.prog 155 #[.agg #[.int .i64 x6, .int .u64 x7]] w' (Vc.Ret (.agg #[.int .i64 x10, .int .u64 x11]) w')) ∧
  ∃ (b0 : Bool), (∀ w' : World, Below w.heap.size w w' → Calls Tryz.prog 154 #[.agg #[.int .i64 x0, .int .u64 x1], .int .i64 x5] w' (Vc.Ret (.bool b0) w')) ∧
  ((b0 = true) → (
  ∃ (x12 : Int), ∃ (x13 : Int), (∀ w' : World, Below w.heap.size w w' → Calls Tryz.prog 133 #[.agg #[.int .i64 x10, .int .u64 x11], .agg #[.int .i64 0, .int .u64 1]] w' (Vc.Ret (.agg #[.int .i64 x12, .int .u64 x13]) w')) ∧
  ∃ (x14 : Int), ∃ (x15 : Int), (∀ w' : World, Below w.heap.size w w' → Calls Tryz.prog 155 #[.agg #[.int .i64 x8, .int .u64 x9]] w' (Vc.Ret (.agg #[.int .i64 x14, .int .u64 x15]) w')) ∧
  ∃ (b1 : Bool), (∀ w' : World, Below w.heap.size w w' → Calls Tryz.prog 94 #[.agg #[.int .i64 x12, .int .u64 x13], .agg #[.int .i64 x2, .int .u64 x3]] w' (Vc.Ret (.bool b1) w')) ∧
  ((b1 = true) → (
  ∀ x16 : Int, x16 = IntKind.i64.wrap (x5 - 1) →
  Ix5 [.i x16, .i x12, .i x13, .i x14, .i x15] ∧ mx5 [.i x16, .i x12, .i x13, .i x14, .i x15] < mx5 [.i x5, .i x6, .i x7, .i x8, .i x9])) ∧ (¬ (b1 = true) → (
  ∃ (x16 : Int), ∃ (x17 : Int), (∀ w' : World, Below w.heap.size w w' → Calls Tryz.prog 131 #[.agg #[.int .i64 x2, .int .u64 x3]] w' (Vc.Ret (.agg #[.int .i64 x16, .int .u64 x17]) w')) ∧
  ∃ (x18 : Int), ∃ (x19 : Int), (∀ w' : World, Below w.heap.size w w' → Calls Tryz.prog 133 #[.agg #[.int .i64 x12, .int .u64 x13], .agg #[.int .i64 x16, .int .u64 x17]] w' (Vc.Ret (.agg #[.int .i64 x18, .int .u64 x19]) w')) ∧
  ∃ (x20 : Int), ∃ (x21 : Int), (∀ w' : World, Below w.heap.size w w' → Calls Tryz.prog 133 #[.agg #[.int .i64 x14, .int .u64 x15], .agg #[.int .i64 0, .int .u64 1]] w' (Vc.Ret (.agg #[.int .i64 x20, .int .u64 x21]) w')) ∧
  ∀ x22 : Int, x22 = IntKind.i64.wrap (x5 - 1) →
  Ix5 [.i x22, .i x18, .i x19, .i x20, .i x21] ∧ mx5 [.i x22, .i x18, .i x19, .i x20, .i x21] < mx5 [.i x5, .i x6, .i x7, .i x8, .i x9])))) ∧ (¬ (b0 = true) → (
  ∃ (x12 : Int), ∃ (x13 : Int), (∀ w' : World, Below w.heap.size w w' → Calls Tryz.prog 155 #[.agg #[.int .i64 x8, .int .u64 x9]] w' (Vc.Ret (.agg #[.int .i64 x12, .int .u64 x13]) w')) ∧
  ∃ (b1 : Bool), (∀ w' : World, Below w.heap.size w w' → Calls Tryz.prog 94 #[.agg #[.int .i64 x10, .int .u64 x11], .agg #[.int .i64 x2, .int .u64 x3]] w' (Vc.Ret (.bool b1) w')) ∧
  ((b1 = true) → (
  ∀ x14 : Int, x14 = IntKind.i64.wrap (x5 - 1) →
  Ix5 [.i x14, .i x10, .i x11, .i x12, .i x13] ∧ mx5 [.i x14, .i x10, .i x11, .i x12, .i x13] < mx5 [.i x5, .i x6, .i x7, .i x8, .i x9])) ∧ (¬ (b1 = true) → (
  ∃ (x14 : Int), ∃ (x15 : Int), (∀ w' : World, Below w.heap.size w w' → Calls Tryz.prog 131 #[.agg #[.int .i64 x2, .int .u64 x3]] w' (Vc.Ret (.agg #[.int .i64 x14, .int .u64 x15]) w')) ∧
  ∃ (x16 : Int), ∃ (x17 : Int), (∀ w' : World, Below w.heap.size w w' → Calls Tryz.prog 133 #[.agg #[.int .i64 x10, .int .u64 x11], .agg #[.int .i64 x14, .int .u64 x15]] w' (Vc.Ret (.agg #[.int .i64 x16, .int .u64 x17]) w')) ∧
  ∃ (x18 : Int), ∃ (x19 : Int), (∀ w' : World, Below w.heap.size w w' → Calls Tryz.prog 133 #[.agg #[.int .i64 x12, .int .u64 x13], .agg #[.int .i64 0, .int .u64 1]] w' (Vc.Ret (.agg #[.int .i64 x18, .int .u64 x19]) w')) ∧
  ∀ x20 : Int, x20 = IntKind.i64.wrap (x5 - 1) →
  Ix5 [.i x20, .i x16, .i x17, .i x18, .i x19] ∧ mx5 [.i x20, .i x16, .i x17, .i x18, .i x19] < mx5 [.i x5, .i x6, .i x7, .i x8, .i x9])))))) ∧ (¬ (0 ≤ x5) → (
  (.tuple #[.agg #[.int .i64 x8, .int .u64 x9], .agg #[.int .i64 x6, .int .u64 x7]] : Value) = v)))))))))) ∧ (¬ (x0 = 0) → (
  ∃ (Ix4 : List Vc.Vl → Prop) (mx4 : List Vc.Vl → Nat), Ix4 [.i 127] ∧ ∀ (x4 : Int), Ix4 [.i x4] → (
  ((0 < x4) → (
  ∃ (b0 : Bool), (∀ w' : World, Below w.heap.size w w' → Calls Tryz.prog 154 #[.agg #[.int .i64 x0, .int .u64 x1], .int .i64 x4] w' (Vc.Ret (.bool b0) w')) ∧
  ((b0 = true) → (
  ∃ (Ix5 : List Vc.Vl → Prop) (mx5 : List Vc.Vl → Nat), Ix5 [.i x4, .i 0, .i 0, .i 0, .i 0] ∧ ∀ (x5 : Int) (x6 : Int) (x7 : Int) (x8 : Int) (x9 : Int), Ix5 [.i x5, .i x6, .i x7, .i x8, .i x9] → (
  ((0 ≤ x5) → (
  ∃ (x10 : Int), ∃ (x11 : Int), (∀ w' : World, Below w.heap.size w w' → Calls Tryz.prog 155 #[.agg #[.int .i64 x6, .int .u64 x7]] w' (Vc.Ret (.agg #[.int .i64 x10, .int .u64 x11]) w')) ∧
  ∃ (b1 : Bool), (∀ w' : World, Below w.heap.size w w' → Calls Tryz.prog 154 #[.agg #[.int .i64 x0, .int .u64 x1], .int .i64 x5] w' (Vc.Ret (.bool b1) w')) ∧
  ((b1 = true) → (
  ∃ (x12 : Int), ∃ (x13 : Int), (∀ w' : World, Below w.heap.size w w' → Calls Tryz.prog 133 #[.agg #[.int .i64 x10, .int .u64 x11], .agg #[.int .i64 0, .int .u64 1]] w' (Vc.Ret (.agg #[.int .i64 x12, .int .u64 x13]) w')) ∧
  ∃ (x14 : Int), ∃ (x15 : Int), (∀ w' : World, Below w.heap.size w w' → Calls Tryz.prog 155 #[.agg #[.int .i64 x8, .int .u64 x9]] w' (Vc.Ret (.agg #[.int .i64 x14, .int .u64 x15]) w')) ∧
  ∃ (b2 : Bool), (∀ w' : World, Below w.heap.size w w' → Calls Tryz.prog 94 #[.agg #[.int .i64 x12, .int .u64 x13], .agg #[.int .i64 x2, .int .u64 x3]] w' (Vc.Ret (.bool b2) w')) ∧
  ((b2 = true) → (
  ∀ x16 : Int, x16 = IntKind.i64.wrap (x5 - 1) →
  Ix5 [.i x16, .i x12, .i x13, .i x14, .i x15] ∧ mx5 [.i x16, .i x12, .i x13, .i x14, .i x15] < mx5 [.i x5, .i x6, .i x7, .i x8, .i x9])) ∧ (¬ (b2 = true) → (
  ∃ (x16 : Int), ∃ (x17 : Int), (∀ w' : World, Below w.heap.size w w' → Calls Tryz.prog 131 #[.agg #[.int .i64 x2, .int .u64 x3]] w' (Vc.Ret (.agg #[.int .i64 x16, .int .u64 x17]) w')) ∧
  ∃ (x18 : Int), ∃ (x19 : Int), (∀ w' : World, Below w.heap.size w w' → Calls Tryz.prog 133 #[.agg #[.int .i64 x12, .int .u64 x13], .agg #[.int .i64 x16, .int .u64 x17]] w' (Vc.Ret (.agg #[.int .i64 x18, .int .u64 x19]) w')) ∧
  ∃ (x20 : Int), ∃ (x21 : Int), (∀ w' : World, Below w.heap.size w w' → Calls Tryz.prog 133 #[.agg #[.int .i64 x14, .int .u64 x15], .agg #[.int .i64 0, .int .u64 1]] w' (Vc.Ret (.agg #[.int .i64 x20, .int .u64 x21]) w')) ∧
  ∀ x22 : Int, x22 = IntKind.i64.wrap (x5 - 1) →
  Ix5 [.i x22, .i x18, .i x19, .i x20, .i x21] ∧ mx5 [.i x22, .i x18, .i x19, .i x20, .i x21] < mx5 [.i x5, .i x6, .i x7, .i x8, .i x9])))) ∧ (¬ (b1 = true) → (
  ∃ (x12 : Int), ∃ (x13 : Int), (∀ w' : World, Below w.heap.size w w' → Calls Tryz.prog 155 #[.agg #[.int .i64 x8, .int .u64 x9]] w' (Vc.Ret (.agg #[.int .i64 x12, .int .u64 x13]) w')) ∧
  ∃ (b2 : Bool), (∀ w' : World, Below w.heap.size w w' → Calls Tryz.prog 94 #[.agg #[.int .i64 x10, .int .u64 x11], .agg #[.int .i64 x2, .int .u64 x3]] w' (Vc.Ret (.bool b2) w')) ∧
  ((b2 = true) → (
  ∀ x14 : Int, x14 = IntKind.i64.wrap (x5 - 1) →
  Ix5 [.i x14, .i x10, .i x11, .i x12, .i x13] ∧ mx5 [.i x14, .i x10, .i x11, .i x12, .i x13] < mx5 [.i x5, .i x6, .i x7, .i x8, .i x9])) ∧ (¬ (b2 = true) → (
  ∃ (x14 : Int), ∃ (x15 : Int), (∀ w' : World, Below w.heap.size w w' → Calls Tryz.prog 131 #[.agg #[.int .i64 x2, .int .u64 x3]] w' (Vc.Ret (.agg #[.int .i64 x14, .int .u64 x15]) w')) ∧
  ∃ (x16 : Int), ∃ (x17 : Int), (∀ w' : World, Below w.heap.size w w' → Calls Tryz.prog 133 #[.agg #[.int .i64 x10, .int .u64 x11], .agg #[.int .i64 x14, .int .u64 x15]] w' (Vc.Ret (.agg #[.int .i64 x16, .int .u64 x17]) w')) ∧
  ∃ (x18 : Int), ∃ (x19 : Int), (∀ w' : World, Below w.heap.size w w' → Calls Tryz.prog 133 #[.agg #[.int .i64 x12, .int .u64 x13], .agg #[.int .i64 0, .int .u64 1]] w' (Vc.Ret (.agg #[.int .i64 x18, .int .u64 x19]) w')) ∧
  ∀ x20 : Int, x20 = IntKind.i64.wrap (x5 - 1) →
  Ix5 [.i x20, .i x16, .i x17, .i x18, .i x19] ∧ mx5 [.i x20, .i x16, .i x17, .i x18, .i x19] < mx5 [.i x5, .i x6, .i x7, .i x8, .i x9])))))) ∧ (¬ (0 ≤ x5) → (
  (.tuple #[.agg #[.int .i64 x8, .int .u64 x9], .agg #[.int .i64 x6, .int .u64 x7]] : Value) = v))))) ∧ (¬ (b0 = true) → (
  ∀ x5 : Int, x5 = IntKind.i64.wrap (x4 - 1) →
  Ix4 [.i x5] ∧ mx4 [.i x5] < mx4 [.i x4])))) ∧ (¬ (0 < x4) → (
  ∃ (Ix5 : List Vc.Vl → Prop) (mx5 : List Vc.Vl → Nat), Ix5 [.i x4, .i 0, .i 0, .i 0, .i 0] ∧ ∀ (x5 : Int) (x6 : Int) (x7 : Int) (x8 : Int) (x9 : Int), Ix5 [.i x5, .i x6, .i x7, .i x8, .i x9] → (
  ((0 ≤ x5) → (
  ∃ (x10 : Int), ∃ (x11 : Int), (∀ w' : World, Below w.heap.size w w' → Calls Tryz.prog 155 #[.agg #[.int .i64 x6, .int .u64 x7]] w' (Vc.Ret (.agg #[.int .i64 x10, .int .u64 x11]) w')) ∧
  ∃ (b0 : Bool), (∀ w' : World, Below w.heap.size w w' → Calls Tryz.prog 154 #[.agg #[.int .i64 x0, .int .u64 x1], .int .i64 x5] w' (Vc.Ret (.bool b0) w')) ∧
  ((b0 = true) → (
  ∃ (x12 : Int), ∃ (x13 : Int), (∀ w' : World, Below w.heap.size w w' → Calls Tryz.prog 133 #[.agg #[.int .i64 x10, .int .u64 x11], .agg #[.int .i64 0, .int .u64 1]] w' (Vc.Ret (.agg #[.int .i64 x12, .int .u64 x13]) w')) ∧
  ∃ (x14 : Int), ∃ (x15 : Int), (∀ w' : World, Below w.heap.size w w' → Calls Tryz.prog 155 #[.agg #[.int .i64 x8, .int .u64 x9]] w' (Vc.Ret (.agg #[.int .i64 x14, .int .u64 x15]) w')) ∧
  ∃ (b1 : Bool), (∀ w' : World, Below w.heap.size w w' → Calls Tryz.prog 94 #[.agg #[.int .i64 x12, .int .u64 x13], .agg #[.int .i64 x2, .int .u64 x3]] w' (Vc.Ret (.bool b1) w')) ∧
  ((b1 = true) → (
  ∀ x16 : Int, x16 = IntKind.i64.wrap (x5 - 1) →
  Ix5 [.i x16, .i x12, .i x13, .i x14, .i x15] ∧ mx5 [.i x16, .i x12, .i x13, .i x14, .i x15] < mx5 [.i x5, .i x6, .i x7, .i x8, .i x9])) ∧ (¬ (b1 = true) → (
  ∃ (x16 : Int), ∃ (x17 : Int), (∀ w' : World, Below w.heap.size w w' → Calls Tryz.prog 131 #[.agg #[.int .i64 x2, .int .u64 x3]] w' (Vc.Ret (.agg #[.int .i64 x16, .int .u64 x17]) w')) ∧
  ∃ (x18 : Int), ∃ (x19 : Int), (∀ w' : World, Below w.heap.size w w' → Calls Tryz.prog 133 #[.agg #[.int .i64 x12, .int .u64 x13], .agg #[.int .i64 x16, .int .u64 x17]] w' (Vc.Ret (.agg #[.int .i64 x18, .int .u64 x19]) w')) ∧
  ∃ (x20 : Int), ∃ (x21 : Int), (∀ w' : World, Below w.heap.size w w' → Calls Tryz.prog 133 #[.agg #[.int .i64 x14, .int .u64 x15], .agg #[.int .i64 0, .int .u64 1]] w' (Vc.Ret (.agg #[.int .i64 x20, .int .u64 x21]) w')) ∧
  ∀ x22 : Int, x22 = IntKind.i64.wrap (x5 - 1) →
  Ix5 [.i x22, .i x18, .i x19, .i x20, .i x21] ∧ mx5 [.i x22, .i x18, .i x19, .i x20, .i x21] < mx5 [.i x5, .i x6, .i x7, .i x8, .i x9])))) ∧ (¬ (b0 = true) → (
  ∃ (x12 : Int), ∃ (x13 : Int), (∀ w' : World, Below w.heap.size w w' → Calls Tryz.prog 155 #[.agg #[.int .i64 x8, .int .u64 x9]] w' (Vc.Ret (.agg #[.int .i64 x12, .int .u64 x13]) w')) ∧
  ∃ (b1 : Bool), (∀ w' : World, Below w.heap.size w w' → Calls Tryz.prog 94 #[.agg #[.int .i64 x10, .int .u64 x11], .agg #[.int .i64 x2, .int .u64 x3]] w' (Vc.Ret (.bool b1) w')) ∧
  ((b1 = true) → (
  ∀ x14 : Int, x14 = IntKind.i64.wrap (x5 - 1) →
  Ix5 [.i x14, .i x10, .i x11, .i x12, .i x13] ∧ mx5 [.i x14, .i x10, .i x11, .i x12, .i x13] < mx5 [.i x5, .i x6, .i x7, .i x8, .i x9])) ∧ (¬ (b1 = true) → (
  ∃ (x14 : Int), ∃ (x15 : Int), (∀ w' : World, Below w.heap.size w w' → Calls Tryz.prog 131 #[.agg #[.int .i64 x2, .int .u64 x3]] w' (Vc.Ret (.agg #[.int .i64 x14, .int .u64 x15]) w')) ∧
  ∃ (x16 : Int), ∃ (x17 : Int), (∀ w' : World, Below w.heap.size w w' → Calls Tryz.prog 133 #[.agg #[.int .i64 x10, .int .u64 x11], .agg #[.int .i64 x14, .int .u64 x15]] w' (Vc.Ret (.agg #[.int .i64 x16, .int .u64 x17]) w')) ∧
  ∃ (x18 : Int), ∃ (x19 : Int), (∀ w' : World, Below w.heap.size w w' → Calls Tryz.prog 133 #[.agg #[.int .i64 x12, .int .u64 x13], .agg #[.int .i64 0, .int .u64 1]] w' (Vc.Ret (.agg #[.int .i64 x18, .int .u64 x19]) w')) ∧
  ∀ x20 : Int, x20 = IntKind.i64.wrap (x5 - 1) →
  Ix5 [.i x20, .i x16, .i x17, .i x18, .i x19] ∧ mx5 [.i x20, .i x16, .i x17, .i x18, .i x19] < mx5 [.i x5, .i x6, .i x7, .i x8, .i x9])))))) ∧ (¬ (0 ≤ x5) → (
  (.tuple #[.agg #[.int .i64 x8, .int .u64 x9], .agg #[.int .i64 x6, .int .u64 x7]] : Value) = v))))))))) : Calls Tryz.prog 148 #[.agg #[.int .i64 x0, .int .u64 x1], .agg #[.int .i64 x2, .int .u64 x3]] w (Vc.Ret v w) :=
  Vc.pure_of base [(4, .inv [] [6] [30, 31, 32, 33, 34, 35, 36, 37, 38, 39]), (9, .inv [(8, 0), (8, 1), (7, 0), (7, 1)] [9] [43, 44, 47, 48, 49, 50, 51, 52, 53, 54, 55, 56, 57, 58, 59, 60, 61, 62, 63, 64, 65, 66, 67, 45, 46])] 200 Tryz.func148 (b := (Tryz.f148.body).getD .skip) (by kernel_rfl) [.cv (.agg [.int .i64 (.var 0), .int .u64 (.var 1)]), .cv (.agg [.int .i64 (.var 2), .int .u64 (.var 3)])] ⟨4, 0, 0, 0, 0, 0, 0⟩ (Vc.envOf [x0, x1, x2, x3] [] [] []) (by kernel_rfl) (by kernel_rfl) (by kernel_rfl) h

theorem vc_ullageref01_Quotient (x0 x1 x2 x3 : Int) (w : World) (v : Value) (h : 
  ((x0 < 0) → (
  ∃ (x4 : Int), ∃ (x5 : Int), (∀ w' : World, Below w.heap.size w w' → Calls Tryz.prog 131 #[.agg #[.int .i64 x0, .int .u64 x1]] w' (Vc.Ret (.agg #[.int .i64 x4, .int .u64 x5]) w')) ∧
  ∃ (x6 : Int), ∃ (x7 : Int), ∃ (x8 : Int), ∃ (x9 : Int), (∀ w' : World, Below w.heap.size w w' → Calls Tryz.prog 148 #[.agg #[.int .i64 x4, .int .u64 x5], .agg #[.int .i64 x2, .int .u64 x3]] w' (Vc.Ret (.tuple #[.agg #[.int .i64 x6, .int .u64 x7], .agg #[.int .i64 x8, .int .u64 x9]]) w')) ∧
  ∃ (b0 : Bool), (∀ w' : World, Below w.heap.size w w' → Calls Tryz.prog 149 #[.agg #[.int .i64 x8, .int .u64 x9], .agg #[.int .i64 0, .int .u64 0]] w' (Vc.Ret (.bool b0) w')) ∧
  ((b0 = true) → (
  ((x0 < 0) → (
  ∃ (x10 : Int), ∃ (x11 : Int), (∀ w' : World, Below w.heap.size w w' → Calls Tryz.prog 131 #[.agg #[.int .i64 x6, .int .u64 x7]] w' (Vc.Ret (.agg #[.int .i64 x10, .int .u64 x11]) w')) ∧
  ∃ (x12 : Int), ∃ (x13 : Int), (∀ w' : World, Below w.heap.size w w' → Calls Tryz.prog 131 #[.agg #[.int .i64 x6, .int .u64 x7]] w' (Vc.Ret (.agg #[.int .i64 x12, .int .u64 x13]) w')) ∧
  (.tuple #[.agg #[.int .i64 x10, .int .u64 x11], .agg #[.int .i64 x12, .int .u64 x13]] : Value) = v)) ∧ (¬ (x0 < 0) → (
  (.tuple #[.agg #[.int .i64 x6, .int .u64 x7], .agg #[.int .i64 x6, .int .u64 x7]] : Value) = v)))) ∧ (¬ (b0 = true) → (
  ∃ (x10 : Int), ∃ (x11 : Int), (∀ w' : World, Below w.heap.size w w' → Calls Tryz.prog 133 #[.agg #[.int .i64 x6, .int .u64 x7], .agg #[.int .i64 0, .int .u64 1]] w' (Vc.Ret (.agg #[.int .i64 x10, .int .u64 x11]) w')) ∧
  ((x0 < 0) → (
  ∃ (x12 : Int), ∃ (x13 : Int), (∀ w' : World, Below w.heap.size w w' → Calls Tryz.prog 131 #[.agg #[.int .i64 x10, .int .u64 x11]] w' (Vc.Ret (.agg #[.int .i64 x12, .int .u64 x13]) w')) ∧
  ∃ (x14 : Int), ∃ (x15 : Int), (∀ w' : World, Below w.heap.size w w' → Calls Tryz.prog 131 #[.agg #[.int .i64 x6, .int .u64 x7]] w' (Vc.Ret (.agg #[.int .i64 x14, .int .u64 x15]) w')) ∧
  (.tuple #[.agg #[.int .i64 x12, .int .u64 x13], .agg #[.int .i64 x14, .int .u64 x15]] : Value) = v)) ∧ (¬ (x0 < 0) → (
  (.tuple #[.agg #[.int .i64 x6, .int .u64 x7], .agg #[.int .i64 x10, .int .u64 x11]] : Value) = v)))))) ∧ (¬ (x0 < 0) → (
  ∃ (x4 : Int), ∃ (x5 : Int), ∃ (x6 : Int), ∃ (x7 : Int), (∀ w' : World, Below w.heap.size w w' → Calls Tryz.prog 148 #[.agg #[.int .i64 x0, .int .u64 x1], .agg #[.int .i64 x2, .int .u64 x3]] w' (Vc.Ret (.tuple #[.agg #[.int .i64 x4, .int .u64 x5], .agg #[.int .i64 x6, .int .u64 x7]]) w')) ∧
  ∃ (b0 : Bool), (∀ w' : World, Below w.heap.size w w' → Calls Tryz.prog 149 #[.agg #[.int .i64 x6, .int .u64 x7], .agg #[.int .i64 0, .int .u64 0]] w' (Vc.Ret (.bool b0) w')) ∧
  ((b0 = true) → (
  ((x0 < 0) → (
  ∃ (x8 : Int), ∃ (x9 : Int), (∀ w' : World, Below w.heap.size w w' → Calls Tryz.prog 131 #[.agg #[.int .i64 x4, .int .u64 x5]] w' (Vc.Ret (.agg #[.int .i64 x8, .int .u64 x9]) w')) ∧
  ∃ (x10 : Int), ∃ (x11 : Int), (∀ w' : World, Below w.heap.size w w' → Calls Tryz.prog 131 #[.agg #[.int .i64 x4, .int .u64 x5]] w' (Vc.Ret (.agg #[.int .i64 x10, .int .u64 x11]) w')) ∧
  (.tuple #[.agg #[.int .i64 x8, .int .u64 x9], .agg #[.int .i64 x10, .int .u64 x11]] : Value) = v)) ∧ (¬ (x0 < 0) → (
  (.tuple #[.agg #[.int .i64 x4, .int .u64 x5], .agg #[.int .i64 x4, .int .u64 x5]] : Value) = v)))) ∧ (¬ (b0 = true) → (
  ∃ (x8 : Int), ∃ (x9 : Int), (∀ w' : World, Below w.heap.size w w' → Calls Tryz.prog 133 #[.agg #[.int .i64 x4, .int .u64 x5], .agg #[.int .i64 0, .int .u64 1]] w' (Vc.Ret (.agg #[.int .i64 x8, .int .u64 x9]) w')) ∧
  ((x0 < 0) → (
  ∃ (x10 : Int), ∃ (x11 : Int), (∀ w' : World, Below w.heap.size w w' → Calls Tryz.prog 131 #[.agg #[.int .i64 x8, .int .u64 x9]] w' (Vc.Ret (.agg #[.int .i64 x10, .int .u64 x11]) w')) ∧
  ∃ (x12 : Int), ∃ (x13 : Int), (∀ w' : World, Below w.heap.size w w' → Calls Tryz.prog 131 #[.agg #[.int .i64 x4, .int .u64 x5]] w' (Vc.Ret (.agg #[.int .i64 x12, .int .u64 x13]) w')) ∧
  (.tuple #[.agg #[.int .i64 x10, .int .u64 x11], .agg #[.int .i64 x12, .int .u64 x13]] : Value) = v)) ∧ (¬ (x0 < 0) → (
  (.tuple #[.agg #[.int .i64 x4, .int .u64 x5], .agg #[.int .i64 x8, .int .u64 x9]] : Value) = v))))))) : Calls Tryz.prog 135 #[.agg #[.int .i64 x0, .int .u64 x1], .agg #[.int .i64 x2, .int .u64 x3]] w (Vc.Ret v w) :=
  Vc.pure_of base [] 200 Tryz.func135 (b := (Tryz.f135.body).getD .skip) (by kernel_rfl) [.cv (.agg [.int .i64 (.var 0), .int .u64 (.var 1)]), .cv (.agg [.int .i64 (.var 2), .int .u64 (.var 3)])] ⟨4, 0, 0, 0, 0, 0, 0⟩ (Vc.envOf [x0, x1, x2, x3] [] [] []) (by kernel_rfl) (by kernel_rfl) (by kernel_rfl) h

theorem vc_ullageref01_FloorRoot (x0 x1 : Int) (w : World) (v : Value) (h : 
  ∃ (Ix2 : List Vc.Vl → Prop) (mx2 : List Vc.Vl → Nat), Ix2 [.i 0, .i 281474976710656] ∧ ∀ (x2 : Int) (x3 : Int), Ix2 [.i x2, .i x3] → (
  ((0 < x3) → (
  ∀ x4 : Int, x4 = IntKind.i64.wrap (x2 + x3) →
  ∃ (x5 : Int), ∃ (x6 : Int), (∀ w' : World, Below w.heap.size w w' → Calls Tryz.prog 93 #[.int .i64 x4, .int .i64 x4] w' (Vc.Ret (.agg #[.int .i64 x5, .int .u64 x6]) w')) ∧
  ∃ (b0 : Bool), (∀ w' : World, Below w.heap.size w w' → Calls Tryz.prog 94 #[.agg #[.int .i64 x0, .int .u64 x1], .agg #[.int .i64 x5, .int .u64 x6]] w' (Vc.Ret (.bool b0) w')) ∧
  ((b0 = true) → (
  ∀ x7 : Int, x7 = IntKind.i64.wrap (Int.tdiv x3 2) →
  Ix2 [.i x2, .i x7] ∧ mx2 [.i x2, .i x7] < mx2 [.i x2, .i x3])) ∧ (¬ (b0 = true) → (
  ∀ x7 : Int, x7 = IntKind.i64.wrap (Int.tdiv x3 2) →
  Ix2 [.i x4, .i x7] ∧ mx2 [.i x4, .i x7] < mx2 [.i x2, .i x3])))) ∧ (¬ (0 < x3) → (
  (.int .i64 x2 : Value) = v)))) : Calls Tryz.prog 99 #[.agg #[.int .i64 x0, .int .u64 x1]] w (Vc.Ret v w) :=
  Vc.pure_of base [(3, .inv [] [3, 4] [6, 7, 10, 11, 12, 5, 13, 14, 15, 16, 17, 18, 19, 8, 9])] 200 Tryz.func99 (b := (Tryz.f99.body).getD .skip) (by kernel_rfl) [.cv (.agg [.int .i64 (.var 0), .int .u64 (.var 1)])] ⟨2, 0, 0, 0, 0, 0, 0⟩ (Vc.envOf [x0, x1] [] [] []) (by kernel_rfl) (by kernel_rfl) (by kernel_rfl) h

theorem vc_ullageref01_wide (x0 : Int) (w : World) (v : Value) (h : 
  ∃ (x1 : Int), ∃ (x2 : Int), (∀ w' : World, Below w.heap.size w w' → Calls Tryz.prog 134 #[.int .i64 x0] w' (Vc.Ret (.agg #[.int .i64 x1, .int .u64 x2]) w')) ∧
  (.agg #[.int .i64 x1, .int .u64 x2] : Value) = v) : Calls Tryz.prog 98 #[.int .i64 x0] w (Vc.Ret v w) :=
  Vc.pure_of base [] 200 Tryz.func98 (b := (Tryz.f98.body).getD .skip) (by kernel_rfl) [.cv (.one (.int .i64 (.var 0)))] ⟨1, 0, 0, 0, 0, 0, 0⟩ (Vc.envOf [x0] [] [] []) (by kernel_rfl) (by kernel_rfl) (by kernel_rfl) h

theorem vc_ullageref01_out (x0 x1 x2 x3 : Int) (w : World) (v : Value) (h : 
  ∃ (x4 : Int), ∃ (x5 : Int), (∀ w' : World, Below w.heap.size w w' → Calls Tryz.prog 134 #[.int .i64 (-9223372036854775807)] w' (Vc.Ret (.agg #[.int .i64 x4, .int .u64 x5]) w')) ∧
  ∃ (b0 : Bool), (∀ w' : World, Below w.heap.size w w' → Calls Tryz.prog 94 #[.agg #[.int .i64 x0, .int .u64 x1], .agg #[.int .i64 x4, .int .u64 x5]] w' (Vc.Ret (.bool b0) w')) ∧
  ((b0 = true) → (
  (.tuple #[.agg #[.int .i64 0, .int .i64 0], .int .i64 4] : Value) = v)) ∧ (¬ (b0 = true) → (
  ∃ (x6 : Int), ∃ (x7 : Int), (∀ w' : World, Below w.heap.size w w' → Calls Tryz.prog 134 #[.int .i64 9223372036854775807] w' (Vc.Ret (.agg #[.int .i64 x6, .int .u64 x7]) w')) ∧
  ∃ (b1 : Bool), (∀ w' : World, Below w.heap.size w w' → Calls Tryz.prog 94 #[.agg #[.int .i64 x6, .int .u64 x7], .agg #[.int .i64 x0, .int .u64 x1]] w' (Vc.Ret (.bool b1) w')) ∧
  ((b1 = true) → (
  (.tuple #[.agg #[.int .i64 0, .int .i64 0], .int .i64 4] : Value) = v)) ∧ (¬ (b1 = true) → (
  ∃ (x8 : Int), ∃ (x9 : Int), (∀ w' : World, Below w.heap.size w w' → Calls Tryz.prog 134 #[.int .i64 (-9223372036854775807)] w' (Vc.Ret (.agg #[.int .i64 x8, .int .u64 x9]) w')) ∧
  ∃ (b2 : Bool), (∀ w' : World, Below w.heap.size w w' → Calls Tryz.prog 94 #[.agg #[.int .i64 x2, .int .u64 x3], .agg #[.int .i64 x8, .int .u64 x9]] w' (Vc.Ret (.bool b2) w')) ∧
  ((b2 = true) → (
  (.tuple #[.agg #[.int .i64 0, .int .i64 0], .int .i64 4] : Value) = v)) ∧ (¬ (b2 = true) → (
  ∃ (x10 : Int), ∃ (x11 : Int), (∀ w' : World, Below w.heap.size w w' → Calls Tryz.prog 134 #[.int .i64 9223372036854775807] w' (Vc.Ret (.agg #[.int .i64 x10, .int .u64 x11]) w')) ∧
  ∃ (b3 : Bool), (∀ w' : World, Below w.heap.size w w' → Calls Tryz.prog 94 #[.agg #[.int .i64 x10, .int .u64 x11], .agg #[.int .i64 x2, .int .u64 x3]] w' (Vc.Ret (.bool b3) w')) ∧
  ((b3 = true) → (
  (.tuple #[.agg #[.int .i64 0, .int .i64 0], .int .i64 4] : Value) = v)) ∧ (¬ (b3 = true) → (
  ∀ x12 : Int, x12 = IntKind.i64.wrap (x1) →
  ∀ x13 : Int, x13 = IntKind.i64.wrap (x3) →
  (.tuple #[.agg #[.int .i64 x12, .int .i64 x13], .int .i64 0] : Value) = v))))))))) : Calls Tryz.prog 95 #[.agg #[.int .i64 x0, .int .u64 x1], .agg #[.int .i64 x2, .int .u64 x3]] w (Vc.Ret v w) :=
  Vc.pure_of base [] 200 Tryz.func95 (b := (Tryz.f95.body).getD .skip) (by kernel_rfl) [.cv (.agg [.int .i64 (.var 0), .int .u64 (.var 1)]), .cv (.agg [.int .i64 (.var 2), .int .u64 (.var 3)])] ⟨4, 0, 0, 0, 0, 0, 0⟩ (Vc.envOf [x0, x1, x2, x3] [] [] []) (by kernel_rfl) (by kernel_rfl) (by kernel_rfl) h

theorem vc_ullageref01_over (x0 x1 x2 x3 : Int) (w : World) (v : Value) (h : 
  ((x2 < 0) → (
  ∃ (x4 : Int), ∃ (x5 : Int), (∀ w' : World, Below w.heap.size w w' → Calls Tryz.prog 131 #[.agg #[.int .i64 x0, .int .u64 x1]] w' (Vc.Ret (.agg #[.int .i64 x4, .int .u64 x5]) w')) ∧
  ∃ (x6 : Int), ∃ (x7 : Int), (∀ w' : World, Below w.heap.size w w' → Calls Tryz.prog 131 #[.agg #[.int .i64 x2, .int .u64 x3]] w' (Vc.Ret (.agg #[.int .i64 x6, .int .u64 x7]) w')) ∧
  ∃ (x8 : Int), ∃ (x9 : Int), (∀ w' : World, Below w.heap.size w w' → Calls Tryz.prog 97 #[.agg #[.int .i64 x4, .int .u64 x5], .int .i64 32] w' (Vc.Ret (.agg #[.int .i64 x8, .int .u64 x9]) w')) ∧
  ∃ (x10 : Int), ∃ (x11 : Int), ∃ (x12 : Int), ∃ (x13 : Int), (∀ w' : World, Below w.heap.size w w' → Calls Tryz.prog 135 #[.agg #[.int .i64 x8, .int .u64 x9], .agg #[.int .i64 x6, .int .u64 x7]] w' (Vc.Ret (.tuple #[.agg #[.int .i64 x10, .int .u64 x11], .agg #[.int .i64 x12, .int .u64 x13]]) w')) ∧
  (.tuple #[.agg #[.int .i64 x10, .int .u64 x11], .agg #[.int .i64 x12, .int .u64 x13]] : Value) = v)) ∧ (¬ (x2 < 0) → (
  ∃ (x4 : Int), ∃ (x5 : Int), (∀ w' : World, Below w.heap.size w w' → Calls Tryz.prog 97 #[.agg #[.int .i64 x0, .int .u64 x1], .int .i64 32] w' (Vc.Ret (.agg #[.int .i64 x4, .int .u64 x5]) w')) ∧
  ∃ (x6 : Int), ∃ (x7 : Int), ∃ (x8 : Int), ∃ (x9 : Int), (∀ w' : World, Below w.heap.size w w' → Calls Tryz.prog 135 #[.agg #[.int .i64 x4, .int .u64 x5], .agg #[.int .i64 x2, .int .u64 x3]] w' (Vc.Ret (.tuple #[.agg #[.int .i64 x6, .int .u64 x7], .agg #[.int .i64 x8, .int .u64 x9]]) w')) ∧
  (.tuple #[.agg #[.int .i64 x6, .int .u64 x7], .agg #[.int .i64 x8, .int .u64 x9]] : Value) = v))) : Calls Tryz.prog 102 #[.agg #[.int .i64 x0, .int .u64 x1], .agg #[.int .i64 x2, .int .u64 x3]] w (Vc.Ret v w) :=
  Vc.pure_of base [] 200 Tryz.func102 (b := (Tryz.f102.body).getD .skip) (by kernel_rfl) [.cv (.agg [.int .i64 (.var 0), .int .u64 (.var 1)]), .cv (.agg [.int .i64 (.var 2), .int .u64 (.var 3)])] ⟨4, 0, 0, 0, 0, 0, 0⟩ (Vc.envOf [x0, x1, x2, x3] [] [] []) (by kernel_rfl) (by kernel_rfl) (by kernel_rfl) h

theorem vc_ullageref01_Add (x0 x1 x2 x3 : Int) (w : World) (v : Value) (h : 
  ∃ (x4 : Int), (∀ w' : World, Below w.heap.size w w' → Calls Tryz.prog 100 #[.agg #[.int .i64 x0, .int .i64 x1], .agg #[.int .i64 x2, .int .i64 x3]] w' (Vc.Ret (.int .i64 x4) w')) ∧
  ((x4 = 0) → (
  ∃ (x5 : Int), ∃ (x6 : Int), (∀ w' : World, Below w.heap.size w w' → Calls Tryz.prog 98 #[.int .i64 x0] w' (Vc.Ret (.agg #[.int .i64 x5, .int .u64 x6]) w')) ∧
  ∃ (x7 : Int), ∃ (x8 : Int), (∀ w' : World, Below w.heap.size w w' → Calls Tryz.prog 98 #[.int .i64 x2] w' (Vc.Ret (.agg #[.int .i64 x7, .int .u64 x8]) w')) ∧
  ∃ (x9 : Int), ∃ (x10 : Int), (∀ w' : World, Below w.heap.size w w' → Calls Tryz.prog 133 #[.agg #[.int .i64 x5, .int .u64 x6], .agg #[.int .i64 x7, .int .u64 x8]] w' (Vc.Ret (.agg #[.int .i64 x9, .int .u64 x10]) w')) ∧
  ∃ (x11 : Int), ∃ (x12 : Int), (∀ w' : World, Below w.heap.size w w' → Calls Tryz.prog 98 #[.int .i64 x1] w' (Vc.Ret (.agg #[.int .i64 x11, .int .u64 x12]) w')) ∧
  ∃ (x13 : Int), ∃ (x14 : Int), (∀ w' : World, Below w.heap.size w w' → Calls Tryz.prog 98 #[.int .i64 x3] w' (Vc.Ret (.agg #[.int .i64 x13, .int .u64 x14]) w')) ∧
  ∃ (x15 : Int), ∃ (x16 : Int), (∀ w' : World, Below w.heap.size w w' → Calls Tryz.prog 133 #[.agg #[.int .i64 x11, .int .u64 x12], .agg #[.int .i64 x13, .int .u64 x14]] w' (Vc.Ret (.agg #[.int .i64 x15, .int .u64 x16]) w')) ∧
  ∃ (x17 : Int), ∃ (x18 : Int), ∃ (x19 : Int), (∀ w' : World, Below w.heap.size w w' → Calls Tryz.prog 95 #[.agg #[.int .i64 x9, .int .u64 x10], .agg #[.int .i64 x15, .int .u64 x16]] w' (Vc.Ret (.tuple #[.agg #[.int .i64 x17, .int .i64 x18], .int .i64 x19]) w')) ∧
  (.tuple #[.agg #[.int .i64 x17, .int .i64 x18], .int .i64 x19] : Value) = v)) ∧ (¬ (x4 = 0) → (
  (.tuple #[.agg #[.int .i64 0, .int .i64 0], .int .i64 2] : Value) = v))) : Calls Tryz.prog 96 #[.agg #[.int .i64 x0, .int .i64 x1], .agg #[.int .i64 x2, .int .i64 x3]] w (Vc.Ret v w) :=
  Vc.pure_of base [] 200 Tryz.func96 (b := (Tryz.f96.body).getD .skip) (by kernel_rfl) [.cv (.agg [.int .i64 (.var 0), .int .i64 (.var 1)]), .cv (.agg [.int .i64 (.var 2), .int .i64 (.var 3)])] ⟨4, 0, 0, 0, 0, 0, 0⟩ (Vc.envOf [x0, x1, x2, x3] [] [] []) (by kernel_rfl) (by kernel_rfl) (by kernel_rfl) h

theorem vc_ullageref01_Neg (x0 x1 : Int) (w : World) (v : Value) (h : 
  ∃ (x2 : Int), (∀ w' : World, Below w.heap.size w w' → Calls Tryz.prog 43 #[.agg #[.int .i64 x0, .int .i64 x1]] w' (Vc.Ret (.int .i64 x2) w')) ∧
  ((x2 = 0) → (
  ∀ x3 : Int, x3 = IntKind.i64.wrap (0 - x1) →
  ∀ x4 : Int, x4 = IntKind.i64.wrap (0 - x0) →
  (.tuple #[.agg #[.int .i64 x3, .int .i64 x4], .int .i64 0] : Value) = v)) ∧ (¬ (x2 = 0) → (
  (.tuple #[.agg #[.int .i64 0, .int .i64 0], .int .i64 2] : Value) = v))) : Calls Tryz.prog 129 #[.agg #[.int .i64 x0, .int .i64 x1]] w (Vc.Ret v w) :=
  Vc.pure_of base [] 200 Tryz.func129 (b := (Tryz.f129.body).getD .skip) (by kernel_rfl) [.cv (.agg [.int .i64 (.var 0), .int .i64 (.var 1)])] ⟨2, 0, 0, 0, 0, 0, 0⟩ (Vc.envOf [x0, x1] [] [] []) (by kernel_rfl) (by kernel_rfl) (by kernel_rfl) h

theorem vc_ullageref01_Scale (x0 x1 x2 : Int) (w : World) (v : Value) (h : 
  ∃ (x3 : Int), (∀ w' : World, Below w.heap.size w w' → Calls Tryz.prog 43 #[.agg #[.int .i64 x0, .int .i64 x1]] w' (Vc.Ret (.int .i64 x3) w')) ∧
  ((x3 = 0) → (
  ∃ (x4 : Int), ∃ (x5 : Int), (∀ w' : World, Below w.heap.size w w' → Calls Tryz.prog 93 #[.int .i64 x0, .int .i64 x2] w' (Vc.Ret (.agg #[.int .i64 x4, .int .u64 x5]) w')) ∧
  ∃ (x6 : Int), ∃ (x7 : Int), (∀ w' : World, Below w.heap.size w w' → Calls Tryz.prog 93 #[.int .i64 x1, .int .i64 x2] w' (Vc.Ret (.agg #[.int .i64 x6, .int .u64 x7]) w')) ∧
  ∃ (b0 : Bool), (∀ w' : World, Below w.heap.size w w' → Calls Tryz.prog 94 #[.agg #[.int .i64 x6, .int .u64 x7], .agg #[.int .i64 x4, .int .u64 x5]] w' (Vc.Ret (.bool b0) w')) ∧
  ((b0 = true) → (
  ∃ (x8 : Int), ∃ (x9 : Int), ∃ (x10 : Int), (∀ w' : World, Below w.heap.size w w' → Calls Tryz.prog 95 #[.agg #[.int .i64 x6, .int .u64 x7], .agg #[.int .i64 x4, .int .u64 x5]] w' (Vc.Ret (.tuple #[.agg #[.int .i64 x8, .int .i64 x9], .int .i64 x10]) w')) ∧
  (.tuple #[.agg #[.int .i64 x8, .int .i64 x9], .int .i64 x10] : Value) = v)) ∧ (¬ (b0 = true) → (
  ∃ (x8 : Int), ∃ (x9 : Int), ∃ (x10 : Int), (∀ w' : World, Below w.heap.size w w' → Calls Tryz.prog 95 #[.agg #[.int .i64 x4, .int .u64 x5], .agg #[.int .i64 x6, .int .u64 x7]] w' (Vc.Ret (.tuple #[.agg #[.int .i64 x8, .int .i64 x9], .int .i64 x10]) w')) ∧
  (.tuple #[.agg #[.int .i64 x8, .int .i64 x9], .int .i64 x10] : Value) = v)))) ∧ (¬ (x3 = 0) → (
  (.tuple #[.agg #[.int .i64 0, .int .i64 0], .int .i64 2] : Value) = v))) : Calls Tryz.prog 46 #[.agg #[.int .i64 x0, .int .i64 x1], .int .i64 x2] w (Vc.Ret v w) :=
  Vc.pure_of base [] 200 Tryz.func46 (b := (Tryz.f46.body).getD .skip) (by kernel_rfl) [.cv (.agg [.int .i64 (.var 0), .int .i64 (.var 1)]), .cv (.one (.int .i64 (.var 2)))] ⟨3, 0, 0, 0, 0, 0, 0⟩ (Vc.envOf [x0, x1, x2] [] [] []) (by kernel_rfl) (by kernel_rfl) (by kernel_rfl) h

theorem vc_ullageref01_Mul (x0 x1 x2 x3 : Int) (w : World) (v : Value) (h : 
  ∃ (x4 : Int), (∀ w' : World, Below w.heap.size w w' → Calls Tryz.prog 100 #[.agg #[.int .i64 x0, .int .i64 x1], .agg #[.int .i64 x2, .int .i64 x3]] w' (Vc.Ret (.int .i64 x4) w')) ∧
  ((x4 = 0) → (
  ∃ (x5 : Int), ∃ (x6 : Int), (∀ w' : World, Below w.heap.size w w' → Calls Tryz.prog 93 #[.int .i64 x0, .int .i64 x2] w' (Vc.Ret (.agg #[.int .i64 x5, .int .u64 x6]) w')) ∧
  ∃ (x7 : Int), ∃ (x8 : Int), (∀ w' : World, Below w.heap.size w w' → Calls Tryz.prog 93 #[.int .i64 x0, .int .i64 x3] w' (Vc.Ret (.agg #[.int .i64 x7, .int .u64 x8]) w')) ∧
  ∃ (b0 : Bool), (∀ w' : World, Below w.heap.size w w' → Calls Tryz.prog 94 #[.agg #[.int .i64 x7, .int .u64 x8], .agg #[.int .i64 x5, .int .u64 x6]] w' (Vc.Ret (.bool b0) w')) ∧
  ((b0 = true) → (
  ∃ (b1 : Bool), (∀ w' : World, Below w.heap.size w w' → Calls Tryz.prog 94 #[.agg #[.int .i64 x5, .int .u64 x6], .agg #[.int .i64 x7, .int .u64 x8]] w' (Vc.Ret (.bool b1) w')) ∧
  ((b1 = true) → (
  ∃ (x9 : Int), ∃ (x10 : Int), (∀ w' : World, Below w.heap.size w w' → Calls Tryz.prog 93 #[.int .i64 x1, .int .i64 x2] w' (Vc.Ret (.agg #[.int .i64 x9, .int .u64 x10]) w')) ∧
  ∃ (b2 : Bool), (∀ w' : World, Below w.heap.size w w' → Calls Tryz.prog 94 #[.agg #[.int .i64 x9, .int .u64 x10], .agg #[.int .i64 x7, .int .u64 x8]] w' (Vc.Ret (.bool b2) w')) ∧
  ((b2 = true) → (
  ∃ (b3 : Bool), (∀ w' : World, Below w.heap.size w w' → Calls Tryz.prog 94 #[.agg #[.int .i64 x7, .int .u64 x8], .agg #[.int .i64 x9, .int .u64 x10]] w' (Vc.Ret (.bool b3) w')) ∧
  ((b3 = true) → (
  ∃ (x11 : Int), ∃ (x12 : Int), (∀ w' : World, Below w.heap.size w w' → Calls Tryz.prog 93 #[.int .i64 x1, .int .i64 x3] w' (Vc.Ret (.agg #[.int .i64 x11, .int .u64 x12]) w')) ∧
  ∃ (b4 : Bool), (∀ w' : World, Below w.heap.size w w' → Calls Tryz.prog 94 #[.agg #[.int .i64 x11, .int .u64 x12], .agg #[.int .i64 x9, .int .u64 x10]] w' (Vc.Ret (.bool b4) w')) ∧
  ((b4 = true) → (
  ∃ (b5 : Bool), (∀ w' : World, Below w.heap.size w w' → Calls Tryz.prog 94 #[.agg #[.int .i64 x9, .int .u64 x10], .agg #[.int .i64 x11, .int .u64 x12]] w' (Vc.Ret (.bool b5) w')) ∧
  ((b5 = true) → (
  ∃ (x13 : Int), ∃ (x14 : Int), (∀ w' : World, Below w.heap.size w w' → Calls Tryz.prog 130 #[.agg #[.int .i64 x11, .int .u64 x12]] w' (Vc.Ret (.agg #[.int .i64 x13, .int .u64 x14]) w')) ∧
  ∃ (x15 : Int), ∃ (x16 : Int), (∀ w' : World, Below w.heap.size w w' → Calls Tryz.prog 131 #[.agg #[.int .i64 x11, .int .u64 x12]] w' (Vc.Ret (.agg #[.int .i64 x15, .int .u64 x16]) w')) ∧
  ∃ (x17 : Int), ∃ (x18 : Int), (∀ w' : World, Below w.heap.size w w' → Calls Tryz.prog 130 #[.agg #[.int .i64 x15, .int .u64 x16]] w' (Vc.Ret (.agg #[.int .i64 x17, .int .u64 x18]) w')) ∧
  ∃ (x19 : Int), ∃ (x20 : Int), (∀ w' : World, Below w.heap.size w w' → Calls Tryz.prog 131 #[.agg #[.int .i64 x17, .int .u64 x18]] w' (Vc.Ret (.agg #[.int .i64 x19, .int .u64 x20]) w')) ∧
  ∃ (x21 : Int), ∃ (x22 : Int), ∃ (x23 : Int), (∀ w' : World, Below w.heap.size w w' → Calls Tryz.prog 95 #[.agg #[.int .i64 x13, .int .u64 x14], .agg #[.int .i64 x19, .int .u64 x20]] w' (Vc.Ret (.tuple #[.agg #[.int .i64 x21, .int .i64 x22], .int .i64 x23]) w')) ∧
  (.tuple #[.agg #[.int .i64 x21, .int .i64 x22], .int .i64 x23] : Value) = v)) ∧ (¬ (b5 = true) → (
  ∃ (x13 : Int), ∃ (x14 : Int), (∀ w' : World, Below w.heap.size w w' → Calls Tryz.prog 130 #[.agg #[.int .i64 x11, .int .u64 x12]] w' (Vc.Ret (.agg #[.int .i64 x13, .int .u64 x14]) w')) ∧
  ∃ (x15 : Int), ∃ (x16 : Int), (∀ w' : World, Below w.heap.size w w' → Calls Tryz.prog 131 #[.agg #[.int .i64 x9, .int .u64 x10]] w' (Vc.Ret (.agg #[.int .i64 x15, .int .u64 x16]) w')) ∧
  ∃ (x17 : Int), ∃ (x18 : Int), (∀ w' : World, Below w.heap.size w w' → Calls Tryz.prog 130 #[.agg #[.int .i64 x15, .int .u64 x16]] w' (Vc.Ret (.agg #[.int .i64 x17, .int .u64 x18]) w')) ∧
  ∃ (x19 : Int), ∃ (x20 : Int), (∀ w' : World, Below w.heap.size w w' → Calls Tryz.prog 131 #[.agg #[.int .i64 x17, .int .u64 x18]] w' (Vc.Ret (.agg #[.int .i64 x19, .int .u64 x20]) w')) ∧
  ∃ (x21 : Int), ∃ (x22 : Int), ∃ (x23 : Int), (∀ w' : World, Below w.heap.size w w' → Calls Tryz.prog 95 #[.agg #[.int .i64 x13, .int .u64 x14], .agg #[.int .i64 x19, .int .u64 x20]] w' (Vc.Ret (.tuple #[.agg #[.int .i64 x21, .int .i64 x22], .int .i64 x23]) w')) ∧
  (.tuple #[.agg #[.int .i64 x21, .int .i64 x22], .int .i64 x23] : Value) = v)))) ∧ (¬ (b4 = true) → (
  ∃ (b5 : Bool), (∀ w' : World, Below w.heap.size w w' → Calls Tryz.prog 94 #[.agg #[.int .i64 x9, .int .u64 x10], .agg #[.int .i64 x11, .int .u64 x12]] w' (Vc.Ret (.bool b5) w')) ∧
  ((b5 = true) → (
  ∃ (x13 : Int), ∃ (x14 : Int), (∀ w' : World, Below w.heap.size w w' → Calls Tryz.prog 130 #[.agg #[.int .i64 x9, .int .u64 x10]] w' (Vc.Ret (.agg #[.int .i64 x13, .int .u64 x14]) w')) ∧
  ∃ (x15 : Int), ∃ (x16 : Int), (∀ w' : World, Below w.heap.size w w' → Calls Tryz.prog 131 #[.agg #[.int .i64 x11, .int .u64 x12]] w' (Vc.Ret (.agg #[.int .i64 x15, .int .u64 x16]) w')) ∧
  ∃ (x17 : Int), ∃ (x18 : Int), (∀ w' : World, Below w.heap.size w w' → Calls Tryz.prog 130 #[.agg #[.int .i64 x15, .int .u64 x16]] w' (Vc.Ret (.agg #[.int .i64 x17, .int .u64 x18]) w')) ∧
  ∃ (x19 : Int), ∃ (x20 : Int), (∀ w' : World, Below w.heap.size w w' → Calls Tryz.prog 131 #[.agg #[.int .i64 x17, .int .u64 x18]] w' (Vc.Ret (.agg #[.int .i64 x19, .int .u64 x20]) w')) ∧
  ∃ (x21 : Int), ∃ (x22 : Int), ∃ (x23 : Int), (∀ w' : World, Below w.heap.size w w' → Calls Tryz.prog 95 #[.agg #[.int .i64 x13, .int .u64 x14], .agg #[.int .i64 x19, .int .u64 x20]] w' (Vc.Ret (.tuple #[.agg #[.int .i64 x21, .int .i64 x22], .int .i64 x23]) w')) ∧
  (.tuple #[.agg #[.int .i64 x21, .int .i64 x22], .int .i64 x23] : Value) = v)) ∧ (¬ (b5 = true) → (
  ∃ (x13 : Int), ∃ (x14 : Int), (∀ w' : World, Below w.heap.size w w' → Calls Tryz.prog 130 #[.agg #[.int .i64 x9, .int .u64 x10]] w' (Vc.Ret (.agg #[.int .i64 x13, .int .u64 x14]) w')) ∧
  ∃ (x15 : Int), ∃ (x16 : Int), (∀ w' : World, Below w.heap.size w w' → Calls Tryz.prog 131 #[.agg #[.int .i64 x9, .int .u64 x10]] w' (Vc.Ret (.agg #[.int .i64 x15, .int .u64 x16]) w')) ∧
  ∃ (x17 : Int), ∃ (x18 : Int), (∀ w' : World, Below w.heap.size w w' → Calls Tryz.prog 130 #[.agg #[.int .i64 x15, .int .u64 x16]] w' (Vc.Ret (.agg #[.int .i64 x17, .int .u64 x18]) w')) ∧
  ∃ (x19 : Int), ∃ (x20 : Int), (∀ w' : World, Below w.heap.size w w' → Calls Tryz.prog 131 #[.agg #[.int .i64 x17, .int .u64 x18]] w' (Vc.Ret (.agg #[.int .i64 x19, .int .u64 x20]) w')) ∧
  ∃ (x21 : Int), ∃ (x22 : Int), ∃ (x23 : Int), (∀ w' : World, Below w.heap.size w w' → Calls Tryz.prog 95 #[.agg #[.int .i64 x13, .int .u64 x14], .agg #[.int .i64 x19, .int .u64 x20]] w' (Vc.Ret (.tuple #[.agg #[.int .i64 x21, .int .i64 x22], .int .i64 x23]) w')) ∧
  (.tuple #[.agg #[.int .i64 x21, .int .i64 x22], .int .i64 x23] : Value) = v)))))) ∧ (¬ (b3 = true) → (
  ∃ (x11 : Int), ∃ (x12 : Int), (∀ w' : World, Below w.heap.size w w' → Calls Tryz.prog 93 #[.int .i64 x1, .int .i64 x3] w' (Vc.Ret (.agg #[.int .i64 x11, .int .u64 x12]) w')) ∧
  ∃ (b4 : Bool), (∀ w' : World, Below w.heap.size w w' → Calls Tryz.prog 94 #[.agg #[.int .i64 x11, .int .u64 x12], .agg #[.int .i64 x9, .int .u64 x10]] w' (Vc.Ret (.bool b4) w')) ∧
  ((b4 = true) → (
  ∃ (b5 : Bool), (∀ w' : World, Below w.heap.size w w' → Calls Tryz.prog 94 #[.agg #[.int .i64 x7, .int .u64 x8], .agg #[.int .i64 x11, .int .u64 x12]] w' (Vc.Ret (.bool b5) w')) ∧
  ((b5 = true) → (
  ∃ (x13 : Int), ∃ (x14 : Int), (∀ w' : World, Below w.heap.size w w' → Calls Tryz.prog 130 #[.agg #[.int .i64 x11, .int .u64 x12]] w' (Vc.Ret (.agg #[.int .i64 x13, .int .u64 x14]) w')) ∧
  ∃ (x15 : Int), ∃ (x16 : Int), (∀ w' : World, Below w.heap.size w w' → Calls Tryz.prog 131 #[.agg #[.int .i64 x11, .int .u64 x12]] w' (Vc.Ret (.agg #[.int .i64 x15, .int .u64 x16]) w')) ∧
  ∃ (x17 : Int), ∃ (x18 : Int), (∀ w' : World, Below w.heap.size w w' → Calls Tryz.prog 130 #[.agg #[.int .i64 x15, .int .u64 x16]] w' (Vc.Ret (.agg #[.int .i64 x17, .int .u64 x18]) w')) ∧
  ∃ (x19 : Int), ∃ (x20 : Int), (∀ w' : World, Below w.heap.size w w' → Calls Tryz.prog 131 #[.agg #[.int .i64 x17, .int .u64 x18]] w' (Vc.Ret (.agg #[.int .i64 x19, .int .u64 x20]) w')) ∧
  ∃ (x21 : Int), ∃ (x22 : Int), ∃ (x23 : Int), (∀ w' : World, Below w.heap.size w w' → Calls Tryz.prog 95 #[.agg #[.int .i64 x13, .int .u64 x14], .agg #[.int .i64 x19, .int .u64 x20]] w' (Vc.Ret (.tuple #[.agg #[.int .i64 x21, .int .i64 x22], .int .i64 x23]) w')) ∧
  (.tuple #[.agg #[.int .i64 x21, .int .i64 x22], .int .i64 x23] : Value) = v)) ∧ (¬ (b5 = true) → (
  ∃ (x13 : Int), ∃ (x14 : Int), (∀ w' : World, Below w.heap.size w w' → Calls Tryz.prog 130 #[.agg #[.int .i64 x11, .int .u64 x12]] w' (Vc.Ret (.agg #[.int .i64 x13, .int .u64 x14]) w')) ∧
  ∃ (x15 : Int), ∃ (x16 : Int), (∀ w' : World, Below w.heap.size w w' → Calls Tryz.prog 131 #[.agg #[.int .i64 x7, .int .u64 x8]] w' (Vc.Ret (.agg #[.int .i64 x15, .int .u64 x16]) w')) ∧
  ∃ (x17 : Int), ∃ (x18 : Int), (∀ w' : World, Below w.heap.size w w' → Calls Tryz.prog 130 #[.agg #[.int .i64 x15, .int .u64 x16]] w' (Vc.Ret (.agg #[.int .i64 x17, .int .u64 x18]) w')) ∧
  ∃ (x19 : Int), ∃ (x20 : Int), (∀ w' : World, Below w.heap.size w w' → Calls Tryz.prog 131 #[.agg #[.int .i64 x17, .int .u64 x18]] w' (Vc.Ret (.agg #[.int .i64 x19, .int .u64 x20]) w')) ∧
  ∃ (x21 : Int), ∃ (x22 : Int), ∃ (x23 : Int), (∀ w' : World, Below w.heap.size w w' → Calls Tryz.prog 95 #[.agg #[.int .i64 x13, .int .u64 x14], .agg #[.int .i64 x19, .int .u64 x20]] w' (Vc.Ret (.tuple #[.agg #[.int .i64 x21, .int .i64 x22], .int .i64 x23]) w')) ∧
  (.tuple #[.agg #[.int .i64 x21, .int .i64 x22], .int .i64 x23] : Value) = v)))) ∧ (¬ (b4 = true) → (
  ∃ (b5 : Bool), (∀ w' : World, Below w.heap.size w w' → Calls Tryz.prog 94 #[.agg #[.int .i64 x7, .int .u64 x8], .agg #[.int .i64 x11, .int .u64 x12]] w' (Vc.Ret (.bool b5) w')) ∧
  ((b5 = true) → (
  ∃ (x13 : Int), ∃ (x14 : Int), (∀ w' : World, Below w.heap.size w w' → Calls Tryz.prog 130 #[.agg #[.int .i64 x9, .int .u64 x10]] w' (Vc.Ret (.agg #[.int .i64 x13, .int .u64 x14]) w')) ∧
  ∃ (x15 : Int), ∃ (x16 : Int), (∀ w' : World, Below w.heap.size w w' → Calls Tryz.prog 131 #[.agg #[.int .i64 x11, .int .u64 x12]] w' (Vc.Ret (.agg #[.int .i64 x15, .int .u64 x16]) w')) ∧
  ∃ (x17 : Int), ∃ (x18 : Int), (∀ w' : World, Below w.heap.size w w' → Calls Tryz.prog 130 #[.agg #[.int .i64 x15, .int .u64 x16]] w' (Vc.Ret (.agg #[.int .i64 x17, .int .u64 x18]) w')) ∧
  ∃ (x19 : Int), ∃ (x20 : Int), (∀ w' : World, Below w.heap.size w w' → Calls Tryz.prog 131 #[.agg #[.int .i64 x17, .int .u64 x18]] w' (Vc.Ret (.agg #[.int .i64 x19, .int .u64 x20]) w')) ∧
  ∃ (x21 : Int), ∃ (x22 : Int), ∃ (x23 : Int), (∀ w' : World, Below w.heap.size w w' → Calls Tryz.prog 95 #[.agg #[.int .i64 x13, .int .u64 x14], .agg #[.int .i64 x19, .int .u64 x20]] w' (Vc.Ret (.tuple #[.agg #[.int .i64 x21, .int .i64 x22], .int .i64 x23]) w')) ∧
  (.tuple #[.agg #[.int .i64 x21, .int .i64 x22], .int .i64 x23] : Value) = v)) ∧ (¬ (b5 = true) → (
  ∃ (x13 : Int), ∃ (x14 : Int), (∀ w' : World, Below w.heap.size w w' → Calls Tryz.prog 130 #[.agg #[.int .i64 x9, .int .u64 x10]] w' (Vc.Ret (.agg #[.int .i64 x13, .int .u64 x14]) w')) ∧
  ∃ (x15 : Int), ∃ (x16 : Int), (∀ w' : World, Below w.heap.size w w' → Calls Tryz.prog 131 #[.agg #[.int .i64 x7, .int .u64 x8]] w' (Vc.Ret (.agg #[.int .i64 x15, .int .u64 x16]) w')) ∧
  ∃ (x17 : Int), ∃ (x18 : Int), (∀ w' : World, Below w.heap.size w w' → Calls Tryz.prog 130 #[.agg #[.int .i64 x15, .int .u64 x16]] w' (Vc.Ret (.agg #[.int .i64 x17, .int .u64 x18]) w')) ∧
  ∃ (x19 : Int), ∃ (x20 : Int), (∀ w' : World, Below w.heap.size w w' → Calls Tryz.prog 131 #[.agg #[.int .i64 x17, .int .u64 x18]] w' (Vc.Ret (.agg #[.int .i64 x19, .int .u64 x20]) w')) ∧
  ∃ (x21 : Int), ∃ (x22 : Int), ∃ (x23 : Int), (∀ w' : World, Below w.heap.size w w' → Calls Tryz.prog 95 #[.agg #[.int .i64 x13, .int .u64 x14], .agg #[.int .i64 x19, .int .u64 x20]] w' (Vc.Ret (.tuple #[.agg #[.int .i64 x21, .int .i64 x22], .int .i64 x23]) w')) ∧
  (.tuple #[.agg #[.int .i64 x21, .int .i64 x22], .int .i64 x23] : Value) = v)))))))) ∧ (¬ (b2 = true) → (
  ∃ (b3 : Bool), (∀ w' : World, Below w.heap.size w w' → Calls Tryz.prog 94 #[.agg #[.int .i64 x7, .int .u64 x8], .agg #[.int .i64 x9, .int .u64 x10]] w' (Vc.Ret (.bool b3) w')) ∧
  ((b3 = true) → (
  ∃ (x11 : Int), ∃ (x12 : Int), (∀ w' : World, Below w.heap.size w w' → Calls Tryz.prog 93 #[.int .i64 x1, .int .i64 x3] w' (Vc.Ret (.agg #[.int .i64 x11, .int .u64 x12]) w')) ∧
  ∃ (b4 : Bool), (∀ w' : World, Below w.heap.size w w' → Calls Tryz.prog 94 #[.agg #[.int .i64 x11, .int .u64 x12], .agg #[.int .i64 x7, .int .u64 x8]] w' (Vc.Ret (.bool b4) w')) ∧
  ((b4 = true) → (
  ∃ (b5 : Bool), (∀ w' : World, Below w.heap.size w w' → Calls Tryz.prog 94 #[.agg #[.int .i64 x9, .int .u64 x10], .agg #[.int .i64 x11, .int .u64 x12]] w' (Vc.Ret (.bool b5) w')) ∧
  ((b5 = true) → (
  ∃ (x13 : Int), ∃ (x14 : Int), (∀ w' : World, Below w.heap.size w w' → Calls Tryz.prog 130 #[.agg #[.int .i64 x11, .int .u64 x12]] w' (Vc.Ret (.agg #[.int .i64 x13, .int .u64 x14]) w')) ∧
  ∃ (x15 : Int), ∃ (x16 : Int), (∀ w' : World, Below w.heap.size w w' → Calls Tryz.prog 131 #[.agg #[.int .i64 x11, .int .u64 x12]] w' (Vc.Ret (.agg #[.int .i64 x15, .int .u64 x16]) w')) ∧
  ∃ (x17 : Int), ∃ (x18 : Int), (∀ w' : World, Below w.heap.size w w' → Calls Tryz.prog 130 #[.agg #[.int .i64 x15, .int .u64 x16]] w' (Vc.Ret (.agg #[.int .i64 x17, .int .u64 x18]) w')) ∧
  ∃ (x19 : Int), ∃ (x20 : Int), (∀ w' : World, Below w.heap.size w w' → Calls Tryz.prog 131 #[.agg #[.int .i64 x17, .int .u64 x18]] w' (Vc.Ret (.agg #[.int .i64 x19, .int .u64 x20]) w')) ∧
  ∃ (x21 : Int), ∃ (x22 : Int), ∃ (x23 : Int), (∀ w' : World, Below w.heap.size w w' → Calls Tryz.prog 95 #[.agg #[.int .i64 x13, .int .u64 x14], .agg #[.int .i64 x19, .int .u64 x20]] w' (Vc.Ret (.tuple #[.agg #[.int .i64 x21, .int .i64 x22], .int .i64 x23]) w')) ∧
  (.tuple #[.agg #[.int .i64 x21, .int .i64 x22], .int .i64 x23] : Value) = v)) ∧ (¬ (b5 = true) → (
  ∃ (x13 : Int), ∃ (x14 : Int), (∀ w' : World, Below w.heap.size w w' → Calls Tryz.prog 130 #[.agg #[.int .i64 x11, .int .u64 x12]] w' (Vc.Ret (.agg #[.int .i64 x13, .int .u64 x14]) w')) ∧
  ∃ (x15 : Int), ∃ (x16 : Int), (∀ w' : World, Below w.heap.size w w' → Calls Tryz.prog 131 #[.agg #[.int .i64 x9, .int .u64 x10]] w' (Vc.Ret (.agg #[.int .i64 x15, .int .u64 x16]) w')) ∧
  ∃ (x17 : Int), ∃ (x18 : Int), (∀ w' : World, Below w.heap.size w w' → Calls Tryz.prog 130 #[.agg #[.int .i64 x15, .int .u64 x16]] w' (Vc.Ret (.agg #[.int .i64 x17, .int .u64 x18]) w')) ∧
  ∃ (x19 : Int), ∃ (x20 : Int), (∀ w' : World, Below w.heap.size w w' → Calls Tryz.prog 131 #[.agg #[.int .i64 x17, .int .u64 x18]] w' (Vc.Ret (.agg #[.int .i64 x19, .int .u64 x20]) w')) ∧
  ∃ (x21 : Int), ∃ (x22 : Int), ∃ (x23 : Int), (∀ w' : World, Below w.heap.size w w' → Calls Tryz.prog 95 #[.agg #[.int .i64 x13, .int .u64 x14], .agg #[.int .i64 x19, .int .u64 x20]] w' (Vc.Ret (.tuple #[.agg #[.int .i64 x21, .int .i64 x22], .int .i64 x23]) w')) ∧
  (.tuple #[.agg #[.int .i64 x21, .int .i64 x22], .int .i64 x23] : Value) = v)))) ∧ (¬ (b4 = true) → (
  ∃ (b5 : Bool), (∀ w' : World, Below w.heap.size w w' → Calls Tryz.prog 94 #[.agg #[.int .i64 x9, .int .u64 x10], .agg #[.int .i64 x11, .int .u64 x12]] w' (Vc.Ret (.bool b5) w')) ∧
  ((b5 = true) → (
  ∃ (x13 : Int), ∃ (x14 : Int), (∀ w' : World, Below w.heap.size w w' → Calls Tryz.prog 130 #[.agg #[.int .i64 x7, .int .u64 x8]] w' (Vc.Ret (.agg #[.int .i64 x13, .int .u64 x14]) w')) ∧
  ∃ (x15 : Int), ∃ (x16 : Int), (∀ w' : World, Below w.heap.size w w' → Calls Tryz.prog 131 #[.agg #[.int .i64 x11, .int .u64 x12]] w' (Vc.Ret (.agg #[.int .i64 x15, .int .u64 x16]) w')) ∧
  ∃ (x17 : Int), ∃ (x18 : Int), (∀ w' : World, Below w.heap.size w w' → Calls Tryz.prog 130 #[.agg #[.int .i64 x15, .int .u64 x16]] w' (Vc.Ret (.agg #[.int .i64 x17, .int .u64 x18]) w')) ∧
  ∃ (x19 : Int), ∃ (x20 : Int), (∀ w' : World, Below w.heap.size w w' → Calls Tryz.prog 131 #[.agg #[.int .i64 x17, .int .u64 x18]] w' (Vc.Ret (.agg #[.int .i64 x19, .int .u64 x20]) w')) ∧
  ∃ (x21 : Int), ∃ (x22 : Int), ∃ (x23 : Int), (∀ w' : World, Below w.heap.size w w' → Calls Tryz.prog 95 #[.agg #[.int .i64 x13, .int .u64 x14], .agg #[.int .i64 x19, .int .u64 x20]] w' (Vc.Ret (.tuple #[.agg #[.int .i64 x21, .int .i64 x22], .int .i64 x23]) w')) ∧
  (.tuple #[.agg #[.int .i64 x21, .int .i64 x22], .int .i64 x23] : Value) = v)) ∧ (¬ (b5 = true) → (
  ∃ (x13 : Int), ∃ (x14 : Int), (∀ w' : World, Below w.heap.size w w' → Calls Tryz.prog 130 #[.agg #[.int .i64 x7, .int .u64 x8]] w' (Vc.Ret (.agg #[.int .i64 x13, .int .u64 x14]) w')) ∧
  ∃ (x15 : Int), ∃ (x16 : Int), (∀ w' : World, Below w.heap.size w w' → Calls Tryz.prog 131 #[.agg #[.int .i64 x9, .int .u64 x10]] w' (Vc.Ret (.agg #[.int .i64 x15, .int .u64 x16]) w')) ∧
  ∃ (x17 : Int), ∃ (x18 : Int), (∀ w' : World, Below w.heap.size w w' → Calls Tryz.prog 130 #[.agg #[.int .i64 x15, .int .u64 x16]] w' (Vc.Ret (.agg #[.int .i64 x17, .int .u64 x18]) w')) ∧
  ∃ (x19 : Int), ∃ (x20 : Int), (∀ w' : World, Below w.heap.size w w' → Calls Tryz.prog 131 #[.agg #[.int .i64 x17, .int .u64 x18]] w' (Vc.Ret (.agg #[.int .i64 x19, .int .u64 x20]) w')) ∧
  ∃ (x21 : Int), ∃ (x22 : Int), ∃ (x23 : Int), (∀ w' : World, Below w.heap.size w w' → Calls Tryz.prog 95 #[.agg #[.int .i64 x13, .int .u64 x14], .agg #[.int .i64 x19, .int .u64 x20]] w' (Vc.Ret (.tuple #[.agg #[.int .i64 x21, .int .i64 x22], .int .i64 x23]) w')) ∧
  (.tuple #[.agg #[.int .i64 x21, .int .i64 x22], .int .i64 x23] : Value) = v)))))) ∧ (¬ (b3 = true) → (
  ∃ (x11 : Int), ∃ (x12 : Int), (∀ w' : World, Below w.heap.size w w' → Calls Tryz.prog 93 #[.int .i64 x1, .int .i64 x3] w' (Vc.Ret (.agg #[.int .i64 x11, .int .u64 x12]) w')) ∧
  ∃ (b4 : Bool), (∀ w' : World, Below w.heap.size w w' → Calls Tryz.prog 94 #[.agg #[.int .i64 x11, .int .u64 x12], .agg #[.int .i64 x7, .int .u64 x8]] w' (Vc.Ret (.bool b4) w')) ∧
  ((b4 = true) → (
  ∃ (b5 : Bool), (∀ w' : World, Below w.heap.size w w' → Calls Tryz.prog 94 #[.agg #[.int .i64 x7, .int .u64 x8], .agg #[.int .i64 x11, .int .u64 x12]] w' (Vc.Ret (.bool b5) w')) ∧
  ((b5 = true) → (
  ∃ (x13 : Int), ∃ (x14 : Int), (∀ w' : World, Below w.heap.size w w' → Calls Tryz.prog 130 #[.agg #[.int .i64 x11, .int .u64 x12]] w' (Vc.Ret (.agg #[.int .i64 x13, .int .u64 x14]) w')) ∧
  ∃ (x15 : Int), ∃ (x16 : Int), (∀ w' : World, Below w.heap.size w w' → Calls Tryz.prog 131 #[.agg #[.int .i64 x11, .int .u64 x12]] w' (Vc.Ret (.agg #[.int .i64 x15, .int .u64 x16]) w')) ∧
  ∃ (x17 : Int), ∃ (x18 : Int), (∀ w' : World, Below w.heap.size w w' → Calls Tryz.prog 130 #[.agg #[.int .i64 x15, .int .u64 x16]] w' (Vc.Ret (.agg #[.int .i64 x17, .int .u64 x18]) w')) ∧
  ∃ (x19 : Int), ∃ (x20 : Int), (∀ w' : World, Below w.heap.size w w' → Calls Tryz.prog 131 #[.agg #[.int .i64 x17, .int .u64 x18]] w' (Vc.Ret (.agg #[.int .i64 x19, .int .u64 x20]) w')) ∧
  ∃ (x21 : Int), ∃ (x22 : Int), ∃ (x23 : Int), (∀ w' : World, Below w.heap.size w w' → Calls Tryz.prog 95 #[.agg #[.int .i64 x13, .int .u64 x14], .agg #[.int .i64 x19, .int .u64 x20]] w' (Vc.Ret (.tuple #[.agg #[.int .i64 x21, .int .i64 x22], .int .i64 x23]) w')) ∧
  (.tuple #[.agg #[.int .i64 x21, .int .i64 x22], .int .i64 x23] : Value) = v)) ∧ (¬ (b5 = true) → (
  ∃ (x13 : Int), ∃ (x14 : Int), (∀ w' : World, Below w.heap.size w w' → Calls Tryz.prog 130 #[.agg #[.int .i64 x11, .int .u64 x12]] w' (Vc.Ret (.agg #[.int .i64 x13, .int .u64 x14]) w')) ∧
  ∃ (x15 : Int), ∃ (x16 : Int), (∀ w' : World, Below w.heap.size w w' → Calls Tryz.prog 131 #[.agg #[.int .i64 x7, .int .u64 x8]] w' (Vc.Ret (.agg #[.int .i64 x15, .int .u64 x16]) w')) ∧
  ∃ (x17 : Int), ∃ (x18 : Int), (∀ w' : World, Below w.heap.size w w' → Calls Tryz.prog 130 #[.agg #[.int .i64 x15, .int .u64 x16]] w' (Vc.Ret (.agg #[.int .i64 x17, .int .u64 x18]) w')) ∧
  ∃ (x19 : Int), ∃ (x20 : Int), (∀ w' : World, Below w.heap.size w w' → Calls Tryz.prog 131 #[.agg #[.int .i64 x17, .int .u64 x18]] w' (Vc.Ret (.agg #[.int .i64 x19, .int .u64 x20]) w')) ∧
  ∃ (x21 : Int), ∃ (x22 : Int), ∃ (x23 : Int), (∀ w' : World, Below w.heap.size w w' → Calls Tryz.prog 95 #[.agg #[.int .i64 x13, .int .u64 x14], .agg #[.int .i64 x19, .int .u64 x20]] w' (Vc.Ret (.tuple #[.agg #[.int .i64 x21, .int .i64 x22], .int .i64 x23]) w')) ∧
  (.tuple #[.agg #[.int .i64 x21, .int .i64 x22], .int .i64 x23] : Value) = v)))) ∧ (¬ (b4 = true) → (
  ∃ (b5 : Bool), (∀ w' : World, Below w.heap.size w w' → Calls Tryz.prog 94 #[.agg #[.int .i64 x7, .int .u64 x8], .agg #[.int .i64 x11, .int .u64 x12]] w' (Vc.Ret (.bool b5) w')) ∧
  ((b5 = true) → (
  ∃ (x13 : Int), ∃ (x14 : Int), (∀ w' : World, Below w.heap.size w w' → Calls Tryz.prog 130 #[.agg #[.int .i64 x7, .int .u64 x8]] w' (Vc.Ret (.agg #[.int .i64 x13, .int .u64 x14]) w')) ∧
  ∃ (x15 : Int), ∃ (x16 : Int), (∀ w' : World, Below w.heap.size w w' → Calls Tryz.prog 131 #[.agg #[.int .i64 x11, .int .u64 x12]] w' (Vc.Ret (.agg #[.int .i64 x15, .int .u64 x16]) w')) ∧
  ∃ (x17 : Int), ∃ (x18 : Int), (∀ w' : World, Below w.heap.size w w' → Calls Tryz.prog 130 #[.agg #[.int .i64 x15, .int .u64 x16]] w' (Vc.Ret (.agg #[.int .i64 x17, .int .u64 x18]) w')) ∧
  ∃ (x19 : Int), ∃ (x20 : Int), (∀ w' : World, Below w.heap.size w w' → Calls Tryz.prog 131 #[.agg #[.int .i64 x17, .int .u64 x18]] w' (Vc.Ret (.agg #[.int .i64 x19, .int .u64 x20]) w')) ∧
  ∃ (x21 : Int), ∃ (x22 : Int), ∃ (x23 : Int), (∀ w' : World, Below w.heap.size w w' → Calls Tryz.prog 95 #[.agg #[.int .i64 x13, .int .u64 x14], .agg #[.int .i64 x19, .int .u64 x20]] w' (Vc.Ret (.tuple #[.agg #[.int .i64 x21, .int .i64 x22], .int .i64 x23]) w')) ∧
  (.tuple #[.agg #[.int .i64 x21, .int .i64 x22], .int .i64 x23] : Value) = v)) ∧ (¬ (b5 = true) → (
  ∃ (x13 : Int), ∃ (x14 : Int), (∀ w' : World, Below w.heap.size w w' → Calls Tryz.prog 130 #[.agg #[.int .i64 x7, .int .u64 x8]] w' (Vc.Ret (.agg #[.int .i64 x13, .int .u64 x14]) w')) ∧
  ∃ (x15 : Int), ∃ (x16 : Int), (∀ w' : World, Below w.heap.size w w' → Calls Tryz.prog 131 #[.agg #[.int .i64 x7, .int .u64 x8]] w' (Vc.Ret (.agg #[.int .i64 x15, .int .u64 x16]) w')) ∧
  ∃ (x17 : Int), ∃ (x18 : Int), (∀ w' : World, Below w.heap.size w w' → Calls Tryz.prog 130 #[.agg #[.int .i64 x15, .int .u64 x16]] w' (Vc.Ret (.agg #[.int .i64 x17, .int .u64 x18]) w')) ∧
  ∃ (x19 : Int), ∃ (x20 : Int), (∀ w' : World, Below w.heap.size w w' → Calls Tryz.prog 131 #[.agg #[.int .i64 x17, .int .u64 x18]] w' (Vc.Ret (.agg #[.int .i64 x19, .int .u64 x20]) w')) ∧
  ∃ (x21 : Int), ∃ (x22 : Int), ∃ (x23 : Int), (∀ w' : World, Below w.heap.size w w' → Calls Tryz.prog 95 #[.agg #[.int .i64 x13, .int .u64 x14], .agg #[.int .i64 x19, .int .u64 x20]] w' (Vc.Ret (.tuple #[.agg #[.int .i64 x21, .int .i64 x22], .int .i64 x23]) w')) ∧
  (.tuple #[.agg #[.int .i64 x21, .int .i64 x22], .int .i64 x23] : Value) = v)))))))))) ∧ (¬ (b1 = true) → (
  ∃ (x9 : Int), ∃ (x10 : Int), (∀ w' : World, Below w.heap.size w w' → Calls Tryz.prog 93 #[.int .i64 x1, .int .i64 x2] w' (Vc.Ret (.agg #[.int .i64 x9, .int .u64 x10]) w')) ∧
  ∃ (b2 : Bool), (∀ w' : World, Below w.heap.size w w' → Calls Tryz.prog 94 #[.agg #[.int .i64 x9, .int .u64 x10], .agg #[.int .i64 x7, .int .u64 x8]] w' (Vc.Ret (.bool b2) w')) ∧
  ((b2 = true) → (
  ∃ (b3 : Bool), (∀ w' : World, Below w.heap.size w w' → Calls Tryz.prog 94 #[.agg #[.int .i64 x5, .int .u64 x6], .agg #[.int .i64 x9, .int .u64 x10]] w' (Vc.Ret (.bool b3) w')) ∧
  ((b3 = true) → (
  ∃ (x11 : Int), ∃ (x12 : Int), (∀ w' : World, Below w.heap.size w w' → Calls Tryz.prog 93 #[.int .i64 x1, .int .i64 x3] w' (Vc.Ret (.agg #[.int .i64 x11, .int .u64 x12]) w')) ∧
  ∃ (b4 : Bool), (∀ w' : World, Below w.heap.size w w' → Calls Tryz.prog 94 #[.agg #[.int .i64 x11, .int .u64 x12], .agg #[.int .i64 x9, .int .u64 x10]] w' (Vc.Ret (.bool b4) w')) ∧
  ((b4 = true) → (
  ∃ (b5 : Bool), (∀ w' : World, Below w.heap.size w w' → Calls Tryz.prog 94 #[.agg #[.int .i64 x9, .int .u64 x10], .agg #[.int .i64 x11, .int .u64 x12]] w' (Vc.Ret (.bool b5) w')) ∧
  ((b5 = true) → (
  ∃ (x13 : Int), ∃ (x14 : Int), (∀ w' : World, Below w.heap.size w w' → Calls Tryz.prog 130 #[.agg #[.int .i64 x11, .int .u64 x12]] w' (Vc.Ret (.agg #[.int .i64 x13, .int .u64 x14]) w')) ∧
  ∃ (x15 : Int), ∃ (x16 : Int), (∀ w' : World, Below w.heap.size w w' → Calls Tryz.prog 131 #[.agg #[.int .i64 x11, .int .u64 x12]] w' (Vc.Ret (.agg #[.int .i64 x15, .int .u64 x16]) w')) ∧
  ∃ (x17 : Int), ∃ (x18 : Int), (∀ w' : World, Below w.heap.size w w' → Calls Tryz.prog 130 #[.agg #[.int .i64 x15, .int .u64 x16]] w' (Vc.Ret (.agg #[.int .i64 x17, .int .u64 x18]) w')) ∧
  ∃ (x19 : Int), ∃ (x20 : Int), (∀ w' : World, Below w.heap.size w w' → Calls Tryz.prog 131 #[.agg #[.int .i64 x17, .int .u64 x18]] w' (Vc.Ret (.agg #[.int .i64 x19, .int .u64 x20]) w')) ∧
  ∃ (x21 : Int), ∃ (x22 : Int), ∃ (x23 : Int), (∀ w' : World, Below w.heap.size w w' → Calls Tryz.prog 95 #[.agg #[.int .i64 x13, .int .u64 x14], .agg #[.int .i64 x19, .int .u64 x20]] w' (Vc.Ret (.tuple #[.agg #[.int .i64 x21, .int .i64 x22], .int .i64 x23]) w')) ∧
  (.tuple #[.agg #[.int .i64 x21, .int .i64 x22], .int .i64 x23] : Value) = v)) ∧ (¬ (b5 = true) → (
  ∃ (x13 : Int), ∃ (x14 : Int), (∀ w' : World, Below w.heap.size w w' → Calls Tryz.prog 130 #[.agg #[.int .i64 x11, .int .u64 x12]] w' (Vc.Ret (.agg #[.int .i64 x13, .int .u64 x14]) w')) ∧
  ∃ (x15 : Int), ∃ (x16 : Int), (∀ w' : World, Below w.heap.size w w' → Calls Tryz.prog 131 #[.agg #[.int .i64 x9, .int .u64 x10]] w' (Vc.Ret (.agg #[.int .i64 x15, .int .u64 x16]) w')) ∧
  ∃ (x17 : Int), ∃ (x18 : Int), (∀ w' : World, Below w.heap.size w w' → Calls Tryz.prog 130 #[.agg #[.int .i64 x15, .int .u64 x16]] w' (Vc.Ret (.agg #[.int .i64 x17, .int .u64 x18]) w')) ∧
  ∃ (x19 : Int), ∃ (x20 : Int), (∀ w' : World, Below w.heap.size w w' → Calls Tryz.prog 131 #[.agg #[.int .i64 x17, .int .u64 x18]] w' (Vc.Ret (.agg #[.int .i64 x19, .int .u64 x20]) w')) ∧
  ∃ (x21 : Int), ∃ (x22 : Int), ∃ (x23 : Int), (∀ w' : World, Below w.heap.size w w' → Calls Tryz.prog 95 #[.agg #[.int .i64 x13, .int .u64 x14], .agg #[.int .i64 x19, .int .u64 x20]] w' (Vc.Ret (.tuple #[.agg #[.int .i64 x21, .int .i64 x22], .int .i64 x23]) w')) ∧
  (.tuple #[.agg #[.int .i64 x21, .int .i64 x22], .int .i64 x23] : Value) = v)))) ∧ (¬ (b4 = true) → (
  ∃ (b5 : Bool), (∀ w' : World, Below w.heap.size w w' → Calls Tryz.prog 94 #[.agg #[.int .i64 x9, .int .u64 x10], .agg #[.int .i64 x11, .int .u64 x12]] w' (Vc.Ret (.bool b5) w')) ∧
  ((b5 = true) → (
  ∃ (x13 : Int), ∃ (x14 : Int), (∀ w' : World, Below w.heap.size w w' → Calls Tryz.prog 130 #[.agg #[.int .i64 x9, .int .u64 x10]] w' (Vc.Ret (.agg #[.int .i64 x13, .int .u64 x14]) w')) ∧
  ∃ (x15 : Int), ∃ (x16 : Int), (∀ w' : World, Below w.heap.size w w' → Calls Tryz.prog 131 #[.agg #[.int .i64 x11, .int .u64 x12]] w' (Vc.Ret (.agg #[.int .i64 x15, .int .u64 x16]) w')) ∧
  ∃ (x17 : Int), ∃ (x18 : Int), (∀ w' : World, Below w.heap.size w w' → Calls Tryz.prog 130 #[.agg #[.int .i64 x15, .int .u64 x16]] w' (Vc.Ret (.agg #[.int .i64 x17, .int .u64 x18]) w')) ∧
  ∃ (x19 : Int), ∃ (x20 : Int), (∀ w' : World, Below w.heap.size w w' → Calls Tryz.prog 131 #[.agg #[.int .i64 x17, .int .u64 x18]] w' (Vc.Ret (.agg #[.int .i64 x19, .int .u64 x20]) w')) ∧
  ∃ (x21 : Int), ∃ (x22 : Int), ∃ (x23 : Int), (∀ w' : World, Below w.heap.size w w' → Calls Tryz.prog 95 #[.agg #[.int .i64 x13, .int .u64 x14], .agg #[.int .i64 x19, .int .u64 x20]] w' (Vc.Ret (.tuple #[.agg #[.int .i64 x21, .int .i64 x22], .int .i64 x23]) w')) ∧
  (.tuple #[.agg #[.int .i64 x21, .int .i64 x22], .int .i64 x23] : Value) = v)) ∧ (¬ (b5 = true) → (
  ∃ (x13 : Int), ∃ (x14 : Int), (∀ w' : World, Below w.heap.size w w' → Calls Tryz.prog 130 #[.agg #[.int .i64 x9, .int .u64 x10]] w' (Vc.Ret (.agg #[.int .i64 x13, .int .u64 x14]) w')) ∧
  ∃ (x15 : Int), ∃ (x16 : Int), (∀ w' : World, Below w.heap.size w w' → Calls Tryz.prog 131 #[.agg #[.int .i64 x9, .int .u64 x10]] w' (Vc.Ret (.agg #[.int .i64 x15, .int .u64 x16]) w')) ∧
  ∃ (x17 : Int), ∃ (x18 : Int), (∀ w' : World, Below w.heap.size w w' → Calls Tryz.prog 130 #[.agg #[.int .i64 x15, .int .u64 x16]] w' (Vc.Ret (.agg #[.int .i64 x17, .int .u64 x18]) w')) ∧
  ∃ (x19 : Int), ∃ (x20 : Int), (∀ w' : World, Below w.heap.size w w' → Calls Tryz.prog 131 #[.agg #[.int .i64 x17, .int .u64 x18]] w' (Vc.Ret (.agg #[.int .i64 x19, .int .u64 x20]) w')) ∧
  ∃ (x21 : Int), ∃ (x22 : Int), ∃ (x23 : Int), (∀ w' : World, Below w.heap.size w w' → Calls Tryz.prog 95 #[.agg #[.int .i64 x13, .int .u64 x14], .agg #[.int .i64 x19, .int .u64 x20]] w' (Vc.Ret (.tuple #[.agg #[.int .i64 x21, .int .i64 x22], .int .i64 x23]) w')) ∧
  (.tuple #[.agg #[.int .i64 x21, .int .i64 x22], .int .i64 x23] : Value) = v)))))) ∧ (¬ (b3 = true) → (
  ∃ (x11 : Int), ∃ (x12 : Int), (∀ w' : World, Below w.heap.size w w' → Calls Tryz.prog 93 #[.int .i64 x1, .int .i64 x3] w' (Vc.Ret (.agg #[.int .i64 x11, .int .u64 x12]) w')) ∧
  ∃ (b4 : Bool), (∀ w' : World, Below w.heap.size w w' → Calls Tryz.prog 94 #[.agg #[.int .i64 x11, .int .u64 x12], .agg #[.int .i64 x9, .int .u64 x10]] w' (Vc.Ret (.bool b4) w')) ∧
  ((b4 = true) → (
  ∃ (b5 : Bool), (∀ w' : World, Below w.heap.size w w' → Calls Tryz.prog 94 #[.agg #[.int .i64 x5, .int .u64 x6], .agg #[.int .i64 x11, .int .u64 x12]] w' (Vc.Ret (.bool b5) w')) ∧
  ((b5 = true) → (
  ∃ (x13 : Int), ∃ (x14 : Int), (∀ w' : World, Below w.heap.size w w' → Calls Tryz.prog 130 #[.agg #[.int .i64 x11, .int .u64 x12]] w' (Vc.Ret (.agg #[.int .i64 x13, .int .u64 x14]) w')) ∧
  ∃ (x15 : Int), ∃ (x16 : Int), (∀ w' : World, Below w.heap.size w w' → Calls Tryz.prog 131 #[.agg #[.int .i64 x11, .int .u64 x12]] w' (Vc.Ret (.agg #[.int .i64 x15, .int .u64 x16]) w')) ∧
  ∃ (x17 : Int), ∃ (x18 : Int), (∀ w' : World, Below w.heap.size w w' → Calls Tryz.prog 130 #[.agg #[.int .i64 x15, .int .u64 x16]] w' (Vc.Ret (.agg #[.int .i64 x17, .int .u64 x18]) w')) ∧
  ∃ (x19 : Int), ∃ (x20 : Int), (∀ w' : World, Below w.heap.size w w' → Calls Tryz.prog 131 #[.agg #[.int .i64 x17, .int .u64 x18]] w' (Vc.Ret (.agg #[.int .i64 x19, .int .u64 x20]) w')) ∧
  ∃ (x21 : Int), ∃ (x22 : Int), ∃ (x23 : Int), (∀ w' : World, Below w.heap.size w w' → Calls Tryz.prog 95 #[.agg #[.int .i64 x13, .int .u64 x14], .agg #[.int .i64 x19, .int .u64 x20]] w' (Vc.Ret (.tuple #[.agg #[.int .i64 x21, .int .i64 x22], .int .i64 x23]) w')) ∧
  (.tuple #[.agg #[.int .i64 x21, .int .i64 x22], .int .i64 x23] : Value) = v)) ∧ (¬ (b5 = true) → (
  ∃ (x13 : Int), ∃ (x14 : Int), (∀ w' : World, Below w.heap.size w w' → Calls Tryz.prog 130 #[.agg #[.int .i64 x11, .int .u64 x12]] w' (Vc.Ret (.agg #[.int .i64 x13, .int .u64 x14]) w')) ∧
  ∃ (x15 : Int), ∃ (x16 : Int), (∀ w' : World, Below w.heap.size w w' → Calls Tryz.prog 131 #[.agg #[.int .i64 x5, .int .u64 x6]] w' (Vc.Ret (.agg #[.int .i64 x15, .int .u64 x16]) w')) ∧
  ∃ (x17 : Int), ∃ (x18 : Int), (∀ w' : World, Below w.heap.size w w' → Calls Tryz.prog 130 #[.agg #[.int .i64 x15, .int .u64 x16]] w' (Vc.Ret (.agg #[.int .i64 x17, .int .u64 x18]) w')) ∧
  ∃ (x19 : Int), ∃ (x20 : Int), (∀ w' : World, Below w.heap.size w w' → Calls Tryz.prog 131 #[.agg #[.int .i64 x17, .int .u64 x18]] w' (Vc.Ret (.agg #[.int .i64 x19, .int .u64 x20]) w')) ∧
  ∃ (x21 : Int), ∃ (x22 : Int), ∃ (x23 : Int), (∀ w' : World, Below w.heap.size w w' → Calls Tryz.prog 95 #[.agg #[.int .i64 x13, .int .u64 x14], .agg #[.int .i64 x19, .int .u64 x20]] w' (Vc.Ret (.tuple #[.agg #[.int .i64 x21, .int .i64 x22], .int .i64 x23]) w')) ∧
  (.tuple #[.agg #[.int .i64 x21, .int .i64 x22], .int .i64 x23] : Value) = v)))) ∧ (¬ (b4 = true) → (
  ∃ (b5 : Bool), (∀ w' : World, Below w.heap.size w w' → Calls Tryz.prog 94 #[.agg #[.int .i64 x5, .int .u64 x6], .agg #[.int .i64 x11, .int .u64 x12]] w' (Vc.Ret (.bool b5) w')) ∧
  ((b5 = true) → (
  ∃ (x13 : Int), ∃ (x14 : Int), (∀ w' : World, Below w.heap.size w w' → Calls Tryz.prog 130 #[.agg #[.int .i64 x9, .int .u64 x10]] w' (Vc.Ret (.agg #[.int .i64 x13, .int .u64 x14]) w')) ∧
  ∃ (x15 : Int), ∃ (x16 : Int), (∀ w' : World, Below w.heap.size w w' → Calls Tryz.prog 131 #[.agg #[.int .i64 x11, .int .u64 x12]] w' (Vc.Ret (.agg #[.int .i64 x15, .int .u64 x16]) w')) ∧
  ∃ (x17 : Int), ∃ (x18 : Int), (∀ w' : World, Below w.heap.size w w' → Calls Tryz.prog 130 #[.agg #[.int .i64 x15, .int .u64 x16]] w' (Vc.Ret (.agg #[.int .i64 x17, .int .u64 x18]) w')) ∧
  ∃ (x19 : Int), ∃ (x20 : Int), (∀ w' : World, Below w.heap.size w w' → Calls Tryz.prog 131 #[.agg #[.int .i64 x17, .int .u64 x18]] w' (Vc.Ret (.agg #[.int .i64 x19, .int .u64 x20]) w')) ∧
  ∃ (x21 : Int), ∃ (x22 : Int), ∃ (x23 : Int), (∀ w' : World, Below w.heap.size w w' → Calls Tryz.prog 95 #[.agg #[.int .i64 x13, .int .u64 x14], .agg #[.int .i64 x19, .int .u64 x20]] w' (Vc.Ret (.tuple #[.agg #[.int .i64 x21, .int .i64 x22], .int .i64 x23]) w')) ∧
  (.tuple #[.agg #[.int .i64 x21, .int .i64 x22], .int .i64 x23] : Value) = v)) ∧ (¬ (b5 = true) → (
  ∃ (x13 : Int), ∃ (x14 : Int), (∀ w' : World, Below w.heap.size w w' → Calls Tryz.prog 130 #[.agg #[.int .i64 x9, .int .u64 x10]] w' (Vc.Ret (.agg #[.int .i64 x13, .int .u64 x14]) w')) ∧
  ∃ (x15 : Int), ∃ (x16 : Int), (∀ w' : World, Below w.heap.size w w' → Calls Tryz.prog 131 #[.agg #[.int .i64 x5, .int .u64 x6]] w' (Vc.Ret (.agg #[.int .i64 x15, .int .u64 x16]) w')) ∧
  ∃ (x17 : Int), ∃ (x18 : Int), (∀ w' : World, Below w.heap.size w w' → Calls Tryz.prog 130 #[.agg #[.int .i64 x15, .int .u64 x16]] w' (Vc.Ret (.agg #[.int .i64 x17, .int .u64 x18]) w')) ∧
  ∃ (x19 : Int), ∃ (x20 : Int), (∀ w' : World, Below w.heap.size w w' → Calls Tryz.prog 131 #[.agg #[.int .i64 x17, .int .u64 x18]] w' (Vc.Ret (.agg #[.int .i64 x19, .int .u64 x20]) w')) ∧
  ∃ (x21 : Int), ∃ (x22 : Int), ∃ (x23 : Int), (∀ w' : World, Below w.heap.size w w' → Calls Tryz.prog 95 #[.agg #[.int .i64 x13, .int .u64 x14], .agg #[.int .i64 x19, .int .u64 x20]] w' (Vc.Ret (.tuple #[.agg #[.int .i64 x21, .int .i64 x22], .int .i64 x23]) w')) ∧
  (.tuple #[.agg #[.int .i64 x21, .int .i64 x22], .int .i64 x23] : Value) = v)))))))) ∧ (¬ (b2 = true) → (
  ∃ (b3 : Bool), (∀ w' : World, Below w.heap.size w w' → Calls Tryz.prog 94 #[.agg #[.int .i64 x5, .int .u64 x6], .agg #[.int .i64 x9, .int .u64 x10]] w' (Vc.Ret (.bool b3) w')) ∧
  ((b3 = true) → (
  ∃ (x11 : Int), ∃ (x12 : Int), (∀ w' : World, Below w.heap.size w w' → Calls Tryz.prog 93 #[.int .i64 x1, .int .i64 x3] w' (Vc.Ret (.agg #[.int .i64 x11, .int .u64 x12]) w')) ∧
  ∃ (b4 : Bool), (∀ w' : World, Below w.heap.size w w' → Calls Tryz.prog 94 #[.agg #[.int .i64 x11, .int .u64 x12], .agg #[.int .i64 x7, .int .u64 x8]] w' (Vc.Ret (.bool b4) w')) ∧
  ((b4 = true) → (
  ∃ (b5 : Bool), (∀ w' : World, Below w.heap.size w w' → Calls Tryz.prog 94 #[.agg #[.int .i64 x9, .int .u64 x10], .agg #[.int .i64 x11, .int .u64 x12]] w' (Vc.Ret (.bool b5) w')) ∧
  ((b5 = true) → (
  ∃ (x13 : Int), ∃ (x14 : Int), (∀ w' : World, Below w.heap.size w w' → Calls Tryz.prog 130 #[.agg #[.int .i64 x11, .int .u64 x12]] w' (Vc.Ret (.agg #[.int .i64 x13, .int .u64 x14]) w')) ∧
  ∃ (x15 : Int), ∃ (x16 : Int), (∀ w' : World, Below w.heap.size w w' → Calls Tryz.prog 131 #[.agg #[.int .i64 x11, .int .u64 x12]] w' (Vc.Ret (.agg #[.int .i64 x15, .int .u64 x16]) w')) ∧
  ∃ (x17 : Int), ∃ (x18 : Int), (∀ w' : World, Below w.heap.size w w' → Calls Tryz.prog 130 #[.agg #[.int .i64 x15, .int .u64 x16]] w' (Vc.Ret (.agg #[.int .i64 x17, .int .u64 x18]) w')) ∧
  ∃ (x19 : Int), ∃ (x20 : Int), (∀ w' : World, Below w.heap.size w w' → Calls Tryz.prog 131 #[.agg #[.int .i64 x17, .int .u64 x18]] w' (Vc.Ret (.agg #[.int .i64 x19, .int .u64 x20]) w')) ∧
  ∃ (x21 : Int), ∃ (x22 : Int), ∃ (x23 : Int), (∀ w' : World, Below w.heap.size w w' → Calls Tryz.prog 95 #[.agg #[.int .i64 x13, .int .u64 x14], .agg #[.int .i64 x19, .int .u64 x20]] w' (Vc.Ret (.tuple #[.agg #[.int .i64 x21, .int .i64 x22], .int .i64 x23]) w')) ∧
  (.tuple #[.agg #[.int .i64 x21, .int .i64 x22], .int .i64 x23] : Value) = v)) ∧ (¬ (b5 = true) → (
  ∃ (x13 : Int), ∃ (x14 : Int), (∀ w' : World, Below w.heap.size w w' → Calls Tryz.prog 130 #[.agg #[.int .i64 x11, .int .u64 x12]] w' (Vc.Ret (.agg #[.int .i64 x13, .int .u64 x14]) w')) ∧
  ∃ (x15 : Int), ∃ (x16 : Int), (∀ w' : World, Below w.heap.size w w' → Calls Tryz.prog 131 #[.agg #[.int .i64 x9, .int .u64 x10]] w' (Vc.Ret (.agg #[.int .i64 x15, .int .u64 x16]) w')) ∧
  ∃ (x17 : Int), ∃ (x18 : Int), (∀ w' : World, Below w.heap.size w w' → Calls Tryz.prog 130 #[.agg #[.int .i64 x15, .int .u64 x16]] w' (Vc.Ret (.agg #[.int .i64 x17, .int .u64 x18]) w')) ∧
  ∃ (x19 : Int), ∃ (x20 : Int), (∀ w' : World, Below w.heap.size w w' → Calls Tryz.prog 131 #[.agg #[.int .i64 x17, .int .u64 x18]] w' (Vc.Ret (.agg #[.int .i64 x19, .int .u64 x20]) w')) ∧
  ∃ (x21 : Int), ∃ (x22 : Int), ∃ (x23 : Int), (∀ w' : World, Below w.heap.size w w' → Calls Tryz.prog 95 #[.agg #[.int .i64 x13, .int .u64 x14], .agg #[.int .i64 x19, .int .u64 x20]] w' (Vc.Ret (.tuple #[.agg #[.int .i64 x21, .int .i64 x22], .int .i64 x23]) w')) ∧
  (.tuple #[.agg #[.int .i64 x21, .int .i64 x22], .int .i64 x23] : Value) = v)))) ∧ (¬ (b4 = true) → (
  ∃ (b5 : Bool), (∀ w' : World, Below w.heap.size w w' → Calls Tryz.prog 94 #[.agg #[.int .i64 x9, .int .u64 x10], .agg #[.int .i64 x11, .int .u64 x12]] w' (Vc.Ret (.bool b5) w')) ∧
  ((b5 = true) → (
  ∃ (x13 : Int), ∃ (x14 : Int), (∀ w' : World, Below w.heap.size w w' → Calls Tryz.prog 130 #[.agg #[.int .i64 x7, .int .u64 x8]] w' (Vc.Ret (.agg #[.int .i64 x13, .int .u64 x14]) w')) ∧
  ∃ (x15 : Int), ∃ (x16 : Int), (∀ w' : World, Below w.heap.size w w' → Calls Tryz.prog 131 #[.agg #[.int .i64 x11, .int .u64 x12]] w' (Vc.Ret (.agg #[.int .i64 x15, .int .u64 x16]) w')) ∧
  ∃ (x17 : Int), ∃ (x18 : Int), (∀ w' : World, Below w.heap.size w w' → Calls Tryz.prog 130 #[.agg #[.int .i64 x15, .int .u64 x16]] w' (Vc.Ret (.agg #[.int .i64 x17, .int .u64 x18]) w')) ∧
  ∃ (x19 : Int), ∃ (x20 : Int), (∀ w' : World, Below w.heap.size w w' → Calls Tryz.prog 131 #[.agg #[.int .i64 x17, .int .u64 x18]] w' (Vc.Ret (.agg #[.int .i64 x19, .int .u64 x20]) w')) ∧
  ∃ (x21 : Int), ∃ (x22 : Int), ∃ (x23 : Int), (∀ w' : World, Below w.heap.size w w' → Calls Tryz.prog 95 #[.agg #[.int .i64 x13, .int .u64 x14], .agg #[.int .i64 x19, .int .u64 x20]] w' (Vc.Ret (.tuple #[.agg #[.int .i64 x21, .int .i64 x22], .int .i64 x23]) w')) ∧
  (.tuple #[.agg #[.int .i64 x21, .int .i64 x22], .int .i64 x23] : Value) = v)) ∧ (¬ (b5 = true) → (
  ∃ (x13 : Int), ∃ (x14 : Int), (∀ w' : World, Below w.heap.size w w' → Calls Tryz.prog 130 #[.agg #[.int .i64 x7, .int .u64 x8]] w' (Vc.Ret (.agg #[.int .i64 x13, .int .u64 x14]) w')) ∧
  ∃ (x15 : Int), ∃ (x16 : Int), (∀ w' : World, Below w.heap.size w w' → Calls Tryz.prog 131 #[.agg #[.int .i64 x9, .int .u64 x10]] w' (Vc.Ret (.agg #[.int .i64 x15, .int .u64 x16]) w')) ∧
  ∃ (x17 : Int), ∃ (x18 : Int), (∀ w' : World, Below w.heap.size w w' → Calls Tryz.prog 130 #[.agg #[.int .i64 x15, .int .u64 x16]] w' (Vc.Ret (.agg #[.int .i64 x17, .int .u64 x18]) w')) ∧
  ∃ (x19 : Int), ∃ (x20 : Int), (∀ w' : World, Below w.heap.size w w' → Calls Tryz.prog 131 #[.agg #[.int .i64 x17, .int .u64 x18]] w' (Vc.Ret (.agg #[.int .i64 x19, .int .u64 x20]) w')) ∧
  ∃ (x21 : Int), ∃ (x22 : Int), ∃ (x23 : Int), (∀ w' : World, Below w.heap.size w w' → Calls Tryz.prog 95 #[.agg #[.int .i64 x13, .int .u64 x14], .agg #[.int .i64 x19, .int .u64 x20]] w' (Vc.Ret (.tuple #[.agg #[.int .i64 x21, .int .i64 x22], .int .i64 x23]) w')) ∧
  (.tuple #[.agg #[.int .i64 x21, .int .i64 x22], .int .i64 x23] : Value) = v)))))) ∧ (¬ (b3 = true) → (
  ∃ (x11 : Int), ∃ (x12 : Int), (∀ w' : World, Below w.heap.size w w' → Calls Tryz.prog 93 #[.int .i64 x1, .int .i64 x3] w' (Vc.Ret (.agg #[.int .i64 x11, .int .u64 x12]) w')) ∧
  ∃ (b4 : Bool), (∀ w' : World, Below w.heap.size w w' → Calls Tryz.prog 94 #[.agg #[.int .i64 x11, .int .u64 x12], .agg #[.int .i64 x7, .int .u64 x8]] w' (Vc.Ret (.bool b4) w')) ∧
  ((b4 = true) → (
  ∃ (b5 : Bool), (∀ w' : World, Below w.heap.size w w' → Calls Tryz.prog 94 #[.agg #[.int .i64 x5, .int .u64 x6], .agg #[.int .i64 x11, .int .u64 x12]] w' (Vc.Ret (.bool b5) w')) ∧
  ((b5 = true) → (
  ∃ (x13 : Int), ∃ (x14 : Int), (∀ w' : World, Below w.heap.size w w' → Calls Tryz.prog 130 #[.agg #[.int .i64 x11, .int .u64 x12]] w' (Vc.Ret (.agg #[.int .i64 x13, .int .u64 x14]) w')) ∧
  ∃ (x15 : Int), ∃ (x16 : Int), (∀ w' : World, Below w.heap.size w w' → Calls Tryz.prog 131 #[.agg #[.int .i64 x11, .int .u64 x12]] w' (Vc.Ret (.agg #[.int .i64 x15, .int .u64 x16]) w')) ∧
  ∃ (x17 : Int), ∃ (x18 : Int), (∀ w' : World, Below w.heap.size w w' → Calls Tryz.prog 130 #[.agg #[.int .i64 x15, .int .u64 x16]] w' (Vc.Ret (.agg #[.int .i64 x17, .int .u64 x18]) w')) ∧
  ∃ (x19 : Int), ∃ (x20 : Int), (∀ w' : World, Below w.heap.size w w' → Calls Tryz.prog 131 #[.agg #[.int .i64 x17, .int .u64 x18]] w' (Vc.Ret (.agg #[.int .i64 x19, .int .u64 x20]) w')) ∧
  ∃ (x21 : Int), ∃ (x22 : Int), ∃ (x23 : Int), (∀ w' : World, Below w.heap.size w w' → Calls Tryz.prog 95 #[.agg #[.int .i64 x13, .int .u64 x14], .agg #[.int .i64 x19, .int .u64 x20]] w' (Vc.Ret (.tuple #[.agg #[.int .i64 x21, .int .i64 x22], .int .i64 x23]) w')) ∧
  (.tuple #[.agg #[.int .i64 x21, .int .i64 x22], .int .i64 x23] : Value) = v)) ∧ (¬ (b5 = true) → (
  ∃ (x13 : Int), ∃ (x14 : Int), (∀ w' : World, Below w.heap.size w w' → Calls Tryz.prog 130 #[.agg #[.int .i64 x11, .int .u64 x12]] w' (Vc.Ret (.agg #[.int .i64 x13, .int .u64 x14]) w')) ∧
  ∃ (x15 : Int), ∃ (x16 : Int), (∀ w' : World, Below w.heap.size w w' → Calls Tryz.prog 131 #[.agg #[.int .i64 x5, .int .u64 x6]] w' (Vc.Ret (.agg #[.int .i64 x15, .int .u64 x16]) w')) ∧
  ∃ (x17 : Int), ∃ (x18 : Int), (∀ w' : World, Below w.heap.size w w' → Calls Tryz.prog 130 #[.agg #[.int .i64 x15, .int .u64 x16]] w' (Vc.Ret (.agg #[.int .i64 x17, .int .u64 x18]) w')) ∧
  ∃ (x19 : Int), ∃ (x20 : Int), (∀ w' : World, Below w.heap.size w w' → Calls Tryz.prog 131 #[.agg #[.int .i64 x17, .int .u64 x18]] w' (Vc.Ret (.agg #[.int .i64 x19, .int .u64 x20]) w')) ∧
  ∃ (x21 : Int), ∃ (x22 : Int), ∃ (x23 : Int), (∀ w' : World, Below w.heap.size w w' → Calls Tryz.prog 95 #[.agg #[.int .i64 x13, .int .u64 x14], .agg #[.int .i64 x19, .int .u64 x20]] w' (Vc.Ret (.tuple #[.agg #[.int .i64 x21, .int .i64 x22], .int .i64 x23]) w')) ∧
  (.tuple #[.agg #[.int .i64 x21, .int .i64 x22], .int .i64 x23] : Value) = v)))) ∧ (¬ (b4 = true) → (
  ∃ (b5 : Bool), (∀ w' : World, Below w.heap.size w w' → Calls Tryz.prog 94 #[.agg #[.int .i64 x5, .int .u64 x6], .agg #[.int .i64 x11, .int .u64 x12]] w' (Vc.Ret (.bool b5) w')) ∧
  ((b5 = true) → (
  ∃ (x13 : Int), ∃ (x14 : Int), (∀ w' : World, Below w.heap.size w w' → Calls Tryz.prog 130 #[.agg #[.int .i64 x7, .int .u64 x8]] w' (Vc.Ret (.agg #[.int .i64 x13, .int .u64 x14]) w')) ∧
  ∃ (x15 : Int), ∃ (x16 : Int), (∀ w' : World, Below w.heap.size w w' → Calls Tryz.prog 131 #[.agg #[.int .i64 x11, .int .u64 x12]] w' (Vc.Ret (.agg #[.int .i64 x15, .int .u64 x16]) w')) ∧
  ∃ (x17 : Int), ∃ (x18 : Int), (∀ w' : World, Below w.heap.size w w' → Calls Tryz.prog 130 #[.agg #[.int .i64 x15, .int .u64 x16]] w' (Vc.Ret (.agg #[.int .i64 x17, .int .u64 x18]) w')) ∧
  ∃ (x19 : Int), ∃ (x20 : Int), (∀ w' : World, Below w.heap.size w w' → Calls Tryz.prog 131 #[.agg #[.int .i64 x17, .int .u64 x18]] w' (Vc.Ret (.agg #[.int .i64 x19, .int .u64 x20]) w')) ∧
  ∃ (x21 : Int), ∃ (x22 : Int), ∃ (x23 : Int), (∀ w' : World, Below w.heap.size w w' → Calls Tryz.prog 95 #[.agg #[.int .i64 x13, .int .u64 x14], .agg #[.int .i64 x19, .int .u64 x20]] w' (Vc.Ret (.tuple #[.agg #[.int .i64 x21, .int .i64 x22], .int .i64 x23]) w')) ∧
  (.tuple #[.agg #[.int .i64 x21, .int .i64 x22], .int .i64 x23] : Value) = v)) ∧ (¬ (b5 = true) → (
  ∃ (x13 : Int), ∃ (x14 : Int), (∀ w' : World, Below w.heap.size w w' → Calls Tryz.prog 130 #[.agg #[.int .i64 x7, .int .u64 x8]] w' (Vc.Ret (.agg #[.int .i64 x13, .int .u64 x14]) w')) ∧
  ∃ (x15 : Int), ∃ (x16 : Int), (∀ w' : World, Below w.heap.size w w' → Calls Tryz.prog 131 #[.agg #[.int .i64 x5, .int .u64 x6]] w' (Vc.Ret (.agg #[.int .i64 x15, .int .u64 x16]) w')) ∧
  ∃ (x17 : Int), ∃ (x18 : Int), (∀ w' : World, Below w.heap.size w w' → Calls Tryz.prog 130 #[.agg #[.int .i64 x15, .int .u64 x16]] w' (Vc.Ret (.agg #[.int .i64 x17, .int .u64 x18]) w')) ∧
  ∃ (x19 : Int), ∃ (x20 : Int), (∀ w' : World, Below w.heap.size w w' → Calls Tryz.prog 131 #[.agg #[.int .i64 x17, .int .u64 x18]] w' (Vc.Ret (.agg #[.int .i64 x19, .int .u64 x20]) w')) ∧
  ∃ (x21 : Int), ∃ (x22 : Int), ∃ (x23 : Int), (∀ w' : World, Below w.heap.size w w' → Calls Tryz.prog 95 #[.agg #[.int .i64 x13, .int .u64 x14], .agg #[.int .i64 x19, .int .u64 x20]] w' (Vc.Ret (.tuple #[.agg #[.int .i64 x21, .int .i64 x22], .int .i64 x23]) w')) ∧
  (.tuple #[.agg #[.int .i64 x21, .int .i64 x22], .int .i64 x23] : Value) = v)))))))))))) ∧ (¬ (b0 = true) → (
  ∃ (b1 : Bool), (∀ w' : World, Below w.heap.size w w' → Calls Tryz.prog 94 #[.agg #[.int .i64 x5, .int .u64 x6], .agg #[.int .i64 x7, .int .u64 x8]] w' (Vc.Ret (.bool b1) w')) ∧
  ((b1 = true) → (
  ∃ (x9 : Int), ∃ (x10 : Int), (∀ w' : World, Below w.heap.size w w' → Calls Tryz.prog 93 #[.int .i64 x1, .int .i64 x2] w' (Vc.Ret (.agg #[.int .i64 x9, .int .u64 x10]) w')) ∧
  ∃ (b2 : Bool), (∀ w' : World, Below w.heap.size w w' → Calls Tryz.prog 94 #[.agg #[.int .i64 x9, .int .u64 x10], .agg #[.int .i64 x5, .int .u64 x6]] w' (Vc.Ret (.bool b2) w')) ∧
  ((b2 = true) → (
  ∃ (b3 : Bool), (∀ w' : World, Below w.heap.size w w' → Calls Tryz.prog 94 #[.agg #[.int .i64 x7, .int .u64 x8], .agg #[.int .i64 x9, .int .u64 x10]] w' (Vc.Ret (.bool b3) w')) ∧
  ((b3 = true) → (
  ∃ (x11 : Int), ∃ (x12 : Int), (∀ w' : World, Below w.heap.size w w' → Calls Tryz.prog 93 #[.int .i64 x1, .int .i64 x3] w' (Vc.Ret (.agg #[.int .i64 x11, .int .u64 x12]) w')) ∧
  ∃ (b4 : Bool), (∀ w' : World, Below w.heap.size w w' → Calls Tryz.prog 94 #[.agg #[.int .i64 x11, .int .u64 x12], .agg #[.int .i64 x9, .int .u64 x10]] w' (Vc.Ret (.bool b4) w')) ∧
  ((b4 = true) → (
  ∃ (b5 : Bool), (∀ w' : World, Below w.heap.size w w' → Calls Tryz.prog 94 #[.agg #[.int .i64 x9, .int .u64 x10], .agg #[.int .i64 x11, .int .u64 x12]] w' (Vc.Ret (.bool b5) w')) ∧
  ((b5 = true) → (
  ∃ (x13 : Int), ∃ (x14 : Int), (∀ w' : World, Below w.heap.size w w' → Calls Tryz.prog 130 #[.agg #[.int .i64 x11, .int .u64 x12]] w' (Vc.Ret (.agg #[.int .i64 x13, .int .u64 x14]) w')) ∧
  ∃ (x15 : Int), ∃ (x16 : Int), (∀ w' : World, Below w.heap.size w w' → Calls Tryz.prog 131 #[.agg #[.int .i64 x11, .int .u64 x12]] w' (Vc.Ret (.agg #[.int .i64 x15, .int .u64 x16]) w')) ∧
  ∃ (x17 : Int), ∃ (x18 : Int), (∀ w' : World, Below w.heap.size w w' → Calls Tryz.prog 130 #[.agg #[.int .i64 x15, .int .u64 x16]] w' (Vc.Ret (.agg #[.int .i64 x17, .int .u64 x18]) w')) ∧
  ∃ (x19 : Int), ∃ (x20 : Int), (∀ w' : World, Below w.heap.size w w' → Calls Tryz.prog 131 #[.agg #[.int .i64 x17, .int .u64 x18]] w' (Vc.Ret (.agg #[.int .i64 x19, .int .u64 x20]) w')) ∧
  ∃ (x21 : Int), ∃ (x22 : Int), ∃ (x23 : Int), (∀ w' : World, Below w.heap.size w w' → Calls Tryz.prog 95 #[.agg #[.int .i64 x13, .int .u64 x14], .agg #[.int .i64 x19, .int .u64 x20]] w' (Vc.Ret (.tuple #[.agg #[.int .i64 x21, .int .i64 x22], .int .i64 x23]) w')) ∧
  (.tuple #[.agg #[.int .i64 x21, .int .i64 x22], .int .i64 x23] : Value) = v)) ∧ (¬ (b5 = true) → (
  ∃ (x13 : Int), ∃ (x14 : Int), (∀ w' : World, Below w.heap.size w w' → Calls Tryz.prog 130 #[.agg #[.int .i64 x11, .int .u64 x12]] w' (Vc.Ret (.agg #[.int .i64 x13, .int .u64 x14]) w')) ∧
  ∃ (x15 : Int), ∃ (x16 : Int), (∀ w' : World, Below w.heap.size w w' → Calls Tryz.prog 131 #[.agg #[.int .i64 x9, .int .u64 x10]] w' (Vc.Ret (.agg #[.int .i64 x15, .int .u64 x16]) w')) ∧
  ∃ (x17 : Int), ∃ (x18 : Int), (∀ w' : World, Below w.heap.size w w' → Calls Tryz.prog 130 #[.agg #[.int .i64 x15, .int .u64 x16]] w' (Vc.Ret (.agg #[.int .i64 x17, .int .u64 x18]) w')) ∧
  ∃ (x19 : Int), ∃ (x20 : Int), (∀ w' : World, Below w.heap.size w w' → Calls Tryz.prog 131 #[.agg #[.int .i64 x17, .int .u64 x18]] w' (Vc.Ret (.agg #[.int .i64 x19, .int .u64 x20]) w')) ∧
  ∃ (x21 : Int), ∃ (x22 : Int), ∃ (x23 : Int), (∀ w' : World, Below w.heap.size w w' → Calls Tryz.prog 95 #[.agg #[.int .i64 x13, .int .u64 x14], .agg #[.int .i64 x19, .int .u64 x20]] w' (Vc.Ret (.tuple #[.agg #[.int .i64 x21, .int .i64 x22], .int .i64 x23]) w')) ∧
  (.tuple #[.agg #[.int .i64 x21, .int .i64 x22], .int .i64 x23] : Value) = v)))) ∧ (¬ (b4 = true) → (
  ∃ (b5 : Bool), (∀ w' : World, Below w.heap.size w w' → Calls Tryz.prog 94 #[.agg #[.int .i64 x9, .int .u64 x10], .agg #[.int .i64 x11, .int .u64 x12]] w' (Vc.Ret (.bool b5) w')) ∧
  ((b5 = true) → (
  ∃ (x13 : Int), ∃ (x14 : Int), (∀ w' : World, Below w.heap.size w w' → Calls Tryz.prog 130 #[.agg #[.int .i64 x9, .int .u64 x10]] w' (Vc.Ret (.agg #[.int .i64 x13, .int .u64 x14]) w')) ∧
  ∃ (x15 : Int), ∃ (x16 : Int), (∀ w' : World, Below w.heap.size w w' → Calls Tryz.prog 131 #[.agg #[.int .i64 x11, .int .u64 x12]] w' (Vc.Ret (.agg #[.int .i64 x15, .int .u64 x16]) w')) ∧
  ∃ (x17 : Int), ∃ (x18 : Int), (∀ w' : World, Below w.heap.size w w' → Calls Tryz.prog 130 #[.agg #[.int .i64 x15, .int .u64 x16]] w' (Vc.Ret (.agg #[.int .i64 x17, .int .u64 x18]) w')) ∧
  ∃ (x19 : Int), ∃ (x20 : Int), (∀ w' : World, Below w.heap.size w w' → Calls Tryz.prog 131 #[.agg #[.int .i64 x17, .int .u64 x18]] w' (Vc.Ret (.agg #[.int .i64 x19, .int .u64 x20]) w')) ∧
  ∃ (x21 : Int), ∃ (x22 : Int), ∃ (x23 : Int), (∀ w' : World, Below w.heap.size w w' → Calls Tryz.prog 95 #[.agg #[.int .i64 x13, .int .u64 x14], .agg #[.int .i64 x19, .int .u64 x20]] w' (Vc.Ret (.tuple #[.agg #[.int .i64 x21, .int .i64 x22], .int .i64 x23]) w')) ∧
  (.tuple #[.agg #[.int .i64 x21, .int .i64 x22], .int .i64 x23] : Value) = v)) ∧ (¬ (b5 = true) → (
  ∃ (x13 : Int), ∃ (x14 : Int), (∀ w' : World, Below w.heap.size w w' → Calls Tryz.prog 130 #[.agg #[.int .i64 x9, .int .u64 x10]] w' (Vc.Ret (.agg #[.int .i64 x13, .int .u64 x14]) w')) ∧
  ∃ (x15 : Int), ∃ (x16 : Int), (∀ w' : World, Below w.heap.size w w' → Calls Tryz.prog 131 #[.agg #[.int .i64 x9, .int .u64 x10]] w' (Vc.Ret (.agg #[.int .i64 x15, .int .u64 x16]) w')) ∧
  ∃ (x17 : Int), ∃ (x18 : Int), (∀ w' : World, Below w.heap.size w w' → Calls Tryz.prog 130 #[.agg #[.int .i64 x15, .int .u64 x16]] w' (Vc.Ret (.agg #[.int .i64 x17, .int .u64 x18]) w')) ∧
  ∃ (x19 : Int), ∃ (x20 : Int), (∀ w' : World, Below w.heap.size w w' → Calls Tryz.prog 131 #[.agg #[.int .i64 x17, .int .u64 x18]] w' (Vc.Ret (.agg #[.int .i64 x19, .int .u64 x20]) w')) ∧
  ∃ (x21 : Int), ∃ (x22 : Int), ∃ (x23 : Int), (∀ w' : World, Below w.heap.size w w' → Calls Tryz.prog 95 #[.agg #[.int .i64 x13, .int .u64 x14], .agg #[.int .i64 x19, .int .u64 x20]] w' (Vc.Ret (.tuple #[.agg #[.int .i64 x21, .int .i64 x22], .int .i64 x23]) w')) ∧
  (.tuple #[.agg #[.int .i64 x21, .int .i64 x22], .int .i64 x23] : Value) = v)))))) ∧ (¬ (b3 = true) → (
  ∃ (x11 : Int), ∃ (x12 : Int), (∀ w' : World, Below w.heap.size w w' → Calls Tryz.prog 93 #[.int .i64 x1, .int .i64 x3] w' (Vc.Ret (.agg #[.int .i64 x11, .int .u64 x12]) w')) ∧
  ∃ (b4 : Bool), (∀ w' : World, Below w.heap.size w w' → Calls Tryz.prog 94 #[.agg #[.int .i64 x11, .int .u64 x12], .agg #[.int .i64 x9, .int .u64 x10]] w' (Vc.Ret (.bool b4) w')) ∧
  ((b4 = true) → (
  ∃ (b5 : Bool), (∀ w' : World, Below w.heap.size w w' → Calls Tryz.prog 94 #[.agg #[.int .i64 x7, .int .u64 x8], .agg #[.int .i64 x11, .int .u64 x12]] w' (Vc.Ret (.bool b5) w')) ∧
  ((b5 = true) → (
  ∃ (x13 : Int), ∃ (x14 : Int), (∀ w' : World, Below w.heap.size w w' → Calls Tryz.prog 130 #[.agg #[.int .i64 x11, .int .u64 x12]] w' (Vc.Ret (.agg #[.int .i64 x13, .int .u64 x14]) w')) ∧
  ∃ (x15 : Int), ∃ (x16 : Int), (∀ w' : World, Below w.heap.size w w' → Calls Tryz.prog 131 #[.agg #[.int .i64 x11, .int .u64 x12]] w' (Vc.Ret (.agg #[.int .i64 x15, .int .u64 x16]) w')) ∧
  ∃ (x17 : Int), ∃ (x18 : Int), (∀ w' : World, Below w.heap.size w w' → Calls Tryz.prog 130 #[.agg #[.int .i64 x15, .int .u64 x16]] w' (Vc.Ret (.agg #[.int .i64 x17, .int .u64 x18]) w')) ∧
  ∃ (x19 : Int), ∃ (x20 : Int), (∀ w' : World, Below w.heap.size w w' → Calls Tryz.prog 131 #[.agg #[.int .i64 x17, .int .u64 x18]] w' (Vc.Ret (.agg #[.int .i64 x19, .int .u64 x20]) w')) ∧
  ∃ (x21 : Int), ∃ (x22 : Int), ∃ (x23 : Int), (∀ w' : World, Below w.heap.size w w' → Calls Tryz.prog 95 #[.agg #[.int .i64 x13, .int .u64 x14], .agg #[.int .i64 x19, .int .u64 x20]] w' (Vc.Ret (.tuple #[.agg #[.int .i64 x21, .int .i64 x22], .int .i64 x23]) w')) ∧
  (.tuple #[.agg #[.int .i64 x21, .int .i64 x22], .int .i64 x23] : Value) = v)) ∧ (¬ (b5 = true) → (
  ∃ (x13 : Int), ∃ (x14 : Int), (∀ w' : World, Below w.heap.size w w' → Calls Tryz.prog 130 #[.agg #[.int .i64 x11, .int .u64 x12]] w' (Vc.Ret (.agg #[.int .i64 x13, .int .u64 x14]) w')) ∧
  ∃ (x15 : Int), ∃ (x16 : Int), (∀ w' : World, Below w.heap.size w w' → Calls Tryz.prog 131 #[.agg #[.int .i64 x7, .int .u64 x8]] w' (Vc.Ret (.agg #[.int .i64 x15, .int .u64 x16]) w')) ∧
  ∃ (x17 : Int), ∃ (x18 : Int), (∀ w' : World, Below w.heap.size w w' → Calls Tryz.prog 130 #[.agg #[.int .i64 x15, .int .u64 x16]] w' (Vc.Ret (.agg #[.int .i64 x17, .int .u64 x18]) w')) ∧
  ∃ (x19 : Int), ∃ (x20 : Int), (∀ w' : World, Below w.heap.size w w' → Calls Tryz.prog 131 #[.agg #[.int .i64 x17, .int .u64 x18]] w' (Vc.Ret (.agg #[.int .i64 x19, .int .u64 x20]) w')) ∧
  ∃ (x21 : Int), ∃ (x22 : Int), ∃ (x23 : Int), (∀ w' : World, Below w.heap.size w w' → Calls Tryz.prog 95 #[.agg #[.int .i64 x13, .int .u64 x14], .agg #[.int .i64 x19, .int .u64 x20]] w' (Vc.Ret (.tuple #[.agg #[.int .i64 x21, .int .i64 x22], .int .i64 x23]) w')) ∧
  (.tuple #[.agg #[.int .i64 x21, .int .i64 x22], .int .i64 x23] : Value) = v)))) ∧ (¬ (b4 = true) → (
  ∃ (b5 : Bool), (∀ w' : World, Below w.heap.size w w' → Calls Tryz.prog 94 #[.agg #[.int .i64 x7, .int .u64 x8], .agg #[.int .i64 x11, .int .u64 x12]] w' (Vc.Ret (.bool b5) w')) ∧
  ((b5 = true) → (
  ∃ (x13 : Int), ∃ (x14 : Int), (∀ w' : World, Below w.heap.size w w' → Calls Tryz.prog 130 #[.agg #[.int .i64 x9, .int .u64 x10]] w' (Vc.Ret (.agg #[.int .i64 x13, .int .u64 x14]) w')) ∧
  ∃ (x15 : Int), ∃ (x16 : Int), (∀ w' : World, Below w.heap.size w w' → Calls Tryz.prog 131 #[.agg #[.int .i64 x11, .int .u64 x12]] w' (Vc.Ret (.agg #[.int .i64 x15, .int .u64 x16]) w')) ∧
  ∃ (x17 : Int), ∃ (x18 : Int), (∀ w' : World, Below w.heap.size w w' → Calls Tryz.prog 130 #[.agg #[.int .i64 x15, .int .u64 x16]] w' (Vc.Ret (.agg #[.int .i64 x17, .int .u64 x18]) w')) ∧
  ∃ (x19 : Int), ∃ (x20 : Int), (∀ w' : World, Below w.heap.size w w' → Calls Tryz.prog 131 #[.agg #[.int .i64 x17, .int .u64 x18]] w' (Vc.Ret (.agg #[.int .i64 x19, .int .u64 x20]) w')) ∧
  ∃ (x21 : Int), ∃ (x22 : Int), ∃ (x23 : Int), (∀ w' : World, Below w.heap.size w w' → Calls Tryz.prog 95 #[.agg #[.int .i64 x13, .int .u64 x14], .agg #[.int .i64 x19, .int .u64 x20]] w' (Vc.Ret (.tuple #[.agg #[.int .i64 x21, .int .i64 x22], .int .i64 x23]) w')) ∧
  (.tuple #[.agg #[.int .i64 x21, .int .i64 x22], .int .i64 x23] : Value) = v)) ∧ (¬ (b5 = true) → (
  ∃ (x13 : Int), ∃ (x14 : Int), (∀ w' : World, Below w.heap.size w w' → Calls Tryz.prog 130 #[.agg #[.int .i64 x9, .int .u64 x10]] w' (Vc.Ret (.agg #[.int .i64 x13, .int .u64 x14]) w')) ∧
  ∃ (x15 : Int), ∃ (x16 : Int), (∀ w' : World, Below w.heap.size w w' → Calls Tryz.prog 131 #[.agg #[.int .i64 x7, .int .u64 x8]] w' (Vc.Ret (.agg #[.int .i64 x15, .int .u64 x16]) w')) ∧
  ∃ (x17 : Int), ∃ (x18 : Int), (∀ w' : World, Below w.heap.size w w' → Calls Tryz.prog 130 #[.agg #[.int .i64 x15, .int .u64 x16]] w' (Vc.Ret (.agg #[.int .i64 x17, .int .u64 x18]) w')) ∧
  ∃ (x19 : Int), ∃ (x20 : Int), (∀ w' : World, Below w.heap.size w w' → Calls Tryz.prog 131 #[.agg #[.int .i64 x17, .int .u64 x18]] w' (Vc.Ret (.agg #[.int .i64 x19, .int .u64 x20]) w')) ∧
  ∃ (x21 : Int), ∃ (x22 : Int), ∃ (x23 : Int), (∀ w' : World, Below w.heap.size w w' → Calls Tryz.prog 95 #[.agg #[.int .i64 x13, .int .u64 x14], .agg #[.int .i64 x19, .int .u64 x20]] w' (Vc.Ret (.tuple #[.agg #[.int .i64 x21, .int .i64 x22], .int .i64 x23]) w')) ∧
  (.tuple #[.agg #[.int .i64 x21, .int .i64 x22], .int .i64 x23] : Value) = v)))))))) ∧ (¬ (b2 = true) → (
  ∃ (b3 : Bool), (∀ w' : World, Below w.heap.size w w' → Calls Tryz.prog 94 #[.agg #[.int .i64 x7, .int .u64 x8], .agg #[.int .i64 x9, .int .u64 x10]] w' (Vc.Ret (.bool b3) w')) ∧
  ((b3 = true) → (
  ∃ (x11 : Int), ∃ (x12 : Int), (∀ w' : World, Below w.heap.size w w' → Calls Tryz.prog 93 #[.int .i64 x1, .int .i64 x3] w' (Vc.Ret (.agg #[.int .i64 x11, .int .u64 x12]) w')) ∧
  ∃ (b4 : Bool), (∀ w' : World, Below w.heap.size w w' → Calls Tryz.prog 94 #[.agg #[.int .i64 x11, .int .u64 x12], .agg #[.int .i64 x5, .int .u64 x6]] w' (Vc.Ret (.bool b4) w')) ∧
  ((b4 = true) → (
  ∃ (b5 : Bool), (∀ w' : World, Below w.heap.size w w' → Calls Tryz.prog 94 #[.agg #[.int .i64 x9, .int .u64 x10], .agg #[.int .i64 x11, .int .u64 x12]] w' (Vc.Ret (.bool b5) w')) ∧
  ((b5 = true) → (
  ∃ (x13 : Int), ∃ (x14 : Int), (∀ w' : World, Below w.heap.size w w' → Calls Tryz.prog 130 #[.agg #[.int .i64 x11, .int .u64 x12]] w' (Vc.Ret (.agg #[.int .i64 x13, .int .u64 x14]) w')) ∧
  ∃ (x15 : Int), ∃ (x16 : Int), (∀ w' : World, Below w.heap.size w w' → Calls Tryz.prog 131 #[.agg #[.int .i64 x11, .int .u64 x12]] w' (Vc.Ret (.agg #[.int .i64 x15, .int .u64 x16]) w')) ∧
  ∃ (x17 : Int), ∃ (x18 : Int), (∀ w' : World, Below w.heap.size w w' → Calls Tryz.prog 130 #[.agg #[.int .i64 x15, .int .u64 x16]] w' (Vc.Ret (.agg #[.int .i64 x17, .int .u64 x18]) w')) ∧
  ∃ (x19 : Int), ∃ (x20 : Int), (∀ w' : World, Below w.heap.size w w' → Calls Tryz.prog 131 #[.agg #[.int .i64 x17, .int .u64 x18]] w' (Vc.Ret (.agg #[.int .i64 x19, .int .u64 x20]) w')) ∧
  ∃ (x21 : Int), ∃ (x22 : Int), ∃ (x23 : Int), (∀ w' : World, Below w.heap.size w w' → Calls Tryz.prog 95 #[.agg #[.int .i64 x13, .int .u64 x14], .agg #[.int .i64 x19, .int .u64 x20]] w' (Vc.Ret (.tuple #[.agg #[.int .i64 x21, .int .i64 x22], .int .i64 x23]) w')) ∧
  (.tuple #[.agg #[.int .i64 x21, .int .i64 x22], .int .i64 x23] : Value) = v)) ∧ (¬ (b5 = true) → (
  ∃ (x13 : Int), ∃ (x14 : Int), (∀ w' : World, Below w.heap.size w w' → Calls Tryz.prog 130 #[.agg #[.int .i64 x11, .int .u64 x12]] w' (Vc.Ret (.agg #[.int .i64 x13, .int .u64 x14]) w')) ∧
  ∃ (x15 : Int), ∃ (x16 : Int), (∀ w' : World, Below w.heap.size w w' → Calls Tryz.prog 131 #[.agg #[.int .i64 x9, .int .u64 x10]] w' (Vc.Ret (.agg #[.int .i64 x15, .int .u64 x16]) w')) ∧
  ∃ (x17 : Int), ∃ (x18 : Int), (∀ w' : World, Below w.heap.size w w' → Calls Tryz.prog 130 #[.agg #[.int .i64 x15, .int .u64 x16]] w' (Vc.Ret (.agg #[.int .i64 x17, .int .u64 x18]) w')) ∧
  ∃ (x19 : Int), ∃ (x20 : Int), (∀ w' : World, Below w.heap.size w w' → Calls Tryz.prog 131 #[.agg #[.int .i64 x17, .int .u64 x18]] w' (Vc.Ret (.agg #[.int .i64 x19, .int .u64 x20]) w')) ∧
  ∃ (x21 : Int), ∃ (x22 : Int), ∃ (x23 : Int), (∀ w' : World, Below w.heap.size w w' → Calls Tryz.prog 95 #[.agg #[.int .i64 x13, .int .u64 x14], .agg #[.int .i64 x19, .int .u64 x20]] w' (Vc.Ret (.tuple #[.agg #[.int .i64 x21, .int .i64 x22], .int .i64 x23]) w')) ∧
  (.tuple #[.agg #[.int .i64 x21, .int .i64 x22], .int .i64 x23] : Value) = v)))) ∧ (¬ (b4 = true) → (
  ∃ (b5 : Bool), (∀ w' : World, Below w.heap.size w w' → Calls Tryz.prog 94 #[.agg #[.int .i64 x9, .int .u64 x10], .agg #[.int .i64 x11, .int .u64 x12]] w' (Vc.Ret (.bool b5) w')) ∧
  ((b5 = true) → (
  ∃ (x13 : Int), ∃ (x14 : Int), (∀ w' : World, Below w.heap.size w w' → Calls Tryz.prog 130 #[.agg #[.int .i64 x5, .int .u64 x6]] w' (Vc.Ret (.agg #[.int .i64 x13, .int .u64 x14]) w')) ∧
  ∃ (x15 : Int), ∃ (x16 : Int), (∀ w' : World, Below w.heap.size w w' → Calls Tryz.prog 131 #[.agg #[.int .i64 x11, .int .u64 x12]] w' (Vc.Ret (.agg #[.int .i64 x15, .int .u64 x16]) w')) ∧
  ∃ (x17 : Int), ∃ (x18 : Int), (∀ w' : World, Below w.heap.size w w' → Calls Tryz.prog 130 #[.agg #[.int .i64 x15, .int .u64 x16]] w' (Vc.Ret (.agg #[.int .i64 x17, .int .u64 x18]) w')) ∧
  ∃ (x19 : Int), ∃ (x20 : Int), (∀ w' : World, Below w.heap.size w w' → Calls Tryz.prog 131 #[.agg #[.int .i64 x17, .int .u64 x18]] w' (Vc.Ret (.agg #[.int .i64 x19, .int .u64 x20]) w')) ∧
  ∃ (x21 : Int), ∃ (x22 : Int), ∃ (x23 : Int), (∀ w' : World, Below w.heap.size w w' → Calls Tryz.prog 95 #[.agg #[.int .i64 x13, .int .u64 x14], .agg #[.int .i64 x19, .int .u64 x20]] w' (Vc.Ret (.tuple #[.agg #[.int .i64 x21, .int .i64 x22], .int .i64 x23]) w')) ∧
  (.tuple #[.agg #[.int .i64 x21, .int .i64 x22], .int .i64 x23] : Value) = v)) ∧ (¬ (b5 = true) → (
  ∃ (x13 : Int), ∃ (x14 : Int), (∀ w' : World, Below w.heap.size w w' → Calls Tryz.prog 130 #[.agg #[.int .i64 x5, .int .u64 x6]] w' (Vc.Ret (.agg #[.int .i64 x13, .int .u64 x14]) w')) ∧
  ∃ (x15 : Int), ∃ (x16 : Int), (∀ w' : World, Below w.heap.size w w' → Calls Tryz.prog 131 #[.agg #[.int .i64 x9, .int .u64 x10]] w' (Vc.Ret (.agg #[.int .i64 x15, .int .u64 x16]) w')) ∧
  ∃ (x17 : Int), ∃ (x18 : Int), (∀ w' : World, Below w.heap.size w w' → Calls Tryz.prog 130 #[.agg #[.int .i64 x15, .int .u64 x16]] w' (Vc.Ret (.agg #[.int .i64 x17, .int .u64 x18]) w')) ∧
  ∃ (x19 : Int), ∃ (x20 : Int), (∀ w' : World, Below w.heap.size w w' → Calls Tryz.prog 131 #[.agg #[.int .i64 x17, .int .u64 x18]] w' (Vc.Ret (.agg #[.int .i64 x19, .int .u64 x20]) w')) ∧
  ∃ (x21 : Int), ∃ (x22 : Int), ∃ (x23 : Int), (∀ w' : World, Below w.heap.size w w' → Calls Tryz.prog 95 #[.agg #[.int .i64 x13, .int .u64 x14], .agg #[.int .i64 x19, .int .u64 x20]] w' (Vc.Ret (.tuple #[.agg #[.int .i64 x21, .int .i64 x22], .int .i64 x23]) w')) ∧
  (.tuple #[.agg #[.int .i64 x21, .int .i64 x22], .int .i64 x23] : Value) = v)))))) ∧ (¬ (b3 = true) → (
  ∃ (x11 : Int), ∃ (x12 : Int), (∀ w' : World, Below w.heap.size w w' → Calls Tryz.prog 93 #[.int .i64 x1, .int .i64 x3] w' (Vc.Ret (.agg #[.int .i64 x11, .int .u64 x12]) w')) ∧
  ∃ (b4 : Bool), (∀ w' : World, Below w.heap.size w w' → Calls Tryz.prog 94 #[.agg #[.int .i64 x11, .int .u64 x12], .agg #[.int .i64 x5, .int .u64 x6]] w' (Vc.Ret (.bool b4) w')) ∧
  ((b4 = true) → (
  ∃ (b5 : Bool), (∀ w' : World, Below w.heap.size w w' → Calls Tryz.prog 94 #[.agg #[.int .i64 x7, .int .u64 x8], .agg #[.int .i64 x11, .int .u64 x12]] w' (Vc.Ret (.bool b5) w')) ∧
  ((b5 = true) → (
  ∃ (x13 : Int), ∃ (x14 : Int), (∀ w' : World, Below w.heap.size w w' → Calls Tryz.prog 130 #[.agg #[.int .i64 x11, .int .u64 x12]] w' (Vc.Ret (.agg #[.int .i64 x13, .int .u64 x14]) w')) ∧
  ∃ (x15 : Int), ∃ (x16 : Int), (∀ w' : World, Below w.heap.size w w' → Calls Tryz.prog 131 #[.agg #[.int .i64 x11, .int .u64 x12]] w' (Vc.Ret (.agg #[.int .i64 x15, .int .u64 x16]) w')) ∧
  ∃ (x17 : Int), ∃ (x18 : Int), (∀ w' : World, Below w.heap.size w w' → Calls Tryz.prog 130 #[.agg #[.int .i64 x15, .int .u64 x16]] w' (Vc.Ret (.agg #[.int .i64 x17, .int .u64 x18]) w')) ∧
  ∃ (x19 : Int), ∃ (x20 : Int), (∀ w' : World, Below w.heap.size w w' → Calls Tryz.prog 131 #[.agg #[.int .i64 x17, .int .u64 x18]] w' (Vc.Ret (.agg #[.int .i64 x19, .int .u64 x20]) w')) ∧
  ∃ (x21 : Int), ∃ (x22 : Int), ∃ (x23 : Int), (∀ w' : World, Below w.heap.size w w' → Calls Tryz.prog 95 #[.agg #[.int .i64 x13, .int .u64 x14], .agg #[.int .i64 x19, .int .u64 x20]] w' (Vc.Ret (.tuple #[.agg #[.int .i64 x21, .int .i64 x22], .int .i64 x23]) w')) ∧
  (.tuple #[.agg #[.int .i64 x21, .int .i64 x22], .int .i64 x23] : Value) = v)) ∧ (¬ (b5 = true) → (
  ∃ (x13 : Int), ∃ (x14 : Int), (∀ w' : World, Below w.heap.size w w' → Calls Tryz.prog 130 #[.agg #[.int .i64 x11, .int .u64 x12]] w' (Vc.Ret (.agg #[.int .i64 x13, .int .u64 x14]) w')) ∧
  ∃ (x15 : Int), ∃ (x16 : Int), (∀ w' : World, Below w.heap.size w w' → Calls Tryz.prog 131 #[.agg #[.int .i64 x7, .int .u64 x8]] w' (Vc.Ret (.agg #[.int .i64 x15, .int .u64 x16]) w')) ∧
  ∃ (x17 : Int), ∃ (x18 : Int), (∀ w' : World, Below w.heap.size w w' → Calls Tryz.prog 130 #[.agg #[.int .i64 x15, .int .u64 x16]] w' (Vc.Ret (.agg #[.int .i64 x17, .int .u64 x18]) w')) ∧
  ∃ (x19 : Int), ∃ (x20 : Int), (∀ w' : World, Below w.heap.size w w' → Calls Tryz.prog 131 #[.agg #[.int .i64 x17, .int .u64 x18]] w' (Vc.Ret (.agg #[.int .i64 x19, .int .u64 x20]) w')) ∧
  ∃ (x21 : Int), ∃ (x22 : Int), ∃ (x23 : Int), (∀ w' : World, Below w.heap.size w w' → Calls Tryz.prog 95 #[.agg #[.int .i64 x13, .int .u64 x14], .agg #[.int .i64 x19, .int .u64 x20]] w' (Vc.Ret (.tuple #[.agg #[.int .i64 x21, .int .i64 x22], .int .i64 x23]) w')) ∧
  (.tuple #[.agg #[.int .i64 x21, .int .i64 x22], .int .i64 x23] : Value) = v)))) ∧ (¬ (b4 = true) → (
  ∃ (b5 : Bool), (∀ w' : World, Below w.heap.size w w' → Calls Tryz.prog 94 #[.agg #[.int .i64 x7, .int .u64 x8], .agg #[.int .i64 x11, .int .u64 x12]] w' (Vc.Ret (.bool b5) w')) ∧
  ((b5 = true) → (
  ∃ (x13 : Int), ∃ (x14 : Int), (∀ w' : World, Below w.heap.size w w' → Calls Tryz.prog 130 #[.agg #[.int .i64 x5, .int .u64 x6]] w' (Vc.Ret (.agg #[.int .i64 x13, .int .u64 x14]) w')) ∧
  ∃ (x15 : Int), ∃ (x16 : Int), (∀ w' : World, Below w.heap.size w w' → Calls Tryz.prog 131 #[.agg #[.int .i64 x11, .int .u64 x12]] w' (Vc.Ret (.agg #[.int .i64 x15, .int .u64 x16]) w')) ∧
  ∃ (x17 : Int), ∃ (x18 : Int), (∀ w' : World, Below w.heap.size w w' → Calls Tryz.prog 130 #[.agg #[.int .i64 x15, .int .u64 x16]] w' (Vc.Ret (.agg #[.int .i64 x17, .int .u64 x18]) w')) ∧
  ∃ (x19 : Int), ∃ (x20 : Int), (∀ w' : World, Below w.heap.size w w' → Calls Tryz.prog 131 #[.agg #[.int .i64 x17, .int .u64 x18]] w' (Vc.Ret (.agg #[.int .i64 x19, .int .u64 x20]) w')) ∧
  ∃ (x21 : Int), ∃ (x22 : Int), ∃ (x23 : Int), (∀ w' : World, Below w.heap.size w w' → Calls Tryz.prog 95 #[.agg #[.int .i64 x13, .int .u64 x14], .agg #[.int .i64 x19, .int .u64 x20]] w' (Vc.Ret (.tuple #[.agg #[.int .i64 x21, .int .i64 x22], .int .i64 x23]) w')) ∧
  (.tuple #[.agg #[.int .i64 x21, .int .i64 x22], .int .i64 x23] : Value) = v)) ∧ (¬ (b5 = true) → (
  ∃ (x13 : Int), ∃ (x14 : Int), (∀ w' : World, Below w.heap.size w w' → Calls Tryz.prog 130 #[.agg #[.int .i64 x5, .int .u64 x6]] w' (Vc.Ret (.agg #[.int .i64 x13, .int .u64 x14]) w')) ∧
  ∃ (x15 : Int), ∃ (x16 : Int), (∀ w' : World, Below w.heap.size w w' → Calls Tryz.prog 131 #[.agg #[.int .i64 x7, .int .u64 x8]] w' (Vc.Ret (.agg #[.int .i64 x15, .int .u64 x16]) w')) ∧
  ∃ (x17 : Int), ∃ (x18 : Int), (∀ w' : World, Below w.heap.size w w' → Calls Tryz.prog 130 #[.agg #[.int .i64 x15, .int .u64 x16]] w' (Vc.Ret (.agg #[.int .i64 x17, .int .u64 x18]) w')) ∧
  ∃ (x19 : Int), ∃ (x20 : Int), (∀ w' : World, Below w.heap.size w w' → Calls Tryz.prog 131 #[.agg #[.int .i64 x17, .int .u64 x18]] w' (Vc.Ret (.agg #[.int .i64 x19, .int .u64 x20]) w')) ∧
  ∃ (x21 : Int), ∃ (x22 : Int), ∃ (x23 : Int), (∀ w' : World, Below w.heap.size w w' → Calls Tryz.prog 95 #[.agg #[.int .i64 x13, .int .u64 x14], .agg #[.int .i64 x19, .int .u64 x20]] w' (Vc.Ret (.tuple #[.agg #[.int .i64 x21, .int .i64 x22], .int .i64 x23]) w')) ∧
  (.tuple #[.agg #[.int .i64 x21, .int .i64 x22], .int .i64 x23] : Value) = v)))))))))) ∧ (¬ (b1 = true) → (
  ∃ (x9 : Int), ∃ (x10 : Int), (∀ w' : World, Below w.heap.size w w' → Calls Tryz.prog 93 #[.int .i64 x1, .int .i64 x2] w' (Vc.Ret (.agg #[.int .i64 x9, .int .u64 x10]) w')) ∧
  ∃ (b2 : Bool), (∀ w' : World, Below w.heap.size w w' → Calls Tryz.prog 94 #[.agg #[.int .i64 x9, .int .u64 x10], .agg #[.int .i64 x5, .int .u64 x6]] w' (Vc.Ret (.bool b2) w')) ∧
  ((b2 = true) → (
  ∃ (b3 : Bool), (∀ w' : World, Below w.heap.size w w' → Calls Tryz.prog 94 #[.agg #[.int .i64 x5, .int .u64 x6], .agg #[.int .i64 x9, .int .u64 x10]] w' (Vc.Ret (.bool b3) w')) ∧
  ((b3 = true) → (
  ∃ (x11 : Int), ∃ (x12 : Int), (∀ w' : World, Below w.heap.size w w' → Calls Tryz.prog 93 #[.int .i64 x1, .int .i64 x3] w' (Vc.Ret (.agg #[.int .i64 x11, .int .u64 x12]) w')) ∧
  ∃ (b4 : Bool), (∀ w' : World, Below w.heap.size w w' → Calls Tryz.prog 94 #[.agg #[.int .i64 x11, .int .u64 x12], .agg #[.int .i64 x9, .int .u64 x10]] w' (Vc.Ret (.bool b4) w')) ∧
  ((b4 = true) → (
  ∃ (b5 : Bool), (∀ w' : World, Below w.heap.size w w' → Calls Tryz.prog 94 #[.agg #[.int .i64 x9, .int .u64 x10], .agg #[.int .i64 x11, .int .u64 x12]] w' (Vc.Ret (.bool b5) w')) ∧
  ((b5 = true) → (
  ∃ (x13 : Int), ∃ (x14 : Int), (∀ w' : World, Below w.heap.size w w' → Calls Tryz.prog 130 #[.agg #[.int .i64 x11, .int .u64 x12]] w' (Vc.Ret (.agg #[.int .i64 x13, .int .u64 x14]) w')) ∧
  ∃ (x15 : Int), ∃ (x16 : Int), (∀ w' : World, Below w.heap.size w w' → Calls Tryz.prog 131 #[.agg #[.int .i64 x11, .int .u64 x12]] w' (Vc.Ret (.agg #[.int .i64 x15, .int .u64 x16]) w')) ∧
  ∃ (x17 : Int), ∃ (x18 : Int), (∀ w' : World, Below w.heap.size w w' → Calls Tryz.prog 130 #[.agg #[.int .i64 x15, .int .u64 x16]] w' (Vc.Ret (.agg #[.int .i64 x17, .int .u64 x18]) w')) ∧
  ∃ (x19 : Int), ∃ (x20 : Int), (∀ w' : World, Below w.heap.size w w' → Calls Tryz.prog 131 #[.agg #[.int .i64 x17, .int .u64 x18]] w' (Vc.Ret (.agg #[.int .i64 x19, .int .u64 x20]) w')) ∧
  ∃ (x21 : Int), ∃ (x22 : Int), ∃ (x23 : Int), (∀ w' : World, Below w.heap.size w w' → Calls Tryz.prog 95 #[.agg #[.int .i64 x13, .int .u64 x14], .agg #[.int .i64 x19, .int .u64 x20]] w' (Vc.Ret (.tuple #[.agg #[.int .i64 x21, .int .i64 x22], .int .i64 x23]) w')) ∧
  (.tuple #[.agg #[.int .i64 x21, .int .i64 x22], .int .i64 x23] : Value) = v)) ∧ (¬ (b5 = true) → (
  ∃ (x13 : Int), ∃ (x14 : Int), (∀ w' : World, Below w.heap.size w w' → Calls Tryz.prog 130 #[.agg #[.int .i64 x11, .int .u64 x12]] w' (Vc.Ret (.agg #[.int .i64 x13, .int .u64 x14]) w')) ∧
  ∃ (x15 : Int), ∃ (x16 : Int), (∀ w' : World, Below w.heap.size w w' → Calls Tryz.prog 131 #[.agg #[.int .i64 x9, .int .u64 x10]] w' (Vc.Ret (.agg #[.int .i64 x15, .int .u64 x16]) w')) ∧
  ∃ (x17 : Int), ∃ (x18 : Int), (∀ w' : World, Below w.heap.size w w' → Calls Tryz.prog 130 #[.agg #[.int .i64 x15, .int .u64 x16]] w' (Vc.Ret (.agg #[.int .i64 x17, .int .u64 x18]) w')) ∧
  ∃ (x19 : Int), ∃ (x20 : Int), (∀ w' : World, Below w.heap.size w w' → Calls Tryz.prog 131 #[.agg #[.int .i64 x17, .int .u64 x18]] w' (Vc.Ret (.agg #[.int .i64 x19, .int .u64 x20]) w')) ∧
  ∃ (x21 : Int), ∃ (x22 : Int), ∃ (x23 : Int), (∀ w' : World, Below w.heap.size w w' → Calls Tryz.prog 95 #[.agg #[.int .i64 x13, .int .u64 x14], .agg #[.int .i64 x19, .int .u64 x20]] w' (Vc.Ret (.tuple #[.agg #[.int .i64 x21, .int .i64 x22], .int .i64 x23]) w')) ∧
  (.tuple #[.agg #[.int .i64 x21, .int .i64 x22], .int .i64 x23] : Value) = v)))) ∧ (¬ (b4 = true) → (
  ∃ (b5 : Bool), (∀ w' : World, Below w.heap.size w w' → Calls Tryz.prog 94 #[.agg #[.int .i64 x9, .int .u64 x10], .agg #[.int .i64 x11, .int .u64 x12]] w' (Vc.Ret (.bool b5) w')) ∧
  ((b5 = true) → (
  ∃ (x13 : Int), ∃ (x14 : Int), (∀ w' : World, Below w.heap.size w w' → Calls Tryz.prog 130 #[.agg #[.int .i64 x9, .int .u64 x10]] w' (Vc.Ret (.agg #[.int .i64 x13, .int .u64 x14]) w')) ∧
  ∃ (x15 : Int), ∃ (x16 : Int), (∀ w' : World, Below w.heap.size w w' → Calls Tryz.prog 131 #[.agg #[.int .i64 x11, .int .u64 x12]] w' (Vc.Ret (.agg #[.int .i64 x15, .int .u64 x16]) w')) ∧
  ∃ (x17 : Int), ∃ (x18 : Int), (∀ w' : World, Below w.heap.size w w' → Calls Tryz.prog 130 #[.agg #[.int .i64 x15, .int .u64 x16]] w' (Vc.Ret (.agg #[.int .i64 x17, .int .u64 x18]) w')) ∧
  ∃ (x19 : Int), ∃ (x20 : Int), (∀ w' : World, Below w.heap.size w w' → Calls Tryz.prog 131 #[.agg #[.int .i64 x17, .int .u64 x18]] w' (Vc.Ret (.agg #[.int .i64 x19, .int .u64 x20]) w')) ∧
  ∃ (x21 : Int), ∃ (x22 : Int), ∃ (x23 : Int), (∀ w' : World, Below w.heap.size w w' → Calls Tryz.prog 95 #[.agg #[.int .i64 x13, .int .u64 x14], .agg #[.int .i64 x19, .int .u64 x20]] w' (Vc.Ret (.tuple #[.agg #[.int .i64 x21, .int .i64 x22], .int .i64 x23]) w')) ∧
  (.tuple #[.agg #[.int .i64 x21, .int .i64 x22], .int .i64 x23] : Value) = v)) ∧ (¬ (b5 = true) → (
  ∃ (x13 : Int), ∃ (x14 : Int), (∀ w' : World, Below w.heap.size w w' → Calls Tryz.prog 130 #[.agg #[.int .i64 x9, .int .u64 x10]] w' (Vc.Ret (.agg #[.int .i64 x13, .int .u64 x14]) w')) ∧
  ∃ (x15 : Int), ∃ (x16 : Int), (∀ w' : World, Below w.heap.size w w' → Calls Tryz.prog 131 #[.agg #[.int .i64 x9, .int .u64 x10]] w' (Vc.Ret (.agg #[.int .i64 x15, .int .u64 x16]) w')) ∧
  ∃ (x17 : Int), ∃ (x18 : Int), (∀ w' : World, Below w.heap.size w w' → Calls Tryz.prog 130 #[.agg #[.int .i64 x15, .int .u64 x16]] w' (Vc.Ret (.agg #[.int .i64 x17, .int .u64 x18]) w')) ∧
  ∃ (x19 : Int), ∃ (x20 : Int), (∀ w' : World, Below w.heap.size w w' → Calls Tryz.prog 131 #[.agg #[.int .i64 x17, .int .u64 x18]] w' (Vc.Ret (.agg #[.int .i64 x19, .int .u64 x20]) w')) ∧
  ∃ (x21 : Int), ∃ (x22 : Int), ∃ (x23 : Int), (∀ w' : World, Below w.heap.size w w' → Calls Tryz.prog 95 #[.agg #[.int .i64 x13, .int .u64 x14], .agg #[.int .i64 x19, .int .u64 x20]] w' (Vc.Ret (.tuple #[.agg #[.int .i64 x21, .int .i64 x22], .int .i64 x23]) w')) ∧
  (.tuple #[.agg #[.int .i64 x21, .int .i64 x22], .int .i64 x23] : Value) = v)))))) ∧ (¬ (b3 = true) → (
  ∃ (x11 : Int), ∃ (x12 : Int), (∀ w' : World, Below w.heap.size w w' → Calls Tryz.prog 93 #[.int .i64 x1, .int .i64 x3] w' (Vc.Ret (.agg #[.int .i64 x11, .int .u64 x12]) w')) ∧
  ∃ (b4 : Bool), (∀ w' : World, Below w.heap.size w w' → Calls Tryz.prog 94 #[.agg #[.int .i64 x11, .int .u64 x12], .agg #[.int .i64 x9, .int .u64 x10]] w' (Vc.Ret (.bool b4) w')) ∧
  ((b4 = true) → (
  ∃ (b5 : Bool), (∀ w' : World, Below w.heap.size w w' → Calls Tryz.prog 94 #[.agg #[.int .i64 x5, .int .u64 x6], .agg #[.int .i64 x11, .int .u64 x12]] w' (Vc.Ret (.bool b5) w')) ∧
  ((b5 = true) → (
  ∃ (x13 : Int), ∃ (x14 : Int), (∀ w' : World, Below w.heap.size w w' → Calls Tryz.prog 130 #[.agg #[.int .i64 x11, .int .u64 x12]] w' (Vc.Ret (.agg #[.int .i64 x13, .int .u64 x14]) w')) ∧
  ∃ (x15 : Int), ∃ (x16 : Int), (∀ w' : World, Below w.heap.size w w' → Calls Tryz.prog 131 #[.agg #[.int .i64 x11, .int .u64 x12]] w' (Vc.Ret (.agg #[.int .i64 x15, .int .u64 x16]) w')) ∧
  ∃ (x17 : Int), ∃ (x18 : Int), (∀ w' : World, Below w.heap.size w w' → Calls Tryz.prog 130 #[.agg #[.int .i64 x15, .int .u64 x16]] w' (Vc.Ret (.agg #[.int .i64 x17, .int .u64 x18]) w')) ∧
  ∃ (x19 : Int), ∃ (x20 : Int), (∀ w' : World, Below w.heap.size w w' → Calls Tryz.prog 131 #[.agg #[.int .i64 x17, .int .u64 x18]] w' (Vc.Ret (.agg #[.int .i64 x19, .int .u64 x20]) w')) ∧
  ∃ (x21 : Int), ∃ (x22 : Int), ∃ (x23 : Int), (∀ w' : World, Below w.heap.size w w' → Calls Tryz.prog 95 #[.agg #[.int .i64 x13, .int .u64 x14], .agg #[.int .i64 x19, .int .u64 x20]] w' (Vc.Ret (.tuple #[.agg #[.int .i64 x21, .int .i64 x22], .int .i64 x23]) w')) ∧
  (.tuple #[.agg #[.int .i64 x21, .int .i64 x22], .int .i64 x23] : Value) = v)) ∧ (¬ (b5 = true) → (
  ∃ (x13 : Int), ∃ (x14 : Int), (∀ w' : World, Below w.heap.size w w' → Calls Tryz.prog 130 #[.agg #[.int .i64 x11, .int .u64 x12]] w' (Vc.Ret (.agg #[.int .i64 x13, .int .u64 x14]) w')) ∧
  ∃ (x15 : Int), ∃ (x16 : Int), (∀ w' : World, Below w.heap.size w w' → Calls Tryz.prog 131 #[.agg #[.int .i64 x5, .int .u64 x6]] w' (Vc.Ret (.agg #[.int .i64 x15, .int .u64 x16]) w')) ∧
  ∃ (x17 : Int), ∃ (x18 : Int), (∀ w' : World, Below w.heap.size w w' → Calls Tryz.prog 130 #[.agg #[.int .i64 x15, .int .u64 x16]] w' (Vc.Ret (.agg #[.int .i64 x17, .int .u64 x18]) w')) ∧
  ∃ (x19 : Int), ∃ (x20 : Int), (∀ w' : World, Below w.heap.size w w' → Calls Tryz.prog 131 #[.agg #[.int .i64 x17, .int .u64 x18]] w' (Vc.Ret (.agg #[.int .i64 x19, .int .u64 x20]) w')) ∧
  ∃ (x21 : Int), ∃ (x22 : Int), ∃ (x23 : Int), (∀ w' : World, Below w.heap.size w w' → Calls Tryz.prog 95 #[.agg #[.int .i64 x13, .int .u64 x14], .agg #[.int .i64 x19, .int .u64 x20]] w' (Vc.Ret (.tuple #[.agg #[.int .i64 x21, .int .i64 x22], .int .i64 x23]) w')) ∧
  (.tuple #[.agg #[.int .i64 x21, .int .i64 x22], .int .i64 x23] : Value) = v)))) ∧ (¬ (b4 = true) → (
  ∃ (b5 : Bool), (∀ w' : World, Below w.heap.size w w' → Calls Tryz.prog 94 #[.agg #[.int .i64 x5, .int .u64 x6], .agg #[.int .i64 x11, .int .u64 x12]] w' (Vc.Ret (.bool b5) w')) ∧
  ((b5 = true) → (
  ∃ (x13 : Int), ∃ (x14 : Int), (∀ w' : World, Below w.heap.size w w' → Calls Tryz.prog 130 #[.agg #[.int .i64 x9, .int .u64 x10]] w' (Vc.Ret (.agg #[.int .i64 x13, .int .u64 x14]) w')) ∧
  ∃ (x15 : Int), ∃ (x16 : Int), (∀ w' : World, Below w.heap.size w w' → Calls Tryz.prog 131 #[.agg #[.int .i64 x11, .int .u64 x12]] w' (Vc.Ret (.agg #[.int .i64 x15, .int .u64 x16]) w')) ∧
  ∃ (x17 : Int), ∃ (x18 : Int), (∀ w' : World, Below w.heap.size w w' → Calls Tryz.prog 130 #[.agg #[.int .i64 x15, .int .u64 x16]] w' (Vc.Ret (.agg #[.int .i64 x17, .int .u64 x18]) w')) ∧
  ∃ (x19 : Int), ∃ (x20 : Int), (∀ w' : World, Below w.heap.size w w' → Calls Tryz.prog 131 #[.agg #[.int .i64 x17, .int .u64 x18]] w' (Vc.Ret (.agg #[.int .i64 x19, .int .u64 x20]) w')) ∧
  ∃ (x21 : Int), ∃ (x22 : Int), ∃ (x23 : Int), (∀ w' : World, Below w.heap.size w w' → Calls Tryz.prog 95 #[.agg #[.int .i64 x13, .int .u64 x14], .agg #[.int .i64 x19, .int .u64 x20]] w' (Vc.Ret (.tuple #[.agg #[.int .i64 x21, .int .i64 x22], .int .i64 x23]) w')) ∧
  (.tuple #[.agg #[.int .i64 x21, .int .i64 x22], .int .i64 x23] : Value) = v)) ∧ (¬ (b5 = true) → (
  ∃ (x13 : Int), ∃ (x14 : Int), (∀ w' : World, Below w.heap.size w w' → Calls Tryz.prog 130 #[.agg #[.int .i64 x9, .int .u64 x10]] w' (Vc.Ret (.agg #[.int .i64 x13, .int .u64 x14]) w')) ∧
  ∃ (x15 : Int), ∃ (x16 : Int), (∀ w' : World, Below w.heap.size w w' → Calls Tryz.prog 131 #[.agg #[.int .i64 x5, .int .u64 x6]] w' (Vc.Ret (.agg #[.int .i64 x15, .int .u64 x16]) w')) ∧
  ∃ (x17 : Int), ∃ (x18 : Int), (∀ w' : World, Below w.heap.size w w' → Calls Tryz.prog 130 #[.agg #[.int .i64 x15, .int .u64 x16]] w' (Vc.Ret (.agg #[.int .i64 x17, .int .u64 x18]) w')) ∧
  ∃ (x19 : Int), ∃ (x20 : Int), (∀ w' : World, Below w.heap.size w w' → Calls Tryz.prog 131 #[.agg #[.int .i64 x17, .int .u64 x18]] w' (Vc.Ret (.agg #[.int .i64 x19, .int .u64 x20]) w')) ∧
  ∃ (x21 : Int), ∃ (x22 : Int), ∃ (x23 : Int), (∀ w' : World, Below w.heap.size w w' → Calls Tryz.prog 95 #[.agg #[.int .i64 x13, .int .u64 x14], .agg #[.int .i64 x19, .int .u64 x20]] w' (Vc.Ret (.tuple #[.agg #[.int .i64 x21, .int .i64 x22], .int .i64 x23]) w')) ∧
  (.tuple #[.agg #[.int .i64 x21, .int .i64 x22], .int .i64 x23] : Value) = v)))))))) ∧ (¬ (b2 = true) → (
  ∃ (b3 : Bool), (∀ w' : World, Below w.heap.size w w' → Calls Tryz.prog 94 #[.agg #[.int .i64 x5, .int .u64 x6], .agg #[.int .i64 x9, .int .u64 x10]] w' (Vc.Ret (.bool b3) w')) ∧
  ((b3 = true) → (
  ∃ (x11 : Int), ∃ (x12 : Int), (∀ w' : World, Below w.heap.size w w' → Calls Tryz.prog 93 #[.int .i64 x1, .int .i64 x3] w' (Vc.Ret (.agg #[.int .i64 x11, .int .u64 x12]) w')) ∧
  ∃ (b4 : Bool), (∀ w' : World, Below w.heap.size w w' → Calls Tryz.prog 94 #[.agg #[.int .i64 x11, .int .u64 x12], .agg #[.int .i64 x5, .int .u64 x6]] w' (Vc.Ret (.bool b4) w')) ∧
  ((b4 = true) → (
  ∃ (b5 : Bool), (∀ w' : World, Below w.heap.size w w' → Calls Tryz.prog 94 #[.agg #[.int .i64 x9, .int .u64 x10], .agg #[.int .i64 x11, .int .u64 x12]] w' (Vc.Ret (.bool b5) w')) ∧
  ((b5 = true) → (
  ∃ (x13 : Int), ∃ (x14 : Int), (∀ w' : World, Below w.heap.size w w' → Calls Tryz.prog 130 #[.agg #[.int .i64 x11, .int .u64 x12]] w' (Vc.Ret (.agg #[.int .i64 x13, .int .u64 x14]) w')) ∧
  ∃ (x15 : Int), ∃ (x16 : Int), (∀ w' : World, Below w.heap.size w w' → Calls Tryz.prog 131 #[.agg #[.int .i64 x11, .int .u64 x12]] w' (Vc.Ret (.agg #[.int .i64 x15, .int .u64 x16]) w')) ∧
  ∃ (x17 : Int), ∃ (x18 : Int), (∀ w' : World, Below w.heap.size w w' → Calls Tryz.prog 130 #[.agg #[.int .i64 x15, .int .u64 x16]] w' (Vc.Ret (.agg #[.int .i64 x17, .int .u64 x18]) w')) ∧
  ∃ (x19 : Int), ∃ (x20 : Int), (∀ w' : World, Below w.heap.size w w' → Calls Tryz.prog 131 #[.agg #[.int .i64 x17, .int .u64 x18]] w' (Vc.Ret (.agg #[.int .i64 x19, .int .u64 x20]) w')) ∧
  ∃ (x21 : Int), ∃ (x22 : Int), ∃ (x23 : Int), (∀ w' : World, Below w.heap.size w w' → Calls Tryz.prog 95 #[.agg #[.int .i64 x13, .int .u64 x14], .agg #[.int .i64 x19, .int .u64 x20]] w' (Vc.Ret (.tuple #[.agg #[.int .i64 x21, .int .i64 x22], .int .i64 x23]) w')) ∧
  (.tuple #[.agg #[.int .i64 x21, .int .i64 x22], .int .i64 x23] : Value) = v)) ∧ (¬ (b5 = true) → (
  ∃ (x13 : Int), ∃ (x14 : Int), (∀ w' : World, Below w.heap.size w w' → Calls Tryz.prog 130 #[.agg #[.int .i64 x11, .int .u64 x12]] w' (Vc.Ret (.agg #[.int .i64 x13, .int .u64 x14]) w')) ∧
  ∃ (x15 : Int), ∃ (x16 : Int), (∀ w' : World, Below w.heap.size w w' → Calls Tryz.prog 131 #[.agg #[.int .i64 x9, .int .u64 x10]] w' (Vc.Ret (.agg #[.int .i64 x15, .int .u64 x16]) w')) ∧
  ∃ (x17 : Int), ∃ (x18 : Int), (∀ w' : World, Below w.heap.size w w' → Calls Tryz.prog 130 #[.agg #[.int .i64 x15, .int .u64 x16]] w' (Vc.Ret (.agg #[.int .i64 x17, .int .u64 x18]) w')) ∧
  ∃ (x19 : Int), ∃ (x20 : Int), (∀ w' : World, Below w.heap.size w w' → Calls Tryz.prog 131 #[.agg #[.int .i64 x17, .int .u64 x18]] w' (Vc.Ret (.agg #[.int .i64 x19, .int .u64 x20]) w')) ∧
  ∃ (x21 : Int), ∃ (x22 : Int), ∃ (x23 : Int), (∀ w' : World, Below w.heap.size w w' → Calls Tryz.prog 95 #[.agg #[.int .i64 x13, .int .u64 x14], .agg #[.int .i64 x19, .int .u64 x20]] w' (Vc.Ret (.tuple #[.agg #[.int .i64 x21, .int .i64 x22], .int .i64 x23]) w')) ∧
  (.tuple #[.agg #[.int .i64 x21, .int .i64 x22], .int .i64 x23] : Value) = v)))) ∧ (¬ (b4 = true) → (
  ∃ (b5 : Bool), (∀ w' : World, Below w.heap.size w w' → Calls Tryz.prog 94 #[.agg #[.int .i64 x9, .int .u64 x10], .agg #[.int .i64 x11, .int .u64 x12]] w' (Vc.Ret (.bool b5) w')) ∧
  ((b5 = true) → (
  ∃ (x13 : Int), ∃ (x14 : Int), (∀ w' : World, Below w.heap.size w w' → Calls Tryz.prog 130 #[.agg #[.int .i64 x5, .int .u64 x6]] w' (Vc.Ret (.agg #[.int .i64 x13, .int .u64 x14]) w')) ∧
  ∃ (x15 : Int), ∃ (x16 : Int), (∀ w' : World, Below w.heap.size w w' → Calls Tryz.prog 131 #[.agg #[.int .i64 x11, .int .u64 x12]] w' (Vc.Ret (.agg #[.int .i64 x15, .int .u64 x16]) w')) ∧
  ∃ (x17 : Int), ∃ (x18 : Int), (∀ w' : World, Below w.heap.size w w' → Calls Tryz.prog 130 #[.agg #[.int .i64 x15, .int .u64 x16]] w' (Vc.Ret (.agg #[.int .i64 x17, .int .u64 x18]) w')) ∧
  ∃ (x19 : Int), ∃ (x20 : Int), (∀ w' : World, Below w.heap.size w w' → Calls Tryz.prog 131 #[.agg #[.int .i64 x17, .int .u64 x18]] w' (Vc.Ret (.agg #[.int .i64 x19, .int .u64 x20]) w')) ∧
  ∃ (x21 : Int), ∃ (x22 : Int), ∃ (x23 : Int), (∀ w' : World, Below w.heap.size w w' → Calls Tryz.prog 95 #[.agg #[.int .i64 x13, .int .u64 x14], .agg #[.int .i64 x19, .int .u64 x20]] w' (Vc.Ret (.tuple #[.agg #[.int .i64 x21, .int .i64 x22], .int .i64 x23]) w')) ∧
  (.tuple #[.agg #[.int .i64 x21, .int .i64 x22], .int .i64 x23] : Value) = v)) ∧ (¬ (b5 = true) → (
  ∃ (x13 : Int), ∃ (x14 : Int), (∀ w' : World, Below w.heap.size w w' → Calls Tryz.prog 130 #[.agg #[.int .i64 x5, .int .u64 x6]] w' (Vc.Ret (.agg #[.int .i64 x13, .int .u64 x14]) w')) ∧
  ∃ (x15 : Int), ∃ (x16 : Int), (∀ w' : World, Below w.heap.size w w' → Calls Tryz.prog 131 #[.agg #[.int .i64 x9, .int .u64 x10]] w' (Vc.Ret (.agg #[.int .i64 x15, .int .u64 x16]) w')) ∧
  ∃ (x17 : Int), ∃ (x18 : Int), (∀ w' : World, Below w.heap.size w w' → Calls Tryz.prog 130 #[.agg #[.int .i64 x15, .int .u64 x16]] w' (Vc.Ret (.agg #[.int .i64 x17, .int .u64 x18]) w')) ∧
  ∃ (x19 : Int), ∃ (x20 : Int), (∀ w' : World, Below w.heap.size w w' → Calls Tryz.prog 131 #[.agg #[.int .i64 x17, .int .u64 x18]] w' (Vc.Ret (.agg #[.int .i64 x19, .int .u64 x20]) w')) ∧
  ∃ (x21 : Int), ∃ (x22 : Int), ∃ (x23 : Int), (∀ w' : World, Below w.heap.size w w' → Calls Tryz.prog 95 #[.agg #[.int .i64 x13, .int .u64 x14], .agg #[.int .i64 x19, .int .u64 x20]] w' (Vc.Ret (.tuple #[.agg #[.int .i64 x21, .int .i64 x22], .int .i64 x23]) w')) ∧
  (.tuple #[.agg #[.int .i64 x21, .int .i64 x22], .int .i64 x23] : Value) = v)))))) ∧ (¬ (b3 = true) → (
  ∃ (x11 : Int), ∃ (x12 : Int), (∀ w' : World, Below w.heap.size w w' → Calls Tryz.prog 93 #[.int .i64 x1, .int .i64 x3] w' (Vc.Ret (.agg #[.int .i64 x11, .int .u64 x12]) w')) ∧
  ∃ (b4 : Bool), (∀ w' : World, Below w.heap.size w w' → Calls Tryz.prog 94 #[.agg #[.int .i64 x11, .int .u64 x12], .agg #[.int .i64 x5, .int .u64 x6]] w' (Vc.Ret (.bool b4) w')) ∧
  ((b4 = true) → (
  ∃ (b5 : Bool), (∀ w' : World, Below w.heap.size w w' → Calls Tryz.prog 94 #[.agg #[.int .i64 x5, .int .u64 x6], .agg #[.int .i64 x11, .int .u64 x12]] w' (Vc.Ret (.bool b5) w')) ∧
  ((b5 = true) → (
  ∃ (x13 : Int), ∃ (x14 : Int), (∀ w' : World, Below w.heap.size w w' → Calls Tryz.prog 130 #[.agg #[.int .i64 x11, .int .u64 x12]] w' (Vc.Ret (.agg #[.int .i64 x13, .int .u64 x14]) w')) ∧
  ∃ (x15 : Int), ∃ (x16 : Int), (∀ w' : World, Below w.heap.size w w' → Calls Tryz.prog 131 #[.agg #[.int .i64 x11, .int .u64 x12]] w' (Vc.Ret (.agg #[.int .i64 x15, .int .u64 x16]) w')) ∧
  ∃ (x17 : Int), ∃ (x18 : Int), (∀ w' : World, Below w.heap.size w w' → Calls Tryz.prog 130 #[.agg #[.int .i64 x15, .int .u64 x16]] w' (Vc.Ret (.agg #[.int .i64 x17, .int .u64 x18]) w')) ∧
  ∃ (x19 : Int), ∃ (x20 : Int), (∀ w' : World, Below w.heap.size w w' → Calls Tryz.prog 131 #[.agg #[.int .i64 x17, .int .u64 x18]] w' (Vc.Ret (.agg #[.int .i64 x19, .int .u64 x20]) w')) ∧
  ∃ (x21 : Int), ∃ (x22 : Int), ∃ (x23 : Int), (∀ w' : World, Below w.heap.size w w' → Calls Tryz.prog 95 #[.agg #[.int .i64 x13, .int .u64 x14], .agg #[.int .i64 x19, .int .u64 x20]] w' (Vc.Ret (.tuple #[.agg #[.int .i64 x21, .int .i64 x22], .int .i64 x23]) w')) ∧
  (.tuple #[.agg #[.int .i64 x21, .int .i64 x22], .int .i64 x23] : Value) = v)) ∧ (¬ (b5 = true) → (
  ∃ (x13 : Int), ∃ (x14 : Int), (∀ w' : World, Below w.heap.size w w' → Calls Tryz.prog 130 #[.agg #[.int .i64 x11, .int .u64 x12]] w' (Vc.Ret (.agg #[.int .i64 x13, .int .u64 x14]) w')) ∧
  ∃ (x15 : Int), ∃ (x16 : Int), (∀ w' : World, Below w.heap.size w w' → Calls Tryz.prog 131 #[.agg #[.int .i64 x5, .int .u64 x6]] w' (Vc.Ret (.agg #[.int .i64 x15, .int .u64 x16]) w')) ∧
  ∃ (x17 : Int), ∃ (x18 : Int), (∀ w' : World, Below w.heap.size w w' → Calls Tryz.prog 130 #[.agg #[.int .i64 x15, .int .u64 x16]] w' (Vc.Ret (.agg #[.int .i64 x17, .int .u64 x18]) w')) ∧
  ∃ (x19 : Int), ∃ (x20 : Int), (∀ w' : World, Below w.heap.size w w' → Calls Tryz.prog 131 #[.agg #[.int .i64 x17, .int .u64 x18]] w' (Vc.Ret (.agg #[.int .i64 x19, .int .u64 x20]) w')) ∧
  ∃ (x21 : Int), ∃ (x22 : Int), ∃ (x23 : Int), (∀ w' : World, Below w.heap.size w w' → Calls Tryz.prog 95 #[.agg #[.int .i64 x13, .int .u64 x14], .agg #[.int .i64 x19, .int .u64 x20]] w' (Vc.Ret (.tuple #[.agg #[.int .i64 x21, .int .i64 x22], .int .i64 x23]) w')) ∧
  (.tuple #[.agg #[.int .i64 x21, .int .i64 x22], .int .i64 x23] : Value) = v)))) ∧ (¬ (b4 = true) → (
  ∃ (b5 : Bool), (∀ w' : World, Below w.heap.size w w' → Calls Tryz.prog 94 #[.agg #[.int .i64 x5, .int .u64 x6], .agg #[.int .i64 x11, .int .u64 x12]] w' (Vc.Ret (.bool b5) w')) ∧
  ((b5 = true) → (
  ∃ (x13 : Int), ∃ (x14 : Int), (∀ w' : World, Below w.heap.size w w' → Calls Tryz.prog 130 #[.agg #[.int .i64 x5, .int .u64 x6]] w' (Vc.Ret (.agg #[.int .i64 x13, .int .u64 x14]) w')) ∧
  ∃ (x15 : Int), ∃ (x16 : Int), (∀ w' : World, Below w.heap.size w w' → Calls Tryz.prog 131 #[.agg #[.int .i64 x11, .int .u64 x12]] w' (Vc.Ret (.agg #[.int .i64 x15, .int .u64 x16]) w')) ∧
  ∃ (x17 : Int), ∃ (x18 : Int), (∀ w' : World, Below w.heap.size w w' → Calls Tryz.prog 130 #[.agg #[.int .i64 x15, .int .u64 x16]] w' (Vc.Ret (.agg #[.int .i64 x17, .int .u64 x18]) w')) ∧
  ∃ (x19 : Int), ∃ (x20 : Int), (∀ w' : World, Below w.heap.size w w' → Calls Tryz.prog 131 #[.agg #[.int .i64 x17, .int .u64 x18]] w' (Vc.Ret (.agg #[.int .i64 x19, .int .u64 x20]) w')) ∧
  ∃ (x21 : Int), ∃ (x22 : Int), ∃ (x23 : Int), (∀ w' : World, Below w.heap.size w w' → Calls Tryz.prog 95 #[.agg #[.int .i64 x13, .int .u64 x14], .agg #[.int .i64 x19, .int .u64 x20]] w' (Vc.Ret (.tuple #[.agg #[.int .i64 x21, .int .i64 x22], .int .i64 x23]) w')) ∧
  (.tuple #[.agg #[.int .i64 x21, .int .i64 x22], .int .i64 x23] : Value) = v)) ∧ (¬ (b5 = true) → (
  ∃ (x13 : Int), ∃ (x14 : Int), (∀ w' : World, Below w.heap.size w w' → Calls Tryz.prog 130 #[.agg #[.int .i64 x5, .int .u64 x6]] w' (Vc.Ret (.agg #[.int .i64 x13, .int .u64 x14]) w')) ∧
  ∃ (x15 : Int), ∃ (x16 : Int), (∀ w' : World, Below w.heap.size w w' → Calls Tryz.prog 131 #[.agg #[.int .i64 x5, .int .u64 x6]] w' (Vc.Ret (.agg #[.int .i64 x15, .int .u64 x16]) w')) ∧
  ∃ (x17 : Int), ∃ (x18 : Int), (∀ w' : World, Below w.heap.size w w' → Calls Tryz.prog 130 #[.agg #[.int .i64 x15, .int .u64 x16]] w' (Vc.Ret (.agg #[.int .i64 x17, .int .u64 x18]) w')) ∧
  ∃ (x19 : Int), ∃ (x20 : Int), (∀ w' : World, Below w.heap.size w w' → Calls Tryz.prog 131 #[.agg #[.int .i64 x17, .int .u64 x18]] w' (Vc.Ret (.agg #[.int .i64 x19, .int .u64 x20]) w')) ∧
  ∃ (x21 : Int), ∃ (x22 : Int), ∃ (x23 : Int), (∀ w' : World, Below w.heap.size w w' → Calls Tryz.prog 95 #[.agg #[.int .i64 x13, .int .u64 x14], .agg #[.int .i64 x19, .int .u64 x20]] w' (Vc.Ret (.tuple #[.agg #[.int .i64 x21, .int .i64 x22], .int .i64 x23]) w')) ∧
  (.tuple #[.agg #[.int .i64 x21, .int .i64 x22], .int .i64 x23] : Value) = v)))))))))))))) ∧ (¬ (x4 = 0) → (
  (.tuple #[.agg #[.int .i64 0, .int .i64 0], .int .i64 2] : Value) = v))) : Calls Tryz.prog 92 #[.agg #[.int .i64 x0, .int .i64 x1], .agg #[.int .i64 x2, .int .i64 x3]] w (Vc.Ret v w) :=
  Vc.pure_of (base_inl [101] (by kernel_rfl)) [(7, .unroll)] 200 Tryz.func92 (b := (Tryz.f92.body).getD .skip) (by kernel_rfl) [.cv (.agg [.int .i64 (.var 0), .int .i64 (.var 1)]), .cv (.agg [.int .i64 (.var 2), .int .i64 (.var 3)])] ⟨4, 0, 0, 0, 0, 0, 0⟩ (Vc.envOf [x0, x1, x2, x3] [] [] []) (by kernel_rfl) (by kernel_rfl) (by kernel_rfl) h

theorem vc_ullageref01_Div (x0 x1 x2 x3 : Int) (w : World) (v : Value) (h : 
  ∃ (x4 : Int), (∀ w' : World, Below w.heap.size w w' → Calls Tryz.prog 100 #[.agg #[.int .i64 x0, .int .i64 x1], .agg #[.int .i64 x2, .int .i64 x3]] w' (Vc.Ret (.int .i64 x4) w')) ∧
  ((x4 = 0) → (
  ((x2 ≤ 0) → (
  ((0 ≤ x3) → (
  (.tuple #[.agg #[.int .i64 0, .int .i64 0], .int .i64 10] : Value) = v)) ∧ (¬ (0 ≤ x3) → (
  ∃ (x5 : Int), ∃ (x6 : Int), (∀ w' : World, Below w.heap.size w w' → Calls Tryz.prog 98 #[.int .i64 x0] w' (Vc.Ret (.agg #[.int .i64 x5, .int .u64 x6]) w')) ∧
  ∃ (x7 : Int), ∃ (x8 : Int), (∀ w' : World, Below w.heap.size w w' → Calls Tryz.prog 98 #[.int .i64 x2] w' (Vc.Ret (.agg #[.int .i64 x7, .int .u64 x8]) w')) ∧
  ∃ (x9 : Int), ∃ (x10 : Int), ∃ (x11 : Int), ∃ (x12 : Int), (∀ w' : World, Below w.heap.size w w' → Calls Tryz.prog 102 #[.agg #[.int .i64 x5, .int .u64 x6], .agg #[.int .i64 x7, .int .u64 x8]] w' (Vc.Ret (.tuple #[.agg #[.int .i64 x9, .int .u64 x10], .agg #[.int .i64 x11, .int .u64 x12]]) w')) ∧
  ∃ (x13 : Int), ∃ (x14 : Int), (∀ w' : World, Below w.heap.size w w' → Calls Tryz.prog 98 #[.int .i64 x0] w' (Vc.Ret (.agg #[.int .i64 x13, .int .u64 x14]) w')) ∧
  ∃ (x15 : Int), ∃ (x16 : Int), (∀ w' : World, Below w.heap.size w w' → Calls Tryz.prog 98 #[.int .i64 x3] w' (Vc.Ret (.agg #[.int .i64 x15, .int .u64 x16]) w')) ∧
  ∃ (x17 : Int), ∃ (x18 : Int), ∃ (x19 : Int), ∃ (x20 : Int), (∀ w' : World, Below w.heap.size w w' → Calls Tryz.prog 102 #[.agg #[.int .i64 x13, .int .u64 x14], .agg #[.int .i64 x15, .int .u64 x16]] w' (Vc.Ret (.tuple #[.agg #[.int .i64 x17, .int .u64 x18], .agg #[.int .i64 x19, .int .u64 x20]]) w')) ∧
  ∃ (b0 : Bool), (∀ w' : World, Below w.heap.size w w' → Calls Tryz.prog 94 #[.agg #[.int .i64 x17, .int .u64 x18], .agg #[.int .i64 x9, .int .u64 x10]] w' (Vc.Ret (.bool b0) w')) ∧
  ((b0 = true) → (
  ∃ (b1 : Bool), (∀ w' : World, Below w.heap.size w w' → Calls Tryz.prog 94 #[.agg #[.int .i64 x11, .int .u64 x12], .agg #[.int .i64 x19, .int .u64 x20]] w' (Vc.Ret (.bool b1) w')) ∧
  ((b1 = true) → (
  ∃ (x21 : Int), ∃ (x22 : Int), (∀ w' : World, Below w.heap.size w w' → Calls Tryz.prog 98 #[.int .i64 x1] w' (Vc.Ret (.agg #[.int .i64 x21, .int .u64 x22]) w')) ∧
  ∃ (x23 : Int), ∃ (x24 : Int), (∀ w' : World, Below w.heap.size w w' → Calls Tryz.prog 98 #[.int .i64 x2] w' (Vc.Ret (.agg #[.int .i64 x23, .int .u64 x24]) w')) ∧
  ∃ (x25 : Int), ∃ (x26 : Int), ∃ (x27 : Int), ∃ (x28 : Int), (∀ w' : World, Below w.heap.size w w' → Calls Tryz.prog 102 #[.agg #[.int .i64 x21, .int .u64 x22], .agg #[.int .i64 x23, .int .u64 x24]] w' (Vc.Ret (.tuple #[.agg #[.int .i64 x25, .int .u64 x26], .agg #[.int .i64 x27, .int .u64 x28]]) w')) ∧
  ∃ (b2 : Bool), (∀ w' : World, Below w.heap.size w w' → Calls Tryz.prog 94 #[.agg #[.int .i64 x25, .int .u64 x26], .agg #[.int .i64 x17, .int .u64 x18]] w' (Vc.Ret (.bool b2) w')) ∧
  ((b2 = true) → (
  ∃ (b3 : Bool), (∀ w' : World, Below w.heap.size w w' → Calls Tryz.prog 94 #[.agg #[.int .i64 x19, .int .u64 x20], .agg #[.int .i64 x27, .int .u64 x28]] w' (Vc.Ret (.bool b3) w')) ∧
  ((b3 = true) → (
  ∃ (x29 : Int), ∃ (x30 : Int), (∀ w' : World, Below w.heap.size w w' → Calls Tryz.prog 98 #[.int .i64 x1] w' (Vc.Ret (.agg #[.int .i64 x29, .int .u64 x30]) w')) ∧
  ∃ (x31 : Int), ∃ (x32 : Int), (∀ w' : World, Below w.heap.size w w' → Calls Tryz.prog 98 #[.int .i64 x3] w' (Vc.Ret (.agg #[.int .i64 x31, .int .u64 x32]) w')) ∧
  ∃ (x33 : Int), ∃ (x34 : Int), ∃ (x35 : Int), ∃ (x36 : Int), (∀ w' : World, Below w.heap.size w w' → Calls Tryz.prog 102 #[.agg #[.int .i64 x29, .int .u64 x30], .agg #[.int .i64 x31, .int .u64 x32]] w' (Vc.Ret (.tuple #[.agg #[.int .i64 x33, .int .u64 x34], .agg #[.int .i64 x35, .int .u64 x36]]) w')) ∧
  ∃ (b4 : Bool), (∀ w' : World, Below w.heap.size w w' → Calls Tryz.prog 94 #[.agg #[.int .i64 x33, .int .u64 x34], .agg #[.int .i64 x25, .int .u64 x26]] w' (Vc.Ret (.bool b4) w')) ∧
  ((b4 = true) → (
  ∃ (b5 : Bool), (∀ w' : World, Below w.heap.size w w' → Calls Tryz.prog 94 #[.agg #[.int .i64 x27, .int .u64 x28], .agg #[.int .i64 x35, .int .u64 x36]] w' (Vc.Ret (.bool b5) w')) ∧
  ((b5 = true) → (
  ∃ (x37 : Int), ∃ (x38 : Int), ∃ (x39 : Int), (∀ w' : World, Below w.heap.size w w' → Calls Tryz.prog 95 #[.agg #[.int .i64 x33, .int .u64 x34], .agg #[.int .i64 x35, .int .u64 x36]] w' (Vc.Ret (.tuple #[.agg #[.int .i64 x37, .int .i64 x38], .int .i64 x39]) w')) ∧
  (.tuple #[.agg #[.int .i64 x37, .int .i64 x38], .int .i64 x39] : Value) = v)) ∧ (¬ (b5 = true) → (
  ∃ (x37 : Int), ∃ (x38 : Int), ∃ (x39 : Int), (∀ w' : World, Below w.heap.size w w' → Calls Tryz.prog 95 #[.agg #[.int .i64 x33, .int .u64 x34], .agg #[.int .i64 x27, .int .u64 x28]] w' (Vc.Ret (.tuple #[.agg #[.int .i64 x37, .int .i64 x38], .int .i64 x39]) w')) ∧
  (.tuple #[.agg #[.int .i64 x37, .int .i64 x38], .int .i64 x39] : Value) = v)))) ∧ (¬ (b4 = true) → (
  ∃ (b5 : Bool), (∀ w' : World, Below w.heap.size w w' → Calls Tryz.prog 94 #[.agg #[.int .i64 x27, .int .u64 x28], .agg #[.int .i64 x35, .int .u64 x36]] w' (Vc.Ret (.bool b5) w')) ∧
  ((b5 = true) → (
  ∃ (x37 : Int), ∃ (x38 : Int), ∃ (x39 : Int), (∀ w' : World, Below w.heap.size w w' → Calls Tryz.prog 95 #[.agg #[.int .i64 x25, .int .u64 x26], .agg #[.int .i64 x35, .int .u64 x36]] w' (Vc.Ret (.tuple #[.agg #[.int .i64 x37, .int .i64 x38], .int .i64 x39]) w')) ∧
  (.tuple #[.agg #[.int .i64 x37, .int .i64 x38], .int .i64 x39] : Value) = v)) ∧ (¬ (b5 = true) → (
  ∃ (x37 : Int), ∃ (x38 : Int), ∃ (x39 : Int), (∀ w' : World, Below w.heap.size w w' → Calls Tryz.prog 95 #[.agg #[.int .i64 x25, .int .u64 x26], .agg #[.int .i64 x27, .int .u64 x28]] w' (Vc.Ret (.tuple #[.agg #[.int .i64 x37, .int .i64 x38], .int .i64 x39]) w')) ∧
  (.tuple #[.agg #[.int .i64 x37, .int .i64 x38], .int .i64 x39] : Value) = v)))))) ∧ (¬ (b3 = true) → (
  ∃ (x29 : Int), ∃ (x30 : Int), (∀ w' : World, Below w.heap.size w w' → Calls Tryz.prog 98 #[.int .i64 x1] w' (Vc.Ret (.agg #[.int .i64 x29, .int .u64 x30]) w')) ∧
  ∃ (x31 : Int), ∃ (x32 : Int), (∀ w' : World, Below w.heap.size w w' → Calls Tryz.prog 98 #[.int .i64 x3] w' (Vc.Ret (.agg #[.int .i64 x31, .int .u64 x32]) w')) ∧
  ∃ (x33 : Int), ∃ (x34 : Int), ∃ (x35 : Int), ∃ (x36 : Int), (∀ w' : World, Below w.heap.size w w' → Calls Tryz.prog 102 #[.agg #[.int .i64 x29, .int .u64 x30], .agg #[.int .i64 x31, .int .u64 x32]] w' (Vc.Ret (.tuple #[.agg #[.int .i64 x33, .int .u64 x34], .agg #[.int .i64 x35, .int .u64 x36]]) w')) ∧
  ∃ (b4 : Bool), (∀ w' : World, Below w.heap.size w w' → Calls Tryz.prog 94 #[.agg #[.int .i64 x33, .int .u64 x34], .agg #[.int .i64 x25, .int .u64 x26]] w' (Vc.Ret (.bool b4) w')) ∧
  ((b4 = true) → (
  ∃ (b5 : Bool), (∀ w' : World, Below w.heap.size w w' → Calls Tryz.prog 94 #[.agg #[.int .i64 x19, .int .u64 x20], .agg #[.int .i64 x35, .int .u64 x36]] w' (Vc.Ret (.bool b5) w')) ∧
  ((b5 = true) → (
  ∃ (x37 : Int), ∃ (x38 : Int), ∃ (x39 : Int), (∀ w' : World, Below w.heap.size w w' → Calls Tryz.prog 95 #[.agg #[.int .i64 x33, .int .u64 x34], .agg #[.int .i64 x35, .int .u64 x36]] w' (Vc.Ret (.tuple #[.agg #[.int .i64 x37, .int .i64 x38], .int .i64 x39]) w')) ∧
  (.tuple #[.agg #[.int .i64 x37, .int .i64 x38], .int .i64 x39] : Value) = v)) ∧ (¬ (b5 = true) → (
  ∃ (x37 : Int), ∃ (x38 : Int), ∃ (x39 : Int), (∀ w' : World, Below w.heap.size w w' → Calls Tryz.prog 95 #[.agg #[.int .i64 x33, .int .u64 x34], .agg #[.int .i64 x19, .int .u64 x20]] w' (Vc.Ret (.tuple #[.agg #[.int .i64 x37, .int .i64 x38], .int .i64 x39]) w')) ∧
  (.tuple #[.agg #[.int .i64 x37, .int .i64 x38], .int .i64 x39] : Value) = v)))) ∧ (¬ (b4 = true) → (
  ∃ (b5 : Bool), (∀ w' : World, Below w.heap.size w w' → Calls Tryz.prog 94 #[.agg #[.int .i64 x19, .int .u64 x20], .agg #[.int .i64 x35, .int .u64 x36]] w' (Vc.Ret (.bool b5) w')) ∧
  ((b5 = true) → (
  ∃ (x37 : Int), ∃ (x38 : Int), ∃ (x39 : Int), (∀ w' : World, Below w.heap.size w w' → Calls Tryz.prog 95 #[.agg #[.int .i64 x25, .int .u64 x26], .agg #[.int .i64 x35, .int .u64 x36]] w' (Vc.Ret (.tuple #[.agg #[.int .i64 x37, .int .i64 x38], .int .i64 x39]) w')) ∧
  (.tuple #[.agg #[.int .i64 x37, .int .i64 x38], .int .i64 x39] : Value) = v)) ∧ (¬ (b5 = true) → (
  ∃ (x37 : Int), ∃ (x38 : Int), ∃ (x39 : Int), (∀ w' : World, Below w.heap.size w w' → Calls Tryz.prog 95 #[.agg #[.int .i64 x25, .int .u64 x26], .agg #[.int .i64 x19, .int .u64 x20]] w' (Vc.Ret (.tuple #[.agg #[.int .i64 x37, .int .i64 x38], .int .i64 x39]) w')) ∧
  (.tuple #[.agg #[.int .i64 x37, .int .i64 x38], .int .i64 x39] : Value) = v)))))))) ∧ (¬ (b2 = true) → (
  ∃ (b3 : Bool), (∀ w' : World, Below w.heap.size w w' → Calls Tryz.prog 94 #[.agg #[.int .i64 x19, .int .u64 x20], .agg #[.int .i64 x27, .int .u64 x28]] w' (Vc.Ret (.bool b3) w')) ∧
  ((b3 = true) → (
  ∃ (x29 : Int), ∃ (x30 : Int), (∀ w' : World, Below w.heap.size w w' → Calls Tryz.prog 98 #[.int .i64 x1] w' (Vc.Ret (.agg #[.int .i64 x29, .int .u64 x30]) w')) ∧
  ∃ (x31 : Int), ∃ (x32 : Int), (∀ w' : World, Below w.heap.size w w' → Calls Tryz.prog 98 #[.int .i64 x3] w' (Vc.Ret (.agg #[.int .i64 x31, .int .u64 x32]) w')) ∧
  ∃ (x33 : Int), ∃ (x34 : Int), ∃ (x35 : Int), ∃ (x36 : Int), (∀ w' : World, Below w.heap.size w w' → Calls Tryz.prog 102 #[.agg #[.int .i64 x29, .int .u64 x30], .agg #[.int .i64 x31, .int .u64 x32]] w' (Vc.Ret (.tuple #[.agg #[.int .i64 x33, .int .u64 x34], .agg #[.int .i64 x35, .int .u64 x36]]) w')) ∧
  ∃ (b4 : Bool), (∀ w' : World, Below w.heap.size w w' → Calls Tryz.prog 94 #[.agg #[.int .i64 x33, .int .u64 x34], .agg #[.int .i64 x17, .int .u64 x18]] w' (Vc.Ret (.bool b4) w')) ∧
  ((b4 = true) → (
  ∃ (b5 : Bool), (∀ w' : World, Below w.heap.size w w' → Calls Tryz.prog 94 #[.agg #[.int .i64 x27, .int .u64 x28], .agg #[.int .i64 x35, .int .u64 x36]] w' (Vc.Ret (.bool b5) w')) ∧
  ((b5 = true) → (
  ∃ (x37 : Int), ∃ (x38 : Int), ∃ (x39 : Int), (∀ w' : World, Below w.heap.size w w' → Calls Tryz.prog 95 #[.agg #[.int .i64 x33, .int .u64 x34], .agg #[.int .i64 x35, .int .u64 x36]] w' (Vc.Ret (.tuple #[.agg #[.int .i64 x37, .int .i64 x38], .int .i64 x39]) w')) ∧
  (.tuple #[.agg #[.int .i64 x37, .int .i64 x38], .int .i64 x39] : Value) = v)) ∧ (¬ (b5 = true) → (
  ∃ (x37 : Int), ∃ (x38 : Int), ∃ (x39 : Int), (∀ w' : World, Below w.heap.size w w' → Calls Tryz.prog 95 #[.agg #[.int .i64 x33, .int .u64 x34], .agg #[.int .i64 x27, .int .u64 x28]] w' (Vc.Ret (.tuple #[.agg #[.int .i64 x37, .int .i64 x38], .int .i64 x39]) w')) ∧
  (.tuple #[.agg #[.int .i64 x37, .int .i64 x38], .int .i64 x39] : Value) = v)))) ∧ (¬ (b4 = true) → (
  ∃ (b5 : Bool), (∀ w' : World, Below w.heap.size w w' → Calls Tryz.prog 94 #[.agg #[.int .i64 x27, .int .u64 x28], .agg #[.int .i64 x35, .int .u64 x36]] w' (Vc.Ret (.bool b5) w')) ∧
  ((b5 = true) → (
  ∃ (x37 : Int), ∃ (x38 : Int), ∃ (x39 : Int), (∀ w' : World, Below w.heap.size w w' → Calls Tryz.prog 95 #[.agg #[.int .i64 x17, .int .u64 x18], .agg #[.int .i64 x35, .int .u64 x36]] w' (Vc.Ret (.tuple #[.agg #[.int .i64 x37, .int .i64 x38], .int .i64 x39]) w')) ∧
  (.tuple #[.agg #[.int .i64 x37, .int .i64 x38], .int .i64 x39] : Value) = v)) ∧ (¬ (b5 = true) → (
  ∃ (x37 : Int), ∃ (x38 : Int), ∃ (x39 : Int), (∀ w' : World, Below w.heap.size w w' → Calls Tryz.prog 95 #[.agg #[.int .i64 x17, .int .u64 x18], .agg #[.int .i64 x27, .int .u64 x28]] w' (Vc.Ret (.tuple #[.agg #[.int .i64 x37, .int .i64 x38], .int .i64 x39]) w')) ∧
  (.tuple #[.agg #[.int .i64 x37, .int .i64 x38], .int .i64 x39] : Value) = v)))))) ∧ (¬ (b3 = true) → (
  ∃ (x29 : Int), ∃ (x30 : Int), (∀ w' : World, Below w.heap.size w w' → Calls Tryz.prog 98 #[.int .i64 x1] w' (Vc.Ret (.agg #[.int .i64 x29, .int .u64 x30]) w')) ∧
  ∃ (x31 : Int), ∃ (x32 : Int), (∀ w' : World, Below w.heap.size w w' → Calls Tryz.prog 98 #[.int .i64 x3] w' (Vc.Ret (.agg #[.int .i64 x31, .int .u64 x32]) w')) ∧
  ∃ (x33 : Int), ∃ (x34 : Int), ∃ (x35 : Int), ∃ (x36 : Int), (∀ w' : World, Below w.heap.size w w' → Calls Tryz.prog 102 #[.agg #[.int .i64 x29, .int .u64 x30], .agg #[.int .i64 x31, .int .u64 x32]] w' (Vc.Ret (.tuple #[.agg #[.int .i64 x33, .int .u64 x34], .agg #[.int .i64 x35, .int .u64 x36]]) w')) ∧
  ∃ (b4 : Bool), (∀ w' : World, Below w.heap.size w w' → Calls Tryz.prog 94 #[.agg #[.int .i64 x33, .int .u64 x34], .agg #[.int .i64 x17, .int .u64 x18]] w' (Vc.Ret (.bool b4) w')) ∧
  ((b4 = true) → (
  ∃ (b5 : Bool), (∀ w' : World, Below w.heap.size w w' → Calls Tryz.prog 94 #[.agg #[.int .i64 x19, .int .u64 x20], .agg #[.int .i64 x35, .int .u64 x36]] w' (Vc.Ret (.bool b5) w')) ∧
  ((b5 = true) → (
  ∃ (x37 : Int), ∃ (x38 : Int), ∃ (x39 : Int), (∀ w' : World, Below w.heap.size w w' → Calls Tryz.prog 95 #[.agg #[.int .i64 x33, .int .u64 x34], .agg #[.int .i64 x35, .int .u64 x36]] w' (Vc.Ret (.tuple #[.agg #[.int .i64 x37, .int .i64 x38], .int .i64 x39]) w')) ∧
  (.tuple #[.agg #[.int .i64 x37, .int .i64 x38], .int .i64 x39] : Value) = v)) ∧ (¬ (b5 = true) → (
  ∃ (x37 : Int), ∃ (x38 : Int), ∃ (x39 : Int), (∀ w' : World, Below w.heap.size w w' → Calls Tryz.prog 95 #[.agg #[.int .i64 x33, .int .u64 x34], .agg #[.int .i64 x19, .int .u64 x20]] w' (Vc.Ret (.tuple #[.agg #[.int .i64 x37, .int .i64 x38], .int .i64 x39]) w')) ∧
  (.tuple #[.agg #[.int .i64 x37, .int .i64 x38], .int .i64 x39] : Value) = v)))) ∧ (¬ (b4 = true) → (
  ∃ (b5 : Bool), (∀ w' : World, Below w.heap.size w w' → Calls Tryz.prog 94 #[.agg #[.int .i64 x19, .int .u64 x20], .agg #[.int .i64 x35, .int .u64 x36]] w' (Vc.Ret (.bool b5) w')) ∧
  ((b5 = true) → (
  ∃ (x37 : Int), ∃ (x38 : Int), ∃ (x39 : Int), (∀ w' : World, Below w.heap.size w w' → Calls Tryz.prog 95 #[.agg #[.int .i64 x17, .int .u64 x18], .agg #[.int .i64 x35, .int .u64 x36]] w' (Vc.Ret (.tuple #[.agg #[.int .i64 x37, .int .i64 x38], .int .i64 x39]) w')) ∧
  (.tuple #[.agg #[.int .i64 x37, .int .i64 x38], .int .i64 x39] : Value) = v)) ∧ (¬ (b5 = true) → (
  ∃ (x37 : Int), ∃ (x38 : Int), ∃ (x39 : Int), (∀ w' : World, Below w.heap.size w w' → Calls Tryz.prog 95 #[.agg #[.int .i64 x17, .int .u64 x18], .agg #[.int .i64 x19, .int .u64 x20]] w' (Vc.Ret (.tuple #[.agg #[.int .i64 x37, .int .i64 x38], .int .i64 x39]) w')) ∧
  (.tuple #[.agg #[.int .i64 x37, .int .i64 x38], .int .i64 x39] : Value) = v)))))))))) ∧ (¬ (b1 = true) → (
  ∃ (x21 : Int), ∃ (x22 : Int), (∀ w' : World, Below w.heap.size w w' → Calls Tryz.prog 98 #[.int .i64 x1] w' (Vc.Ret (.agg #[.int .i64 x21, .int .u64 x22]) w')) ∧
  ∃ (x23 : Int), ∃ (x24 : Int), (∀ w' : World, Below w.heap.size w w' → Calls Tryz.prog 98 #[.int .i64 x2] w' (Vc.Ret (.agg #[.int .i64 x23, .int .u64 x24]) w')) ∧
  ∃ (x25 : Int), ∃ (x26 : Int), ∃ (x27 : Int), ∃ (x28 : Int), (∀ w' : World, Below w.heap.size w w' → Calls Tryz.prog 102 #[.agg #[.int .i64 x21, .int .u64 x22], .agg #[.int .i64 x23, .int .u64 x24]] w' (Vc.Ret (.tuple #[.agg #[.int .i64 x25, .int .u64 x26], .agg #[.int .i64 x27, .int .u64 x28]]) w')) ∧
  ∃ (b2 : Bool), (∀ w' : World, Below w.heap.size w w' → Calls Tryz.prog 94 #[.agg #[.int .i64 x25, .int .u64 x26], .agg #[.int .i64 x17, .int .u64 x18]] w' (Vc.Ret (.bool b2) w')) ∧
  ((b2 = true) → (
  ∃ (b3 : Bool), (∀ w' : World, Below w.heap.size w w' → Calls Tryz.prog 94 #[.agg #[.int .i64 x11, .int .u64 x12], .agg #[.int .i64 x27, .int .u64 x28]] w' (Vc.Ret (.bool b3) w')) ∧
  ((b3 = true) → (
  ∃ (x29 : Int), ∃ (x30 : Int), (∀ w' : World, Below w.heap.size w w' → Calls Tryz.prog 98 #[.int .i64 x1] w' (Vc.Ret (.agg #[.int .i64 x29, .int .u64 x30]) w')) ∧
  ∃ (x31 : Int), ∃ (x32 : Int), (∀ w' : World, Below w.heap.size w w' → Calls Tryz.prog 98 #[.int .i64 x3] w' (Vc.Ret (.agg #[.int .i64 x31, .int .u64 x32]) w')) ∧
  ∃ (x33 : Int), ∃ (x34 : Int), ∃ (x35 : Int), ∃ (x36 : Int), (∀ w' : World, Below w.heap.size w w' → Calls Tryz.prog 102 #[.agg #[.int .i64 x29, .int .u64 x30], .agg #[.int .i64 x31, .int .u64 x32]] w' (Vc.Ret (.tuple #[.agg #[.int .i64 x33, .int .u64 x34], .agg #[.int .i64 x35, .int .u64 x36]]) w')) ∧
  ∃ (b4 : Bool), (∀ w' : World, Below w.heap.size w w' → Calls Tryz.prog 94 #[.agg #[.int .i64 x33, .int .u64 x34], .agg #[.int .i64 x25, .int .u64 x26]] w' (Vc.Ret (.bool b4) w')) ∧
  ((b4 = true) → (
  ∃ (b5 : Bool), (∀ w' : World, Below w.heap.size w w' → Calls Tryz.prog 94 #[.agg #[.int .i64 x27, .int .u64 x28], .agg #[.int .i64 x35, .int .u64 x36]] w' (Vc.Ret (.bool b5) w')) ∧
  ((b5 = true) → (
  ∃ (x37 : Int), ∃ (x38 : Int), ∃ (x39 : Int), (∀ w' : World, Below w.heap.size w w' → Calls Tryz.prog 95 #[.agg #[.int .i64 x33, .int .u64 x34], .agg #[.int .i64 x35, .int .u64 x36]] w' (Vc.Ret (.tuple #[.agg #[.int .i64 x37, .int .i64 x38], .int .i64 x39]) w')) ∧
  (.tuple #[.agg #[.int .i64 x37, .int .i64 x38], .int .i64 x39] : Value) = v)) ∧ (¬ (b5 = true) → (
  ∃ (x37 : Int), ∃ (x38 : Int), ∃ (x39 : Int), (∀ w' : World, Below w.heap.size w w' → Calls Tryz.prog 95 #[.agg #[.int .i64 x33, .int .u64 x34], .agg #[.int .i64 x27, .int .u64 x28]] w' (Vc.Ret (.tuple #[.agg #[.int .i64 x37, .int .i64 x38], .int .i64 x39]) w')) ∧
  (.tuple #[.agg #[.int .i64 x37, .int .i64 x38], .int .i64 x39] : Value) = v)))) ∧ (¬ (b4 = true) → (
  ∃ (b5 : Bool), (∀ w' : World, Below w.heap.size w w' → Calls Tryz.prog 94 #[.agg #[.int .i64 x27, .int .u64 x28], .agg #[.int .i64 x35, .int .u64 x36]] w' (Vc.Ret (.bool b5) w')) ∧
  ((b5 = true) → (
  ∃ (x37 : Int), ∃ (x38 : Int), ∃ (x39 : Int), (∀ w' : World, Below w.heap.size w w' → Calls Tryz.prog 95 #[.agg #[.int .i64 x25, .int .u64 x26], .agg #[.int .i64 x35, .int .u64 x36]] w' (Vc.Ret (.tuple #[.agg #[.int .i64 x37, .int .i64 x38], .int .i64 x39]) w')) ∧
  (.tuple #[.agg #[.int .i64 x37, .int .i64 x38], .int .i64 x39] : Value) = v)) ∧ (¬ (b5 = true) → (
  ∃ (x37 : Int), ∃ (x38 : Int), ∃ (x39 : Int), (∀ w' : World, Below w.heap.size w w' → Calls Tryz.prog 95 #[.agg #[.int .i64 x25, .int .u64 x26], .agg #[.int .i64 x27, .int .u64 x28]] w' (Vc.Ret (.tuple #[.agg #[.int .i64 x37, .int .i64 x38], .int .i64 x39]) w')) ∧
  (.tuple #[.agg #[.int .i64 x37, .int .i64 x38], .int .i64 x39] : Value) = v)))))) ∧ (¬ (b3 = true) → (
  ∃ (x29 : Int), ∃ (x30 : Int), (∀ w' : World, Below w.heap.size w w' → Calls Tryz.prog 98 #[.int .i64 x1] w' (Vc.Ret (.agg #[.int .i64 x29, .int .u64 x30]) w')) ∧
  ∃ (x31 : Int), ∃ (x32 : Int), (∀ w' : World, Below w.heap.size w w' → Calls Tryz.prog 98 #[.int .i64 x3] w' (Vc.Ret (.agg #[.int .i64 x31, .int .u64 x32]) w')) ∧
  ∃ (x33 : Int), ∃ (x34 : Int), ∃ (x35 : Int), ∃ (x36 : Int), (∀ w' : World, Below w.heap.size w w' → Calls Tryz.prog 102 #[.agg #[.int .i64 x29, .int .u64 x30], .agg #[.int .i64 x31, .int .u64 x32]] w' (Vc.Ret (.tuple #[.agg #[.int .i64 x33, .int .u64 x34], .agg #[.int .i64 x35, .int .u64 x36]]) w')) ∧
  ∃ (b4 : Bool), (∀ w' : World, Below w.heap.size w w' → Calls Tryz.prog 94 #[.agg #[.int .i64 x33, .int .u64 x34], .agg #[.int .i64 x25, .int .u64 x26]] w' (Vc.Ret (.bool b4) w')) ∧
  ((b4 = true) → (
  ∃ (b5 : Bool), (∀ w' : World, Below w.heap.size w w' → Calls Tryz.prog 94 #[.agg #[.int .i64 x11, .int .u64 x12], .agg #[.int .i64 x35, .int .u64 x36]] w' (Vc.Ret (.bool b5) w')) ∧
  ((b5 = true) → (
  ∃ (x37 : Int), ∃ (x38 : Int), ∃ (x39 : Int), (∀ w' : World, Below w.heap.size w w' → Calls Tryz.prog 95 #[.agg #[.int .i64 x33, .int .u64 x34], .agg #[.int .i64 x35, .int .u64 x36]] w' (Vc.Ret (.tuple #[.agg #[.int .i64 x37, .int .i64 x38], .int .i64 x39]) w')) ∧
  (.tuple #[.agg #[.int .i64 x37, .int .i64 x38], .int .i64 x39] : Value) = v)) ∧ (¬ (b5 = true) → (
  ∃ (x37 : Int), ∃ (x38 : Int), ∃ (x39 : Int), (∀ w' : World, Below w.heap.size w w' → Calls Tryz.prog 95 #[.agg #[.int .i64 x33, .int .u64 x34], .agg #[.int .i64 x11, .int .u64 x12]] w' (Vc.Ret (.tuple #[.agg #[.int .i64 x37, .int .i64 x38], .int .i64 x39]) w')) ∧
  (.tuple #[.agg #[.int .i64 x37, .int .i64 x38], .int .i64 x39] : Value) = v)))) ∧ (¬ (b4 = true) → (
  ∃ (b5 : Bool), (∀ w' : World, Below w.heap.size w w' → Calls Tryz.prog 94 #[.agg #[.int .i64 x11, .int .u64 x12], .agg #[.int .i64 x35, .int .u64 x36]] w' (Vc.Ret (.bool b5) w')) ∧
  ((b5 = true) → (
  ∃ (x37 : Int), ∃ (x38 : Int), ∃ (x39 : Int), (∀ w' : World, Below w.heap.size w w' → Calls Tryz.prog 95 #[.agg #[.int .i64 x25, .int .u64 x26], .agg #[.int .i64 x35, .int .u64 x36]] w' (Vc.Ret (.tuple #[.agg #[.int .i64 x37, .int .i64 x38], .int .i64 x39]) w')) ∧
  (.tuple #[.agg #[.int .i64 x37, .int .i64 x38], .int .i64 x39] : Value) = v)) ∧ (¬ (b5 = true) → (
  ∃ (x37 : Int), ∃ (x38 : Int), ∃ (x39 : Int), (∀ w' : World, Below w.heap.size w w' → Calls Tryz.prog 95 #[.agg #[.int .i64 x25, .int .u64 x26], .agg #[.int .i64 x11, .int .u64 x12]] w' (Vc.Ret (.tuple #[.agg #[.int .i64 x37, .int .i64 x38], .int .i64 x39]) w')) ∧
  (.tuple #[.agg #[.int .i64 x37, .int .i64 x38], .int .i64 x39] : Value) = v)))))))) ∧ (¬ (b2 = true) → (
  ∃ (b3 : Bool), (∀ w' : World, Below w.heap.size w w' → Calls Tryz.prog 94 #[.agg #[.int .i64 x11, .int .u64 x12], .agg #[.int .i64 x27, .int .u64 x28]] w' (Vc.Ret (.bool b3) w')) ∧
  ((b3 = true) → (
  ∃ (x29 : Int), ∃ (x30 : Int), (∀ w' : World, Below w.heap.size w w' → Calls Tryz.prog 98 #[.int .i64 x1] w' (Vc.Ret (.agg #[.int .i64 x29, .int .u64 x30]) w')) ∧
  ∃ (x31 : Int), ∃ (x32 : Int), (∀ w' : World, Below w.heap.size w w' → Calls Tryz.prog 98 #[.int .i64 x3] w' (Vc.Ret (.agg #[.int .i64 x31, .int .u64 x32]) w')) ∧
  ∃ (x33 : Int), ∃ (x34 : Int), ∃ (x35 : Int), ∃ (x36 : Int), (∀ w' : World, Below w.heap.size w w' → Calls Tryz.prog 102 #[.agg #[.int .i64 x29, .int .u64 x30], .agg #[.int .i64 x31, .int .u64 x32]] w' (Vc.Ret (.tuple #[.agg #[.int .i64 x33, .int .u64 x34], .agg #[.int .i64 x35, .int .u64 x36]]) w')) ∧
  ∃ (b4 : Bool), (∀ w' : World, Below w.heap.size w w' → Calls Tryz.prog 94 #[.agg #[.int .i64 x33, .int .u64 x34], .agg #[.int .i64 x17, .int .u64 x18]] w' (Vc.Ret (.bool b4) w')) ∧
  ((b4 = true) → (
  ∃ (b5 : Bool), (∀ w' : World, Below w.heap.size w w' → Calls Tryz.prog 94 #[.agg #[.int .i64 x27, .int .u64 x28], .agg #[.int .i64 x35, .int .u64 x36]] w' (Vc.Ret (.bool b5) w')) ∧
  ((b5 = true) → (
  ∃ (x37 : Int), ∃ (x38 : Int), ∃ (x39 : Int), (∀ w' : World, Below w.heap.size w w' → Calls Tryz.prog 95 #[.agg #[.int .i64 x33, .int .u64 x34], .agg #[.int .i64 x35, .int .u64 x36]] w' (Vc.Ret (.tuple #[.agg #[.int .i64 x37, .int .i64 x38], .int .i64 x39]) w')) ∧
  (.tuple #[.agg #[.int .i64 x37, .int .i64 x38], .int .i64 x39] : Value) = v)) ∧ (¬ (b5 = true) → (
  ∃ (x37 : Int), ∃ (x38 : Int), ∃ (x39 : Int), (∀ w' : World, Below w.heap.size w w' → Calls Tryz.prog 95 #[.agg #[.int .i64 x33, .int .u64 x34], .agg #[.int .i64 x27, .int .u64 x28]] w' (Vc.Ret (.tuple #[.agg #[.int .i64 x37, .int .i64 x38], .int .i64 x39]) w')) ∧
  (.tuple #[.agg #[.int .i64 x37, .int .i64 x38], .int .i64 x39] : Value) = v)))) ∧ (¬ (b4 = true) → (
  ∃ (b5 : Bool), (∀ w' : World, Below w.heap.size w w' → Calls Tryz.prog 94 #[.agg #[.int .i64 x27, .int .u64 x28], .agg #[.int .i64 x35, .int .u64 x36]] w' (Vc.Ret (.bool b5) w')) ∧
  ((b5 = true) → (
  ∃ (x37 : Int), ∃ (x38 : Int), ∃ (x39 : Int), (∀ w' : World, Below w.heap.size w w' → Calls Tryz.prog 95 #[.agg #[.int .i64 x17, .int .u64 x18], .agg #[.int .i64 x35, .int .u64 x36]] w' (Vc.Ret (.tuple #[.agg #[.int .i64 x37, .int .i64 x38], .int .i64 x39]) w')) ∧
  (.tuple #[.agg #[.int .i64 x37, .int .i64 x38], .int .i64 x39] : Value) = v)) ∧ (¬ (b5 = true) → (
  ∃ (x37 : Int), ∃ (x38 : Int), ∃ (x39 : Int), (∀ w' : World, Below w.heap.size w w' → Calls Tryz.prog 95 #[.agg #[.int .i64 x17, .int .u64 x18], .agg #[.int .i64 x27, .int .u64 x28]] w' (Vc.Ret (.tuple #[.agg #[.int .i64 x37, .int .i64 x38], .int .i64 x39]) w')) ∧
  (.tuple #[.agg #[.int .i64 x37, .int .i64 x38], .int .i64 x39] : Value) = v)))))) ∧ (¬ (b3 = true) → (
  ∃ (x29 : Int), ∃ (x30 : Int), (∀ w' : World, Below w.heap.size w w' → Calls Tryz.prog 98 #[.int .i64 x1] w' (Vc.Ret (.agg #[.int .i64 x29, .int .u64 x30]) w')) ∧
  ∃ (x31 : Int), ∃ (x32 : Int), (∀ w' : World, Below w.heap.size w w' → Calls Tryz.prog 98 #[.int .i64 x3] w' (Vc.Ret (.agg #[.int .i64 x31, .int .u64 x32]) w')) ∧
  ∃ (x33 : Int), ∃ (x34 : Int), ∃ (x35 : Int), ∃ (x36 : Int), (∀ w' : World, Below w.heap.size w w' → Calls Tryz.prog 102 #[.agg #[.int .i64 x29, .int .u64 x30], .agg #[.int .i64 x31, .int .u64 x32]] w' (Vc.Ret (.tuple #[.agg #[.int .i64 x33, .int .u64 x34], .agg #[.int .i64 x35, .int .u64 x36]]) w')) ∧
  ∃ (b4 : Bool), (∀ w' : World, Below w.heap.size w w' → Calls Tryz.prog 94 #[.agg #[.int .i64 x33, .int .u64 x34], .agg #[.int .i64 x17, .int .u64 x18]] w' (Vc.Ret (.bool b4) w')) ∧
  ((b4 = true) → (
  ∃ (b5 : Bool), (∀ w' : World, Below w.heap.size w w' → Calls Tryz.prog 94 #[.agg #[.int .i64 x11, .int .u64 x12], .agg #[.int .i64 x35, .int .u64 x36]] w' (Vc.Ret (.bool b5) w')) ∧
  ((b5 = true) → (
  ∃ (x37 : Int), ∃ (x38 : Int), ∃ (x39 : Int), (∀ w' : World, Below w.heap.size w w' → Calls Tryz.prog 95 #[.agg #[.int .i64 x33, .int .u64 x34], .agg #[.int .i64 x35, .int .u64 x36]] w' (Vc.Ret (.tuple #[.agg #[.int .i64 x37, .int .i64 x38], .int .i64 x39]) w')) ∧
  (.tuple #[.agg #[.int .i64 x37, .int .i64 x38], .int .i64 x39] : Value) = v)) ∧ (¬ (b5 = true) → (
  ∃ (x37 : Int), ∃ (x38 : Int), ∃ (x39 : Int), (∀ w' : World, Below w.heap.size w w' → Calls Tryz.prog 95 #[.agg #[.int .i64 x33, .int .u64 x34], .agg #[.int .i64 x11, .int .u64 x12]] w' (Vc.Ret (.tuple #[.agg #[.int .i64 x37, .int .i64 x38], .int .i64 x39]) w')) ∧
  (.tuple #[.agg #[.int .i64 x37, .int .i64 x38], .int .i64 x39] : Value) = v)))) ∧ (¬ (b4 = true) → (
  ∃ (b5 : Bool), (∀ w' : World, Below w.heap.size w w' → Calls Tryz.prog 94 #[.agg #[.int .i64 x11, .int .u64 x12], .agg #[.int .i64 x35, .int .u64 x36]] w' (Vc.Ret (.bool b5) w')) ∧
  ((b5 = true) → (
  ∃ (x37 : Int), ∃ (x38 : Int), ∃ (x39 : Int), (∀ w' : World, Below w.heap.size w w' → Calls Tryz.prog 95 #[.agg #[.int .i64 x17, .int .u64 x18], .agg #[.int .i64 x35, .int .u64 x36]] w' (Vc.Ret (.tuple #[.agg #[.int .i64 x37, .int .i64 x38], .int .i64 x39]) w')) ∧
  (.tuple #[.agg #[.int .i64 x37, .int .i64 x38], .int .i64 x39] : Value) = v)) ∧ (¬ (b5 = true) → (
  ∃ (x37 : Int), ∃ (x38 : Int), ∃ (x39 : Int), (∀ w' : World, Below w.heap.size w w' → Calls Tryz.prog 95 #[.agg #[.int .i64 x17, .int .u64 x18], .agg #[.int .i64 x11, .int .u64 x12]] w' (Vc.Ret (.tuple #[.agg #[.int .i64 x37, .int .i64 x38], .int .i64 x39]) w')) ∧
  (.tuple #[.agg #[.int .i64 x37, .int .i64 x38], .int .i64 x39] : Value) = v)))))))))))) ∧ (¬ (b0 = true) → (
  ∃ (b1 : Bool), (∀ w' : World, Below w.heap.size w w' → Calls Tryz.prog 94 #[.agg #[.int .i64 x11, .int .u64 x12], .agg #[.int .i64 x19, .int .u64 x20]] w' (Vc.Ret (.bool b1) w')) ∧
  ((b1 = true) → (
  ∃ (x21 : Int), ∃ (x22 : Int), (∀ w' : World, Below w.heap.size w w' → Calls Tryz.prog 98 #[.int .i64 x1] w' (Vc.Ret (.agg #[.int .i64 x21, .int .u64 x22]) w')) ∧
  ∃ (x23 : Int), ∃ (x24 : Int), (∀ w' : World, Below w.heap.size w w' → Calls Tryz.prog 98 #[.int .i64 x2] w' (Vc.Ret (.agg #[.int .i64 x23, .int .u64 x24]) w')) ∧
  ∃ (x25 : Int), ∃ (x26 : Int), ∃ (x27 : Int), ∃ (x28 : Int), (∀ w' : World, Below w.heap.size w w' → Calls Tryz.prog 102 #[.agg #[.int .i64 x21, .int .u64 x22], .agg #[.int .i64 x23, .int .u64 x24]] w' (Vc.Ret (.tuple #[.agg #[.int .i64 x25, .int .u64 x26], .agg #[.int .i64 x27, .int .u64 x28]]) w')) ∧
  ∃ (b2 : Bool), (∀ w' : World, Below w.heap.size w w' → Calls Tryz.prog 94 #[.agg #[.int .i64 x25, .int .u64 x26], .agg #[.int .i64 x9, .int .u64 x10]] w' (Vc.Ret (.bool b2) w')) ∧
  ((b2 = true) → (
  ∃ (b3 : Bool), (∀ w' : World, Below w.heap.size w w' → Calls Tryz.prog 94 #[.agg #[.int .i64 x19, .int .u64 x20], .agg #[.int .i64 x27, .int .u64 x28]] w' (Vc.Ret (.bool b3) w')) ∧
  ((b3 = true) → (
  ∃ (x29 : Int), ∃ (x30 : Int), (∀ w' : World, Below w.heap.size w w' → Calls Tryz.prog 98 #[.int .i64 x1] w' (Vc.Ret (.agg #[.int .i64 x29, .int .u64 x30]) w')) ∧
  ∃ (x31 : Int), ∃ (x32 : Int), (∀ w' : World, Below w.heap.size w w' → Calls Tryz.prog 98 #[.int .i64 x3] w' (Vc.Ret (.agg #[.int .i64 x31, .int .u64 x32]) w')) ∧
  ∃ (x33 : Int), ∃ (x34 : Int), ∃ (x35 : Int), ∃ (x36 : Int), (∀ w' : World, Below w.heap.size w w' → Calls Tryz.prog 102 #[.agg #[.int .i64 x29, .int .u64 x30], .agg #[.int .i64 x31, .int .u64 x32]] w' (Vc.Ret (.tuple #[.agg #[.int .i64 x33, .int .u64 x34], .agg #[.int .i64 x35, .int .u64 x36]]) w')) ∧
  ∃ (b4 : Bool), (∀ w' : World, Below w.heap.size w w' → Calls Tryz.prog 94 #[.agg #[.int .i64 x33, .int .u64 x34], .agg #[.int .i64 x25, .int .u64 x26]] w' (Vc.Ret (.bool b4) w')) ∧
  ((b4 = true) → (
  ∃ (b5 : Bool), (∀ w' : World, Below w.heap.size w w' → Calls Tryz.prog 94 #[.agg #[.int .i64 x27, .int .u64 x28], .agg #[.int .i64 x35, .int .u64 x36]] w' (Vc.Ret (.bool b5) w')) ∧
  ((b5 = true) → (
  ∃ (x37 : Int), ∃ (x38 : Int), ∃ (x39 : Int), (∀ w' : World, Below w.heap.size w w' → Calls Tryz.prog 95 #[.agg #[.int .i64 x33, .int .u64 x34], .agg #[.int .i64 x35, .int .u64 x36]] w' (Vc.Ret (.tuple #[.agg #[.int .i64 x37, .int .i64 x38], .int .i64 x39]) w')) ∧
  (.tuple #[.agg #[.int .i64 x37, .int .i64 x38], .int .i64 x39] : Value) = v)) ∧ (¬ (b5 = true) → (
  ∃ (x37 : Int), ∃ (x38 : Int), ∃ (x39 : Int), (∀ w' : World, Below w.heap.size w w' → Calls Tryz.prog 95 #[.agg #[.int .i64 x33, .int .u64 x34], .agg #[.int .i64 x27, .int .u64 x28]] w' (Vc.Ret (.tuple #[.agg #[.int .i64 x37, .int .i64 x38], .int .i64 x39]) w')) ∧
  (.tuple #[.agg #[.int .i64 x37, .int .i64 x38], .int .i64 x39] : Value) = v)))) ∧ (¬ (b4 = true) → (
  ∃ (b5 : Bool), (∀ w' : World, Below w.heap.size w w' → Calls Tryz.prog 94 #[.agg #[.int .i64 x27, .int .u64 x28], .agg #[.int .i64 x35, .int .u64 x36]] w' (Vc.Ret (.bool b5) w')) ∧
  ((b5 = true) → (
  ∃ (x37 : Int), ∃ (x38 : Int), ∃ (x39 : Int), (∀ w' : World, Below w.heap.size w w' → Calls Tryz.prog 95 #[.agg #[.int .i64 x25, .int .u64 x26], .agg #[.int .i64 x35, .int .u64 x36]] w' (Vc.Ret (.tuple #[.agg #[.int .i64 x37, .int .i64 x38], .int .i64 x39]) w')) ∧
  (.tuple #[.agg #[.int .i64 x37, .int .i64 x38], .int .i64 x39] : Value) = v)) ∧ (¬ (b5 = true) → (
  ∃ (x37 : Int), ∃ (x38 : Int), ∃ (x39 : Int), (∀ w' : World, Below w.heap.size w w' → Calls Tryz.prog 95 #[.agg #[.int .i64 x25, .int .u64 x26], .agg #[.int .i64 x27, .int .u64 x28]] w' (Vc.Ret (.tuple #[.agg #[.int .i64 x37, .int .i64 x38], .int .i64 x39]) w')) ∧
  (.tuple #[.agg #[.int .i64 x37, .int .i64 x38], .int .i64 x39] : Value) = v)))))) ∧ (¬ (b3 = true) → (
  ∃ (x29 : Int), ∃ (x30 : Int), (∀ w' : World, Below w.heap.size w w' → Calls Tryz.prog 98 #[.int .i64 x1] w' (Vc.Ret (.agg #[.int .i64 x29, .int .u64 x30]) w')) ∧
  ∃ (x31 : Int), ∃ (x32 : Int), (∀ w' : World, Below w.heap.size w w' → Calls Tryz.prog 98 #[.int .i64 x3] w' (Vc.Ret (.agg #[.int .i64 x31, .int .u64 x32]) w')) ∧
  ∃ (x33 : Int), ∃ (x34 : Int), ∃ (x35 : Int), ∃ (x36 : Int), (∀ w' : World, Below w.heap.size w w' → Calls Tryz.prog 102 #[.agg #[.int .i64 x29, .int .u64 x30], .agg #[.int .i64 x31, .int .u64 x32]] w' (Vc.Ret (.tuple #[.agg #[.int .i64 x33, .int .u64 x34], .agg #[.int .i64 x35, .int .u64 x36]]) w')) ∧
  ∃ (b4 : Bool), (∀ w' : World, Below w.heap.size w w' → Calls Tryz.prog 94 #[.agg #[.int .i64 x33, .int .u64 x34], .agg #[.int .i64 x25, .int .u64 x26]] w' (Vc.Ret (.bool b4) w')) ∧
  ((b4 = true) → (
  ∃ (b5 : Bool), (∀ w' : World, Below w.heap.size w w' → Calls Tryz.prog 94 #[.agg #[.int .i64 x19, .int .u64 x20], .agg #[.int .i64 x35, .int .u64 x36]] w' (Vc.Ret (.bool b5) w')) ∧
  ((b5 = true) → (
  ∃ (x37 : Int), ∃ (x38 : Int), ∃ (x39 : Int), (∀ w' : World, Below w.heap.size w w' → Calls Tryz.prog 95 #[.agg #[.int .i64 x33, .int .u64 x34], .agg #[.int .i64 x35, .int .u64 x36]] w' (Vc.Ret (.tuple #[.agg #[.int .i64 x37, .int .i64 x38], .int .i64 x39]) w')) ∧
  (.tuple #[.agg #[.int .i64 x37, .int .i64 x38], .int .i64 x39] : Value) = v)) ∧ (¬ (b5 = true) → (
  ∃ (x37 : Int), ∃ (x38 : Int), ∃ (x39 : Int), (∀ w' : World, Below w.heap.size w w' → Calls Tryz.prog 95 #[.agg #[.int .i64 x33, .int .u64 x34], .agg #[.int .i64 x19, .int .u64 x20]] w' (Vc.Ret (.tuple #[.agg #[.int .i64 x37, .int .i64 x38], .int .i64 x39]) w')) ∧
  (.tuple #[.agg #[.int .i64 x37, .int .i64 x38], .int .i64 x39] : Value) = v)))) ∧ (¬ (b4 = true) → (
  ∃ (b5 : Bool), (∀ w' : World, Below w.heap.size w w' → Calls Tryz.prog 94 #[.agg #[.int .i64 x19, .int .u64 x20], .agg #[.int .i64 x35, .int .u64 x36]] w' (Vc.Ret (.bool b5) w')) ∧
  ((b5 = true) → (
  ∃ (x37 : Int), ∃ (x38 : Int), ∃ (x39 : Int), (∀ w' : World, Below w.heap.size w w' → Calls Tryz.prog 95 #[.agg #[.int .i64 x25, .int .u64 x26], .agg #[.int .i64 x35, .int .u64 x36]] w' (Vc.Ret (.tuple #[.agg #[.int .i64 x37, .int .i64 x38], .int .i64 x39]) w')) ∧
  (.tuple #[.agg #[.int .i64 x37, .int .i64 x38], .int .i64 x39] : Value) = v)) ∧ (¬ (b5 = true) → (
  ∃ (x37 : Int), ∃ (x38 : Int), ∃ (x39 : Int), (∀ w' : World, Below w.heap.size w w' → Calls Tryz.prog 95 #[.agg #[.int .i64 x25, .int .u64 x26], .agg #[.int .i64 x19, .int .u64 x20]] w' (Vc.Ret (.tuple #[.agg #[.int .i64 x37, .int .i64 x38], .int .i64 x39]) w')) ∧
  (.tuple #[.agg #[.int .i64 x37, .int .i64 x38], .int .i64 x39] : Value) = v)))))))) ∧ (¬ (b2 = true) → (
  ∃ (b3 : Bool), (∀ w' : World, Below w.heap.size w w' → Calls Tryz.prog 94 #[.agg #[.int .i64 x19, .int .u64 x20], .agg #[.int .i64 x27, .int .u64 x28]] w' (Vc.Ret (.bool b3) w')) ∧
  ((b3 = true) → (
  ∃ (x29 : Int), ∃ (x30 : Int), (∀ w' : World, Below w.heap.size w w' → Calls Tryz.prog 98 #[.int .i64 x1] w' (Vc.Ret (.agg #[.int .i64 x29, .int .u64 x30]) w')) ∧
  ∃ (x31 : Int), ∃ (x32 : Int), (∀ w' : World, Below w.heap.size w w' → Calls Tryz.prog 98 #[.int .i64 x3] w' (Vc.Ret (.agg #[.int .i64 x31, .int .u64 x32]) w')) ∧
  ∃ (x33 : Int), ∃ (x34 : Int), ∃ (x35 : Int), ∃ (x36 : Int), (∀ w' : World, Below w.heap.size w w' → Calls Tryz.prog 102 #[.agg #[.int .i64 x29, .int .u64 x30], .agg #[.int .i64 x31, .int .u64 x32]] w' (Vc.Ret (.tuple #[.agg #[.int .i64 x33, .int .u64 x34], .agg #[.int .i64 x35, .int .u64 x36]]) w')) ∧
  ∃ (b4 : Bool), (∀ w' : World, Below w.heap.size w w' → Calls Tryz.prog 94 #[.agg #[.int .i64 x33, .int .u64 x34], .agg #[.int .i64 x9, .int .u64 x10]] w' (Vc.Ret (.bool b4) w')) ∧
  ((b4 = true) → (
  ∃ (b5 : Bool), (∀ w' : World, Below w.heap.size w w' → Calls Tryz.prog 94 #[.agg #[.int .i64 x27, .int .u64 x28], .agg #[.int .i64 x35, .int .u64 x36]] w' (Vc.Ret (.bool b5) w')) ∧
  ((b5 = true) → (
  ∃ (x37 : Int), ∃ (x38 : Int), ∃ (x39 : Int), (∀ w' : World, Below w.heap.size w w' → Calls Tryz.prog 95 #[.agg #[.int .i64 x33, .int .u64 x34], .agg #[.int .i64 x35, .int .u64 x36]] w' (Vc.Ret (.tuple #[.agg #[.int .i64 x37, .int .i64 x38], .int .i64 x39]) w')) ∧
  (.tuple #[.agg #[.int .i64 x37, .int .i64 x38], .int .i64 x39] : Value) = v)) ∧ (¬ (b5 = true) → (
  ∃ (x37 : Int), ∃ (x38 : Int), ∃ (x39 : Int), (∀ w' : World, Below w.heap.size w w' → Calls Tryz.prog 95 #[.agg #[.int .i64 x33, .int .u64 x34], .agg #[.int .i64 x27, .int .u64 x28]] w' (Vc.Ret (.tuple #[.agg #[.int .i64 x37, .int .i64 x38], .int .i64 x39]) w')) ∧
  (.tuple #[.agg #[.int .i64 x37, .int .i64 x38], .int .i64 x39] : Value) = v)))) ∧ (¬ (b4 = true) → (
  ∃ (b5 : Bool), (∀ w' : World, Below w.heap.size w w' → Calls Tryz.prog 94 #[.agg #[.int .i64 x27, .int .u64 x28], .agg #[.int .i64 x35, .int .u64 x36]] w' (Vc.Ret (.bool b5) w')) ∧
  ((b5 = true) → (
  ∃ (x37 : Int), ∃ (x38 : Int), ∃ (x39 : Int), (∀ w' : World, Below w.heap.size w w' → Calls Tryz.prog 95 #[.agg #[.int .i64 x9, .int .u64 x10], .agg #[.int .i64 x35, .int .u64 x36]] w' (Vc.Ret (.tuple #[.agg #[.int .i64 x37, .int .i64 x38], .int .i64 x39]) w')) ∧
  (.tuple #[.agg #[.int .i64 x37, .int .i64 x38], .int .i64 x39] : Value) = v)) ∧ (¬ (b5 = true) → (
  ∃ (x37 : Int), ∃ (x38 : Int), ∃ (x39 : Int), (∀ w' : World, Below w.heap.size w w' → Calls Tryz.prog 95 #[.agg #[.int .i64 x9, .int .u64 x10], .agg #[.int .i64 x27, .int .u64 x28]] w' (Vc.Ret (.tuple #[.agg #[.int .i64 x37, .int .i64 x38], .int .i64 x39]) w')) ∧
  (.tuple #[.agg #[.int .i64 x37, .int .i64 x38], .int .i64 x39] : Value) = v)))))) ∧ (¬ (b3 = true) → (
  ∃ (x29 : Int), ∃ (x30 : Int), (∀ w' : World, Below w.heap.size w w' → Calls Tryz.prog 98 #[.int .i64 x1] w' (Vc.Ret (.agg #[.int .i64 x29, .int .u64 x30]) w')) ∧
  ∃ (x31 : Int), ∃ (x32 : Int), (∀ w' : World, Below w.heap.size w w' → Calls Tryz.prog 98 #[.int .i64 x3] w' (Vc.Ret (.agg #[.int .i64 x31, .int .u64 x32]) w')) ∧
  ∃ (x33 : Int), ∃ (x34 : Int), ∃ (x35 : Int), ∃ (x36 : Int), (∀ w' : World, Below w.heap.size w w' → Calls Tryz.prog 102 #[.agg #[.int .i64 x29, .int .u64 x30], .agg #[.int .i64 x31, .int .u64 x32]] w' (Vc.Ret (.tuple #[.agg #[.int .i64 x33, .int .u64 x34], .agg #[.int .i64 x35, .int .u64 x36]]) w')) ∧
  ∃ (b4 : Bool), (∀ w' : World, Below w.heap.size w w' → Calls Tryz.prog 94 #[.agg #[.int .i64 x33, .int .u64 x34], .agg #[.int .i64 x9, .int .u64 x10]] w' (Vc.Ret (.bool b4) w')) ∧
  ((b4 = true) → (
  ∃ (b5 : Bool), (∀ w' : World, Below w.heap.size w w' → Calls Tryz.prog 94 #[.agg #[.int .i64 x19, .int .u64 x20], .agg #[.int .i64 x35, .int .u64 x36]] w' (Vc.Ret (.bool b5) w')) ∧
  ((b5 = true) → (
  ∃ (x37 : Int), ∃ (x38 : Int), ∃ (x39 : Int), (∀ w' : World, Below w.heap.size w w' → Calls Tryz.prog 95 #[.agg #[.int .i64 x33, .int .u64 x34], .agg #[.int .i64 x35, .int .u64 x36]] w' (Vc.Ret (.tuple #[.agg #[.int .i64 x37, .int .i64 x38], .int .i64 x39]) w')) ∧
  (.tuple #[.agg #[.int .i64 x37, .int .i64 x38], .int .i64 x39] : Value) = v)) ∧ (¬ (b5 = true) → (
  ∃ (x37 : Int), ∃ (x38 : Int), ∃ (x39 : Int), (∀ w' : World, Below w.heap.size w w' → Calls Tryz.prog 95 #[.agg #[.int .i64 x33, .int .u64 x34], .agg #[.int .i64 x19, .int .u64 x20]] w' (Vc.Ret (.tuple #[.agg #[.int .i64 x37, .int .i64 x38], .int .i64 x39]) w')) ∧
  (.tuple #[.agg #[.int .i64 x37, .int .i64 x38], .int .i64 x39] : Value) = v)))) ∧ (¬ (b4 = true) → (
  ∃ (b5 : Bool), (∀ w' : World, Below w.heap.size w w' → Calls Tryz.prog 94 #[.agg #[.int .i64 x19, .int .u64 x20], .agg #[.int .i64 x35, .int .u64 x36]] w' (Vc.Ret (.bool b5) w')) ∧
  ((b5 = true) → (
  ∃ (x37 : Int), ∃ (x38 : Int), ∃ (x39 : Int), (∀ w' : World, Below w.heap.size w w' → Calls Tryz.prog 95 #[.agg #[.int .i64 x9, .int .u64 x10], .agg #[.int .i64 x35, .int .u64 x36]] w' (Vc.Ret (.tuple #[.agg #[.int .i64 x37, .int .i64 x38], .int .i64 x39]) w')) ∧
  (.tuple #[.agg #[.int .i64 x37, .int .i64 x38], .int .i64 x39] : Value) = v)) ∧ (¬ (b5 = true) → (
  ∃ (x37 : Int), ∃ (x38 : Int), ∃ (x39 : Int), (∀ w' : World, Below w.heap.size w w' → Calls Tryz.prog 95 #[.agg #[.int .i64 x9, .int .u64 x10], .agg #[.int .i64 x19, .int .u64 x20]] w' (Vc.Ret (.tuple #[.agg #[.int .i64 x37, .int .i64 x38], .int .i64 x39]) w')) ∧
  (.tuple #[.agg #[.int .i64 x37, .int .i64 x38], .int .i64 x39] : Value) = v)))))))))) ∧ (¬ (b1 = true) → (
  ∃ (x21 : Int), ∃ (x22 : Int), (∀ w' : World, Below w.heap.size w w' → Calls Tryz.prog 98 #[.int .i64 x1] w' (Vc.Ret (.agg #[.int .i64 x21, .int .u64 x22]) w')) ∧
  ∃ (x23 : Int), ∃ (x24 : Int), (∀ w' : World, Below w.heap.size w w' → Calls Tryz.prog 98 #[.int .i64 x2] w' (Vc.Ret (.agg #[.int .i64 x23, .int .u64 x24]) w')) ∧
  ∃ (x25 : Int), ∃ (x26 : Int), ∃ (x27 : Int), ∃ (x28 : Int), (∀ w' : World, Below w.heap.size w w' → Calls Tryz.prog 102 #[.agg #[.int .i64 x21, .int .u64 x22], .agg #[.int .i64 x23, .int .u64 x24]] w' (Vc.Ret (.tuple #[.agg #[.int .i64 x25, .int .u64 x26], .agg #[.int .i64 x27, .int .u64 x28]]) w')) ∧
  ∃ (b2 : Bool), (∀ w' : World, Below w.heap.size w w' → Calls Tryz.prog 94 #[.agg #[.int .i64 x25, .int .u64 x26], .agg #[.int .i64 x9, .int .u64 x10]] w' (Vc.Ret (.bool b2) w')) ∧
  ((b2 = true) → (
  ∃ (b3 : Bool), (∀ w' : World, Below w.heap.size w w' → Calls Tryz.prog 94 #[.agg #[.int .i64 x11, .int .u64 x12], .agg #[.int .i64 x27, .int .u64 x28]] w' (Vc.Ret (.bool b3) w')) ∧
  ((b3 = true) → (
  ∃ (x29 : Int), ∃ (x30 : Int), (∀ w' : World, Below w.heap.size w w' → Calls Tryz.prog 98 #[.int .i64 x1] w' (Vc.Ret (.agg #[.int .i64 x29, .int .u64 x30]) w')) ∧
  ∃ (x31 : Int), ∃ (x32 : Int), (∀ w' : World, Below w.heap.size w w' → Calls Tryz.prog 98 #[.int .i64 x3] w' (Vc.Ret (.agg #[.int .i64 x31, .int .u64 x32]) w')) ∧
  ∃ (x33 : Int), ∃ (x34 : Int), ∃ (x35 : Int), ∃ (x36 : Int), (∀ w' : World, Below w.heap.size w w' → Calls Tryz.prog 102 #[.agg #[.int .i64 x29, .int .u64 x30], .agg #[.int .i64 x31, .int .u64 x32]] w' (Vc.Ret (.tuple #[.agg #[.int .i64 x33, .int .u64 x34], .agg #[.int .i64 x35, .int .u64 x36]]) w')) ∧
  ∃ (b4 : Bool), (∀ w' : World, Below w.heap.size w w' → Calls Tryz.prog 94 #[.agg #[.int .i64 x33, .int .u64 x34], .agg #[.int .i64 x25, .int .u64 x26]] w' (Vc.Ret (.bool b4) w')) ∧
  ((b4 = true) → (
  ∃ (b5 : Bool), (∀ w' : World, Below w.heap.size w w' → Calls Tryz.prog 94 #[.agg #[.int .i64 x27, .int .u64 x28], .agg #[.int .i64 x35, .int .u64 x36]] w' (Vc.Ret (.bool b5) w')) ∧
  ((b5 = true) → (
  ∃ (x37 : Int), ∃ (x38 : Int), ∃ (x39 : Int), (∀ w' : World, Below w.heap.size w w' → Calls Tryz.prog 95 #[.agg #[.int .i64 x33, .int .u64 x34], .agg #[.int .i64 x35, .int .u64 x36]] w' (Vc.Ret (.tuple #[.agg #[.int .i64 x37, .int .i64 x38], .int .i64 x39]) w')) ∧
  (.tuple #[.agg #[.int .i64 x37, .int .i64 x38], .int .i64 x39] : Value) = v)) ∧ (¬ (b5 = true) → (
  ∃ (x37 : Int), ∃ (x38 : Int), ∃ (x39 : Int), (∀ w' : World, Below w.heap.size w w' → Calls Tryz.prog 95 #[.agg #[.int .i64 x33, .int .u64 x34], .agg #[.int .i64 x27, .int .u64 x28]] w' (Vc.Ret (.tuple #[.agg #[.int .i64 x37, .int .i64 x38], .int .i64 x39]) w')) ∧
  (.tuple #[.agg #[.int .i64 x37, .int .i64 x38], .int .i64 x39] : Value) = v)))) ∧ (¬ (b4 = true) → (
  ∃ (b5 : Bool), (∀ w' : World, Below w.heap.size w w' → Calls Tryz.prog 94 #[.agg #[.int .i64 x27, .int .u64 x28], .agg #[.int .i64 x35, .int .u64 x36]] w' (Vc.Ret (.bool b5) w')) ∧
  ((b5 = true) → (
  ∃ (x37 : Int), ∃ (x38 : Int), ∃ (x39 : Int), (∀ w' : World, Below w.heap.size w w' → Calls Tryz.prog 95 #[.agg #[.int .i64 x25, .int .u64 x26], .agg #[.int .i64 x35, .int .u64 x36]] w' (Vc.Ret (.tuple #[.agg #[.int .i64 x37, .int .i64 x38], .int .i64 x39]) w')) ∧
  (.tuple #[.agg #[.int .i64 x37, .int .i64 x38], .int .i64 x39] : Value) = v)) ∧ (¬ (b5 = true) → (
  ∃ (x37 : Int), ∃ (x38 : Int), ∃ (x39 : Int), (∀ w' : World, Below w.heap.size w w' → Calls Tryz.prog 95 #[.agg #[.int .i64 x25, .int .u64 x26], .agg #[.int .i64 x27, .int .u64 x28]] w' (Vc.Ret (.tuple #[.agg #[.int .i64 x37, .int .i64 x38], .int .i64 x39]) w')) ∧
  (.tuple #[.agg #[.int .i64 x37, .int .i64 x38], .int .i64 x39] : Value) = v)))))) ∧ (¬ (b3 = true) → (
  ∃ (x29 : Int), ∃ (x30 : Int), (∀ w' : World, Below w.heap.size w w' → Calls Tryz.prog 98 #[.int .i64 x1] w' (Vc.Ret (.agg #[.int .i64 x29, .int .u64 x30]) w')) ∧
  ∃ (x31 : Int), ∃ (x32 : Int), (∀ w' : World, Below w.heap.size w w' → Calls Tryz.prog 98 #[.int .i64 x3] w' (Vc.Ret (.agg #[.int .i64 x31, .int .u64 x32]) w')) ∧
  ∃ (x33 : Int), ∃ (x34 : Int), ∃ (x35 : Int), ∃ (x36 : Int), (∀ w' : World, Below w.heap.size w w' → Calls Tryz.prog 102 #[.agg #[.int .i64 x29, .int .u64 x30], .agg #[.int .i64 x31, .int .u64 x32]] w' (Vc.Ret (.tuple #[.agg #[.int .i64 x33, .int .u64 x34], .agg #[.int .i64 x35, .int .u64 x36]]) w')) ∧
  ∃ (b4 : Bool), (∀ w' : World, Below w.heap.size w w' → Calls Tryz.prog 94 #[.agg #[.int .i64 x33, .int .u64 x34], .agg #[.int .i64 x25, .int .u64 x26]] w' (Vc.Ret (.bool b4) w')) ∧
  ((b4 = true) → (
  ∃ (b5 : Bool), (∀ w' : World, Below w.heap.size w w' → Calls Tryz.prog 94 #[.agg #[.int .i64 x11, .int .u64 x12], .agg #[.int .i64 x35, .int .u64 x36]] w' (Vc.Ret (.bool b5) w')) ∧
  ((b5 = true) → (
  ∃ (x37 : Int), ∃ (x38 : Int), ∃ (x39 : Int), (∀ w' : World, Below w.heap.size w w' → Calls Tryz.prog 95 #[.agg #[.int .i64 x33, .int .u64 x34], .agg #[.int .i64 x35, .int .u64 x36]] w' (Vc.Ret (.tuple #[.agg #[.int .i64 x37, .int .i64 x38], .int .i64 x39]) w')) ∧
  (.tuple #[.agg #[.int .i64 x37, .int .i64 x38], .int .i64 x39] : Value) = v)) ∧ (¬ (b5 = true) → (
  ∃ (x37 : Int), ∃ (x38 : Int), ∃ (x39 : Int), (∀ w' : World, Below w.heap.size w w' → Calls Tryz.prog 95 #[.agg #[.int .i64 x33, .int .u64 x34], .agg #[.int .i64 x11, .int .u64 x12]] w' (Vc.Ret (.tuple #[.agg #[.int .i64 x37, .int .i64 x38], .int .i64 x39]) w')) ∧
  (.tuple #[.agg #[.int .i64 x37, .int .i64 x38], .int .i64 x39] : Value) = v)))) ∧ (¬ (b4 = true) → (
  ∃ (b5 : Bool), (∀ w' : World, Below w.heap.size w w' → Calls Tryz.prog 94 #[.agg #[.int .i64 x11, .int .u64 x12], .agg #[.int .i64 x35, .int .u64 x36]] w' (Vc.Ret (.bool b5) w')) ∧
  ((b5 = true) → (
  ∃ (x37 : Int), ∃ (x38 : Int), ∃ (x39 : Int), (∀ w' : World, Below w.heap.size w w' → Calls Tryz.prog 95 #[.agg #[.int .i64 x25, .int .u64 x26], .agg #[.int .i64 x35, .int .u64 x36]] w' (Vc.Ret (.tuple #[.agg #[.int .i64 x37, .int .i64 x38], .int .i64 x39]) w')) ∧
  (.tuple #[.agg #[.int .i64 x37, .int .i64 x38], .int .i64 x39] : Value) = v)) ∧ (¬ (b5 = true) → (
  ∃ (x37 : Int), ∃ (x38 : Int), ∃ (x39 : Int), (∀ w' : World, Below w.heap.size w w' → Calls Tryz.prog 95 #[.agg #[.int .i64 x25, .int .u64 x26], .agg #[.int .i64 x11, .int .u64 x12]] w' (Vc.Ret (.tuple #[.agg #[.int .i64 x37, .int .i64 x38], .int .i64 x39]) w')) ∧
  (.tuple #[.agg #[.int .i64 x37, .int .i64 x38], .int .i64 x39] : Value) = v)))))))) ∧ (¬ (b2 = true) → (
  ∃ (b3 : Bool), (∀ w' : World, Below w.heap.size w w' → Calls Tryz.prog 94 #[.agg #[.int .i64 x11, .int .u64 x12], .agg #[.int .i64 x27, .int .u64 x28]] w' (Vc.Ret (.bool b3) w')) ∧
  ((b3 = true) → (
  ∃ (x29 : Int), ∃ (x30 : Int), (∀ w' : World, Below w.heap.size w w' → Calls Tryz.prog 98 #[.int .i64 x1] w' (Vc.Ret (.agg #[.int .i64 x29, .int .u64 x30]) w')) ∧
  ∃ (x31 : Int), ∃ (x32 : Int), (∀ w' : World, Below w.heap.size w w' → Calls Tryz.prog 98 #[.int .i64 x3] w' (Vc.Ret (.agg #[.int .i64 x31, .int .u64 x32]) w')) ∧
  ∃ (x33 : Int), ∃ (x34 : Int), ∃ (x35 : Int), ∃ (x36 : Int), (∀ w' : World, Below w.heap.size w w' → Calls Tryz.prog 102 #[.agg #[.int .i64 x29, .int .u64 x30], .agg #[.int .i64 x31, .int .u64 x32]] w' (Vc.Ret (.tuple #[.agg #[.int .i64 x33, .int .u64 x34], .agg #[.int .i64 x35, .int .u64 x36]]) w')) ∧
  ∃ (b4 : Bool), (∀ w' : World, Below w.heap.size w w' → Calls Tryz.prog 94 #[.agg #[.int .i64 x33, .int .u64 x34], .agg #[.int .i64 x9, .int .u64 x10]] w' (Vc.Ret (.bool b4) w')) ∧
  ((b4 = true) → (
  ∃ (b5 : Bool), (∀ w' : World, Below w.heap.size w w' → Calls Tryz.prog 94 #[.agg #[.int .i64 x27, .int .u64 x28], .agg #[.int .i64 x35, .int .u64 x36]] w' (Vc.Ret (.bool b5) w')) ∧
  ((b5 = true) → (
  ∃ (x37 : Int), ∃ (x38 : Int), ∃ (x39 : Int), (∀ w' : World, Below w.heap.size w w' → Calls Tryz.prog 95 #[.agg #[.int .i64 x33, .int .u64 x34], .agg #[.int .i64 x35, .int .u64 x36]] w' (Vc.Ret (.tuple #[.agg #[.int .i64 x37, .int .i64 x38], .int .i64 x39]) w')) ∧
  (.tuple #[.agg #[.int .i64 x37, .int .i64 x38], .int .i64 x39] : Value) = v)) ∧ (¬ (b5 = true) → (
  ∃ (x37 : Int), ∃ (x38 : Int), ∃ (x39 : Int), (∀ w' : World, Below w.heap.size w w' → Calls Tryz.prog 95 #[.agg #[.int .i64 x33, .int .u64 x34], .agg #[.int .i64 x27, .int .u64 x28]] w' (Vc.Ret (.tuple #[.agg #[.int .i64 x37, .int .i64 x38], .int .i64 x39]) w')) ∧
  (.tuple #[.agg #[.int .i64 x37, .int .i64 x38], .int .i64 x39] : Value) = v)))) ∧ (¬ (b4 = true) → (
  ∃ (b5 : Bool), (∀ w' : World, Below w.heap.size w w' → Calls Tryz.prog 94 #[.agg #[.int .i64 x27, .int .u64 x28], .agg #[.int .i64 x35, .int .u64 x36]] w' (Vc.Ret (.bool b5) w')) ∧
  ((b5 = true) → (
  ∃ (x37 : Int), ∃ (x38 : Int), ∃ (x39 : Int), (∀ w' : World, Below w.heap.size w w' → Calls Tryz.prog 95 #[.agg #[.int .i64 x9, .int .u64 x10], .agg #[.int .i64 x35, .int .u64 x36]] w' (Vc.Ret (.tuple #[.agg #[.int .i64 x37, .int .i64 x38], .int .i64 x39]) w')) ∧
  (.tuple #[.agg #[.int .i64 x37, .int .i64 x38], .int .i64 x39] : Value) = v)) ∧ (¬ (b5 = true) → (
  ∃ (x37 : Int), ∃ (x38 : Int), ∃ (x39 : Int), (∀ w' : World, Below w.heap.size w w' → Calls Tryz.prog 95 #[.agg #[.int .i64 x9, .int .u64 x10], .agg #[.int .i64 x27, .int .u64 x28]] w' (Vc.Ret (.tuple #[.agg #[.int .i64 x37, .int .i64 x38], .int .i64 x39]) w')) ∧
  (.tuple #[.agg #[.int .i64 x37, .int .i64 x38], .int .i64 x39] : Value) = v)))))) ∧ (¬ (b3 = true) → (
  ∃ (x29 : Int), ∃ (x30 : Int), (∀ w' : World, Below w.heap.size w w' → Calls Tryz.prog 98 #[.int .i64 x1] w' (Vc.Ret (.agg #[.int .i64 x29, .int .u64 x30]) w')) ∧
  ∃ (x31 : Int), ∃ (x32 : Int), (∀ w' : World, Below w.heap.size w w' → Calls Tryz.prog 98 #[.int .i64 x3] w' (Vc.Ret (.agg #[.int .i64 x31, .int .u64 x32]) w')) ∧
  ∃ (x33 : Int), ∃ (x34 : Int), ∃ (x35 : Int), ∃ (x36 : Int), (∀ w' : World, Below w.heap.size w w' → Calls Tryz.prog 102 #[.agg #[.int .i64 x29, .int .u64 x30], .agg #[.int .i64 x31, .int .u64 x32]] w' (Vc.Ret (.tuple #[.agg #[.int .i64 x33, .int .u64 x34], .agg #[.int .i64 x35, .int .u64 x36]]) w')) ∧
  ∃ (b4 : Bool), (∀ w' : World, Below w.heap.size w w' → Calls Tryz.prog 94 #[.agg #[.int .i64 x33, .int .u64 x34], .agg #[.int .i64 x9, .int .u64 x10]] w' (Vc.Ret (.bool b4) w')) ∧
  ((b4 = true) → (
  ∃ (b5 : Bool), (∀ w' : World, Below w.heap.size w w' → Calls Tryz.prog 94 #[.agg #[.int .i64 x11, .int .u64 x12], .agg #[.int .i64 x35, .int .u64 x36]] w' (Vc.Ret (.bool b5) w')) ∧
  ((b5 = true) → (
  ∃ (x37 : Int), ∃ (x38 : Int), ∃ (x39 : Int), (∀ w' : World, Below w.heap.size w w' → Calls Tryz.prog 95 #[.agg #[.int .i64 x33, .int .u64 x34], .agg #[.int .i64 x35, .int .u64 x36]] w' (Vc.Ret (.tuple #[.agg #[.int .i64 x37, .int .i64 x38], .int .i64 x39]) w')) ∧
  (.tuple #[.agg #[.int .i64 x37, .int .i64 x38], .int .i64 x39] : Value) = v)) ∧ (¬ (b5 = true) → (
  ∃ (x37 : Int), ∃ (x38 : Int), ∃ (x39 : Int), (∀ w' : World, Below w.heap.size w w' → Calls Tryz.prog 95 #[.agg #[.int .i64 x33, .int .u64 x34], .agg #[.int .i64 x11, .int .u64 x12]] w' (Vc.Ret (.tuple #[.agg #[.int .i64 x37, .int .i64 x38], .int .i64 x39]) w')) ∧
  (.tuple #[.agg #[.int .i64 x37, .int .i64 x38], .int .i64 x39] : Value) = v)))) ∧ (¬ (b4 = true) → (
  ∃ (b5 : Bool), (∀ w' : World, Below w.heap.size w w' → Calls Tryz.prog 94 #[.agg #[.int .i64 x11, .int .u64 x12], .agg #[.int .i64 x35, .int .u64 x36]] w' (Vc.Ret (.bool b5) w')) ∧
  ((b5 = true) → (
  ∃ (x37 : Int), ∃ (x38 : Int), ∃ (x39 : Int), (∀ w' : World, Below w.heap.size w w' → Calls Tryz.prog 95 #[.agg #[.int .i64 x9, .int .u64 x10], .agg #[.int .i64 x35, .int .u64 x36]] w' (Vc.Ret (.tuple #[.agg #[.int .i64 x37, .int .i64 x38], .int .i64 x39]) w')) ∧
  (.tuple #[.agg #[.int .i64 x37, .int .i64 x38], .int .i64 x39] : Value) = v)) ∧ (¬ (b5 = true) → (
  ∃ (x37 : Int), ∃ (x38 : Int), ∃ (x39 : Int), (∀ w' : World, Below w.heap.size w w' → Calls Tryz.prog 95 #[.agg #[.int .i64 x9, .int .u64 x10], .agg #[.int .i64 x11, .int .u64 x12]] w' (Vc.Ret (.tuple #[.agg #[.int .i64 x37, .int .i64 x38], .int .i64 x39]) w')) ∧
  (.tuple #[.agg #[.int .i64 x37, .int .i64 x38], .int .i64 x39] : Value) = v)))))))))))))))) ∧ (¬ (x2 ≤ 0) → (
  ∃ (x5 : Int), ∃ (x6 : Int), (∀ w' : World, Below w.heap.size w w' → Calls Tryz.prog 98 #[.int .i64 x0] w' (Vc.Ret (.agg #[.int .i64 x5, .int .u64 x6]) w')) ∧
  ∃ (x7 : Int), ∃ (x8 : Int), (∀ w' : World, Below w.heap.size w w' → Calls Tryz.prog 98 #[.int .i64 x2] w' (Vc.Ret (.agg #[.int .i64 x7, .int .u64 x8]) w')) ∧
  ∃ (x9 : Int), ∃ (x10 : Int), ∃ (x11 : Int), ∃ (x12 : Int), (∀ w' : World, Below w.heap.size w w' → Calls Tryz.prog 102 #[.agg #[.int .i64 x5, .int .u64 x6], .agg #[.int .i64 x7, .int .u64 x8]] w' (Vc.Ret (.tuple #[.agg #[.int .i64 x9, .int .u64 x10], .agg #[.int .i64 x11, .int .u64 x12]]) w')) ∧
  ∃ (x13 : Int), ∃ (x14 : Int), (∀ w' : World, Below w.heap.size w w' → Calls Tryz.prog 98 #[.int .i64 x0] w' (Vc.Ret (.agg #[.int .i64 x13, .int .u64 x14]) w')) ∧
  ∃ (x15 : Int), ∃ (x16 : Int), (∀ w' : World, Below w.heap.size w w' → Calls Tryz.prog 98 #[.int .i64 x3] w' (Vc.Ret (.agg #[.int .i64 x15, .int .u64 x16]) w')) ∧
  ∃ (x17 : Int), ∃ (x18 : Int), ∃ (x19 : Int), ∃ (x20 : Int), (∀ w' : World, Below w.heap.size w w' → Calls Tryz.prog 102 #[.agg #[.int .i64 x13, .int .u64 x14], .agg #[.int .i64 x15, .int .u64 x16]] w' (Vc.Ret (.tuple #[.agg #[.int .i64 x17, .int .u64 x18], .agg #[.int .i64 x19, .int .u64 x20]]) w')) ∧
  ∃ (b0 : Bool), (∀ w' : World, Below w.heap.size w w' → Calls Tryz.prog 94 #[.agg #[.int .i64 x17, .int .u64 x18], .agg #[.int .i64 x9, .int .u64 x10]] w' (Vc.Ret (.bool b0) w')) ∧
  ((b0 = true) → (
  ∃ (b1 : Bool), (∀ w' : World, Below w.heap.size w w' → Calls Tryz.prog 94 #[.agg #[.int .i64 x11, .int .u64 x12], .agg #[.int .i64 x19, .int .u64 x20]] w' (Vc.Ret (.bool b1) w')) ∧
  ((b1 = true) → (
  ∃ (x21 : Int), ∃ (x22 : Int), (∀ w' : World, Below w.heap.size w w' → Calls Tryz.prog 98 #[.int .i64 x1] w' (Vc.Ret (.agg #[.int .i64 x21, .int .u64 x22]) w')) ∧
  ∃ (x23 : Int), ∃ (x24 : Int), (∀ w' : World, Below w.heap.size w w' → Calls Tryz.prog 98 #[.int .i64 x2] w' (Vc.Ret (.agg #[.int .i64 x23, .int .u64 x24]) w')) ∧
  ∃ (x25 : Int), ∃ (x26 : Int), ∃ (x27 : Int), ∃ (x28 : Int), (∀ w' : World, Below w.heap.size w w' → Calls Tryz.prog 102 #[.agg #[.int .i64 x21, .int .u64 x22], .agg #[.int .i64 x23, .int .u64 x24]] w' (Vc.Ret (.tuple #[.agg #[.int .i64 x25, .int .u64 x26], .agg #[.int .i64 x27, .int .u64 x28]]) w')) ∧
  ∃ (b2 : Bool), (∀ w' : World, Below w.heap.size w w' → Calls Tryz.prog 94 #[.agg #[.int .i64 x25, .int .u64 x26], .agg #[.int .i64 x17, .int .u64 x18]] w' (Vc.Ret (.bool b2) w')) ∧
  ((b2 = true) → (
  ∃ (b3 : Bool), (∀ w' : World, Below w.heap.size w w' → Calls Tryz.prog 94 #[.agg #[.int .i64 x19, .int .u64 x20], .agg #[.int .i64 x27, .int .u64 x28]] w' (Vc.Ret (.bool b3) w')) ∧
  ((b3 = true) → (
  ∃ (x29 : Int), ∃ (x30 : Int), (∀ w' : World, Below w.heap.size w w' → Calls Tryz.prog 98 #[.int .i64 x1] w' (Vc.Ret (.agg #[.int .i64 x29, .int .u64 x30]) w')) ∧
  ∃ (x31 : Int), ∃ (x32 : Int), (∀ w' : World, Below w.heap.size w w' → Calls Tryz.prog 98 #[.int .i64 x3] w' (Vc.Ret (.agg #[.int .i64 x31, .int .u64 x32]) w')) ∧
  ∃ (x33 : Int), ∃ (x34 : Int), ∃ (x35 : Int), ∃ (x36 : Int), (∀ w' : World, Below w.heap.size w w' → Calls Tryz.prog 102 #[.agg #[.int .i64 x29, .int .u64 x30], .agg #[.int .i64 x31, .int .u64 x32]] w' (Vc.Ret (.tuple #[.agg #[.int .i64 x33, .int .u64 x34], .agg #[.int .i64 x35, .int .u64 x36]]) w')) ∧
  ∃ (b4 : Bool), (∀ w' : World, Below w.heap.size w w' → Calls Tryz.prog 94 #[.agg #[.int .i64 x33, .int .u64 x34], .agg #[.int .i64 x25, .int .u64 x26]] w' (Vc.Ret (.bool b4) w')) ∧
  ((b4 = true) → (
  ∃ (b5 : Bool), (∀ w' : World, Below w.heap.size w w' → Calls Tryz.prog 94 #[.agg #[.int .i64 x27, .int .u64 x28], .agg #[.int .i64 x35, .int .u64 x36]] w' (Vc.Ret (.bool b5) w')) ∧
  ((b5 = true) → (
  ∃ (x37 : Int), ∃ (x38 : Int), ∃ (x39 : Int), (∀ w' : World, Below w.heap.size w w' → Calls Tryz.prog 95 #[.agg #[.int .i64 x33, .int .u64 x34], .agg #[.int .i64 x35, .int .u64 x36]] w' (Vc.Ret (.tuple #[.agg #[.int .i64 x37, .int .i64 x38], .int .i64 x39]) w')) ∧
  (.tuple #[.agg #[.int .i64 x37, .int .i64 x38], .int .i64 x39] : Value) = v)) ∧ (¬ (b5 = true) → (
  ∃ (x37 : Int), ∃ (x38 : Int), ∃ (x39 : Int), (∀ w' : World, Below w.heap.size w w' → Calls Tryz.prog 95 #[.agg #[.int .i64 x33, .int .u64 x34], .agg #[.int .i64 x27, .int .u64 x28]] w' (Vc.Ret (.tuple #[.agg #[.int .i64 x37, .int .i64 x38], .int .i64 x39]) w')) ∧
  (.tuple #[.agg #[.int .i64 x37, .int .i64 x38], .int .i64 x39] : Value) = v)))) ∧ (¬ (b4 = true) → (
  ∃ (b5 : Bool), (∀ w' : World, Below w.heap.size w w' → Calls Tryz.prog 94 #[.agg #[.int .i64 x27, .int .u64 x28], .agg #[.int .i64 x35, .int .u64 x36]] w' (Vc.Ret (.bool b5) w')) ∧
  ((b5 = true) → (
  ∃ (x37 : Int), ∃ (x38 : Int), ∃ (x39 : Int), (∀ w' : World, Below w.heap.size w w' → Calls Tryz.prog 95 #[.agg #[.int .i64 x25, .int .u64 x26], .agg #[.int .i64 x35, .int .u64 x36]] w' (Vc.Ret (.tuple #[.agg #[.int .i64 x37, .int .i64 x38], .int .i64 x39]) w')) ∧
  (.tuple #[.agg #[.int .i64 x37, .int .i64 x38], .int .i64 x39] : Value) = v)) ∧ (¬ (b5 = true) → (
  ∃ (x37 : Int), ∃ (x38 : Int), ∃ (x39 : Int), (∀ w' : World, Below w.heap.size w w' → Calls Tryz.prog 95 #[.agg #[.int .i64 x25, .int .u64 x26], .agg #[.int .i64 x27, .int .u64 x28]] w' (Vc.Ret (.tuple #[.agg #[.int .i64 x37, .int .i64 x38], .int .i64 x39]) w')) ∧
  (.tuple #[.agg #[.int .i64 x37, .int .i64 x38], .int .i64 x39] : Value) = v)))))) ∧ (¬ (b3 = true) → (
  ∃ (x29 : Int), ∃ (x30 : Int), (∀ w' : World, Below w.heap.size w w' → Calls Tryz.prog 98 #[.int .i64 x1] w' (Vc.Ret (.agg #[.int .i64 x29, .int .u64 x30]) w')) ∧
  ∃ (x31 : Int), ∃ (x32 : Int), (∀ w' : World, Below w.heap.size w w' → Calls Tryz.prog 98 #[.int .i64 x3] w' (Vc.Ret (.agg #[.int .i64 x31, .int .u64 x32]) w')) ∧
  ∃ (x33 : Int), ∃ (x34 : Int), ∃ (x35 : Int), ∃ (x36 : Int), (∀ w' : World, Below w.heap.size w w' → Calls Tryz.prog 102 #[.agg #[.int .i64 x29, .int .u64 x30], .agg #[.int .i64 x31, .int .u64 x32]] w' (Vc.Ret (.tuple #[.agg #[.int .i64 x33, .int .u64 x34], .agg #[.int .i64 x35, .int .u64 x36]]) w')) ∧
  ∃ (b4 : Bool), (∀ w' : World, Below w.heap.size w w' → Calls Tryz.prog 94 #[.agg #[.int .i64 x33, .int .u64 x34], .agg #[.int .i64 x25, .int .u64 x26]] w' (Vc.Ret (.bool b4) w')) ∧
  ((b4 = true) → (
  ∃ (b5 : Bool), (∀ w' : World, Below w.heap.size w w' → Calls Tryz.prog 94 #[.agg #[.int .i64 x19, .int .u64 x20], .agg #[.int .i64 x35, .int .u64 x36]] w' (Vc.Ret (.bool b5) w')) ∧
  ((b5 = true) → (
  ∃ (x37 : Int), ∃ (x38 : Int), ∃ (x39 : Int), (∀ w' : World, Below w.heap.size w w' → Calls Tryz.prog 95 #[.agg #[.int .i64 x33, .int .u64 x34], .agg #[.int .i64 x35, .int .u64 x36]] w' (Vc.Ret (.tuple #[.agg #[.int .i64 x37, .int .i64 x38], .int .i64 x39]) w')) ∧
  (.tuple #[.agg #[.int .i64 x37, .int .i64 x38], .int .i64 x39] : Value) = v)) ∧ (¬ (b5 = true) → (
  ∃ (x37 : Int), ∃ (x38 : Int), ∃ (x39 : Int), (∀ w' : World, Below w.heap.size w w' → Calls Tryz.prog 95 #[.agg #[.int .i64 x33, .int .u64 x34], .agg #[.int .i64 x19, .int .u64 x20]] w' (Vc.Ret (.tuple #[.agg #[.int .i64 x37, .int .i64 x38], .int .i64 x39]) w')) ∧
  (.tuple #[.agg #[.int .i64 x37, .int .i64 x38], .int .i64 x39] : Value) = v)))) ∧ (¬ (b4 = true) → (
  ∃ (b5 : Bool), (∀ w' : World, Below w.heap.size w w' → Calls Tryz.prog 94 #[.agg #[.int .i64 x19, .int .u64 x20], .agg #[.int .i64 x35, .int .u64 x36]] w' (Vc.Ret (.bool b5) w')) ∧
  ((b5 = true) → (
  ∃ (x37 : Int), ∃ (x38 : Int), ∃ (x39 : Int), (∀ w' : World, Below w.heap.size w w' → Calls Tryz.prog 95 #[.agg #[.int .i64 x25, .int .u64 x26], .agg #[.int .i64 x35, .int .u64 x36]] w' (Vc.Ret (.tuple #[.agg #[.int .i64 x37, .int .i64 x38], .int .i64 x39]) w')) ∧
  (.tuple #[.agg #[.int .i64 x37, .int .i64 x38], .int .i64 x39] : Value) = v)) ∧ (¬ (b5 = true) → (
  ∃ (x37 : Int), ∃ (x38 : Int), ∃ (x39 : Int), (∀ w' : World, Below w.heap.size w w' → Calls Tryz.prog 95 #[.agg #[.int .i64 x25, .int .u64 x26], .agg #[.int .i64 x19, .int .u64 x20]] w' (Vc.Ret (.tuple #[.agg #[.int .i64 x37, .int .i64 x38], .int .i64 x39]) w')) ∧
  (.tuple #[.agg #[.int .i64 x37, .int .i64 x38], .int .i64 x39] : Value) = v)))))))) ∧ (¬ (b2 = true) → (
  ∃ (b3 : Bool), (∀ w' : World, Below w.heap.size w w' → Calls Tryz.prog 94 #[.agg #[.int .i64 x19, .int .u64 x20], .agg #[.int .i64 x27, .int .u64 x28]] w' (Vc.Ret (.bool b3) w')) ∧
  ((b3 = true) → (
  ∃ (x29 : Int), ∃ (x30 : Int), (∀ w' : World, Below w.heap.size w w' → Calls Tryz.prog 98 #[.int .i64 x1] w' (Vc.Ret (.agg #[.int .i64 x29, .int .u64 x30]) w')) ∧
  ∃ (x31 : Int), ∃ (x32 : Int), (∀ w' : World, Below w.heap.size w w' → Calls Tryz.prog 98 #[.int .i64 x3] w' (Vc.Ret (.agg #[.int .i64 x31, .int .u64 x32]) w')) ∧
  ∃ (x33 : Int), ∃ (x34 : Int), ∃ (x35 : Int), ∃ (x36 : Int), (∀ w' : World, Below w.heap.size w w' → Calls Tryz.prog 102 #[.agg #[.int .i64 x29, .int .u64 x30], .agg #[.int .i64 x31, .int .u64 x32]] w' (Vc.Ret (.tuple #[.agg #[.int .i64 x33, .int .u64 x34], .agg #[.int .i64 x35, .int .u64 x36]]) w')) ∧
  ∃ (b4 : Bool), (∀ w' : World, Below w.heap.size w w' → Calls Tryz.prog 94 #[.agg #[.int .i64 x33, .int .u64 x34], .agg #[.int .i64 x17, .int .u64 x18]] w' (Vc.Ret (.bool b4) w')) ∧
  ((b4 = true) → (
  ∃ (b5 : Bool), (∀ w' : World, Below w.heap.size w w' → Calls Tryz.prog 94 #[.agg #[.int .i64 x27, .int .u64 x28], .agg #[.int .i64 x35, .int .u64 x36]] w' (Vc.Ret (.bool b5) w')) ∧
  ((b5 = true) → (
  ∃ (x37 : Int), ∃ (x38 : Int), ∃ (x39 : Int), (∀ w' : World, Below w.heap.size w w' → Calls Tryz.prog 95 #[.agg #[.int .i64 x33, .int .u64 x34], .agg #[.int .i64 x35, .int .u64 x36]] w' (Vc.Ret (.tuple #[.agg #[.int .i64 x37, .int .i64 x38], .int .i64 x39]) w')) ∧
  (.tuple #[.agg #[.int .i64 x37, .int .i64 x38], .int .i64 x39] : Value) = v)) ∧ (¬ (b5 = true) → (
  ∃ (x37 : Int), ∃ (x38 : Int), ∃ (x39 : Int), (∀ w' : World, Below w.heap.size w w' → Calls Tryz.prog 95 #[.agg #[.int .i64 x33, .int .u64 x34], .agg #[.int .i64 x27, .int .u64 x28]] w' (Vc.Ret (.tuple #[.agg #[.int .i64 x37, .int .i64 x38], .int .i64 x39]) w')) ∧
  (.tuple #[.agg #[.int .i64 x37, .int .i64 x38], .int .i64 x39] : Value) = v)))) ∧ (¬ (b4 = true) → (
  ∃ (b5 : Bool), (∀ w' : World, Below w.heap.size w w' → Calls Tryz.prog 94 #[.agg #[.int .i64 x27, .int .u64 x28], .agg #[.int .i64 x35, .int .u64 x36]] w' (Vc.Ret (.bool b5) w')) ∧
  ((b5 = true) → (
  ∃ (x37 : Int), ∃ (x38 : Int), ∃ (x39 : Int), (∀ w' : World, Below w.heap.size w w' → Calls Tryz.prog 95 #[.agg #[.int .i64 x17, .int .u64 x18], .agg #[.int .i64 x35, .int .u64 x36]] w' (Vc.Ret (.tuple #[.agg #[.int .i64 x37, .int .i64 x38], .int .i64 x39]) w')) ∧
  (.tuple #[.agg #[.int .i64 x37, .int .i64 x38], .int .i64 x39] : Value) = v)) ∧ (¬ (b5 = true) → (
  ∃ (x37 : Int), ∃ (x38 : Int), ∃ (x39 : Int), (∀ w' : World, Below w.heap.size w w' → Calls Tryz.prog 95 #[.agg #[.int .i64 x17, .int .u64 x18], .agg #[.int .i64 x27, .int .u64 x28]] w' (Vc.Ret (.tuple #[.agg #[.int .i64 x37, .int .i64 x38], .int .i64 x39]) w')) ∧
  (.tuple #[.agg #[.int .i64 x37, .int .i64 x38], .int .i64 x39] : Value) = v)))))) ∧ (¬ (b3 = true) → (
  ∃ (x29 : Int), ∃ (x30 : Int), (∀ w' : World, Below w.heap.size w w' → Calls Tryz.prog 98 #[.int .i64 x1] w' (Vc.Ret (.agg #[.int .i64 x29, .int .u64 x30]) w')) ∧
  ∃ (x31 : Int), ∃ (x32 : Int), (∀ w' : World, Below w.heap.size w w' → Calls Tryz.prog 98 #[.int .i64 x3] w' (Vc.Ret (.agg #[.int .i64 x31, .int .u64 x32]) w')) ∧
  ∃ (x33 : Int), ∃ (x34 : Int), ∃ (x35 : Int), ∃ (x36 : Int), (∀ w' : World, Below w.heap.size w w' → Calls Tryz.prog 102 #[.agg #[.int .i64 x29, .int .u64 x30], .agg #[.int .i64 x31, .int .u64 x32]] w' (Vc.Ret (.tuple #[.agg #[.int .i64 x33, .int .u64 x34], .agg #[.int .i64 x35, .int .u64 x36]]) w')) ∧
  ∃ (b4 : Bool), (∀ w' : World, Below w.heap.size w w' → Calls Tryz.prog 94 #[.agg #[.int .i64 x33, .int .u64 x34], .agg #[.int .i64 x17, .int .u64 x18]] w' (Vc.Ret (.bool b4) w')) ∧
  ((b4 = true) → (
  ∃ (b5 : Bool), (∀ w' : World, Below w.heap.size w w' → Calls Tryz.prog 94 #[.agg #[.int .i64 x19, .int .u64 x20], .agg #[.int .i64 x35, .int .u64 x36]] w' (Vc.Ret (.bool b5) w')) ∧
  ((b5 = true) → (
  ∃ (x37 : Int), ∃ (x38 : Int), ∃ (x39 : Int), (∀ w' : World, Below w.heap.size w w' → Calls Tryz.prog 95 #[.agg #[.int .i64 x33, .int .u64 x34], .agg #[.int .i64 x35, .int .u64 x36]] w' (Vc.Ret (.tuple #[.agg #[.int .i64 x37, .int .i64 x38], .int .i64 x39]) w')) ∧
  (.tuple #[.agg #[.int .i64 x37, .int .i64 x38], .int .i64 x39] : Value) = v)) ∧ (¬ (b5 = true) → (
  ∃ (x37 : Int), ∃ (x38 : Int), ∃ (x39 : Int), (∀ w' : World, Below w.heap.size w w' → Calls Tryz.prog 95 #[.agg #[.int .i64 x33, .int .u64 x34], .agg #[.int .i64 x19, .int .u64 x20]] w' (Vc.Ret (.tuple #[.agg #[.int .i64 x37, .int .i64 x38], .int .i64 x39]) w')) ∧
  (.tuple #[.agg #[.int .i64 x37, .int .i64 x38], .int .i64 x39] : Value) = v)))) ∧ (¬ (b4 = true) → (
  ∃ (b5 : Bool), (∀ w' : World, Below w.heap.size w w' → Calls Tryz.prog 94 #[.agg #[.int .i64 x19, .int .u64 x20], .agg #[.int .i64 x35, .int .u64 x36]] w' (Vc.Ret (.bool b5) w')) ∧
  ((b5 = true) → (
  ∃ (x37 : Int), ∃ (x38 : Int), ∃ (x39 : Int), (∀ w' : World, Below w.heap.size w w' → Calls Tryz.prog 95 #[.agg #[.int .i64 x17, .int .u64 x18], .agg #[.int .i64 x35, .int .u64 x36]] w' (Vc.Ret (.tuple #[.agg #[.int .i64 x37, .int .i64 x38], .int .i64 x39]) w')) ∧
  (.tuple #[.agg #[.int .i64 x37, .int .i64 x38], .int .i64 x39] : Value) = v)) ∧ (¬ (b5 = true) → (
  ∃ (x37 : Int), ∃ (x38 : Int), ∃ (x39 : Int), (∀ w' : World, Below w.heap.size w w' → Calls Tryz.prog 95 #[.agg #[.int .i64 x17, .int .u64 x18], .agg #[.int .i64 x19, .int .u64 x20]] w' (Vc.Ret (.tuple #[.agg #[.int .i64 x37, .int .i64 x38], .int .i64 x39]) w')) ∧
  (.tuple #[.agg #[.int .i64 x37, .int .i64 x38], .int .i64 x39] : Value) = v)))))))))) ∧ (¬ (b1 = true) → (
  ∃ (x21 : Int), ∃ (x22 : Int), (∀ w' : World, Below w.heap.size w w' → Calls Tryz.prog 98 #[.int .i64 x1] w' (Vc.Ret (.agg #[.int .i64 x21, .int .u64 x22]) w')) ∧
  ∃ (x23 : Int), ∃ (x24 : Int), (∀ w' : World, Below w.heap.size w w' → Calls Tryz.prog 98 #[.int .i64 x2] w' (Vc.Ret (.agg #[.int .i64 x23, .int .u64 x24]) w')) ∧
  ∃ (x25 : Int), ∃ (x26 : Int), ∃ (x27 : Int), ∃ (x28 : Int), (∀ w' : World, Below w.heap.size w w' → Calls Tryz.prog 102 #[.agg #[.int .i64 x21, .int .u64 x22], .agg #[.int .i64 x23, .int .u64 x24]] w' (Vc.Ret (.tuple #[.agg #[.int .i64 x25, .int .u64 x26], .agg #[.int .i64 x27, .int .u64 x28]]) w')) ∧
  ∃ (b2 : Bool), (∀ w' : World, Below w.heap.size w w' → Calls Tryz.prog 94 #[.agg #[.int .i64 x25, .int .u64 x26], .agg #[.int .i64 x17, .int .u64 x18]] w' (Vc.Ret (.bool b2) w')) ∧
  ((b2 = true) → (
  ∃ (b3 : Bool), (∀ w' : World, Below w.heap.size w w' → Calls Tryz.prog 94 #[.agg #[.int .i64 x11, .int .u64 x12], .agg #[.int .i64 x27, .int .u64 x28]] w' (Vc.Ret (.bool b3) w')) ∧
  ((b3 = true) → (
  ∃ (x29 : Int), ∃ (x30 : Int), (∀ w' : World, Below w.heap.size w w' → Calls Tryz.prog 98 #[.int .i64 x1] w' (Vc.Ret (.agg #[.int .i64 x29, .int .u64 x30]) w')) ∧
  ∃ (x31 : Int), ∃ (x32 : Int), (∀ w' : World, Below w.heap.size w w' → Calls Tryz.prog 98 #[.int .i64 x3] w' (Vc.Ret (.agg #[.int .i64 x31, .int .u64 x32]) w')) ∧
  ∃ (x33 : Int), ∃ (x34 : Int), ∃ (x35 : Int), ∃ (x36 : Int), (∀ w' : World, Below w.heap.size w w' → Calls Tryz.prog 102 #[.agg #[.int .i64 x29, .int .u64 x30], .agg #[.int .i64 x31, .int .u64 x32]] w' (Vc.Ret (.tuple #[.agg #[.int .i64 x33, .int .u64 x34], .agg #[.int .i64 x35, .int .u64 x36]]) w')) ∧
  ∃ (b4 : Bool), (∀ w' : World, Below w.heap.size w w' → Calls Tryz.prog 94 #[.agg #[.int .i64 x33, .int .u64 x34], .agg #[.int .i64 x25, .int .u64 x26]] w' (Vc.Ret (.bool b4) w')) ∧
  ((b4 = true) → (
  ∃ (b5 : Bool), (∀ w' : World, Below w.heap.size w w' → Calls Tryz.prog 94 #[.agg #[.int .i64 x27, .int .u64 x28], .agg #[.int .i64 x35, .int .u64 x36]] w' (Vc.Ret (.bool b5) w')) ∧
  ((b5 = true) → (
  ∃ (x37 : Int), ∃ (x38 : Int), ∃ (x39 : Int), (∀ w' : World, Below w.heap.size w w' → Calls Tryz.prog 95 #[.agg #[.int .i64 x33, .int .u64 x34], .agg #[.int .i64 x35, .int .u64 x36]] w' (Vc.Ret (.tuple #[.agg #[.int .i64 x37, .int .i64 x38], .int .i64 x39]) w')) ∧
  (.tuple #[.agg #[.int .i64 x37, .int .i64 x38], .int .i64 x39] : Value) = v)) ∧ (¬ (b5 = true) → (
  ∃ (x37 : Int), ∃ (x38 : Int), ∃ (x39 : Int), (∀ w' : World, Below w.heap.size w w' → Calls Tryz.prog 95 #[.agg #[.int .i64 x33, .int .u64 x34], .agg #[.int .i64 x27, .int .u64 x28]] w' (Vc.Ret (.tuple #[.agg #[.int .i64 x37, .int .i64 x38], .int .i64 x39]) w')) ∧
  (.tuple #[.agg #[.int .i64 x37, .int .i64 x38], .int .i64 x39] : Value) = v)))) ∧ (¬ (b4 = true) → (
  ∃ (b5 : Bool), (∀ w' : World, Below w.heap.size w w' → Calls Tryz.prog 94 #[.agg #[.int .i64 x27, .int .u64 x28], .agg #[.int .i64 x35, .int .u64 x36]] w' (Vc.Ret (.bool b5) w')) ∧
  ((b5 = true) → (
  ∃ (x37 : Int), ∃ (x38 : Int), ∃ (x39 : Int), (∀ w' : World, Below w.heap.size w w' → Calls Tryz.prog 95 #[.agg #[.int .i64 x25, .int .u64 x26], .agg #[.int .i64 x35, .int .u64 x36]] w' (Vc.Ret (.tuple #[.agg #[.int .i64 x37, .int .i64 x38], .int .i64 x39]) w')) ∧
  (.tuple #[.agg #[.int .i64 x37, .int .i64 x38], .int .i64 x39] : Value) = v)) ∧ (¬ (b5 = true) → (
  ∃ (x37 : Int), ∃ (x38 : Int), ∃ (x39 : Int), (∀ w' : World, Below w.heap.size w w' → Calls Tryz.prog 95 #[.agg #[.int .i64 x25, .int .u64 x26], .agg #[.int .i64 x27, .int .u64 x28]] w' (Vc.Ret (.tuple #[.agg #[.int .i64 x37, .int .i64 x38], .int .i64 x39]) w')) ∧
  (.tuple #[.agg #[.int .i64 x37, .int .i64 x38], .int .i64 x39] : Value) = v)))))) ∧ (¬ (b3 = true) → (
  ∃ (x29 : Int), ∃ (x30 : Int), (∀ w' : World, Below w.heap.size w w' → Calls Tryz.prog 98 #[.int .i64 x1] w' (Vc.Ret (.agg #[.int .i64 x29, .int .u64 x30]) w')) ∧
  ∃ (x31 : Int), ∃ (x32 : Int), (∀ w' : World, Below w.heap.size w w' → Calls Tryz.prog 98 #[.int .i64 x3] w' (Vc.Ret (.agg #[.int .i64 x31, .int .u64 x32]) w')) ∧
  ∃ (x33 : Int), ∃ (x34 : Int), ∃ (x35 : Int), ∃ (x36 : Int), (∀ w' : World, Below w.heap.size w w' → Calls Tryz.prog 102 #[.agg #[.int .i64 x29, .int .u64 x30], .agg #[.int .i64 x31, .int .u64 x32]] w' (Vc.Ret (.tuple #[.agg #[.int .i64 x33, .int .u64 x34], .agg #[.int .i64 x35, .int .u64 x36]]) w')) ∧
  ∃ (b4 : Bool), (∀ w' : World, Below w.heap.size w w' → Calls Tryz.prog 94 #[.agg #[.int .i64 x33, .int .u64 x34], .agg #[.int .i64 x25, .int .u64 x26]] w' (Vc.Ret (.bool b4) w')) ∧
  ((b4 = true) → (
  ∃ (b5 : Bool), (∀ w' : World, Below w.heap.size w w' → Calls Tryz.prog 94 #[.agg #[.int .i64 x11, .int .u64 x12], .agg #[.int .i64 x35, .int .u64 x36]] w' (Vc.Ret (.bool b5) w')) ∧
  ((b5 = true) → (
  ∃ (x37 : Int), ∃ (x38 : Int), ∃ (x39 : Int), (∀ w' : World, Below w.heap.size w w' → Calls Tryz.prog 95 #[.agg #[.int .i64 x33, .int .u64 x34], .agg #[.int .i64 x35, .int .u64 x36]] w' (Vc.Ret (.tuple #[.agg #[.int .i64 x37, .int .i64 x38], .int .i64 x39]) w')) ∧
  (.tuple #[.agg #[.int .i64 x37, .int .i64 x38], .int .i64 x39] : Value) = v)) ∧ (¬ (b5 = true) → (
  ∃ (x37 : Int), ∃ (x38 : Int), ∃ (x39 : Int), (∀ w' : World, Below w.heap.size w w' → Calls Tryz.prog 95 #[.agg #[.int .i64 x33, .int .u64 x34], .agg #[.int .i64 x11, .int .u64 x12]] w' (Vc.Ret (.tuple #[.agg #[.int .i64 x37, .int .i64 x38], .int .i64 x39]) w')) ∧
  (.tuple #[.agg #[.int .i64 x37, .int .i64 x38], .int .i64 x39] : Value) = v)))) ∧ (¬ (b4 = true) → (
  ∃ (b5 : Bool), (∀ w' : World, Below w.heap.size w w' → Calls Tryz.prog 94 #[.agg #[.int .i64 x11, .int .u64 x12], .agg #[.int .i64 x35, .int .u64 x36]] w' (Vc.Ret (.bool b5) w')) ∧
  ((b5 = true) → (
  ∃ (x37 : Int), ∃ (x38 : Int), ∃ (x39 : Int), (∀ w' : World, Below w.heap.size w w' → Calls Tryz.prog 95 #[.agg #[.int .i64 x25, .int .u64 x26], .agg #[.int .i64 x35, .int .u64 x36]] w' (Vc.Ret (.tuple #[.agg #[.int .i64 x37, .int .i64 x38], .int .i64 x39]) w')) ∧
  (.tuple #[.agg #[.int .i64 x37, .int .i64 x38], .int .i64 x39] : Value) = v)) ∧ (¬ (b5 = true) → (
  ∃ (x37 : Int), ∃ (x38 : Int), ∃ (x39 : Int), (∀ w' : World, Below w.heap.size w w' → Calls Tryz.prog 95 #[.agg #[.int .i64 x25, .int .u64 x26], .agg #[.int .i64 x11, .int .u64 x12]] w' (Vc.Ret (.tuple #[.agg #[.int .i64 x37, .int .i64 x38], .int .i64 x39]) w')) ∧
  (.tuple #[.agg #[.int .i64 x37, .int .i64 x38], .int .i64 x39] : Value) = v)))))))) ∧ (¬ (b2 = true) → (
  ∃ (b3 : Bool), (∀ w' : World, Below w.heap.size w w' → Calls Tryz.prog 94 #[.agg #[.int .i64 x11, .int .u64 x12], .agg #[.int .i64 x27, .int .u64 x28]] w' (Vc.Ret (.bool b3) w')) ∧
  ((b3 = true) → (
  ∃ (x29 : Int), ∃ (x30 : Int), (∀ w' : World, Below w.heap.size w w' → Calls Tryz.prog 98 #[.int .i64 x1] w' (Vc.Ret (.agg #[.int .i64 x29, .int .u64 x30]) w')) ∧
  ∃ (x31 : Int), ∃ (x32 : Int), (∀ w' : World, Below w.heap.size w w' → Calls Tryz.prog 98 #[.int .i64 x3] w' (Vc.Ret (.agg #[.int .i64 x31, .int .u64 x32]) w')) ∧
  ∃ (x33 : Int), ∃ (x34 : Int), ∃ (x35 : Int), ∃ (x36 : Int), (∀ w' : World, Below w.heap.size w w' → Calls Tryz.prog 102 #[.agg #[.int .i64 x29, .int .u64 x30], .agg #[.int .i64 x31, .int .u64 x32]] w' (Vc.Ret (.tuple #[.agg #[.int .i64 x33, .int .u64 x34], .agg #[.int .i64 x35, .int .u64 x36]]) w')) ∧
  ∃ (b4 : Bool), (∀ w' : World, Below w.heap.size w w' → Calls Tryz.prog 94 #[.agg #[.int .i64 x33, .int .u64 x34], .agg #[.int .i64 x17, .int .u64 x18]] w' (Vc.Ret (.bool b4) w')) ∧
  ((b4 = true) → (
  ∃ (b5 : Bool), (∀ w' : World, Below w.heap.size w w' → Calls Tryz.prog 94 #[.agg #[.int .i64 x27, .int .u64 x28], .agg #[.int .i64 x35, .int .u64 x36]] w' (Vc.Ret (.bool b5) w')) ∧
  ((b5 = true) → (
  ∃ (x37 : Int), ∃ (x38 : Int), ∃ (x39 : Int), (∀ w' : World, Below w.heap.size w w' → Calls Tryz.prog 95 #[.agg #[.int .i64 x33, .int .u64 x34], .agg #[.int .i64 x35, .int .u64 x36]] w' (Vc.Ret (.tuple #[.agg #[.int .i64 x37, .int .i64 x38], .int .i64 x39]) w')) ∧
  (.tuple #[.agg #[.int .i64 x37, .int .i64 x38], .int .i64 x39] : Value) = v)) ∧ (¬ (b5 = true) → (
  ∃ (x37 : Int), ∃ (x38 : Int), ∃ (x39 : Int), (∀ w' : World, Below w.heap.size w w' → Calls Tryz.prog 95 #[.agg #[.int .i64 x33, .int .u64 x34], .agg #[.int .i64 x27, .int .u64 x28]] w' (Vc.Ret (.tuple #[.agg #[.int .i64 x37, .int .i64 x38], .int .i64 x39]) w')) ∧
  (.tuple #[.agg #[.int .i64 x37, .int .i64 x38], .int .i64 x39] : Value) = v)))) ∧ (¬ (b4 = true) → (
  ∃ (b5 : Bool), (∀ w' : World, Below w.heap.size w w' → Calls Tryz.prog 94 #[.agg #[.int .i64 x27, .int .u64 x28], .agg #[.int .i64 x35, .int .u64 x36]] w' (Vc.Ret (.bool b5) w')) ∧
  ((b5 = true) → (
  ∃ (x37 : Int), ∃ (x38 : Int), ∃ (x39 : Int), (∀ w' : World, Below w.heap.size w w' → Calls Tryz.prog 95 #[.agg #[.int .i64 x17, .int .u64 x18], .agg #[.int .i64 x35, .int .u64 x36]] w' (Vc.Ret (.tuple #[.agg #[.int .i64 x37, .int .i64 x38], .int .i64 x39]) w')) ∧
  (.tuple #[.agg #[.int .i64 x37, .int .i64 x38], .int .i64 x39] : Value) = v)) ∧ (¬ (b5 = true) → (
  ∃ (x37 : Int), ∃ (x38 : Int), ∃ (x39 : Int), (∀ w' : World, Below w.heap.size w w' → Calls Tryz.prog 95 #[.agg #[.int .i64 x17, .int .u64 x18], .agg #[.int .i64 x27, .int .u64 x28]] w' (Vc.Ret (.tuple #[.agg #[.int .i64 x37, .int .i64 x38], .int .i64 x39]) w')) ∧
  (.tuple #[.agg #[.int .i64 x37, .int .i64 x38], .int .i64 x39] : Value) = v)))))) ∧ (¬ (b3 = true) → (
  ∃ (x29 : Int), ∃ (x30 : Int), (∀ w' : World, Below w.heap.size w w' → Calls Tryz.prog 98 #[.int .i64 x1] w' (Vc.Ret (.agg #[.int .i64 x29, .int .u64 x30]) w')) ∧
  ∃ (x31 : Int), ∃ (x32 : Int), (∀ w' : World, Below w.heap.size w w' → Calls Tryz.prog 98 #[.int .i64 x3] w' (Vc.Ret (.agg #[.int .i64 x31, .int .u64 x32]) w')) ∧
  ∃ (x33 : Int), ∃ (x34 : Int), ∃ (x35 : Int), ∃ (x36 : Int), (∀ w' : World, Below w.heap.size w w' → Calls Tryz.prog 102 #[.agg #[.int .i64 x29, .int .u64 x30], .agg #[.int .i64 x31, .int .u64 x32]] w' (Vc.Ret (.tuple #[.agg #[.int .i64 x33, .int .u64 x34], .agg #[.int .i64 x35, .int .u64 x36]]) w')) ∧
  ∃ (b4 : Bool), (∀ w' : World, Below w.heap.size w w' → Calls Tryz.prog 94 #[.agg #[.int .i64 x33, .int .u64 x34], .agg #[.int .i64 x17, .int .u64 x18]] w' (Vc.Ret (.bool b4) w')) ∧
  ((b4 = true) → (
  ∃ (b5 : Bool), (∀ w' : World, Below w.heap.size w w' → Calls Tryz.prog 94 #[.agg #[.int .i64 x11, .int .u64 x12], .agg #[.int .i64 x35, .int .u64 x36]] w' (Vc.Ret (.bool b5) w')) ∧
  ((b5 = true) → (
  ∃ (x37 : Int), ∃ (x38 : Int), ∃ (x39 : Int), (∀ w' : World, Below w.heap.size w w' → Calls Tryz.prog 95 #[.agg #[.int .i64 x33, .int .u64 x34], .agg #[.int .i64 x35, .int .u64 x36]] w' (Vc.Ret (.tuple #[.agg #[.int .i64 x37, .int .i64 x38], .int .i64 x39]) w')) ∧
  (.tuple #[.agg #[.int .i64 x37, .int .i64 x38], .int .i64 x39] : Value) = v)) ∧ (¬ (b5 = true) → (
  ∃ (x37 : Int), ∃ (x38 : Int), ∃ (x39 : Int), (∀ w' : World, Below w.heap.size w w' → Calls Tryz.prog 95 #[.agg #[.int .i64 x33, .int .u64 x34], .agg #[.int .i64 x11, .int .u64 x12]] w' (Vc.Ret (.tuple #[.agg #[.int .i64 x37, .int .i64 x38], .int .i64 x39]) w')) ∧
  (.tuple #[.agg #[.int .i64 x37, .int .i64 x38], .int .i64 x39] : Value) = v)))) ∧ (¬ (b4 = true) → (
  ∃ (b5 : Bool), (∀ w' : World, Below w.heap.size w w' → Calls Tryz.prog 94 #[.agg #[.int .i64 x11, .int .u64 x12], .agg #[.int .i64 x35, .int .u64 x36]] w' (Vc.Ret (.bool b5) w')) ∧
  ((b5 = true) → (
  ∃ (x37 : Int), ∃ (x38 : Int), ∃ (x39 : Int), (∀ w' : World, Below w.heap.size w w' → Calls Tryz.prog 95 #[.agg #[.int .i64 x17, .int .u64 x18], .agg #[.int .i64 x35, .int .u64 x36]] w' (Vc.Ret (.tuple #[.agg #[.int .i64 x37, .int .i64 x38], .int .i64 x39]) w')) ∧
  (.tuple #[.agg #[.int .i64 x37, .int .i64 x38], .int .i64 x39] : Value) = v)) ∧ (¬ (b5 = true) → (
  ∃ (x37 : Int), ∃ (x38 : Int), ∃ (x39 : Int), (∀ w' : World, Below w.heap.size w w' → Calls Tryz.prog 95 #[.agg #[.int .i64 x17, .int .u64 x18], .agg #[.int .i64 x11, .int .u64 x12]] w' (Vc.Ret (.tuple #[.agg #[.int .i64 x37, .int .i64 x38], .int .i64 x39]) w')) ∧
  (.tuple #[.agg #[.int .i64 x37, .int .i64 x38], .int .i64 x39] : Value) = v)))))))))))) ∧ (¬ (b0 = true) → (
  ∃ (b1 : Bool), (∀ w' : World, Below w.heap.size w w' → Calls Tryz.prog 94 #[.agg #[.int .i64 x11, .int .u64 x12], .agg #[.int .i64 x19, .int .u64 x20]] w' (Vc.Ret (.bool b1) w')) ∧
  ((b1 = true) → (
  ∃ (x21 : Int), ∃ (x22 : Int), (∀ w' : World, Below w.heap.size w w' → Calls Tryz.prog 98 #[.int .i64 x1] w' (Vc.Ret (.agg #[.int .i64 x21, .int .u64 x22]) w')) ∧
  ∃ (x23 : Int), ∃ (x24 : Int), (∀ w' : World, Below w.heap.size w w' → Calls Tryz.prog 98 #[.int .i64 x2] w' (Vc.Ret (.agg #[.int .i64 x23, .int .u64 x24]) w')) ∧
  ∃ (x25 : Int), ∃ (x26 : Int), ∃ (x27 : Int), ∃ (x28 : Int), (∀ w' : World, Below w.heap.size w w' → Calls Tryz.prog 102 #[.agg #[.int .i64 x21, .int .u64 x22], .agg #[.int .i64 x23, .int .u64 x24]] w' (Vc.Ret (.tuple #[.agg #[.int .i64 x25, .int .u64 x26], .agg #[.int .i64 x27, .int .u64 x28]]) w')) ∧
  ∃ (b2 : Bool), (∀ w' : World, Below w.heap.size w w' → Calls Tryz.prog 94 #[.agg #[.int .i64 x25, .int .u64 x26], .agg #[.int .i64 x9, .int .u64 x10]] w' (Vc.Ret (.bool b2) w')) ∧
  ((b2 = true) → (
  ∃ (b3 : Bool), (∀ w' : World, Below w.heap.size w w' → Calls Tryz.prog 94 #[.agg #[.int .i64 x19, .int .u64 x20], .agg #[.int .i64 x27, .int .u64 x28]] w' (Vc.Ret (.bool b3) w')) ∧
  ((b3 = true) → (
  ∃ (x29 : Int), ∃ (x30 : Int), (∀ w' : World, Below w.heap.size w w' → Calls Tryz.prog 98 #[.int .i64 x1] w' (Vc.Ret (.agg #[.int .i64 x29, .int .u64 x30]) w')) ∧
  ∃ (x31 : Int), ∃ (x32 : Int), (∀ w' : World, Below w.heap.size w w' → Calls Tryz.prog 98 #[.int .i64 x3] w' (Vc.Ret (.agg #[.int .i64 x31, .int .u64 x32]) w')) ∧
  ∃ (x33 : Int), ∃ (x34 : Int), ∃ (x35 : Int), ∃ (x36 : Int), (∀ w' : World, Below w.heap.size w w' → Calls Tryz.prog 102 #[.agg #[.int .i64 x29, .int .u64 x30], .agg #[.int .i64 x31, .int .u64 x32]] w' (Vc.Ret (.tuple #[.agg #[.int .i64 x33, .int .u64 x34], .agg #[.int .i64 x35, .int .u64 x36]]) w')) ∧
  ∃ (b4 : Bool), (∀ w' : World, Below w.heap.size w w' → Calls Tryz.prog 94 #[.agg #[.int .i64 x33, .int .u64 x34], .agg #[.int .i64 x25, .int .u64 x26]] w' (Vc.Ret (.bool b4) w')) ∧
  ((b4 = true) → (
  ∃ (b5 : Bool), (∀ w' : World, Below w.heap.size w w' → Calls Tryz.prog 94 #[.agg #[.int .i64 x27, .int .u64 x28], .agg #[.int .i64 x35, .int .u64 x36]] w' (Vc.Ret (.bool b5) w')) ∧
  ((b5 = true) → (
  ∃ (x37 : Int), ∃ (x38 : Int), ∃ (x39 : Int), (∀ w' : World, Below w.heap.size w w' → Calls Tryz.prog 95 #[.agg #[.int .i64 x33, .int .u64 x34], .agg #[.int .i64 x35, .int .u64 x36]] w' (Vc.Ret (.tuple #[.agg #[.int .i64 x37, .int .i64 x38], .int .i64 x39]) w')) ∧
  (.tuple #[.agg #[.int .i64 x37, .int .i64 x38], .int .i64 x39] : Value) = v)) ∧ (¬ (b5 = true) → (
  ∃ (x37 : Int), ∃ (x38 : Int), ∃ (x39 : Int), (∀ w' : World, Below w.heap.size w w' → Calls Tryz.prog 95 #[.agg #[.int .i64 x33, .int .u64 x34], .agg #[.int .i64 x27, .int .u64 x28]] w' (Vc.Ret (.tuple #[.agg #[.int .i64 x37, .int .i64 x38], .int .i64 x39]) w')) ∧
  (.tuple #[.agg #[.int .i64 x37, .int .i64 x38], .int .i64 x39] : Value) = v)))) ∧ (¬ (b4 = true) → (
  ∃ (b5 : Bool), (∀ w' : World, Below w.heap.size w w' → Calls Tryz.prog 94 #[.agg #[.int .i64 x27, .int .u64 x28], .agg #[.int .i64 x35, .int .u64 x36]] w' (Vc.Ret (.bool b5) w')) ∧
  ((b5 = true) → (
  ∃ (x37 : Int), ∃ (x38 : Int), ∃ (x39 : Int), (∀ w' : World, Below w.heap.size w w' → Calls Tryz.prog 95 #[.agg #[.int .i64 x25, .int .u64 x26], .agg #[.int .i64 x35, .int .u64 x36]] w' (Vc.Ret (.tuple #[.agg #[.int .i64 x37, .int .i64 x38], .int .i64 x39]) w')) ∧
  (.tuple #[.agg #[.int .i64 x37, .int .i64 x38], .int .i64 x39] : Value) = v)) ∧ (¬ (b5 = true) → (
  ∃ (x37 : Int), ∃ (x38 : Int), ∃ (x39 : Int), (∀ w' : World, Below w.heap.size w w' → Calls Tryz.prog 95 #[.agg #[.int .i64 x25, .int .u64 x26], .agg #[.int .i64 x27, .int .u64 x28]] w' (Vc.Ret (.tuple #[.agg #[.int .i64 x37, .int .i64 x38], .int .i64 x39]) w')) ∧
  (.tuple #[.agg #[.int .i64 x37, .int .i64 x38], .int .i64 x39] : Value) = v)))))) ∧ (¬ (b3 = true) → (
  ∃ (x29 : Int), ∃ (x30 : Int), (∀ w' : World, Below w.heap.size w w' → Calls Tryz.prog 98 #[.int .i64 x1] w' (Vc.Ret (.agg #[.int .i64 x29, .int .u64 x30]) w')) ∧
  ∃ (x31 : Int), ∃ (x32 : Int), (∀ w' : World, Below w.heap.size w w' → Calls Tryz.prog 98 #[.int .i64 x3] w' (Vc.Ret (.agg #[.int .i64 x31, .int .u64 x32]) w')) ∧
  ∃ (x33 : Int), ∃ (x34 : Int), ∃ (x35 : Int), ∃ (x36 : Int), (∀ w' : World, Below w.heap.size w w' → Calls Tryz.prog 102 #[.agg #[.int .i64 x29, .int .u64 x30], .agg #[.int .i64 x31, .int .u64 x32]] w' (Vc.Ret (.tuple #[.agg #[.int .i64 x33, .int .u64 x34], .agg #[.int .i64 x35, .int .u64 x36]]) w')) ∧
  ∃ (b4 : Bool), (∀ w' : World, Below w.heap.size w w' → Calls Tryz.prog 94 #[.agg #[.int .i64 x33, .int .u64 x34], .agg #[.int .i64 x25, .int .u64 x26]] w' (Vc.Ret (.bool b4) w')) ∧
  ((b4 = true) → (
  ∃ (b5 : Bool), (∀ w' : World, Below w.heap.size w w' → Calls Tryz.prog 94 #[.agg #[.int .i64 x19, .int .u64 x20], .agg #[.int .i64 x35, .int .u64 x36]] w' (Vc.Ret (.bool b5) w')) ∧
  ((b5 = true) → (
  ∃ (x37 : Int), ∃ (x38 : Int), ∃ (x39 : Int), (∀ w' : World, Below w.heap.size w w' → Calls Tryz.prog 95 #[.agg #[.int .i64 x33, .int .u64 x34], .agg #[.int .i64 x35, .int .u64 x36]] w' (Vc.Ret (.tuple #[.agg #[.int .i64 x37, .int .i64 x38], .int .i64 x39]) w')) ∧
  (.tuple #[.agg #[.int .i64 x37, .int .i64 x38], .int .i64 x39] : Value) = v)) ∧ (¬ (b5 = true) → (
  ∃ (x37 : Int), ∃ (x38 : Int), ∃ (x39 : Int), (∀ w' : World, Below w.heap.size w w' → Calls Tryz.prog 95 #[.agg #[.int .i64 x33, .int .u64 x34], .agg #[.int .i64 x19, .int .u64 x20]] w' (Vc.Ret (.tuple #[.agg #[.int .i64 x37, .int .i64 x38], .int .i64 x39]) w')) ∧
  (.tuple #[.agg #[.int .i64 x37, .int .i64 x38], .int .i64 x39] : Value) = v)))) ∧ (¬ (b4 = true) → (
  ∃ (b5 : Bool), (∀ w' : World, Below w.heap.size w w' → Calls Tryz.prog 94 #[.agg #[.int .i64 x19, .int .u64 x20], .agg #[.int .i64 x35, .int .u64 x36]] w' (Vc.Ret (.bool b5) w')) ∧
  ((b5 = true) → (
  ∃ (x37 : Int), ∃ (x38 : Int), ∃ (x39 : Int), (∀ w' : World, Below w.heap.size w w' → Calls Tryz.prog 95 #[.agg #[.int .i64 x25, .int .u64 x26], .agg #[.int .i64 x35, .int .u64 x36]] w' (Vc.Ret (.tuple #[.agg #[.int .i64 x37, .int .i64 x38], .int .i64 x39]) w')) ∧
  (.tuple #[.agg #[.int .i64 x37, .int .i64 x38], .int .i64 x39] : Value) = v)) ∧ (¬ (b5 = true) → (
  ∃ (x37 : Int), ∃ (x38 : Int), ∃ (x39 : Int), (∀ w' : World, Below w.heap.size w w' → Calls Tryz.prog 95 #[.agg #[.int .i64 x25, .int .u64 x26], .agg #[.int .i64 x19, .int .u64 x20]] w' (Vc.Ret (.tuple #[.agg #[.int .i64 x37, .int .i64 x38], .int .i64 x39]) w')) ∧
  (.tuple #[.agg #[.int .i64 x37, .int .i64 x38], .int .i64 x39] : Value) = v)))))))) ∧ (¬ (b2 = true) → (
  ∃ (b3 : Bool), (∀ w' : World, Below w.heap.size w w' → Calls Tryz.prog 94 #[.agg #[.int .i64 x19, .int .u64 x20], .agg #[.int .i64 x27, .int .u64 x28]] w' (Vc.Ret (.bool b3) w')) ∧
  ((b3 = true) → (
  ∃ (x29 : Int), ∃ (x30 : Int), (∀ w' : World, Below w.heap.size w w' → Calls Tryz.prog 98 #[.int .i64 x1] w' (Vc.Ret (.agg #[.int .i64 x29, .int .u64 x30]) w')) ∧
  ∃ (x31 : Int), ∃ (x32 : Int), (∀ w' : World, Below w.heap.size w w' → Calls Tryz.prog 98 #[.int .i64 x3] w' (Vc.Ret (.agg #[.int .i64 x31, .int .u64 x32]) w')) ∧
  ∃ (x33 : Int), ∃ (x34 : Int), ∃ (x35 : Int), ∃ (x36 : Int), (∀ w' : World, Below w.heap.size w w' → Calls Tryz.prog 102 #[.agg #[.int .i64 x29, .int .u64 x30], .agg #[.int .i64 x31, .int .u64 x32]] w' (Vc.Ret (.tuple #[.agg #[.int .i64 x33, .int .u64 x34], .agg #[.int .i64 x35, .int .u64 x36]]) w')) ∧
  ∃ (b4 : Bool), (∀ w' : World, Below w.heap.size w w' → Calls Tryz.prog 94 #[.agg #[.int .i64 x33, .int .u64 x34], .agg #[.int .i64 x9, .int .u64 x10]] w' (Vc.Ret (.bool b4) w')) ∧
  ((b4 = true) → (
  ∃ (b5 : Bool), (∀ w' : World, Below w.heap.size w w' → Calls Tryz.prog 94 #[.agg #[.int .i64 x27, .int .u64 x28], .agg #[.int .i64 x35, .int .u64 x36]] w' (Vc.Ret (.bool b5) w')) ∧
  ((b5 = true) → (
  ∃ (x37 : Int), ∃ (x38 : Int), ∃ (x39 : Int), (∀ w' : World, Below w.heap.size w w' → Calls Tryz.prog 95 #[.agg #[.int .i64 x33, .int .u64 x34], .agg #[.int .i64 x35, .int .u64 x36]] w' (Vc.Ret (.tuple #[.agg #[.int .i64 x37, .int .i64 x38], .int .i64 x39]) w')) ∧
  (.tuple #[.agg #[.int .i64 x37, .int .i64 x38], .int .i64 x39] : Value) = v)) ∧ (¬ (b5 = true) → (
  ∃ (x37 : Int), ∃ (x38 : Int), ∃ (x39 : Int), (∀ w' : World, Below w.heap.size w w' → Calls Tryz.prog 95 #[.agg #[.int .i64 x33, .int .u64 x34], .agg #[.int .i64 x27, .int .u64 x28]] w' (Vc.Ret (.tuple #[.agg #[.int .i64 x37, .int .i64 x38], .int .i64 x39]) w')) ∧
  (.tuple #[.agg #[.int .i64 x37, .int .i64 x38], .int .i64 x39] : Value) = v)))) ∧ (¬ (b4 = true) → (
  ∃ (b5 : Bool), (∀ w' : World, Below w.heap.size w w' → Calls Tryz.prog 94 #[.agg #[.int .i64 x27, .int .u64 x28], .agg #[.int .i64 x35, .int .u64 x36]] w' (Vc.Ret (.bool b5) w')) ∧
  ((b5 = true) → (
  ∃ (x37 : Int), ∃ (x38 : Int), ∃ (x39 : Int), (∀ w' : World, Below w.heap.size w w' → Calls Tryz.prog 95 #[.agg #[.int .i64 x9, .int .u64 x10], .agg #[.int .i64 x35, .int .u64 x36]] w' (Vc.Ret (.tuple #[.agg #[.int .i64 x37, .int .i64 x38], .int .i64 x39]) w')) ∧
  (.tuple #[.agg #[.int .i64 x37, .int .i64 x38], .int .i64 x39] : Value) = v)) ∧ (¬ (b5 = true) → (
  ∃ (x37 : Int), ∃ (x38 : Int), ∃ (x39 : Int), (∀ w' : World, Below w.heap.size w w' → Calls Tryz.prog 95 #[.agg #[.int .i64 x9, .int .u64 x10], .agg #[.int .i64 x27, .int .u64 x28]] w' (Vc.Ret (.tuple #[.agg #[.int .i64 x37, .int .i64 x38], .int .i64 x39]) w')) ∧
  (.tuple #[.agg #[.int .i64 x37, .int .i64 x38], .int .i64 x39] : Value) = v)))))) ∧ (¬ (b3 = true) → (
  ∃ (x29 : Int), ∃ (x30 : Int), (∀ w' : World, Below w.heap.size w w' → Calls Tryz.prog 98 #[.int .i64 x1] w' (Vc.Ret (.agg #[.int .i64 x29, .int .u64 x30]) w')) ∧
  ∃ (x31 : Int), ∃ (x32 : Int), (∀ w' : World, Below w.heap.size w w' → Calls Tryz.prog 98 #[.int .i64 x3] w' (Vc.Ret (.agg #[.int .i64 x31, .int .u64 x32]) w')) ∧
  ∃ (x33 : Int), ∃ (x34 : Int), ∃ (x35 : Int), ∃ (x36 : Int), (∀ w' : World, Below w.heap.size w w' → Calls Tryz.prog 102 #[.agg #[.int .i64 x29, .int .u64 x30], .agg #[.int .i64 x31, .int .u64 x32]] w' (Vc.Ret (.tuple #[.agg #[.int .i64 x33, .int .u64 x34], .agg #[.int .i64 x35, .int .u64 x36]]) w')) ∧
  ∃ (b4 : Bool), (∀ w' : World, Below w.heap.size w w' → Calls Tryz.prog 94 #[.agg #[.int .i64 x33, .int .u64 x34], .agg #[.int .i64 x9, .int .u64 x10]] w' (Vc.Ret (.bool b4) w')) ∧
  ((b4 = true) → (
  ∃ (b5 : Bool), (∀ w' : World, Below w.heap.size w w' → Calls Tryz.prog 94 #[.agg #[.int .i64 x19, .int .u64 x20], .agg #[.int .i64 x35, .int .u64 x36]] w' (Vc.Ret (.bool b5) w')) ∧
  ((b5 = true) → (
  ∃ (x37 : Int), ∃ (x38 : Int), ∃ (x39 : Int), (∀ w' : World, Below w.heap.size w w' → Calls Tryz.prog 95 #[.agg #[.int .i64 x33, .int .u64 x34], .agg #[.int .i64 x35, .int .u64 x36]] w' (Vc.Ret (.tuple #[.agg #[.int .i64 x37, .int .i64 x38], .int .i64 x39]) w')) ∧
  (.tuple #[.agg #[.int .i64 x37, .int .i64 x38], .int .i64 x39] : Value) = v)) ∧ (¬ (b5 = true) → (
  ∃ (x37 : Int), ∃ (x38 : Int), ∃ (x39 : Int), (∀ w' : World, Below w.heap.size w w' → Calls Tryz.prog 95 #[.agg #[.int .i64 x33, .int .u64 x34], .agg #[.int .i64 x19, .int .u64 x20]] w' (Vc.Ret (.tuple #[.agg #[.int .i64 x37, .int .i64 x38], .int .i64 x39]) w')) ∧
  (.tuple #[.agg #[.int .i64 x37, .int .i64 x38], .int .i64 x39] : Value) = v)))) ∧ (¬ (b4 = true) → (
  ∃ (b5 : Bool), (∀ w' : World, Below w.heap.size w w' → Calls Tryz.prog 94 #[.agg #[.int .i64 x19, .int .u64 x20], .agg #[.int .i64 x35, .int .u64 x36]] w' (Vc.Ret (.bool b5) w')) ∧
  ((b5 = true) → (
  ∃ (x37 : Int), ∃ (x38 : Int), ∃ (x39 : Int), (∀ w' : World, Below w.heap.size w w' → Calls Tryz.prog 95 #[.agg #[.int .i64 x9, .int .u64 x10], .agg #[.int .i64 x35, .int .u64 x36]] w' (Vc.Ret (.tuple #[.agg #[.int .i64 x37, .int .i64 x38], .int .i64 x39]) w')) ∧
  (.tuple #[.agg #[.int .i64 x37, .int .i64 x38], .int .i64 x39] : Value) = v)) ∧ (¬ (b5 = true) → (
  ∃ (x37 : Int), ∃ (x38 : Int), ∃ (x39 : Int), (∀ w' : World, Below w.heap.size w w' → Calls Tryz.prog 95 #[.agg #[.int .i64 x9, .int .u64 x10], .agg #[.int .i64 x19, .int .u64 x20]] w' (Vc.Ret (.tuple #[.agg #[.int .i64 x37, .int .i64 x38], .int .i64 x39]) w')) ∧
  (.tuple #[.agg #[.int .i64 x37, .int .i64 x38], .int .i64 x39] : Value) = v)))))))))) ∧ (¬ (b1 = true) → (
  ∃ (x21 : Int), ∃ (x22 : Int), (∀ w' : World, Below w.heap.size w w' → Calls Tryz.prog 98 #[.int .i64 x1] w' (Vc.Ret (.agg #[.int .i64 x21, .int .u64 x22]) w')) ∧
  ∃ (x23 : Int), ∃ (x24 : Int), (∀ w' : World, Below w.heap.size w w' → Calls Tryz.prog 98 #[.int .i64 x2] w' (Vc.Ret (.agg #[.int .i64 x23, .int .u64 x24]) w')) ∧
  ∃ (x25 : Int), ∃ (x26 : Int), ∃ (x27 : Int), ∃ (x28 : Int), (∀ w' : World, Below w.heap.size w w' → Calls Tryz.prog 102 #[.agg #[.int .i64 x21, .int .u64 x22], .agg #[.int .i64 x23, .int .u64 x24]] w' (Vc.Ret (.tuple #[.agg #[.int .i64 x25, .int .u64 x26], .agg #[.int .i64 x27, .int .u64 x28]]) w')) ∧
  ∃ (b2 : Bool), (∀ w' : World, Below w.heap.size w w' → Calls Tryz.prog 94 #[.agg #[.int .i64 x25, .int .u64 x26], .agg #[.int .i64 x9, .int .u64 x10]] w' (Vc.Ret (.bool b2) w')) ∧
  ((b2 = true) → (
  ∃ (b3 : Bool), (∀ w' : World, Below w.heap.size w w' → Calls Tryz.prog 94 #[.agg #[.int .i64 x11, .int .u64 x12], .agg #[.int .i64 x27, .int .u64 x28]] w' (Vc.Ret (.bool b3) w')) ∧
  ((b3 = true) → (
  ∃ (x29 : Int), ∃ (x30 : Int), (∀ w' : World, Below w.heap.size w w' → Calls Tryz.prog 98 #[.int .i64 x1] w' (Vc.Ret (.agg #[.int .i64 x29, .int .u64 x30]) w')) ∧
  ∃ (x31 : Int), ∃ (x32 : Int), (∀ w' : World, Below w.heap.size w w' → Calls Tryz.prog 98 #[.int .i64 x3] w' (Vc.Ret (.agg #[.int .i64 x31, .int .u64 x32]) w')) ∧
  ∃ (x33 : Int), ∃ (x34 : Int), ∃ (x35 : Int), ∃ (x36 : Int), (∀ w' : World, Below w.heap.size w w' → Calls Tryz.prog 102 #[.agg #[.int .i64 x29, .int .u64 x30], .agg #[.int .i64 x31, .int .u64 x32]] w' (Vc.Ret (.tuple #[.agg #[.int .i64 x33, .int .u64 x34], .agg #[.int .i64 x35, .int .u64 x36]]) w')) ∧
  ∃ (b4 : Bool), (∀ w' : World, Below w.heap.size w w' → Calls Tryz.prog 94 #[.agg #[.int .i64 x33, .int .u64 x34], .agg #[.int .i64 x25, .int .u64 x26]] w' (Vc.Ret (.bool b4) w')) ∧
  ((b4 = true) → (
  ∃ (b5 : Bool), (∀ w' : World, Below w.heap.size w w' → Calls Tryz.prog 94 #[.agg #[.int .i64 x27, .int .u64 x28], .agg #[.int .i64 x35, .int .u64 x36]] w' (Vc.Ret (.bool b5) w')) ∧
  ((b5 = true) → (
  ∃ (x37 : Int), ∃ (x38 : Int), ∃ (x39 : Int), (∀ w' : World, Below w.heap.size w w' → Calls Tryz.prog 95 #[.agg #[.int .i64 x33, .int .u64 x34], .agg #[.int .i64 x35, .int .u64 x36]] w' (Vc.Ret (.tuple #[.agg #[.int .i64 x37, .int .i64 x38], .int .i64 x39]) w')) ∧
  (.tuple #[.agg #[.int .i64 x37, .int .i64 x38], .int .i64 x39] : Value) = v)) ∧ (¬ (b5 = true) → (
  ∃ (x37 : Int), ∃ (x38 : Int), ∃ (x39 : Int), (∀ w' : World, Below w.heap.size w w' → Calls Tryz.prog 95 #[.agg #[.int .i64 x33, .int .u64 x34], .agg #[.int .i64 x27, .int .u64 x28]] w' (Vc.Ret (.tuple #[.agg #[.int .i64 x37, .int .i64 x38], .int .i64 x39]) w')) ∧
  (.tuple #[.agg #[.int .i64 x37, .int .i64 x38], .int .i64 x39] : Value) = v)))) ∧ (¬ (b4 = true) → (
  ∃ (b5 : Bool), (∀ w' : World, Below w.heap.size w w' → Calls Tryz.prog 94 #[.agg #[.int .i64 x27, .int .u64 x28], .agg #[.int .i64 x35, .int .u64 x36]] w' (Vc.Ret (.bool b5) w')) ∧
  ((b5 = true) → (
  ∃ (x37 : Int), ∃ (x38 : Int), ∃ (x39 : Int), (∀ w' : World, Below w.heap.size w w' → Calls Tryz.prog 95 #[.agg #[.int .i64 x25, .int .u64 x26], .agg #[.int .i64 x35, .int .u64 x36]] w' (Vc.Ret (.tuple #[.agg #[.int .i64 x37, .int .i64 x38], .int .i64 x39]) w')) ∧
  (.tuple #[.agg #[.int .i64 x37, .int .i64 x38], .int .i64 x39] : Value) = v)) ∧ (¬ (b5 = true) → (
  ∃ (x37 : Int), ∃ (x38 : Int), ∃ (x39 : Int), (∀ w' : World, Below w.heap.size w w' → Calls Tryz.prog 95 #[.agg #[.int .i64 x25, .int .u64 x26], .agg #[.int .i64 x27, .int .u64 x28]] w' (Vc.Ret (.tuple #[.agg #[.int .i64 x37, .int .i64 x38], .int .i64 x39]) w')) ∧
  (.tuple #[.agg #[.int .i64 x37, .int .i64 x38], .int .i64 x39] : Value) = v)))))) ∧ (¬ (b3 = true) → (
  ∃ (x29 : Int), ∃ (x30 : Int), (∀ w' : World, Below w.heap.size w w' → Calls Tryz.prog 98 #[.int .i64 x1] w' (Vc.Ret (.agg #[.int .i64 x29, .int .u64 x30]) w')) ∧
  ∃ (x31 : Int), ∃ (x32 : Int), (∀ w' : World, Below w.heap.size w w' → Calls Tryz.prog 98 #[.int .i64 x3] w' (Vc.Ret (.agg #[.int .i64 x31, .int .u64 x32]) w')) ∧
  ∃ (x33 : Int), ∃ (x34 : Int), ∃ (x35 : Int), ∃ (x36 : Int), (∀ w' : World, Below w.heap.size w w' → Calls Tryz.prog 102 #[.agg #[.int .i64 x29, .int .u64 x30], .agg #[.int .i64 x31, .int .u64 x32]] w' (Vc.Ret (.tuple #[.agg #[.int .i64 x33, .int .u64 x34], .agg #[.int .i64 x35, .int .u64 x36]]) w')) ∧
  ∃ (b4 : Bool), (∀ w' : World, Below w.heap.size w w' → Calls Tryz.prog 94 #[.agg #[.int .i64 x33, .int .u64 x34], .agg #[.int .i64 x25, .int .u64 x26]] w' (Vc.Ret (.bool b4) w')) ∧
  ((b4 = true) → (
  ∃ (b5 : Bool), (∀ w' : World, Below w.heap.size w w' → Calls Tryz.prog 94 #[.agg #[.int .i64 x11, .int .u64 x12], .agg #[.int .i64 x35, .int .u64 x36]] w' (Vc.Ret (.bool b5) w')) ∧
  ((b5 = true) → (
  ∃ (x37 : Int), ∃ (x38 : Int), ∃ (x39 : Int), (∀ w' : World, Below w.heap.size w w' → Calls Tryz.prog 95 #[.agg #[.int .i64 x33, .int .u64 x34], .agg #[.int .i64 x35, .int .u64 x36]] w' (Vc.Ret (.tuple #[.agg #[.int .i64 x37, .int .i64 x38], .int .i64 x39]) w')) ∧
  (.tuple #[.agg #[.int .i64 x37, .int .i64 x38], .int .i64 x39] : Value) = v)) ∧ (¬ (b5 = true) → (
  ∃ (x37 : Int), ∃ (x38 : Int), ∃ (x39 : Int), (∀ w' : World, Below w.heap.size w w' → Calls Tryz.prog 95 #[.agg #[.int .i64 x33, .int .u64 x34], .agg #[.int .i64 x11, .int .u64 x12]] w' (Vc.Ret (.tuple #[.agg #[.int .i64 x37, .int .i64 x38], .int .i64 x39]) w')) ∧
  (.tuple #[.agg #[.int .i64 x37, .int .i64 x38], .int .i64 x39] : Value) = v)))) ∧ (¬ (b4 = true) → (
  ∃ (b5 : Bool), (∀ w' : World, Below w.heap.size w w' → Calls Tryz.prog 94 #[.agg #[.int .i64 x11, .int .u64 x12], .agg #[.int .i64 x35, .int .u64 x36]] w' (Vc.Ret (.bool b5) w')) ∧
  ((b5 = true) → (
  ∃ (x37 : Int), ∃ (x38 : Int), ∃ (x39 : Int), (∀ w' : World, Below w.heap.size w w' → Calls Tryz.prog 95 #[.agg #[.int .i64 x25, .int .u64 x26], .agg #[.int .i64 x35, .int .u64 x36]] w' (Vc.Ret (.tuple #[.agg #[.int .i64 x37, .int .i64 x38], .int .i64 x39]) w')) ∧
  (.tuple #[.agg #[.int .i64 x37, .int .i64 x38], .int .i64 x39] : Value) = v)) ∧ (¬ (b5 = true) → (
  ∃ (x37 : Int), ∃ (x38 : Int), ∃ (x39 : Int), (∀ w' : World, Below w.heap.size w w' → Calls Tryz.prog 95 #[.agg #[.int .i64 x25, .int .u64 x26], .agg #[.int .i64 x11, .int .u64 x12]] w' (Vc.Ret (.tuple #[.agg #[.int .i64 x37, .int .i64 x38], .int .i64 x39]) w')) ∧
  (.tuple #[.agg #[.int .i64 x37, .int .i64 x38], .int .i64 x39] : Value) = v)))))))) ∧ (¬ (b2 = true) → (
  ∃ (b3 : Bool), (∀ w' : World, Below w.heap.size w w' → Calls Tryz.prog 94 #[.agg #[.int .i64 x11, .int .u64 x12], .agg #[.int .i64 x27, .int .u64 x28]] w' (Vc.Ret (.bool b3) w')) ∧
  ((b3 = true) → (
  ∃ (x29 : Int), ∃ (x30 : Int), (∀ w' : World, Below w.heap.size w w' → Calls Tryz.prog 98 #[.int .i64 x1] w' (Vc.Ret (.agg #[.int .i64 x29, .int .u64 x30]) w')) ∧
  ∃ (x31 : Int), ∃ (x32 : Int), (∀ w' : World, Below w.heap.size w w' → Calls Tryz.prog 98 #[.int .i64 x3] w' (Vc.Ret (.agg #[.int .i64 x31, .int .u64 x32]) w')) ∧
  ∃ (x33 : Int), ∃ (x34 : Int), ∃ (x35 : Int), ∃ (x36 : Int), (∀ w' : World, Below w.heap.size w w' → Calls Tryz.prog 102 #[.agg #[.int .i64 x29, .int .u64 x30], .agg #[.int .i64 x31, .int .u64 x32]] w' (Vc.Ret (.tuple #[.agg #[.int .i64 x33, .int .u64 x34], .agg #[.int .i64 x35, .int .u64 x36]]) w')) ∧
  ∃ (b4 : Bool), (∀ w' : World, Below w.heap.size w w' → Calls Tryz.prog 94 #[.agg #[.int .i64 x33, .int .u64 x34], .agg #[.int .i64 x9, .int .u64 x10]] w' (Vc.Ret (.bool b4) w')) ∧
  ((b4 = true) → (
  ∃ (b5 : Bool), (∀ w' : World, Below w.heap.size w w' → Calls Tryz.prog 94 #[.agg #[.int .i64 x27, .int .u64 x28], .agg #[.int .i64 x35, .int .u64 x36]] w' (Vc.Ret (.bool b5) w')) ∧
  ((b5 = true) → (
  ∃ (x37 : Int), ∃ (x38 : Int), ∃ (x39 : Int), (∀ w' : World, Below w.heap.size w w' → Calls Tryz.prog 95 #[.agg #[.int .i64 x33, .int .u64 x34], .agg #[.int .i64 x35, .int .u64 x36]] w' (Vc.Ret (.tuple #[.agg #[.int .i64 x37, .int .i64 x38], .int .i64 x39]) w')) ∧
  (.tuple #[.agg #[.int .i64 x37, .int .i64 x38], .int .i64 x39] : Value) = v)) ∧ (¬ (b5 = true) → (
  ∃ (x37 : Int), ∃ (x38 : Int), ∃ (x39 : Int), (∀ w' : World, Below w.heap.size w w' → Calls Tryz.prog 95 #[.agg #[.int .i64 x33, .int .u64 x34], .agg #[.int .i64 x27, .int .u64 x28]] w' (Vc.Ret (.tuple #[.agg #[.int .i64 x37, .int .i64 x38], .int .i64 x39]) w')) ∧
  (.tuple #[.agg #[.int .i64 x37, .int .i64 x38], .int .i64 x39] : Value) = v)))) ∧ (¬ (b4 = true) → (
  ∃ (b5 : Bool), (∀ w' : World, Below w.heap.size w w' → Calls Tryz.prog 94 #[.agg #[.int .i64 x27, .int .u64 x28], .agg #[.int .i64 x35, .int .u64 x36]] w' (Vc.Ret (.bool b5) w')) ∧
  ((b5 = true) → (
  ∃ (x37 : Int), ∃ (x38 : Int), ∃ (x39 : Int), (∀ w' : World, Below w.heap.size w w' → Calls Tryz.prog 95 #[.agg #[.int .i64 x9, .int .u64 x10], .agg #[.int .i64 x35, .int .u64 x36]] w' (Vc.Ret (.tuple #[.agg #[.int .i64 x37, .int .i64 x38], .int .i64 x39]) w')) ∧
  (.tuple #[.agg #[.int .i64 x37, .int .i64 x38], .int .i64 x39] : Value) = v)) ∧ (¬ (b5 = true) → (
  ∃ (x37 : Int), ∃ (x38 : Int), ∃ (x39 : Int), (∀ w' : World, Below w.heap.size w w' → Calls Tryz.prog 95 #[.agg #[.int .i64 x9, .int .u64 x10], .agg #[.int .i64 x27, .int .u64 x28]] w' (Vc.Ret (.tuple #[.agg #[.int .i64 x37, .int .i64 x38], .int .i64 x39]) w')) ∧
  (.tuple #[.agg #[.int .i64 x37, .int .i64 x38], .int .i64 x39] : Value) = v)))))) ∧ (¬ (b3 = true) → (
  ∃ (x29 : Int), ∃ (x30 : Int), (∀ w' : World, Below w.heap.size w w' → Calls Tryz.prog 98 #[.int .i64 x1] w' (Vc.Ret (.agg #[.int .i64 x29, .int .u64 x30]) w')) ∧
  ∃ (x31 : Int), ∃ (x32 : Int), (∀ w' : World, Below w.heap.size w w' → Calls Tryz.prog 98 #[.int .i64 x3] w' (Vc.Ret (.agg #[.int .i64 x31, .int .u64 x32]) w')) ∧
  ∃ (x33 : Int), ∃ (x34 : Int), ∃ (x35 : Int), ∃ (x36 : Int), (∀ w' : World, Below w.heap.size w w' → Calls Tryz.prog 102 #[.agg #[.int .i64 x29, .int .u64 x30], .agg #[.int .i64 x31, .int .u64 x32]] w' (Vc.Ret (.tuple #[.agg #[.int .i64 x33, .int .u64 x34], .agg #[.int .i64 x35, .int .u64 x36]]) w')) ∧
  ∃ (b4 : Bool), (∀ w' : World, Below w.heap.size w w' → Calls Tryz.prog 94 #[.agg #[.int .i64 x33, .int .u64 x34], .agg #[.int .i64 x9, .int .u64 x10]] w' (Vc.Ret (.bool b4) w')) ∧
  ((b4 = true) → (
  ∃ (b5 : Bool), (∀ w' : World, Below w.heap.size w w' → Calls Tryz.prog 94 #[.agg #[.int .i64 x11, .int .u64 x12], .agg #[.int .i64 x35, .int .u64 x36]] w' (Vc.Ret (.bool b5) w')) ∧
  ((b5 = true) → (
  ∃ (x37 : Int), ∃ (x38 : Int), ∃ (x39 : Int), (∀ w' : World, Below w.heap.size w w' → Calls Tryz.prog 95 #[.agg #[.int .i64 x33, .int .u64 x34], .agg #[.int .i64 x35, .int .u64 x36]] w' (Vc.Ret (.tuple #[.agg #[.int .i64 x37, .int .i64 x38], .int .i64 x39]) w')) ∧
  (.tuple #[.agg #[.int .i64 x37, .int .i64 x38], .int .i64 x39] : Value) = v)) ∧ (¬ (b5 = true) → (
  ∃ (x37 : Int), ∃ (x38 : Int), ∃ (x39 : Int), (∀ w' : World, Below w.heap.size w w' → Calls Tryz.prog 95 #[.agg #[.int .i64 x33, .int .u64 x34], .agg #[.int .i64 x11, .int .u64 x12]] w' (Vc.Ret (.tuple #[.agg #[.int .i64 x37, .int .i64 x38], .int .i64 x39]) w')) ∧
  (.tuple #[.agg #[.int .i64 x37, .int .i64 x38], .int .i64 x39] : Value) = v)))) ∧ (¬ (b4 = true) → (
  ∃ (b5 : Bool), (∀ w' : World, Below w.heap.size w w' → Calls Tryz.prog 94 #[.agg #[.int .i64 x11, .int .u64 x12], .agg #[.int .i64 x35, .int .u64 x36]] w' (Vc.Ret (.bool b5) w')) ∧
  ((b5 = true) → (
  ∃ (x37 : Int), ∃ (x38 : Int), ∃ (x39 : Int), (∀ w' : World, Below w.heap.size w w' → Calls Tryz.prog 95 #[.agg #[.int .i64 x9, .int .u64 x10], .agg #[.int .i64 x35, .int .u64 x36]] w' (Vc.Ret (.tuple #[.agg #[.int .i64 x37, .int .i64 x38], .int .i64 x39]) w')) ∧
  (.tuple #[.agg #[.int .i64 x37, .int .i64 x38], .int .i64 x39] : Value) = v)) ∧ (¬ (b5 = true) → (
  ∃ (x37 : Int), ∃ (x38 : Int), ∃ (x39 : Int), (∀ w' : World, Below w.heap.size w w' → Calls Tryz.prog 95 #[.agg #[.int .i64 x9, .int .u64 x10], .agg #[.int .i64 x11, .int .u64 x12]] w' (Vc.Ret (.tuple #[.agg #[.int .i64 x37, .int .i64 x38], .int .i64 x39]) w')) ∧
  (.tuple #[.agg #[.int .i64 x37, .int .i64 x38], .int .i64 x39] : Value) = v)))))))))))))))) ∧ (¬ (x4 = 0) → (
  (.tuple #[.agg #[.int .i64 0, .int .i64 0], .int .i64 2] : Value) = v))) : Calls Tryz.prog 50 #[.agg #[.int .i64 x0, .int .i64 x1], .agg #[.int .i64 x2, .int .i64 x3]] w (Vc.Ret v w) :=
  Vc.pure_of (base_inl [101] (by kernel_rfl)) [(9, .unroll)] 200 Tryz.func50 (b := (Tryz.f50.body).getD .skip) (by kernel_rfl) [.cv (.agg [.int .i64 (.var 0), .int .i64 (.var 1)]), .cv (.agg [.int .i64 (.var 2), .int .i64 (.var 3)])] ⟨4, 0, 0, 0, 0, 0, 0⟩ (Vc.envOf [x0, x1, x2, x3] [] [] []) (by kernel_rfl) (by kernel_rfl) (by kernel_rfl) h

theorem vc_ullageref01_Square (x0 x1 : Int) (w : World) (v : Value) (h : 
  ∃ (x2 : Int), ∃ (x3 : Int), ∃ (x4 : Int), (∀ w' : World, Below w.heap.size w w' → Calls Tryz.prog 91 #[.agg #[.int .i64 x0, .int .i64 x1]] w' (Vc.Ret (.tuple #[.agg #[.int .i64 x2, .int .i64 x3], .int .i64 x4]) w')) ∧
  ((x4 = 0) → (
  ∃ (x5 : Int), ∃ (x6 : Int), ∃ (x7 : Int), (∀ w' : World, Below w.heap.size w w' → Calls Tryz.prog 92 #[.agg #[.int .i64 x2, .int .i64 x3], .agg #[.int .i64 x2, .int .i64 x3]] w' (Vc.Ret (.tuple #[.agg #[.int .i64 x5, .int .i64 x6], .int .i64 x7]) w')) ∧
  (.tuple #[.agg #[.int .i64 x5, .int .i64 x6], .int .i64 x7] : Value) = v)) ∧ (¬ (x4 = 0) → (
  (.tuple #[.agg #[.int .i64 0, .int .i64 0], .int .i64 x4] : Value) = v))) : Calls Tryz.prog 44 #[.agg #[.int .i64 x0, .int .i64 x1]] w (Vc.Ret v w) :=
  Vc.pure_of base [] 200 Tryz.func44 (b := (Tryz.f44.body).getD .skip) (by kernel_rfl) [.cv (.agg [.int .i64 (.var 0), .int .i64 (.var 1)])] ⟨2, 0, 0, 0, 0, 0, 0⟩ (Vc.envOf [x0, x1] [] [] []) (by kernel_rfl) (by kernel_rfl) (by kernel_rfl) h

theorem vc_ullageref01_Root (x0 x1 : Int) (w : World) (v : Value) (h : 
  ∃ (x2 : Int), (∀ w' : World, Below w.heap.size w w' → Calls Tryz.prog 43 #[.agg #[.int .i64 x0, .int .i64 x1]] w' (Vc.Ret (.int .i64 x2) w')) ∧
  ((x2 = 0) → (
  ((x1 < 0) → (
  (.tuple #[.agg #[.int .i64 0, .int .i64 0], .int .i64 4] : Value) = v)) ∧ (¬ (x1 < 0) → (
  ∀ x3 : Int, x3 = (if 0 > x0 then 0 else x0) →
  ∃ (x4 : Int), ∃ (x5 : Int), (∀ w' : World, Below w.heap.size w w' → Calls Tryz.prog 98 #[.int .i64 x3] w' (Vc.Ret (.agg #[.int .i64 x4, .int .u64 x5]) w')) ∧
  ∃ (x6 : Int), ∃ (x7 : Int), (∀ w' : World, Below w.heap.size w w' → Calls Tryz.prog 97 #[.agg #[.int .i64 x4, .int .u64 x5], .int .i64 32] w' (Vc.Ret (.agg #[.int .i64 x6, .int .u64 x7]) w')) ∧
  ∃ (x8 : Int), ∃ (x9 : Int), (∀ w' : World, Below w.heap.size w w' → Calls Tryz.prog 98 #[.int .i64 x1] w' (Vc.Ret (.agg #[.int .i64 x8, .int .u64 x9]) w')) ∧
  ∃ (x10 : Int), ∃ (x11 : Int), (∀ w' : World, Below w.heap.size w w' → Calls Tryz.prog 97 #[.agg #[.int .i64 x8, .int .u64 x9], .int .i64 32] w' (Vc.Ret (.agg #[.int .i64 x10, .int .u64 x11]) w')) ∧
  ∃ (x12 : Int), (∀ w' : World, Below w.heap.size w w' → Calls Tryz.prog 99 #[.agg #[.int .i64 x10, .int .u64 x11]] w' (Vc.Ret (.int .i64 x12) w')) ∧
  ∃ (x13 : Int), ∃ (x14 : Int), (∀ w' : World, Below w.heap.size w w' → Calls Tryz.prog 93 #[.int .i64 x12, .int .i64 x12] w' (Vc.Ret (.agg #[.int .i64 x13, .int .u64 x14]) w')) ∧
  ∃ (b0 : Bool), (∀ w' : World, Below w.heap.size w w' → Calls Tryz.prog 94 #[.agg #[.int .i64 x13, .int .u64 x14], .agg #[.int .i64 x10, .int .u64 x11]] w' (Vc.Ret (.bool b0) w')) ∧
  ((b0 = true) → (
  ∀ x15 : Int, x15 = IntKind.i64.wrap (x12 + 1) →
  ∃ (x16 : Int), (∀ w' : World, Below w.heap.size w w' → Calls Tryz.prog 99 #[.agg #[.int .i64 x6, .int .u64 x7]] w' (Vc.Ret (.int .i64 x16) w')) ∧
  (.tuple #[.agg #[.int .i64 x16, .int .i64 x15], .int .i64 0] : Value) = v)) ∧ (¬ (b0 = true) → (
  ∃ (x15 : Int), (∀ w' : World, Below w.heap.size w w' → Calls Tryz.prog 99 #[.agg #[.int .i64 x6, .int .u64 x7]] w' (Vc.Ret (.int .i64 x15) w')) ∧
  (.tuple #[.agg #[.int .i64 x15, .int .i64 x12], .int .i64 0] : Value) = v)))))) ∧ (¬ (x2 = 0) → (
  (.tuple #[.agg #[.int .i64 0, .int .i64 0], .int .i64 2] : Value) = v))) : Calls Tryz.prog 49 #[.agg #[.int .i64 x0, .int .i64 x1]] w (Vc.Ret v w) :=
  Vc.pure_of base [] 200 Tryz.func49 (b := (Tryz.f49.body).getD .skip) (by kernel_rfl) [.cv (.agg [.int .i64 (.var 0), .int .i64 (.var 1)])] ⟨2, 0, 0, 0, 0, 0, 0⟩ (Vc.envOf [x0, x1] [] [] []) (by kernel_rfl) (by kernel_rfl) (by kernel_rfl) h

theorem vc_ullageref01_Abs (x0 x1 : Int) (w : World) (v : Value) (h : 
  ∃ (x2 : Int), (∀ w' : World, Below w.heap.size w w' → Calls Tryz.prog 43 #[.agg #[.int .i64 x0, .int .i64 x1]] w' (Vc.Ret (.int .i64 x2) w')) ∧
  ((x2 = 0) → (
  ((0 ≤ x0) → (
  (.tuple #[.agg #[.int .i64 x0, .int .i64 x1], .int .i64 0] : Value) = v)) ∧ (¬ (0 ≤ x0) → (
  ((x1 ≤ 0) → (
  ∃ (x3 : Int), ∃ (x4 : Int), ∃ (x5 : Int), (∀ w' : World, Below w.heap.size w w' → Calls Tryz.prog 129 #[.agg #[.int .i64 x0, .int .i64 x1]] w' (Vc.Ret (.tuple #[.agg #[.int .i64 x3, .int .i64 x4], .int .i64 x5]) w')) ∧
  (.tuple #[.agg #[.int .i64 x3, .int .i64 x4], .int .i64 x5] : Value) = v)) ∧ (¬ (x1 ≤ 0) → (
  ∀ x3 : Int, x3 = IntKind.i64.wrap (0 - x0) →
  ∀ x4 : Int, x4 = (if x1 > x3 then x1 else x3) →
  (.tuple #[.agg #[.int .i64 0, .int .i64 x4], .int .i64 0] : Value) = v)))))) ∧ (¬ (x2 = 0) → (
  (.tuple #[.agg #[.int .i64 0, .int .i64 0], .int .i64 2] : Value) = v))) : Calls Tryz.prog 91 #[.agg #[.int .i64 x0, .int .i64 x1]] w (Vc.Ret v w) :=
  Vc.pure_of base [] 200 Tryz.func91 (b := (Tryz.f91.body).getD .skip) (by kernel_rfl) [.cv (.agg [.int .i64 (.var 0), .int .i64 (.var 1)])] ⟨2, 0, 0, 0, 0, 0, 0⟩ (Vc.envOf [x0, x1] [] [] []) (by kernel_rfl) (by kernel_rfl) (by kernel_rfl) h

end Go.Proofs.YtbpcdmjjdnjmbaaGreat
