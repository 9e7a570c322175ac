/- What the walks of functions come to (written by program). -/
import Derived.Test.YtndeppnboolfiaaDoorGhG1
set_option linter.unusedVariables false
set_option maxRecDepth 100000
namespace Go.Proofs.YtndeppnboolfiaaDoor
open Go Go.RowKit
theorem vc_ullageref01_size (x0 : Int) (w : World) (v : Value) (h : 
  ((x0 < 0) → (
  ∀ x1 : Int, x1 = IntKind.u64.wrap (x0) →
  ∀ x2 : Int, x2 = IntKind.u64.wrap (0 - x1) →
  (.int .u64 x2 : Value) = v)) ∧ (¬ (x0 < 0) → (
  ∀ x1 : Int, x1 = IntKind.u64.wrap (x0) →
  (.int .u64 x1 : Value) = v))) : Calls Tryd.prog 56 #[.int .i64 x0] w (Vc.Ret v w) :=
  Vc.pure_of base [] 200 Tryd.func56 (b := (Tryd.f56.body).getD .skip) (by kernel_rfl) [.cv (.one (.int .i64 (.var 0)))] ⟨1, 0, 0, 0, 0, 0, 0⟩ (Vc.envOf [x0] [] [] []) (by kernel_rfl) (by kernel_rfl) (by kernel_rfl) h

theorem vc_ullageref01_Of (x0 : Int) (w : World) (v : Value) (h : 
  ((x0 < 0) → (
  ∀ x1 : Int, x1 = IntKind.u64.wrap (x0) →
  (.agg #[.int .i64 (-1), .int .u64 x1] : Value) = v)) ∧ (¬ (x0 < 0) → (
  ∀ x1 : Int, x1 = IntKind.u64.wrap (x0) →
  (.agg #[.int .i64 0, .int .u64 x1] : Value) = v))) : Calls Tryd.prog 15 #[.int .i64 x0] w (Vc.Ret v w) :=
  Vc.pure_of base [] 200 Tryd.func15 (b := (Tryd.f15.body).getD .skip) (by kernel_rfl) [.cv (.one (.int .i64 (.var 0)))] ⟨1, 0, 0, 0, 0, 0, 0⟩ (Vc.envOf [x0] [] [] []) (by kernel_rfl) (by kernel_rfl) (by kernel_rfl) h

theorem vc_ullageref01_Plus (x0 x1 x2 x3 : Int) (w : World) (v : Value) (h : 
  ∀ x4 : Int, x4 = IntKind.u64.wrap (x1 + x3) →
  ∀ x5 : Int, x5 = IntKind.i64.wrap (x0 + x2) →
  ((x4 < x1) → (
  ∀ x6 : Int, x6 = IntKind.i64.wrap (x5 + 1) →
  (.agg #[.int .i64 x6, .int .u64 x4] : Value) = v)) ∧ (¬ (x4 < x1) → (
  (.agg #[.int .i64 x5, .int .u64 x4] : Value) = v))) : Calls Tryd.prog 14 #[.agg #[.int .i64 x0, .int .u64 x1], .agg #[.int .i64 x2, .int .u64 x3]] w (Vc.Ret v w) :=
  Vc.pure_of base [] 200 Tryd.func14 (b := (Tryd.f14.body).getD .skip) (by kernel_rfl) [.cv (.agg [.int .i64 (.var 0), .int .u64 (.var 1)]), .cv (.agg [.int .i64 (.var 2), .int .u64 (.var 3)])] ⟨4, 0, 0, 0, 0, 0, 0⟩ (Vc.envOf [x0, x1, x2, x3] [] [] []) (by kernel_rfl) (by kernel_rfl) (by kernel_rfl) h

theorem vc_ullageref01_Minus (x0 x1 : Int) (w : World) (v : Value) (h : 
  ∀ x2 : Int, x2 = bits .xor .i64 (-1) x0 →
  ∀ x3 : Int, x3 = bits .xor .u64 18446744073709551615 x1 →
  ∃ (x4 : Int), ∃ (x5 : Int), (∀ w' : World, Below w.heap.size w w' → Calls Tryd.prog 14 #[.agg #[.int .i64 x2, .int .u64 x3], .agg #[.int .i64 0, .int .u64 1]] w' (Vc.Ret (.agg #[.int .i64 x4, .int .u64 x5]) w')) ∧
  (.agg #[.int .i64 x4, .int .u64 x5] : Value) = v) : Calls Tryd.prog 57 #[.agg #[.int .i64 x0, .int .u64 x1]] w (Vc.Ret v w) :=
  Vc.pure_of base [] 200 Tryd.func57 (b := (Tryd.f57.body).getD .skip) (by kernel_rfl) [.cv (.agg [.int .i64 (.var 0), .int .u64 (.var 1)])] ⟨2, 0, 0, 0, 0, 0, 0⟩ (Vc.envOf [x0, x1] [] [] []) (by kernel_rfl) (by kernel_rfl) (by kernel_rfl) h

theorem vc_ullageref01_Less (x0 x1 x2 x3 : Int) (w : World) (v : Value) (h : 
  ((x0 < x2) → (
  (.bool true : Value) = v)) ∧ (¬ (x0 < x2) → (
  ((x0 = x2) → (
  (.bool (decide (x1 < x3)) : Value) = v)) ∧ (¬ (x0 = x2) → (
  (.bool false : Value) = v))))) : Calls Tryd.prog 16 #[.agg #[.int .i64 x0, .int .u64 x1], .agg #[.int .i64 x2, .int .u64 x3]] w (Vc.Ret v w) :=
  Vc.pure_of base [] 200 Tryd.func16 (b := (Tryd.f16.body).getD .skip) (by kernel_rfl) [.cv (.agg [.int .i64 (.var 0), .int .u64 (.var 1)]), .cv (.agg [.int .i64 (.var 2), .int .u64 (.var 3)])] ⟨4, 0, 0, 0, 0, 0, 0⟩ (Vc.envOf [x0, x1, x2, x3] [] [] []) (by kernel_rfl) (by kernel_rfl) (by kernel_rfl) h

theorem vc_ullageref01_Up_32 (x0 x1 : Int) (w : World) (v : Value) (h : 
  ∀ x2 : Int, x2 = IntKind.i64.wrap (x0 * 4294967296) →
  ∀ x3 : Int, x3 = x1 / 4294967296 →
  ∀ x4 : Int, x4 = IntKind.i64.wrap (x3) →
  ∀ x5 : Int, x5 = IntKind.i64.wrap (x2 + x4) →
  ∀ x6 : Int, x6 = IntKind.u64.wrap (x1 * 4294967296) →
  (.agg #[.int .i64 x5, .int .u64 x6] : Value) = v) : Calls Tryd.prog 18 #[.agg #[.int .i64 x0, .int .u64 x1], .int .i64 32] w (Vc.Ret v w) :=
  Vc.pure_of base [] 200 Tryd.func18 (b := (Tryd.f18.body).getD .skip) (by kernel_rfl) [.cv (.agg [.int .i64 (.var 0), .int .u64 (.var 1)]), .cv (.one (.int .i64 (.lit (32))))] ⟨2, 0, 0, 0, 0, 0, 0⟩ (Vc.envOf [x0, x1] [] [] []) (by kernel_rfl) (by kernel_rfl) (by kernel_rfl) h

theorem vc_ullageref01_Times (x0 x1 : Int) (w : World) (v : Value) (h : 
  ∃ (x2 : Int), (∀ w' : World, Below w.heap.size w w' → Calls Tryd.prog 56 #[.int .i64 x0] w' (Vc.Ret (.int .u64 x2) w')) ∧
  ∃ (x3 : Int), (∀ w' : World, Below w.heap.size w w' → Calls Tryd.prog 56 #[.int .i64 x1] w' (Vc.Ret (.int .u64 x3) w')) ∧
  ∀ x4 : Int, x4 = Int.tmod x2 4294967296 →
  ∀ x5 : Int, x5 = Int.tmod x3 4294967296 →
  ∀ x6 : Int, x6 = IntKind.u64.wrap (x4 * x5) →
  ∀ x7 : Int, x7 = IntKind.u64.wrap (Int.tdiv x2 4294967296) →
  ∀ x8 : Int, x8 = Int.tmod x3 4294967296 →
  ∀ x9 : Int, x9 = IntKind.u64.wrap (x7 * x8) →
  ∀ x10 : Int, x10 = Int.tmod x2 4294967296 →
  ∀ x11 : Int, x11 = IntKind.u64.wrap (Int.tdiv x3 4294967296) →
  ∀ x12 : Int, x12 = IntKind.u64.wrap (x10 * x11) →
  ∀ x13 : Int, x13 = IntKind.u64.wrap (x9 + x12) →
  ∀ x14 : Int, x14 = IntKind.u64.wrap (Int.tdiv x13 4294967296) →
  ∀ x15 : Int, x15 = IntKind.i64.wrap (x14) →
  ∀ x16 : Int, x16 = Int.tmod x13 4294967296 →
  ∀ x17 : Int, x17 = IntKind.u64.wrap (x16 * 4294967296) →
  ∃ (x18 : Int), ∃ (x19 : Int), (∀ w' : World, Below w.heap.size w w' → Calls Tryd.prog 14 #[.agg #[.int .i64 x15, .int .u64 x17], .agg #[.int .i64 0, .int .u64 x6]] w' (Vc.Ret (.agg #[.int .i64 x18, .int .u64 x19]) w')) ∧
  ∀ x20 : Int, x20 = IntKind.u64.wrap (Int.tdiv x2 4294967296) →
  ∀ x21 : Int, x21 = IntKind.u64.wrap (Int.tdiv x3 4294967296) →
  ∀ x22 : Int, x22 = IntKind.u64.wrap (x20 * x21) →
  ∀ x23 : Int, x23 = IntKind.i64.wrap (x22) →
  ∀ x24 : Int, x24 = IntKind.i64.wrap (x18 + x23) →
  ((((x0 < 0) ↔ (x1 < 0))) → (
  (.agg #[.int .i64 x24, .int .u64 x19] : Value) = v)) ∧ (¬ (((x0 < 0) ↔ (x1 < 0))) → (
  ∃ (x25 : Int), ∃ (x26 : Int), (∀ w' : World, Below w.heap.size w w' → Calls Tryd.prog 57 #[.agg #[.int .i64 x24, .int .u64 x19]] w' (Vc.Ret (.agg #[.int .i64 x25, .int .u64 x26]) w')) ∧
  (.agg #[.int .i64 x25, .int .u64 x26] : Value) = v))) : Calls Tryd.prog 13 #[.int .i64 x0, .int .i64 x1] w (Vc.Ret v w) :=
  Vc.pure_of base [] 200 Tryd.func13 (b := (Tryd.f13.body).getD .skip) (by kernel_rfl) [.cv (.one (.int .i64 (.var 0))), .cv (.one (.int .i64 (.var 1)))] ⟨2, 0, 0, 0, 0, 0, 0⟩ (Vc.envOf [x0, x1] [] [] []) (by kernel_rfl) (by kernel_rfl) (by kernel_rfl) h

end Go.Proofs.YtndeppnboolfiaaDoor
