/- What the walks of functions come to (written by program). -/
import Derived.Test.YtndeppnboolfiaaDoorGnG1
set_option linter.unusedVariables false
set_option maxRecDepth 100000
namespace Go.Proofs.YtndeppnboolfiaaDoor
open Go Go.RowKit
theorem vc_ullagelaw01_of (x0 x1 : Int) (w : World) (v : Value) (h : 
  ∀ x2 : Int, x2 = IntKind.i64.wrap (x0 * 4294967296) →
  ∀ x3 : Int, x3 = IntKind.i64.wrap (x1 * 4294967296) →
  (.agg #[.int .i64 x2, .int .i64 x3] : Value) = v) : Calls Tryd.prog 47 #[.int .i64 x0, .int .i64 x1] w (Vc.Ret v w) :=
  Vc.pure_of base [] 200 Tryd.func47 (b := (Tryd.f47.body).getD .skip) (by kernel_rfl) [.cv (.one (.int .i64 (.var 0))), .cv (.one (.int .i64 (.var 1)))] ⟨2, 0, 0, 0, 0, 0, 0⟩ (Vc.envOf [x0, x1] [] [] []) (by kernel_rfl) (by kernel_rfl) (by kernel_rfl) h

theorem vc_ullagelaw01_alive (w : World) (v : Value) (h : 
  ∃ (x0 : Int), ∃ (x1 : Int), ∃ (x2 : Int), (∀ w' : World, Below w.heap.size w w' → Calls Tryd.prog 12 #[.agg #[.int .i64 (-4294967296), .int .i64 8589934592], .agg #[.int .i64 12884901888, .int .i64 17179869184]] w' (Vc.Ret (.tuple #[.agg #[.int .i64 x0, .int .i64 x1], .int .i64 x2]) w')) ∧
  ∃ (x3 : Int), ∃ (x4 : Int), ∃ (x5 : Int), (∀ w' : World, Below w.heap.size w w' → Calls Tryd.prog 48 #[.int .i64 1, .int .i64 3] w' (Vc.Ret (.tuple #[.agg #[.int .i64 x3, .int .i64 x4], .int .i64 x5]) w')) ∧
  ∃ (x6 : Int), ∃ (x7 : Int), ∃ (x8 : Int), (∀ w' : World, Below w.heap.size w w' → Calls Tryd.prog 17 #[.agg #[.int .i64 (-38654705664), .int .i64 17179869184]] w' (Vc.Ret (.tuple #[.agg #[.int .i64 x6, .int .i64 x7], .int .i64 x8]) w')) ∧
  ((x2 = 0) → (
  ∃ (x9 : Int), ∃ (x10 : Int), (∀ w' : World, Below w.heap.size w w' → Calls Tryd.prog 47 #[.int .i64 (-4), .int .i64 8] w' (Vc.Ret (.agg #[.int .i64 x9, .int .i64 x10]) w')) ∧
  (((x0 = x9) ∧ (x1 = x10)) → (
  ((x5 = 0) → (
  (((x3 = 1431655765) ∧ (x4 = 1431655766)) → (
  ((x8 = 0) → (
  ∃ (x11 : Int), ∃ (x12 : Int), (∀ w' : World, Below w.heap.size w w' → Calls Tryd.prog 47 #[.int .i64 0, .int .i64 2] w' (Vc.Ret (.agg #[.int .i64 x11, .int .i64 x12]) w')) ∧
  (((x6 = x11) ∧ (x7 = x12)) → (
  ∃ (s0 : List UInt8), (∀ w' : World, Below w.heap.size w w' → Calls Tryd.prog 44 #[.int .i64 (-1073741824)] w' (Vc.Ret (.string ⟨s0.toArray⟩) w')) ∧
  (.bool (decide (s0 = ([45, 48, 46, 50, 53] : List UInt8))) : Value) = v)) ∧ (¬ ((x6 = x11) ∧ (x7 = x12)) → (
  (.bool false : Value) = v)))) ∧ (¬ (x8 = 0) → (
  (.bool false : Value) = v)))) ∧ (¬ ((x3 = 1431655765) ∧ (x4 = 1431655766)) → (
  (.bool false : Value) = v)))) ∧ (¬ (x5 = 0) → (
  (.bool false : Value) = v)))) ∧ (¬ ((x0 = x9) ∧ (x1 = x10)) → (
  (.bool false : Value) = v)))) ∧ (¬ (x2 = 0) → (
  (.bool false : Value) = v))) : Calls Tryd.prog 11 #[] w (Vc.Ret v w) :=
  Vc.pure_of (base_inl [47] (by kernel_rfl)) [] 200 Tryd.func11 (b := (Tryd.f11.body).getD .skip) (by kernel_rfl) [] ⟨0, 0, 0, 0, 0, 0, 0⟩ (Vc.envOf [] [] [] []) (by kernel_rfl) (by kernel_rfl) (by kernel_rfl) h

theorem vc_ullagelaw01_SpanLines (p0 : Nat × Nat) (x0 x1 x2 x3 x4 : Int) (b0 : Bool) (w : World) (v : Value) (h : 
  ∃ (b1 : Bool), (∀ w' : World, Below w.heap.size w w' → Calls Tryd.prog 11 #[] w' (Vc.Ret (.bool b1) w')) ∧
  (0 ≤ x0) ∧
  ((¬ (b0 = true)) ∨ (x0 = 0)) ∧
  ((70 < x0) → (
  (.bool b1 : Value) = v)) ∧ (¬ (70 < x0) → (
  ∃ (x5 : Int), (∀ w' : World, Below w.heap.size w w' → Calls Tryd.prog 26 #[(if b0 = true then .slice none 0 0 else .slice (some (Vc.qad p0 (Int.toNat x0) (Int.toNat x1))) (Int.toNat x0) (Int.toNat x1) : Value)] w' (Vc.Ret (.int .i64 x5) w')) ∧
  ((x5 = 0) → (
  ∃ (x6 : Int), (∀ w' : World, Below w.heap.size w w' → Calls Tryd.prog 19 #[.agg #[.int .i64 x2, .int .i64 x3]] w' (Vc.Ret (.int .i64 x6) w')) ∧
  ((x6 = 0) → (
  ((b1 = true) → (
  (0 ≤ x0) ∧
  ((¬ (b0 = true)) ∨ (x0 = 0)) ∧
  ∃ (Ib2 : List Vc.Vl → Prop) (mb2 : List Vc.Vl → Nat), Ib2 [.b false, .i 0] ∧ ∀ (b2 : Bool) (x7 : Int), Ib2 [.b b2, .i x7] → (
  ((x7 < x0) → (
  (¬ (b0 = true)) ∧
  (0 ≤ x7) ∧
  (x7 < x0) ∧
  ∃ (x8 : Int), w.cell? ⟨p0.1, p0.2 + (Int.toNat x7) * 3 + 0, none⟩ = some (.int .i64 x8) ∧
  ∃ (x9 : Int), w.cell? ⟨p0.1, p0.2 + (Int.toNat x7) * 3 + 1, none⟩ = some (.int .i64 x9) ∧
  ∃ (x10 : Int), w.cell? ⟨p0.1, p0.2 + (Int.toNat x7) * 3 + 2, none⟩ = some (.int .i64 x10) ∧
  ∃ (x11 : Int), ∃ (x12 : Int), ∃ (x13 : Int), (∀ w' : World, Below w.heap.size w w' → Calls Tryd.prog 27 #[(if b0 = true then .slice none 0 0 else .slice (some (Vc.qad p0 (Int.toNat x0) (Int.toNat x1))) (Int.toNat x0) (Int.toNat x1) : Value), .agg #[.int .i64 x8, .int .i64 x8]] w' (Vc.Ret (.tuple #[.agg #[.int .i64 x11, .int .i64 x12], .int .i64 x13]) w')) ∧
  ((x13 = 0) → (
  (((x11 = x9) ∧ (x12 = x10)) → (
  ∀ x14 : Int, x14 = IntKind.i64.wrap (x7 + 1) →
  Ib2 [.b b2, .i x14] ∧ mb2 [.b b2, .i x14] < mb2 [.b b2, .i x7])) ∧ (¬ ((x11 = x9) ∧ (x12 = x10)) → (
  (.bool false : Value) = v)))) ∧ (¬ (x13 = 0) → (
  (.bool false : Value) = v)))) ∧ (¬ (x7 < x0) → (
  ∃ (x8 : Int), (∀ w' : World, Below w.heap.size w w' → Calls Tryd.prog 28 #[.agg #[.int .i64 x2, .int .i64 x3], .int .u64 x4] w' (Vc.Ret (.int .i64 x8) w')) ∧
  ∃ (x9 : Int), ∃ (x10 : Int), ∃ (x11 : Int), (∀ w' : World, Below w.heap.size w w' → Calls Tryd.prog 27 #[(if b0 = true then .slice none 0 0 else .slice (some (Vc.qad p0 (Int.toNat x0) (Int.toNat x1))) (Int.toNat x0) (Int.toNat x1) : Value), .agg #[.int .i64 x2, .int .i64 x3]] w' (Vc.Ret (.tuple #[.agg #[.int .i64 x9, .int .i64 x10], .int .i64 x11]) w')) ∧
  ∃ (x12 : Int), ∃ (x13 : Int), ∃ (x14 : Int), (∀ w' : World, Below w.heap.size w w' → Calls Tryd.prog 27 #[(if b0 = true then .slice none 0 0 else .slice (some (Vc.qad p0 (Int.toNat x0) (Int.toNat x1))) (Int.toNat x0) (Int.toNat x1) : Value), .agg #[.int .i64 x8, .int .i64 x8]] w' (Vc.Ret (.tuple #[.agg #[.int .i64 x12, .int .i64 x13], .int .i64 x14]) w')) ∧
  ((b1 = true) → (
  ((x11 = 0) → (
  ((x14 = 0) → (
  ∃ (b3 : Bool), (∀ w' : World, Below w.heap.size w w' → Calls Tryd.prog 24 #[.agg #[.int .i64 x12, .int .i64 x13], .agg #[.int .i64 x9, .int .i64 x10]] w' (Vc.Ret (.bool b3) w')) ∧
  (.bool b3 : Value) = v)) ∧ (¬ (x14 = 0) → (
  (.bool false : Value) = v)))) ∧ (¬ (x11 = 0) → (
  (.bool false : Value) = v)))) ∧ (¬ (b1 = true) → (
  (.bool false : Value) = v))))))) ∧ (¬ (b1 = true) → (
  (.bool b1 : Value) = v)))) ∧ (¬ (x6 = 0) → (
  (.bool b1 : Value) = v)))) ∧ (¬ (x5 = 0) → (
  (.bool b1 : Value) = v))))) : Calls Tryd.prog 5 #[(if b0 = true then .slice none 0 0 else .slice (some (Vc.qad p0 (Int.toNat x0) (Int.toNat x1))) (Int.toNat x0) (Int.toNat x1) : Value), .agg #[.int .i64 x2, .int .i64 x3], .int .u64 x4] w (Vc.Ret v w) :=
  Vc.pure_of base [(1000000000005, .inv [] [6, 38] [39, 40, 41, 9, 43, 44, 45, 46, 47, 48, 49, 42, 50, 51, 10, 11, 52, 53, 54, 55, 56, 57, 58, 59, 60])] 200 Tryd.func5 (b := (Tryd.f5.body).getD .skip) (by kernel_rfl) [.cv (.one (.qsl 0 0 3 (.var 0) (.var 1))), .cv (.agg [.int .i64 (.var 2), .int .i64 (.var 3)]), .cv (.one (.int .u64 (.var 4)))] ⟨5, 1, 0, 1, 0, 0, 0⟩ (Vc.envOf [x0, x1, x2, x3, x4] [b0] [] [p0]) (by kernel_rfl) (by kernel_rfl) (by kernel_rfl) h

theorem vc_ullagelaw01_pick (x0 x1 x2 : Int) (w : World) (v : Value) (h : 
  ∀ x3 : Int, x3 = IntKind.u64.wrap (x1) →
  ∀ x4 : Int, x4 = IntKind.u64.wrap (x0) →
  ∀ x5 : Int, x5 = IntKind.u64.wrap (x3 - x4) →
  ((x5 = 18446744073709551615) → (
  (.int .i64 x0 : Value) = v)) ∧ (¬ (x5 = 18446744073709551615) → (
  ∀ x6 : Int, x6 = IntKind.u64.wrap (x0) →
  ∀ x7 : Int, x7 = IntKind.u64.wrap (x5 + 1) →
  (x7 ≠ 0) ∧
  ∀ x8 : Int, x8 = Int.tmod x2 x7 →
  ∀ x9 : Int, x9 = IntKind.u64.wrap (x6 + x8) →
  ∀ x10 : Int, x10 = IntKind.i64.wrap (x9) →
  (.int .i64 x10 : Value) = v))) : Calls Tryd.prog 28 #[.agg #[.int .i64 x0, .int .i64 x1], .int .u64 x2] w (Vc.Ret v w) :=
  Vc.pure_of base [] 200 Tryd.func28 (b := (Tryd.f28.body).getD .skip) (by kernel_rfl) [.cv (.agg [.int .i64 (.var 0), .int .i64 (.var 1)]), .cv (.one (.int .u64 (.var 2)))] ⟨3, 0, 0, 0, 0, 0, 0⟩ (Vc.envOf [x0, x1, x2] [] [] []) (by kernel_rfl) (by kernel_rfl) (by kernel_rfl) h

end Go.Proofs.YtndeppnboolfiaaDoor
