/- What the walks of functions come to (written by program). -/
import Derived.Test.YthmggmpgkmmfiaaBrG1
set_option linter.unusedVariables false
set_option maxRecDepth 100000
namespace Go.Proofs.Ythmggmpgkmmfiaa
open Go Go.RowKit
theorem vc_ullagelaw05_SteerBrackets (x0 x1 x2 x3 x4 x5 x6 x7 x8 x9 x10 : Int) (w : World) (v : Value) (h : 
  ∃ (b0 : Bool), (∀ w' : World, Below w.heap.size w w' → Calls Try.prog 8 #[] w' (Vc.Ret (.bool b0) w')) ∧
  ∀ x11 : Int, x11 = IntKind.i64.wrap (x8) →
  ∀ x12 : Int, x12 = Int.tmod x11 41 →
  ∃ (x13 : Int), ∃ (x14 : Int), ∃ (x15 : Int), ∃ (x16 : Int), (∀ w' : World, Below w.heap.size w w' → Calls Try.prog 19 #[.agg #[.int .i64 x0, .int .i64 x1], .agg #[.int .i64 x2, .int .i64 x3], .agg #[.int .i64 x4, .int .i64 x5], .int .i64 x6, .int .i64 x7, .int .i64 x12] w' (Vc.Ret (.tuple #[.agg #[.int .i64 x13, .int .i64 x14], .int .i64 x15, .int .i64 x16]) w')) ∧
  ((x16 = 0) → (
  ((b0 = true) → (
  ((x12 < x15) → (
  (.bool false : Value) = v)) ∧ (¬ (x12 < x15) → (
  ((x13 < (-4294967296)) → (
  (.bool false : Value) = v)) ∧ (¬ (x13 < (-4294967296)) → (
  ((4294967296 < x14) → (
  (.bool false : Value) = v)) ∧ (¬ (4294967296 < x14) → (
  ((x14 < x13) → (
  (.bool false : Value) = v)) ∧ (¬ (x14 < x13) → (
  ∀ x17 : Int, x17 = IntKind.i64.wrap (x9) →
  ∀ x18 : Int, x18 = IntKind.i64.wrap (41 - x12) →
  (x18 ≠ 0) ∧
  ∀ x19 : Int, x19 = Int.tmod x17 x18 →
  ∀ x20 : Int, x20 = IntKind.i64.wrap (x12 + x19) →
  ∃ (x21 : Int), ∃ (x22 : Int), ∃ (x23 : Int), ∃ (x24 : Int), (∀ w' : World, Below w.heap.size w w' → Calls Try.prog 19 #[.agg #[.int .i64 x0, .int .i64 x1], .agg #[.int .i64 x2, .int .i64 x3], .agg #[.int .i64 x4, .int .i64 x5], .int .i64 x6, .int .i64 x7, .int .i64 x20] w' (Vc.Ret (.tuple #[.agg #[.int .i64 x21, .int .i64 x22], .int .i64 x23, .int .i64 x24]) w')) ∧
  ((x24 = 0) → (
  ∃ (b1 : Bool), (∀ w' : World, Below w.heap.size w w' → Calls Try.prog 16 #[.agg #[.int .i64 x21, .int .i64 x22], .agg #[.int .i64 x13, .int .i64 x14]] w' (Vc.Ret (.bool b1) w')) ∧
  ((b1 = true) → (
  ∃ (x25 : Int), (∀ w' : World, Below w.heap.size w w' → Calls Try.prog 21 #[.agg #[.int .i64 (-4294967296), .int .i64 x13], .int .u64 x10] w' (Vc.Ret (.int .i64 x25) w')) ∧
  ∃ (x26 : Int), (∀ w' : World, Below w.heap.size w w' → Calls Try.prog 21 #[.agg #[.int .i64 x14, .int .i64 4294967296], .int .u64 x10] w' (Vc.Ret (.int .i64 x26) w')) ∧
  ∃ (x27 : Int), ∃ (x28 : Int), ∃ (x29 : Int), (∀ w' : World, Below w.heap.size w w' → Calls Try.prog 22 #[.agg #[.int .i64 x0, .int .i64 x1], .agg #[.int .i64 x2, .int .i64 x3], .agg #[.int .i64 x4, .int .i64 x5], .int .i64 x6, .agg #[.int .i64 x25, .int .i64 x25]] w' (Vc.Ret (.tuple #[.agg #[.int .i64 x27, .int .i64 x28], .int .i64 x29]) w')) ∧
  ∃ (x30 : Int), ∃ (x31 : Int), ∃ (x32 : Int), (∀ w' : World, Below w.heap.size w w' → Calls Try.prog 22 #[.agg #[.int .i64 x0, .int .i64 x1], .agg #[.int .i64 x2, .int .i64 x3], .agg #[.int .i64 x4, .int .i64 x5], .int .i64 x6, .agg #[.int .i64 x26, .int .i64 x26]] w' (Vc.Ret (.tuple #[.agg #[.int .i64 x30, .int .i64 x31], .int .i64 x32]) w')) ∧
  ((x29 = 0) → (
  ((x32 = 0) → (
  ((x13 = (-4294967296)) → (
  ((x14 = 4294967296) → (
  ((b0 = true) → (
  (.bool true : Value) = v)) ∧ (¬ (b0 = true) → (
  (.bool false : Value) = v)))) ∧ (¬ (x14 = 4294967296) → (
  ((b0 = true) → (
  (.bool (decide (x30 > x7)) : Value) = v)) ∧ (¬ (b0 = true) → (
  (.bool false : Value) = v)))))) ∧ (¬ (x13 = (-4294967296)) → (
  ((x14 = 4294967296) → (
  ((b0 = true) → (
  ((x28 < x7) → (
  (.bool true : Value) = v)) ∧ (¬ (x28 < x7) → (
  (.bool false : Value) = v)))) ∧ (¬ (b0 = true) → (
  (.bool false : Value) = v)))) ∧ (¬ (x14 = 4294967296) → (
  ((b0 = true) → (
  ((x28 < x7) → (
  (.bool (decide (x30 > x7)) : Value) = v)) ∧ (¬ (x28 < x7) → (
  (.bool false : Value) = v)))) ∧ (¬ (b0 = true) → (
  (.bool false : Value) = v)))))))) ∧ (¬ (x32 = 0) → (
  (.bool false : Value) = v)))) ∧ (¬ (x29 = 0) → (
  (.bool false : Value) = v)))) ∧ (¬ (b1 = true) → (
  (.bool false : Value) = v)))) ∧ (¬ (x24 = 0) → (
  (.bool false : Value) = v)))))))))))) ∧ (¬ (b0 = true) → (
  (.bool b0 : Value) = v)))) ∧ (¬ (x16 = 0) → (
  (.bool b0 : Value) = v))) : Calls Try.prog 7 #[.agg #[.int .i64 x0, .int .i64 x1, .int .i64 x2, .int .i64 x3, .int .i64 x4, .int .i64 x5, .int .i64 x6], .int .i64 x7, .int .u8 x8, .int .u8 x9, .int .u64 x10] w (Vc.Ret v w) :=
  Vc.pure_of (base_inl [20] (by kernel_rfl)) [] 200 Try.func7 (b := (Try.f7.body).getD .skip) (by kernel_rfl) [.cv (.agg [.int .i64 (.var 0), .int .i64 (.var 1), .int .i64 (.var 2), .int .i64 (.var 3), .int .i64 (.var 4), .int .i64 (.var 5), .int .i64 (.var 6)]), .cv (.one (.int .i64 (.var 7))), .cv (.one (.int .u8 (.var 8))), .cv (.one (.int .u8 (.var 9))), .cv (.one (.int .u64 (.var 10)))] ⟨11, 0, 0, 0, 0, 0, 0⟩ (Vc.envOf [x0, x1, x2, x3, x4, x5, x6, x7, x8, x9, x10] [] [] []) (by kernel_rfl) (by kernel_rfl) (by kernel_rfl) h

theorem vc_ullagelaw05_pick (x0 x1 x2 : Int) (w : World) (v : Value) (h : 
  ∀ x3 : Int, x3 = IntKind.u64.wrap (x1) →
  ∀ x4 : Int, x4 = IntKind.u64.wrap (x0) →
  ∀ x5 : Int, x5 = IntKind.u64.wrap (x3 - x4) →
  ((x5 = 18446744073709551615) → (
  (.int .i64 x0 : Value) = v)) ∧ (¬ (x5 = 18446744073709551615) → (
  ∀ x6 : Int, x6 = IntKind.u64.wrap (x0) →
  ∀ x7 : Int, x7 = IntKind.u64.wrap (x5 + 1) →
  (x7 ≠ 0) ∧
  ∀ x8 : Int, x8 = Int.tmod x2 x7 →
  ∀ x9 : Int, x9 = IntKind.u64.wrap (x6 + x8) →
  ∀ x10 : Int, x10 = IntKind.i64.wrap (x9) →
  (.int .i64 x10 : Value) = v))) : Calls Try.prog 21 #[.agg #[.int .i64 x0, .int .i64 x1], .int .u64 x2] w (Vc.Ret v w) :=
  Vc.pure_of base [] 200 Try.func21 (b := (Try.f21.body).getD .skip) (by kernel_rfl) [.cv (.agg [.int .i64 (.var 0), .int .i64 (.var 1)]), .cv (.one (.int .u64 (.var 2)))] ⟨3, 0, 0, 0, 0, 0, 0⟩ (Vc.envOf [x0, x1, x2] [] [] []) (by kernel_rfl) (by kernel_rfl) (by kernel_rfl) h

theorem vc_steer_valid (x0 : Int) (w : World) (v : Value) (h : 
  (.bool (decide (x0 ≥ (-9223372036854775807))) : Value) = v) : Calls Try.prog 43 #[.int .i64 x0] w (Vc.Ret v w) :=
  Vc.pure_of base [] 200 Try.func43 (b := (Try.f43.body).getD .skip) (by kernel_rfl) [.cv (.one (.int .i64 (.var 0)))] ⟨1, 0, 0, 0, 0, 0, 0⟩ (Vc.envOf [x0] [] [] []) (by kernel_rfl) (by kernel_rfl) (by kernel_rfl) h

theorem vc_steer_point (x0 : Int) (w : World) (v : Value) (h : 
  (.agg #[.int .i64 x0, .int .i64 x0] : Value) = v) : Calls Try.prog 33 #[.int .i64 x0] w (Vc.Ret v w) :=
  Vc.pure_of base [] 200 Try.func33 (b := (Try.f33.body).getD .skip) (by kernel_rfl) [.cv (.one (.int .i64 (.var 0)))] ⟨1, 0, 0, 0, 0, 0, 0⟩ (Vc.envOf [x0] [] [] []) (by kernel_rfl) (by kernel_rfl) (by kernel_rfl) h

theorem vc_steer_whole (x0 : Int) (w : World) (v : Value) (h : 
  ∀ x1 : Int, x1 = IntKind.i64.wrap (x0 * 4294967296) →
  ∃ (x2 : Int), ∃ (x3 : Int), (∀ w' : World, Below w.heap.size w w' → Calls Try.prog 33 #[.int .i64 x1] w' (Vc.Ret (.agg #[.int .i64 x2, .int .i64 x3]) w')) ∧
  (.agg #[.int .i64 x2, .int .i64 x3] : Value) = v) : Calls Try.prog 40 #[.int .i64 x0] w (Vc.Ret v w) :=
  Vc.pure_of base [] 200 Try.func40 (b := (Try.f40.body).getD .skip) (by kernel_rfl) [.cv (.one (.int .i64 (.var 0)))] ⟨1, 0, 0, 0, 0, 0, 0⟩ (Vc.envOf [x0] [] [] []) (by kernel_rfl) (by kernel_rfl) (by kernel_rfl) h

theorem vc_steer_all_1 (x0 x1 : Int) (w : World) (v : Value) (h : 
  ∃ (x2 : Int), (∀ w' : World, Below w.heap.size w w' → Calls Try.prog 45 #[.agg #[.int .i64 x0, .int .i64 x1]] w' (Vc.Ret (.int .i64 x2) w')) ∧
  (.bool (x2 != 0) : Value) = v) : Calls Try.prog 59 #[.agg #[.int .i64 x0, .int .i64 x1]] w (Vc.Ret v w) :=
  Vc.pure_of base [] 200 Try.func59 (b := (Try.f59.body).getD .skip) (by kernel_rfl) [.cv (.agg [.int .i64 (.var 0), .int .i64 (.var 1)])] ⟨2, 0, 0, 0, 0, 0, 0⟩ (Vc.envOf [x0, x1] [] [] []) (by kernel_rfl) (by kernel_rfl) (by kernel_rfl) h

theorem vc_steer_all (p0 : Nat × Nat) (x0 x1 : Int) (b0 : Bool) (w : World) (v : Value) (h : 
  (0 ≤ x0) ∧
  ((¬ (b0 = true)) ∨ (x0 = 0)) ∧
  ∃ (Ix2 : List Vc.Vl → Prop) (mx2 : List Vc.Vl → Nat), Ix2 [.i 0, .i 0] ∧ ∀ (x2 : Int) (x3 : Int), Ix2 [.i x2, .i x3] → (
  ((x3 < x0) → (
  (¬ (b0 = true)) ∧
  (0 ≤ x3) ∧
  (x3 < x0) ∧
  ∃ (x4 : Int), w.cell? ⟨p0.1, p0.2 + (Int.toNat x3) * 2 + 0, none⟩ = some (.int .i64 x4) ∧
  ∃ (x5 : Int), w.cell? ⟨p0.1, p0.2 + (Int.toNat x3) * 2 + 1, none⟩ = some (.int .i64 x5) ∧
  ∃ (b1 : Bool), (∀ w' : World, Below w.heap.size w w' → Calls Try.prog 59 #[.agg #[.int .i64 x4, .int .i64 x5]] w' (Vc.Ret (.bool b1) w')) ∧
  ((b1 = true) → (
  (.bool (!(decide (x3 ≥ 0))) : Value) = v)) ∧ (¬ (b1 = true) → (
  ∀ x6 : Int, x6 = IntKind.i64.wrap (x3 + 1) →
  Ix2 [.i x2, .i x6] ∧ mx2 [.i x2, .i x6] < mx2 [.i x2, .i x3])))) ∧ (¬ (x3 < x0) → (
  (.bool true : Value) = v)))) : Calls Try.prog 32 #[(if b0 = true then .slice none 0 0 else .slice (some (Vc.qad p0 (Int.toNat x0) (Int.toNat x1))) (Int.toNat x0) (Int.toNat x1) : Value)] w (Vc.Ret v w) :=
  Vc.pure_of (base_inl [58, 71] (by kernel_rfl)) [(1000000000002, .inv [] [4, 8] [9, 10, 5, 11, 12, 13, 14, 15, 16, 17, 18])] 200 Try.func32 (b := (Try.f32.body).getD .skip) (by kernel_rfl) [.cv (.one (.qsl 0 0 2 (.var 0) (.var 1)))] ⟨2, 1, 0, 1, 0, 0, 0⟩ (Vc.envOf [x0, x1] [b0] [] [p0]) (by kernel_rfl) (by kernel_rfl) (by kernel_rfl) h

theorem vc___steer_calc__add (x0 x1 x2 x3 x4 : Int) (xl : Nat) (w : World) (v : Value) (new : Array Value) (hx : w.heap[xl]? = some (.cells #[.int .i64 x0] 83)) (h : 
  ((x0 = 0) → (
  ∃ (x5 : Int), ∃ (x6 : Int), ∃ (x7 : Int), (∀ w' : World, Vc.BelX xl w w' → Calls Try.prog 64 #[.agg #[.int .i64 x1, .int .i64 x2], .agg #[.int .i64 x3, .int .i64 x4]] w' (Vc.Ret (.tuple #[.agg #[.int .i64 x5, .int .i64 x6], .int .i64 x7]) w')) ∧
  (.agg #[.agg #[.int .i64 x5, .int .i64 x6], .agg #[.int .i64 x7]] : Value) = .agg #[v, .agg new])) ∧ (¬ (x0 = 0) → (
  (.agg #[.agg #[.int .i64 0, .int .i64 0], .agg #[.int .i64 x0]] : Value) = .agg #[v, .agg new]))) : Calls Try.prog 39 #[Vc.ptr xl 0, .agg #[.int .i64 x1, .int .i64 x2], .agg #[.int .i64 x3, .int .i64 x4]] w (Vc.Eff v xl new 83 w) :=
  Vc.eff_of (base_inl [60] (by kernel_rfl)) [] 200 Try.func39 (b := (Try.f39.body).getD .skip) (by kernel_rfl) [.cv (.one (.loc 0 0)), .cv (.agg [.int .i64 (.var 1), .int .i64 (.var 2)]), .cv (.agg [.int .i64 (.var 3), .int .i64 (.var 4)])] [.int .i64 (.var 0)] 83 ⟨5, 0, 0, 0, 1, 0, 0⟩ (Vc.envOf [x0, x1, x2, x3, x4] [] [] []) (by kernel_rfl) (by kernel_rfl) (by kernel_rfl) (by kernel_rfl) (by decide) (by kernel_rfl) hx h

theorem vc___steer_calc__sub (x0 x1 x2 x3 x4 : Int) (xl : Nat) (w : World) (v : Value) (new : Array Value) (hx : w.heap[xl]? = some (.cells #[.int .i64 x0] 83)) (h : 
  ((x0 = 0) → (
  ∃ (x5 : Int), ∃ (x6 : Int), ∃ (x7 : Int), (∀ w' : World, Vc.BelX xl w w' → Calls Try.prog 62 #[.agg #[.int .i64 x1, .int .i64 x2], .agg #[.int .i64 x3, .int .i64 x4]] w' (Vc.Ret (.tuple #[.agg #[.int .i64 x5, .int .i64 x6], .int .i64 x7]) w')) ∧
  (.agg #[.agg #[.int .i64 x5, .int .i64 x6], .agg #[.int .i64 x7]] : Value) = .agg #[v, .agg new])) ∧ (¬ (x0 = 0) → (
  (.agg #[.agg #[.int .i64 0, .int .i64 0], .agg #[.int .i64 x0]] : Value) = .agg #[v, .agg new]))) : Calls Try.prog 35 #[Vc.ptr xl 0, .agg #[.int .i64 x1, .int .i64 x2], .agg #[.int .i64 x3, .int .i64 x4]] w (Vc.Eff v xl new 83 w) :=
  Vc.eff_of (base_inl [60] (by kernel_rfl)) [] 200 Try.func35 (b := (Try.f35.body).getD .skip) (by kernel_rfl) [.cv (.one (.loc 0 0)), .cv (.agg [.int .i64 (.var 1), .int .i64 (.var 2)]), .cv (.agg [.int .i64 (.var 3), .int .i64 (.var 4)])] [.int .i64 (.var 0)] 83 ⟨5, 0, 0, 0, 1, 0, 0⟩ (Vc.envOf [x0, x1, x2, x3, x4] [] [] []) (by kernel_rfl) (by kernel_rfl) (by kernel_rfl) (by kernel_rfl) (by decide) (by kernel_rfl) hx h

theorem vc___steer_calc__mul (x0 x1 x2 x3 x4 : Int) (xl : Nat) (w : World) (v : Value) (new : Array Value) (hx : w.heap[xl]? = some (.cells #[.int .i64 x0] 83)) (h : 
  ((x0 = 0) → (
  ∃ (x5 : Int), ∃ (x6 : Int), ∃ (x7 : Int), (∀ w' : World, Vc.BelX xl w w' → Calls Try.prog 63 #[.agg #[.int .i64 x1, .int .i64 x2], .agg #[.int .i64 x3, .int .i64 x4]] w' (Vc.Ret (.tuple #[.agg #[.int .i64 x5, .int .i64 x6], .int .i64 x7]) w')) ∧
  (.agg #[.agg #[.int .i64 x5, .int .i64 x6], .agg #[.int .i64 x7]] : Value) = .agg #[v, .agg new])) ∧ (¬ (x0 = 0) → (
  (.agg #[.agg #[.int .i64 0, .int .i64 0], .agg #[.int .i64 x0]] : Value) = .agg #[v, .agg new]))) : Calls Try.prog 36 #[Vc.ptr xl 0, .agg #[.int .i64 x1, .int .i64 x2], .agg #[.int .i64 x3, .int .i64 x4]] w (Vc.Eff v xl new 83 w) :=
  Vc.eff_of (base_inl [60] (by kernel_rfl)) [] 200 Try.func36 (b := (Try.f36.body).getD .skip) (by kernel_rfl) [.cv (.one (.loc 0 0)), .cv (.agg [.int .i64 (.var 1), .int .i64 (.var 2)]), .cv (.agg [.int .i64 (.var 3), .int .i64 (.var 4)])] [.int .i64 (.var 0)] 83 ⟨5, 0, 0, 0, 1, 0, 0⟩ (Vc.envOf [x0, x1, x2, x3, x4] [] [] []) (by kernel_rfl) (by kernel_rfl) (by kernel_rfl) (by kernel_rfl) (by decide) (by kernel_rfl) hx h

theorem vc___steer_calc__div (x0 x1 x2 x3 x4 : Int) (xl : Nat) (w : World) (v : Value) (new : Array Value) (hx : w.heap[xl]? = some (.cells #[.int .i64 x0] 83)) (h : 
  ((x0 = 0) → (
  ∃ (x5 : Int), ∃ (x6 : Int), ∃ (x7 : Int), (∀ w' : World, Vc.BelX xl w w' → Calls Try.prog 61 #[.agg #[.int .i64 x1, .int .i64 x2], .agg #[.int .i64 x3, .int .i64 x4]] w' (Vc.Ret (.tuple #[.agg #[.int .i64 x5, .int .i64 x6], .int .i64 x7]) w')) ∧
  (.agg #[.agg #[.int .i64 x5, .int .i64 x6], .agg #[.int .i64 x7]] : Value) = .agg #[v, .agg new])) ∧ (¬ (x0 = 0) → (
  (.agg #[.agg #[.int .i64 0, .int .i64 0], .agg #[.int .i64 x0]] : Value) = .agg #[v, .agg new]))) : Calls Try.prog 34 #[Vc.ptr xl 0, .agg #[.int .i64 x1, .int .i64 x2], .agg #[.int .i64 x3, .int .i64 x4]] w (Vc.Eff v xl new 83 w) :=
  Vc.eff_of (base_inl [60] (by kernel_rfl)) [] 200 Try.func34 (b := (Try.f34.body).getD .skip) (by kernel_rfl) [.cv (.one (.loc 0 0)), .cv (.agg [.int .i64 (.var 1), .int .i64 (.var 2)]), .cv (.agg [.int .i64 (.var 3), .int .i64 (.var 4)])] [.int .i64 (.var 0)] 83 ⟨5, 0, 0, 0, 1, 0, 0⟩ (Vc.envOf [x0, x1, x2, x3, x4] [] [] []) (by kernel_rfl) (by kernel_rfl) (by kernel_rfl) (by kernel_rfl) (by decide) (by kernel_rfl) hx h

theorem vc_steer_element (p0 : Nat × Nat) (x0 x1 x2 : Int) (b0 : Bool) (w : World) (v : Value) (h : 
  (0 ≤ x0) ∧
  ((¬ (b0 = true)) ∨ (x0 = 0)) ∧
  ((x0 ≤ x2) → (
  (.agg #[.int .i64 0, .int .i64 0] : Value) = v)) ∧ (¬ (x0 ≤ x2) → (
  (¬ (b0 = true)) ∧
  (0 ≤ x2) ∧
  (x2 < x0) ∧
  ∃ (x3 : Int), w.cell? ⟨p0.1, p0.2 + (Int.toNat x2) * 2 + 0, none⟩ = some (.int .i64 x3) ∧
  ∃ (x4 : Int), w.cell? ⟨p0.1, p0.2 + (Int.toNat x2) * 2 + 1, none⟩ = some (.int .i64 x4) ∧
  (.agg #[.int .i64 x3, .int .i64 x4] : Value) = v))) : Calls Try.prog 88 #[(if b0 = true then .slice none 0 0 else .slice (some (Vc.qad p0 (Int.toNat x0) (Int.toNat x1))) (Int.toNat x0) (Int.toNat x1) : Value), .int .i64 x2] w (Vc.Ret v w) :=
  Vc.pure_of base [] 200 Try.func88 (b := (Try.f88.body).getD .skip) (by kernel_rfl) [.cv (.one (.qsl 0 0 2 (.var 0) (.var 1))), .cv (.one (.int .i64 (.var 2)))] ⟨3, 1, 0, 1, 0, 0, 0⟩ (Vc.envOf [x0, x1, x2] [b0] [] [p0]) (by kernel_rfl) (by kernel_rfl) (by kernel_rfl) h

theorem vc_steer_polynomial (p0 : Nat × Nat) (x0 x1 : Int) (b0 : Bool) (w : World) (v : Value) (h : 
  (0 ≤ x0) ∧
  ((¬ (b0 = true)) ∨ (x0 = 0)) ∧
  ((2 ≤ x0) → (
  (0 ≤ x0) ∧
  ((¬ (b0 = true)) ∨ (x0 = 0)) ∧
  ((x0 ≤ 9) → (
  ∃ (b1 : Bool), (∀ w' : World, Below w.heap.size w w' → Calls Try.prog 32 #[(if b0 = true then .slice none 0 0 else .slice (some (Vc.qad p0 (Int.toNat x0) (Int.toNat x1))) (Int.toNat x0) (Int.toNat x1) : Value)] w' (Vc.Ret (.bool b1) w')) ∧
  ((b1 = true) → (
  (¬ (b0 = true)) ∧
  (0 < x0) ∧
  ∃ (x2 : Int), w.cell? ⟨p0.1, p0.2 + (Int.toNat 0) * 2 + 0, none⟩ = some (.int .i64 x2) ∧
  ∃ (x3 : Int), w.cell? ⟨p0.1, p0.2 + (Int.toNat 0) * 2 + 1, none⟩ = some (.int .i64 x3) ∧
  ∃ (x4 : Int), (∀ w' : World, Below w.heap.size w w' → Calls Try.prog 42 #[.agg #[.int .i64 x2, .int .i64 x3]] w' (Vc.Ret (.int .i64 x4) w')) ∧
  (.bool (decide (x4 > 0)) : Value) = v)) ∧ (¬ (b1 = true) → (
  (.bool false : Value) = v)))) ∧ (¬ (x0 ≤ 9) → (
  (.bool false : Value) = v)))) ∧ (¬ (2 ≤ x0) → (
  (.bool false : Value) = v))) : Calls Try.prog 54 #[(if b0 = true then .slice none 0 0 else .slice (some (Vc.qad p0 (Int.toNat x0) (Int.toNat x1))) (Int.toNat x0) (Int.toNat x1) : Value)] w (Vc.Ret v w) :=
  Vc.pure_of base [] 200 Try.func54 (b := (Try.f54.body).getD .skip) (by kernel_rfl) [.cv (.one (.qsl 0 0 2 (.var 0) (.var 1)))] ⟨2, 1, 0, 1, 0, 0, 0⟩ (Vc.envOf [x0, x1] [b0] [] [p0]) (by kernel_rfl) (by kernel_rfl) (by kernel_rfl) h

theorem vc__steer_wide__plus (x0 x1 x2 x3 : Int) (b0 : Bool) (w : World) (v : Value) (h : 
  ∀ x4 : Int, x4 = IntKind.u64.wrap (x2) →
  ∀ x5 : Int, x5 = IntKind.u64.wrap (x3) →
  ∃ (x6 : Int), ∃ (x7 : Int), (∀ w' : World, Below w.heap.size w w' → Calls Try.prog 84 #[.int .u64 x4, .int .u64 x5] w' (Vc.Ret (.tuple #[.int .u64 x6, .int .u64 x7]) w')) ∧
  ((x2 < 0) → (
  ∀ x8 : Int, x8 = IntKind.u64.wrap (x3) →
  ∀ x9 : Int, x9 = IntKind.u64.wrap (x6 - x8) →
  ((x3 < 0) → (
  ∀ x10 : Int, x10 = IntKind.u64.wrap (x2) →
  ∀ x11 : Int, x11 = IntKind.u64.wrap (x9 - x10) →
  ((b0 = true) → (
  ∃ (x12 : Int), ∃ (x13 : Int), (true = true ∧ ∀ w' : World, (callFunc 85 #[.int .u64 x1, .int .u64 x7, .int .u64 0]).run Try.prog w' = .ok (.value (.tuple #[.int .u64 x12, .int .u64 x13])) w') ∧
  ∀ x14 : Int, x14 = IntKind.i64.wrap (x11) →
  ∀ x15 : Int, x15 = IntKind.i64.wrap (x13) →
  ∀ x16 : Int, x16 = IntKind.i64.wrap (x14 + x15) →
  ∀ x17 : Int, x17 = IntKind.i64.wrap (x0 - x16) →
  (.agg #[.int .i64 x17, .int .u64 x12] : Value) = v)) ∧ (¬ (b0 = true) → (
  ∃ (x12 : Int), ∃ (x13 : Int), (true = true ∧ ∀ w' : World, (callFunc 86 #[.int .u64 x1, .int .u64 x7, .int .u64 0]).run Try.prog w' = .ok (.value (.tuple #[.int .u64 x12, .int .u64 x13])) w') ∧
  ∀ x14 : Int, x14 = IntKind.i64.wrap (x11) →
  ∀ x15 : Int, x15 = IntKind.i64.wrap (x13) →
  ∀ x16 : Int, x16 = IntKind.i64.wrap (x14 + x15) →
  ∀ x17 : Int, x17 = IntKind.i64.wrap (x0 + x16) →
  (.agg #[.int .i64 x17, .int .u64 x12] : Value) = v)))) ∧ (¬ (x3 < 0) → (
  ((b0 = true) → (
  ∃ (x10 : Int), ∃ (x11 : Int), (true = true ∧ ∀ w' : World, (callFunc 85 #[.int .u64 x1, .int .u64 x7, .int .u64 0]).run Try.prog w' = .ok (.value (.tuple #[.int .u64 x10, .int .u64 x11])) w') ∧
  ∀ x12 : Int, x12 = IntKind.i64.wrap (x9) →
  ∀ x13 : Int, x13 = IntKind.i64.wrap (x11) →
  ∀ x14 : Int, x14 = IntKind.i64.wrap (x12 + x13) →
  ∀ x15 : Int, x15 = IntKind.i64.wrap (x0 - x14) →
  (.agg #[.int .i64 x15, .int .u64 x10] : Value) = v)) ∧ (¬ (b0 = true) → (
  ∃ (x10 : Int), ∃ (x11 : Int), (true = true ∧ ∀ w' : World, (callFunc 86 #[.int .u64 x1, .int .u64 x7, .int .u64 0]).run Try.prog w' = .ok (.value (.tuple #[.int .u64 x10, .int .u64 x11])) w') ∧
  ∀ x12 : Int, x12 = IntKind.i64.wrap (x9) →
  ∀ x13 : Int, x13 = IntKind.i64.wrap (x11) →
  ∀ x14 : Int, x14 = IntKind.i64.wrap (x12 + x13) →
  ∀ x15 : Int, x15 = IntKind.i64.wrap (x0 + x14) →
  (.agg #[.int .i64 x15, .int .u64 x10] : Value) = v)))))) ∧ (¬ (x2 < 0) → (
  ((x3 < 0) → (
  ∀ x8 : Int, x8 = IntKind.u64.wrap (x2) →
  ∀ x9 : Int, x9 = IntKind.u64.wrap (x6 - x8) →
  ((b0 = true) → (
  ∃ (x10 : Int), ∃ (x11 : Int), (true = true ∧ ∀ w' : World, (callFunc 85 #[.int .u64 x1, .int .u64 x7, .int .u64 0]).run Try.prog w' = .ok (.value (.tuple #[.int .u64 x10, .int .u64 x11])) w') ∧
  ∀ x12 : Int, x12 = IntKind.i64.wrap (x9) →
  ∀ x13 : Int, x13 = IntKind.i64.wrap (x11) →
  ∀ x14 : Int, x14 = IntKind.i64.wrap (x12 + x13) →
  ∀ x15 : Int, x15 = IntKind.i64.wrap (x0 - x14) →
  (.agg #[.int .i64 x15, .int .u64 x10] : Value) = v)) ∧ (¬ (b0 = true) → (
  ∃ (x10 : Int), ∃ (x11 : Int), (true = true ∧ ∀ w' : World, (callFunc 86 #[.int .u64 x1, .int .u64 x7, .int .u64 0]).run Try.prog w' = .ok (.value (.tuple #[.int .u64 x10, .int .u64 x11])) w') ∧
  ∀ x12 : Int, x12 = IntKind.i64.wrap (x9) →
  ∀ x13 : Int, x13 = IntKind.i64.wrap (x11) →
  ∀ x14 : Int, x14 = IntKind.i64.wrap (x12 + x13) →
  ∀ x15 : Int, x15 = IntKind.i64.wrap (x0 + x14) →
  (.agg #[.int .i64 x15, .int .u64 x10] : Value) = v)))) ∧ (¬ (x3 < 0) → (
  ((b0 = true) → (
  ∃ (x8 : Int), ∃ (x9 : Int), (true = true ∧ ∀ w' : World, (callFunc 85 #[.int .u64 x1, .int .u64 x7, .int .u64 0]).run Try.prog w' = .ok (.value (.tuple #[.int .u64 x8, .int .u64 x9])) w') ∧
  ∀ x10 : Int, x10 = IntKind.i64.wrap (x6) →
  ∀ x11 : Int, x11 = IntKind.i64.wrap (x9) →
  ∀ x12 : Int, x12 = IntKind.i64.wrap (x10 + x11) →
  ∀ x13 : Int, x13 = IntKind.i64.wrap (x0 - x12) →
  (.agg #[.int .i64 x13, .int .u64 x8] : Value) = v)) ∧ (¬ (b0 = true) → (
  ∃ (x8 : Int), ∃ (x9 : Int), (true = true ∧ ∀ w' : World, (callFunc 86 #[.int .u64 x1, .int .u64 x7, .int .u64 0]).run Try.prog w' = .ok (.value (.tuple #[.int .u64 x8, .int .u64 x9])) w') ∧
  ∀ x10 : Int, x10 = IntKind.i64.wrap (x6) →
  ∀ x11 : Int, x11 = IntKind.i64.wrap (x9) →
  ∀ x12 : Int, x12 = IntKind.i64.wrap (x10 + x11) →
  ∀ x13 : Int, x13 = IntKind.i64.wrap (x0 + x12) →
  (.agg #[.int .i64 x13, .int .u64 x8] : Value) = v))))))) : Calls Try.prog 68 #[.agg #[.int .i64 x0, .int .u64 x1], .int .i64 x2, .int .i64 x3, .bool b0] w (Vc.Ret v w) :=
  Vc.pure_of base [] 200 Try.func68 (b := (Try.f68.body).getD .skip) (by kernel_rfl) [.cv (.agg [.int .i64 (.var 0), .int .u64 (.var 1)]), .cv (.one (.int .i64 (.var 2))), .cv (.one (.int .i64 (.var 3))), .cv (.one (.bool (.var 0)))] ⟨4, 1, 0, 0, 0, 0, 0⟩ (Vc.envOf [x0, x1, x2, x3] [b0] [] []) (by kernel_rfl) (by kernel_rfl) (by kernel_rfl) h

theorem vc__steer_wide__down (x0 x1 : Int) (w : World) (v : Value) (h : 
  ∀ x2 : Int, x2 = IntKind.i64.wrap (x0 * 4294967296) →
  ∀ x3 : Int, x3 = x1 / 4294967296 →
  ∀ x4 : Int, x4 = IntKind.i64.wrap (x3) →
  ∀ x5 : Int, x5 = bits .or .i64 x2 x4 →
  ∀ x6 : Int, x6 = x0 / 2147483648 →
  ∀ x7 : Int, x7 = x5 / 9223372036854775808 →
  ((x6 = x7) → (
  ∃ (b0 : Bool), (∀ w' : World, Below w.heap.size w w' → Calls Try.prog 43 #[.int .i64 x5] w' (Vc.Ret (.bool b0) w')) ∧
  (.tuple #[.int .i64 x5, .bool b0] : Value) = v)) ∧ (¬ (x6 = x7) → (
  (.tuple #[.int .i64 x5, .bool false] : Value) = v))) : Calls Try.prog 69 #[.agg #[.int .i64 x0, .int .u64 x1]] w (Vc.Ret v w) :=
  Vc.pure_of base [] 200 Try.func69 (b := (Try.f69.body).getD .skip) (by kernel_rfl) [.cv (.agg [.int .i64 (.var 0), .int .u64 (.var 1)])] ⟨2, 0, 0, 0, 0, 0, 0⟩ (Vc.envOf [x0, x1] [] [] []) (by kernel_rfl) (by kernel_rfl) (by kernel_rfl) h

theorem vc__steer_predictor__right (x0 x1 x2 x3 x4 x5 x6 : Int) (w : World) (v : Value) (h : 
  ∃ (b0 : Bool), (∀ (β : Nat → Nat) (w' : World), Below w.heap.size w w' → ((w.heap.size ≤ β 1 ∧ w'.heap[β 1]? = some (.cells #[.int .i64 x0, .int .i64 x1, .int .i64 x2, .int .i64 x3, .int .i64 x4, .int .i64 x5] 42)) ∧ True) → Calls Try.prog 32 #[.slice (some ⟨β 1, 0, none⟩) 3 3] w' (Vc.Ret (.bool b0) w')) ∧
  ((b0 = true) → (
  ((0 ≤ x6) → (
  (.bool (decide (x2 ≥ 0)) : Value) = v)) ∧ (¬ (0 ≤ x6) → (
  (.bool false : Value) = v)))) ∧ (¬ (b0 = true) → (
  (.bool false : Value) = v))) : Calls Try.prog 46 #[.agg #[.int .i64 x0, .int .i64 x1, .int .i64 x2, .int .i64 x3, .int .i64 x4, .int .i64 x5, .int .i64 x6]] w (Vc.Ret v w) :=
  Vc.pure_of base [] 200 Try.func46 (b := (Try.f46.body).getD .skip) (by kernel_rfl) [.cv (.agg [.int .i64 (.var 0), .int .i64 (.var 1), .int .i64 (.var 2), .int .i64 (.var 3), .int .i64 (.var 4), .int .i64 (.var 5), .int .i64 (.var 6)])] ⟨7, 0, 0, 0, 0, 0, 0⟩ (Vc.envOf [x0, x1, x2, x3, x4, x5, x6] [] [] []) (by kernel_rfl) (by kernel_rfl) (by kernel_rfl) h

theorem vc__steer_predictor__at (x0 x1 x2 x3 x4 x5 x6 x7 x8 : Int) (w : World) (v : Value) (h : 
  ∃ (x9 : Int), ∃ (x10 : Int), ∃ (x11 : Int), ∃ (x12 : Int), ∃ (x13 : Int), (∀ w' : World, Below w.heap.size w w' → Calls Try.prog 66 #[.agg #[.int .i64 x7, .int .i64 x8]] w' (Vc.Ret (.tuple #[.agg #[.int .i64 x9, .int .i64 x10], .agg #[.int .i64 x11, .int .i64 x12], .int .i64 x13]) w')) ∧
  ((x13 = 0) → (
  ∃ (x14 : Int), ∃ (x15 : Int), ∃ (x16 : Int), (∀ (β : Nat → Nat) (w' : World), Below w.heap.size w w' → ((w.heap.size ≤ β 5 ∧ w'.heap[β 5]? = some (.cells #[.int .i64 0] 83)) ∧ True) → Calls Try.prog 36 #[Vc.ptr (β 5) 0, .agg #[.int .i64 x2, .int .i64 x3], .agg #[.int .i64 x11, .int .i64 x12]] w' (Vc.Eff (.agg #[.int .i64 x14, .int .i64 x15]) (β 5) #[.int .i64 x16] 83 w')) ∧
  ∃ (x17 : Int), ∃ (x18 : Int), ∃ (x19 : Int), (∀ (β : Nat → Nat) (w' : World), Below w.heap.size w w' → ((w.heap.size ≤ β 5 ∧ w'.heap[β 5]? = some (.cells #[.int .i64 x16] 83)) ∧ True) → Calls Try.prog 35 #[Vc.ptr (β 5) 0, .agg #[.int .i64 x14, .int .i64 x15], .agg #[.int .i64 x4, .int .i64 x5]] w' (Vc.Eff (.agg #[.int .i64 x17, .int .i64 x18]) (β 5) #[.int .i64 x19] 83 w')) ∧
  ∃ (x20 : Int), ∃ (x21 : Int), (∀ w' : World, Below w.heap.size w w' → Calls Try.prog 33 #[.int .i64 x6] w' (Vc.Ret (.agg #[.int .i64 x20, .int .i64 x21]) w')) ∧
  ∃ (x22 : Int), ∃ (x23 : Int), ∃ (x24 : Int), (∀ (β : Nat → Nat) (w' : World), Below w.heap.size w w' → ((w.heap.size ≤ β 5 ∧ w'.heap[β 5]? = some (.cells #[.int .i64 x19] 83)) ∧ True) → Calls Try.prog 36 #[Vc.ptr (β 5) 0, .agg #[.int .i64 x17, .int .i64 x18], .agg #[.int .i64 x20, .int .i64 x21]] w' (Vc.Eff (.agg #[.int .i64 x22, .int .i64 x23]) (β 5) #[.int .i64 x24] 83 w')) ∧
  ∃ (x25 : Int), ∃ (x26 : Int), ∃ (x27 : Int), (∀ (β : Nat → Nat) (w' : World), Below w.heap.size w w' → ((w.heap.size ≤ β 5 ∧ w'.heap[β 5]? = some (.cells #[.int .i64 x24] 83)) ∧ True) → Calls Try.prog 39 #[Vc.ptr (β 5) 0, .agg #[.int .i64 x0, .int .i64 x1], .agg #[.int .i64 x22, .int .i64 x23]] w' (Vc.Eff (.agg #[.int .i64 x25, .int .i64 x26]) (β 5) #[.int .i64 x27] 83 w')) ∧
  (.tuple #[.agg #[.int .i64 x25, .int .i64 x26], .int .i64 x27] : Value) = v)) ∧ (¬ (x13 = 0) → (
  (.tuple #[.agg #[.int .i64 0, .int .i64 0], .int .i64 x13] : Value) = v))) : Calls Try.prog 47 #[.agg #[.int .i64 x0, .int .i64 x1, .int .i64 x2, .int .i64 x3, .int .i64 x4, .int .i64 x5, .int .i64 x6], .agg #[.int .i64 x7, .int .i64 x8]] w (Vc.Ret v w) :=
  Vc.pure_of base [(3000039, .inv [] [0] [0]), (3000035, .inv [] [0] [0]), (3000036, .inv [] [0] [0]), (3000034, .inv [] [0] [0]), (3000038, .inv [] [0] [0])] 200 Try.func47 (b := (Try.f47.body).getD .skip) (by kernel_rfl) [.cv (.agg [.int .i64 (.var 0), .int .i64 (.var 1), .int .i64 (.var 2), .int .i64 (.var 3), .int .i64 (.var 4), .int .i64 (.var 5), .int .i64 (.var 6)]), .cv (.agg [.int .i64 (.var 7), .int .i64 (.var 8)])] ⟨9, 0, 0, 0, 0, 0, 0⟩ (Vc.envOf [x0, x1, x2, x3, x4, x5, x6, x7, x8] [] [] []) (by kernel_rfl) (by kernel_rfl) (by kernel_rfl) h

theorem vc_steer_Lift (x0 x1 x2 x3 x4 x5 x6 x7 x8 : Int) (w : World) (v : Value) (h : 
  ∃ (b0 : Bool), (∀ w' : World, Below w.heap.size w w' → Calls Try.prog 46 #[.agg #[.int .i64 x0, .int .i64 x1, .int .i64 x2, .int .i64 x3, .int .i64 x4, .int .i64 x5, .int .i64 x6]] w' (Vc.Ret (.bool b0) w')) ∧
  ((b0 = true) → (
  ∃ (x9 : Int), ∃ (x10 : Int), ∃ (x11 : Int), (∀ w' : World, Below w.heap.size w w' → Calls Try.prog 47 #[.agg #[.int .i64 x0, .int .i64 x1, .int .i64 x2, .int .i64 x3, .int .i64 x4, .int .i64 x5, .int .i64 x6], .agg #[.int .i64 x7, .int .i64 x8]] w' (Vc.Ret (.tuple #[.agg #[.int .i64 x9, .int .i64 x10], .int .i64 x11]) w')) ∧
  (.tuple #[.agg #[.int .i64 x9, .int .i64 x10], .int .i64 x11] : Value) = v)) ∧ (¬ (b0 = true) → (
  (.tuple #[.agg #[.int .i64 0, .int .i64 0], .int .i64 2] : Value) = v))) : Calls Try.prog 22 #[.agg #[.int .i64 x0, .int .i64 x1], .agg #[.int .i64 x2, .int .i64 x3], .agg #[.int .i64 x4, .int .i64 x5], .int .i64 x6, .agg #[.int .i64 x7, .int .i64 x8]] w (Vc.Ret v w) :=
  Vc.pure_of base [] 200 Try.func22 (b := (Try.f22.body).getD .skip) (by kernel_rfl) [.cv (.agg [.int .i64 (.var 0), .int .i64 (.var 1)]), .cv (.agg [.int .i64 (.var 2), .int .i64 (.var 3)]), .cv (.agg [.int .i64 (.var 4), .int .i64 (.var 5)]), .cv (.one (.int .i64 (.var 6))), .cv (.agg [.int .i64 (.var 7), .int .i64 (.var 8)])] ⟨9, 0, 0, 0, 0, 0, 0⟩ (Vc.envOf [x0, x1, x2, x3, x4, x5, x6, x7, x8] [] [] []) (by kernel_rfl) (by kernel_rfl) (by kernel_rfl) h

theorem vc_steer_Aim (x0 x1 x2 x3 x4 x5 x6 x7 x8 : Int) (w : World) (v : Value) (h : 
  ∃ (b0 : Bool), (∀ w' : World, Below w.heap.size w w' → Calls Try.prog 46 #[.agg #[.int .i64 x0, .int .i64 x1, .int .i64 x2, .int .i64 x3, .int .i64 x4, .int .i64 x5, .int .i64 x6]] w' (Vc.Ret (.bool b0) w')) ∧
  ((b0 = true) → (
  ∃ (b1 : Bool), (∀ w' : World, Below w.heap.size w w' → Calls Try.prog 43 #[.int .i64 x7] w' (Vc.Ret (.bool b1) w')) ∧
  ((b1 = true) → (
  ((x8 < 0) → (
  (.tuple #[.agg #[.int .i64 0, .int .i64 0], .int .i64 0, .int .i64 2] : Value) = v)) ∧ (¬ (x8 < 0) → (
  ((40 < x8) → (
  (.tuple #[.agg #[.int .i64 0, .int .i64 0], .int .i64 0, .int .i64 2] : Value) = v)) ∧ (¬ (40 < x8) → (
  ∃ (x9 : Int), ∃ (x10 : Int), (∀ w' : World, Below w.heap.size w w' → Calls Try.prog 40 #[.int .i64 1] w' (Vc.Ret (.agg #[.int .i64 x9, .int .i64 x10]) w')) ∧
  ∃ (x11 : Int), ∃ (x12 : Int), ∃ (x13 : Int), (∀ w' : World, Below w.heap.size w w' → Calls Try.prog 47 #[.agg #[.int .i64 x0, .int .i64 x1, .int .i64 x2, .int .i64 x3, .int .i64 x4, .int .i64 x5, .int .i64 x6], .agg #[.int .i64 x9, .int .i64 x10]] w' (Vc.Ret (.tuple #[.agg #[.int .i64 x11, .int .i64 x12], .int .i64 x13]) w')) ∧
  ∃ (x14 : Int), ∃ (x15 : Int), (∀ w' : World, Below w.heap.size w w' → Calls Try.prog 40 #[.int .i64 (-1)] w' (Vc.Ret (.agg #[.int .i64 x14, .int .i64 x15]) w')) ∧
  ∃ (x16 : Int), ∃ (x17 : Int), ∃ (x18 : Int), (∀ w' : World, Below w.heap.size w w' → Calls Try.prog 47 #[.agg #[.int .i64 x0, .int .i64 x1, .int .i64 x2, .int .i64 x3, .int .i64 x4, .int .i64 x5, .int .i64 x6], .agg #[.int .i64 x14, .int .i64 x15]] w' (Vc.Ret (.tuple #[.agg #[.int .i64 x16, .int .i64 x17], .int .i64 x18]) w')) ∧
  ((x13 = 0) → (
  ((x18 = 0) → (
  ((x12 < x7) → (
  (.tuple #[.agg #[.int .i64 0, .int .i64 0], .int .i64 0, .int .i64 7] : Value) = v)) ∧ (¬ (x12 < x7) → (
  ((x7 < x16) → (
  (.tuple #[.agg #[.int .i64 0, .int .i64 0], .int .i64 0, .int .i64 7] : Value) = v)) ∧ (¬ (x7 < x16) → (
  ∃ (Ix19 : List Vc.Vl → Prop) (mx19 : List Vc.Vl → Nat), Ix19 [.i 0, .i x13, .i (-4294967296), .i 4294967296] ∧ ∀ (x19 : Int) (x20 : Int) (x21 : Int) (x22 : Int), Ix19 [.i x19, .i x20, .i x21, .i x22] → (
  ((x19 < x8) → (
  ∀ x23 : Int, x23 = IntKind.i64.wrap (x22 - x21) →
  ((2 ≤ x23) → (
  ∃ (x24 : Int), ∃ (x25 : Int), (∀ w' : World, Below w.heap.size w w' → Calls Try.prog 48 #[.agg #[.int .i64 x21, .int .i64 x22]] w' (Vc.Ret (.tuple #[.int .i64 x24, .int .i64 x25]) w')) ∧
  ∃ (x26 : Int), ∃ (x27 : Int), (∀ w' : World, Below w.heap.size w w' → Calls Try.prog 33 #[.int .i64 x24] w' (Vc.Ret (.agg #[.int .i64 x26, .int .i64 x27]) w')) ∧
  ∃ (x28 : Int), ∃ (x29 : Int), ∃ (x30 : Int), (∀ w' : World, Below w.heap.size w w' → Calls Try.prog 47 #[.agg #[.int .i64 x0, .int .i64 x1, .int .i64 x2, .int .i64 x3, .int .i64 x4, .int .i64 x5, .int .i64 x6], .agg #[.int .i64 x26, .int .i64 x27]] w' (Vc.Ret (.tuple #[.agg #[.int .i64 x28, .int .i64 x29], .int .i64 x30]) w')) ∧
  ∀ x31 : Int, x31 = IntKind.i64.wrap (x19 + 1) →
  ∃ (x32 : Int), ∃ (x33 : Int), (∀ w' : World, Below w.heap.size w w' → Calls Try.prog 33 #[.int .i64 x7] w' (Vc.Ret (.agg #[.int .i64 x32, .int .i64 x33]) w')) ∧
  ∃ (x34 : Int), (∀ w' : World, Below w.heap.size w w' → Calls Try.prog 49 #[.agg #[.int .i64 x28, .int .i64 x29], .agg #[.int .i64 x32, .int .i64 x33]] w' (Vc.Ret (.int .i64 x34) w')) ∧
  ((x34 = (-1)) → (
  Ix19 [.i x31, .i x20, .i x24, .i x22] ∧ mx19 [.i x31, .i x20, .i x24, .i x22] < mx19 [.i x19, .i x20, .i x21, .i x22])) ∧ (¬ (x34 = (-1)) → (
  ((x34 = 1) → (
  Ix19 [.i x31, .i x20, .i x21, .i x24] ∧ mx19 [.i x31, .i x20, .i x21, .i x24] < mx19 [.i x19, .i x20, .i x21, .i x22])) ∧ (¬ (x34 = 1) → (
  (.tuple #[.agg #[.int .i64 x21, .int .i64 x22], .int .i64 x31, .int .i64 0] : Value) = v)))))) ∧ (¬ (2 ≤ x23) → (
  (.tuple #[.agg #[.int .i64 x21, .int .i64 x22], .int .i64 x19, .int .i64 0] : Value) = v)))) ∧ (¬ (x19 < x8) → (
  (.tuple #[.agg #[.int .i64 x21, .int .i64 x22], .int .i64 x19, .int .i64 0] : Value) = v))))))))) ∧ (¬ (x18 = 0) → (
  (.tuple #[.agg #[.int .i64 0, .int .i64 0], .int .i64 0, .int .i64 x18] : Value) = v)))) ∧ (¬ (x13 = 0) → (
  (.tuple #[.agg #[.int .i64 0, .int .i64 0], .int .i64 0, .int .i64 x13] : Value) = v)))))))) ∧ (¬ (b1 = true) → (
  (.tuple #[.agg #[.int .i64 0, .int .i64 0], .int .i64 0, .int .i64 2] : Value) = v)))) ∧ (¬ (b0 = true) → (
  (.tuple #[.agg #[.int .i64 0, .int .i64 0], .int .i64 0, .int .i64 2] : Value) = v))) : Calls Try.prog 19 #[.agg #[.int .i64 x0, .int .i64 x1], .agg #[.int .i64 x2, .int .i64 x3], .agg #[.int .i64 x4, .int .i64 x5], .int .i64 x6, .int .i64 x7, .int .i64 x8] w (Vc.Ret v w) :=
  Vc.pure_of base [(11000000000013, .inv [(12, 0), (12, 1)] [13, 14] [80, 81, 82, 83, 84, 85, 86, 87, 88, 89, 90, 92, 93, 91, 94, 95, 19, 20, 97, 98, 99, 100, 96, 101, 102, 21, 22, 103, 104, 105, 106, 107, 108, 112, 111, 113, 114, 116, 115, 117, 118, 109, 110])] 200 Try.func19 (b := (Try.f19.body).getD .skip) (by kernel_rfl) [.cv (.agg [.int .i64 (.var 0), .int .i64 (.var 1)]), .cv (.agg [.int .i64 (.var 2), .int .i64 (.var 3)]), .cv (.agg [.int .i64 (.var 4), .int .i64 (.var 5)]), .cv (.one (.int .i64 (.var 6))), .cv (.one (.int .i64 (.var 7))), .cv (.one (.int .i64 (.var 8)))] ⟨9, 0, 0, 0, 0, 0, 0⟩ (Vc.envOf [x0, x1, x2, x3, x4, x5, x6, x7, x8] [] [] []) (by kernel_rfl) (by kernel_rfl) (by kernel_rfl) h

theorem vc_steer_Routh (p0 : Nat × Nat) (x0 : Int) (w : World) (v : Value) (h : 
  ∃ (b0 : Bool), (∀ w' : World, Below w.heap.size w w' → Calls Try.prog 54 #[.slice (some ⟨p0.1, p0.2, none⟩) 3 (Int.toNat x0)] w' (Vc.Ret (.bool b0) w')) ∧
  ((b0 = true) → (
  ∃ (x1 : Int), w.cell? ⟨p0.1, p0.2 + (Int.toNat 0) * 2 + 0, none⟩ = some (.int .i64 x1) ∧
  ∃ (x2 : Int), w.cell? ⟨p0.1, p0.2 + (Int.toNat 0) * 2 + 1, none⟩ = some (.int .i64 x2) ∧
  ∃ (x3 : Int), w.cell? ⟨p0.1, p0.2 + (Int.toNat 1) * 2 + 0, none⟩ = some (.int .i64 x3) ∧
  ∃ (x4 : Int), w.cell? ⟨p0.1, p0.2 + (Int.toNat 1) * 2 + 1, none⟩ = some (.int .i64 x4) ∧
  ∃ (x5 : Int), w.cell? ⟨p0.1, p0.2 + (Int.toNat 2) * 2 + 0, none⟩ = some (.int .i64 x5) ∧
  ∃ (x6 : Int), w.cell? ⟨p0.1, p0.2 + (Int.toNat 2) * 2 + 1, none⟩ = some (.int .i64 x6) ∧
  ∃ (x7 : Int), (∀ w' : World, Below w.heap.size w w' → Calls Try.prog 42 #[.agg #[.int .i64 x3, .int .i64 x4]] w' (Vc.Ret (.int .i64 x7) w')) ∧
  ((x7 = 1) → (
  ∃ (x8 : Int), ∃ (x9 : Int), ∃ (x10 : Int), (∀ (β : Nat → Nat) (w' : World), Below w.heap.size w w' → ((w.heap.size ≤ β 25 ∧ w'.heap[β 25]? = some (.cells #[.int .i64 0] 83)) ∧ True) → Calls Try.prog 36 #[Vc.ptr (β 25) 0, .agg #[.int .i64 x3, .int .i64 x4], .agg #[.int .i64 x5, .int .i64 x6]] w' (Vc.Eff (.agg #[.int .i64 x8, .int .i64 x9]) (β 25) #[.int .i64 x10] 83 w')) ∧
  ∃ (x11 : Int), ∃ (x12 : Int), (∀ (β : Nat → Nat) (w' : World), Below w.heap.size w w' → (Vc.RowOk w.heap.size (β 15) (β 16) (β 17) (β 18) (([.int .i64 x3, .int .i64 x4] : List Value)) 2 42 w' ∧ True) → Calls Try.prog 88 #[Vc.ownV (β 15) (β 16) (β 17) (β 18), .int .i64 1] w' (Vc.Ret (.agg #[.int .i64 x11, .int .i64 x12]) w')) ∧
  ∃ (x13 : Int), ∃ (x14 : Int), ∃ (x15 : Int), (∀ (β : Nat → Nat) (w' : World), Below w.heap.size w w' → ((w.heap.size ≤ β 25 ∧ w'.heap[β 25]? = some (.cells #[.int .i64 x10] 83)) ∧ True) → Calls Try.prog 36 #[Vc.ptr (β 25) 0, .agg #[.int .i64 x1, .int .i64 x2], .agg #[.int .i64 x11, .int .i64 x12]] w' (Vc.Eff (.agg #[.int .i64 x13, .int .i64 x14]) (β 25) #[.int .i64 x15] 83 w')) ∧
  ∃ (x16 : Int), ∃ (x17 : Int), ∃ (x18 : Int), (∀ (β : Nat → Nat) (w' : World), Below w.heap.size w w' → ((w.heap.size ≤ β 25 ∧ w'.heap[β 25]? = some (.cells #[.int .i64 x15] 83)) ∧ True) → Calls Try.prog 35 #[Vc.ptr (β 25) 0, .agg #[.int .i64 x8, .int .i64 x9], .agg #[.int .i64 x13, .int .i64 x14]] w' (Vc.Eff (.agg #[.int .i64 x16, .int .i64 x17]) (β 25) #[.int .i64 x18] 83 w')) ∧
  ∃ (x19 : Int), ∃ (x20 : Int), ∃ (x21 : Int), (∀ (β : Nat → Nat) (w' : World), Below w.heap.size w w' → ((w.heap.size ≤ β 25 ∧ w'.heap[β 25]? = some (.cells #[.int .i64 x18] 83)) ∧ True) → Calls Try.prog 34 #[Vc.ptr (β 25) 0, .agg #[.int .i64 x16, .int .i64 x17], .agg #[.int .i64 x3, .int .i64 x4]] w' (Vc.Eff (.agg #[.int .i64 x19, .int .i64 x20]) (β 25) #[.int .i64 x21] 83 w')) ∧
  ((x21 = 0) → (
  ∃ (x22 : Int), (∀ w' : World, Below w.heap.size w w' → Calls Try.prog 42 #[.agg #[.int .i64 x19, .int .i64 x20]] w' (Vc.Ret (.int .i64 x22) w')) ∧
  ((x22 = 1) → (
  (.tuple #[.int .i64 1, .int .i64 0] : Value) = v)) ∧ (¬ (x22 = 1) → (
  (.tuple #[.int .i64 x22, .int .i64 0] : Value) = v)))) ∧ (¬ (x21 = 0) → (
  (.tuple #[.int .i64 0, .int .i64 0] : Value) = v)))) ∧ (¬ (x7 = 1) → (
  (.tuple #[.int .i64 x7, .int .i64 0] : Value) = v)))) ∧ (¬ (b0 = true) → (
  (.tuple #[.int .i64 0, .int .i64 2] : Value) = v))) : Calls Try.prog 24 #[.slice (some ⟨p0.1, p0.2, none⟩) 3 (Int.toNat x0)] w (Vc.Ret v w) :=
  Vc.pure_of (base_inl [55, 70, 87] (by kernel_rfl)) [(1000000000002, .unroll), (1000000000009, .unroll), (1000000000014, .unroll), (3000039, .inv [] [0] [0]), (3000035, .inv [] [0] [0]), (3000036, .inv [] [0] [0]), (3000034, .inv [] [0] [0]), (3000038, .inv [] [0] [0])] 200 Try.func24 (b := (Try.f24.body).getD .skip) (by kernel_rfl) [.cv (.one (.xsl 0 (.lit (0)) 2 (.lit (3)) (.var 0)))] ⟨1, 0, 0, 1, 0, 0, 0⟩ (Vc.envOf [x0] [] [] [p0]) (by kernel_rfl) (by kernel_rfl) (by kernel_rfl) h

theorem vc_steer_check (p0 : Nat × Nat) (x0 x1 x2 : Int) (b0 : Bool) (w : World) (v : Value) (h : 
  (0 ≤ x0) ∧
  ((¬ (b0 = true)) ∨ (x0 = 0)) ∧
  ((12 < x0) → (
  (.int .i64 3 : Value) = v)) ∧ (¬ (12 < x0) → (
  (0 ≤ x0) ∧
  ((¬ (b0 = true)) ∨ (x0 = 0)) ∧
  ∃ (Ix3 : List Vc.Vl → Prop) (mx3 : List Vc.Vl → Nat), Ix3 [.i 0, .i 0] ∧ ∀ (x3 : Int) (x4 : Int), Ix3 [.i x3, .i x4] → (
  ((x4 < x0) → (
  (¬ (b0 = true)) ∧
  (0 ≤ x4) ∧
  (x4 < x0) ∧
  ∃ (x5 : Int), w.cell? ⟨p0.1, p0.2 + (Int.toNat x4) * 3 + 0, none⟩ = some (.int .i64 x5) ∧
  ∃ (x6 : Int), w.cell? ⟨p0.1, p0.2 + (Int.toNat x4) * 3 + 1, none⟩ = some (.int .i64 x6) ∧
  ∃ (x7 : Int), w.cell? ⟨p0.1, p0.2 + (Int.toNat x4) * 3 + 2, none⟩ = some (.int .i64 x7) ∧
  ((x5 < (-1048576)) → (
  (.int .i64 2 : Value) = v)) ∧ (¬ (x5 < (-1048576)) → (
  ((1048576 < x5) → (
  (.int .i64 2 : Value) = v)) ∧ (¬ (1048576 < x5) → (
  ((x6 < (-1048576)) → (
  (.int .i64 2 : Value) = v)) ∧ (¬ (x6 < (-1048576)) → (
  ((1048576 < x6) → (
  (.int .i64 2 : Value) = v)) ∧ (¬ (1048576 < x6) → (
  ((x7 < (-1048576)) → (
  (.int .i64 2 : Value) = v)) ∧ (¬ (x7 < (-1048576)) → (
  ((1048576 < x7) → (
  (.int .i64 2 : Value) = v)) ∧ (¬ (1048576 < x7) → (
  ∀ x8 : Int, x8 = IntKind.i64.wrap (x4 + 1) →
  Ix3 [.i x3, .i x8] ∧ mx3 [.i x3, .i x8] < mx3 [.i x3, .i x4])))))))))))))) ∧ (¬ (x4 < x0) → (
  ((x2 < 0) → (
  (.int .i64 2 : Value) = v)) ∧ (¬ (x2 < 0) → (
  (0 ≤ x0) ∧
  ((¬ (b0 = true)) ∨ (x0 = 0)) ∧
  (0 ≤ x0) ∧
  ∀ x5 : Int, x5 = IntKind.i64.wrap (1 * 2 ^ (Nat.min (Int.toNat x0) 64)) →
  ((x5 ≤ x2) → (
  (.int .i64 2 : Value) = v)) ∧ (¬ (x5 ≤ x2) → (
  (.int .i64 0 : Value) = v)))))))))) : Calls Try.prog 26 #[(if b0 = true then .slice none 0 0 else .slice (some (Vc.qad p0 (Int.toNat x0) (Int.toNat x1))) (Int.toNat x0) (Int.toNat x1) : Value), .int .i64 x2] w (Vc.Ret v w) :=
  Vc.pure_of base [(1000000000004, .inv [] [4, 14] [15, 16, 17, 6, 18, 19, 20, 21, 22, 8, 23, 24, 25, 26, 27, 28, 29, 30]), (1000000000007, .unroll)] 200 Try.func26 (b := (Try.f26.body).getD .skip) (by kernel_rfl) [.cv (.one (.qsl 0 0 3 (.var 0) (.var 1))), .cv (.one (.int .i64 (.var 2)))] ⟨3, 1, 0, 1, 0, 0, 0⟩ (Vc.envOf [x0, x1, x2] [b0] [] [p0]) (by kernel_rfl) (by kernel_rfl) (by kernel_rfl) h

theorem vc__steer_vector__dot (x0 x1 x2 x3 x4 x5 : Int) (w : World) (v : Value) (h : 
  ∀ x6 : Int, x6 = IntKind.i64.wrap (x0 * x3) →
  ∀ x7 : Int, x7 = IntKind.i64.wrap (x1 * x4) →
  ∀ x8 : Int, x8 = IntKind.i64.wrap (x6 + x7) →
  ∀ x9 : Int, x9 = IntKind.i64.wrap (x2 * x5) →
  ∀ x10 : Int, x10 = IntKind.i64.wrap (x8 + x9) →
  (.int .i64 x10 : Value) = v) : Calls Try.prog 29 #[.agg #[.int .i64 x0, .int .i64 x1, .int .i64 x2], .agg #[.int .i64 x3, .int .i64 x4, .int .i64 x5]] w (Vc.Ret v w) :=
  Vc.pure_of base [] 200 Try.func29 (b := (Try.f29.body).getD .skip) (by kernel_rfl) [.cv (.agg [.int .i64 (.var 0), .int .i64 (.var 1), .int .i64 (.var 2)]), .cv (.agg [.int .i64 (.var 3), .int .i64 (.var 4), .int .i64 (.var 5)])] ⟨6, 0, 0, 0, 0, 0, 0⟩ (Vc.envOf [x0, x1, x2, x3, x4, x5] [] [] []) (by kernel_rfl) (by kernel_rfl) (by kernel_rfl) h

theorem vc__steer_vector__cross (x0 x1 x2 x3 x4 x5 : Int) (w : World) (v : Value) (h : 
  ∀ x6 : Int, x6 = IntKind.i64.wrap (x1 * x5) →
  ∀ x7 : Int, x7 = IntKind.i64.wrap (x2 * x4) →
  ∀ x8 : Int, x8 = IntKind.i64.wrap (x6 - x7) →
  ∀ x9 : Int, x9 = IntKind.i64.wrap (x2 * x3) →
  ∀ x10 : Int, x10 = IntKind.i64.wrap (x0 * x5) →
  ∀ x11 : Int, x11 = IntKind.i64.wrap (x9 - x10) →
  ∀ x12 : Int, x12 = IntKind.i64.wrap (x0 * x4) →
  ∀ x13 : Int, x13 = IntKind.i64.wrap (x1 * x3) →
  ∀ x14 : Int, x14 = IntKind.i64.wrap (x12 - x13) →
  (.agg #[.int .i64 x8, .int .i64 x11, .int .i64 x14] : Value) = v) : Calls Try.prog 56 #[.agg #[.int .i64 x0, .int .i64 x1, .int .i64 x2], .agg #[.int .i64 x3, .int .i64 x4, .int .i64 x5]] w (Vc.Ret v w) :=
  Vc.pure_of base [] 200 Try.func56 (b := (Try.f56.body).getD .skip) (by kernel_rfl) [.cv (.agg [.int .i64 (.var 0), .int .i64 (.var 1), .int .i64 (.var 2)]), .cv (.agg [.int .i64 (.var 3), .int .i64 (.var 4), .int .i64 (.var 5)])] ⟨6, 0, 0, 0, 0, 0, 0⟩ (Vc.envOf [x0, x1, x2, x3, x4, x5] [] [] []) (by kernel_rfl) (by kernel_rfl) (by kernel_rfl) h

theorem vc_steer_sides (p0 : Nat × Nat) (x0 x1 x2 x3 x4 : Int) (b0 : Bool) (w : World) (v : Value) (h : 
  (0 ≤ x0) ∧
  ((¬ (b0 = true)) ∨ (x0 = 0)) ∧
  ∃ (Ib1 : List Vc.Vl → Prop) (mb1 : List Vc.Vl → Nat), Ib1 [.b false, .b false, .i 0] ∧ ∀ (b1 : Bool) (b2 : Bool) (x5 : Int), Ib1 [.b b1, .b b2, .i x5] → (
  ((x5 < x0) → (
  (¬ (b0 = true)) ∧
  (0 ≤ x5) ∧
  (x5 < x0) ∧
  ∃ (x6 : Int), w.cell? ⟨p0.1, p0.2 + (Int.toNat x5) * 3 + 0, none⟩ = some (.int .i64 x6) ∧
  ∃ (x7 : Int), w.cell? ⟨p0.1, p0.2 + (Int.toNat x5) * 3 + 1, none⟩ = some (.int .i64 x7) ∧
  ∃ (x8 : Int), w.cell? ⟨p0.1, p0.2 + (Int.toNat x5) * 3 + 2, none⟩ = some (.int .i64 x8) ∧
  ∃ (x9 : Int), (∀ w' : World, Below w.heap.size w w' → Calls Try.prog 29 #[.agg #[.int .i64 x6, .int .i64 x7, .int .i64 x8], .agg #[.int .i64 x2, .int .i64 x3, .int .i64 x4]] w' (Vc.Ret (.int .i64 x9) w')) ∧
  ((b1 = true) → (
  ((b2 = true) → (
  ∀ x10 : Int, x10 = IntKind.i64.wrap (x5 + 1) →
  Ib1 [.b true, .b true, .i x10] ∧ mb1 [.b true, .b true, .i x10] < mb1 [.b b1, .b b2, .i x5])) ∧ (¬ (b2 = true) → (
  ∀ x10 : Int, x10 = IntKind.i64.wrap (x5 + 1) →
  Ib1 [.b true, .b (decide (x9 < 0)), .i x10] ∧ mb1 [.b true, .b (decide (x9 < 0)), .i x10] < mb1 [.b b1, .b b2, .i x5])))) ∧ (¬ (b1 = true) → (
  ((b2 = true) → (
  ∀ x10 : Int, x10 = IntKind.i64.wrap (x5 + 1) →
  Ib1 [.b (decide (x9 > 0)), .b true, .i x10] ∧ mb1 [.b (decide (x9 > 0)), .b true, .i x10] < mb1 [.b b1, .b b2, .i x5])) ∧ (¬ (b2 = true) → (
  ∀ x10 : Int, x10 = IntKind.i64.wrap (x5 + 1) →
  Ib1 [.b (decide (x9 > 0)), .b (decide (x9 < 0)), .i x10] ∧ mb1 [.b (decide (x9 > 0)), .b (decide (x9 < 0)), .i x10] < mb1 [.b b1, .b b2, .i x5])))))) ∧ (¬ (x5 < x0) → (
  (.tuple #[.bool b1, .bool b2] : Value) = v)))) : Calls Try.prog 57 #[(if b0 = true then .slice none 0 0 else .slice (some (Vc.qad p0 (Int.toNat x0) (Int.toNat x1))) (Int.toNat x0) (Int.toNat x1) : Value), .agg #[.int .i64 x2, .int .i64 x3, .int .i64 x4]] w (Vc.Ret v w) :=
  Vc.pure_of base [(1000000000002, .inv [] [4, 5, 11] [12, 13, 14, 7, 15, 16, 17, 8, 18, 19, 20, 21, 22, 23, 24, 25, 26, 27, 28])] 200 Try.func57 (b := (Try.f57.body).getD .skip) (by kernel_rfl) [.cv (.one (.qsl 0 0 3 (.var 0) (.var 1))), .cv (.agg [.int .i64 (.var 2), .int .i64 (.var 3), .int .i64 (.var 4)])] ⟨5, 1, 0, 1, 0, 0, 0⟩ (Vc.envOf [x0, x1, x2, x3, x4] [b0] [] [p0]) (by kernel_rfl) (by kernel_rfl) (by kernel_rfl) h

theorem vc_steer_span3 (p0 : Nat × Nat) (x0 x1 : Int) (b0 : Bool) (w : World) (v : Value) (h : 
  (0 ≤ x0) ∧
  ((¬ (b0 = true)) ∨ (x0 = 0)) ∧
  ∃ (Ix2 : List Vc.Vl → Prop) (mx2 : List Vc.Vl → Nat), Ix2 [.i 0, .b false, .i 0] ∧ ∀ (x2 : Int) (b1 : Bool) (x3 : Int), Ix2 [.i x2, .b b1, .i x3] → (
  ((x3 < x0) → (
  (¬ (b0 = true)) ∧
  (0 ≤ x3) ∧
  (x3 < x0) ∧
  ∃ (x4 : Int), w.cell? ⟨p0.1, p0.2 + (Int.toNat x3) * 3 + 0, none⟩ = some (.int .i64 x4) ∧
  ∃ (x5 : Int), w.cell? ⟨p0.1, p0.2 + (Int.toNat x3) * 3 + 1, none⟩ = some (.int .i64 x5) ∧
  ∃ (x6 : Int), w.cell? ⟨p0.1, p0.2 + (Int.toNat x3) * 3 + 2, none⟩ = some (.int .i64 x6) ∧
  (¬ (b0 = true)) ∧
  (0 < x1) ∧
  (0 ≤ x0) ∧
  (x0 ≤ x1) ∧
  (0 ≤ x3) ∧
  (x3 ≤ x1) ∧
  (0 ≤ x3) ∧
  ∃ (Ix7 : List Vc.Vl → Prop) (mx7 : List Vc.Vl → Nat), Ix7 [.i x2, .b b1, .i 0] ∧ ∀ (x7 : Int) (b2 : Bool) (x8 : Int), Ix7 [.i x7, .b b2, .i x8] → (
  ((x8 < x3) → (
  (0 ≤ x8) ∧
  (x8 < x3) ∧
  ∃ (x9 : Int), w.cell? ⟨p0.1, p0.2 + (Int.toNat x8) * 3 + 0, none⟩ = some (.int .i64 x9) ∧
  ∃ (x10 : Int), w.cell? ⟨p0.1, p0.2 + (Int.toNat x8) * 3 + 1, none⟩ = some (.int .i64 x10) ∧
  ∃ (x11 : Int), w.cell? ⟨p0.1, p0.2 + (Int.toNat x8) * 3 + 2, none⟩ = some (.int .i64 x11) ∧
  ∃ (x12 : Int), ∃ (x13 : Int), ∃ (x14 : Int), (∀ w' : World, Below w.heap.size w w' → Calls Try.prog 56 #[.agg #[.int .i64 x4, .int .i64 x5, .int .i64 x6], .agg #[.int .i64 x9, .int .i64 x10, .int .i64 x11]] w' (Vc.Ret (.agg #[.int .i64 x12, .int .i64 x13, .int .i64 x14]) w')) ∧
  (((x12 = 0) ∧ ((x13 = 0) ∧ (x14 = 0))) → (
  ∀ x15 : Int, x15 = IntKind.i64.wrap (x8 + 1) →
  Ix7 [.i x7, .b b2, .i x15] ∧ mx7 [.i x7, .b b2, .i x15] < mx7 [.i x7, .b b2, .i x8])) ∧ (¬ ((x12 = 0) ∧ ((x13 = 0) ∧ (x14 = 0))) → (
  ∀ x15 : Int, x15 = IntKind.i64.wrap (x7 + 1) →
  ∃ (b3 : Bool), ∃ (b4 : Bool), (∀ w' : World, Below w.heap.size w w' → Calls Try.prog 57 #[(if b0 = true then .slice none 0 0 else .slice (some (Vc.qad p0 (Int.toNat x0) (Int.toNat x1))) (Int.toNat x0) (Int.toNat x1) : Value), .agg #[.int .i64 x12, .int .i64 x13, .int .i64 x14]] w' (Vc.Ret (.tuple #[.bool b3, .bool b4]) w')) ∧
  ((b3 = true) → (
  ((b4 = true) → (
  ∀ x16 : Int, x16 = IntKind.i64.wrap (x8 + 1) →
  Ix7 [.i x15, .b b2, .i x16] ∧ mx7 [.i x15, .b b2, .i x16] < mx7 [.i x7, .b b2, .i x8])) ∧ (¬ (b4 = true) → (
  (.bool false : Value) = v)))) ∧ (¬ (b3 = true) → (
  (.bool false : Value) = v)))))) ∧ (¬ (x8 < x3) → (
  ∀ x9 : Int, x9 = IntKind.i64.wrap (x3 + 1) →
  Ix2 [.i x7, .b b2, .i x9] ∧ mx2 [.i x7, .b b2, .i x9] < mx2 [.i x2, .b b1, .i x3]))))) ∧ (¬ (x3 < x0) → (
  (.bool (decide (x2 > 0)) : Value) = v)))) : Calls Try.prog 27 #[(if b0 = true then .slice none 0 0 else .slice (some (Vc.qad p0 (Int.toNat x0) (Int.toNat x1))) (Int.toNat x0) (Int.toNat x1) : Value)] w (Vc.Ret v w) :=
  Vc.pure_of base [(1000000000003, .inv [] [3, 2, 13] [14, 15, 16, 17, 5, 4, 18, 19, 20, 21, 22, 23, 24, 25, 7, 26, 27, 28, 8, 29, 30, 31, 32, 33, 35, 36, 37, 34, 38, 39, 9, 10, 40, 41, 42, 43, 44, 45, 46, 47]), (1000000000006, .inv [] [3, 2, 22] [23, 24, 25, 7, 26, 27, 28, 8, 29, 30, 31, 32, 33, 35, 36, 37, 34, 38, 39, 9, 10, 40, 41, 42, 43, 44, 45, 46])] 200 Try.func27 (b := (Try.f27.body).getD .skip) (by kernel_rfl) [.cv (.one (.qsl 0 0 3 (.var 0) (.var 1)))] ⟨2, 1, 0, 1, 0, 0, 0⟩ (Vc.envOf [x0, x1] [b0] [] [p0]) (by kernel_rfl) (by kernel_rfl) (by kernel_rfl) h

theorem vc_steer_Spans (p0 : Nat × Nat) (x0 x1 x2 : Int) (b0 : Bool) (w : World) (v : Value) (h : 
  ∃ (x3 : Int), (∀ w' : World, Below w.heap.size w w' → Calls Try.prog 26 #[(if b0 = true then .slice none 0 0 else .slice (some (Vc.qad p0 (Int.toNat x0) (Int.toNat x1))) (Int.toNat x0) (Int.toNat x1) : Value), .int .i64 x2] w' (Vc.Ret (.int .i64 x3) w')) ∧
  ((x3 = 0) → (
  (0 ≤ x0) ∧
  ((¬ (b0 = true)) ∨ (x0 = 0)) ∧
  ∃ (Io4 : List Vc.Vl → Prop) (mo4 : List Vc.Vl → Nat), Io4 [.l (([] : List Value)), .i 0] ∧ ∀ (l0 : List Vc.OV) (x4 : Int), Io4 [.l ((l0.map (·.1) ++ (([] : List Value)))), .i x4] → (
  ((x4 < x0) → (
  (¬ (b0 = true)) ∧
  (0 ≤ x4) ∧
  (x4 < x0) ∧
  ∃ (x5 : Int), w.cell? ⟨p0.1, p0.2 + (Int.toNat x4) * 3 + 0, none⟩ = some (.int .i64 x5) ∧
  ∃ (x6 : Int), w.cell? ⟨p0.1, p0.2 + (Int.toNat x4) * 3 + 1, none⟩ = some (.int .i64 x6) ∧
  ∃ (x7 : Int), w.cell? ⟨p0.1, p0.2 + (Int.toNat x4) * 3 + 2, none⟩ = some (.int .i64 x7) ∧
  (0 ≤ x4) ∧
  ∀ x8 : Int, x8 = Int.fdiv x2 (2 ^ (Nat.min (Int.toNat x4) 64)) →
  ∀ x9 : Int, x9 = bits .and .i64 x8 1 →
  ((x9 = 0) → (
  ∀ x10 : Int, x10 = (((3 + (l0.length + 0)) / 3 : Nat) : Int) →
  (x10 ≤ 1073741824) ∧
  ∀ x11 : Int, x11 = IntKind.i64.wrap (x4 + 1) →
  Io4 [.l ((l0.map (·.1) ++ (([.int .i64 x5, .int .i64 x6, .int .i64 x7] : List Value)))), .i x11] ∧ mo4 [.l ((l0.map (·.1) ++ (([.int .i64 x5, .int .i64 x6, .int .i64 x7] : List Value)))), .i x11] < mo4 [.l ((l0.map (·.1) ++ (([] : List Value)))), .i x4])) ∧ (¬ (x9 = 0) → (
  ∀ x10 : Int, x10 = IntKind.i64.wrap (x4 + 1) →
  Io4 [.l ((l0.map (·.1) ++ (([] : List Value)))), .i x10] ∧ mo4 [.l ((l0.map (·.1) ++ (([] : List Value)))), .i x10] < mo4 [.l ((l0.map (·.1) ++ (([] : List Value)))), .i x4])))) ∧ (¬ (x4 < x0) → (
  ∃ (b1 : Bool), (∀ (β : Nat → Nat) (w' : World), Below w.heap.size w w' → (Vc.RowOk w.heap.size (β 4) (β 5) (β 6) (β 7) ((l0.map (·.1) ++ (([] : List Value)))) 3 76 w' ∧ True) → Calls Try.prog 27 #[Vc.ownV (β 4) (β 5) (β 6) (β 7)] w' (Vc.Ret (.bool b1) w')) ∧
  (.tuple #[.bool b1, .int .i64 0] : Value) = v))))) ∧ (¬ (x3 = 0) → (
  (.tuple #[.bool false, .int .i64 x3] : Value) = v))) : Calls Try.prog 9 #[(if b0 = true then .slice none 0 0 else .slice (some (Vc.qad p0 (Int.toNat x0) (Int.toNat x1))) (Int.toNat x0) (Int.toNat x1) : Value), .int .i64 x2] w (Vc.Ret v w) :=
  Vc.pure_of (base_inl [28] (by kernel_rfl)) [(1000000000003, .inv [] [5, 10] [11, 12, 13, 14, 7, 6, 15, 16, 17, 18, 19, 20, 21, 22, 23, 24, 25]), (900000005, .inv [] [76] [])] 200 Try.func9 (b := (Try.f9.body).getD .skip) (by kernel_rfl) [.cv (.one (.qsl 0 0 3 (.var 0) (.var 1))), .cv (.one (.int .i64 (.var 2)))] ⟨3, 1, 0, 1, 0, 0, 0⟩ (Vc.envOf [x0, x1, x2] [b0] [] [p0]) (by kernel_rfl) (by kernel_rfl) (by kernel_rfl) h

theorem vc_ullagelaw05_alive (w : World) (v : Value) (h : 
  ∃ (x0 : Int), ∃ (x1 : Int), (∀ w' : World, Below w.heap.size w w' → Calls Try.prog 68 #[.agg #[.int .i64 0, .int .u64 0], .int .i64 2147483648, .int .i64 4294967296, .bool false] w' (Vc.Ret (.agg #[.int .i64 x0, .int .u64 x1]) w')) ∧
  ∃ (x2 : Int), ∃ (x3 : Int), (∀ w' : World, Below w.heap.size w w' → Calls Try.prog 68 #[.agg #[.int .i64 x0, .int .u64 x1], .int .i64 0, .int .i64 0, .bool false] w' (Vc.Ret (.agg #[.int .i64 x2, .int .u64 x3]) w')) ∧
  ∃ (x4 : Int), ∃ (x5 : Int), (∀ w' : World, Below w.heap.size w w' → Calls Try.prog 68 #[.agg #[.int .i64 x2, .int .u64 x3], .int .i64 0, .int .i64 0, .bool false] w' (Vc.Ret (.agg #[.int .i64 x4, .int .u64 x5]) w')) ∧
  ∃ (x6 : Int), ∃ (x7 : Int), (∀ w' : World, Below w.heap.size w w' → Calls Try.prog 68 #[.agg #[.int .i64 x4, .int .u64 x5], .int .i64 (-2147483648), .int .i64 0, .bool true] w' (Vc.Ret (.agg #[.int .i64 x6, .int .u64 x7]) w')) ∧
  ∃ (x8 : Int), ∃ (x9 : Int), (∀ w' : World, Below w.heap.size w w' → Calls Try.prog 68 #[.agg #[.int .i64 x6, .int .u64 x7], .int .i64 0, .int .i64 0, .bool true] w' (Vc.Ret (.agg #[.int .i64 x8, .int .u64 x9]) w')) ∧
  ∃ (x10 : Int), ∃ (b0 : Bool), (∀ w' : World, Below w.heap.size w w' → Calls Try.prog 69 #[.agg #[.int .i64 x8, .int .u64 x9]] w' (Vc.Ret (.tuple #[.int .i64 x10, .bool b0]) w')) ∧
  ((b0 = true) → (
  ∃ (x11 : Int), ∃ (x12 : Int), (∀ w' : World, Below w.heap.size w w' → Calls Try.prog 68 #[.agg #[.int .i64 0, .int .u64 0], .int .i64 2147483648, .int .i64 4294967296, .bool false] w' (Vc.Ret (.agg #[.int .i64 x11, .int .u64 x12]) w')) ∧
  ∃ (x13 : Int), ∃ (x14 : Int), (∀ w' : World, Below w.heap.size w w' → Calls Try.prog 68 #[.agg #[.int .i64 x11, .int .u64 x12], .int .i64 0, .int .i64 4294967296, .bool false] w' (Vc.Ret (.agg #[.int .i64 x13, .int .u64 x14]) w')) ∧
  ∃ (x15 : Int), ∃ (x16 : Int), (∀ w' : World, Below w.heap.size w w' → Calls Try.prog 68 #[.agg #[.int .i64 x13, .int .u64 x14], .int .i64 0, .int .i64 0, .bool false] w' (Vc.Ret (.agg #[.int .i64 x15, .int .u64 x16]) w')) ∧
  ∃ (x17 : Int), ∃ (x18 : Int), (∀ w' : World, Below w.heap.size w w' → Calls Try.prog 68 #[.agg #[.int .i64 x15, .int .u64 x16], .int .i64 (-2147483648), .int .i64 x10, .bool true] w' (Vc.Ret (.agg #[.int .i64 x17, .int .u64 x18]) w')) ∧
  ∃ (x19 : Int), ∃ (x20 : Int), (∀ w' : World, Below w.heap.size w w' → Calls Try.prog 68 #[.agg #[.int .i64 x17, .int .u64 x18], .int .i64 0, .int .i64 0, .bool true] w' (Vc.Ret (.agg #[.int .i64 x19, .int .u64 x20]) w')) ∧
  ∃ (x21 : Int), ∃ (b1 : Bool), (∀ w' : World, Below w.heap.size w w' → Calls Try.prog 69 #[.agg #[.int .i64 x19, .int .u64 x20]] w' (Vc.Ret (.tuple #[.int .i64 x21, .bool b1]) w')) ∧
  ((b1 = true) → (
  ∃ (x22 : Int), ∃ (x23 : Int), (∀ w' : World, Below w.heap.size w w' → Calls Try.prog 68 #[.agg #[.int .i64 0, .int .u64 0], .int .i64 2147483648, .int .i64 4294967296, .bool false] w' (Vc.Ret (.agg #[.int .i64 x22, .int .u64 x23]) w')) ∧
  ∃ (x24 : Int), ∃ (x25 : Int), (∀ w' : World, Below w.heap.size w w' → Calls Try.prog 68 #[.agg #[.int .i64 x22, .int .u64 x23], .int .i64 0, .int .i64 4294967296, .bool false] w' (Vc.Ret (.agg #[.int .i64 x24, .int .u64 x25]) w')) ∧
  ∃ (x26 : Int), ∃ (x27 : Int), (∀ w' : World, Below w.heap.size w w' → Calls Try.prog 68 #[.agg #[.int .i64 x24, .int .u64 x25], .int .i64 0, .int .i64 4294967296, .bool false] w' (Vc.Ret (.agg #[.int .i64 x26, .int .u64 x27]) w')) ∧
  ∃ (x28 : Int), ∃ (x29 : Int), (∀ w' : World, Below w.heap.size w w' → Calls Try.prog 68 #[.agg #[.int .i64 x26, .int .u64 x27], .int .i64 (-2147483648), .int .i64 x21, .bool true] w' (Vc.Ret (.agg #[.int .i64 x28, .int .u64 x29]) w')) ∧
  ∃ (x30 : Int), ∃ (x31 : Int), (∀ w' : World, Below w.heap.size w w' → Calls Try.prog 68 #[.agg #[.int .i64 x28, .int .u64 x29], .int .i64 0, .int .i64 x10, .bool true] w' (Vc.Ret (.agg #[.int .i64 x30, .int .u64 x31]) w')) ∧
  ∃ (x32 : Int), ∃ (b2 : Bool), (∀ w' : World, Below w.heap.size w w' → Calls Try.prog 69 #[.agg #[.int .i64 x30, .int .u64 x31]] w' (Vc.Ret (.tuple #[.int .i64 x32, .bool b2]) w')) ∧
  ((b2 = true) → (
  ∃ (x33 : Int), ∃ (x34 : Int), (∀ (β : Nat → Nat) (w' : World), Below w.heap.size w w' → (Vc.RowOk w.heap.size (β 33) (β 34) (β 35) (β 36) (([.int .i64 4294967296, .int .i64 4294967296, .int .i64 12884901888, .int .i64 12884901888, .int .i64 8589934592, .int .i64 8589934592] : List Value)) 2 42 w' ∧ True) → Calls Try.prog 24 #[Vc.ownV (β 33) (β 34) (β 35) (β 36)] w' (Vc.Ret (.tuple #[.int .i64 x33, .int .i64 x34]) w')) ∧
  ∃ (x35 : Int), ∃ (x36 : Int), (∀ (β : Nat → Nat) (w' : World), Below w.heap.size w w' → (Vc.RowOk w.heap.size (β 52) (β 53) (β 54) (β 55) (([.int .i64 4294967296, .int .i64 4294967296, .int .i64 (-12884901888), .int .i64 (-12884901888), .int .i64 8589934592, .int .i64 8589934592] : List Value)) 2 42 w' ∧ True) → Calls Try.prog 24 #[Vc.ownV (β 52) (β 53) (β 54) (β 55)] w' (Vc.Ret (.tuple #[.int .i64 x35, .int .i64 x36]) w')) ∧
  ∃ (b3 : Bool), ∃ (x37 : Int), (∀ (β : Nat → Nat) (w' : World), Below w.heap.size w w' → ((w.heap.size ≤ β 56 ∧ w'.heap[β 56]? = some (.cells #[.int .i64 1, .int .i64 0, .int .i64 0, .int .i64 (-1), .int .i64 0, .int .i64 0, .int .i64 0, .int .i64 1, .int .i64 0, .int .i64 0, .int .i64 (-1), .int .i64 0, .int .i64 0, .int .i64 0, .int .i64 1, .int .i64 0, .int .i64 0, .int .i64 (-1)] 31)) ∧ True) → Calls Try.prog 9 #[.slice (some ⟨β 56, 0, none⟩) 6 6, .int .i64 0] w' (Vc.Ret (.tuple #[.bool b3, .int .i64 x37]) w')) ∧
  ((x10 = 2147483648) → (
  ((x32 = 3758096384) → (
  ((x34 = 0) → (
  ((x33 = 1) → (
  ((x36 = 0) → (
  ((x35 = (-1)) → (
  ((x37 = 0) → (
  (.bool b3 : Value) = v)) ∧ (¬ (x37 = 0) → (
  (.bool false : Value) = v)))) ∧ (¬ (x35 = (-1)) → (
  (.bool false : Value) = v)))) ∧ (¬ (x36 = 0) → (
  (.bool false : Value) = v)))) ∧ (¬ (x33 = 1) → (
  (.bool false : Value) = v)))) ∧ (¬ (x34 = 0) → (
  (.bool false : Value) = v)))) ∧ (¬ (x32 = 3758096384) → (
  (.bool false : Value) = v)))) ∧ (¬ (x10 = 2147483648) → (
  (.bool false : Value) = v)))) ∧ (¬ (b2 = true) → (
  ∃ (x33 : Int), ∃ (x34 : Int), (∀ (β : Nat → Nat) (w' : World), Below w.heap.size w w' → (Vc.RowOk w.heap.size (β 33) (β 34) (β 35) (β 36) (([.int .i64 4294967296, .int .i64 4294967296, .int .i64 12884901888, .int .i64 12884901888, .int .i64 8589934592, .int .i64 8589934592] : List Value)) 2 42 w' ∧ True) → Calls Try.prog 24 #[Vc.ownV (β 33) (β 34) (β 35) (β 36)] w' (Vc.Ret (.tuple #[.int .i64 x33, .int .i64 x34]) w')) ∧
  ∃ (x35 : Int), ∃ (x36 : Int), (∀ (β : Nat → Nat) (w' : World), Below w.heap.size w w' → (Vc.RowOk w.heap.size (β 52) (β 53) (β 54) (β 55) (([.int .i64 4294967296, .int .i64 4294967296, .int .i64 (-12884901888), .int .i64 (-12884901888), .int .i64 8589934592, .int .i64 8589934592] : List Value)) 2 42 w' ∧ True) → Calls Try.prog 24 #[Vc.ownV (β 52) (β 53) (β 54) (β 55)] w' (Vc.Ret (.tuple #[.int .i64 x35, .int .i64 x36]) w')) ∧
  ∃ (b3 : Bool), ∃ (x37 : Int), (∀ (β : Nat → Nat) (w' : World), Below w.heap.size w w' → ((w.heap.size ≤ β 56 ∧ w'.heap[β 56]? = some (.cells #[.int .i64 1, .int .i64 0, .int .i64 0, .int .i64 (-1), .int .i64 0, .int .i64 0, .int .i64 0, .int .i64 1, .int .i64 0, .int .i64 0, .int .i64 (-1), .int .i64 0, .int .i64 0, .int .i64 0, .int .i64 1, .int .i64 0, .int .i64 0, .int .i64 (-1)] 31)) ∧ True) → Calls Try.prog 9 #[.slice (some ⟨β 56, 0, none⟩) 6 6, .int .i64 0] w' (Vc.Ret (.tuple #[.bool b3, .int .i64 x37]) w')) ∧
  (.bool false : Value) = v)))) ∧ (¬ (b1 = true) → (
  ∃ (x22 : Int), ∃ (x23 : Int), (∀ (β : Nat → Nat) (w' : World), Below w.heap.size w w' → (Vc.RowOk w.heap.size (β 32) (β 33) (β 34) (β 35) (([.int .i64 4294967296, .int .i64 4294967296, .int .i64 12884901888, .int .i64 12884901888, .int .i64 8589934592, .int .i64 8589934592] : List Value)) 2 42 w' ∧ True) → Calls Try.prog 24 #[Vc.ownV (β 32) (β 33) (β 34) (β 35)] w' (Vc.Ret (.tuple #[.int .i64 x22, .int .i64 x23]) w')) ∧
  ∃ (x24 : Int), ∃ (x25 : Int), (∀ (β : Nat → Nat) (w' : World), Below w.heap.size w w' → (Vc.RowOk w.heap.size (β 51) (β 52) (β 53) (β 54) (([.int .i64 4294967296, .int .i64 4294967296, .int .i64 (-12884901888), .int .i64 (-12884901888), .int .i64 8589934592, .int .i64 8589934592] : List Value)) 2 42 w' ∧ True) → Calls Try.prog 24 #[Vc.ownV (β 51) (β 52) (β 53) (β 54)] w' (Vc.Ret (.tuple #[.int .i64 x24, .int .i64 x25]) w')) ∧
  ∃ (b2 : Bool), ∃ (x26 : Int), (∀ (β : Nat → Nat) (w' : World), Below w.heap.size w w' → ((w.heap.size ≤ β 55 ∧ w'.heap[β 55]? = some (.cells #[.int .i64 1, .int .i64 0, .int .i64 0, .int .i64 (-1), .int .i64 0, .int .i64 0, .int .i64 0, .int .i64 1, .int .i64 0, .int .i64 0, .int .i64 (-1), .int .i64 0, .int .i64 0, .int .i64 0, .int .i64 1, .int .i64 0, .int .i64 0, .int .i64 (-1)] 31)) ∧ True) → Calls Try.prog 9 #[.slice (some ⟨β 55, 0, none⟩) 6 6, .int .i64 0] w' (Vc.Ret (.tuple #[.bool b2, .int .i64 x26]) w')) ∧
  (.bool false : Value) = v)))) ∧ (¬ (b0 = true) → (
  ∃ (x11 : Int), ∃ (x12 : Int), (∀ (β : Nat → Nat) (w' : World), Below w.heap.size w w' → (Vc.RowOk w.heap.size (β 31) (β 32) (β 33) (β 34) (([.int .i64 4294967296, .int .i64 4294967296, .int .i64 12884901888, .int .i64 12884901888, .int .i64 8589934592, .int .i64 8589934592] : List Value)) 2 42 w' ∧ True) → Calls Try.prog 24 #[Vc.ownV (β 31) (β 32) (β 33) (β 34)] w' (Vc.Ret (.tuple #[.int .i64 x11, .int .i64 x12]) w')) ∧
  ∃ (x13 : Int), ∃ (x14 : Int), (∀ (β : Nat → Nat) (w' : World), Below w.heap.size w w' → (Vc.RowOk w.heap.size (β 50) (β 51) (β 52) (β 53) (([.int .i64 4294967296, .int .i64 4294967296, .int .i64 (-12884901888), .int .i64 (-12884901888), .int .i64 8589934592, .int .i64 8589934592] : List Value)) 2 42 w' ∧ True) → Calls Try.prog 24 #[Vc.ownV (β 50) (β 51) (β 52) (β 53)] w' (Vc.Ret (.tuple #[.int .i64 x13, .int .i64 x14]) w')) ∧
  ∃ (b1 : Bool), ∃ (x15 : Int), (∀ (β : Nat → Nat) (w' : World), Below w.heap.size w w' → ((w.heap.size ≤ β 54 ∧ w'.heap[β 54]? = some (.cells #[.int .i64 1, .int .i64 0, .int .i64 0, .int .i64 (-1), .int .i64 0, .int .i64 0, .int .i64 0, .int .i64 1, .int .i64 0, .int .i64 0, .int .i64 (-1), .int .i64 0, .int .i64 0, .int .i64 0, .int .i64 1, .int .i64 0, .int .i64 0, .int .i64 (-1)] 31)) ∧ True) → Calls Try.prog 9 #[.slice (some ⟨β 54, 0, none⟩) 6 6, .int .i64 0] w' (Vc.Ret (.tuple #[.bool b1, .int .i64 x15]) w')) ∧
  (.bool false : Value) = v))) : Calls Try.prog 8 #[] w (Vc.Ret v w) :=
  Vc.pure_of (base_inl [23, 50, 51, 67, 52, 43, 53, 25, 20] (by kernel_rfl)) [(1000000000010, .unroll), (1000000000017, .unroll), (1000000000020, .unroll), (1000000000004, .unroll), (1000000000007, .unroll), (1000000000002, .unroll), (1000000000003, .unroll)] 200 Try.func8 (b := (Try.f8.body).getD .skip) (by kernel_rfl) [] ⟨0, 0, 0, 0, 0, 0, 0⟩ (Vc.envOf [] [] [] []) (by kernel_rfl) (by kernel_rfl) (by kernel_rfl) h

end Go.Proofs.Ythmggmpgkmmfiaa
