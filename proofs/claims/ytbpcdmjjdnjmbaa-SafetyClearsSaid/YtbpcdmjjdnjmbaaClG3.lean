/- What the walks of functions come to (written by program). -/
import Derived.Test.YtbpcdmjjdnjmbaaClG1
set_option linter.unusedVariables false
set_option maxRecDepth 100000
namespace Go.Proofs.Ytbpcdmjjdnjmbaa
open Go Go.RowKit
theorem vc_safety_Contains (p0 : Nat × Nat) (x0 x1 x2 x3 : Int) (b0 : Bool) (s0 : List UInt8) (w : World) (v : Value) (h : 
  ∃ (b1 : Bool), (∀ w' : World, Below w.heap.size w w' → Calls Try.prog 21 #[.agg #[.string ⟨s0.toArray⟩, (if b0 = true then .slice none 0 0 else .slice (some (Vc.qad p0 (Int.toNat x0) (Int.toNat x1))) (Int.toNat x0) (Int.toNat x1) : Value)]] w' (Vc.Ret (.bool b1) w')) ∧
  ((b1 = true) → (
  ∃ (b2 : Bool), (∀ w' : World, Below w.heap.size w w' → Calls Try.prog 31 #[.int .i64 x2, .int .i64 (-536870912), .int .i64 536870912] w' (Vc.Ret (.bool b2) w')) ∧
  ((b2 = true) → (
  ∃ (b3 : Bool), (∀ w' : World, Below w.heap.size w w' → Calls Try.prog 31 #[.int .i64 x3, .int .i64 (-536870912), .int .i64 536870912] w' (Vc.Ret (.bool b3) w')) ∧
  ((b3 = true) → (
  ∃ (b4 : Bool), (∀ w' : World, Below w.heap.size w w' → Calls Try.prog 53 #[.agg #[.string ⟨s0.toArray⟩, (if b0 = true then .slice none 0 0 else .slice (some (Vc.qad p0 (Int.toNat x0) (Int.toNat x1))) (Int.toNat x0) (Int.toNat x1) : Value)], .agg #[.int .i64 x2, .int .i64 x3]] w' (Vc.Ret (.bool b4) w')) ∧
  (.bool b4 : Value) = v)) ∧ (¬ (b3 = true) → (
  (.bool false : Value) = v)))) ∧ (¬ (b2 = true) → (
  (.bool false : Value) = v)))) ∧ (¬ (b1 = true) → (
  (.bool false : Value) = v))) : Calls Try.prog 23 #[.agg #[.string ⟨s0.toArray⟩, (if b0 = true then .slice none 0 0 else .slice (some (Vc.qad p0 (Int.toNat x0) (Int.toNat x1))) (Int.toNat x0) (Int.toNat x1) : Value)], .agg #[.int .i64 x2, .int .i64 x3]] w (Vc.Ret v w) :=
  Vc.pure_of base [] 200 Try.func23 (b := (Try.f23.body).getD .skip) (by kernel_rfl) [.cv (.agg [.sv 0, .qsl 0 0 2 (.var 0) (.var 1)]), .cv (.agg [.int .i64 (.var 2), .int .i64 (.var 3)])] ⟨4, 1, 0, 1, 0, 1, 0⟩ (Vc.envOf [x0, x1, x2, x3] [b0] [] [p0] [s0]) (by kernel_rfl) (by kernel_rfl) (by kernel_rfl) h

theorem vc_ullagelaw09_SafetyClears (p0 p1 p2 p3 p4 : Nat × Nat) (x0 x1 x2 x3 x4 x5 x6 x7 x8 x9 x10 x11 x12 x13 x14 x15 : Int) (b0 b1 b2 b3 b4 : Bool) (s0 : List UInt8) (w : World) (v : Value) (h : 
  ∃ (b5 : Bool), (∀ w' : World, Below w.heap.size w w' → Calls Try.prog 38 #[.agg #[.string ⟨s0.toArray⟩, (if b0 = true then .slice none 0 0 else .slice (some (Vc.qad p0 (Int.toNat x0) (Int.toNat x1))) (Int.toNat x0) (Int.toNat x1) : Value), (if b1 = true then .slice none 0 0 else .slice (some (Vc.qad p1 (Int.toNat x2) (Int.toNat x3))) (Int.toNat x2) (Int.toNat x3) : Value), (if b2 = true then .slice none 0 0 else .slice (some (Vc.qad p2 (Int.toNat x4) (Int.toNat x5))) (Int.toNat x4) (Int.toNat x5) : Value), .int .i64 x6, .int .i64 x7, .int .i64 x8, .int .i64 x9]] w' (Vc.Ret (.bool b5) w')) ∧
  ((b5 = true) → (
  ((b0 = true) → (
  ∃ (b6 : Bool), ∃ (x16 : Int), (∀ w' : World, Below w.heap.size w w' → Calls Try.prog 25 #[.agg #[.string ⟨s0.toArray⟩, (if b0 = true then .slice none 0 0 else .slice (some (Vc.qad p0 (Int.toNat x0) (Int.toNat x1))) (Int.toNat x0) (Int.toNat x1) : Value), (if b1 = true then .slice none 0 0 else .slice (some (Vc.qad p1 (Int.toNat x2) (Int.toNat x3))) (Int.toNat x2) (Int.toNat x3) : Value), (if b2 = true then .slice none 0 0 else .slice (some (Vc.qad p2 (Int.toNat x4) (Int.toNat x5))) (Int.toNat x4) (Int.toNat x5) : Value), .int .i64 x6, .int .i64 x7, .int .i64 x8, .int .i64 x9]] w' (Vc.Ret (.tuple #[.bool b6, .int .i64 x16]) w')) ∧
  ∃ (b7 : Bool), (∀ w' : World, Below w.heap.size w w' → Calls Try.prog 17 #[.agg #[.string ⟨s0.toArray⟩, (if b0 = true then .slice none 0 0 else .slice (some (Vc.qad p0 (Int.toNat x0) (Int.toNat x1))) (Int.toNat x0) (Int.toNat x1) : Value), (if b1 = true then .slice none 0 0 else .slice (some (Vc.qad p1 (Int.toNat x2) (Int.toNat x3))) (Int.toNat x2) (Int.toNat x3) : Value), (if b2 = true then .slice none 0 0 else .slice (some (Vc.qad p2 (Int.toNat x4) (Int.toNat x5))) (Int.toNat x4) (Int.toNat x5) : Value), .int .i64 x6, .int .i64 x7, .int .i64 x8, .int .i64 x9]] w' (Vc.Ret (.bool b7) w')) ∧
  ((b7 = true) → (
  ∃ (b8 : Bool), (∀ w' : World, Below w.heap.size w w' → Calls Try.prog 11 #[] w' (Vc.Ret (.bool b8) w')) ∧
  (.bool b8 : Value) = v)) ∧ (¬ (b7 = true) → (
  (0 ≤ x14) ∧
  ((¬ (b4 = true)) ∨ (x14 = 0)) ∧
  ((50 < x14) → (
  ∃ (b8 : Bool), (∀ w' : World, Below w.heap.size w w' → Calls Try.prog 11 #[] w' (Vc.Ret (.bool b8) w')) ∧
  (.bool b8 : Value) = v)) ∧ (¬ (50 < x14) → (
  ((x16 = 0) → (
  ((b6 = true) → (
  ∃ (b8 : Bool), (∀ w' : World, Below w.heap.size w w' → Calls Try.prog 23 #[.agg #[.string ⟨s0.toArray⟩, (if b0 = true then .slice none 0 0 else .slice (some (Vc.qad p0 (Int.toNat x0) (Int.toNat x1))) (Int.toNat x0) (Int.toNat x1) : Value)], .agg #[.int .i64 x10, .int .i64 x11]] w' (Vc.Ret (.bool b8) w')) ∧
  ((b8 = true) → (
  ((268435456 < x10) → (
  ∃ (Ib9 : List Vc.Vl → Prop) (mb9 : List Vc.Vl → Nat), Ib9 [.b false, .i 0, .b false, .b false, .i 0, .i 0, .i 0, .i 0, .i 0] ∧ ∀ (b9 : Bool) (x17 : Int) (b10 : Bool) (b11 : Bool) (x18 : Int) (x19 : Int) (x20 : Int) (x21 : Int) (x22 : Int), Ib9 [.b b9, .i x17, .b b10, .b b11, .i x18, .i x19, .i x20, .i x21, .i x22] → (
  ((x17 < 0) → (
  False /- FAIL indexAddr: operand -/)) ∧ (¬ (x17 < 0) → (
  ∃ (b12 : Bool), (∀ w' : World, Below w.heap.size w w' → Calls Try.prog 11 #[] w' (Vc.Ret (.bool b12) w')) ∧
  (.bool b12 : Value) = v))))) ∧ (¬ (268435456 < x10) → (
  ((x10 < (-268435456)) → (
  ∃ (Ib9 : List Vc.Vl → Prop) (mb9 : List Vc.Vl → Nat), Ib9 [.b false, .i 0, .b false, .b false, .i 0, .i 0, .i 0, .i 0, .i 0] ∧ ∀ (b9 : Bool) (x17 : Int) (b10 : Bool) (b11 : Bool) (x18 : Int) (x19 : Int) (x20 : Int) (x21 : Int) (x22 : Int), Ib9 [.b b9, .i x17, .b b10, .b b11, .i x18, .i x19, .i x20, .i x21, .i x22] → (
  ((x17 < 0) → (
  False /- FAIL indexAddr: operand -/)) ∧ (¬ (x17 < 0) → (
  ∃ (b12 : Bool), (∀ w' : World, Below w.heap.size w w' → Calls Try.prog 11 #[] w' (Vc.Ret (.bool b12) w')) ∧
  (.bool b12 : Value) = v))))) ∧ (¬ (x10 < (-268435456)) → (
  ((268435456 < x11) → (
  ∃ (Ib9 : List Vc.Vl → Prop) (mb9 : List Vc.Vl → Nat), Ib9 [.b false, .i 0, .b false, .b false, .i 0, .i 0, .i 0, .i 0, .i 0] ∧ ∀ (b9 : Bool) (x17 : Int) (b10 : Bool) (b11 : Bool) (x18 : Int) (x19 : Int) (x20 : Int) (x21 : Int) (x22 : Int), Ib9 [.b b9, .i x17, .b b10, .b b11, .i x18, .i x19, .i x20, .i x21, .i x22] → (
  ((x17 < 0) → (
  False /- FAIL indexAddr: operand -/)) ∧ (¬ (x17 < 0) → (
  ∃ (b12 : Bool), (∀ w' : World, Below w.heap.size w w' → Calls Try.prog 11 #[] w' (Vc.Ret (.bool b12) w')) ∧
  (.bool b12 : Value) = v))))) ∧ (¬ (268435456 < x11) → (
  ((x11 < (-268435456)) → (
  ∃ (Ib9 : List Vc.Vl → Prop) (mb9 : List Vc.Vl → Nat), Ib9 [.b false, .i 0, .b false, .b false, .i 0, .i 0, .i 0, .i 0, .i 0] ∧ ∀ (b9 : Bool) (x17 : Int) (b10 : Bool) (b11 : Bool) (x18 : Int) (x19 : Int) (x20 : Int) (x21 : Int) (x22 : Int), Ib9 [.b b9, .i x17, .b b10, .b b11, .i x18, .i x19, .i x20, .i x21, .i x22] → (
  ((x17 < 0) → (
  False /- FAIL indexAddr: operand -/)) ∧ (¬ (x17 < 0) → (
  ∃ (b12 : Bool), (∀ w' : World, Below w.heap.size w w' → Calls Try.prog 11 #[] w' (Vc.Ret (.bool b12) w')) ∧
  (.bool b12 : Value) = v))))) ∧ (¬ (x11 < (-268435456)) → (
  (0 ≤ x12) ∧
  ((¬ (b3 = true)) ∨ (x12 = 0)) ∧
  ((100 < x12) → (
  ∃ (Ib9 : List Vc.Vl → Prop) (mb9 : List Vc.Vl → Nat), Ib9 [.b false, .i 0, .b false, .b false, .i 0, .i 0, .i 0, .i 0, .i 0] ∧ ∀ (b9 : Bool) (x17 : Int) (b10 : Bool) (b11 : Bool) (x18 : Int) (x19 : Int) (x20 : Int) (x21 : Int) (x22 : Int), Ib9 [.b b9, .i x17, .b b10, .b b11, .i x18, .i x19, .i x20, .i x21, .i x22] → (
  ((x17 < 0) → (
  False /- FAIL indexAddr: operand -/)) ∧ (¬ (x17 < 0) → (
  ∃ (b12 : Bool), (∀ w' : World, Below w.heap.size w w' → Calls Try.prog 11 #[] w' (Vc.Ret (.bool b12) w')) ∧
  (.bool b12 : Value) = v))))) ∧ (¬ (100 < x12) → (
  ((1048576 < x6) → (
  ∃ (Ib9 : List Vc.Vl → Prop) (mb9 : List Vc.Vl → Nat), Ib9 [.b false, .i 0, .b false, .b false, .i 0, .i 0, .i 0, .i 0, .i 0] ∧ ∀ (b9 : Bool) (x17 : Int) (b10 : Bool) (b11 : Bool) (x18 : Int) (x19 : Int) (x20 : Int) (x21 : Int) (x22 : Int), Ib9 [.b b9, .i x17, .b b10, .b b11, .i x18, .i x19, .i x20, .i x21, .i x22] → (
  ((x17 < 0) → (
  False /- FAIL indexAddr: operand -/)) ∧ (¬ (x17 < 0) → (
  ∃ (b12 : Bool), (∀ w' : World, Below w.heap.size w w' → Calls Try.prog 11 #[] w' (Vc.Ret (.bool b12) w')) ∧
  (.bool b12 : Value) = v))))) ∧ (¬ (1048576 < x6) → (
  ∃ (Io15 : List Vc.Vl → Prop) (mo15 : List Vc.Vl → Nat), Io15 [.l (([] : List Value)), .l (([] : List Value)), .i 0, .i x10, .i x11] ∧ ∀ (l0 : List Vc.OV) (l1 : List Vc.OV) (x17 : Int) (x18 : Int) (x19 : Int), Io15 [.l ((l0.map (·.1) ++ (([] : List Value)))), .l ((l1.map (·.1) ++ (([] : List Value)))), .i x17, .i x18, .i x19] → (
  (0 ≤ x12) ∧
  ((¬ (b3 = true)) ∨ (x12 = 0)) ∧
  ((x17 < x12) → (
  (¬ (b3 = true)) ∧
  (0 ≤ x17) ∧
  (x17 < x12) ∧
  ∃ (x20 : Int), w.cell? ⟨p3.1, p3.2 + (Int.toNat x17) * 7 + 0, none⟩ = some (.int .i64 x20) ∧
  ∃ (x21 : Int), w.cell? ⟨p3.1, p3.2 + (Int.toNat x17) * 7 + 1, none⟩ = some (.int .i64 x21) ∧
  ∃ (x22 : Int), w.cell? ⟨p3.1, p3.2 + (Int.toNat x17) * 7 + 2, none⟩ = some (.int .u16 x22) ∧
  ∃ (x23 : Int), w.cell? ⟨p3.1, p3.2 + (Int.toNat x17) * 7 + 3, none⟩ = some (.int .u16 x23) ∧
  ∃ (x24 : Int), w.cell? ⟨p3.1, p3.2 + (Int.toNat x17) * 7 + 4, none⟩ = some (.int .u16 x24) ∧
  ∃ (x25 : Int), w.cell? ⟨p3.1, p3.2 + (Int.toNat x17) * 7 + 5, none⟩ = some (.int .u16 x25) ∧
  ∃ (b9 : Bool), w.cell? ⟨p3.1, p3.2 + (Int.toNat x17) * 7 + 6, none⟩ = some (.bool b9) ∧
  ∀ x26 : Int, x26 = IntKind.i64.wrap (x6 + 1) →
  (x26 ≠ 0) ∧
  ∀ x27 : Int, x27 = Int.tmod x20 x26 →
  ∀ x28 : Int, x28 = IntKind.i64.wrap (x18 + x27) →
  ∀ x29 : Int, x29 = IntKind.i64.wrap (x6 + 1) →
  (x29 ≠ 0) ∧
  ∀ x30 : Int, x30 = Int.tmod x21 x29 →
  ∀ x31 : Int, x31 = IntKind.i64.wrap (x19 + x30) →
  ∀ x32 : Int, x32 = (((2 + (l0.length + 0)) / 2 : Nat) : Int) →
  (x32 ≤ 1073741824) ∧
  ∀ x33 : Int, x33 = IntKind.i64.wrap (x22) →
  ∀ x34 : Int, x34 = IntKind.i64.wrap (x28 - x33) →
  ∀ x35 : Int, x35 = IntKind.i64.wrap (x23) →
  ∀ x36 : Int, x36 = IntKind.i64.wrap (x31 - x35) →
  ∀ x37 : Int, x37 = IntKind.i64.wrap (x24) →
  ∀ x38 : Int, x38 = IntKind.i64.wrap (x28 + x37) →
  ∀ x39 : Int, x39 = IntKind.i64.wrap (x25) →
  ∀ x40 : Int, x40 = IntKind.i64.wrap (x31 + x39) →
  ∀ x41 : Int, x41 = (((4 + (l1.length + 0)) / 4 : Nat) : Int) →
  (x41 ≤ 1073741824) ∧
  ∀ x42 : Int, x42 = IntKind.i64.wrap (x17 + 1) →
  Io15 [.l ((l0.map (·.1) ++ (([.int .i64 x28, .int .i64 x31] : List Value)))), .l ((l1.map (·.1) ++ (([.int .i64 x34, .int .i64 x36, .int .i64 x38, .int .i64 x40] : List Value)))), .i x42, .i x28, .i x31] ∧ mo15 [.l ((l0.map (·.1) ++ (([.int .i64 x28, .int .i64 x31] : List Value)))), .l ((l1.map (·.1) ++ (([.int .i64 x34, .int .i64 x36, .int .i64 x38, .int .i64 x40] : List Value)))), .i x42, .i x28, .i x31] < mo15 [.l ((l0.map (·.1) ++ (([] : List Value)))), .l ((l1.map (·.1) ++ (([] : List Value)))), .i x17, .i x18, .i x19])) ∧ (¬ (x17 < x12) → (
  ∃ (Ib9 : List Vc.Vl → Prop) (mb9 : List Vc.Vl → Nat), Ib9 [.b false, .i 0, .b false, .b false, .i 0, .i 0, .i 0, .i 0, .i 0] ∧ ∀ (b9 : Bool) (x20 : Int) (b10 : Bool) (b11 : Bool) (x21 : Int) (x22 : Int) (x23 : Int) (x24 : Int) (x25 : Int), Ib9 [.b b9, .i x20, .b b10, .b b11, .i x21, .i x22, .i x23, .i x24, .i x25] → (
  ∀ x26 : Int, x26 = (((0 + (l0.length + 0)) / 2 : Nat) : Int) →
  ((x20 < x26) → (
  ∀ x27 : Int, x27 = (((0 + (l1.length + 0)) / 4 : Nat) : Int) →
  (0 ≤ x20) ∧
  (x20 < x27) ∧
  ∃ (x28 : Int), ((l1.map (·.1) ++ (([] : List Value))))[(Int.toNat x20) * 4 + 0]? = some (.int .i64 x28) ∧
  ∃ (x29 : Int), ((l1.map (·.1) ++ (([] : List Value))))[(Int.toNat x20) * 4 + 1]? = some (.int .i64 x29) ∧
  ∃ (x30 : Int), ((l1.map (·.1) ++ (([] : List Value))))[(Int.toNat x20) * 4 + 2]? = some (.int .i64 x30) ∧
  ∃ (x31 : Int), ((l1.map (·.1) ++ (([] : List Value))))[(Int.toNat x20) * 4 + 3]? = some (.int .i64 x31) ∧
  ((x20 = 0) → (
  ∃ (b12 : Bool), ∃ (x32 : Int), ∃ (b13 : Bool), ∃ (x33 : Int), ∃ (x34 : Int), ∃ (x35 : Int), ∃ (x36 : Int), ∃ (x37 : Int), ∃ (b14 : Bool), ∃ (b15 : Bool), ∃ (x38 : Int), ∃ (x39 : Int), ∃ (x40 : Int), ∃ (x41 : Int), ∃ (x42 : Int), (∀ (β : Nat → Nat) (w' : World), Below w.heap.size w w' → ((w.heap.size ≤ β 3 ∧ w'.heap[β 3]? = some (.cells #[.string ⟨s0.toArray⟩, .slice none 0 0, .int .i64 x6, .int .i64 x7, .bool true, .bool b10, .bool b11, .int .i64 x21, .int .i64 x22, .int .i64 x23, .int .i64 x24, .int .i64 x25] 112)) ∧ True) → Calls Try.prog 19 #[Vc.ptr (β 3) 0, .agg #[.int .i64 x28, .int .i64 x29, .int .i64 x30, .int .i64 x31], .bool true] w' (Vc.Eff (.tuple #[.agg #[.bool b12, .int .i64 x32, .bool b13, .int .i64 x33, .int .i64 x34, .int .i64 x35, .int .i64 x36], .int .i64 x37]) (β 3) #[.string ⟨s0.toArray⟩, .slice none 0 0, .int .i64 x6, .int .i64 x7, .bool true, .bool b14, .bool b15, .int .i64 x38, .int .i64 x39, .int .i64 x40, .int .i64 x41, .int .i64 x42] 112 w')) ∧
  ((x37 = 0) → (
  ((b12 = true) → (
  ∃ (Ib16 : List Vc.Vl → Prop) (mb16 : List Vc.Vl → Nat), Ib16 [.b b9, .i 0] ∧ ∀ (b16 : Bool) (x43 : Int), Ib16 [.b b16, .i x43] → (
  (0 ≤ x14) ∧
  ((¬ (b4 = true)) ∨ (x14 = 0)) ∧
  ((x43 < x14) → (
  ∀ x44 : Int, x44 = (((0 + (l0.length + 0)) / 2 : Nat) : Int) →
  (0 ≤ x20) ∧
  (x20 < x44) ∧
  ∃ (x45 : Int), ((l0.map (·.1) ++ (([] : List Value))))[(Int.toNat x20) * 2 + 0]? = some (.int .i64 x45) ∧
  (¬ (b4 = true)) ∧
  (0 ≤ x43) ∧
  (x43 < x14) ∧
  ∃ (x46 : Int), w.cell? ⟨p4.1, p4.2 + (Int.toNat x43) * 2 + 0, none⟩ = some (.int .i64 x46) ∧
  ∀ x47 : Int, x47 = IntKind.i64.wrap (x8 + 1) →
  (x47 ≠ 0) ∧
  ∀ x48 : Int, x48 = Int.tmod x46 x47 →
  ∀ x49 : Int, x49 = IntKind.i64.wrap (x45 + x48) →
  ∀ x50 : Int, x50 = (((0 + (l0.length + 0)) / 2 : Nat) : Int) →
  (0 ≤ x20) ∧
  (x20 < x50) ∧
  ∃ (x51 : Int), ((l0.map (·.1) ++ (([] : List Value))))[(Int.toNat x20) * 2 + 1]? = some (.int .i64 x51) ∧
  (¬ (b4 = true)) ∧
  (0 ≤ x43) ∧
  (x43 < x14) ∧
  ∃ (x52 : Int), w.cell? ⟨p4.1, p4.2 + (Int.toNat x43) * 2 + 1, none⟩ = some (.int .i64 x52) ∧
  ∀ x53 : Int, x53 = IntKind.i64.wrap (x8 + 1) →
  (x53 ≠ 0) ∧
  ∀ x54 : Int, x54 = Int.tmod x52 x53 →
  ∀ x55 : Int, x55 = IntKind.i64.wrap (x51 + x54) →
  ∃ (Ib17 : List Vc.Vl → Prop) (mb17 : List Vc.Vl → Nat), Ib17 [.b b16, .i 0] ∧ ∀ (b17 : Bool) (x56 : Int), Ib17 [.b b17, .i x56] → (
  (0 ≤ x2) ∧
  ((¬ (b1 = true)) ∨ (x2 = 0)) ∧
  ((x56 < x2) → (
  (¬ (b1 = true)) ∧
  (0 ≤ x56) ∧
  (x56 < x2) ∧
  ∃ (s1 : List UInt8), w.cell? ⟨p1.1, p1.2 + (Int.toNat x56) * 2 + 0, none⟩ = some (.string ⟨s1.toArray⟩) ∧
  ∃ (b18 : Bool) (p5 : Nat × Nat) (x57 x58 : Int), w.cell? ⟨p1.1, p1.2 + (Int.toNat x56) * 2 + 1, none⟩ = some ((if b18 = true then .slice none 0 0 else .slice (some (Vc.qad p5 (Int.toNat x57) (Int.toNat x58))) (Int.toNat x57) (Int.toNat x58) : Value)) ∧
  ∃ (b19 : Bool), (∀ w' : World, Below w.heap.size w w' → Calls Try.prog 23 #[.agg #[.string ⟨s1.toArray⟩, (if b18 = true then .slice none 0 0 else .slice (some (Vc.qad p5 (Int.toNat x57) (Int.toNat x58))) (Int.toNat x57) (Int.toNat x58) : Value)], .agg #[.int .i64 x49, .int .i64 x55]] w' (Vc.Ret (.bool b19) w')) ∧
  ((b19 = true) → (
  (.bool false : Value) = v)) ∧ (¬ (b19 = true) → (
  ∀ x59 : Int, x59 = IntKind.i64.wrap (x56 + 1) →
  Ib17 [.b b17, .i x59] ∧ mb17 [.b b17, .i x59] < mb17 [.b b17, .i x56])))) ∧ (¬ (x56 < x2) → (
  ∀ x57 : Int, x57 = IntKind.i64.wrap (x43 + 1) →
  Ib16 [.b b17, .i x57] ∧ mb16 [.b b17, .i x57] < mb16 [.b b16, .i x43]))))) ∧ (¬ (x43 < x14) → (
  ∃ (b17 : Bool), (∀ w' : World, Below w.heap.size w w' → Calls Try.prog 11 #[] w' (Vc.Ret (.bool b17) w')) ∧
  (.bool b17 : Value) = v))))) ∧ (¬ (b12 = true) → (
  ∀ x43 : Int, x43 = IntKind.i64.wrap (x20 + 1) →
  Ib9 [.b b9, .i x43, .b b14, .b b15, .i x38, .i x39, .i x40, .i x41, .i x42] ∧ mb9 [.b b9, .i x43, .b b14, .b b15, .i x38, .i x39, .i x40, .i x41, .i x42] < mb9 [.b b9, .i x20, .b b10, .b b11, .i x21, .i x22, .i x23, .i x24, .i x25])))) ∧ (¬ (x37 = 0) → (
  (.bool false : Value) = v)))) ∧ (¬ (x20 = 0) → (
  (¬ (b3 = true)) ∧
  (0 ≤ x20) ∧
  (x20 < x12) ∧
  ∃ (b12 : Bool), w.cell? ⟨p3.1, p3.2 + (Int.toNat x20) * 7 + 6, none⟩ = some (.bool b12) ∧
  ∃ (b13 : Bool), ∃ (x32 : Int), ∃ (b14 : Bool), ∃ (x33 : Int), ∃ (x34 : Int), ∃ (x35 : Int), ∃ (x36 : Int), ∃ (x37 : Int), ∃ (b15 : Bool), ∃ (b16 : Bool), ∃ (x38 : Int), ∃ (x39 : Int), ∃ (x40 : Int), ∃ (x41 : Int), ∃ (x42 : Int), (∀ (β : Nat → Nat) (w' : World), Below w.heap.size w w' → ((w.heap.size ≤ β 3 ∧ w'.heap[β 3]? = some (.cells #[.string ⟨s0.toArray⟩, .slice none 0 0, .int .i64 x6, .int .i64 x7, .bool true, .bool b10, .bool b11, .int .i64 x21, .int .i64 x22, .int .i64 x23, .int .i64 x24, .int .i64 x25] 112)) ∧ True) → Calls Try.prog 19 #[Vc.ptr (β 3) 0, .agg #[.int .i64 x28, .int .i64 x29, .int .i64 x30, .int .i64 x31], .bool b12] w' (Vc.Eff (.tuple #[.agg #[.bool b13, .int .i64 x32, .bool b14, .int .i64 x33, .int .i64 x34, .int .i64 x35, .int .i64 x36], .int .i64 x37]) (β 3) #[.string ⟨s0.toArray⟩, .slice none 0 0, .int .i64 x6, .int .i64 x7, .bool true, .bool b15, .bool b16, .int .i64 x38, .int .i64 x39, .int .i64 x40, .int .i64 x41, .int .i64 x42] 112 w')) ∧
  ((x37 = 0) → (
  ((b13 = true) → (
  ∃ (Ib17 : List Vc.Vl → Prop) (mb17 : List Vc.Vl → Nat), Ib17 [.b b9, .i 0] ∧ ∀ (b17 : Bool) (x43 : Int), Ib17 [.b b17, .i x43] → (
  (0 ≤ x14) ∧
  ((¬ (b4 = true)) ∨ (x14 = 0)) ∧
  ((x43 < x14) → (
  ∀ x44 : Int, x44 = (((0 + (l0.length + 0)) / 2 : Nat) : Int) →
  (0 ≤ x20) ∧
  (x20 < x44) ∧
  ∃ (x45 : Int), ((l0.map (·.1) ++ (([] : List Value))))[(Int.toNat x20) * 2 + 0]? = some (.int .i64 x45) ∧
  (¬ (b4 = true)) ∧
  (0 ≤ x43) ∧
  (x43 < x14) ∧
  ∃ (x46 : Int), w.cell? ⟨p4.1, p4.2 + (Int.toNat x43) * 2 + 0, none⟩ = some (.int .i64 x46) ∧
  ∀ x47 : Int, x47 = IntKind.i64.wrap (x8 + 1) →
  (x47 ≠ 0) ∧
  ∀ x48 : Int, x48 = Int.tmod x46 x47 →
  ∀ x49 : Int, x49 = IntKind.i64.wrap (x45 + x48) →
  ∀ x50 : Int, x50 = (((0 + (l0.length + 0)) / 2 : Nat) : Int) →
  (0 ≤ x20) ∧
  (x20 < x50) ∧
  ∃ (x51 : Int), ((l0.map (·.1) ++ (([] : List Value))))[(Int.toNat x20) * 2 + 1]? = some (.int .i64 x51) ∧
  (¬ (b4 = true)) ∧
  (0 ≤ x43) ∧
  (x43 < x14) ∧
  ∃ (x52 : Int), w.cell? ⟨p4.1, p4.2 + (Int.toNat x43) * 2 + 1, none⟩ = some (.int .i64 x52) ∧
  ∀ x53 : Int, x53 = IntKind.i64.wrap (x8 + 1) →
  (x53 ≠ 0) ∧
  ∀ x54 : Int, x54 = Int.tmod x52 x53 →
  ∀ x55 : Int, x55 = IntKind.i64.wrap (x51 + x54) →
  ∃ (Ib18 : List Vc.Vl → Prop) (mb18 : List Vc.Vl → Nat), Ib18 [.b b17, .i 0] ∧ ∀ (b18 : Bool) (x56 : Int), Ib18 [.b b18, .i x56] → (
  (0 ≤ x2) ∧
  ((¬ (b1 = true)) ∨ (x2 = 0)) ∧
  ((x56 < x2) → (
  (¬ (b1 = true)) ∧
  (0 ≤ x56) ∧
  (x56 < x2) ∧
  ∃ (s1 : List UInt8), w.cell? ⟨p1.1, p1.2 + (Int.toNat x56) * 2 + 0, none⟩ = some (.string ⟨s1.toArray⟩) ∧
  ∃ (b19 : Bool) (p5 : Nat × Nat) (x57 x58 : Int), w.cell? ⟨p1.1, p1.2 + (Int.toNat x56) * 2 + 1, none⟩ = some ((if b19 = true then .slice none 0 0 else .slice (some (Vc.qad p5 (Int.toNat x57) (Int.toNat x58))) (Int.toNat x57) (Int.toNat x58) : Value)) ∧
  ∃ (b20 : Bool), (∀ w' : World, Below w.heap.size w w' → Calls Try.prog 23 #[.agg #[.string ⟨s1.toArray⟩, (if b19 = true then .slice none 0 0 else .slice (some (Vc.qad p5 (Int.toNat x57) (Int.toNat x58))) (Int.toNat x57) (Int.toNat x58) : Value)], .agg #[.int .i64 x49, .int .i64 x55]] w' (Vc.Ret (.bool b20) w')) ∧
  ((b20 = true) → (
  (.bool false : Value) = v)) ∧ (¬ (b20 = true) → (
  ∀ x59 : Int, x59 = IntKind.i64.wrap (x56 + 1) →
  Ib18 [.b b18, .i x59] ∧ mb18 [.b b18, .i x59] < mb18 [.b b18, .i x56])))) ∧ (¬ (x56 < x2) → (
  ∀ x57 : Int, x57 = IntKind.i64.wrap (x43 + 1) →
  Ib17 [.b b18, .i x57] ∧ mb17 [.b b18, .i x57] < mb17 [.b b17, .i x43]))))) ∧ (¬ (x43 < x14) → (
  ∃ (b18 : Bool), (∀ w' : World, Below w.heap.size w w' → Calls Try.prog 11 #[] w' (Vc.Ret (.bool b18) w')) ∧
  (.bool b18 : Value) = v))))) ∧ (¬ (b13 = true) → (
  ∀ x43 : Int, x43 = IntKind.i64.wrap (x20 + 1) →
  Ib9 [.b b9, .i x43, .b b15, .b b16, .i x38, .i x39, .i x40, .i x41, .i x42] ∧ mb9 [.b b9, .i x43, .b b15, .b b16, .i x38, .i x39, .i x40, .i x41, .i x42] < mb9 [.b b9, .i x20, .b b10, .b b11, .i x21, .i x22, .i x23, .i x24, .i x25])))) ∧ (¬ (x37 = 0) → (
  (.bool false : Value) = v)))))) ∧ (¬ (x20 < x26) → (
  ∃ (b12 : Bool), (∀ w' : World, Below w.heap.size w w' → Calls Try.prog 11 #[] w' (Vc.Ret (.bool b12) w')) ∧
  (.bool b12 : Value) = v)))))))))))))))))))) ∧ (¬ (b8 = true) → (
  ∃ (b9 : Bool), (∀ w' : World, Below w.heap.size w w' → Calls Try.prog 11 #[] w' (Vc.Ret (.bool b9) w')) ∧
  (.bool b9 : Value) = v)))) ∧ (¬ (b6 = true) → (
  ∃ (b8 : Bool), (∀ w' : World, Below w.heap.size w w' → Calls Try.prog 11 #[] w' (Vc.Ret (.bool b8) w')) ∧
  (.bool b8 : Value) = v)))) ∧ (¬ (x16 = 0) → (
  ∃ (b8 : Bool), (∀ w' : World, Below w.heap.size w w' → Calls Try.prog 11 #[] w' (Vc.Ret (.bool b8) w')) ∧
  (.bool b8 : Value) = v)))))))) ∧ (¬ (b0 = true) → (
  ∃ l0 : List Vc.OV, Vc.SlAt w ((if b0 = true then .slice none 0 0 else .slice (some (Vc.qad p0 (Int.toNat x0) (Int.toNat x1))) (Int.toNat x0) (Int.toNat x1) : Value)) 2 (l0.map (·.1)) ∧
  ∀ x16 : Int, x16 = (((0 + (l0.length + 0)) / 2 : Nat) : Int) →
  (x16 ≤ 1073741824) ∧
  ∃ (b6 : Bool), ∃ (x17 : Int), (∀ w' : World, Below w.heap.size w w' → Calls Try.prog 25 #[.agg #[.string ⟨s0.toArray⟩, (if b0 = true then .slice none 0 0 else .slice (some (Vc.qad p0 (Int.toNat x0) (Int.toNat x1))) (Int.toNat x0) (Int.toNat x1) : Value), (if b1 = true then .slice none 0 0 else .slice (some (Vc.qad p1 (Int.toNat x2) (Int.toNat x3))) (Int.toNat x2) (Int.toNat x3) : Value), (if b2 = true then .slice none 0 0 else .slice (some (Vc.qad p2 (Int.toNat x4) (Int.toNat x5))) (Int.toNat x4) (Int.toNat x5) : Value), .int .i64 x6, .int .i64 x7, .int .i64 x8, .int .i64 x9]] w' (Vc.Ret (.tuple #[.bool b6, .int .i64 x17]) w')) ∧
  ∃ (b7 : Bool), (∀ w' : World, Below w.heap.size w w' → Calls Try.prog 17 #[.agg #[.string ⟨s0.toArray⟩, (if b0 = true then .slice none 0 0 else .slice (some (Vc.qad p0 (Int.toNat x0) (Int.toNat x1))) (Int.toNat x0) (Int.toNat x1) : Value), (if b1 = true then .slice none 0 0 else .slice (some (Vc.qad p1 (Int.toNat x2) (Int.toNat x3))) (Int.toNat x2) (Int.toNat x3) : Value), (if b2 = true then .slice none 0 0 else .slice (some (Vc.qad p2 (Int.toNat x4) (Int.toNat x5))) (Int.toNat x4) (Int.toNat x5) : Value), .int .i64 x6, .int .i64 x7, .int .i64 x8, .int .i64 x9]] w' (Vc.Ret (.bool b7) w')) ∧
  ((b7 = true) → (
  ∃ (b8 : Bool), (∀ w' : World, Below w.heap.size w w' → Calls Try.prog 11 #[] w' (Vc.Ret (.bool b8) w')) ∧
  (.bool b8 : Value) = v)) ∧ (¬ (b7 = true) → (
  (0 ≤ x14) ∧
  ((¬ (b4 = true)) ∨ (x14 = 0)) ∧
  ((50 < x14) → (
  ∃ (b8 : Bool), (∀ w' : World, Below w.heap.size w w' → Calls Try.prog 11 #[] w' (Vc.Ret (.bool b8) w')) ∧
  (.bool b8 : Value) = v)) ∧ (¬ (50 < x14) → (
  ((x17 = 0) → (
  ((b6 = true) → (
  ∃ (b8 : Bool), (∀ w' : World, Below w.heap.size w w' → Calls Try.prog 23 #[.agg #[.string ⟨s0.toArray⟩, (if b0 = true then .slice none 0 0 else .slice (some (Vc.qad p0 (Int.toNat x0) (Int.toNat x1))) (Int.toNat x0) (Int.toNat x1) : Value)], .agg #[.int .i64 x10, .int .i64 x11]] w' (Vc.Ret (.bool b8) w')) ∧
  ((b8 = true) → (
  ((268435456 < x10) → (
  ∃ (Ib9 : List Vc.Vl → Prop) (mb9 : List Vc.Vl → Nat), Ib9 [.b false, .i 0, .b false, .b false, .i 0, .i 0, .i 0, .i 0, .i 0] ∧ ∀ (b9 : Bool) (x18 : Int) (b10 : Bool) (b11 : Bool) (x19 : Int) (x20 : Int) (x21 : Int) (x22 : Int) (x23 : Int), Ib9 [.b b9, .i x18, .b b10, .b b11, .i x19, .i x20, .i x21, .i x22, .i x23] → (
  ((x18 < 0) → (
  False /- FAIL indexAddr: operand -/)) ∧ (¬ (x18 < 0) → (
  ∃ (b12 : Bool), (∀ w' : World, Below w.heap.size w w' → Calls Try.prog 11 #[] w' (Vc.Ret (.bool b12) w')) ∧
  (.bool b12 : Value) = v))))) ∧ (¬ (268435456 < x10) → (
  ((x10 < (-268435456)) → (
  ∃ (Ib9 : List Vc.Vl → Prop) (mb9 : List Vc.Vl → Nat), Ib9 [.b false, .i 0, .b false, .b false, .i 0, .i 0, .i 0, .i 0, .i 0] ∧ ∀ (b9 : Bool) (x18 : Int) (b10 : Bool) (b11 : Bool) (x19 : Int) (x20 : Int) (x21 : Int) (x22 : Int) (x23 : Int), Ib9 [.b b9, .i x18, .b b10, .b b11, .i x19, .i x20, .i x21, .i x22, .i x23] → (
  ((x18 < 0) → (
  False /- FAIL indexAddr: operand -/)) ∧ (¬ (x18 < 0) → (
  ∃ (b12 : Bool), (∀ w' : World, Below w.heap.size w w' → Calls Try.prog 11 #[] w' (Vc.Ret (.bool b12) w')) ∧
  (.bool b12 : Value) = v))))) ∧ (¬ (x10 < (-268435456)) → (
  ((268435456 < x11) → (
  ∃ (Ib9 : List Vc.Vl → Prop) (mb9 : List Vc.Vl → Nat), Ib9 [.b false, .i 0, .b false, .b false, .i 0, .i 0, .i 0, .i 0, .i 0] ∧ ∀ (b9 : Bool) (x18 : Int) (b10 : Bool) (b11 : Bool) (x19 : Int) (x20 : Int) (x21 : Int) (x22 : Int) (x23 : Int), Ib9 [.b b9, .i x18, .b b10, .b b11, .i x19, .i x20, .i x21, .i x22, .i x23] → (
  ((x18 < 0) → (
  False /- FAIL indexAddr: operand -/)) ∧ (¬ (x18 < 0) → (
  ∃ (b12 : Bool), (∀ w' : World, Below w.heap.size w w' → Calls Try.prog 11 #[] w' (Vc.Ret (.bool b12) w')) ∧
  (.bool b12 : Value) = v))))) ∧ (¬ (268435456 < x11) → (
  ((x11 < (-268435456)) → (
  ∃ (Ib9 : List Vc.Vl → Prop) (mb9 : List Vc.Vl → Nat), Ib9 [.b false, .i 0, .b false, .b false, .i 0, .i 0, .i 0, .i 0, .i 0] ∧ ∀ (b9 : Bool) (x18 : Int) (b10 : Bool) (b11 : Bool) (x19 : Int) (x20 : Int) (x21 : Int) (x22 : Int) (x23 : Int), Ib9 [.b b9, .i x18, .b b10, .b b11, .i x19, .i x20, .i x21, .i x22, .i x23] → (
  ((x18 < 0) → (
  False /- FAIL indexAddr: operand -/)) ∧ (¬ (x18 < 0) → (
  ∃ (b12 : Bool), (∀ w' : World, Below w.heap.size w w' → Calls Try.prog 11 #[] w' (Vc.Ret (.bool b12) w')) ∧
  (.bool b12 : Value) = v))))) ∧ (¬ (x11 < (-268435456)) → (
  (0 ≤ x12) ∧
  ((¬ (b3 = true)) ∨ (x12 = 0)) ∧
  ((100 < x12) → (
  ∃ (Ib9 : List Vc.Vl → Prop) (mb9 : List Vc.Vl → Nat), Ib9 [.b false, .i 0, .b false, .b false, .i 0, .i 0, .i 0, .i 0, .i 0] ∧ ∀ (b9 : Bool) (x18 : Int) (b10 : Bool) (b11 : Bool) (x19 : Int) (x20 : Int) (x21 : Int) (x22 : Int) (x23 : Int), Ib9 [.b b9, .i x18, .b b10, .b b11, .i x19, .i x20, .i x21, .i x22, .i x23] → (
  ((x18 < 0) → (
  False /- FAIL indexAddr: operand -/)) ∧ (¬ (x18 < 0) → (
  ∃ (b12 : Bool), (∀ w' : World, Below w.heap.size w w' → Calls Try.prog 11 #[] w' (Vc.Ret (.bool b12) w')) ∧
  (.bool b12 : Value) = v))))) ∧ (¬ (100 < x12) → (
  ((1048576 < x6) → (
  ∃ (Ib9 : List Vc.Vl → Prop) (mb9 : List Vc.Vl → Nat), Ib9 [.b false, .i 0, .b false, .b false, .i 0, .i 0, .i 0, .i 0, .i 0] ∧ ∀ (b9 : Bool) (x18 : Int) (b10 : Bool) (b11 : Bool) (x19 : Int) (x20 : Int) (x21 : Int) (x22 : Int) (x23 : Int), Ib9 [.b b9, .i x18, .b b10, .b b11, .i x19, .i x20, .i x21, .i x22, .i x23] → (
  ((x18 < 0) → (
  False /- FAIL indexAddr: operand -/)) ∧ (¬ (x18 < 0) → (
  ∃ (b12 : Bool), (∀ w' : World, Below w.heap.size w w' → Calls Try.prog 11 #[] w' (Vc.Ret (.bool b12) w')) ∧
  (.bool b12 : Value) = v))))) ∧ (¬ (1048576 < x6) → (
  ∃ (Io23 : List Vc.Vl → Prop) (mo23 : List Vc.Vl → Nat), Io23 [.l (([] : List Value)), .l (([] : List Value)), .i 0, .i x10, .i x11] ∧ ∀ (l1 : List Vc.OV) (l2 : List Vc.OV) (x18 : Int) (x19 : Int) (x20 : Int), Io23 [.l ((l1.map (·.1) ++ (([] : List Value)))), .l ((l2.map (·.1) ++ (([] : List Value)))), .i x18, .i x19, .i x20] → (
  (0 ≤ x12) ∧
  ((¬ (b3 = true)) ∨ (x12 = 0)) ∧
  ((x18 < x12) → (
  (¬ (b3 = true)) ∧
  (0 ≤ x18) ∧
  (x18 < x12) ∧
  ∃ (x21 : Int), w.cell? ⟨p3.1, p3.2 + (Int.toNat x18) * 7 + 0, none⟩ = some (.int .i64 x21) ∧
  ∃ (x22 : Int), w.cell? ⟨p3.1, p3.2 + (Int.toNat x18) * 7 + 1, none⟩ = some (.int .i64 x22) ∧
  ∃ (x23 : Int), w.cell? ⟨p3.1, p3.2 + (Int.toNat x18) * 7 + 2, none⟩ = some (.int .u16 x23) ∧
  ∃ (x24 : Int), w.cell? ⟨p3.1, p3.2 + (Int.toNat x18) * 7 + 3, none⟩ = some (.int .u16 x24) ∧
  ∃ (x25 : Int), w.cell? ⟨p3.1, p3.2 + (Int.toNat x18) * 7 + 4, none⟩ = some (.int .u16 x25) ∧
  ∃ (x26 : Int), w.cell? ⟨p3.1, p3.2 + (Int.toNat x18) * 7 + 5, none⟩ = some (.int .u16 x26) ∧
  ∃ (b9 : Bool), w.cell? ⟨p3.1, p3.2 + (Int.toNat x18) * 7 + 6, none⟩ = some (.bool b9) ∧
  ∀ x27 : Int, x27 = IntKind.i64.wrap (x6 + 1) →
  (x27 ≠ 0) ∧
  ∀ x28 : Int, x28 = Int.tmod x21 x27 →
  ∀ x29 : Int, x29 = IntKind.i64.wrap (x19 + x28) →
  ∀ x30 : Int, x30 = IntKind.i64.wrap (x6 + 1) →
  (x30 ≠ 0) ∧
  ∀ x31 : Int, x31 = Int.tmod x22 x30 →
  ∀ x32 : Int, x32 = IntKind.i64.wrap (x20 + x31) →
  ∀ x33 : Int, x33 = (((2 + (l1.length + 0)) / 2 : Nat) : Int) →
  (x33 ≤ 1073741824) ∧
  ∀ x34 : Int, x34 = IntKind.i64.wrap (x23) →
  ∀ x35 : Int, x35 = IntKind.i64.wrap (x29 - x34) →
  ∀ x36 : Int, x36 = IntKind.i64.wrap (x24) →
  ∀ x37 : Int, x37 = IntKind.i64.wrap (x32 - x36) →
  ∀ x38 : Int, x38 = IntKind.i64.wrap (x25) →
  ∀ x39 : Int, x39 = IntKind.i64.wrap (x29 + x38) →
  ∀ x40 : Int, x40 = IntKind.i64.wrap (x26) →
  ∀ x41 : Int, x41 = IntKind.i64.wrap (x32 + x40) →
  ∀ x42 : Int, x42 = (((4 + (l2.length + 0)) / 4 : Nat) : Int) →
  (x42 ≤ 1073741824) ∧
  ∀ x43 : Int, x43 = IntKind.i64.wrap (x18 + 1) →
  Io23 [.l ((l1.map (·.1) ++ (([.int .i64 x29, .int .i64 x32] : List Value)))), .l ((l2.map (·.1) ++ (([.int .i64 x35, .int .i64 x37, .int .i64 x39, .int .i64 x41] : List Value)))), .i x43, .i x29, .i x32] ∧ mo23 [.l ((l1.map (·.1) ++ (([.int .i64 x29, .int .i64 x32] : List Value)))), .l ((l2.map (·.1) ++ (([.int .i64 x35, .int .i64 x37, .int .i64 x39, .int .i64 x41] : List Value)))), .i x43, .i x29, .i x32] < mo23 [.l ((l1.map (·.1) ++ (([] : List Value)))), .l ((l2.map (·.1) ++ (([] : List Value)))), .i x18, .i x19, .i x20])) ∧ (¬ (x18 < x12) → (
  ∃ (Ib9 : List Vc.Vl → Prop) (mb9 : List Vc.Vl → Nat), Ib9 [.b false, .i 0, .b false, .b false, .i 0, .i 0, .i 0, .i 0, .i 0] ∧ ∀ (b9 : Bool) (x21 : Int) (b10 : Bool) (b11 : Bool) (x22 : Int) (x23 : Int) (x24 : Int) (x25 : Int) (x26 : Int), Ib9 [.b b9, .i x21, .b b10, .b b11, .i x22, .i x23, .i x24, .i x25, .i x26] → (
  ∀ x27 : Int, x27 = (((0 + (l1.length + 0)) / 2 : Nat) : Int) →
  ((x21 < x27) → (
  ∀ x28 : Int, x28 = (((0 + (l2.length + 0)) / 4 : Nat) : Int) →
  (0 ≤ x21) ∧
  (x21 < x28) ∧
  ∃ (x29 : Int), ((l2.map (·.1) ++ (([] : List Value))))[(Int.toNat x21) * 4 + 0]? = some (.int .i64 x29) ∧
  ∃ (x30 : Int), ((l2.map (·.1) ++ (([] : List Value))))[(Int.toNat x21) * 4 + 1]? = some (.int .i64 x30) ∧
  ∃ (x31 : Int), ((l2.map (·.1) ++ (([] : List Value))))[(Int.toNat x21) * 4 + 2]? = some (.int .i64 x31) ∧
  ∃ (x32 : Int), ((l2.map (·.1) ++ (([] : List Value))))[(Int.toNat x21) * 4 + 3]? = some (.int .i64 x32) ∧
  ((x21 = 0) → (
  ∃ (b12 : Bool), ∃ (x33 : Int), ∃ (b13 : Bool), ∃ (x34 : Int), ∃ (x35 : Int), ∃ (x36 : Int), ∃ (x37 : Int), ∃ (x38 : Int), ∃ (b14 : Bool), ∃ (b15 : Bool), ∃ (x39 : Int), ∃ (x40 : Int), ∃ (x41 : Int), ∃ (x42 : Int), ∃ (x43 : Int), (∀ (β : Nat → Nat) (w' : World), Below w.heap.size w w' → ((w.heap.size ≤ β 11 ∧ w'.heap[β 11]? = some (.cells #[.string ⟨s0.toArray⟩, Vc.ownV (β 7) (β 8) (β 9) (β 10), .int .i64 x6, .int .i64 x7, .bool true, .bool b10, .bool b11, .int .i64 x22, .int .i64 x23, .int .i64 x24, .int .i64 x25, .int .i64 x26] 112)) ∧ Vc.RowOk w.heap.size (β 7) (β 8) (β 9) (β 10) ((l0.map (·.1) ++ (([] : List Value)))) 2 34 w' ∧ True) → Calls Try.prog 19 #[Vc.ptr (β 11) 0, .agg #[.int .i64 x29, .int .i64 x30, .int .i64 x31, .int .i64 x32], .bool true] w' (Vc.Eff (.tuple #[.agg #[.bool b12, .int .i64 x33, .bool b13, .int .i64 x34, .int .i64 x35, .int .i64 x36, .int .i64 x37], .int .i64 x38]) (β 11) #[.string ⟨s0.toArray⟩, Vc.ownV (β 7) (β 8) (β 9) (β 10), .int .i64 x6, .int .i64 x7, .bool true, .bool b14, .bool b15, .int .i64 x39, .int .i64 x40, .int .i64 x41, .int .i64 x42, .int .i64 x43] 112 w')) ∧
  ((x38 = 0) → (
  ((b12 = true) → (
  ∃ (Ib16 : List Vc.Vl → Prop) (mb16 : List Vc.Vl → Nat), Ib16 [.b b9, .i 0] ∧ ∀ (b16 : Bool) (x44 : Int), Ib16 [.b b16, .i x44] → (
  (0 ≤ x14) ∧
  ((¬ (b4 = true)) ∨ (x14 = 0)) ∧
  ((x44 < x14) → (
  ∀ x45 : Int, x45 = (((0 + (l1.length + 0)) / 2 : Nat) : Int) →
  (0 ≤ x21) ∧
  (x21 < x45) ∧
  ∃ (x46 : Int), ((l1.map (·.1) ++ (([] : List Value))))[(Int.toNat x21) * 2 + 0]? = some (.int .i64 x46) ∧
  (¬ (b4 = true)) ∧
  (0 ≤ x44) ∧
  (x44 < x14) ∧
  ∃ (x47 : Int), w.cell? ⟨p4.1, p4.2 + (Int.toNat x44) * 2 + 0, none⟩ = some (.int .i64 x47) ∧
  ∀ x48 : Int, x48 = IntKind.i64.wrap (x8 + 1) →
  (x48 ≠ 0) ∧
  ∀ x49 : Int, x49 = Int.tmod x47 x48 →
  ∀ x50 : Int, x50 = IntKind.i64.wrap (x46 + x49) →
  ∀ x51 : Int, x51 = (((0 + (l1.length + 0)) / 2 : Nat) : Int) →
  (0 ≤ x21) ∧
  (x21 < x51) ∧
  ∃ (x52 : Int), ((l1.map (·.1) ++ (([] : List Value))))[(Int.toNat x21) * 2 + 1]? = some (.int .i64 x52) ∧
  (¬ (b4 = true)) ∧
  (0 ≤ x44) ∧
  (x44 < x14) ∧
  ∃ (x53 : Int), w.cell? ⟨p4.1, p4.2 + (Int.toNat x44) * 2 + 1, none⟩ = some (.int .i64 x53) ∧
  ∀ x54 : Int, x54 = IntKind.i64.wrap (x8 + 1) →
  (x54 ≠ 0) ∧
  ∀ x55 : Int, x55 = Int.tmod x53 x54 →
  ∀ x56 : Int, x56 = IntKind.i64.wrap (x52 + x55) →
  ∃ (Ib17 : List Vc.Vl → Prop) (mb17 : List Vc.Vl → Nat), Ib17 [.b b16, .i 0] ∧ ∀ (b17 : Bool) (x57 : Int), Ib17 [.b b17, .i x57] → (
  (0 ≤ x2) ∧
  ((¬ (b1 = true)) ∨ (x2 = 0)) ∧
  ((x57 < x2) → (
  (¬ (b1 = true)) ∧
  (0 ≤ x57) ∧
  (x57 < x2) ∧
  ∃ (s1 : List UInt8), w.cell? ⟨p1.1, p1.2 + (Int.toNat x57) * 2 + 0, none⟩ = some (.string ⟨s1.toArray⟩) ∧
  ∃ (b18 : Bool) (p5 : Nat × Nat) (x58 x59 : Int), w.cell? ⟨p1.1, p1.2 + (Int.toNat x57) * 2 + 1, none⟩ = some ((if b18 = true then .slice none 0 0 else .slice (some (Vc.qad p5 (Int.toNat x58) (Int.toNat x59))) (Int.toNat x58) (Int.toNat x59) : Value)) ∧
  ∃ (b19 : Bool), (∀ w' : World, Below w.heap.size w w' → Calls Try.prog 23 #[.agg #[.string ⟨s1.toArray⟩, (if b18 = true then .slice none 0 0 else .slice (some (Vc.qad p5 (Int.toNat x58) (Int.toNat x59))) (Int.toNat x58) (Int.toNat x59) : Value)], .agg #[.int .i64 x50, .int .i64 x56]] w' (Vc.Ret (.bool b19) w')) ∧
  ((b19 = true) → (
  (.bool false : Value) = v)) ∧ (¬ (b19 = true) → (
  ∀ x60 : Int, x60 = IntKind.i64.wrap (x57 + 1) →
  Ib17 [.b b17, .i x60] ∧ mb17 [.b b17, .i x60] < mb17 [.b b17, .i x57])))) ∧ (¬ (x57 < x2) → (
  ∀ x58 : Int, x58 = IntKind.i64.wrap (x44 + 1) →
  Ib16 [.b b17, .i x58] ∧ mb16 [.b b17, .i x58] < mb16 [.b b16, .i x44]))))) ∧ (¬ (x44 < x14) → (
  ∃ (b17 : Bool), (∀ w' : World, Below w.heap.size w w' → Calls Try.prog 11 #[] w' (Vc.Ret (.bool b17) w')) ∧
  (.bool b17 : Value) = v))))) ∧ (¬ (b12 = true) → (
  ∀ x44 : Int, x44 = IntKind.i64.wrap (x21 + 1) →
  Ib9 [.b b9, .i x44, .b b14, .b b15, .i x39, .i x40, .i x41, .i x42, .i x43] ∧ mb9 [.b b9, .i x44, .b b14, .b b15, .i x39, .i x40, .i x41, .i x42, .i x43] < mb9 [.b b9, .i x21, .b b10, .b b11, .i x22, .i x23, .i x24, .i x25, .i x26])))) ∧ (¬ (x38 = 0) → (
  (.bool false : Value) = v)))) ∧ (¬ (x21 = 0) → (
  (¬ (b3 = true)) ∧
  (0 ≤ x21) ∧
  (x21 < x12) ∧
  ∃ (b12 : Bool), w.cell? ⟨p3.1, p3.2 + (Int.toNat x21) * 7 + 6, none⟩ = some (.bool b12) ∧
  ∃ (b13 : Bool), ∃ (x33 : Int), ∃ (b14 : Bool), ∃ (x34 : Int), ∃ (x35 : Int), ∃ (x36 : Int), ∃ (x37 : Int), ∃ (x38 : Int), ∃ (b15 : Bool), ∃ (b16 : Bool), ∃ (x39 : Int), ∃ (x40 : Int), ∃ (x41 : Int), ∃ (x42 : Int), ∃ (x43 : Int), (∀ (β : Nat → Nat) (w' : World), Below w.heap.size w w' → ((w.heap.size ≤ β 11 ∧ w'.heap[β 11]? = some (.cells #[.string ⟨s0.toArray⟩, Vc.ownV (β 7) (β 8) (β 9) (β 10), .int .i64 x6, .int .i64 x7, .bool true, .bool b10, .bool b11, .int .i64 x22, .int .i64 x23, .int .i64 x24, .int .i64 x25, .int .i64 x26] 112)) ∧ Vc.RowOk w.heap.size (β 7) (β 8) (β 9) (β 10) ((l0.map (·.1) ++ (([] : List Value)))) 2 34 w' ∧ True) → Calls Try.prog 19 #[Vc.ptr (β 11) 0, .agg #[.int .i64 x29, .int .i64 x30, .int .i64 x31, .int .i64 x32], .bool b12] w' (Vc.Eff (.tuple #[.agg #[.bool b13, .int .i64 x33, .bool b14, .int .i64 x34, .int .i64 x35, .int .i64 x36, .int .i64 x37], .int .i64 x38]) (β 11) #[.string ⟨s0.toArray⟩, Vc.ownV (β 7) (β 8) (β 9) (β 10), .int .i64 x6, .int .i64 x7, .bool true, .bool b15, .bool b16, .int .i64 x39, .int .i64 x40, .int .i64 x41, .int .i64 x42, .int .i64 x43] 112 w')) ∧
  ((x38 = 0) → (
  ((b13 = true) → (
  ∃ (Ib17 : List Vc.Vl → Prop) (mb17 : List Vc.Vl → Nat), Ib17 [.b b9, .i 0] ∧ ∀ (b17 : Bool) (x44 : Int), Ib17 [.b b17, .i x44] → (
  (0 ≤ x14) ∧
  ((¬ (b4 = true)) ∨ (x14 = 0)) ∧
  ((x44 < x14) → (
  ∀ x45 : Int, x45 = (((0 + (l1.length + 0)) / 2 : Nat) : Int) →
  (0 ≤ x21) ∧
  (x21 < x45) ∧
  ∃ (x46 : Int), ((l1.map (·.1) ++ (([] : List Value))))[(Int.toNat x21) * 2 + 0]? = some (.int .i64 x46) ∧
  (¬ (b4 = true)) ∧
  (0 ≤ x44) ∧
  (x44 < x14) ∧
  ∃ (x47 : Int), w.cell? ⟨p4.1, p4.2 + (Int.toNat x44) * 2 + 0, none⟩ = some (.int .i64 x47) ∧
  ∀ x48 : Int, x48 = IntKind.i64.wrap (x8 + 1) →
  (x48 ≠ 0) ∧
  ∀ x49 : Int, x49 = Int.tmod x47 x48 →
  ∀ x50 : Int, x50 = IntKind.i64.wrap (x46 + x49) →
  ∀ x51 : Int, x51 = (((0 + (l1.length + 0)) / 2 : Nat) : Int) →
  (0 ≤ x21) ∧
  (x21 < x51) ∧
  ∃ (x52 : Int), ((l1.map (·.1) ++ (([] : List Value))))[(Int.toNat x21) * 2 + 1]? = some (.int .i64 x52) ∧
  (¬ (b4 = true)) ∧
  (0 ≤ x44) ∧
  (x44 < x14) ∧
  ∃ (x53 : Int), w.cell? ⟨p4.1, p4.2 + (Int.toNat x44) * 2 + 1, none⟩ = some (.int .i64 x53) ∧
  ∀ x54 : Int, x54 = IntKind.i64.wrap (x8 + 1) →
  (x54 ≠ 0) ∧
  ∀ x55 : Int, x55 = Int.tmod x53 x54 →
  ∀ x56 : Int, x56 = IntKind.i64.wrap (x52 + x55) →
  ∃ (Ib18 : List Vc.Vl → Prop) (mb18 : List Vc.Vl → Nat), Ib18 [.b b17, .i 0] ∧ ∀ (b18 : Bool) (x57 : Int), Ib18 [.b b18, .i x57] → (
  (0 ≤ x2) ∧
  ((¬ (b1 = true)) ∨ (x2 = 0)) ∧
  ((x57 < x2) → (
  (¬ (b1 = true)) ∧
  (0 ≤ x57) ∧
  (x57 < x2) ∧
  ∃ (s1 : List UInt8), w.cell? ⟨p1.1, p1.2 + (Int.toNat x57) * 2 + 0, none⟩ = some (.string ⟨s1.toArray⟩) ∧
  ∃ (b19 : Bool) (p5 : Nat × Nat) (x58 x59 : Int), w.cell? ⟨p1.1, p1.2 + (Int.toNat x57) * 2 + 1, none⟩ = some ((if b19 = true then .slice none 0 0 else .slice (some (Vc.qad p5 (Int.toNat x58) (Int.toNat x59))) (Int.toNat x58) (Int.toNat x59) : Value)) ∧
  ∃ (b20 : Bool), (∀ w' : World, Below w.heap.size w w' → Calls Try.prog 23 #[.agg #[.string ⟨s1.toArray⟩, (if b19 = true then .slice none 0 0 else .slice (some (Vc.qad p5 (Int.toNat x58) (Int.toNat x59))) (Int.toNat x58) (Int.toNat x59) : Value)], .agg #[.int .i64 x50, .int .i64 x56]] w' (Vc.Ret (.bool b20) w')) ∧
  ((b20 = true) → (
  (.bool false : Value) = v)) ∧ (¬ (b20 = true) → (
  ∀ x60 : Int, x60 = IntKind.i64.wrap (x57 + 1) →
  Ib18 [.b b18, .i x60] ∧ mb18 [.b b18, .i x60] < mb18 [.b b18, .i x57])))) ∧ (¬ (x57 < x2) → (
  ∀ x58 : Int, x58 = IntKind.i64.wrap (x44 + 1) →
  Ib17 [.b b18, .i x58] ∧ mb17 [.b b18, .i x58] < mb17 [.b b17, .i x44]))))) ∧ (¬ (x44 < x14) → (
  ∃ (b18 : Bool), (∀ w' : World, Below w.heap.size w w' → Calls Try.prog 11 #[] w' (Vc.Ret (.bool b18) w')) ∧
  (.bool b18 : Value) = v))))) ∧ (¬ (b13 = true) → (
  ∀ x44 : Int, x44 = IntKind.i64.wrap (x21 + 1) →
  Ib9 [.b b9, .i x44, .b b15, .b b16, .i x39, .i x40, .i x41, .i x42, .i x43] ∧ mb9 [.b b9, .i x44, .b b15, .b b16, .i x39, .i x40, .i x41, .i x42, .i x43] < mb9 [.b b9, .i x21, .b b10, .b b11, .i x22, .i x23, .i x24, .i x25, .i x26])))) ∧ (¬ (x38 = 0) → (
  (.bool false : Value) = v)))))) ∧ (¬ (x21 < x27) → (
  ∃ (b12 : Bool), (∀ w' : World, Below w.heap.size w w' → Calls Try.prog 11 #[] w' (Vc.Ret (.bool b12) w')) ∧
  (.bool b12 : Value) = v)))))))))))))))))))) ∧ (¬ (b8 = true) → (
  ∃ (b9 : Bool), (∀ w' : World, Below w.heap.size w w' → Calls Try.prog 11 #[] w' (Vc.Ret (.bool b9) w')) ∧
  (.bool b9 : Value) = v)))) ∧ (¬ (b6 = true) → (
  ∃ (b8 : Bool), (∀ w' : World, Below w.heap.size w w' → Calls Try.prog 11 #[] w' (Vc.Ret (.bool b8) w')) ∧
  (.bool b8 : Value) = v)))) ∧ (¬ (x17 = 0) → (
  ∃ (b8 : Bool), (∀ w' : World, Below w.heap.size w w' → Calls Try.prog 11 #[] w' (Vc.Ret (.bool b8) w')) ∧
  (.bool b8 : Value) = v)))))))))) ∧ (¬ (b5 = true) → (
  ∃ (b6 : Bool), ∃ (x16 : Int), (∀ w' : World, Below w.heap.size w w' → Calls Try.prog 25 #[.agg #[.string ⟨s0.toArray⟩, (if b0 = true then .slice none 0 0 else .slice (some (Vc.qad p0 (Int.toNat x0) (Int.toNat x1))) (Int.toNat x0) (Int.toNat x1) : Value), (if b1 = true then .slice none 0 0 else .slice (some (Vc.qad p1 (Int.toNat x2) (Int.toNat x3))) (Int.toNat x2) (Int.toNat x3) : Value), (if b2 = true then .slice none 0 0 else .slice (some (Vc.qad p2 (Int.toNat x4) (Int.toNat x5))) (Int.toNat x4) (Int.toNat x5) : Value), .int .i64 x6, .int .i64 x7, .int .i64 x8, .int .i64 x9]] w' (Vc.Ret (.tuple #[.bool b6, .int .i64 x16]) w')) ∧
  ∃ (b7 : Bool), (∀ w' : World, Below w.heap.size w w' → Calls Try.prog 17 #[.agg #[.string ⟨s0.toArray⟩, (if b0 = true then .slice none 0 0 else .slice (some (Vc.qad p0 (Int.toNat x0) (Int.toNat x1))) (Int.toNat x0) (Int.toNat x1) : Value), (if b1 = true then .slice none 0 0 else .slice (some (Vc.qad p1 (Int.toNat x2) (Int.toNat x3))) (Int.toNat x2) (Int.toNat x3) : Value), (if b2 = true then .slice none 0 0 else .slice (some (Vc.qad p2 (Int.toNat x4) (Int.toNat x5))) (Int.toNat x4) (Int.toNat x5) : Value), .int .i64 x6, .int .i64 x7, .int .i64 x8, .int .i64 x9]] w' (Vc.Ret (.bool b7) w')) ∧
  ((b7 = true) → (
  ∃ (b8 : Bool), (∀ w' : World, Below w.heap.size w w' → Calls Try.prog 11 #[] w' (Vc.Ret (.bool b8) w')) ∧
  (.bool b8 : Value) = v)) ∧ (¬ (b7 = true) → (
  (0 ≤ x14) ∧
  ((¬ (b4 = true)) ∨ (x14 = 0)) ∧
  ((50 < x14) → (
  ∃ (b8 : Bool), (∀ w' : World, Below w.heap.size w w' → Calls Try.prog 11 #[] w' (Vc.Ret (.bool b8) w')) ∧
  (.bool b8 : Value) = v)) ∧ (¬ (50 < x14) → (
  ∃ (b8 : Bool), (∀ w' : World, Below w.heap.size w w' → Calls Try.prog 11 #[] w' (Vc.Ret (.bool b8) w')) ∧
  (.bool b8 : Value) = v))))))) : Calls Try.prog 9 #[.agg #[.string ⟨s0.toArray⟩, (if b0 = true then .slice none 0 0 else .slice (some (Vc.qad p0 (Int.toNat x0) (Int.toNat x1))) (Int.toNat x0) (Int.toNat x1) : Value), (if b1 = true then .slice none 0 0 else .slice (some (Vc.qad p1 (Int.toNat x2) (Int.toNat x3))) (Int.toNat x2) (Int.toNat x3) : Value), (if b2 = true then .slice none 0 0 else .slice (some (Vc.qad p2 (Int.toNat x4) (Int.toNat x5))) (Int.toNat x4) (Int.toNat x5) : Value), .int .i64 x6, .int .i64 x7, .int .i64 x8, .int .i64 x9], .agg #[.int .i64 x10, .int .i64 x11, (if b3 = true then .slice none 0 0 else .slice (some (Vc.qad p3 (Int.toNat x12) (Int.toNat x13))) (Int.toNat x12) (Int.toNat x13) : Value)], (if b4 = true then .slice none 0 0 else .slice (some (Vc.qad p4 (Int.toNat x14) (Int.toNat x15))) (Int.toNat x14) (Int.toNat x15) : Value)] w (Vc.Ret v w) :=
  Vc.pure_of (base_inl [16, 39, 18, 28] (by kernel_rfl)) [(4000000000007, .inva [[(3, 5), (3, 6), (3, 7), (3, 8), (3, 9), (3, 10), (3, 11)], [(11, 5), (11, 6), (11, 7), (11, 8), (11, 9), (11, 10), (11, 11)]] [] [6, 13] [67, 68, 69, 70, 74, 75, 76, 77, 78, 79, 80, 81, 82, 83, 84, 85, 86, 87, 88, 89, 73, 90, 91, 14, 15, 92, 93, 94, 95, 96, 16, 97, 98, 99, 100, 103, 104, 105, 106, 107, 108, 109, 110, 111, 112, 113, 114, 115, 116, 117, 118, 119, 120, 121, 122, 123, 124, 125, 126, 127, 128, 129, 130, 131, 132, 133, 17, 18, 134, 135, 136, 137, 138, 141, 142, 143, 144, 145, 146, 147, 139, 140, 101, 102, 148, 71, 72]), (4000000000014, .inv [] [6, 16] [97, 98, 99, 100, 103, 104, 105, 106, 107, 108, 109, 110, 111, 112, 113, 114, 115, 116, 117, 118, 119, 120, 121, 122, 123, 124, 125, 126, 127, 128, 129, 130, 131, 132, 133, 17, 18, 134, 135, 136, 137, 138, 141, 142, 143, 144, 145, 146, 147, 139, 140, 101, 102]), (5000000000018, .inv [] [6, 18] [134, 135, 136, 137, 138, 141, 142, 143, 144, 145, 146, 147, 139, 140]), (5000000000007, .inv [(6, 0), (6, 1)] [7, 8, 9] [42, 43, 44, 45, 46, 49, 50, 51, 52, 53, 10, 54, 55, 56, 57, 58, 59, 60, 61, 62, 63, 64, 65, 66, 67, 68, 69, 70, 71, 72, 73, 74, 75, 76, 77, 78, 79, 80, 81, 82, 83, 84, 85, 86, 87, 88, 89, 90, 91, 92, 93, 94, 95, 96, 97, 98, 99, 100, 101, 102, 103, 104, 105, 106, 107, 108, 109, 47, 48]), (900000007, .inv [] [34] []), (900000008, .inv [] [49] []), (3000019, .inv [] [0] [5, 6, 7, 8, 9, 10, 11])] 200 Try.func9 (b := (Try.f9.body).getD .skip) (by kernel_rfl) [.cv (.agg [.sv 0, .qsl 0 0 2 (.var 0) (.var 1), .qsl 1 1 2 (.var 2) (.var 3), .qsl 2 2 4 (.var 4) (.var 5), .int .i64 (.var 6), .int .i64 (.var 7), .int .i64 (.var 8), .int .i64 (.var 9)]), .cv (.agg [.int .i64 (.var 10), .int .i64 (.var 11), .qsl 3 3 7 (.var 12) (.var 13)]), .cv (.one (.qsl 4 4 2 (.var 14) (.var 15)))] ⟨16, 5, 0, 5, 0, 1, 0⟩ (Vc.envOf [x0, x1, x2, x3, x4, x5, x6, x7, x8, x9, x10, x11, x12, x13, x14, x15] [b0, b1, b2, b3, b4] [] [p0, p1, p2, p3, p4] [s0]) (by kernel_rfl) (by kernel_rfl) (by kernel_rfl) h

theorem vc_ullageref09_many (p0 : Nat × Nat) (x0 x1 : Int) (b0 : Bool) (s0 : List UInt8) (w : World) (v : Value) (h : 
  (0 ≤ x0) ∧
  ((¬ (b0 = true)) ∨ (x0 = 0)) ∧
  ∀ x2 : Int, x2 = ((s0.length : Nat) : Int) →
  ∀ x3 : Int, x3 = IntKind.i64.wrap (x0 + x2) →
  (.int .i64 x3 : Value) = v) : Calls Try.prog 26 #[.agg #[.string ⟨s0.toArray⟩, (if b0 = true then .slice none 0 0 else .slice (some (Vc.qad p0 (Int.toNat x0) (Int.toNat x1))) (Int.toNat x0) (Int.toNat x1) : Value)]] w (Vc.Ret v w) :=
  Vc.pure_of base [] 200 Try.func26 (b := (Try.f26.body).getD .skip) (by kernel_rfl) [.cv (.agg [.sv 0, .qsl 0 0 2 (.var 0) (.var 1)])] ⟨2, 1, 0, 1, 0, 1, 0⟩ (Vc.envOf [x0, x1] [b0] [] [p0] [s0]) (by kernel_rfl) (by kernel_rfl) (by kernel_rfl) h

theorem vc_ullageref09_Great (p0 p1 p2 : Nat × Nat) (x0 x1 x2 x3 x4 x5 x6 x7 x8 x9 : Int) (b0 b1 b2 : Bool) (s0 : List UInt8) (w : World) (v : Value) (h : 
  ∃ (x10 : Int), (∀ w' : World, Below w.heap.size w w' → Calls Try.prog 26 #[.agg #[.string ⟨s0.toArray⟩, (if b0 = true then .slice none 0 0 else .slice (some (Vc.qad p0 (Int.toNat x0) (Int.toNat x1))) (Int.toNat x0) (Int.toNat x1) : Value)]] w' (Vc.Ret (.int .i64 x10) w')) ∧
  ∃ (Ix11 : List Vc.Vl → Prop) (mx11 : List Vc.Vl → Nat), Ix11 [.i x10, .i 0] ∧ ∀ (x11 : Int) (x12 : Int), Ix11 [.i x11, .i x12] → (
  (0 ≤ x2) ∧
  ((¬ (b1 = true)) ∨ (x2 = 0)) ∧
  ((x12 < x2) → (
  ((x12 < 20) → (
  (¬ (b1 = true)) ∧
  (0 ≤ x12) ∧
  (x12 < x2) ∧
  ∃ (s1 : List UInt8), w.cell? ⟨p1.1, p1.2 + (Int.toNat x12) * 2 + 0, none⟩ = some (.string ⟨s1.toArray⟩) ∧
  ∃ (b3 : Bool) (p3 : Nat × Nat) (x13 x14 : Int), w.cell? ⟨p1.1, p1.2 + (Int.toNat x12) * 2 + 1, none⟩ = some ((if b3 = true then .slice none 0 0 else .slice (some (Vc.qad p3 (Int.toNat x13) (Int.toNat x14))) (Int.toNat x13) (Int.toNat x14) : Value)) ∧
  ∃ (x15 : Int), (∀ w' : World, Below w.heap.size w w' → Calls Try.prog 26 #[.agg #[.string ⟨s1.toArray⟩, (if b3 = true then .slice none 0 0 else .slice (some (Vc.qad p3 (Int.toNat x13) (Int.toNat x14))) (Int.toNat x13) (Int.toNat x14) : Value)]] w' (Vc.Ret (.int .i64 x15) w')) ∧
  ∀ x16 : Int, x16 = IntKind.i64.wrap (x11 + x15) →
  ∀ x17 : Int, x17 = IntKind.i64.wrap (x12 + 1) →
  Ix11 [.i x16, .i x17] ∧ mx11 [.i x16, .i x17] < mx11 [.i x11, .i x12])) ∧ (¬ (x12 < 20) → (
  ∃ (Ix13 : List Vc.Vl → Prop) (mx13 : List Vc.Vl → Nat), Ix13 [.i x11, .i 0] ∧ ∀ (x13 : Int) (x14 : Int), Ix13 [.i x13, .i x14] → (
  (0 ≤ x4) ∧
  ((¬ (b2 = true)) ∨ (x4 = 0)) ∧
  ((x14 < x4) → (
  ((x14 < 20) → (
  (¬ (b2 = true)) ∧
  (0 ≤ x14) ∧
  (x14 < x4) ∧
  ∃ (s1 : List UInt8), w.cell? ⟨p2.1, p2.2 + (Int.toNat x14) * 4 + 0, none⟩ = some (.string ⟨s1.toArray⟩) ∧
  ∃ (b3 : Bool) (p3 : Nat × Nat) (x15 x16 : Int), w.cell? ⟨p2.1, p2.2 + (Int.toNat x14) * 4 + 1, none⟩ = some ((if b3 = true then .slice none 0 0 else .slice (some (Vc.qad p3 (Int.toNat x15) (Int.toNat x16))) (Int.toNat x15) (Int.toNat x16) : Value)) ∧
  ∃ (x17 : Int), (∀ w' : World, Below w.heap.size w w' → Calls Try.prog 26 #[.agg #[.string ⟨s1.toArray⟩, (if b3 = true then .slice none 0 0 else .slice (some (Vc.qad p3 (Int.toNat x15) (Int.toNat x16))) (Int.toNat x15) (Int.toNat x16) : Value)]] w' (Vc.Ret (.int .i64 x17) w')) ∧
  ∀ x18 : Int, x18 = IntKind.i64.wrap (x13 + x17) →
  ∀ x19 : Int, x19 = IntKind.i64.wrap (x14 + 1) →
  Ix13 [.i x18, .i x19] ∧ mx13 [.i x18, .i x19] < mx13 [.i x13, .i x14])) ∧ (¬ (x14 < 20) → (
  (0 ≤ x2) ∧
  ((¬ (b1 = true)) ∨ (x2 = 0)) ∧
  ((20 < x2) → (
  (.bool true : Value) = v)) ∧ (¬ (20 < x2) → (
  (0 ≤ x4) ∧
  ((¬ (b2 = true)) ∨ (x4 = 0)) ∧
  ((20 < x4) → (
  (.bool true : Value) = v)) ∧ (¬ (20 < x4) → (
  (.bool (decide (x13 > 2000)) : Value) = v)))))))) ∧ (¬ (x14 < x4) → (
  (0 ≤ x2) ∧
  ((¬ (b1 = true)) ∨ (x2 = 0)) ∧
  ((20 < x2) → (
  (.bool true : Value) = v)) ∧ (¬ (20 < x2) → (
  (0 ≤ x4) ∧
  ((¬ (b2 = true)) ∨ (x4 = 0)) ∧
  ((20 < x4) → (
  (.bool true : Value) = v)) ∧ (¬ (20 < x4) → (
  (.bool (decide (x13 > 2000)) : Value) = v))))))))))) ∧ (¬ (x12 < x2) → (
  ∃ (Ix13 : List Vc.Vl → Prop) (mx13 : List Vc.Vl → Nat), Ix13 [.i x11, .i 0] ∧ ∀ (x13 : Int) (x14 : Int), Ix13 [.i x13, .i x14] → (
  (0 ≤ x4) ∧
  ((¬ (b2 = true)) ∨ (x4 = 0)) ∧
  ((x14 < x4) → (
  ((x14 < 20) → (
  (¬ (b2 = true)) ∧
  (0 ≤ x14) ∧
  (x14 < x4) ∧
  ∃ (s1 : List UInt8), w.cell? ⟨p2.1, p2.2 + (Int.toNat x14) * 4 + 0, none⟩ = some (.string ⟨s1.toArray⟩) ∧
  ∃ (b3 : Bool) (p3 : Nat × Nat) (x15 x16 : Int), w.cell? ⟨p2.1, p2.2 + (Int.toNat x14) * 4 + 1, none⟩ = some ((if b3 = true then .slice none 0 0 else .slice (some (Vc.qad p3 (Int.toNat x15) (Int.toNat x16))) (Int.toNat x15) (Int.toNat x16) : Value)) ∧
  ∃ (x17 : Int), (∀ w' : World, Below w.heap.size w w' → Calls Try.prog 26 #[.agg #[.string ⟨s1.toArray⟩, (if b3 = true then .slice none 0 0 else .slice (some (Vc.qad p3 (Int.toNat x15) (Int.toNat x16))) (Int.toNat x15) (Int.toNat x16) : Value)]] w' (Vc.Ret (.int .i64 x17) w')) ∧
  ∀ x18 : Int, x18 = IntKind.i64.wrap (x13 + x17) →
  ∀ x19 : Int, x19 = IntKind.i64.wrap (x14 + 1) →
  Ix13 [.i x18, .i x19] ∧ mx13 [.i x18, .i x19] < mx13 [.i x13, .i x14])) ∧ (¬ (x14 < 20) → (
  (0 ≤ x2) ∧
  ((¬ (b1 = true)) ∨ (x2 = 0)) ∧
  ((20 < x2) → (
  (.bool true : Value) = v)) ∧ (¬ (20 < x2) → (
  (0 ≤ x4) ∧
  ((¬ (b2 = true)) ∨ (x4 = 0)) ∧
  ((20 < x4) → (
  (.bool true : Value) = v)) ∧ (¬ (20 < x4) → (
  (.bool (decide (x13 > 2000)) : Value) = v)))))))) ∧ (¬ (x14 < x4) → (
  (0 ≤ x2) ∧
  ((¬ (b1 = true)) ∨ (x2 = 0)) ∧
  ((20 < x2) → (
  (.bool true : Value) = v)) ∧ (¬ (20 < x2) → (
  (0 ≤ x4) ∧
  ((¬ (b2 = true)) ∨ (x4 = 0)) ∧
  ((20 < x4) → (
  (.bool true : Value) = v)) ∧ (¬ (20 < x4) → (
  (.bool (decide (x13 > 2000)) : Value) = v))))))))))) : Calls Try.prog 17 #[.agg #[.string ⟨s0.toArray⟩, (if b0 = true then .slice none 0 0 else .slice (some (Vc.qad p0 (Int.toNat x0) (Int.toNat x1))) (Int.toNat x0) (Int.toNat x1) : Value), (if b1 = true then .slice none 0 0 else .slice (some (Vc.qad p1 (Int.toNat x2) (Int.toNat x3))) (Int.toNat x2) (Int.toNat x3) : Value), (if b2 = true then .slice none 0 0 else .slice (some (Vc.qad p2 (Int.toNat x4) (Int.toNat x5))) (Int.toNat x4) (Int.toNat x5) : Value), .int .i64 x6, .int .i64 x7, .int .i64 x8, .int .i64 x9]] w (Vc.Ret v w) :=
  Vc.pure_of base [(9000000000003, .inv [] [3, 4] [9, 10, 11, 12, 13, 14, 15, 16, 17, 20, 21, 22, 23, 24, 25, 26, 27, 18, 19]), (9000000000007, .inv [] [3, 5] [28, 29, 30, 31, 32, 33, 34, 35, 36, 39, 40, 41, 42, 43, 44, 45, 46, 47, 37, 38])] 200 Try.func17 (b := (Try.f17.body).getD .skip) (by kernel_rfl) [.cv (.agg [.sv 0, .qsl 0 0 2 (.var 0) (.var 1), .qsl 1 1 2 (.var 2) (.var 3), .qsl 2 2 4 (.var 4) (.var 5), .int .i64 (.var 6), .int .i64 (.var 7), .int .i64 (.var 8), .int .i64 (.var 9)])] ⟨10, 3, 0, 3, 0, 1, 0⟩ (Vc.envOf [x0, x1, x2, x3, x4, x5, x6, x7, x8, x9] [b0, b1, b2] [] [p0, p1, p2] [s0]) (by kernel_rfl) (by kernel_rfl) (by kernel_rfl) h

theorem vc_ullagelaw09_rect (x0 x1 x2 x3 : Int) (w : World) (v : Value) (h : 
  (.agg #[.int .i64 x0, .int .i64 x1, .int .i64 x2, .int .i64 x3] : Value) = v) : Calls Try.prog 28 #[.int .i64 x0, .int .i64 x1, .int .i64 x2, .int .i64 x3] w (Vc.Ret v w) :=
  Vc.pure_of base [] 200 Try.func28 (b := (Try.f28.body).getD .skip) (by kernel_rfl) [.cv (.one (.int .i64 (.var 0))), .cv (.one (.int .i64 (.var 1))), .cv (.one (.int .i64 (.var 2))), .cv (.one (.int .i64 (.var 3)))] ⟨4, 0, 0, 0, 0, 0, 0⟩ (Vc.envOf [x0, x1, x2, x3] [] [] []) (by kernel_rfl) (by kernel_rfl) (by kernel_rfl) h

theorem vc___safety_Unit__Tick (p0 : Nat × Nat) (x0 x1 x2 x3 x4 x5 x6 x7 x8 x9 x10 x11 x12 : Int) (b0 b1 b2 b3 b4 : Bool) (s0 : List UInt8) (xl : Nat) (w : World) (v : Value) (new : Array Value) (hx : w.heap[xl]? = some (.cells #[.string ⟨s0.toArray⟩, (if b0 = true then .slice none 0 0 else .slice (some (Vc.qad p0 (Int.toNat x0) (Int.toNat x1))) (Int.toNat x0) (Int.toNat x1) : Value), .int .i64 x2, .int .i64 x3, .bool b1, .bool b2, .bool b3, .int .i64 x4, .int .i64 x5, .int .i64 x6, .int .i64 x7, .int .i64 x8] 112)) (h : 
  ((b1 = true) → (
  ((b2 = true) → (
  (.agg #[.tuple #[.agg #[.bool false, .int .i64 0, .bool false, .int .i64 0, .int .i64 0, .int .i64 0, .int .i64 0], .int .i64 9], .agg #[.string ⟨s0.toArray⟩, (if b0 = true then .slice none 0 0 else .slice (some (Vc.qad p0 (Int.toNat x0) (Int.toNat x1))) (Int.toNat x0) (Int.toNat x1) : Value), .int .i64 x2, .int .i64 x3, .bool b1, .bool b2, .bool b3, .int .i64 x4, .int .i64 x5, .int .i64 x6, .int .i64 x7, .int .i64 x8]] : Value) = .agg #[v, .agg new])) ∧ (¬ (b2 = true) → (
  ((b4 = true) → (
  ∃ (b5 : Bool), (∀ w' : World, Vc.BelX xl w w' → Calls Try.prog 37 #[.agg #[.int .i64 x9, .int .i64 x10, .int .i64 x11, .int .i64 x12]] w' (Vc.Ret (.bool b5) w')) ∧
  ((b5 = true) → (
  ((b4 = true) → (
  ∃ (x13 : Int), (∀ w' : World, Vc.BelX xl w w' → Calls Try.prog 43 #[.agg #[.string ⟨s0.toArray⟩, (if b0 = true then .slice none 0 0 else .slice (some (Vc.qad p0 (Int.toNat x0) (Int.toNat x1))) (Int.toNat x0) (Int.toNat x1) : Value)], .agg #[.int .i64 x9, .int .i64 x10, .int .i64 x11, .int .i64 x12]] w' (Vc.Ret (.int .i64 x13) w')) ∧
  ((x13 = 1) → (
  (.agg #[.tuple #[.agg #[.bool false, .int .i64 0, .bool true, .int .i64 x9, .int .i64 x10, .int .i64 x11, .int .i64 x12], .int .i64 0], .agg #[.string ⟨s0.toArray⟩, (if b0 = true then .slice none 0 0 else .slice (some (Vc.qad p0 (Int.toNat x0) (Int.toNat x1))) (Int.toNat x0) (Int.toNat x1) : Value), .int .i64 x2, .int .i64 x3, .bool b1, .bool false, .bool true, .int .i64 x9, .int .i64 x10, .int .i64 x11, .int .i64 x12, .int .i64 0]] : Value) = .agg #[v, .agg new])) ∧ (¬ (x13 = 1) → (
  ((x13 = 0) → (
  ∀ x14 : Int, x14 = IntKind.i64.wrap (x8 + 1) →
  ((x3 < x14) → (
  (.agg #[.tuple #[.agg #[.bool true, .int .i64 2, .bool true, .int .i64 x9, .int .i64 x10, .int .i64 x11, .int .i64 x12], .int .i64 0], .agg #[.string ⟨s0.toArray⟩, (if b0 = true then .slice none 0 0 else .slice (some (Vc.qad p0 (Int.toNat x0) (Int.toNat x1))) (Int.toNat x0) (Int.toNat x1) : Value), .int .i64 x2, .int .i64 x3, .bool b1, .bool true, .bool true, .int .i64 x9, .int .i64 x10, .int .i64 x11, .int .i64 x12, .int .i64 x14]] : Value) = .agg #[v, .agg new])) ∧ (¬ (x3 < x14) → (
  (.agg #[.tuple #[.agg #[.bool false, .int .i64 0, .bool true, .int .i64 x9, .int .i64 x10, .int .i64 x11, .int .i64 x12], .int .i64 0], .agg #[.string ⟨s0.toArray⟩, (if b0 = true then .slice none 0 0 else .slice (some (Vc.qad p0 (Int.toNat x0) (Int.toNat x1))) (Int.toNat x0) (Int.toNat x1) : Value), .int .i64 x2, .int .i64 x3, .bool b1, .bool false, .bool true, .int .i64 x9, .int .i64 x10, .int .i64 x11, .int .i64 x12, .int .i64 x14]] : Value) = .agg #[v, .agg new])))) ∧ (¬ (x13 = 0) → (
  (.agg #[.tuple #[.agg #[.bool true, .int .i64 1, .bool true, .int .i64 x9, .int .i64 x10, .int .i64 x11, .int .i64 x12], .int .i64 0], .agg #[.string ⟨s0.toArray⟩, (if b0 = true then .slice none 0 0 else .slice (some (Vc.qad p0 (Int.toNat x0) (Int.toNat x1))) (Int.toNat x0) (Int.toNat x1) : Value), .int .i64 x2, .int .i64 x3, .bool b1, .bool true, .bool true, .int .i64 x9, .int .i64 x10, .int .i64 x11, .int .i64 x12, .int .i64 x8]] : Value) = .agg #[v, .agg new])))))) ∧ (¬ (b4 = true) → (
  ((b3 = true) → (
  ∃ (x13 : Int), ∃ (x14 : Int), ∃ (x15 : Int), ∃ (x16 : Int), (∀ w' : World, Vc.BelX xl w w' → Calls Try.prog 41 #[.agg #[.int .i64 x4, .int .i64 x5, .int .i64 x6, .int .i64 x7], .int .i64 x2] w' (Vc.Ret (.agg #[.int .i64 x13, .int .i64 x14, .int .i64 x15, .int .i64 x16]) w')) ∧
  ∃ (x17 : Int), ∃ (x18 : Int), (∀ w' : World, Vc.BelX xl w w' → Calls Try.prog 42 #[.agg #[.int .i64 x13, .int .i64 x14]] w' (Vc.Ret (.agg #[.int .i64 x17, .int .i64 x18]) w')) ∧
  ∃ (x19 : Int), ∃ (x20 : Int), (∀ w' : World, Vc.BelX xl w w' → Calls Try.prog 42 #[.agg #[.int .i64 x15, .int .i64 x16]] w' (Vc.Ret (.agg #[.int .i64 x19, .int .i64 x20]) w')) ∧
  ((b3 = true) → (
  ∃ (x21 : Int), (∀ w' : World, Vc.BelX xl w w' → Calls Try.prog 43 #[.agg #[.string ⟨s0.toArray⟩, (if b0 = true then .slice none 0 0 else .slice (some (Vc.qad p0 (Int.toNat x0) (Int.toNat x1))) (Int.toNat x0) (Int.toNat x1) : Value)], .agg #[.int .i64 x17, .int .i64 x18, .int .i64 x19, .int .i64 x20]] w' (Vc.Ret (.int .i64 x21) w')) ∧
  ((x21 = 1) → (
  (.agg #[.tuple #[.agg #[.bool false, .int .i64 0, .bool b3, .int .i64 x17, .int .i64 x18, .int .i64 x19, .int .i64 x20], .int .i64 0], .agg #[.string ⟨s0.toArray⟩, (if b0 = true then .slice none 0 0 else .slice (some (Vc.qad p0 (Int.toNat x0) (Int.toNat x1))) (Int.toNat x0) (Int.toNat x1) : Value), .int .i64 x2, .int .i64 x3, .bool b1, .bool false, .bool b3, .int .i64 x17, .int .i64 x18, .int .i64 x19, .int .i64 x20, .int .i64 0]] : Value) = .agg #[v, .agg new])) ∧ (¬ (x21 = 1) → (
  ((x21 = 0) → (
  ∀ x22 : Int, x22 = IntKind.i64.wrap (x8 + 1) →
  ((x3 < x22) → (
  (.agg #[.tuple #[.agg #[.bool true, .int .i64 2, .bool b3, .int .i64 x17, .int .i64 x18, .int .i64 x19, .int .i64 x20], .int .i64 0], .agg #[.string ⟨s0.toArray⟩, (if b0 = true then .slice none 0 0 else .slice (some (Vc.qad p0 (Int.toNat x0) (Int.toNat x1))) (Int.toNat x0) (Int.toNat x1) : Value), .int .i64 x2, .int .i64 x3, .bool b1, .bool true, .bool b3, .int .i64 x17, .int .i64 x18, .int .i64 x19, .int .i64 x20, .int .i64 x22]] : Value) = .agg #[v, .agg new])) ∧ (¬ (x3 < x22) → (
  (.agg #[.tuple #[.agg #[.bool false, .int .i64 0, .bool b3, .int .i64 x17, .int .i64 x18, .int .i64 x19, .int .i64 x20], .int .i64 0], .agg #[.string ⟨s0.toArray⟩, (if b0 = true then .slice none 0 0 else .slice (some (Vc.qad p0 (Int.toNat x0) (Int.toNat x1))) (Int.toNat x0) (Int.toNat x1) : Value), .int .i64 x2, .int .i64 x3, .bool b1, .bool false, .bool b3, .int .i64 x17, .int .i64 x18, .int .i64 x19, .int .i64 x20, .int .i64 x22]] : Value) = .agg #[v, .agg new])))) ∧ (¬ (x21 = 0) → (
  (.agg #[.tuple #[.agg #[.bool true, .int .i64 1, .bool b3, .int .i64 x17, .int .i64 x18, .int .i64 x19, .int .i64 x20], .int .i64 0], .agg #[.string ⟨s0.toArray⟩, (if b0 = true then .slice none 0 0 else .slice (some (Vc.qad p0 (Int.toNat x0) (Int.toNat x1))) (Int.toNat x0) (Int.toNat x1) : Value), .int .i64 x2, .int .i64 x3, .bool b1, .bool true, .bool b3, .int .i64 x17, .int .i64 x18, .int .i64 x19, .int .i64 x20, .int .i64 x8]] : Value) = .agg #[v, .agg new])))))) ∧ (¬ (b3 = true) → (
  ∀ x21 : Int, x21 = IntKind.i64.wrap (x8 + 1) →
  ((x3 < x21) → (
  (.agg #[.tuple #[.agg #[.bool true, .int .i64 2, .bool b3, .int .i64 x17, .int .i64 x18, .int .i64 x19, .int .i64 x20], .int .i64 0], .agg #[.string ⟨s0.toArray⟩, (if b0 = true then .slice none 0 0 else .slice (some (Vc.qad p0 (Int.toNat x0) (Int.toNat x1))) (Int.toNat x0) (Int.toNat x1) : Value), .int .i64 x2, .int .i64 x3, .bool b1, .bool true, .bool b3, .int .i64 x17, .int .i64 x18, .int .i64 x19, .int .i64 x20, .int .i64 x21]] : Value) = .agg #[v, .agg new])) ∧ (¬ (x3 < x21) → (
  (.agg #[.tuple #[.agg #[.bool false, .int .i64 0, .bool b3, .int .i64 x17, .int .i64 x18, .int .i64 x19, .int .i64 x20], .int .i64 0], .agg #[.string ⟨s0.toArray⟩, (if b0 = true then .slice none 0 0 else .slice (some (Vc.qad p0 (Int.toNat x0) (Int.toNat x1))) (Int.toNat x0) (Int.toNat x1) : Value), .int .i64 x2, .int .i64 x3, .bool b1, .bool false, .bool b3, .int .i64 x17, .int .i64 x18, .int .i64 x19, .int .i64 x20, .int .i64 x21]] : Value) = .agg #[v, .agg new])))))) ∧ (¬ (b3 = true) → (
  ((b3 = true) → (
  ∃ (x13 : Int), (∀ w' : World, Vc.BelX xl w w' → Calls Try.prog 43 #[.agg #[.string ⟨s0.toArray⟩, (if b0 = true then .slice none 0 0 else .slice (some (Vc.qad p0 (Int.toNat x0) (Int.toNat x1))) (Int.toNat x0) (Int.toNat x1) : Value)], .agg #[.int .i64 x4, .int .i64 x5, .int .i64 x6, .int .i64 x7]] w' (Vc.Ret (.int .i64 x13) w')) ∧
  ((x13 = 1) → (
  (.agg #[.tuple #[.agg #[.bool false, .int .i64 0, .bool b3, .int .i64 x4, .int .i64 x5, .int .i64 x6, .int .i64 x7], .int .i64 0], .agg #[.string ⟨s0.toArray⟩, (if b0 = true then .slice none 0 0 else .slice (some (Vc.qad p0 (Int.toNat x0) (Int.toNat x1))) (Int.toNat x0) (Int.toNat x1) : Value), .int .i64 x2, .int .i64 x3, .bool b1, .bool false, .bool b3, .int .i64 x4, .int .i64 x5, .int .i64 x6, .int .i64 x7, .int .i64 0]] : Value) = .agg #[v, .agg new])) ∧ (¬ (x13 = 1) → (
  ((x13 = 0) → (
  ∀ x14 : Int, x14 = IntKind.i64.wrap (x8 + 1) →
  ((x3 < x14) → (
  (.agg #[.tuple #[.agg #[.bool true, .int .i64 2, .bool b3, .int .i64 x4, .int .i64 x5, .int .i64 x6, .int .i64 x7], .int .i64 0], .agg #[.string ⟨s0.toArray⟩, (if b0 = true then .slice none 0 0 else .slice (some (Vc.qad p0 (Int.toNat x0) (Int.toNat x1))) (Int.toNat x0) (Int.toNat x1) : Value), .int .i64 x2, .int .i64 x3, .bool b1, .bool true, .bool b3, .int .i64 x4, .int .i64 x5, .int .i64 x6, .int .i64 x7, .int .i64 x14]] : Value) = .agg #[v, .agg new])) ∧ (¬ (x3 < x14) → (
  (.agg #[.tuple #[.agg #[.bool false, .int .i64 0, .bool b3, .int .i64 x4, .int .i64 x5, .int .i64 x6, .int .i64 x7], .int .i64 0], .agg #[.string ⟨s0.toArray⟩, (if b0 = true then .slice none 0 0 else .slice (some (Vc.qad p0 (Int.toNat x0) (Int.toNat x1))) (Int.toNat x0) (Int.toNat x1) : Value), .int .i64 x2, .int .i64 x3, .bool b1, .bool false, .bool b3, .int .i64 x4, .int .i64 x5, .int .i64 x6, .int .i64 x7, .int .i64 x14]] : Value) = .agg #[v, .agg new])))) ∧ (¬ (x13 = 0) → (
  (.agg #[.tuple #[.agg #[.bool true, .int .i64 1, .bool b3, .int .i64 x4, .int .i64 x5, .int .i64 x6, .int .i64 x7], .int .i64 0], .agg #[.string ⟨s0.toArray⟩, (if b0 = true then .slice none 0 0 else .slice (some (Vc.qad p0 (Int.toNat x0) (Int.toNat x1))) (Int.toNat x0) (Int.toNat x1) : Value), .int .i64 x2, .int .i64 x3, .bool b1, .bool true, .bool b3, .int .i64 x4, .int .i64 x5, .int .i64 x6, .int .i64 x7, .int .i64 x8]] : Value) = .agg #[v, .agg new])))))) ∧ (¬ (b3 = true) → (
  ∀ x13 : Int, x13 = IntKind.i64.wrap (x8 + 1) →
  ((x3 < x13) → (
  (.agg #[.tuple #[.agg #[.bool true, .int .i64 2, .bool b3, .int .i64 x4, .int .i64 x5, .int .i64 x6, .int .i64 x7], .int .i64 0], .agg #[.string ⟨s0.toArray⟩, (if b0 = true then .slice none 0 0 else .slice (some (Vc.qad p0 (Int.toNat x0) (Int.toNat x1))) (Int.toNat x0) (Int.toNat x1) : Value), .int .i64 x2, .int .i64 x3, .bool b1, .bool true, .bool b3, .int .i64 x4, .int .i64 x5, .int .i64 x6, .int .i64 x7, .int .i64 x13]] : Value) = .agg #[v, .agg new])) ∧ (¬ (x3 < x13) → (
  (.agg #[.tuple #[.agg #[.bool false, .int .i64 0, .bool b3, .int .i64 x4, .int .i64 x5, .int .i64 x6, .int .i64 x7], .int .i64 0], .agg #[.string ⟨s0.toArray⟩, (if b0 = true then .slice none 0 0 else .slice (some (Vc.qad p0 (Int.toNat x0) (Int.toNat x1))) (Int.toNat x0) (Int.toNat x1) : Value), .int .i64 x2, .int .i64 x3, .bool b1, .bool false, .bool b3, .int .i64 x4, .int .i64 x5, .int .i64 x6, .int .i64 x7, .int .i64 x13]] : Value) = .agg #[v, .agg new])))))))))) ∧ (¬ (b5 = true) → (
  (.agg #[.tuple #[.agg #[.bool false, .int .i64 0, .bool false, .int .i64 0, .int .i64 0, .int .i64 0, .int .i64 0], .int .i64 2], .agg #[.string ⟨s0.toArray⟩, (if b0 = true then .slice none 0 0 else .slice (some (Vc.qad p0 (Int.toNat x0) (Int.toNat x1))) (Int.toNat x0) (Int.toNat x1) : Value), .int .i64 x2, .int .i64 x3, .bool b1, .bool b2, .bool b3, .int .i64 x4, .int .i64 x5, .int .i64 x6, .int .i64 x7, .int .i64 x8]] : Value) = .agg #[v, .agg new])))) ∧ (¬ (b4 = true) → (
  ((b4 = true) → (
  ∃ (x13 : Int), (∀ w' : World, Vc.BelX xl w w' → Calls Try.prog 43 #[.agg #[.string ⟨s0.toArray⟩, (if b0 = true then .slice none 0 0 else .slice (some (Vc.qad p0 (Int.toNat x0) (Int.toNat x1))) (Int.toNat x0) (Int.toNat x1) : Value)], .agg #[.int .i64 x9, .int .i64 x10, .int .i64 x11, .int .i64 x12]] w' (Vc.Ret (.int .i64 x13) w')) ∧
  ((x13 = 1) → (
  (.agg #[.tuple #[.agg #[.bool false, .int .i64 0, .bool true, .int .i64 x9, .int .i64 x10, .int .i64 x11, .int .i64 x12], .int .i64 0], .agg #[.string ⟨s0.toArray⟩, (if b0 = true then .slice none 0 0 else .slice (some (Vc.qad p0 (Int.toNat x0) (Int.toNat x1))) (Int.toNat x0) (Int.toNat x1) : Value), .int .i64 x2, .int .i64 x3, .bool b1, .bool false, .bool true, .int .i64 x9, .int .i64 x10, .int .i64 x11, .int .i64 x12, .int .i64 0]] : Value) = .agg #[v, .agg new])) ∧ (¬ (x13 = 1) → (
  ((x13 = 0) → (
  ∀ x14 : Int, x14 = IntKind.i64.wrap (x8 + 1) →
  ((x3 < x14) → (
  (.agg #[.tuple #[.agg #[.bool true, .int .i64 2, .bool true, .int .i64 x9, .int .i64 x10, .int .i64 x11, .int .i64 x12], .int .i64 0], .agg #[.string ⟨s0.toArray⟩, (if b0 = true then .slice none 0 0 else .slice (some (Vc.qad p0 (Int.toNat x0) (Int.toNat x1))) (Int.toNat x0) (Int.toNat x1) : Value), .int .i64 x2, .int .i64 x3, .bool b1, .bool true, .bool true, .int .i64 x9, .int .i64 x10, .int .i64 x11, .int .i64 x12, .int .i64 x14]] : Value) = .agg #[v, .agg new])) ∧ (¬ (x3 < x14) → (
  (.agg #[.tuple #[.agg #[.bool false, .int .i64 0, .bool true, .int .i64 x9, .int .i64 x10, .int .i64 x11, .int .i64 x12], .int .i64 0], .agg #[.string ⟨s0.toArray⟩, (if b0 = true then .slice none 0 0 else .slice (some (Vc.qad p0 (Int.toNat x0) (Int.toNat x1))) (Int.toNat x0) (Int.toNat x1) : Value), .int .i64 x2, .int .i64 x3, .bool b1, .bool false, .bool true, .int .i64 x9, .int .i64 x10, .int .i64 x11, .int .i64 x12, .int .i64 x14]] : Value) = .agg #[v, .agg new])))) ∧ (¬ (x13 = 0) → (
  (.agg #[.tuple #[.agg #[.bool true, .int .i64 1, .bool true, .int .i64 x9, .int .i64 x10, .int .i64 x11, .int .i64 x12], .int .i64 0], .agg #[.string ⟨s0.toArray⟩, (if b0 = true then .slice none 0 0 else .slice (some (Vc.qad p0 (Int.toNat x0) (Int.toNat x1))) (Int.toNat x0) (Int.toNat x1) : Value), .int .i64 x2, .int .i64 x3, .bool b1, .bool true, .bool true, .int .i64 x9, .int .i64 x10, .int .i64 x11, .int .i64 x12, .int .i64 x8]] : Value) = .agg #[v, .agg new])))))) ∧ (¬ (b4 = true) → (
  ((b3 = true) → (
  ∃ (x13 : Int), ∃ (x14 : Int), ∃ (x15 : Int), ∃ (x16 : Int), (∀ w' : World, Vc.BelX xl w w' → Calls Try.prog 41 #[.agg #[.int .i64 x4, .int .i64 x5, .int .i64 x6, .int .i64 x7], .int .i64 x2] w' (Vc.Ret (.agg #[.int .i64 x13, .int .i64 x14, .int .i64 x15, .int .i64 x16]) w')) ∧
  ∃ (x17 : Int), ∃ (x18 : Int), (∀ w' : World, Vc.BelX xl w w' → Calls Try.prog 42 #[.agg #[.int .i64 x13, .int .i64 x14]] w' (Vc.Ret (.agg #[.int .i64 x17, .int .i64 x18]) w')) ∧
  ∃ (x19 : Int), ∃ (x20 : Int), (∀ w' : World, Vc.BelX xl w w' → Calls Try.prog 42 #[.agg #[.int .i64 x15, .int .i64 x16]] w' (Vc.Ret (.agg #[.int .i64 x19, .int .i64 x20]) w')) ∧
  ((b3 = true) → (
  ∃ (x21 : Int), (∀ w' : World, Vc.BelX xl w w' → Calls Try.prog 43 #[.agg #[.string ⟨s0.toArray⟩, (if b0 = true then .slice none 0 0 else .slice (some (Vc.qad p0 (Int.toNat x0) (Int.toNat x1))) (Int.toNat x0) (Int.toNat x1) : Value)], .agg #[.int .i64 x17, .int .i64 x18, .int .i64 x19, .int .i64 x20]] w' (Vc.Ret (.int .i64 x21) w')) ∧
  ((x21 = 1) → (
  (.agg #[.tuple #[.agg #[.bool false, .int .i64 0, .bool b3, .int .i64 x17, .int .i64 x18, .int .i64 x19, .int .i64 x20], .int .i64 0], .agg #[.string ⟨s0.toArray⟩, (if b0 = true then .slice none 0 0 else .slice (some (Vc.qad p0 (Int.toNat x0) (Int.toNat x1))) (Int.toNat x0) (Int.toNat x1) : Value), .int .i64 x2, .int .i64 x3, .bool b1, .bool false, .bool b3, .int .i64 x17, .int .i64 x18, .int .i64 x19, .int .i64 x20, .int .i64 0]] : Value) = .agg #[v, .agg new])) ∧ (¬ (x21 = 1) → (
  ((x21 = 0) → (
  ∀ x22 : Int, x22 = IntKind.i64.wrap (x8 + 1) →
  ((x3 < x22) → (
  (.agg #[.tuple #[.agg #[.bool true, .int .i64 2, .bool b3, .int .i64 x17, .int .i64 x18, .int .i64 x19, .int .i64 x20], .int .i64 0], .agg #[.string ⟨s0.toArray⟩, (if b0 = true then .slice none 0 0 else .slice (some (Vc.qad p0 (Int.toNat x0) (Int.toNat x1))) (Int.toNat x0) (Int.toNat x1) : Value), .int .i64 x2, .int .i64 x3, .bool b1, .bool true, .bool b3, .int .i64 x17, .int .i64 x18, .int .i64 x19, .int .i64 x20, .int .i64 x22]] : Value) = .agg #[v, .agg new])) ∧ (¬ (x3 < x22) → (
  (.agg #[.tuple #[.agg #[.bool false, .int .i64 0, .bool b3, .int .i64 x17, .int .i64 x18, .int .i64 x19, .int .i64 x20], .int .i64 0], .agg #[.string ⟨s0.toArray⟩, (if b0 = true then .slice none 0 0 else .slice (some (Vc.qad p0 (Int.toNat x0) (Int.toNat x1))) (Int.toNat x0) (Int.toNat x1) : Value), .int .i64 x2, .int .i64 x3, .bool b1, .bool false, .bool b3, .int .i64 x17, .int .i64 x18, .int .i64 x19, .int .i64 x20, .int .i64 x22]] : Value) = .agg #[v, .agg new])))) ∧ (¬ (x21 = 0) → (
  (.agg #[.tuple #[.agg #[.bool true, .int .i64 1, .bool b3, .int .i64 x17, .int .i64 x18, .int .i64 x19, .int .i64 x20], .int .i64 0], .agg #[.string ⟨s0.toArray⟩, (if b0 = true then .slice none 0 0 else .slice (some (Vc.qad p0 (Int.toNat x0) (Int.toNat x1))) (Int.toNat x0) (Int.toNat x1) : Value), .int .i64 x2, .int .i64 x3, .bool b1, .bool true, .bool b3, .int .i64 x17, .int .i64 x18, .int .i64 x19, .int .i64 x20, .int .i64 x8]] : Value) = .agg #[v, .agg new])))))) ∧ (¬ (b3 = true) → (
  ∀ x21 : Int, x21 = IntKind.i64.wrap (x8 + 1) →
  ((x3 < x21) → (
  (.agg #[.tuple #[.agg #[.bool true, .int .i64 2, .bool b3, .int .i64 x17, .int .i64 x18, .int .i64 x19, .int .i64 x20], .int .i64 0], .agg #[.string ⟨s0.toArray⟩, (if b0 = true then .slice none 0 0 else .slice (some (Vc.qad p0 (Int.toNat x0) (Int.toNat x1))) (Int.toNat x0) (Int.toNat x1) : Value), .int .i64 x2, .int .i64 x3, .bool b1, .bool true, .bool b3, .int .i64 x17, .int .i64 x18, .int .i64 x19, .int .i64 x20, .int .i64 x21]] : Value) = .agg #[v, .agg new])) ∧ (¬ (x3 < x21) → (
  (.agg #[.tuple #[.agg #[.bool false, .int .i64 0, .bool b3, .int .i64 x17, .int .i64 x18, .int .i64 x19, .int .i64 x20], .int .i64 0], .agg #[.string ⟨s0.toArray⟩, (if b0 = true then .slice none 0 0 else .slice (some (Vc.qad p0 (Int.toNat x0) (Int.toNat x1))) (Int.toNat x0) (Int.toNat x1) : Value), .int .i64 x2, .int .i64 x3, .bool b1, .bool false, .bool b3, .int .i64 x17, .int .i64 x18, .int .i64 x19, .int .i64 x20, .int .i64 x21]] : Value) = .agg #[v, .agg new])))))) ∧ (¬ (b3 = true) → (
  ((b3 = true) → (
  ∃ (x13 : Int), (∀ w' : World, Vc.BelX xl w w' → Calls Try.prog 43 #[.agg #[.string ⟨s0.toArray⟩, (if b0 = true then .slice none 0 0 else .slice (some (Vc.qad p0 (Int.toNat x0) (Int.toNat x1))) (Int.toNat x0) (Int.toNat x1) : Value)], .agg #[.int .i64 x4, .int .i64 x5, .int .i64 x6, .int .i64 x7]] w' (Vc.Ret (.int .i64 x13) w')) ∧
  ((x13 = 1) → (
  (.agg #[.tuple #[.agg #[.bool false, .int .i64 0, .bool b3, .int .i64 x4, .int .i64 x5, .int .i64 x6, .int .i64 x7], .int .i64 0], .agg #[.string ⟨s0.toArray⟩, (if b0 = true then .slice none 0 0 else .slice (some (Vc.qad p0 (Int.toNat x0) (Int.toNat x1))) (Int.toNat x0) (Int.toNat x1) : Value), .int .i64 x2, .int .i64 x3, .bool b1, .bool false, .bool b3, .int .i64 x4, .int .i64 x5, .int .i64 x6, .int .i64 x7, .int .i64 0]] : Value) = .agg #[v, .agg new])) ∧ (¬ (x13 = 1) → (
  ((x13 = 0) → (
  ∀ x14 : Int, x14 = IntKind.i64.wrap (x8 + 1) →
  ((x3 < x14) → (
  (.agg #[.tuple #[.agg #[.bool true, .int .i64 2, .bool b3, .int .i64 x4, .int .i64 x5, .int .i64 x6, .int .i64 x7], .int .i64 0], .agg #[.string ⟨s0.toArray⟩, (if b0 = true then .slice none 0 0 else .slice (some (Vc.qad p0 (Int.toNat x0) (Int.toNat x1))) (Int.toNat x0) (Int.toNat x1) : Value), .int .i64 x2, .int .i64 x3, .bool b1, .bool true, .bool b3, .int .i64 x4, .int .i64 x5, .int .i64 x6, .int .i64 x7, .int .i64 x14]] : Value) = .agg #[v, .agg new])) ∧ (¬ (x3 < x14) → (
  (.agg #[.tuple #[.agg #[.bool false, .int .i64 0, .bool b3, .int .i64 x4, .int .i64 x5, .int .i64 x6, .int .i64 x7], .int .i64 0], .agg #[.string ⟨s0.toArray⟩, (if b0 = true then .slice none 0 0 else .slice (some (Vc.qad p0 (Int.toNat x0) (Int.toNat x1))) (Int.toNat x0) (Int.toNat x1) : Value), .int .i64 x2, .int .i64 x3, .bool b1, .bool false, .bool b3, .int .i64 x4, .int .i64 x5, .int .i64 x6, .int .i64 x7, .int .i64 x14]] : Value) = .agg #[v, .agg new])))) ∧ (¬ (x13 = 0) → (
  (.agg #[.tuple #[.agg #[.bool true, .int .i64 1, .bool b3, .int .i64 x4, .int .i64 x5, .int .i64 x6, .int .i64 x7], .int .i64 0], .agg #[.string ⟨s0.toArray⟩, (if b0 = true then .slice none 0 0 else .slice (some (Vc.qad p0 (Int.toNat x0) (Int.toNat x1))) (Int.toNat x0) (Int.toNat x1) : Value), .int .i64 x2, .int .i64 x3, .bool b1, .bool true, .bool b3, .int .i64 x4, .int .i64 x5, .int .i64 x6, .int .i64 x7, .int .i64 x8]] : Value) = .agg #[v, .agg new])))))) ∧ (¬ (b3 = true) → (
  ∀ x13 : Int, x13 = IntKind.i64.wrap (x8 + 1) →
  ((x3 < x13) → (
  (.agg #[.tuple #[.agg #[.bool true, .int .i64 2, .bool b3, .int .i64 x4, .int .i64 x5, .int .i64 x6, .int .i64 x7], .int .i64 0], .agg #[.string ⟨s0.toArray⟩, (if b0 = true then .slice none 0 0 else .slice (some (Vc.qad p0 (Int.toNat x0) (Int.toNat x1))) (Int.toNat x0) (Int.toNat x1) : Value), .int .i64 x2, .int .i64 x3, .bool b1, .bool true, .bool b3, .int .i64 x4, .int .i64 x5, .int .i64 x6, .int .i64 x7, .int .i64 x13]] : Value) = .agg #[v, .agg new])) ∧ (¬ (x3 < x13) → (
  (.agg #[.tuple #[.agg #[.bool false, .int .i64 0, .bool b3, .int .i64 x4, .int .i64 x5, .int .i64 x6, .int .i64 x7], .int .i64 0], .agg #[.string ⟨s0.toArray⟩, (if b0 = true then .slice none 0 0 else .slice (some (Vc.qad p0 (Int.toNat x0) (Int.toNat x1))) (Int.toNat x0) (Int.toNat x1) : Value), .int .i64 x2, .int .i64 x3, .bool b1, .bool false, .bool b3, .int .i64 x4, .int .i64 x5, .int .i64 x6, .int .i64 x7, .int .i64 x13]] : Value) = .agg #[v, .agg new])))))))))))))) ∧ (¬ (b1 = true) → (
  (.agg #[.tuple #[.agg #[.bool false, .int .i64 0, .bool false, .int .i64 0, .int .i64 0, .int .i64 0, .int .i64 0], .int .i64 1], .agg #[.string ⟨s0.toArray⟩, (if b0 = true then .slice none 0 0 else .slice (some (Vc.qad p0 (Int.toNat x0) (Int.toNat x1))) (Int.toNat x0) (Int.toNat x1) : Value), .int .i64 x2, .int .i64 x3, .bool b1, .bool b2, .bool b3, .int .i64 x4, .int .i64 x5, .int .i64 x6, .int .i64 x7, .int .i64 x8]] : Value) = .agg #[v, .agg new]))) : Calls Try.prog 19 #[Vc.ptr xl 0, .agg #[.int .i64 x9, .int .i64 x10, .int .i64 x11, .int .i64 x12], .bool b4] w (Vc.Eff v xl new 112 w) :=
  Vc.eff_of (base_inl [40] (by kernel_rfl)) [] 200 Try.func19 (b := (Try.f19.body).getD .skip) (by kernel_rfl) [.cv (.one (.loc 0 0)), .cv (.agg [.int .i64 (.var 9), .int .i64 (.var 10), .int .i64 (.var 11), .int .i64 (.var 12)]), .cv (.one (.bool (.var 4)))] [.sv 0, .qsl 0 0 2 (.var 0) (.var 1), .int .i64 (.var 2), .int .i64 (.var 3), .bool (.var 1), .bool (.var 2), .bool (.var 3), .int .i64 (.var 4), .int .i64 (.var 5), .int .i64 (.var 6), .int .i64 (.var 7), .int .i64 (.var 8)] 112 ⟨13, 5, 0, 1, 1, 1, 0⟩ (Vc.envOf [x0, x1, x2, x3, x4, x5, x6, x7, x8, x9, x10, x11, x12] [b0, b1, b2, b3, b4] [] [p0] [s0]) (by kernel_rfl) (by kernel_rfl) (by kernel_rfl) (by kernel_rfl) (by decide) (by kernel_rfl) hx h

theorem vc_ullagelaw09_awake (w : World) (v : Value) (h : 
  ∃ (x0 : Int), ∃ (x1 : Int), (∀ (β : Nat → Nat) (w' : World), Below w.heap.size w w' → ((w.heap.size ≤ β 1 ∧ w'.heap[β 1]? = some (.cells #[.int .i64 0, .int .i64 0, .int .i64 100, .int .i64 0, .int .i64 100, .int .i64 100, .int .i64 0, .int .i64 100] 34)) ∧ True) → Calls Try.prog 20 #[.agg #[.string ⟨(([113] : List UInt8)).toArray⟩, .slice (some ⟨β 1, 0, none⟩) 4 4], .agg #[.int .i64 10, .int .i64 10, .int .i64 90, .int .i64 100]] w' (Vc.Ret (.tuple #[.int .i64 x0, .int .i64 x1]) w')) ∧
  ∃ (x2 : Int), ∃ (x3 : Int), (∀ (β : Nat → Nat) (w' : World), Below w.heap.size w w' → ((w.heap.size ≤ β 4 ∧ w'.heap[β 4]? = some (.cells #[.int .i64 0, .int .i64 0, .int .i64 100, .int .i64 0, .int .i64 100, .int .i64 100, .int .i64 0, .int .i64 100] 34)) ∧ True) → Calls Try.prog 20 #[.agg #[.string ⟨(([113] : List UInt8)).toArray⟩, .slice (some ⟨β 4, 0, none⟩) 4 4], .agg #[.int .i64 10, .int .i64 10, .int .i64 90, .int .i64 101]] w' (Vc.Ret (.tuple #[.int .i64 x2, .int .i64 x3]) w')) ∧
  ∃ (x4 : Int), ∃ (x5 : Int), (∀ (β : Nat → Nat) (w' : World), Below w.heap.size w w' → ((w.heap.size ≤ β 6 ∧ w'.heap[β 6]? = some (.cells #[.int .i64 0, .int .i64 0, .int .i64 10, .int .i64 0, .int .i64 0, .int .i64 10] 34)) ∧ True) → Calls Try.prog 20 #[.agg #[.string ⟨(([116] : List UInt8)).toArray⟩, .slice (some ⟨β 6, 0, none⟩) 3 3], .agg #[.int .i64 6, .int .i64 6, .int .i64 9, .int .i64 9]] w' (Vc.Ret (.tuple #[.int .i64 x4, .int .i64 x5]) w')) ∧
  ∃ (b0 : Bool), ∃ (x6 : Int), (∀ (β : Nat → Nat) (w' : World), Below w.heap.size w w' → ((w.heap.size ≤ β 9 ∧ w'.heap[β 9]? = some (.cells #[.int .i64 0, .int .i64 0, .int .i64 100, .int .i64 0, .int .i64 100, .int .i64 100, .int .i64 0, .int .i64 100] 34)) ∧ (w.heap.size ≤ β 11 ∧ w'.heap[β 11]? = some (.cells #[.int .i64 0, .int .i64 110, .int .i64 100, .int .i64 110, .int .i64 100, .int .i64 210, .int .i64 0, .int .i64 210] 34)) ∧ True) → Calls Try.prog 12 #[.agg #[.string ⟨(([113] : List UInt8)).toArray⟩, .slice (some ⟨β 9, 0, none⟩) 4 4], .agg #[.string ⟨(([113] : List UInt8)).toArray⟩, .slice (some ⟨β 11, 0, none⟩) 4 4], .int .i64 9] w' (Vc.Ret (.tuple #[.bool b0, .int .i64 x6]) w')) ∧
  ∃ (b1 : Bool), ∃ (x7 : Int), (∀ (β : Nat → Nat) (w' : World), Below w.heap.size w w' → ((w.heap.size ≤ β 13 ∧ w'.heap[β 13]? = some (.cells #[.int .i64 0, .int .i64 0, .int .i64 100, .int .i64 0, .int .i64 100, .int .i64 100, .int .i64 0, .int .i64 100] 34)) ∧ (w.heap.size ≤ β 15 ∧ w'.heap[β 15]? = some (.cells #[.int .i64 0, .int .i64 110, .int .i64 100, .int .i64 110, .int .i64 100, .int .i64 210, .int .i64 0, .int .i64 210] 34)) ∧ True) → Calls Try.prog 12 #[.agg #[.string ⟨(([113] : List UInt8)).toArray⟩, .slice (some ⟨β 13, 0, none⟩) 4 4], .agg #[.string ⟨(([113] : List UInt8)).toArray⟩, .slice (some ⟨β 15, 0, none⟩) 4 4], .int .i64 10] w' (Vc.Ret (.tuple #[.bool b1, .int .i64 x7]) w')) ∧
  ∃ (x8 : Int), ∃ (x9 : Int), ∃ (x10 : Int), ∃ (x11 : Int), ∃ (x12 : Int), (∀ w' : World, Below w.heap.size w w' → Calls Try.prog 15 #[.agg #[.int .i64 4294967296, .int .i64 4294967296, .int .i64 0, .int .i64 0, .int .i64 0, .int .i64 0, .int .i64 4294967296, .int .i64 4294967296, .int .i64 0, .int .i64 0, .int .i64 21474836480, .int .i64 21474836480, .int .i64 42949672960, .int .i64 42949672960, .int .i64 0, .int .i64 0, .int .i64 0, .int .i64 0]] w' (Vc.Ret (.tuple #[.agg #[.int .i64 x8, .int .i64 x9, .int .i64 x10, .int .i64 x11], .int .i64 x12]) w')) ∧
  ∃ (x13 : Int), ∃ (x14 : Int), ∃ (x15 : Int), ∃ (x16 : Int), (∀ w' : World, Below w.heap.size w w' → Calls Try.prog 28 #[.int .i64 0, .int .i64 0, .int .i64 1, .int .i64 1] w' (Vc.Ret (.agg #[.int .i64 x13, .int .i64 x14, .int .i64 x15, .int .i64 x16]) w')) ∧
  ∃ (x17 : Int), ∃ (x18 : Int), (∀ (β : Nat → Nat) (w' : World), Below w.heap.size w w' → ((w.heap.size ≤ β 22 ∧ w'.heap[β 22]? = some (.cells #[.int .i64 0, .int .i64 0, .int .i64 100, .int .i64 0, .int .i64 100, .int .i64 100, .int .i64 0, .int .i64 100] 34)) ∧ (w.heap.size ≤ β 25 ∧ w'.heap[β 25]? = some (.cells #[.string ⟨(([113] : List UInt8)).toArray⟩, .slice (some ⟨β 24, 0, none⟩) 4 4, .int .i64 1000, .int .i64 400] 90)) ∧ (w.heap.size ≤ β 24 ∧ w'.heap[β 24]? = some (.cells #[.int .i64 0, .int .i64 0, .int .i64 100, .int .i64 0, .int .i64 100, .int .i64 100, .int .i64 0, .int .i64 100] 34)) ∧ True) → Calls Try.prog 30 #[.agg #[.string ⟨(([113] : List UInt8)).toArray⟩, .slice (some ⟨β 22, 0, none⟩) 4 4, .slice none 0 0, .slice (some ⟨β 25, 0, none⟩) 1 1, .int .i64 1, .int .i64 1, .int .i64 5, .int .i64 3], .agg #[.int .i64 x13, .int .i64 x14, .int .i64 x15, .int .i64 x16]] w' (Vc.Ret (.tuple #[.int .i64 x17, .int .i64 x18]) w')) ∧
  ∃ (b2 : Bool), (∀ (β : Nat → Nat) (w' : World), Below w.heap.size w w' → ((w.heap.size ≤ β 22 ∧ w'.heap[β 22]? = some (.cells #[.int .i64 0, .int .i64 0, .int .i64 100, .int .i64 0, .int .i64 100, .int .i64 100, .int .i64 0, .int .i64 100] 34)) ∧ (w.heap.size ≤ β 25 ∧ w'.heap[β 25]? = some (.cells #[.string ⟨(([113] : List UInt8)).toArray⟩, .slice (some ⟨β 24, 0, none⟩) 4 4, .int .i64 1000, .int .i64 400] 90)) ∧ (w.heap.size ≤ β 24 ∧ w'.heap[β 24]? = some (.cells #[.int .i64 0, .int .i64 0, .int .i64 100, .int .i64 0, .int .i64 100, .int .i64 100, .int .i64 0, .int .i64 100] 34)) ∧ True) → Calls Try.prog 38 #[.agg #[.string ⟨(([113] : List UInt8)).toArray⟩, .slice (some ⟨β 22, 0, none⟩) 4 4, .slice none 0 0, .slice (some ⟨β 25, 0, none⟩) 1 1, .int .i64 1, .int .i64 1, .int .i64 5, .int .i64 3]] w' (Vc.Ret (.bool b2) w')) ∧
  ((b2 = true) → (
  ∃ (b3 : Bool), (∀ w' : World, Below w.heap.size w w' → Calls Try.prog 37 #[.agg #[.int .i64 10, .int .i64 10, .int .i64 20, .int .i64 20]] w' (Vc.Ret (.bool b3) w')) ∧
  ((b3 = true) → (
  ∃ (x19 : Int), (∀ (β : Nat → Nat) (w' : World), Below w.heap.size w w' → (Vc.RowOk w.heap.size (β 32) (β 33) (β 34) (β 35) (([.int .i64 0, .int .i64 0, .int .i64 100, .int .i64 0, .int .i64 100, .int .i64 100, .int .i64 0, .int .i64 100] : List Value)) 2 34 w' ∧ True) → Calls Try.prog 43 #[.agg #[.string ⟨(([113] : List UInt8)).toArray⟩, Vc.ownV (β 32) (β 33) (β 34) (β 35)], .agg #[.int .i64 10, .int .i64 10, .int .i64 20, .int .i64 20]] w' (Vc.Ret (.int .i64 x19) w')) ∧
  ((x19 = 1) → (
  ∃ (b4 : Bool), (∀ w' : World, Below w.heap.size w w' → Calls Try.prog 37 #[.agg #[.int .i64 95, .int .i64 0, .int .i64 101, .int .i64 5]] w' (Vc.Ret (.bool b4) w')) ∧
  ((b4 = true) → (
  ∃ (x20 : Int), (∀ (β : Nat → Nat) (w' : World), Below w.heap.size w w' → (Vc.RowOk w.heap.size (β 32) (β 33) (β 34) (β 35) (([.int .i64 0, .int .i64 0, .int .i64 100, .int .i64 0, .int .i64 100, .int .i64 100, .int .i64 0, .int .i64 100] : List Value)) 2 34 w' ∧ True) → Calls Try.prog 43 #[.agg #[.string ⟨(([113] : List UInt8)).toArray⟩, Vc.ownV (β 32) (β 33) (β 34) (β 35)], .agg #[.int .i64 95, .int .i64 0, .int .i64 101, .int .i64 5]] w' (Vc.Ret (.int .i64 x20) w')) ∧
  ((x20 = 1) → (
  ∃ (x21 : Int), ∃ (x22 : Int), ∃ (x23 : Int), ∃ (x24 : Int), (∀ w' : World, Below w.heap.size w w' → Calls Try.prog 41 #[.agg #[.int .i64 95, .int .i64 0, .int .i64 101, .int .i64 5], .int .i64 1] w' (Vc.Ret (.agg #[.int .i64 x21, .int .i64 x22, .int .i64 x23, .int .i64 x24]) w')) ∧
  ∃ (x25 : Int), ∃ (x26 : Int), (∀ w' : World, Below w.heap.size w w' → Calls Try.prog 42 #[.agg #[.int .i64 x21, .int .i64 x22]] w' (Vc.Ret (.agg #[.int .i64 x25, .int .i64 x26]) w')) ∧
  ∃ (x27 : Int), ∃ (x28 : Int), (∀ w' : World, Below w.heap.size w w' → Calls Try.prog 42 #[.agg #[.int .i64 x23, .int .i64 x24]] w' (Vc.Ret (.agg #[.int .i64 x27, .int .i64 x28]) w')) ∧
  ∃ (x29 : Int), (∀ (β : Nat → Nat) (w' : World), Below w.heap.size w w' → (Vc.RowOk w.heap.size (β 32) (β 33) (β 34) (β 35) (([.int .i64 0, .int .i64 0, .int .i64 100, .int .i64 0, .int .i64 100, .int .i64 100, .int .i64 0, .int .i64 100] : List Value)) 2 34 w' ∧ True) → Calls Try.prog 43 #[.agg #[.string ⟨(([113] : List UInt8)).toArray⟩, Vc.ownV (β 32) (β 33) (β 34) (β 35)], .agg #[.int .i64 x25, .int .i64 x26, .int .i64 x27, .int .i64 x28]] w' (Vc.Ret (.int .i64 x29) w')) ∧
  ((x29 = 1) → (
  ((x0 = 1) → (
  ((x2 = 0) → (
  ((x4 = (-1)) → (
  ((b0 = true) → (
  ((b1 = true) → (
  (.bool false : Value) = v)) ∧ (¬ (b1 = true) → (
  ((x12 = 0) → (
  ∃ (x30 : Int), ∃ (x31 : Int), ∃ (x32 : Int), ∃ (x33 : Int), (∀ w' : World, Below w.heap.size w w' → Calls Try.prog 28 #[.int .i64 2000, .int .i64 0, .int .i64 2000, .int .i64 0] w' (Vc.Ret (.agg #[.int .i64 x30, .int .i64 x31, .int .i64 x32, .int .i64 x33]) w')) ∧
  (((x8 = x30) ∧ ((x9 = x31) ∧ ((x10 = x32) ∧ (x11 = x33)))) → (
  ((x17 = 8) → (
  ((x18 = 0) → (
  ∃ (x34 : Int), ∃ (x35 : Int), ∃ (x36 : Int), ∃ (x37 : Int), (∀ w' : World, Below w.heap.size w w' → Calls Try.prog 28 #[.int .i64 94, .int .i64 (-1), .int .i64 102, .int .i64 6] w' (Vc.Ret (.agg #[.int .i64 x34, .int .i64 x35, .int .i64 x36, .int .i64 x37]) w')) ∧
  (.bool false : Value) = v)) ∧ (¬ (x18 = 0) → (
  (.bool false : Value) = v)))) ∧ (¬ (x17 = 8) → (
  (.bool false : Value) = v)))) ∧ (¬ ((x8 = x30) ∧ ((x9 = x31) ∧ ((x10 = x32) ∧ (x11 = x33)))) → (
  (.bool false : Value) = v)))) ∧ (¬ (x12 = 0) → (
  (.bool false : Value) = v)))))) ∧ (¬ (b0 = true) → (
  (.bool false : Value) = v)))) ∧ (¬ (x4 = (-1)) → (
  (.bool false : Value) = v)))) ∧ (¬ (x2 = 0) → (
  (.bool false : Value) = v)))) ∧ (¬ (x0 = 1) → (
  (.bool false : Value) = v)))) ∧ (¬ (x29 = 1) → (
  ((x29 = 0) → (
  ((x0 = 1) → (
  ((x2 = 0) → (
  ((x4 = (-1)) → (
  ((b0 = true) → (
  ((b1 = true) → (
  (.bool false : Value) = v)) ∧ (¬ (b1 = true) → (
  ((x12 = 0) → (
  ∃ (x30 : Int), ∃ (x31 : Int), ∃ (x32 : Int), ∃ (x33 : Int), (∀ w' : World, Below w.heap.size w w' → Calls Try.prog 28 #[.int .i64 2000, .int .i64 0, .int .i64 2000, .int .i64 0] w' (Vc.Ret (.agg #[.int .i64 x30, .int .i64 x31, .int .i64 x32, .int .i64 x33]) w')) ∧
  (((x8 = x30) ∧ ((x9 = x31) ∧ ((x10 = x32) ∧ (x11 = x33)))) → (
  ((x17 = 8) → (
  ((x18 = 0) → (
  ∃ (x34 : Int), ∃ (x35 : Int), ∃ (x36 : Int), ∃ (x37 : Int), (∀ w' : World, Below w.heap.size w w' → Calls Try.prog 28 #[.int .i64 94, .int .i64 (-1), .int .i64 102, .int .i64 6] w' (Vc.Ret (.agg #[.int .i64 x34, .int .i64 x35, .int .i64 x36, .int .i64 x37]) w')) ∧
  (.bool false : Value) = v)) ∧ (¬ (x18 = 0) → (
  (.bool false : Value) = v)))) ∧ (¬ (x17 = 8) → (
  (.bool false : Value) = v)))) ∧ (¬ ((x8 = x30) ∧ ((x9 = x31) ∧ ((x10 = x32) ∧ (x11 = x33)))) → (
  (.bool false : Value) = v)))) ∧ (¬ (x12 = 0) → (
  (.bool false : Value) = v)))))) ∧ (¬ (b0 = true) → (
  (.bool false : Value) = v)))) ∧ (¬ (x4 = (-1)) → (
  (.bool false : Value) = v)))) ∧ (¬ (x2 = 0) → (
  (.bool false : Value) = v)))) ∧ (¬ (x0 = 1) → (
  (.bool false : Value) = v)))) ∧ (¬ (x29 = 0) → (
  ((x0 = 1) → (
  ((x2 = 0) → (
  ((x4 = (-1)) → (
  ((b0 = true) → (
  ((b1 = true) → (
  (.bool false : Value) = v)) ∧ (¬ (b1 = true) → (
  ((x12 = 0) → (
  ∃ (x30 : Int), ∃ (x31 : Int), ∃ (x32 : Int), ∃ (x33 : Int), (∀ w' : World, Below w.heap.size w w' → Calls Try.prog 28 #[.int .i64 2000, .int .i64 0, .int .i64 2000, .int .i64 0] w' (Vc.Ret (.agg #[.int .i64 x30, .int .i64 x31, .int .i64 x32, .int .i64 x33]) w')) ∧
  (((x8 = x30) ∧ ((x9 = x31) ∧ ((x10 = x32) ∧ (x11 = x33)))) → (
  ((x17 = 8) → (
  ((x18 = 0) → (
  ∃ (x34 : Int), ∃ (x35 : Int), ∃ (x36 : Int), ∃ (x37 : Int), (∀ w' : World, Below w.heap.size w w' → Calls Try.prog 28 #[.int .i64 94, .int .i64 (-1), .int .i64 102, .int .i64 6] w' (Vc.Ret (.agg #[.int .i64 x34, .int .i64 x35, .int .i64 x36, .int .i64 x37]) w')) ∧
  (.bool false : Value) = v)) ∧ (¬ (x18 = 0) → (
  (.bool false : Value) = v)))) ∧ (¬ (x17 = 8) → (
  (.bool false : Value) = v)))) ∧ (¬ ((x8 = x30) ∧ ((x9 = x31) ∧ ((x10 = x32) ∧ (x11 = x33)))) → (
  (.bool false : Value) = v)))) ∧ (¬ (x12 = 0) → (
  (.bool false : Value) = v)))))) ∧ (¬ (b0 = true) → (
  (.bool false : Value) = v)))) ∧ (¬ (x4 = (-1)) → (
  (.bool false : Value) = v)))) ∧ (¬ (x2 = 0) → (
  (.bool false : Value) = v)))) ∧ (¬ (x0 = 1) → (
  (.bool false : Value) = v)))))))) ∧ (¬ (x20 = 1) → (
  ((x20 = 0) → (
  ∃ (x21 : Int), ∃ (x22 : Int), ∃ (x23 : Int), ∃ (x24 : Int), (∀ w' : World, Below w.heap.size w w' → Calls Try.prog 41 #[.agg #[.int .i64 95, .int .i64 0, .int .i64 101, .int .i64 5], .int .i64 1] w' (Vc.Ret (.agg #[.int .i64 x21, .int .i64 x22, .int .i64 x23, .int .i64 x24]) w')) ∧
  ∃ (x25 : Int), ∃ (x26 : Int), (∀ w' : World, Below w.heap.size w w' → Calls Try.prog 42 #[.agg #[.int .i64 x21, .int .i64 x22]] w' (Vc.Ret (.agg #[.int .i64 x25, .int .i64 x26]) w')) ∧
  ∃ (x27 : Int), ∃ (x28 : Int), (∀ w' : World, Below w.heap.size w w' → Calls Try.prog 42 #[.agg #[.int .i64 x23, .int .i64 x24]] w' (Vc.Ret (.agg #[.int .i64 x27, .int .i64 x28]) w')) ∧
  ∃ (x29 : Int), (∀ (β : Nat → Nat) (w' : World), Below w.heap.size w w' → (Vc.RowOk w.heap.size (β 32) (β 33) (β 34) (β 35) (([.int .i64 0, .int .i64 0, .int .i64 100, .int .i64 0, .int .i64 100, .int .i64 100, .int .i64 0, .int .i64 100] : List Value)) 2 34 w' ∧ True) → Calls Try.prog 43 #[.agg #[.string ⟨(([113] : List UInt8)).toArray⟩, Vc.ownV (β 32) (β 33) (β 34) (β 35)], .agg #[.int .i64 x25, .int .i64 x26, .int .i64 x27, .int .i64 x28]] w' (Vc.Ret (.int .i64 x29) w')) ∧
  ((x29 = 1) → (
  ((x0 = 1) → (
  ((x2 = 0) → (
  ((x4 = (-1)) → (
  ((b0 = true) → (
  ((b1 = true) → (
  (.bool false : Value) = v)) ∧ (¬ (b1 = true) → (
  ((x12 = 0) → (
  ∃ (x30 : Int), ∃ (x31 : Int), ∃ (x32 : Int), ∃ (x33 : Int), (∀ w' : World, Below w.heap.size w w' → Calls Try.prog 28 #[.int .i64 2000, .int .i64 0, .int .i64 2000, .int .i64 0] w' (Vc.Ret (.agg #[.int .i64 x30, .int .i64 x31, .int .i64 x32, .int .i64 x33]) w')) ∧
  (((x8 = x30) ∧ ((x9 = x31) ∧ ((x10 = x32) ∧ (x11 = x33)))) → (
  ((x17 = 8) → (
  ((x18 = 0) → (
  ∃ (x34 : Int), ∃ (x35 : Int), ∃ (x36 : Int), ∃ (x37 : Int), (∀ w' : World, Below w.heap.size w w' → Calls Try.prog 28 #[.int .i64 94, .int .i64 (-1), .int .i64 102, .int .i64 6] w' (Vc.Ret (.agg #[.int .i64 x34, .int .i64 x35, .int .i64 x36, .int .i64 x37]) w')) ∧
  (.bool false : Value) = v)) ∧ (¬ (x18 = 0) → (
  (.bool false : Value) = v)))) ∧ (¬ (x17 = 8) → (
  (.bool false : Value) = v)))) ∧ (¬ ((x8 = x30) ∧ ((x9 = x31) ∧ ((x10 = x32) ∧ (x11 = x33)))) → (
  (.bool false : Value) = v)))) ∧ (¬ (x12 = 0) → (
  (.bool false : Value) = v)))))) ∧ (¬ (b0 = true) → (
  (.bool false : Value) = v)))) ∧ (¬ (x4 = (-1)) → (
  (.bool false : Value) = v)))) ∧ (¬ (x2 = 0) → (
  (.bool false : Value) = v)))) ∧ (¬ (x0 = 1) → (
  (.bool false : Value) = v)))) ∧ (¬ (x29 = 1) → (
  ((x29 = 0) → (
  ((x0 = 1) → (
  ((x2 = 0) → (
  ((x4 = (-1)) → (
  ((b0 = true) → (
  ((b1 = true) → (
  (.bool false : Value) = v)) ∧ (¬ (b1 = true) → (
  ((x12 = 0) → (
  ∃ (x30 : Int), ∃ (x31 : Int), ∃ (x32 : Int), ∃ (x33 : Int), (∀ w' : World, Below w.heap.size w w' → Calls Try.prog 28 #[.int .i64 2000, .int .i64 0, .int .i64 2000, .int .i64 0] w' (Vc.Ret (.agg #[.int .i64 x30, .int .i64 x31, .int .i64 x32, .int .i64 x33]) w')) ∧
  (((x8 = x30) ∧ ((x9 = x31) ∧ ((x10 = x32) ∧ (x11 = x33)))) → (
  ((x17 = 8) → (
  ((x18 = 0) → (
  ∃ (x34 : Int), ∃ (x35 : Int), ∃ (x36 : Int), ∃ (x37 : Int), (∀ w' : World, Below w.heap.size w w' → Calls Try.prog 28 #[.int .i64 94, .int .i64 (-1), .int .i64 102, .int .i64 6] w' (Vc.Ret (.agg #[.int .i64 x34, .int .i64 x35, .int .i64 x36, .int .i64 x37]) w')) ∧
  (.bool ((x25 == x34) && ((x26 == x35) && ((x27 == x36) && (x28 == x37)))) : Value) = v)) ∧ (¬ (x18 = 0) → (
  (.bool false : Value) = v)))) ∧ (¬ (x17 = 8) → (
  (.bool false : Value) = v)))) ∧ (¬ ((x8 = x30) ∧ ((x9 = x31) ∧ ((x10 = x32) ∧ (x11 = x33)))) → (
  (.bool false : Value) = v)))) ∧ (¬ (x12 = 0) → (
  (.bool false : Value) = v)))))) ∧ (¬ (b0 = true) → (
  (.bool false : Value) = v)))) ∧ (¬ (x4 = (-1)) → (
  (.bool false : Value) = v)))) ∧ (¬ (x2 = 0) → (
  (.bool false : Value) = v)))) ∧ (¬ (x0 = 1) → (
  (.bool false : Value) = v)))) ∧ (¬ (x29 = 0) → (
  ((x0 = 1) → (
  ((x2 = 0) → (
  ((x4 = (-1)) → (
  ((b0 = true) → (
  ((b1 = true) → (
  (.bool false : Value) = v)) ∧ (¬ (b1 = true) → (
  ((x12 = 0) → (
  ∃ (x30 : Int), ∃ (x31 : Int), ∃ (x32 : Int), ∃ (x33 : Int), (∀ w' : World, Below w.heap.size w w' → Calls Try.prog 28 #[.int .i64 2000, .int .i64 0, .int .i64 2000, .int .i64 0] w' (Vc.Ret (.agg #[.int .i64 x30, .int .i64 x31, .int .i64 x32, .int .i64 x33]) w')) ∧
  (((x8 = x30) ∧ ((x9 = x31) ∧ ((x10 = x32) ∧ (x11 = x33)))) → (
  ((x17 = 8) → (
  ((x18 = 0) → (
  ∃ (x34 : Int), ∃ (x35 : Int), ∃ (x36 : Int), ∃ (x37 : Int), (∀ w' : World, Below w.heap.size w w' → Calls Try.prog 28 #[.int .i64 94, .int .i64 (-1), .int .i64 102, .int .i64 6] w' (Vc.Ret (.agg #[.int .i64 x34, .int .i64 x35, .int .i64 x36, .int .i64 x37]) w')) ∧
  (.bool false : Value) = v)) ∧ (¬ (x18 = 0) → (
  (.bool false : Value) = v)))) ∧ (¬ (x17 = 8) → (
  (.bool false : Value) = v)))) ∧ (¬ ((x8 = x30) ∧ ((x9 = x31) ∧ ((x10 = x32) ∧ (x11 = x33)))) → (
  (.bool false : Value) = v)))) ∧ (¬ (x12 = 0) → (
  (.bool false : Value) = v)))))) ∧ (¬ (b0 = true) → (
  (.bool false : Value) = v)))) ∧ (¬ (x4 = (-1)) → (
  (.bool false : Value) = v)))) ∧ (¬ (x2 = 0) → (
  (.bool false : Value) = v)))) ∧ (¬ (x0 = 1) → (
  (.bool false : Value) = v)))))))) ∧ (¬ (x20 = 0) → (
  ((x0 = 1) → (
  ((x2 = 0) → (
  ((x4 = (-1)) → (
  ((b0 = true) → (
  ((b1 = true) → (
  (.bool false : Value) = v)) ∧ (¬ (b1 = true) → (
  ((x12 = 0) → (
  ∃ (x21 : Int), ∃ (x22 : Int), ∃ (x23 : Int), ∃ (x24 : Int), (∀ w' : World, Below w.heap.size w w' → Calls Try.prog 28 #[.int .i64 2000, .int .i64 0, .int .i64 2000, .int .i64 0] w' (Vc.Ret (.agg #[.int .i64 x21, .int .i64 x22, .int .i64 x23, .int .i64 x24]) w')) ∧
  (((x8 = x21) ∧ ((x9 = x22) ∧ ((x10 = x23) ∧ (x11 = x24)))) → (
  ((x17 = 8) → (
  ((x18 = 0) → (
  (.bool false : Value) = v)) ∧ (¬ (x18 = 0) → (
  (.bool false : Value) = v)))) ∧ (¬ (x17 = 8) → (
  (.bool false : Value) = v)))) ∧ (¬ ((x8 = x21) ∧ ((x9 = x22) ∧ ((x10 = x23) ∧ (x11 = x24)))) → (
  (.bool false : Value) = v)))) ∧ (¬ (x12 = 0) → (
  (.bool false : Value) = v)))))) ∧ (¬ (b0 = true) → (
  (.bool false : Value) = v)))) ∧ (¬ (x4 = (-1)) → (
  (.bool false : Value) = v)))) ∧ (¬ (x2 = 0) → (
  (.bool false : Value) = v)))) ∧ (¬ (x0 = 1) → (
  (.bool false : Value) = v)))))))) ∧ (¬ (b4 = true) → (
  ∃ (x20 : Int), ∃ (x21 : Int), ∃ (x22 : Int), ∃ (x23 : Int), (∀ w' : World, Below w.heap.size w w' → Calls Try.prog 41 #[.agg #[.int .i64 10, .int .i64 10, .int .i64 20, .int .i64 20], .int .i64 1] w' (Vc.Ret (.agg #[.int .i64 x20, .int .i64 x21, .int .i64 x22, .int .i64 x23]) w')) ∧
  ∃ (x24 : Int), ∃ (x25 : Int), (∀ w' : World, Below w.heap.size w w' → Calls Try.prog 42 #[.agg #[.int .i64 x20, .int .i64 x21]] w' (Vc.Ret (.agg #[.int .i64 x24, .int .i64 x25]) w')) ∧
  ∃ (x26 : Int), ∃ (x27 : Int), (∀ w' : World, Below w.heap.size w w' → Calls Try.prog 42 #[.agg #[.int .i64 x22, .int .i64 x23]] w' (Vc.Ret (.agg #[.int .i64 x26, .int .i64 x27]) w')) ∧
  ∃ (x28 : Int), (∀ (β : Nat → Nat) (w' : World), Below w.heap.size w w' → (Vc.RowOk w.heap.size (β 32) (β 33) (β 34) (β 35) (([.int .i64 0, .int .i64 0, .int .i64 100, .int .i64 0, .int .i64 100, .int .i64 100, .int .i64 0, .int .i64 100] : List Value)) 2 34 w' ∧ True) → Calls Try.prog 43 #[.agg #[.string ⟨(([113] : List UInt8)).toArray⟩, Vc.ownV (β 32) (β 33) (β 34) (β 35)], .agg #[.int .i64 x24, .int .i64 x25, .int .i64 x26, .int .i64 x27]] w' (Vc.Ret (.int .i64 x28) w')) ∧
  ((x28 = 1) → (
  ((x0 = 1) → (
  ((x2 = 0) → (
  ((x4 = (-1)) → (
  ((b0 = true) → (
  ((b1 = true) → (
  (.bool false : Value) = v)) ∧ (¬ (b1 = true) → (
  ((x12 = 0) → (
  ∃ (x29 : Int), ∃ (x30 : Int), ∃ (x31 : Int), ∃ (x32 : Int), (∀ w' : World, Below w.heap.size w w' → Calls Try.prog 28 #[.int .i64 2000, .int .i64 0, .int .i64 2000, .int .i64 0] w' (Vc.Ret (.agg #[.int .i64 x29, .int .i64 x30, .int .i64 x31, .int .i64 x32]) w')) ∧
  (((x8 = x29) ∧ ((x9 = x30) ∧ ((x10 = x31) ∧ (x11 = x32)))) → (
  ((x17 = 8) → (
  ((x18 = 0) → (
  ∃ (x33 : Int), ∃ (x34 : Int), ∃ (x35 : Int), ∃ (x36 : Int), (∀ w' : World, Below w.heap.size w w' → Calls Try.prog 28 #[.int .i64 94, .int .i64 (-1), .int .i64 102, .int .i64 6] w' (Vc.Ret (.agg #[.int .i64 x33, .int .i64 x34, .int .i64 x35, .int .i64 x36]) w')) ∧
  (.bool false : Value) = v)) ∧ (¬ (x18 = 0) → (
  (.bool false : Value) = v)))) ∧ (¬ (x17 = 8) → (
  (.bool false : Value) = v)))) ∧ (¬ ((x8 = x29) ∧ ((x9 = x30) ∧ ((x10 = x31) ∧ (x11 = x32)))) → (
  (.bool false : Value) = v)))) ∧ (¬ (x12 = 0) → (
  (.bool false : Value) = v)))))) ∧ (¬ (b0 = true) → (
  (.bool false : Value) = v)))) ∧ (¬ (x4 = (-1)) → (
  (.bool false : Value) = v)))) ∧ (¬ (x2 = 0) → (
  (.bool false : Value) = v)))) ∧ (¬ (x0 = 1) → (
  (.bool false : Value) = v)))) ∧ (¬ (x28 = 1) → (
  ((x28 = 0) → (
  ((x0 = 1) → (
  ((x2 = 0) → (
  ((x4 = (-1)) → (
  ((b0 = true) → (
  ((b1 = true) → (
  (.bool false : Value) = v)) ∧ (¬ (b1 = true) → (
  ((x12 = 0) → (
  ∃ (x29 : Int), ∃ (x30 : Int), ∃ (x31 : Int), ∃ (x32 : Int), (∀ w' : World, Below w.heap.size w w' → Calls Try.prog 28 #[.int .i64 2000, .int .i64 0, .int .i64 2000, .int .i64 0] w' (Vc.Ret (.agg #[.int .i64 x29, .int .i64 x30, .int .i64 x31, .int .i64 x32]) w')) ∧
  (((x8 = x29) ∧ ((x9 = x30) ∧ ((x10 = x31) ∧ (x11 = x32)))) → (
  ((x17 = 8) → (
  ((x18 = 0) → (
  ∃ (x33 : Int), ∃ (x34 : Int), ∃ (x35 : Int), ∃ (x36 : Int), (∀ w' : World, Below w.heap.size w w' → Calls Try.prog 28 #[.int .i64 94, .int .i64 (-1), .int .i64 102, .int .i64 6] w' (Vc.Ret (.agg #[.int .i64 x33, .int .i64 x34, .int .i64 x35, .int .i64 x36]) w')) ∧
  (.bool false : Value) = v)) ∧ (¬ (x18 = 0) → (
  (.bool false : Value) = v)))) ∧ (¬ (x17 = 8) → (
  (.bool false : Value) = v)))) ∧ (¬ ((x8 = x29) ∧ ((x9 = x30) ∧ ((x10 = x31) ∧ (x11 = x32)))) → (
  (.bool false : Value) = v)))) ∧ (¬ (x12 = 0) → (
  (.bool false : Value) = v)))))) ∧ (¬ (b0 = true) → (
  (.bool false : Value) = v)))) ∧ (¬ (x4 = (-1)) → (
  (.bool false : Value) = v)))) ∧ (¬ (x2 = 0) → (
  (.bool false : Value) = v)))) ∧ (¬ (x0 = 1) → (
  (.bool false : Value) = v)))) ∧ (¬ (x28 = 0) → (
  ((x0 = 1) → (
  ((x2 = 0) → (
  ((x4 = (-1)) → (
  ((b0 = true) → (
  ((b1 = true) → (
  (.bool false : Value) = v)) ∧ (¬ (b1 = true) → (
  ((x12 = 0) → (
  ∃ (x29 : Int), ∃ (x30 : Int), ∃ (x31 : Int), ∃ (x32 : Int), (∀ w' : World, Below w.heap.size w w' → Calls Try.prog 28 #[.int .i64 2000, .int .i64 0, .int .i64 2000, .int .i64 0] w' (Vc.Ret (.agg #[.int .i64 x29, .int .i64 x30, .int .i64 x31, .int .i64 x32]) w')) ∧
  (((x8 = x29) ∧ ((x9 = x30) ∧ ((x10 = x31) ∧ (x11 = x32)))) → (
  ((x17 = 8) → (
  ((x18 = 0) → (
  ∃ (x33 : Int), ∃ (x34 : Int), ∃ (x35 : Int), ∃ (x36 : Int), (∀ w' : World, Below w.heap.size w w' → Calls Try.prog 28 #[.int .i64 94, .int .i64 (-1), .int .i64 102, .int .i64 6] w' (Vc.Ret (.agg #[.int .i64 x33, .int .i64 x34, .int .i64 x35, .int .i64 x36]) w')) ∧
  (.bool false : Value) = v)) ∧ (¬ (x18 = 0) → (
  (.bool false : Value) = v)))) ∧ (¬ (x17 = 8) → (
  (.bool false : Value) = v)))) ∧ (¬ ((x8 = x29) ∧ ((x9 = x30) ∧ ((x10 = x31) ∧ (x11 = x32)))) → (
  (.bool false : Value) = v)))) ∧ (¬ (x12 = 0) → (
  (.bool false : Value) = v)))))) ∧ (¬ (b0 = true) → (
  (.bool false : Value) = v)))) ∧ (¬ (x4 = (-1)) → (
  (.bool false : Value) = v)))) ∧ (¬ (x2 = 0) → (
  (.bool false : Value) = v)))) ∧ (¬ (x0 = 1) → (
  (.bool false : Value) = v)))))))))) ∧ (¬ (x19 = 1) → (
  ((x19 = 0) → (
  ∃ (b4 : Bool), (∀ w' : World, Below w.heap.size w w' → Calls Try.prog 37 #[.agg #[.int .i64 95, .int .i64 0, .int .i64 101, .int .i64 5]] w' (Vc.Ret (.bool b4) w')) ∧
  ((b4 = true) → (
  ∃ (x20 : Int), (∀ (β : Nat → Nat) (w' : World), Below w.heap.size w w' → (Vc.RowOk w.heap.size (β 32) (β 33) (β 34) (β 35) (([.int .i64 0, .int .i64 0, .int .i64 100, .int .i64 0, .int .i64 100, .int .i64 100, .int .i64 0, .int .i64 100] : List Value)) 2 34 w' ∧ True) → Calls Try.prog 43 #[.agg #[.string ⟨(([113] : List UInt8)).toArray⟩, Vc.ownV (β 32) (β 33) (β 34) (β 35)], .agg #[.int .i64 95, .int .i64 0, .int .i64 101, .int .i64 5]] w' (Vc.Ret (.int .i64 x20) w')) ∧
  ((x20 = 1) → (
  ∃ (x21 : Int), ∃ (x22 : Int), ∃ (x23 : Int), ∃ (x24 : Int), (∀ w' : World, Below w.heap.size w w' → Calls Try.prog 41 #[.agg #[.int .i64 95, .int .i64 0, .int .i64 101, .int .i64 5], .int .i64 1] w' (Vc.Ret (.agg #[.int .i64 x21, .int .i64 x22, .int .i64 x23, .int .i64 x24]) w')) ∧
  ∃ (x25 : Int), ∃ (x26 : Int), (∀ w' : World, Below w.heap.size w w' → Calls Try.prog 42 #[.agg #[.int .i64 x21, .int .i64 x22]] w' (Vc.Ret (.agg #[.int .i64 x25, .int .i64 x26]) w')) ∧
  ∃ (x27 : Int), ∃ (x28 : Int), (∀ w' : World, Below w.heap.size w w' → Calls Try.prog 42 #[.agg #[.int .i64 x23, .int .i64 x24]] w' (Vc.Ret (.agg #[.int .i64 x27, .int .i64 x28]) w')) ∧
  ∃ (x29 : Int), (∀ (β : Nat → Nat) (w' : World), Below w.heap.size w w' → (Vc.RowOk w.heap.size (β 32) (β 33) (β 34) (β 35) (([.int .i64 0, .int .i64 0, .int .i64 100, .int .i64 0, .int .i64 100, .int .i64 100, .int .i64 0, .int .i64 100] : List Value)) 2 34 w' ∧ True) → Calls Try.prog 43 #[.agg #[.string ⟨(([113] : List UInt8)).toArray⟩, Vc.ownV (β 32) (β 33) (β 34) (β 35)], .agg #[.int .i64 x25, .int .i64 x26, .int .i64 x27, .int .i64 x28]] w' (Vc.Ret (.int .i64 x29) w')) ∧
  ((x29 = 1) → (
  ((x0 = 1) → (
  ((x2 = 0) → (
  ((x4 = (-1)) → (
  ((b0 = true) → (
  ((b1 = true) → (
  (.bool false : Value) = v)) ∧ (¬ (b1 = true) → (
  ((x12 = 0) → (
  ∃ (x30 : Int), ∃ (x31 : Int), ∃ (x32 : Int), ∃ (x33 : Int), (∀ w' : World, Below w.heap.size w w' → Calls Try.prog 28 #[.int .i64 2000, .int .i64 0, .int .i64 2000, .int .i64 0] w' (Vc.Ret (.agg #[.int .i64 x30, .int .i64 x31, .int .i64 x32, .int .i64 x33]) w')) ∧
  (((x8 = x30) ∧ ((x9 = x31) ∧ ((x10 = x32) ∧ (x11 = x33)))) → (
  ((x17 = 8) → (
  ((x18 = 0) → (
  ∃ (x34 : Int), ∃ (x35 : Int), ∃ (x36 : Int), ∃ (x37 : Int), (∀ w' : World, Below w.heap.size w w' → Calls Try.prog 28 #[.int .i64 94, .int .i64 (-1), .int .i64 102, .int .i64 6] w' (Vc.Ret (.agg #[.int .i64 x34, .int .i64 x35, .int .i64 x36, .int .i64 x37]) w')) ∧
  (.bool false : Value) = v)) ∧ (¬ (x18 = 0) → (
  (.bool false : Value) = v)))) ∧ (¬ (x17 = 8) → (
  (.bool false : Value) = v)))) ∧ (¬ ((x8 = x30) ∧ ((x9 = x31) ∧ ((x10 = x32) ∧ (x11 = x33)))) → (
  (.bool false : Value) = v)))) ∧ (¬ (x12 = 0) → (
  (.bool false : Value) = v)))))) ∧ (¬ (b0 = true) → (
  (.bool false : Value) = v)))) ∧ (¬ (x4 = (-1)) → (
  (.bool false : Value) = v)))) ∧ (¬ (x2 = 0) → (
  (.bool false : Value) = v)))) ∧ (¬ (x0 = 1) → (
  (.bool false : Value) = v)))) ∧ (¬ (x29 = 1) → (
  ((x29 = 0) → (
  ((x0 = 1) → (
  ((x2 = 0) → (
  ((x4 = (-1)) → (
  ((b0 = true) → (
  ((b1 = true) → (
  (.bool false : Value) = v)) ∧ (¬ (b1 = true) → (
  ((x12 = 0) → (
  ∃ (x30 : Int), ∃ (x31 : Int), ∃ (x32 : Int), ∃ (x33 : Int), (∀ w' : World, Below w.heap.size w w' → Calls Try.prog 28 #[.int .i64 2000, .int .i64 0, .int .i64 2000, .int .i64 0] w' (Vc.Ret (.agg #[.int .i64 x30, .int .i64 x31, .int .i64 x32, .int .i64 x33]) w')) ∧
  (((x8 = x30) ∧ ((x9 = x31) ∧ ((x10 = x32) ∧ (x11 = x33)))) → (
  ((x17 = 8) → (
  ((x18 = 0) → (
  ∃ (x34 : Int), ∃ (x35 : Int), ∃ (x36 : Int), ∃ (x37 : Int), (∀ w' : World, Below w.heap.size w w' → Calls Try.prog 28 #[.int .i64 94, .int .i64 (-1), .int .i64 102, .int .i64 6] w' (Vc.Ret (.agg #[.int .i64 x34, .int .i64 x35, .int .i64 x36, .int .i64 x37]) w')) ∧
  (.bool false : Value) = v)) ∧ (¬ (x18 = 0) → (
  (.bool false : Value) = v)))) ∧ (¬ (x17 = 8) → (
  (.bool false : Value) = v)))) ∧ (¬ ((x8 = x30) ∧ ((x9 = x31) ∧ ((x10 = x32) ∧ (x11 = x33)))) → (
  (.bool false : Value) = v)))) ∧ (¬ (x12 = 0) → (
  (.bool false : Value) = v)))))) ∧ (¬ (b0 = true) → (
  (.bool false : Value) = v)))) ∧ (¬ (x4 = (-1)) → (
  (.bool false : Value) = v)))) ∧ (¬ (x2 = 0) → (
  (.bool false : Value) = v)))) ∧ (¬ (x0 = 1) → (
  (.bool false : Value) = v)))) ∧ (¬ (x29 = 0) → (
  ((x0 = 1) → (
  ((x2 = 0) → (
  ((x4 = (-1)) → (
  ((b0 = true) → (
  ((b1 = true) → (
  (.bool false : Value) = v)) ∧ (¬ (b1 = true) → (
  ((x12 = 0) → (
  ∃ (x30 : Int), ∃ (x31 : Int), ∃ (x32 : Int), ∃ (x33 : Int), (∀ w' : World, Below w.heap.size w w' → Calls Try.prog 28 #[.int .i64 2000, .int .i64 0, .int .i64 2000, .int .i64 0] w' (Vc.Ret (.agg #[.int .i64 x30, .int .i64 x31, .int .i64 x32, .int .i64 x33]) w')) ∧
  (((x8 = x30) ∧ ((x9 = x31) ∧ ((x10 = x32) ∧ (x11 = x33)))) → (
  ((x17 = 8) → (
  ((x18 = 0) → (
  ∃ (x34 : Int), ∃ (x35 : Int), ∃ (x36 : Int), ∃ (x37 : Int), (∀ w' : World, Below w.heap.size w w' → Calls Try.prog 28 #[.int .i64 94, .int .i64 (-1), .int .i64 102, .int .i64 6] w' (Vc.Ret (.agg #[.int .i64 x34, .int .i64 x35, .int .i64 x36, .int .i64 x37]) w')) ∧
  (.bool false : Value) = v)) ∧ (¬ (x18 = 0) → (
  (.bool false : Value) = v)))) ∧ (¬ (x17 = 8) → (
  (.bool false : Value) = v)))) ∧ (¬ ((x8 = x30) ∧ ((x9 = x31) ∧ ((x10 = x32) ∧ (x11 = x33)))) → (
  (.bool false : Value) = v)))) ∧ (¬ (x12 = 0) → (
  (.bool false : Value) = v)))))) ∧ (¬ (b0 = true) → (
  (.bool false : Value) = v)))) ∧ (¬ (x4 = (-1)) → (
  (.bool false : Value) = v)))) ∧ (¬ (x2 = 0) → (
  (.bool false : Value) = v)))) ∧ (¬ (x0 = 1) → (
  (.bool false : Value) = v)))))))) ∧ (¬ (x20 = 1) → (
  ((x20 = 0) → (
  ((x0 = 1) → (
  ((x2 = 0) → (
  ((x4 = (-1)) → (
  ((b0 = true) → (
  ((b1 = true) → (
  (.bool false : Value) = v)) ∧ (¬ (b1 = true) → (
  ((x12 = 0) → (
  ∃ (x21 : Int), ∃ (x22 : Int), ∃ (x23 : Int), ∃ (x24 : Int), (∀ w' : World, Below w.heap.size w w' → Calls Try.prog 28 #[.int .i64 2000, .int .i64 0, .int .i64 2000, .int .i64 0] w' (Vc.Ret (.agg #[.int .i64 x21, .int .i64 x22, .int .i64 x23, .int .i64 x24]) w')) ∧
  (((x8 = x21) ∧ ((x9 = x22) ∧ ((x10 = x23) ∧ (x11 = x24)))) → (
  ((x17 = 8) → (
  ((x18 = 0) → (
  (.bool false : Value) = v)) ∧ (¬ (x18 = 0) → (
  (.bool false : Value) = v)))) ∧ (¬ (x17 = 8) → (
  (.bool false : Value) = v)))) ∧ (¬ ((x8 = x21) ∧ ((x9 = x22) ∧ ((x10 = x23) ∧ (x11 = x24)))) → (
  (.bool false : Value) = v)))) ∧ (¬ (x12 = 0) → (
  (.bool false : Value) = v)))))) ∧ (¬ (b0 = true) → (
  (.bool false : Value) = v)))) ∧ (¬ (x4 = (-1)) → (
  (.bool false : Value) = v)))) ∧ (¬ (x2 = 0) → (
  (.bool false : Value) = v)))) ∧ (¬ (x0 = 1) → (
  (.bool false : Value) = v)))) ∧ (¬ (x20 = 0) → (
  ((x0 = 1) → (
  ((x2 = 0) → (
  ((x4 = (-1)) → (
  ((b0 = true) → (
  ((b1 = true) → (
  (.bool false : Value) = v)) ∧ (¬ (b1 = true) → (
  ((x12 = 0) → (
  ∃ (x21 : Int), ∃ (x22 : Int), ∃ (x23 : Int), ∃ (x24 : Int), (∀ w' : World, Below w.heap.size w w' → Calls Try.prog 28 #[.int .i64 2000, .int .i64 0, .int .i64 2000, .int .i64 0] w' (Vc.Ret (.agg #[.int .i64 x21, .int .i64 x22, .int .i64 x23, .int .i64 x24]) w')) ∧
  (((x8 = x21) ∧ ((x9 = x22) ∧ ((x10 = x23) ∧ (x11 = x24)))) → (
  ((x17 = 8) → (
  ((x18 = 0) → (
  (.bool false : Value) = v)) ∧ (¬ (x18 = 0) → (
  (.bool false : Value) = v)))) ∧ (¬ (x17 = 8) → (
  (.bool false : Value) = v)))) ∧ (¬ ((x8 = x21) ∧ ((x9 = x22) ∧ ((x10 = x23) ∧ (x11 = x24)))) → (
  (.bool false : Value) = v)))) ∧ (¬ (x12 = 0) → (
  (.bool false : Value) = v)))))) ∧ (¬ (b0 = true) → (
  (.bool false : Value) = v)))) ∧ (¬ (x4 = (-1)) → (
  (.bool false : Value) = v)))) ∧ (¬ (x2 = 0) → (
  (.bool false : Value) = v)))) ∧ (¬ (x0 = 1) → (
  (.bool false : Value) = v)))))))) ∧ (¬ (b4 = true) → (
  ∃ (x20 : Int), ∃ (x21 : Int), ∃ (x22 : Int), ∃ (x23 : Int), (∀ w' : World, Below w.heap.size w w' → Calls Try.prog 41 #[.agg #[.int .i64 10, .int .i64 10, .int .i64 20, .int .i64 20], .int .i64 1] w' (Vc.Ret (.agg #[.int .i64 x20, .int .i64 x21, .int .i64 x22, .int .i64 x23]) w')) ∧
  ∃ (x24 : Int), ∃ (x25 : Int), (∀ w' : World, Below w.heap.size w w' → Calls Try.prog 42 #[.agg #[.int .i64 x20, .int .i64 x21]] w' (Vc.Ret (.agg #[.int .i64 x24, .int .i64 x25]) w')) ∧
  ∃ (x26 : Int), ∃ (x27 : Int), (∀ w' : World, Below w.heap.size w w' → Calls Try.prog 42 #[.agg #[.int .i64 x22, .int .i64 x23]] w' (Vc.Ret (.agg #[.int .i64 x26, .int .i64 x27]) w')) ∧
  ∃ (x28 : Int), (∀ (β : Nat → Nat) (w' : World), Below w.heap.size w w' → (Vc.RowOk w.heap.size (β 32) (β 33) (β 34) (β 35) (([.int .i64 0, .int .i64 0, .int .i64 100, .int .i64 0, .int .i64 100, .int .i64 100, .int .i64 0, .int .i64 100] : List Value)) 2 34 w' ∧ True) → Calls Try.prog 43 #[.agg #[.string ⟨(([113] : List UInt8)).toArray⟩, Vc.ownV (β 32) (β 33) (β 34) (β 35)], .agg #[.int .i64 x24, .int .i64 x25, .int .i64 x26, .int .i64 x27]] w' (Vc.Ret (.int .i64 x28) w')) ∧
  ((x28 = 1) → (
  ((x0 = 1) → (
  ((x2 = 0) → (
  ((x4 = (-1)) → (
  ((b0 = true) → (
  ((b1 = true) → (
  (.bool false : Value) = v)) ∧ (¬ (b1 = true) → (
  ((x12 = 0) → (
  ∃ (x29 : Int), ∃ (x30 : Int), ∃ (x31 : Int), ∃ (x32 : Int), (∀ w' : World, Below w.heap.size w w' → Calls Try.prog 28 #[.int .i64 2000, .int .i64 0, .int .i64 2000, .int .i64 0] w' (Vc.Ret (.agg #[.int .i64 x29, .int .i64 x30, .int .i64 x31, .int .i64 x32]) w')) ∧
  (((x8 = x29) ∧ ((x9 = x30) ∧ ((x10 = x31) ∧ (x11 = x32)))) → (
  ((x17 = 8) → (
  ((x18 = 0) → (
  ∃ (x33 : Int), ∃ (x34 : Int), ∃ (x35 : Int), ∃ (x36 : Int), (∀ w' : World, Below w.heap.size w w' → Calls Try.prog 28 #[.int .i64 94, .int .i64 (-1), .int .i64 102, .int .i64 6] w' (Vc.Ret (.agg #[.int .i64 x33, .int .i64 x34, .int .i64 x35, .int .i64 x36]) w')) ∧
  (.bool false : Value) = v)) ∧ (¬ (x18 = 0) → (
  (.bool false : Value) = v)))) ∧ (¬ (x17 = 8) → (
  (.bool false : Value) = v)))) ∧ (¬ ((x8 = x29) ∧ ((x9 = x30) ∧ ((x10 = x31) ∧ (x11 = x32)))) → (
  (.bool false : Value) = v)))) ∧ (¬ (x12 = 0) → (
  (.bool false : Value) = v)))))) ∧ (¬ (b0 = true) → (
  (.bool false : Value) = v)))) ∧ (¬ (x4 = (-1)) → (
  (.bool false : Value) = v)))) ∧ (¬ (x2 = 0) → (
  (.bool false : Value) = v)))) ∧ (¬ (x0 = 1) → (
  (.bool false : Value) = v)))) ∧ (¬ (x28 = 1) → (
  ((x28 = 0) → (
  ((x0 = 1) → (
  ((x2 = 0) → (
  ((x4 = (-1)) → (
  ((b0 = true) → (
  ((b1 = true) → (
  (.bool false : Value) = v)) ∧ (¬ (b1 = true) → (
  ((x12 = 0) → (
  ∃ (x29 : Int), ∃ (x30 : Int), ∃ (x31 : Int), ∃ (x32 : Int), (∀ w' : World, Below w.heap.size w w' → Calls Try.prog 28 #[.int .i64 2000, .int .i64 0, .int .i64 2000, .int .i64 0] w' (Vc.Ret (.agg #[.int .i64 x29, .int .i64 x30, .int .i64 x31, .int .i64 x32]) w')) ∧
  (((x8 = x29) ∧ ((x9 = x30) ∧ ((x10 = x31) ∧ (x11 = x32)))) → (
  ((x17 = 8) → (
  ((x18 = 0) → (
  ∃ (x33 : Int), ∃ (x34 : Int), ∃ (x35 : Int), ∃ (x36 : Int), (∀ w' : World, Below w.heap.size w w' → Calls Try.prog 28 #[.int .i64 94, .int .i64 (-1), .int .i64 102, .int .i64 6] w' (Vc.Ret (.agg #[.int .i64 x33, .int .i64 x34, .int .i64 x35, .int .i64 x36]) w')) ∧
  (.bool ((x24 == x33) && ((x25 == x34) && ((x26 == x35) && (x27 == x36)))) : Value) = v)) ∧ (¬ (x18 = 0) → (
  (.bool false : Value) = v)))) ∧ (¬ (x17 = 8) → (
  (.bool false : Value) = v)))) ∧ (¬ ((x8 = x29) ∧ ((x9 = x30) ∧ ((x10 = x31) ∧ (x11 = x32)))) → (
  (.bool false : Value) = v)))) ∧ (¬ (x12 = 0) → (
  (.bool false : Value) = v)))))) ∧ (¬ (b0 = true) → (
  (.bool false : Value) = v)))) ∧ (¬ (x4 = (-1)) → (
  (.bool false : Value) = v)))) ∧ (¬ (x2 = 0) → (
  (.bool false : Value) = v)))) ∧ (¬ (x0 = 1) → (
  (.bool false : Value) = v)))) ∧ (¬ (x28 = 0) → (
  ((x0 = 1) → (
  ((x2 = 0) → (
  ((x4 = (-1)) → (
  ((b0 = true) → (
  ((b1 = true) → (
  (.bool false : Value) = v)) ∧ (¬ (b1 = true) → (
  ((x12 = 0) → (
  ∃ (x29 : Int), ∃ (x30 : Int), ∃ (x31 : Int), ∃ (x32 : Int), (∀ w' : World, Below w.heap.size w w' → Calls Try.prog 28 #[.int .i64 2000, .int .i64 0, .int .i64 2000, .int .i64 0] w' (Vc.Ret (.agg #[.int .i64 x29, .int .i64 x30, .int .i64 x31, .int .i64 x32]) w')) ∧
  (((x8 = x29) ∧ ((x9 = x30) ∧ ((x10 = x31) ∧ (x11 = x32)))) → (
  ((x17 = 8) → (
  ((x18 = 0) → (
  ∃ (x33 : Int), ∃ (x34 : Int), ∃ (x35 : Int), ∃ (x36 : Int), (∀ w' : World, Below w.heap.size w w' → Calls Try.prog 28 #[.int .i64 94, .int .i64 (-1), .int .i64 102, .int .i64 6] w' (Vc.Ret (.agg #[.int .i64 x33, .int .i64 x34, .int .i64 x35, .int .i64 x36]) w')) ∧
  (.bool false : Value) = v)) ∧ (¬ (x18 = 0) → (
  (.bool false : Value) = v)))) ∧ (¬ (x17 = 8) → (
  (.bool false : Value) = v)))) ∧ (¬ ((x8 = x29) ∧ ((x9 = x30) ∧ ((x10 = x31) ∧ (x11 = x32)))) → (
  (.bool false : Value) = v)))) ∧ (¬ (x12 = 0) → (
  (.bool false : Value) = v)))))) ∧ (¬ (b0 = true) → (
  (.bool false : Value) = v)))) ∧ (¬ (x4 = (-1)) → (
  (.bool false : Value) = v)))) ∧ (¬ (x2 = 0) → (
  (.bool false : Value) = v)))) ∧ (¬ (x0 = 1) → (
  (.bool false : Value) = v)))))))))) ∧ (¬ (x19 = 0) → (
  ((x0 = 1) → (
  ((x2 = 0) → (
  ((x4 = (-1)) → (
  ((b0 = true) → (
  ((b1 = true) → (
  (.bool false : Value) = v)) ∧ (¬ (b1 = true) → (
  ((x12 = 0) → (
  ∃ (x20 : Int), ∃ (x21 : Int), ∃ (x22 : Int), ∃ (x23 : Int), (∀ w' : World, Below w.heap.size w w' → Calls Try.prog 28 #[.int .i64 2000, .int .i64 0, .int .i64 2000, .int .i64 0] w' (Vc.Ret (.agg #[.int .i64 x20, .int .i64 x21, .int .i64 x22, .int .i64 x23]) w')) ∧
  (((x8 = x20) ∧ ((x9 = x21) ∧ ((x10 = x22) ∧ (x11 = x23)))) → (
  ((x17 = 8) → (
  ((x18 = 0) → (
  ∃ (x24 : Int), ∃ (x25 : Int), ∃ (x26 : Int), ∃ (x27 : Int), (∀ w' : World, Below w.heap.size w w' → Calls Try.prog 28 #[.int .i64 94, .int .i64 (-1), .int .i64 102, .int .i64 6] w' (Vc.Ret (.agg #[.int .i64 x24, .int .i64 x25, .int .i64 x26, .int .i64 x27]) w')) ∧
  (.bool false : Value) = v)) ∧ (¬ (x18 = 0) → (
  (.bool false : Value) = v)))) ∧ (¬ (x17 = 8) → (
  (.bool false : Value) = v)))) ∧ (¬ ((x8 = x20) ∧ ((x9 = x21) ∧ ((x10 = x22) ∧ (x11 = x23)))) → (
  (.bool false : Value) = v)))) ∧ (¬ (x12 = 0) → (
  (.bool false : Value) = v)))))) ∧ (¬ (b0 = true) → (
  (.bool false : Value) = v)))) ∧ (¬ (x4 = (-1)) → (
  (.bool false : Value) = v)))) ∧ (¬ (x2 = 0) → (
  (.bool false : Value) = v)))) ∧ (¬ (x0 = 1) → (
  (.bool false : Value) = v)))))))) ∧ (¬ (b3 = true) → (
  ∃ (b4 : Bool), (∀ w' : World, Below w.heap.size w w' → Calls Try.prog 37 #[.agg #[.int .i64 95, .int .i64 0, .int .i64 101, .int .i64 5]] w' (Vc.Ret (.bool b4) w')) ∧
  ((b4 = true) → (
  ∃ (x19 : Int), (∀ (β : Nat → Nat) (w' : World), Below w.heap.size w w' → (Vc.RowOk w.heap.size (β 32) (β 33) (β 34) (β 35) (([.int .i64 0, .int .i64 0, .int .i64 100, .int .i64 0, .int .i64 100, .int .i64 100, .int .i64 0, .int .i64 100] : List Value)) 2 34 w' ∧ True) → Calls Try.prog 43 #[.agg #[.string ⟨(([113] : List UInt8)).toArray⟩, Vc.ownV (β 32) (β 33) (β 34) (β 35)], .agg #[.int .i64 95, .int .i64 0, .int .i64 101, .int .i64 5]] w' (Vc.Ret (.int .i64 x19) w')) ∧
  ((x19 = 1) → (
  ∃ (x20 : Int), ∃ (x21 : Int), ∃ (x22 : Int), ∃ (x23 : Int), (∀ w' : World, Below w.heap.size w w' → Calls Try.prog 41 #[.agg #[.int .i64 95, .int .i64 0, .int .i64 101, .int .i64 5], .int .i64 1] w' (Vc.Ret (.agg #[.int .i64 x20, .int .i64 x21, .int .i64 x22, .int .i64 x23]) w')) ∧
  ∃ (x24 : Int), ∃ (x25 : Int), (∀ w' : World, Below w.heap.size w w' → Calls Try.prog 42 #[.agg #[.int .i64 x20, .int .i64 x21]] w' (Vc.Ret (.agg #[.int .i64 x24, .int .i64 x25]) w')) ∧
  ∃ (x26 : Int), ∃ (x27 : Int), (∀ w' : World, Below w.heap.size w w' → Calls Try.prog 42 #[.agg #[.int .i64 x22, .int .i64 x23]] w' (Vc.Ret (.agg #[.int .i64 x26, .int .i64 x27]) w')) ∧
  ∃ (x28 : Int), (∀ (β : Nat → Nat) (w' : World), Below w.heap.size w w' → (Vc.RowOk w.heap.size (β 32) (β 33) (β 34) (β 35) (([.int .i64 0, .int .i64 0, .int .i64 100, .int .i64 0, .int .i64 100, .int .i64 100, .int .i64 0, .int .i64 100] : List Value)) 2 34 w' ∧ True) → Calls Try.prog 43 #[.agg #[.string ⟨(([113] : List UInt8)).toArray⟩, Vc.ownV (β 32) (β 33) (β 34) (β 35)], .agg #[.int .i64 x24, .int .i64 x25, .int .i64 x26, .int .i64 x27]] w' (Vc.Ret (.int .i64 x28) w')) ∧
  ((x28 = 1) → (
  ((x0 = 1) → (
  ((x2 = 0) → (
  ((x4 = (-1)) → (
  ((b0 = true) → (
  ((b1 = true) → (
  (.bool false : Value) = v)) ∧ (¬ (b1 = true) → (
  ((x12 = 0) → (
  ∃ (x29 : Int), ∃ (x30 : Int), ∃ (x31 : Int), ∃ (x32 : Int), (∀ w' : World, Below w.heap.size w w' → Calls Try.prog 28 #[.int .i64 2000, .int .i64 0, .int .i64 2000, .int .i64 0] w' (Vc.Ret (.agg #[.int .i64 x29, .int .i64 x30, .int .i64 x31, .int .i64 x32]) w')) ∧
  (((x8 = x29) ∧ ((x9 = x30) ∧ ((x10 = x31) ∧ (x11 = x32)))) → (
  ((x17 = 8) → (
  ((x18 = 0) → (
  ∃ (x33 : Int), ∃ (x34 : Int), ∃ (x35 : Int), ∃ (x36 : Int), (∀ w' : World, Below w.heap.size w w' → Calls Try.prog 28 #[.int .i64 94, .int .i64 (-1), .int .i64 102, .int .i64 6] w' (Vc.Ret (.agg #[.int .i64 x33, .int .i64 x34, .int .i64 x35, .int .i64 x36]) w')) ∧
  (.bool false : Value) = v)) ∧ (¬ (x18 = 0) → (
  (.bool false : Value) = v)))) ∧ (¬ (x17 = 8) → (
  (.bool false : Value) = v)))) ∧ (¬ ((x8 = x29) ∧ ((x9 = x30) ∧ ((x10 = x31) ∧ (x11 = x32)))) → (
  (.bool false : Value) = v)))) ∧ (¬ (x12 = 0) → (
  (.bool false : Value) = v)))))) ∧ (¬ (b0 = true) → (
  (.bool false : Value) = v)))) ∧ (¬ (x4 = (-1)) → (
  (.bool false : Value) = v)))) ∧ (¬ (x2 = 0) → (
  (.bool false : Value) = v)))) ∧ (¬ (x0 = 1) → (
  (.bool false : Value) = v)))) ∧ (¬ (x28 = 1) → (
  ((x28 = 0) → (
  ((x0 = 1) → (
  ((x2 = 0) → (
  ((x4 = (-1)) → (
  ((b0 = true) → (
  ((b1 = true) → (
  (.bool false : Value) = v)) ∧ (¬ (b1 = true) → (
  ((x12 = 0) → (
  ∃ (x29 : Int), ∃ (x30 : Int), ∃ (x31 : Int), ∃ (x32 : Int), (∀ w' : World, Below w.heap.size w w' → Calls Try.prog 28 #[.int .i64 2000, .int .i64 0, .int .i64 2000, .int .i64 0] w' (Vc.Ret (.agg #[.int .i64 x29, .int .i64 x30, .int .i64 x31, .int .i64 x32]) w')) ∧
  (((x8 = x29) ∧ ((x9 = x30) ∧ ((x10 = x31) ∧ (x11 = x32)))) → (
  ((x17 = 8) → (
  ((x18 = 0) → (
  ∃ (x33 : Int), ∃ (x34 : Int), ∃ (x35 : Int), ∃ (x36 : Int), (∀ w' : World, Below w.heap.size w w' → Calls Try.prog 28 #[.int .i64 94, .int .i64 (-1), .int .i64 102, .int .i64 6] w' (Vc.Ret (.agg #[.int .i64 x33, .int .i64 x34, .int .i64 x35, .int .i64 x36]) w')) ∧
  (.bool false : Value) = v)) ∧ (¬ (x18 = 0) → (
  (.bool false : Value) = v)))) ∧ (¬ (x17 = 8) → (
  (.bool false : Value) = v)))) ∧ (¬ ((x8 = x29) ∧ ((x9 = x30) ∧ ((x10 = x31) ∧ (x11 = x32)))) → (
  (.bool false : Value) = v)))) ∧ (¬ (x12 = 0) → (
  (.bool false : Value) = v)))))) ∧ (¬ (b0 = true) → (
  (.bool false : Value) = v)))) ∧ (¬ (x4 = (-1)) → (
  (.bool false : Value) = v)))) ∧ (¬ (x2 = 0) → (
  (.bool false : Value) = v)))) ∧ (¬ (x0 = 1) → (
  (.bool false : Value) = v)))) ∧ (¬ (x28 = 0) → (
  ((x0 = 1) → (
  ((x2 = 0) → (
  ((x4 = (-1)) → (
  ((b0 = true) → (
  ((b1 = true) → (
  (.bool false : Value) = v)) ∧ (¬ (b1 = true) → (
  ((x12 = 0) → (
  ∃ (x29 : Int), ∃ (x30 : Int), ∃ (x31 : Int), ∃ (x32 : Int), (∀ w' : World, Below w.heap.size w w' → Calls Try.prog 28 #[.int .i64 2000, .int .i64 0, .int .i64 2000, .int .i64 0] w' (Vc.Ret (.agg #[.int .i64 x29, .int .i64 x30, .int .i64 x31, .int .i64 x32]) w')) ∧
  (((x8 = x29) ∧ ((x9 = x30) ∧ ((x10 = x31) ∧ (x11 = x32)))) → (
  ((x17 = 8) → (
  ((x18 = 0) → (
  ∃ (x33 : Int), ∃ (x34 : Int), ∃ (x35 : Int), ∃ (x36 : Int), (∀ w' : World, Below w.heap.size w w' → Calls Try.prog 28 #[.int .i64 94, .int .i64 (-1), .int .i64 102, .int .i64 6] w' (Vc.Ret (.agg #[.int .i64 x33, .int .i64 x34, .int .i64 x35, .int .i64 x36]) w')) ∧
  (.bool false : Value) = v)) ∧ (¬ (x18 = 0) → (
  (.bool false : Value) = v)))) ∧ (¬ (x17 = 8) → (
  (.bool false : Value) = v)))) ∧ (¬ ((x8 = x29) ∧ ((x9 = x30) ∧ ((x10 = x31) ∧ (x11 = x32)))) → (
  (.bool false : Value) = v)))) ∧ (¬ (x12 = 0) → (
  (.bool false : Value) = v)))))) ∧ (¬ (b0 = true) → (
  (.bool false : Value) = v)))) ∧ (¬ (x4 = (-1)) → (
  (.bool false : Value) = v)))) ∧ (¬ (x2 = 0) → (
  (.bool false : Value) = v)))) ∧ (¬ (x0 = 1) → (
  (.bool false : Value) = v)))))))) ∧ (¬ (x19 = 1) → (
  ((x19 = 0) → (
  ∃ (x20 : Int), ∃ (x21 : Int), ∃ (x22 : Int), ∃ (x23 : Int), (∀ w' : World, Below w.heap.size w w' → Calls Try.prog 41 #[.agg #[.int .i64 95, .int .i64 0, .int .i64 101, .int .i64 5], .int .i64 1] w' (Vc.Ret (.agg #[.int .i64 x20, .int .i64 x21, .int .i64 x22, .int .i64 x23]) w')) ∧
  ∃ (x24 : Int), ∃ (x25 : Int), (∀ w' : World, Below w.heap.size w w' → Calls Try.prog 42 #[.agg #[.int .i64 x20, .int .i64 x21]] w' (Vc.Ret (.agg #[.int .i64 x24, .int .i64 x25]) w')) ∧
  ∃ (x26 : Int), ∃ (x27 : Int), (∀ w' : World, Below w.heap.size w w' → Calls Try.prog 42 #[.agg #[.int .i64 x22, .int .i64 x23]] w' (Vc.Ret (.agg #[.int .i64 x26, .int .i64 x27]) w')) ∧
  ∃ (x28 : Int), (∀ (β : Nat → Nat) (w' : World), Below w.heap.size w w' → (Vc.RowOk w.heap.size (β 32) (β 33) (β 34) (β 35) (([.int .i64 0, .int .i64 0, .int .i64 100, .int .i64 0, .int .i64 100, .int .i64 100, .int .i64 0, .int .i64 100] : List Value)) 2 34 w' ∧ True) → Calls Try.prog 43 #[.agg #[.string ⟨(([113] : List UInt8)).toArray⟩, Vc.ownV (β 32) (β 33) (β 34) (β 35)], .agg #[.int .i64 x24, .int .i64 x25, .int .i64 x26, .int .i64 x27]] w' (Vc.Ret (.int .i64 x28) w')) ∧
  ((x28 = 1) → (
  ((x0 = 1) → (
  ((x2 = 0) → (
  ((x4 = (-1)) → (
  ((b0 = true) → (
  ((b1 = true) → (
  (.bool false : Value) = v)) ∧ (¬ (b1 = true) → (
  ((x12 = 0) → (
  ∃ (x29 : Int), ∃ (x30 : Int), ∃ (x31 : Int), ∃ (x32 : Int), (∀ w' : World, Below w.heap.size w w' → Calls Try.prog 28 #[.int .i64 2000, .int .i64 0, .int .i64 2000, .int .i64 0] w' (Vc.Ret (.agg #[.int .i64 x29, .int .i64 x30, .int .i64 x31, .int .i64 x32]) w')) ∧
  (((x8 = x29) ∧ ((x9 = x30) ∧ ((x10 = x31) ∧ (x11 = x32)))) → (
  ((x17 = 8) → (
  ((x18 = 0) → (
  ∃ (x33 : Int), ∃ (x34 : Int), ∃ (x35 : Int), ∃ (x36 : Int), (∀ w' : World, Below w.heap.size w w' → Calls Try.prog 28 #[.int .i64 94, .int .i64 (-1), .int .i64 102, .int .i64 6] w' (Vc.Ret (.agg #[.int .i64 x33, .int .i64 x34, .int .i64 x35, .int .i64 x36]) w')) ∧
  (.bool false : Value) = v)) ∧ (¬ (x18 = 0) → (
  (.bool false : Value) = v)))) ∧ (¬ (x17 = 8) → (
  (.bool false : Value) = v)))) ∧ (¬ ((x8 = x29) ∧ ((x9 = x30) ∧ ((x10 = x31) ∧ (x11 = x32)))) → (
  (.bool false : Value) = v)))) ∧ (¬ (x12 = 0) → (
  (.bool false : Value) = v)))))) ∧ (¬ (b0 = true) → (
  (.bool false : Value) = v)))) ∧ (¬ (x4 = (-1)) → (
  (.bool false : Value) = v)))) ∧ (¬ (x2 = 0) → (
  (.bool false : Value) = v)))) ∧ (¬ (x0 = 1) → (
  (.bool false : Value) = v)))) ∧ (¬ (x28 = 1) → (
  ((x28 = 0) → (
  ((x0 = 1) → (
  ((x2 = 0) → (
  ((x4 = (-1)) → (
  ((b0 = true) → (
  ((b1 = true) → (
  (.bool false : Value) = v)) ∧ (¬ (b1 = true) → (
  ((x12 = 0) → (
  ∃ (x29 : Int), ∃ (x30 : Int), ∃ (x31 : Int), ∃ (x32 : Int), (∀ w' : World, Below w.heap.size w w' → Calls Try.prog 28 #[.int .i64 2000, .int .i64 0, .int .i64 2000, .int .i64 0] w' (Vc.Ret (.agg #[.int .i64 x29, .int .i64 x30, .int .i64 x31, .int .i64 x32]) w')) ∧
  (((x8 = x29) ∧ ((x9 = x30) ∧ ((x10 = x31) ∧ (x11 = x32)))) → (
  ((x17 = 8) → (
  ((x18 = 0) → (
  ∃ (x33 : Int), ∃ (x34 : Int), ∃ (x35 : Int), ∃ (x36 : Int), (∀ w' : World, Below w.heap.size w w' → Calls Try.prog 28 #[.int .i64 94, .int .i64 (-1), .int .i64 102, .int .i64 6] w' (Vc.Ret (.agg #[.int .i64 x33, .int .i64 x34, .int .i64 x35, .int .i64 x36]) w')) ∧
  (.bool ((x24 == x33) && ((x25 == x34) && ((x26 == x35) && (x27 == x36)))) : Value) = v)) ∧ (¬ (x18 = 0) → (
  (.bool false : Value) = v)))) ∧ (¬ (x17 = 8) → (
  (.bool false : Value) = v)))) ∧ (¬ ((x8 = x29) ∧ ((x9 = x30) ∧ ((x10 = x31) ∧ (x11 = x32)))) → (
  (.bool false : Value) = v)))) ∧ (¬ (x12 = 0) → (
  (.bool false : Value) = v)))))) ∧ (¬ (b0 = true) → (
  (.bool false : Value) = v)))) ∧ (¬ (x4 = (-1)) → (
  (.bool false : Value) = v)))) ∧ (¬ (x2 = 0) → (
  (.bool false : Value) = v)))) ∧ (¬ (x0 = 1) → (
  (.bool false : Value) = v)))) ∧ (¬ (x28 = 0) → (
  ((x0 = 1) → (
  ((x2 = 0) → (
  ((x4 = (-1)) → (
  ((b0 = true) → (
  ((b1 = true) → (
  (.bool false : Value) = v)) ∧ (¬ (b1 = true) → (
  ((x12 = 0) → (
  ∃ (x29 : Int), ∃ (x30 : Int), ∃ (x31 : Int), ∃ (x32 : Int), (∀ w' : World, Below w.heap.size w w' → Calls Try.prog 28 #[.int .i64 2000, .int .i64 0, .int .i64 2000, .int .i64 0] w' (Vc.Ret (.agg #[.int .i64 x29, .int .i64 x30, .int .i64 x31, .int .i64 x32]) w')) ∧
  (((x8 = x29) ∧ ((x9 = x30) ∧ ((x10 = x31) ∧ (x11 = x32)))) → (
  ((x17 = 8) → (
  ((x18 = 0) → (
  ∃ (x33 : Int), ∃ (x34 : Int), ∃ (x35 : Int), ∃ (x36 : Int), (∀ w' : World, Below w.heap.size w w' → Calls Try.prog 28 #[.int .i64 94, .int .i64 (-1), .int .i64 102, .int .i64 6] w' (Vc.Ret (.agg #[.int .i64 x33, .int .i64 x34, .int .i64 x35, .int .i64 x36]) w')) ∧
  (.bool false : Value) = v)) ∧ (¬ (x18 = 0) → (
  (.bool false : Value) = v)))) ∧ (¬ (x17 = 8) → (
  (.bool false : Value) = v)))) ∧ (¬ ((x8 = x29) ∧ ((x9 = x30) ∧ ((x10 = x31) ∧ (x11 = x32)))) → (
  (.bool false : Value) = v)))) ∧ (¬ (x12 = 0) → (
  (.bool false : Value) = v)))))) ∧ (¬ (b0 = true) → (
  (.bool false : Value) = v)))) ∧ (¬ (x4 = (-1)) → (
  (.bool false : Value) = v)))) ∧ (¬ (x2 = 0) → (
  (.bool false : Value) = v)))) ∧ (¬ (x0 = 1) → (
  (.bool false : Value) = v)))))))) ∧ (¬ (x19 = 0) → (
  ((x0 = 1) → (
  ((x2 = 0) → (
  ((x4 = (-1)) → (
  ((b0 = true) → (
  ((b1 = true) → (
  (.bool false : Value) = v)) ∧ (¬ (b1 = true) → (
  ((x12 = 0) → (
  ∃ (x20 : Int), ∃ (x21 : Int), ∃ (x22 : Int), ∃ (x23 : Int), (∀ w' : World, Below w.heap.size w w' → Calls Try.prog 28 #[.int .i64 2000, .int .i64 0, .int .i64 2000, .int .i64 0] w' (Vc.Ret (.agg #[.int .i64 x20, .int .i64 x21, .int .i64 x22, .int .i64 x23]) w')) ∧
  (((x8 = x20) ∧ ((x9 = x21) ∧ ((x10 = x22) ∧ (x11 = x23)))) → (
  ((x17 = 8) → (
  ((x18 = 0) → (
  (.bool false : Value) = v)) ∧ (¬ (x18 = 0) → (
  (.bool false : Value) = v)))) ∧ (¬ (x17 = 8) → (
  (.bool false : Value) = v)))) ∧ (¬ ((x8 = x20) ∧ ((x9 = x21) ∧ ((x10 = x22) ∧ (x11 = x23)))) → (
  (.bool false : Value) = v)))) ∧ (¬ (x12 = 0) → (
  (.bool false : Value) = v)))))) ∧ (¬ (b0 = true) → (
  (.bool false : Value) = v)))) ∧ (¬ (x4 = (-1)) → (
  (.bool false : Value) = v)))) ∧ (¬ (x2 = 0) → (
  (.bool false : Value) = v)))) ∧ (¬ (x0 = 1) → (
  (.bool false : Value) = v)))))))) ∧ (¬ (b4 = true) → (
  ((x0 = 1) → (
  ((x2 = 0) → (
  ((x4 = (-1)) → (
  ((b0 = true) → (
  ((b1 = true) → (
  (.bool false : Value) = v)) ∧ (¬ (b1 = true) → (
  ((x12 = 0) → (
  ∃ (x19 : Int), ∃ (x20 : Int), ∃ (x21 : Int), ∃ (x22 : Int), (∀ w' : World, Below w.heap.size w w' → Calls Try.prog 28 #[.int .i64 2000, .int .i64 0, .int .i64 2000, .int .i64 0] w' (Vc.Ret (.agg #[.int .i64 x19, .int .i64 x20, .int .i64 x21, .int .i64 x22]) w')) ∧
  (((x8 = x19) ∧ ((x9 = x20) ∧ ((x10 = x21) ∧ (x11 = x22)))) → (
  ((x17 = 8) → (
  ((x18 = 0) → (
  ∃ (x23 : Int), ∃ (x24 : Int), ∃ (x25 : Int), ∃ (x26 : Int), (∀ w' : World, Below w.heap.size w w' → Calls Try.prog 28 #[.int .i64 94, .int .i64 (-1), .int .i64 102, .int .i64 6] w' (Vc.Ret (.agg #[.int .i64 x23, .int .i64 x24, .int .i64 x25, .int .i64 x26]) w')) ∧
  (.bool false : Value) = v)) ∧ (¬ (x18 = 0) → (
  (.bool false : Value) = v)))) ∧ (¬ (x17 = 8) → (
  (.bool false : Value) = v)))) ∧ (¬ ((x8 = x19) ∧ ((x9 = x20) ∧ ((x10 = x21) ∧ (x11 = x22)))) → (
  (.bool false : Value) = v)))) ∧ (¬ (x12 = 0) → (
  (.bool false : Value) = v)))))) ∧ (¬ (b0 = true) → (
  (.bool false : Value) = v)))) ∧ (¬ (x4 = (-1)) → (
  (.bool false : Value) = v)))) ∧ (¬ (x2 = 0) → (
  (.bool false : Value) = v)))) ∧ (¬ (x0 = 1) → (
  (.bool false : Value) = v)))))))) ∧ (¬ (b2 = true) → (
  (.bool false : Value) = v))) : Calls Try.prog 11 #[] w (Vc.Ret v w) :=
  Vc.pure_of (base_inl [16, 19, 40, 39, 27, 29, 28] (by kernel_rfl)) [] 200 Try.func11 (b := (Try.f11.body).getD .skip) (by kernel_rfl) [] ⟨0, 0, 0, 0, 0, 0, 0⟩ (Vc.envOf [] [] [] []) (by kernel_rfl) (by kernel_rfl) (by kernel_rfl) h

theorem vc_safety_near_1 (x0 : Int) (w : World) (v : Value) (h : 
  ∀ x1 : Int, x1 = (if 536870912 < x0 then 536870912 else x0) →
  ∀ x2 : Int, x2 = (if x1 > (-536870912) then x1 else (-536870912)) →
  (.int .i64 x2 : Value) = v) : Calls Try.prog 72 #[.int .i64 x0] w (Vc.Ret v w) :=
  Vc.pure_of base [] 200 Try.func72 (b := (Try.f72.body).getD .skip) (by kernel_rfl) [.cv (.one (.int .i64 (.var 0)))] ⟨1, 0, 0, 0, 0, 0, 0⟩ (Vc.envOf [x0] [] [] []) (by kernel_rfl) (by kernel_rfl) (by kernel_rfl) h

end Go.Proofs.Ytbpcdmjjdnjmbaa
