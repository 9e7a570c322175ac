/- What the walks of functions come to (written by program). -/
import Derived.Test.YtpjajgeajncdgaaFkG1
set_option linter.unusedVariables false
set_option maxRecDepth 100000
namespace Go.Proofs.Ytpjajgeajncdgaa
open Go Go.RowKit
theorem vc_ullagelaw09_SafetyFalls (x0 x1 x2 x3 x4 x5 x6 x7 x8 x9 x10 x11 x12 x13 x14 x15 x16 x17 : Int) (w : World) (v : Value) (h : 
  ∀ x18 : Int, x18 = IntKind.i64.wrap (x0) →
  ∀ x19 : Int, x19 = IntKind.i64.wrap (x6) →
  ∀ x20 : Int, x20 = IntKind.i64.wrap (2 * x19) →
  ∀ x21 : Int, x21 = IntKind.i64.wrap (x20 * x18) →
  ∀ x22 : Int, x22 = IntKind.i64.wrap (x21 * x18) →
  ∀ x23 : Int, x23 = IntKind.i64.wrap (Int.tdiv x22 2) →
  ∀ x24 : Int, x24 = IntKind.i64.wrap (x5) →
  ∀ x25 : Int, x25 = IntKind.i64.wrap (x24 * x18) →
  ∀ x26 : Int, x26 = IntKind.i64.wrap (x23 - x25) →
  ((x18 < 0) → (
  ∃ (b0 : Bool), (∀ w' : World, Below w.heap.size w w' → Calls Try.prog 4 #[] w' (Vc.Ret (.bool b0) w')) ∧
  (.bool b0 : Value) = v)) ∧ (¬ (x18 < 0) → (
  ((x20 ≤ 0) → (
  ∃ (b0 : Bool), (∀ w' : World, Below w.heap.size w w' → Calls Try.prog 4 #[] w' (Vc.Ret (.bool b0) w')) ∧
  (.bool b0 : Value) = v)) ∧ (¬ (x20 ≤ 0) → (
  ((x26 < 1) → (
  ∃ (b0 : Bool), (∀ w' : World, Below w.heap.size w w' → Calls Try.prog 4 #[] w' (Vc.Ret (.bool b0) w')) ∧
  (.bool b0 : Value) = v)) ∧ (¬ (x26 < 1) → (
  ∀ x27 : Int, x27 = IntKind.i64.wrap (x1) →
  ∃ (x28 : Int), ∃ (x29 : Int), (∀ w' : World, Below w.heap.size w w' → Calls Try.prog 5 #[.int .i64 x27, .int .u16 x9] w' (Vc.Ret (.agg #[.int .i64 x28, .int .i64 x29]) w')) ∧
  ∀ x30 : Int, x30 = IntKind.i64.wrap (x2) →
  ∃ (x31 : Int), ∃ (x32 : Int), (∀ w' : World, Below w.heap.size w w' → Calls Try.prog 5 #[.int .i64 x30, .int .u16 x10] w' (Vc.Ret (.agg #[.int .i64 x31, .int .i64 x32]) w')) ∧
  ∃ (x33 : Int), ∃ (x34 : Int), (∀ w' : World, Below w.heap.size w w' → Calls Try.prog 5 #[.int .i64 x26, .int .u16 x11] w' (Vc.Ret (.agg #[.int .i64 x33, .int .i64 x34]) w')) ∧
  ∀ x35 : Int, x35 = IntKind.i64.wrap (x3) →
  ∃ (x36 : Int), ∃ (x37 : Int), (∀ w' : World, Below w.heap.size w w' → Calls Try.prog 5 #[.int .i64 x35, .int .u16 x12] w' (Vc.Ret (.agg #[.int .i64 x36, .int .i64 x37]) w')) ∧
  ∀ x38 : Int, x38 = IntKind.i64.wrap (x4) →
  ∃ (x39 : Int), ∃ (x40 : Int), (∀ w' : World, Below w.heap.size w w' → Calls Try.prog 5 #[.int .i64 x38, .int .u16 x13] w' (Vc.Ret (.agg #[.int .i64 x39, .int .i64 x40]) w')) ∧
  ∀ x41 : Int, x41 = IntKind.i64.wrap (x5) →
  ∃ (x42 : Int), ∃ (x43 : Int), (∀ w' : World, Below w.heap.size w w' → Calls Try.prog 5 #[.int .i64 x41, .int .u16 x14] w' (Vc.Ret (.agg #[.int .i64 x42, .int .i64 x43]) w')) ∧
  ∃ (x44 : Int), ∃ (x45 : Int), (∀ w' : World, Below w.heap.size w w' → Calls Try.prog 5 #[.int .i64 x20, .int .u16 x15] w' (Vc.Ret (.agg #[.int .i64 x44, .int .i64 x45]) w')) ∧
  ∀ x46 : Int, x46 = IntKind.i64.wrap (x7) →
  ∃ (x47 : Int), ∃ (x48 : Int), (∀ w' : World, Below w.heap.size w w' → Calls Try.prog 5 #[.int .i64 x46, .int .u16 x16] w' (Vc.Ret (.agg #[.int .i64 x47, .int .i64 x48]) w')) ∧
  ∀ x49 : Int, x49 = IntKind.i64.wrap (x8) →
  ∃ (x50 : Int), ∃ (x51 : Int), (∀ w' : World, Below w.heap.size w w' → Calls Try.prog 5 #[.int .i64 x49, .int .u16 x17] w' (Vc.Ret (.agg #[.int .i64 x50, .int .i64 x51]) w')) ∧
  ∃ (x52 : Int), ∃ (x53 : Int), ∃ (x54 : Int), ∃ (x55 : Int), ∃ (x56 : Int), (∀ w' : World, Below w.heap.size w w' → Calls Try.prog 6 #[.agg #[.int .i64 x28, .int .i64 x29, .int .i64 x31, .int .i64 x32, .int .i64 x33, .int .i64 x34, .int .i64 x36, .int .i64 x37, .int .i64 x39, .int .i64 x40, .int .i64 x42, .int .i64 x43, .int .i64 x44, .int .i64 x45, .int .i64 x47, .int .i64 x48, .int .i64 x50, .int .i64 x51]] w' (Vc.Ret (.tuple #[.agg #[.int .i64 x52, .int .i64 x53, .int .i64 x54, .int .i64 x55], .int .i64 x56]) w')) ∧
  ∀ x57 : Int, x57 = IntKind.i64.wrap (x1) →
  ∀ x58 : Int, x58 = IntKind.i64.wrap (x3) →
  ∀ x59 : Int, x59 = IntKind.i64.wrap (x7) →
  ∀ x60 : Int, x60 = IntKind.i64.wrap (x58 + x59) →
  ∀ x61 : Int, x61 = IntKind.i64.wrap (x60 * x18) →
  ∀ x62 : Int, x62 = IntKind.i64.wrap (x57 + x61) →
  ∀ x63 : Int, x63 = IntKind.i64.wrap (1000 * x62) →
  ∀ x64 : Int, x64 = IntKind.i64.wrap (x2) →
  ∀ x65 : Int, x65 = IntKind.i64.wrap (x4) →
  ∀ x66 : Int, x66 = IntKind.i64.wrap (x8) →
  ∀ x67 : Int, x67 = IntKind.i64.wrap (x65 + x66) →
  ∀ x68 : Int, x68 = IntKind.i64.wrap (x67 * x18) →
  ∀ x69 : Int, x69 = IntKind.i64.wrap (x64 + x68) →
  ∀ x70 : Int, x70 = IntKind.i64.wrap (1000 * x69) →
  ((x56 = 0) → (
  ((x52 ≤ x63) → (
  ((x63 ≤ x54) → (
  ((x53 ≤ x70) → (
  ((x70 ≤ x55) → (
  ∃ (b0 : Bool), (∀ w' : World, Below w.heap.size w w' → Calls Try.prog 4 #[] w' (Vc.Ret (.bool b0) w')) ∧
  (.bool b0 : Value) = v)) ∧ (¬ (x70 ≤ x55) → (
  (.bool false : Value) = v)))) ∧ (¬ (x53 ≤ x70) → (
  (.bool false : Value) = v)))) ∧ (¬ (x63 ≤ x54) → (
  (.bool false : Value) = v)))) ∧ (¬ (x52 ≤ x63) → (
  (.bool false : Value) = v)))) ∧ (¬ (x56 = 0) → (
  (.bool false : Value) = v))))))))) : Calls Try.prog 3 #[.agg #[.int .i8 x0, .int .i8 x1, .int .i8 x2, .int .i8 x3, .int .i8 x4, .int .i8 x5, .int .i8 x6, .int .i8 x7, .int .i8 x8, .int .u16 x9, .int .u16 x10, .int .u16 x11, .int .u16 x12, .int .u16 x13, .int .u16 x14, .int .u16 x15, .int .u16 x16, .int .u16 x17]] w (Vc.Ret v w) :=
  Vc.pure_of base [] 200 Try.func3 (b := (Try.f3.body).getD .skip) (by kernel_rfl) [.cv (.agg [.int .i8 (.var 0), .int .i8 (.var 1), .int .i8 (.var 2), .int .i8 (.var 3), .int .i8 (.var 4), .int .i8 (.var 5), .int .i8 (.var 6), .int .i8 (.var 7), .int .i8 (.var 8), .int .u16 (.var 9), .int .u16 (.var 10), .int .u16 (.var 11), .int .u16 (.var 12), .int .u16 (.var 13), .int .u16 (.var 14), .int .u16 (.var 15), .int .u16 (.var 16), .int .u16 (.var 17)])] ⟨18, 0, 0, 0, 0, 0, 0⟩ (Vc.envOf [x0, x1, x2, x3, x4, x5, x6, x7, x8, x9, x10, x11, x12, x13, x14, x15, x16, x17] [] [] []) (by kernel_rfl) (by kernel_rfl) (by kernel_rfl) h

theorem vc_ullagelaw09_about (x0 x1 : Int) (w : World) (v : Value) (h : 
  ∀ x2 : Int, x2 = IntKind.i64.wrap (x0 * 4294967296) →
  ∀ x3 : Int, x3 = IntKind.i64.wrap (x1) →
  ∀ x4 : Int, x4 = IntKind.i64.wrap (x2 - x3) →
  ∀ x5 : Int, x5 = IntKind.i64.wrap (x0 * 4294967296) →
  ∀ x6 : Int, x6 = IntKind.i64.wrap (x1) →
  ∀ x7 : Int, x7 = IntKind.i64.wrap (x5 + x6) →
  (.agg #[.int .i64 x4, .int .i64 x7] : Value) = v) : Calls Try.prog 5 #[.int .i64 x0, .int .u16 x1] w (Vc.Ret v w) :=
  Vc.pure_of base [] 200 Try.func5 (b := (Try.f5.body).getD .skip) (by kernel_rfl) [.cv (.one (.int .i64 (.var 0))), .cv (.one (.int .u16 (.var 1)))] ⟨2, 0, 0, 0, 0, 0, 0⟩ (Vc.envOf [x0, x1] [] [] []) (by kernel_rfl) (by kernel_rfl) (by kernel_rfl) h

theorem vc_ullagelaw09_rect (x0 x1 x2 x3 : Int) (w : World) (v : Value) (h : 
  (.agg #[.int .i64 x0, .int .i64 x1, .int .i64 x2, .int .i64 x3] : Value) = v) : Calls Try.prog 9 #[.int .i64 x0, .int .i64 x1, .int .i64 x2, .int .i64 x3] w (Vc.Ret v w) :=
  Vc.pure_of base [] 200 Try.func9 (b := (Try.f9.body).getD .skip) (by kernel_rfl) [.cv (.one (.int .i64 (.var 0))), .cv (.one (.int .i64 (.var 1))), .cv (.one (.int .i64 (.var 2))), .cv (.one (.int .i64 (.var 3)))] ⟨4, 0, 0, 0, 0, 0, 0⟩ (Vc.envOf [x0, x1, x2, x3] [] [] []) (by kernel_rfl) (by kernel_rfl) (by kernel_rfl) h

theorem vc_ullagelaw09_awake (w : World) (v : Value) (h : 
  ∃ (x0 : Int), ∃ (x1 : Int), (∀ (β : Nat → Nat) (w' : World), Below w.heap.size w w' → ((w.heap.size ≤ β 1 ∧ w'.heap[β 1]? = some (.cells #[.int .i64 0, .int .i64 0, .int .i64 100, .int .i64 0, .int .i64 100, .int .i64 100, .int .i64 0, .int .i64 100] 35)) ∧ True) → Calls Try.prog 7 #[.agg #[.string ⟨(([113] : List UInt8)).toArray⟩, .slice (some ⟨β 1, 0, none⟩) 4 4], .agg #[.int .i64 10, .int .i64 10, .int .i64 90, .int .i64 100]] w' (Vc.Ret (.tuple #[.int .i64 x0, .int .i64 x1]) w')) ∧
  ∃ (x2 : Int), ∃ (x3 : Int), (∀ (β : Nat → Nat) (w' : World), Below w.heap.size w w' → ((w.heap.size ≤ β 4 ∧ w'.heap[β 4]? = some (.cells #[.int .i64 0, .int .i64 0, .int .i64 100, .int .i64 0, .int .i64 100, .int .i64 100, .int .i64 0, .int .i64 100] 35)) ∧ True) → Calls Try.prog 7 #[.agg #[.string ⟨(([113] : List UInt8)).toArray⟩, .slice (some ⟨β 4, 0, none⟩) 4 4], .agg #[.int .i64 10, .int .i64 10, .int .i64 90, .int .i64 101]] w' (Vc.Ret (.tuple #[.int .i64 x2, .int .i64 x3]) w')) ∧
  ∃ (x4 : Int), ∃ (x5 : Int), (∀ (β : Nat → Nat) (w' : World), Below w.heap.size w w' → ((w.heap.size ≤ β 6 ∧ w'.heap[β 6]? = some (.cells #[.int .i64 0, .int .i64 0, .int .i64 10, .int .i64 0, .int .i64 0, .int .i64 10] 35)) ∧ True) → Calls Try.prog 7 #[.agg #[.string ⟨(([116] : List UInt8)).toArray⟩, .slice (some ⟨β 6, 0, none⟩) 3 3], .agg #[.int .i64 6, .int .i64 6, .int .i64 9, .int .i64 9]] w' (Vc.Ret (.tuple #[.int .i64 x4, .int .i64 x5]) w')) ∧
  ∃ (b0 : Bool), ∃ (x6 : Int), (∀ (β : Nat → Nat) (w' : World), Below w.heap.size w w' → ((w.heap.size ≤ β 9 ∧ w'.heap[β 9]? = some (.cells #[.int .i64 0, .int .i64 0, .int .i64 100, .int .i64 0, .int .i64 100, .int .i64 100, .int .i64 0, .int .i64 100] 35)) ∧ (w.heap.size ≤ β 11 ∧ w'.heap[β 11]? = some (.cells #[.int .i64 0, .int .i64 110, .int .i64 100, .int .i64 110, .int .i64 100, .int .i64 210, .int .i64 0, .int .i64 210] 35)) ∧ True) → Calls Try.prog 10 #[.agg #[.string ⟨(([113] : List UInt8)).toArray⟩, .slice (some ⟨β 9, 0, none⟩) 4 4], .agg #[.string ⟨(([113] : List UInt8)).toArray⟩, .slice (some ⟨β 11, 0, none⟩) 4 4], .int .i64 9] w' (Vc.Ret (.tuple #[.bool b0, .int .i64 x6]) w')) ∧
  ∃ (b1 : Bool), ∃ (x7 : Int), (∀ (β : Nat → Nat) (w' : World), Below w.heap.size w w' → ((w.heap.size ≤ β 13 ∧ w'.heap[β 13]? = some (.cells #[.int .i64 0, .int .i64 0, .int .i64 100, .int .i64 0, .int .i64 100, .int .i64 100, .int .i64 0, .int .i64 100] 35)) ∧ (w.heap.size ≤ β 15 ∧ w'.heap[β 15]? = some (.cells #[.int .i64 0, .int .i64 110, .int .i64 100, .int .i64 110, .int .i64 100, .int .i64 210, .int .i64 0, .int .i64 210] 35)) ∧ True) → Calls Try.prog 10 #[.agg #[.string ⟨(([113] : List UInt8)).toArray⟩, .slice (some ⟨β 13, 0, none⟩) 4 4], .agg #[.string ⟨(([113] : List UInt8)).toArray⟩, .slice (some ⟨β 15, 0, none⟩) 4 4], .int .i64 10] w' (Vc.Ret (.tuple #[.bool b1, .int .i64 x7]) w')) ∧
  ∃ (x8 : Int), ∃ (x9 : Int), ∃ (x10 : Int), ∃ (x11 : Int), ∃ (x12 : Int), (∀ w' : World, Below w.heap.size w w' → Calls Try.prog 6 #[.agg #[.int .i64 4294967296, .int .i64 4294967296, .int .i64 0, .int .i64 0, .int .i64 0, .int .i64 0, .int .i64 4294967296, .int .i64 4294967296, .int .i64 0, .int .i64 0, .int .i64 21474836480, .int .i64 21474836480, .int .i64 42949672960, .int .i64 42949672960, .int .i64 0, .int .i64 0, .int .i64 0, .int .i64 0]] w' (Vc.Ret (.tuple #[.agg #[.int .i64 x8, .int .i64 x9, .int .i64 x10, .int .i64 x11], .int .i64 x12]) w')) ∧
  ∃ (x13 : Int), ∃ (x14 : Int), ∃ (x15 : Int), ∃ (x16 : Int), (∀ w' : World, Below w.heap.size w w' → Calls Try.prog 9 #[.int .i64 0, .int .i64 0, .int .i64 1, .int .i64 1] w' (Vc.Ret (.agg #[.int .i64 x13, .int .i64 x14, .int .i64 x15, .int .i64 x16]) w')) ∧
  ∃ (x17 : Int), ∃ (x18 : Int), (∀ (β : Nat → Nat) (w' : World), Below w.heap.size w w' → ((w.heap.size ≤ β 22 ∧ w'.heap[β 22]? = some (.cells #[.int .i64 0, .int .i64 0, .int .i64 100, .int .i64 0, .int .i64 100, .int .i64 100, .int .i64 0, .int .i64 100] 35)) ∧ (w.heap.size ≤ β 25 ∧ w'.heap[β 25]? = some (.cells #[.string ⟨(([113] : List UInt8)).toArray⟩, .slice (some ⟨β 24, 0, none⟩) 4 4, .int .i64 1000, .int .i64 400] 53)) ∧ (w.heap.size ≤ β 24 ∧ w'.heap[β 24]? = some (.cells #[.int .i64 0, .int .i64 0, .int .i64 100, .int .i64 0, .int .i64 100, .int .i64 100, .int .i64 0, .int .i64 100] 35)) ∧ True) → Calls Try.prog 12 #[.agg #[.string ⟨(([113] : List UInt8)).toArray⟩, .slice (some ⟨β 22, 0, none⟩) 4 4, .slice none 0 0, .slice (some ⟨β 25, 0, none⟩) 1 1, .int .i64 1, .int .i64 1, .int .i64 5, .int .i64 3], .agg #[.int .i64 x13, .int .i64 x14, .int .i64 x15, .int .i64 x16]] w' (Vc.Ret (.tuple #[.int .i64 x17, .int .i64 x18]) w')) ∧
  ∃ (b2 : Bool), (∀ (β : Nat → Nat) (w' : World), Below w.heap.size w w' → ((w.heap.size ≤ β 22 ∧ w'.heap[β 22]? = some (.cells #[.int .i64 0, .int .i64 0, .int .i64 100, .int .i64 0, .int .i64 100, .int .i64 100, .int .i64 0, .int .i64 100] 35)) ∧ (w.heap.size ≤ β 25 ∧ w'.heap[β 25]? = some (.cells #[.string ⟨(([113] : List UInt8)).toArray⟩, .slice (some ⟨β 24, 0, none⟩) 4 4, .int .i64 1000, .int .i64 400] 53)) ∧ (w.heap.size ≤ β 24 ∧ w'.heap[β 24]? = some (.cells #[.int .i64 0, .int .i64 0, .int .i64 100, .int .i64 0, .int .i64 100, .int .i64 100, .int .i64 0, .int .i64 100] 35)) ∧ True) → Calls Try.prog 24 #[.agg #[.string ⟨(([113] : List UInt8)).toArray⟩, .slice (some ⟨β 22, 0, none⟩) 4 4, .slice none 0 0, .slice (some ⟨β 25, 0, none⟩) 1 1, .int .i64 1, .int .i64 1, .int .i64 5, .int .i64 3]] w' (Vc.Ret (.bool b2) w')) ∧
  ((b2 = true) → (
  ∃ (b3 : Bool), (∀ w' : World, Below w.heap.size w w' → Calls Try.prog 19 #[.agg #[.int .i64 10, .int .i64 10, .int .i64 20, .int .i64 20]] w' (Vc.Ret (.bool b3) w')) ∧
  ((b3 = true) → (
  ∃ (x19 : Int), (∀ (β : Nat → Nat) (w' : World), Below w.heap.size w w' → (Vc.RowOk w.heap.size (β 32) (β 33) (β 34) (β 35) (([.int .i64 0, .int .i64 0, .int .i64 100, .int .i64 0, .int .i64 100, .int .i64 100, .int .i64 0, .int .i64 100] : List Value)) 2 35 w' ∧ True) → Calls Try.prog 21 #[.agg #[.string ⟨(([113] : List UInt8)).toArray⟩, Vc.ownV (β 32) (β 33) (β 34) (β 35)], .agg #[.int .i64 10, .int .i64 10, .int .i64 20, .int .i64 20]] w' (Vc.Ret (.int .i64 x19) w')) ∧
  ((x19 = 1) → (
  ∃ (b4 : Bool), (∀ w' : World, Below w.heap.size w w' → Calls Try.prog 19 #[.agg #[.int .i64 95, .int .i64 0, .int .i64 101, .int .i64 5]] w' (Vc.Ret (.bool b4) w')) ∧
  ((b4 = true) → (
  ∃ (x20 : Int), (∀ (β : Nat → Nat) (w' : World), Below w.heap.size w w' → (Vc.RowOk w.heap.size (β 32) (β 33) (β 34) (β 35) (([.int .i64 0, .int .i64 0, .int .i64 100, .int .i64 0, .int .i64 100, .int .i64 100, .int .i64 0, .int .i64 100] : List Value)) 2 35 w' ∧ True) → Calls Try.prog 21 #[.agg #[.string ⟨(([113] : List UInt8)).toArray⟩, Vc.ownV (β 32) (β 33) (β 34) (β 35)], .agg #[.int .i64 95, .int .i64 0, .int .i64 101, .int .i64 5]] w' (Vc.Ret (.int .i64 x20) w')) ∧
  ((x20 = 1) → (
  ∃ (x21 : Int), ∃ (x22 : Int), ∃ (x23 : Int), ∃ (x24 : Int), (∀ w' : World, Below w.heap.size w w' → Calls Try.prog 25 #[.agg #[.int .i64 95, .int .i64 0, .int .i64 101, .int .i64 5], .int .i64 1] w' (Vc.Ret (.agg #[.int .i64 x21, .int .i64 x22, .int .i64 x23, .int .i64 x24]) w')) ∧
  ∃ (x25 : Int), ∃ (x26 : Int), (∀ w' : World, Below w.heap.size w w' → Calls Try.prog 28 #[.agg #[.int .i64 x21, .int .i64 x22]] w' (Vc.Ret (.agg #[.int .i64 x25, .int .i64 x26]) w')) ∧
  ∃ (x27 : Int), ∃ (x28 : Int), (∀ w' : World, Below w.heap.size w w' → Calls Try.prog 28 #[.agg #[.int .i64 x23, .int .i64 x24]] w' (Vc.Ret (.agg #[.int .i64 x27, .int .i64 x28]) w')) ∧
  ∃ (x29 : Int), (∀ (β : Nat → Nat) (w' : World), Below w.heap.size w w' → (Vc.RowOk w.heap.size (β 32) (β 33) (β 34) (β 35) (([.int .i64 0, .int .i64 0, .int .i64 100, .int .i64 0, .int .i64 100, .int .i64 100, .int .i64 0, .int .i64 100] : List Value)) 2 35 w' ∧ True) → Calls Try.prog 21 #[.agg #[.string ⟨(([113] : List UInt8)).toArray⟩, Vc.ownV (β 32) (β 33) (β 34) (β 35)], .agg #[.int .i64 x25, .int .i64 x26, .int .i64 x27, .int .i64 x28]] w' (Vc.Ret (.int .i64 x29) w')) ∧
  ((x29 = 1) → (
  ((x0 = 1) → (
  ((x2 = 0) → (
  ((x4 = (-1)) → (
  ((b0 = true) → (
  ((b1 = true) → (
  (.bool false : Value) = v)) ∧ (¬ (b1 = true) → (
  ((x12 = 0) → (
  ∃ (x30 : Int), ∃ (x31 : Int), ∃ (x32 : Int), ∃ (x33 : Int), (∀ w' : World, Below w.heap.size w w' → Calls Try.prog 9 #[.int .i64 2000, .int .i64 0, .int .i64 2000, .int .i64 0] w' (Vc.Ret (.agg #[.int .i64 x30, .int .i64 x31, .int .i64 x32, .int .i64 x33]) w')) ∧
  (((x8 = x30) ∧ ((x9 = x31) ∧ ((x10 = x32) ∧ (x11 = x33)))) → (
  ((x17 = 8) → (
  ((x18 = 0) → (
  ∃ (x34 : Int), ∃ (x35 : Int), ∃ (x36 : Int), ∃ (x37 : Int), (∀ w' : World, Below w.heap.size w w' → Calls Try.prog 9 #[.int .i64 94, .int .i64 (-1), .int .i64 102, .int .i64 6] w' (Vc.Ret (.agg #[.int .i64 x34, .int .i64 x35, .int .i64 x36, .int .i64 x37]) w')) ∧
  (.bool false : Value) = v)) ∧ (¬ (x18 = 0) → (
  (.bool false : Value) = v)))) ∧ (¬ (x17 = 8) → (
  (.bool false : Value) = v)))) ∧ (¬ ((x8 = x30) ∧ ((x9 = x31) ∧ ((x10 = x32) ∧ (x11 = x33)))) → (
  (.bool false : Value) = v)))) ∧ (¬ (x12 = 0) → (
  (.bool false : Value) = v)))))) ∧ (¬ (b0 = true) → (
  (.bool false : Value) = v)))) ∧ (¬ (x4 = (-1)) → (
  (.bool false : Value) = v)))) ∧ (¬ (x2 = 0) → (
  (.bool false : Value) = v)))) ∧ (¬ (x0 = 1) → (
  (.bool false : Value) = v)))) ∧ (¬ (x29 = 1) → (
  ((x29 = 0) → (
  ((x0 = 1) → (
  ((x2 = 0) → (
  ((x4 = (-1)) → (
  ((b0 = true) → (
  ((b1 = true) → (
  (.bool false : Value) = v)) ∧ (¬ (b1 = true) → (
  ((x12 = 0) → (
  ∃ (x30 : Int), ∃ (x31 : Int), ∃ (x32 : Int), ∃ (x33 : Int), (∀ w' : World, Below w.heap.size w w' → Calls Try.prog 9 #[.int .i64 2000, .int .i64 0, .int .i64 2000, .int .i64 0] w' (Vc.Ret (.agg #[.int .i64 x30, .int .i64 x31, .int .i64 x32, .int .i64 x33]) w')) ∧
  (((x8 = x30) ∧ ((x9 = x31) ∧ ((x10 = x32) ∧ (x11 = x33)))) → (
  ((x17 = 8) → (
  ((x18 = 0) → (
  ∃ (x34 : Int), ∃ (x35 : Int), ∃ (x36 : Int), ∃ (x37 : Int), (∀ w' : World, Below w.heap.size w w' → Calls Try.prog 9 #[.int .i64 94, .int .i64 (-1), .int .i64 102, .int .i64 6] w' (Vc.Ret (.agg #[.int .i64 x34, .int .i64 x35, .int .i64 x36, .int .i64 x37]) w')) ∧
  (.bool false : Value) = v)) ∧ (¬ (x18 = 0) → (
  (.bool false : Value) = v)))) ∧ (¬ (x17 = 8) → (
  (.bool false : Value) = v)))) ∧ (¬ ((x8 = x30) ∧ ((x9 = x31) ∧ ((x10 = x32) ∧ (x11 = x33)))) → (
  (.bool false : Value) = v)))) ∧ (¬ (x12 = 0) → (
  (.bool false : Value) = v)))))) ∧ (¬ (b0 = true) → (
  (.bool false : Value) = v)))) ∧ (¬ (x4 = (-1)) → (
  (.bool false : Value) = v)))) ∧ (¬ (x2 = 0) → (
  (.bool false : Value) = v)))) ∧ (¬ (x0 = 1) → (
  (.bool false : Value) = v)))) ∧ (¬ (x29 = 0) → (
  ((x0 = 1) → (
  ((x2 = 0) → (
  ((x4 = (-1)) → (
  ((b0 = true) → (
  ((b1 = true) → (
  (.bool false : Value) = v)) ∧ (¬ (b1 = true) → (
  ((x12 = 0) → (
  ∃ (x30 : Int), ∃ (x31 : Int), ∃ (x32 : Int), ∃ (x33 : Int), (∀ w' : World, Below w.heap.size w w' → Calls Try.prog 9 #[.int .i64 2000, .int .i64 0, .int .i64 2000, .int .i64 0] w' (Vc.Ret (.agg #[.int .i64 x30, .int .i64 x31, .int .i64 x32, .int .i64 x33]) w')) ∧
  (((x8 = x30) ∧ ((x9 = x31) ∧ ((x10 = x32) ∧ (x11 = x33)))) → (
  ((x17 = 8) → (
  ((x18 = 0) → (
  ∃ (x34 : Int), ∃ (x35 : Int), ∃ (x36 : Int), ∃ (x37 : Int), (∀ w' : World, Below w.heap.size w w' → Calls Try.prog 9 #[.int .i64 94, .int .i64 (-1), .int .i64 102, .int .i64 6] w' (Vc.Ret (.agg #[.int .i64 x34, .int .i64 x35, .int .i64 x36, .int .i64 x37]) w')) ∧
  (.bool false : Value) = v)) ∧ (¬ (x18 = 0) → (
  (.bool false : Value) = v)))) ∧ (¬ (x17 = 8) → (
  (.bool false : Value) = v)))) ∧ (¬ ((x8 = x30) ∧ ((x9 = x31) ∧ ((x10 = x32) ∧ (x11 = x33)))) → (
  (.bool false : Value) = v)))) ∧ (¬ (x12 = 0) → (
  (.bool false : Value) = v)))))) ∧ (¬ (b0 = true) → (
  (.bool false : Value) = v)))) ∧ (¬ (x4 = (-1)) → (
  (.bool false : Value) = v)))) ∧ (¬ (x2 = 0) → (
  (.bool false : Value) = v)))) ∧ (¬ (x0 = 1) → (
  (.bool false : Value) = v)))))))) ∧ (¬ (x20 = 1) → (
  ((x20 = 0) → (
  ∃ (x21 : Int), ∃ (x22 : Int), ∃ (x23 : Int), ∃ (x24 : Int), (∀ w' : World, Below w.heap.size w w' → Calls Try.prog 25 #[.agg #[.int .i64 95, .int .i64 0, .int .i64 101, .int .i64 5], .int .i64 1] w' (Vc.Ret (.agg #[.int .i64 x21, .int .i64 x22, .int .i64 x23, .int .i64 x24]) w')) ∧
  ∃ (x25 : Int), ∃ (x26 : Int), (∀ w' : World, Below w.heap.size w w' → Calls Try.prog 28 #[.agg #[.int .i64 x21, .int .i64 x22]] w' (Vc.Ret (.agg #[.int .i64 x25, .int .i64 x26]) w')) ∧
  ∃ (x27 : Int), ∃ (x28 : Int), (∀ w' : World, Below w.heap.size w w' → Calls Try.prog 28 #[.agg #[.int .i64 x23, .int .i64 x24]] w' (Vc.Ret (.agg #[.int .i64 x27, .int .i64 x28]) w')) ∧
  ∃ (x29 : Int), (∀ (β : Nat → Nat) (w' : World), Below w.heap.size w w' → (Vc.RowOk w.heap.size (β 32) (β 33) (β 34) (β 35) (([.int .i64 0, .int .i64 0, .int .i64 100, .int .i64 0, .int .i64 100, .int .i64 100, .int .i64 0, .int .i64 100] : List Value)) 2 35 w' ∧ True) → Calls Try.prog 21 #[.agg #[.string ⟨(([113] : List UInt8)).toArray⟩, Vc.ownV (β 32) (β 33) (β 34) (β 35)], .agg #[.int .i64 x25, .int .i64 x26, .int .i64 x27, .int .i64 x28]] w' (Vc.Ret (.int .i64 x29) w')) ∧
  ((x29 = 1) → (
  ((x0 = 1) → (
  ((x2 = 0) → (
  ((x4 = (-1)) → (
  ((b0 = true) → (
  ((b1 = true) → (
  (.bool false : Value) = v)) ∧ (¬ (b1 = true) → (
  ((x12 = 0) → (
  ∃ (x30 : Int), ∃ (x31 : Int), ∃ (x32 : Int), ∃ (x33 : Int), (∀ w' : World, Below w.heap.size w w' → Calls Try.prog 9 #[.int .i64 2000, .int .i64 0, .int .i64 2000, .int .i64 0] w' (Vc.Ret (.agg #[.int .i64 x30, .int .i64 x31, .int .i64 x32, .int .i64 x33]) w')) ∧
  (((x8 = x30) ∧ ((x9 = x31) ∧ ((x10 = x32) ∧ (x11 = x33)))) → (
  ((x17 = 8) → (
  ((x18 = 0) → (
  ∃ (x34 : Int), ∃ (x35 : Int), ∃ (x36 : Int), ∃ (x37 : Int), (∀ w' : World, Below w.heap.size w w' → Calls Try.prog 9 #[.int .i64 94, .int .i64 (-1), .int .i64 102, .int .i64 6] w' (Vc.Ret (.agg #[.int .i64 x34, .int .i64 x35, .int .i64 x36, .int .i64 x37]) w')) ∧
  (.bool false : Value) = v)) ∧ (¬ (x18 = 0) → (
  (.bool false : Value) = v)))) ∧ (¬ (x17 = 8) → (
  (.bool false : Value) = v)))) ∧ (¬ ((x8 = x30) ∧ ((x9 = x31) ∧ ((x10 = x32) ∧ (x11 = x33)))) → (
  (.bool false : Value) = v)))) ∧ (¬ (x12 = 0) → (
  (.bool false : Value) = v)))))) ∧ (¬ (b0 = true) → (
  (.bool false : Value) = v)))) ∧ (¬ (x4 = (-1)) → (
  (.bool false : Value) = v)))) ∧ (¬ (x2 = 0) → (
  (.bool false : Value) = v)))) ∧ (¬ (x0 = 1) → (
  (.bool false : Value) = v)))) ∧ (¬ (x29 = 1) → (
  ((x29 = 0) → (
  ((x0 = 1) → (
  ((x2 = 0) → (
  ((x4 = (-1)) → (
  ((b0 = true) → (
  ((b1 = true) → (
  (.bool false : Value) = v)) ∧ (¬ (b1 = true) → (
  ((x12 = 0) → (
  ∃ (x30 : Int), ∃ (x31 : Int), ∃ (x32 : Int), ∃ (x33 : Int), (∀ w' : World, Below w.heap.size w w' → Calls Try.prog 9 #[.int .i64 2000, .int .i64 0, .int .i64 2000, .int .i64 0] w' (Vc.Ret (.agg #[.int .i64 x30, .int .i64 x31, .int .i64 x32, .int .i64 x33]) w')) ∧
  (((x8 = x30) ∧ ((x9 = x31) ∧ ((x10 = x32) ∧ (x11 = x33)))) → (
  ((x17 = 8) → (
  ((x18 = 0) → (
  ∃ (x34 : Int), ∃ (x35 : Int), ∃ (x36 : Int), ∃ (x37 : Int), (∀ w' : World, Below w.heap.size w w' → Calls Try.prog 9 #[.int .i64 94, .int .i64 (-1), .int .i64 102, .int .i64 6] w' (Vc.Ret (.agg #[.int .i64 x34, .int .i64 x35, .int .i64 x36, .int .i64 x37]) w')) ∧
  (.bool ((x25 == x34) && ((x26 == x35) && ((x27 == x36) && (x28 == x37)))) : Value) = v)) ∧ (¬ (x18 = 0) → (
  (.bool false : Value) = v)))) ∧ (¬ (x17 = 8) → (
  (.bool false : Value) = v)))) ∧ (¬ ((x8 = x30) ∧ ((x9 = x31) ∧ ((x10 = x32) ∧ (x11 = x33)))) → (
  (.bool false : Value) = v)))) ∧ (¬ (x12 = 0) → (
  (.bool false : Value) = v)))))) ∧ (¬ (b0 = true) → (
  (.bool false : Value) = v)))) ∧ (¬ (x4 = (-1)) → (
  (.bool false : Value) = v)))) ∧ (¬ (x2 = 0) → (
  (.bool false : Value) = v)))) ∧ (¬ (x0 = 1) → (
  (.bool false : Value) = v)))) ∧ (¬ (x29 = 0) → (
  ((x0 = 1) → (
  ((x2 = 0) → (
  ((x4 = (-1)) → (
  ((b0 = true) → (
  ((b1 = true) → (
  (.bool false : Value) = v)) ∧ (¬ (b1 = true) → (
  ((x12 = 0) → (
  ∃ (x30 : Int), ∃ (x31 : Int), ∃ (x32 : Int), ∃ (x33 : Int), (∀ w' : World, Below w.heap.size w w' → Calls Try.prog 9 #[.int .i64 2000, .int .i64 0, .int .i64 2000, .int .i64 0] w' (Vc.Ret (.agg #[.int .i64 x30, .int .i64 x31, .int .i64 x32, .int .i64 x33]) w')) ∧
  (((x8 = x30) ∧ ((x9 = x31) ∧ ((x10 = x32) ∧ (x11 = x33)))) → (
  ((x17 = 8) → (
  ((x18 = 0) → (
  ∃ (x34 : Int), ∃ (x35 : Int), ∃ (x36 : Int), ∃ (x37 : Int), (∀ w' : World, Below w.heap.size w w' → Calls Try.prog 9 #[.int .i64 94, .int .i64 (-1), .int .i64 102, .int .i64 6] w' (Vc.Ret (.agg #[.int .i64 x34, .int .i64 x35, .int .i64 x36, .int .i64 x37]) w')) ∧
  (.bool false : Value) = v)) ∧ (¬ (x18 = 0) → (
  (.bool false : Value) = v)))) ∧ (¬ (x17 = 8) → (
  (.bool false : Value) = v)))) ∧ (¬ ((x8 = x30) ∧ ((x9 = x31) ∧ ((x10 = x32) ∧ (x11 = x33)))) → (
  (.bool false : Value) = v)))) ∧ (¬ (x12 = 0) → (
  (.bool false : Value) = v)))))) ∧ (¬ (b0 = true) → (
  (.bool false : Value) = v)))) ∧ (¬ (x4 = (-1)) → (
  (.bool false : Value) = v)))) ∧ (¬ (x2 = 0) → (
  (.bool false : Value) = v)))) ∧ (¬ (x0 = 1) → (
  (.bool false : Value) = v)))))))) ∧ (¬ (x20 = 0) → (
  ((x0 = 1) → (
  ((x2 = 0) → (
  ((x4 = (-1)) → (
  ((b0 = true) → (
  ((b1 = true) → (
  (.bool false : Value) = v)) ∧ (¬ (b1 = true) → (
  ((x12 = 0) → (
  ∃ (x21 : Int), ∃ (x22 : Int), ∃ (x23 : Int), ∃ (x24 : Int), (∀ w' : World, Below w.heap.size w w' → Calls Try.prog 9 #[.int .i64 2000, .int .i64 0, .int .i64 2000, .int .i64 0] w' (Vc.Ret (.agg #[.int .i64 x21, .int .i64 x22, .int .i64 x23, .int .i64 x24]) w')) ∧
  (((x8 = x21) ∧ ((x9 = x22) ∧ ((x10 = x23) ∧ (x11 = x24)))) → (
  ((x17 = 8) → (
  ((x18 = 0) → (
  (.bool false : Value) = v)) ∧ (¬ (x18 = 0) → (
  (.bool false : Value) = v)))) ∧ (¬ (x17 = 8) → (
  (.bool false : Value) = v)))) ∧ (¬ ((x8 = x21) ∧ ((x9 = x22) ∧ ((x10 = x23) ∧ (x11 = x24)))) → (
  (.bool false : Value) = v)))) ∧ (¬ (x12 = 0) → (
  (.bool false : Value) = v)))))) ∧ (¬ (b0 = true) → (
  (.bool false : Value) = v)))) ∧ (¬ (x4 = (-1)) → (
  (.bool false : Value) = v)))) ∧ (¬ (x2 = 0) → (
  (.bool false : Value) = v)))) ∧ (¬ (x0 = 1) → (
  (.bool false : Value) = v)))))))) ∧ (¬ (b4 = true) → (
  ∃ (x20 : Int), ∃ (x21 : Int), ∃ (x22 : Int), ∃ (x23 : Int), (∀ w' : World, Below w.heap.size w w' → Calls Try.prog 25 #[.agg #[.int .i64 10, .int .i64 10, .int .i64 20, .int .i64 20], .int .i64 1] w' (Vc.Ret (.agg #[.int .i64 x20, .int .i64 x21, .int .i64 x22, .int .i64 x23]) w')) ∧
  ∃ (x24 : Int), ∃ (x25 : Int), (∀ w' : World, Below w.heap.size w w' → Calls Try.prog 28 #[.agg #[.int .i64 x20, .int .i64 x21]] w' (Vc.Ret (.agg #[.int .i64 x24, .int .i64 x25]) w')) ∧
  ∃ (x26 : Int), ∃ (x27 : Int), (∀ w' : World, Below w.heap.size w w' → Calls Try.prog 28 #[.agg #[.int .i64 x22, .int .i64 x23]] w' (Vc.Ret (.agg #[.int .i64 x26, .int .i64 x27]) w')) ∧
  ∃ (x28 : Int), (∀ (β : Nat → Nat) (w' : World), Below w.heap.size w w' → (Vc.RowOk w.heap.size (β 32) (β 33) (β 34) (β 35) (([.int .i64 0, .int .i64 0, .int .i64 100, .int .i64 0, .int .i64 100, .int .i64 100, .int .i64 0, .int .i64 100] : List Value)) 2 35 w' ∧ True) → Calls Try.prog 21 #[.agg #[.string ⟨(([113] : List UInt8)).toArray⟩, Vc.ownV (β 32) (β 33) (β 34) (β 35)], .agg #[.int .i64 x24, .int .i64 x25, .int .i64 x26, .int .i64 x27]] w' (Vc.Ret (.int .i64 x28) w')) ∧
  ((x28 = 1) → (
  ((x0 = 1) → (
  ((x2 = 0) → (
  ((x4 = (-1)) → (
  ((b0 = true) → (
  ((b1 = true) → (
  (.bool false : Value) = v)) ∧ (¬ (b1 = true) → (
  ((x12 = 0) → (
  ∃ (x29 : Int), ∃ (x30 : Int), ∃ (x31 : Int), ∃ (x32 : Int), (∀ w' : World, Below w.heap.size w w' → Calls Try.prog 9 #[.int .i64 2000, .int .i64 0, .int .i64 2000, .int .i64 0] w' (Vc.Ret (.agg #[.int .i64 x29, .int .i64 x30, .int .i64 x31, .int .i64 x32]) w')) ∧
  (((x8 = x29) ∧ ((x9 = x30) ∧ ((x10 = x31) ∧ (x11 = x32)))) → (
  ((x17 = 8) → (
  ((x18 = 0) → (
  ∃ (x33 : Int), ∃ (x34 : Int), ∃ (x35 : Int), ∃ (x36 : Int), (∀ w' : World, Below w.heap.size w w' → Calls Try.prog 9 #[.int .i64 94, .int .i64 (-1), .int .i64 102, .int .i64 6] w' (Vc.Ret (.agg #[.int .i64 x33, .int .i64 x34, .int .i64 x35, .int .i64 x36]) w')) ∧
  (.bool false : Value) = v)) ∧ (¬ (x18 = 0) → (
  (.bool false : Value) = v)))) ∧ (¬ (x17 = 8) → (
  (.bool false : Value) = v)))) ∧ (¬ ((x8 = x29) ∧ ((x9 = x30) ∧ ((x10 = x31) ∧ (x11 = x32)))) → (
  (.bool false : Value) = v)))) ∧ (¬ (x12 = 0) → (
  (.bool false : Value) = v)))))) ∧ (¬ (b0 = true) → (
  (.bool false : Value) = v)))) ∧ (¬ (x4 = (-1)) → (
  (.bool false : Value) = v)))) ∧ (¬ (x2 = 0) → (
  (.bool false : Value) = v)))) ∧ (¬ (x0 = 1) → (
  (.bool false : Value) = v)))) ∧ (¬ (x28 = 1) → (
  ((x28 = 0) → (
  ((x0 = 1) → (
  ((x2 = 0) → (
  ((x4 = (-1)) → (
  ((b0 = true) → (
  ((b1 = true) → (
  (.bool false : Value) = v)) ∧ (¬ (b1 = true) → (
  ((x12 = 0) → (
  ∃ (x29 : Int), ∃ (x30 : Int), ∃ (x31 : Int), ∃ (x32 : Int), (∀ w' : World, Below w.heap.size w w' → Calls Try.prog 9 #[.int .i64 2000, .int .i64 0, .int .i64 2000, .int .i64 0] w' (Vc.Ret (.agg #[.int .i64 x29, .int .i64 x30, .int .i64 x31, .int .i64 x32]) w')) ∧
  (((x8 = x29) ∧ ((x9 = x30) ∧ ((x10 = x31) ∧ (x11 = x32)))) → (
  ((x17 = 8) → (
  ((x18 = 0) → (
  ∃ (x33 : Int), ∃ (x34 : Int), ∃ (x35 : Int), ∃ (x36 : Int), (∀ w' : World, Below w.heap.size w w' → Calls Try.prog 9 #[.int .i64 94, .int .i64 (-1), .int .i64 102, .int .i64 6] w' (Vc.Ret (.agg #[.int .i64 x33, .int .i64 x34, .int .i64 x35, .int .i64 x36]) w')) ∧
  (.bool false : Value) = v)) ∧ (¬ (x18 = 0) → (
  (.bool false : Value) = v)))) ∧ (¬ (x17 = 8) → (
  (.bool false : Value) = v)))) ∧ (¬ ((x8 = x29) ∧ ((x9 = x30) ∧ ((x10 = x31) ∧ (x11 = x32)))) → (
  (.bool false : Value) = v)))) ∧ (¬ (x12 = 0) → (
  (.bool false : Value) = v)))))) ∧ (¬ (b0 = true) → (
  (.bool false : Value) = v)))) ∧ (¬ (x4 = (-1)) → (
  (.bool false : Value) = v)))) ∧ (¬ (x2 = 0) → (
  (.bool false : Value) = v)))) ∧ (¬ (x0 = 1) → (
  (.bool false : Value) = v)))) ∧ (¬ (x28 = 0) → (
  ((x0 = 1) → (
  ((x2 = 0) → (
  ((x4 = (-1)) → (
  ((b0 = true) → (
  ((b1 = true) → (
  (.bool false : Value) = v)) ∧ (¬ (b1 = true) → (
  ((x12 = 0) → (
  ∃ (x29 : Int), ∃ (x30 : Int), ∃ (x31 : Int), ∃ (x32 : Int), (∀ w' : World, Below w.heap.size w w' → Calls Try.prog 9 #[.int .i64 2000, .int .i64 0, .int .i64 2000, .int .i64 0] w' (Vc.Ret (.agg #[.int .i64 x29, .int .i64 x30, .int .i64 x31, .int .i64 x32]) w')) ∧
  (((x8 = x29) ∧ ((x9 = x30) ∧ ((x10 = x31) ∧ (x11 = x32)))) → (
  ((x17 = 8) → (
  ((x18 = 0) → (
  ∃ (x33 : Int), ∃ (x34 : Int), ∃ (x35 : Int), ∃ (x36 : Int), (∀ w' : World, Below w.heap.size w w' → Calls Try.prog 9 #[.int .i64 94, .int .i64 (-1), .int .i64 102, .int .i64 6] w' (Vc.Ret (.agg #[.int .i64 x33, .int .i64 x34, .int .i64 x35, .int .i64 x36]) w')) ∧
  (.bool false : Value) = v)) ∧ (¬ (x18 = 0) → (
  (.bool false : Value) = v)))) ∧ (¬ (x17 = 8) → (
  (.bool false : Value) = v)))) ∧ (¬ ((x8 = x29) ∧ ((x9 = x30) ∧ ((x10 = x31) ∧ (x11 = x32)))) → (
  (.bool false : Value) = v)))) ∧ (¬ (x12 = 0) → (
  (.bool false : Value) = v)))))) ∧ (¬ (b0 = true) → (
  (.bool false : Value) = v)))) ∧ (¬ (x4 = (-1)) → (
  (.bool false : Value) = v)))) ∧ (¬ (x2 = 0) → (
  (.bool false : Value) = v)))) ∧ (¬ (x0 = 1) → (
  (.bool false : Value) = v)))))))))) ∧ (¬ (x19 = 1) → (
  ((x19 = 0) → (
  ∃ (b4 : Bool), (∀ w' : World, Below w.heap.size w w' → Calls Try.prog 19 #[.agg #[.int .i64 95, .int .i64 0, .int .i64 101, .int .i64 5]] w' (Vc.Ret (.bool b4) w')) ∧
  ((b4 = true) → (
  ∃ (x20 : Int), (∀ (β : Nat → Nat) (w' : World), Below w.heap.size w w' → (Vc.RowOk w.heap.size (β 32) (β 33) (β 34) (β 35) (([.int .i64 0, .int .i64 0, .int .i64 100, .int .i64 0, .int .i64 100, .int .i64 100, .int .i64 0, .int .i64 100] : List Value)) 2 35 w' ∧ True) → Calls Try.prog 21 #[.agg #[.string ⟨(([113] : List UInt8)).toArray⟩, Vc.ownV (β 32) (β 33) (β 34) (β 35)], .agg #[.int .i64 95, .int .i64 0, .int .i64 101, .int .i64 5]] w' (Vc.Ret (.int .i64 x20) w')) ∧
  ((x20 = 1) → (
  ∃ (x21 : Int), ∃ (x22 : Int), ∃ (x23 : Int), ∃ (x24 : Int), (∀ w' : World, Below w.heap.size w w' → Calls Try.prog 25 #[.agg #[.int .i64 95, .int .i64 0, .int .i64 101, .int .i64 5], .int .i64 1] w' (Vc.Ret (.agg #[.int .i64 x21, .int .i64 x22, .int .i64 x23, .int .i64 x24]) w')) ∧
  ∃ (x25 : Int), ∃ (x26 : Int), (∀ w' : World, Below w.heap.size w w' → Calls Try.prog 28 #[.agg #[.int .i64 x21, .int .i64 x22]] w' (Vc.Ret (.agg #[.int .i64 x25, .int .i64 x26]) w')) ∧
  ∃ (x27 : Int), ∃ (x28 : Int), (∀ w' : World, Below w.heap.size w w' → Calls Try.prog 28 #[.agg #[.int .i64 x23, .int .i64 x24]] w' (Vc.Ret (.agg #[.int .i64 x27, .int .i64 x28]) w')) ∧
  ∃ (x29 : Int), (∀ (β : Nat → Nat) (w' : World), Below w.heap.size w w' → (Vc.RowOk w.heap.size (β 32) (β 33) (β 34) (β 35) (([.int .i64 0, .int .i64 0, .int .i64 100, .int .i64 0, .int .i64 100, .int .i64 100, .int .i64 0, .int .i64 100] : List Value)) 2 35 w' ∧ True) → Calls Try.prog 21 #[.agg #[.string ⟨(([113] : List UInt8)).toArray⟩, Vc.ownV (β 32) (β 33) (β 34) (β 35)], .agg #[.int .i64 x25, .int .i64 x26, .int .i64 x27, .int .i64 x28]] w' (Vc.Ret (.int .i64 x29) w')) ∧
  ((x29 = 1) → (
  ((x0 = 1) → (
  ((x2 = 0) → (
  ((x4 = (-1)) → (
  ((b0 = true) → (
  ((b1 = true) → (
  (.bool false : Value) = v)) ∧ (¬ (b1 = true) → (
  ((x12 = 0) → (
  ∃ (x30 : Int), ∃ (x31 : Int), ∃ (x32 : Int), ∃ (x33 : Int), (∀ w' : World, Below w.heap.size w w' → Calls Try.prog 9 #[.int .i64 2000, .int .i64 0, .int .i64 2000, .int .i64 0] w' (Vc.Ret (.agg #[.int .i64 x30, .int .i64 x31, .int .i64 x32, .int .i64 x33]) w')) ∧
  (((x8 = x30) ∧ ((x9 = x31) ∧ ((x10 = x32) ∧ (x11 = x33)))) → (
  ((x17 = 8) → (
  ((x18 = 0) → (
  ∃ (x34 : Int), ∃ (x35 : Int), ∃ (x36 : Int), ∃ (x37 : Int), (∀ w' : World, Below w.heap.size w w' → Calls Try.prog 9 #[.int .i64 94, .int .i64 (-1), .int .i64 102, .int .i64 6] w' (Vc.Ret (.agg #[.int .i64 x34, .int .i64 x35, .int .i64 x36, .int .i64 x37]) w')) ∧
  (.bool false : Value) = v)) ∧ (¬ (x18 = 0) → (
  (.bool false : Value) = v)))) ∧ (¬ (x17 = 8) → (
  (.bool false : Value) = v)))) ∧ (¬ ((x8 = x30) ∧ ((x9 = x31) ∧ ((x10 = x32) ∧ (x11 = x33)))) → (
  (.bool false : Value) = v)))) ∧ (¬ (x12 = 0) → (
  (.bool false : Value) = v)))))) ∧ (¬ (b0 = true) → (
  (.bool false : Value) = v)))) ∧ (¬ (x4 = (-1)) → (
  (.bool false : Value) = v)))) ∧ (¬ (x2 = 0) → (
  (.bool false : Value) = v)))) ∧ (¬ (x0 = 1) → (
  (.bool false : Value) = v)))) ∧ (¬ (x29 = 1) → (
  ((x29 = 0) → (
  ((x0 = 1) → (
  ((x2 = 0) → (
  ((x4 = (-1)) → (
  ((b0 = true) → (
  ((b1 = true) → (
  (.bool false : Value) = v)) ∧ (¬ (b1 = true) → (
  ((x12 = 0) → (
  ∃ (x30 : Int), ∃ (x31 : Int), ∃ (x32 : Int), ∃ (x33 : Int), (∀ w' : World, Below w.heap.size w w' → Calls Try.prog 9 #[.int .i64 2000, .int .i64 0, .int .i64 2000, .int .i64 0] w' (Vc.Ret (.agg #[.int .i64 x30, .int .i64 x31, .int .i64 x32, .int .i64 x33]) w')) ∧
  (((x8 = x30) ∧ ((x9 = x31) ∧ ((x10 = x32) ∧ (x11 = x33)))) → (
  ((x17 = 8) → (
  ((x18 = 0) → (
  ∃ (x34 : Int), ∃ (x35 : Int), ∃ (x36 : Int), ∃ (x37 : Int), (∀ w' : World, Below w.heap.size w w' → Calls Try.prog 9 #[.int .i64 94, .int .i64 (-1), .int .i64 102, .int .i64 6] w' (Vc.Ret (.agg #[.int .i64 x34, .int .i64 x35, .int .i64 x36, .int .i64 x37]) w')) ∧
  (.bool false : Value) = v)) ∧ (¬ (x18 = 0) → (
  (.bool false : Value) = v)))) ∧ (¬ (x17 = 8) → (
  (.bool false : Value) = v)))) ∧ (¬ ((x8 = x30) ∧ ((x9 = x31) ∧ ((x10 = x32) ∧ (x11 = x33)))) → (
  (.bool false : Value) = v)))) ∧ (¬ (x12 = 0) → (
  (.bool false : Value) = v)))))) ∧ (¬ (b0 = true) → (
  (.bool false : Value) = v)))) ∧ (¬ (x4 = (-1)) → (
  (.bool false : Value) = v)))) ∧ (¬ (x2 = 0) → (
  (.bool false : Value) = v)))) ∧ (¬ (x0 = 1) → (
  (.bool false : Value) = v)))) ∧ (¬ (x29 = 0) → (
  ((x0 = 1) → (
  ((x2 = 0) → (
  ((x4 = (-1)) → (
  ((b0 = true) → (
  ((b1 = true) → (
  (.bool false : Value) = v)) ∧ (¬ (b1 = true) → (
  ((x12 = 0) → (
  ∃ (x30 : Int), ∃ (x31 : Int), ∃ (x32 : Int), ∃ (x33 : Int), (∀ w' : World, Below w.heap.size w w' → Calls Try.prog 9 #[.int .i64 2000, .int .i64 0, .int .i64 2000, .int .i64 0] w' (Vc.Ret (.agg #[.int .i64 x30, .int .i64 x31, .int .i64 x32, .int .i64 x33]) w')) ∧
  (((x8 = x30) ∧ ((x9 = x31) ∧ ((x10 = x32) ∧ (x11 = x33)))) → (
  ((x17 = 8) → (
  ((x18 = 0) → (
  ∃ (x34 : Int), ∃ (x35 : Int), ∃ (x36 : Int), ∃ (x37 : Int), (∀ w' : World, Below w.heap.size w w' → Calls Try.prog 9 #[.int .i64 94, .int .i64 (-1), .int .i64 102, .int .i64 6] w' (Vc.Ret (.agg #[.int .i64 x34, .int .i64 x35, .int .i64 x36, .int .i64 x37]) w')) ∧
  (.bool false : Value) = v)) ∧ (¬ (x18 = 0) → (
  (.bool false : Value) = v)))) ∧ (¬ (x17 = 8) → (
  (.bool false : Value) = v)))) ∧ (¬ ((x8 = x30) ∧ ((x9 = x31) ∧ ((x10 = x32) ∧ (x11 = x33)))) → (
  (.bool false : Value) = v)))) ∧ (¬ (x12 = 0) → (
  (.bool false : Value) = v)))))) ∧ (¬ (b0 = true) → (
  (.bool false : Value) = v)))) ∧ (¬ (x4 = (-1)) → (
  (.bool false : Value) = v)))) ∧ (¬ (x2 = 0) → (
  (.bool false : Value) = v)))) ∧ (¬ (x0 = 1) → (
  (.bool false : Value) = v)))))))) ∧ (¬ (x20 = 1) → (
  ((x20 = 0) → (
  ((x0 = 1) → (
  ((x2 = 0) → (
  ((x4 = (-1)) → (
  ((b0 = true) → (
  ((b1 = true) → (
  (.bool false : Value) = v)) ∧ (¬ (b1 = true) → (
  ((x12 = 0) → (
  ∃ (x21 : Int), ∃ (x22 : Int), ∃ (x23 : Int), ∃ (x24 : Int), (∀ w' : World, Below w.heap.size w w' → Calls Try.prog 9 #[.int .i64 2000, .int .i64 0, .int .i64 2000, .int .i64 0] w' (Vc.Ret (.agg #[.int .i64 x21, .int .i64 x22, .int .i64 x23, .int .i64 x24]) w')) ∧
  (((x8 = x21) ∧ ((x9 = x22) ∧ ((x10 = x23) ∧ (x11 = x24)))) → (
  ((x17 = 8) → (
  ((x18 = 0) → (
  (.bool false : Value) = v)) ∧ (¬ (x18 = 0) → (
  (.bool false : Value) = v)))) ∧ (¬ (x17 = 8) → (
  (.bool false : Value) = v)))) ∧ (¬ ((x8 = x21) ∧ ((x9 = x22) ∧ ((x10 = x23) ∧ (x11 = x24)))) → (
  (.bool false : Value) = v)))) ∧ (¬ (x12 = 0) → (
  (.bool false : Value) = v)))))) ∧ (¬ (b0 = true) → (
  (.bool false : Value) = v)))) ∧ (¬ (x4 = (-1)) → (
  (.bool false : Value) = v)))) ∧ (¬ (x2 = 0) → (
  (.bool false : Value) = v)))) ∧ (¬ (x0 = 1) → (
  (.bool false : Value) = v)))) ∧ (¬ (x20 = 0) → (
  ((x0 = 1) → (
  ((x2 = 0) → (
  ((x4 = (-1)) → (
  ((b0 = true) → (
  ((b1 = true) → (
  (.bool false : Value) = v)) ∧ (¬ (b1 = true) → (
  ((x12 = 0) → (
  ∃ (x21 : Int), ∃ (x22 : Int), ∃ (x23 : Int), ∃ (x24 : Int), (∀ w' : World, Below w.heap.size w w' → Calls Try.prog 9 #[.int .i64 2000, .int .i64 0, .int .i64 2000, .int .i64 0] w' (Vc.Ret (.agg #[.int .i64 x21, .int .i64 x22, .int .i64 x23, .int .i64 x24]) w')) ∧
  (((x8 = x21) ∧ ((x9 = x22) ∧ ((x10 = x23) ∧ (x11 = x24)))) → (
  ((x17 = 8) → (
  ((x18 = 0) → (
  (.bool false : Value) = v)) ∧ (¬ (x18 = 0) → (
  (.bool false : Value) = v)))) ∧ (¬ (x17 = 8) → (
  (.bool false : Value) = v)))) ∧ (¬ ((x8 = x21) ∧ ((x9 = x22) ∧ ((x10 = x23) ∧ (x11 = x24)))) → (
  (.bool false : Value) = v)))) ∧ (¬ (x12 = 0) → (
  (.bool false : Value) = v)))))) ∧ (¬ (b0 = true) → (
  (.bool false : Value) = v)))) ∧ (¬ (x4 = (-1)) → (
  (.bool false : Value) = v)))) ∧ (¬ (x2 = 0) → (
  (.bool false : Value) = v)))) ∧ (¬ (x0 = 1) → (
  (.bool false : Value) = v)))))))) ∧ (¬ (b4 = true) → (
  ∃ (x20 : Int), ∃ (x21 : Int), ∃ (x22 : Int), ∃ (x23 : Int), (∀ w' : World, Below w.heap.size w w' → Calls Try.prog 25 #[.agg #[.int .i64 10, .int .i64 10, .int .i64 20, .int .i64 20], .int .i64 1] w' (Vc.Ret (.agg #[.int .i64 x20, .int .i64 x21, .int .i64 x22, .int .i64 x23]) w')) ∧
  ∃ (x24 : Int), ∃ (x25 : Int), (∀ w' : World, Below w.heap.size w w' → Calls Try.prog 28 #[.agg #[.int .i64 x20, .int .i64 x21]] w' (Vc.Ret (.agg #[.int .i64 x24, .int .i64 x25]) w')) ∧
  ∃ (x26 : Int), ∃ (x27 : Int), (∀ w' : World, Below w.heap.size w w' → Calls Try.prog 28 #[.agg #[.int .i64 x22, .int .i64 x23]] w' (Vc.Ret (.agg #[.int .i64 x26, .int .i64 x27]) w')) ∧
  ∃ (x28 : Int), (∀ (β : Nat → Nat) (w' : World), Below w.heap.size w w' → (Vc.RowOk w.heap.size (β 32) (β 33) (β 34) (β 35) (([.int .i64 0, .int .i64 0, .int .i64 100, .int .i64 0, .int .i64 100, .int .i64 100, .int .i64 0, .int .i64 100] : List Value)) 2 35 w' ∧ True) → Calls Try.prog 21 #[.agg #[.string ⟨(([113] : List UInt8)).toArray⟩, Vc.ownV (β 32) (β 33) (β 34) (β 35)], .agg #[.int .i64 x24, .int .i64 x25, .int .i64 x26, .int .i64 x27]] w' (Vc.Ret (.int .i64 x28) w')) ∧
  ((x28 = 1) → (
  ((x0 = 1) → (
  ((x2 = 0) → (
  ((x4 = (-1)) → (
  ((b0 = true) → (
  ((b1 = true) → (
  (.bool false : Value) = v)) ∧ (¬ (b1 = true) → (
  ((x12 = 0) → (
  ∃ (x29 : Int), ∃ (x30 : Int), ∃ (x31 : Int), ∃ (x32 : Int), (∀ w' : World, Below w.heap.size w w' → Calls Try.prog 9 #[.int .i64 2000, .int .i64 0, .int .i64 2000, .int .i64 0] w' (Vc.Ret (.agg #[.int .i64 x29, .int .i64 x30, .int .i64 x31, .int .i64 x32]) w')) ∧
  (((x8 = x29) ∧ ((x9 = x30) ∧ ((x10 = x31) ∧ (x11 = x32)))) → (
  ((x17 = 8) → (
  ((x18 = 0) → (
  ∃ (x33 : Int), ∃ (x34 : Int), ∃ (x35 : Int), ∃ (x36 : Int), (∀ w' : World, Below w.heap.size w w' → Calls Try.prog 9 #[.int .i64 94, .int .i64 (-1), .int .i64 102, .int .i64 6] w' (Vc.Ret (.agg #[.int .i64 x33, .int .i64 x34, .int .i64 x35, .int .i64 x36]) w')) ∧
  (.bool false : Value) = v)) ∧ (¬ (x18 = 0) → (
  (.bool false : Value) = v)))) ∧ (¬ (x17 = 8) → (
  (.bool false : Value) = v)))) ∧ (¬ ((x8 = x29) ∧ ((x9 = x30) ∧ ((x10 = x31) ∧ (x11 = x32)))) → (
  (.bool false : Value) = v)))) ∧ (¬ (x12 = 0) → (
  (.bool false : Value) = v)))))) ∧ (¬ (b0 = true) → (
  (.bool false : Value) = v)))) ∧ (¬ (x4 = (-1)) → (
  (.bool false : Value) = v)))) ∧ (¬ (x2 = 0) → (
  (.bool false : Value) = v)))) ∧ (¬ (x0 = 1) → (
  (.bool false : Value) = v)))) ∧ (¬ (x28 = 1) → (
  ((x28 = 0) → (
  ((x0 = 1) → (
  ((x2 = 0) → (
  ((x4 = (-1)) → (
  ((b0 = true) → (
  ((b1 = true) → (
  (.bool false : Value) = v)) ∧ (¬ (b1 = true) → (
  ((x12 = 0) → (
  ∃ (x29 : Int), ∃ (x30 : Int), ∃ (x31 : Int), ∃ (x32 : Int), (∀ w' : World, Below w.heap.size w w' → Calls Try.prog 9 #[.int .i64 2000, .int .i64 0, .int .i64 2000, .int .i64 0] w' (Vc.Ret (.agg #[.int .i64 x29, .int .i64 x30, .int .i64 x31, .int .i64 x32]) w')) ∧
  (((x8 = x29) ∧ ((x9 = x30) ∧ ((x10 = x31) ∧ (x11 = x32)))) → (
  ((x17 = 8) → (
  ((x18 = 0) → (
  ∃ (x33 : Int), ∃ (x34 : Int), ∃ (x35 : Int), ∃ (x36 : Int), (∀ w' : World, Below w.heap.size w w' → Calls Try.prog 9 #[.int .i64 94, .int .i64 (-1), .int .i64 102, .int .i64 6] w' (Vc.Ret (.agg #[.int .i64 x33, .int .i64 x34, .int .i64 x35, .int .i64 x36]) w')) ∧
  (.bool ((x24 == x33) && ((x25 == x34) && ((x26 == x35) && (x27 == x36)))) : Value) = v)) ∧ (¬ (x18 = 0) → (
  (.bool false : Value) = v)))) ∧ (¬ (x17 = 8) → (
  (.bool false : Value) = v)))) ∧ (¬ ((x8 = x29) ∧ ((x9 = x30) ∧ ((x10 = x31) ∧ (x11 = x32)))) → (
  (.bool false : Value) = v)))) ∧ (¬ (x12 = 0) → (
  (.bool false : Value) = v)))))) ∧ (¬ (b0 = true) → (
  (.bool false : Value) = v)))) ∧ (¬ (x4 = (-1)) → (
  (.bool false : Value) = v)))) ∧ (¬ (x2 = 0) → (
  (.bool false : Value) = v)))) ∧ (¬ (x0 = 1) → (
  (.bool false : Value) = v)))) ∧ (¬ (x28 = 0) → (
  ((x0 = 1) → (
  ((x2 = 0) → (
  ((x4 = (-1)) → (
  ((b0 = true) → (
  ((b1 = true) → (
  (.bool false : Value) = v)) ∧ (¬ (b1 = true) → (
  ((x12 = 0) → (
  ∃ (x29 : Int), ∃ (x30 : Int), ∃ (x31 : Int), ∃ (x32 : Int), (∀ w' : World, Below w.heap.size w w' → Calls Try.prog 9 #[.int .i64 2000, .int .i64 0, .int .i64 2000, .int .i64 0] w' (Vc.Ret (.agg #[.int .i64 x29, .int .i64 x30, .int .i64 x31, .int .i64 x32]) w')) ∧
  (((x8 = x29) ∧ ((x9 = x30) ∧ ((x10 = x31) ∧ (x11 = x32)))) → (
  ((x17 = 8) → (
  ((x18 = 0) → (
  ∃ (x33 : Int), ∃ (x34 : Int), ∃ (x35 : Int), ∃ (x36 : Int), (∀ w' : World, Below w.heap.size w w' → Calls Try.prog 9 #[.int .i64 94, .int .i64 (-1), .int .i64 102, .int .i64 6] w' (Vc.Ret (.agg #[.int .i64 x33, .int .i64 x34, .int .i64 x35, .int .i64 x36]) w')) ∧
  (.bool false : Value) = v)) ∧ (¬ (x18 = 0) → (
  (.bool false : Value) = v)))) ∧ (¬ (x17 = 8) → (
  (.bool false : Value) = v)))) ∧ (¬ ((x8 = x29) ∧ ((x9 = x30) ∧ ((x10 = x31) ∧ (x11 = x32)))) → (
  (.bool false : Value) = v)))) ∧ (¬ (x12 = 0) → (
  (.bool false : Value) = v)))))) ∧ (¬ (b0 = true) → (
  (.bool false : Value) = v)))) ∧ (¬ (x4 = (-1)) → (
  (.bool false : Value) = v)))) ∧ (¬ (x2 = 0) → (
  (.bool false : Value) = v)))) ∧ (¬ (x0 = 1) → (
  (.bool false : Value) = v)))))))))) ∧ (¬ (x19 = 0) → (
  ((x0 = 1) → (
  ((x2 = 0) → (
  ((x4 = (-1)) → (
  ((b0 = true) → (
  ((b1 = true) → (
  (.bool false : Value) = v)) ∧ (¬ (b1 = true) → (
  ((x12 = 0) → (
  ∃ (x20 : Int), ∃ (x21 : Int), ∃ (x22 : Int), ∃ (x23 : Int), (∀ w' : World, Below w.heap.size w w' → Calls Try.prog 9 #[.int .i64 2000, .int .i64 0, .int .i64 2000, .int .i64 0] w' (Vc.Ret (.agg #[.int .i64 x20, .int .i64 x21, .int .i64 x22, .int .i64 x23]) w')) ∧
  (((x8 = x20) ∧ ((x9 = x21) ∧ ((x10 = x22) ∧ (x11 = x23)))) → (
  ((x17 = 8) → (
  ((x18 = 0) → (
  ∃ (x24 : Int), ∃ (x25 : Int), ∃ (x26 : Int), ∃ (x27 : Int), (∀ w' : World, Below w.heap.size w w' → Calls Try.prog 9 #[.int .i64 94, .int .i64 (-1), .int .i64 102, .int .i64 6] w' (Vc.Ret (.agg #[.int .i64 x24, .int .i64 x25, .int .i64 x26, .int .i64 x27]) w')) ∧
  (.bool false : Value) = v)) ∧ (¬ (x18 = 0) → (
  (.bool false : Value) = v)))) ∧ (¬ (x17 = 8) → (
  (.bool false : Value) = v)))) ∧ (¬ ((x8 = x20) ∧ ((x9 = x21) ∧ ((x10 = x22) ∧ (x11 = x23)))) → (
  (.bool false : Value) = v)))) ∧ (¬ (x12 = 0) → (
  (.bool false : Value) = v)))))) ∧ (¬ (b0 = true) → (
  (.bool false : Value) = v)))) ∧ (¬ (x4 = (-1)) → (
  (.bool false : Value) = v)))) ∧ (¬ (x2 = 0) → (
  (.bool false : Value) = v)))) ∧ (¬ (x0 = 1) → (
  (.bool false : Value) = v)))))))) ∧ (¬ (b3 = true) → (
  ∃ (b4 : Bool), (∀ w' : World, Below w.heap.size w w' → Calls Try.prog 19 #[.agg #[.int .i64 95, .int .i64 0, .int .i64 101, .int .i64 5]] w' (Vc.Ret (.bool b4) w')) ∧
  ((b4 = true) → (
  ∃ (x19 : Int), (∀ (β : Nat → Nat) (w' : World), Below w.heap.size w w' → (Vc.RowOk w.heap.size (β 32) (β 33) (β 34) (β 35) (([.int .i64 0, .int .i64 0, .int .i64 100, .int .i64 0, .int .i64 100, .int .i64 100, .int .i64 0, .int .i64 100] : List Value)) 2 35 w' ∧ True) → Calls Try.prog 21 #[.agg #[.string ⟨(([113] : List UInt8)).toArray⟩, Vc.ownV (β 32) (β 33) (β 34) (β 35)], .agg #[.int .i64 95, .int .i64 0, .int .i64 101, .int .i64 5]] w' (Vc.Ret (.int .i64 x19) w')) ∧
  ((x19 = 1) → (
  ∃ (x20 : Int), ∃ (x21 : Int), ∃ (x22 : Int), ∃ (x23 : Int), (∀ w' : World, Below w.heap.size w w' → Calls Try.prog 25 #[.agg #[.int .i64 95, .int .i64 0, .int .i64 101, .int .i64 5], .int .i64 1] w' (Vc.Ret (.agg #[.int .i64 x20, .int .i64 x21, .int .i64 x22, .int .i64 x23]) w')) ∧
  ∃ (x24 : Int), ∃ (x25 : Int), (∀ w' : World, Below w.heap.size w w' → Calls Try.prog 28 #[.agg #[.int .i64 x20, .int .i64 x21]] w' (Vc.Ret (.agg #[.int .i64 x24, .int .i64 x25]) w')) ∧
  ∃ (x26 : Int), ∃ (x27 : Int), (∀ w' : World, Below w.heap.size w w' → Calls Try.prog 28 #[.agg #[.int .i64 x22, .int .i64 x23]] w' (Vc.Ret (.agg #[.int .i64 x26, .int .i64 x27]) w')) ∧
  ∃ (x28 : Int), (∀ (β : Nat → Nat) (w' : World), Below w.heap.size w w' → (Vc.RowOk w.heap.size (β 32) (β 33) (β 34) (β 35) (([.int .i64 0, .int .i64 0, .int .i64 100, .int .i64 0, .int .i64 100, .int .i64 100, .int .i64 0, .int .i64 100] : List Value)) 2 35 w' ∧ True) → Calls Try.prog 21 #[.agg #[.string ⟨(([113] : List UInt8)).toArray⟩, Vc.ownV (β 32) (β 33) (β 34) (β 35)], .agg #[.int .i64 x24, .int .i64 x25, .int .i64 x26, .int .i64 x27]] w' (Vc.Ret (.int .i64 x28) w')) ∧
  ((x28 = 1) → (
  ((x0 = 1) → (
  ((x2 = 0) → (
  ((x4 = (-1)) → (
  ((b0 = true) → (
  ((b1 = true) → (
  (.bool false : Value) = v)) ∧ (¬ (b1 = true) → (
  ((x12 = 0) → (
  ∃ (x29 : Int), ∃ (x30 : Int), ∃ (x31 : Int), ∃ (x32 : Int), (∀ w' : World, Below w.heap.size w w' → Calls Try.prog 9 #[.int .i64 2000, .int .i64 0, .int .i64 2000, .int .i64 0] w' (Vc.Ret (.agg #[.int .i64 x29, .int .i64 x30, .int .i64 x31, .int .i64 x32]) w')) ∧
  (((x8 = x29) ∧ ((x9 = x30) ∧ ((x10 = x31) ∧ (x11 = x32)))) → (
  ((x17 = 8) → (
  ((x18 = 0) → (
  ∃ (x33 : Int), ∃ (x34 : Int), ∃ (x35 : Int), ∃ (x36 : Int), (∀ w' : World, Below w.heap.size w w' → Calls Try.prog 9 #[.int .i64 94, .int .i64 (-1), .int .i64 102, .int .i64 6] w' (Vc.Ret (.agg #[.int .i64 x33, .int .i64 x34, .int .i64 x35, .int .i64 x36]) w')) ∧
  (.bool false : Value) = v)) ∧ (¬ (x18 = 0) → (
  (.bool false : Value) = v)))) ∧ (¬ (x17 = 8) → (
  (.bool false : Value) = v)))) ∧ (¬ ((x8 = x29) ∧ ((x9 = x30) ∧ ((x10 = x31) ∧ (x11 = x32)))) → (
  (.bool false : Value) = v)))) ∧ (¬ (x12 = 0) → (
  (.bool false : Value) = v)))))) ∧ (¬ (b0 = true) → (
  (.bool false : Value) = v)))) ∧ (¬ (x4 = (-1)) → (
  (.bool false : Value) = v)))) ∧ (¬ (x2 = 0) → (
  (.bool false : Value) = v)))) ∧ (¬ (x0 = 1) → (
  (.bool false : Value) = v)))) ∧ (¬ (x28 = 1) → (
  ((x28 = 0) → (
  ((x0 = 1) → (
  ((x2 = 0) → (
  ((x4 = (-1)) → (
  ((b0 = true) → (
  ((b1 = true) → (
  (.bool false : Value) = v)) ∧ (¬ (b1 = true) → (
  ((x12 = 0) → (
  ∃ (x29 : Int), ∃ (x30 : Int), ∃ (x31 : Int), ∃ (x32 : Int), (∀ w' : World, Below w.heap.size w w' → Calls Try.prog 9 #[.int .i64 2000, .int .i64 0, .int .i64 2000, .int .i64 0] w' (Vc.Ret (.agg #[.int .i64 x29, .int .i64 x30, .int .i64 x31, .int .i64 x32]) w')) ∧
  (((x8 = x29) ∧ ((x9 = x30) ∧ ((x10 = x31) ∧ (x11 = x32)))) → (
  ((x17 = 8) → (
  ((x18 = 0) → (
  ∃ (x33 : Int), ∃ (x34 : Int), ∃ (x35 : Int), ∃ (x36 : Int), (∀ w' : World, Below w.heap.size w w' → Calls Try.prog 9 #[.int .i64 94, .int .i64 (-1), .int .i64 102, .int .i64 6] w' (Vc.Ret (.agg #[.int .i64 x33, .int .i64 x34, .int .i64 x35, .int .i64 x36]) w')) ∧
  (.bool false : Value) = v)) ∧ (¬ (x18 = 0) → (
  (.bool false : Value) = v)))) ∧ (¬ (x17 = 8) → (
  (.bool false : Value) = v)))) ∧ (¬ ((x8 = x29) ∧ ((x9 = x30) ∧ ((x10 = x31) ∧ (x11 = x32)))) → (
  (.bool false : Value) = v)))) ∧ (¬ (x12 = 0) → (
  (.bool false : Value) = v)))))) ∧ (¬ (b0 = true) → (
  (.bool false : Value) = v)))) ∧ (¬ (x4 = (-1)) → (
  (.bool false : Value) = v)))) ∧ (¬ (x2 = 0) → (
  (.bool false : Value) = v)))) ∧ (¬ (x0 = 1) → (
  (.bool false : Value) = v)))) ∧ (¬ (x28 = 0) → (
  ((x0 = 1) → (
  ((x2 = 0) → (
  ((x4 = (-1)) → (
  ((b0 = true) → (
  ((b1 = true) → (
  (.bool false : Value) = v)) ∧ (¬ (b1 = true) → (
  ((x12 = 0) → (
  ∃ (x29 : Int), ∃ (x30 : Int), ∃ (x31 : Int), ∃ (x32 : Int), (∀ w' : World, Below w.heap.size w w' → Calls Try.prog 9 #[.int .i64 2000, .int .i64 0, .int .i64 2000, .int .i64 0] w' (Vc.Ret (.agg #[.int .i64 x29, .int .i64 x30, .int .i64 x31, .int .i64 x32]) w')) ∧
  (((x8 = x29) ∧ ((x9 = x30) ∧ ((x10 = x31) ∧ (x11 = x32)))) → (
  ((x17 = 8) → (
  ((x18 = 0) → (
  ∃ (x33 : Int), ∃ (x34 : Int), ∃ (x35 : Int), ∃ (x36 : Int), (∀ w' : World, Below w.heap.size w w' → Calls Try.prog 9 #[.int .i64 94, .int .i64 (-1), .int .i64 102, .int .i64 6] w' (Vc.Ret (.agg #[.int .i64 x33, .int .i64 x34, .int .i64 x35, .int .i64 x36]) w')) ∧
  (.bool false : Value) = v)) ∧ (¬ (x18 = 0) → (
  (.bool false : Value) = v)))) ∧ (¬ (x17 = 8) → (
  (.bool false : Value) = v)))) ∧ (¬ ((x8 = x29) ∧ ((x9 = x30) ∧ ((x10 = x31) ∧ (x11 = x32)))) → (
  (.bool false : Value) = v)))) ∧ (¬ (x12 = 0) → (
  (.bool false : Value) = v)))))) ∧ (¬ (b0 = true) → (
  (.bool false : Value) = v)))) ∧ (¬ (x4 = (-1)) → (
  (.bool false : Value) = v)))) ∧ (¬ (x2 = 0) → (
  (.bool false : Value) = v)))) ∧ (¬ (x0 = 1) → (
  (.bool false : Value) = v)))))))) ∧ (¬ (x19 = 1) → (
  ((x19 = 0) → (
  ∃ (x20 : Int), ∃ (x21 : Int), ∃ (x22 : Int), ∃ (x23 : Int), (∀ w' : World, Below w.heap.size w w' → Calls Try.prog 25 #[.agg #[.int .i64 95, .int .i64 0, .int .i64 101, .int .i64 5], .int .i64 1] w' (Vc.Ret (.agg #[.int .i64 x20, .int .i64 x21, .int .i64 x22, .int .i64 x23]) w')) ∧
  ∃ (x24 : Int), ∃ (x25 : Int), (∀ w' : World, Below w.heap.size w w' → Calls Try.prog 28 #[.agg #[.int .i64 x20, .int .i64 x21]] w' (Vc.Ret (.agg #[.int .i64 x24, .int .i64 x25]) w')) ∧
  ∃ (x26 : Int), ∃ (x27 : Int), (∀ w' : World, Below w.heap.size w w' → Calls Try.prog 28 #[.agg #[.int .i64 x22, .int .i64 x23]] w' (Vc.Ret (.agg #[.int .i64 x26, .int .i64 x27]) w')) ∧
  ∃ (x28 : Int), (∀ (β : Nat → Nat) (w' : World), Below w.heap.size w w' → (Vc.RowOk w.heap.size (β 32) (β 33) (β 34) (β 35) (([.int .i64 0, .int .i64 0, .int .i64 100, .int .i64 0, .int .i64 100, .int .i64 100, .int .i64 0, .int .i64 100] : List Value)) 2 35 w' ∧ True) → Calls Try.prog 21 #[.agg #[.string ⟨(([113] : List UInt8)).toArray⟩, Vc.ownV (β 32) (β 33) (β 34) (β 35)], .agg #[.int .i64 x24, .int .i64 x25, .int .i64 x26, .int .i64 x27]] w' (Vc.Ret (.int .i64 x28) w')) ∧
  ((x28 = 1) → (
  ((x0 = 1) → (
  ((x2 = 0) → (
  ((x4 = (-1)) → (
  ((b0 = true) → (
  ((b1 = true) → (
  (.bool false : Value) = v)) ∧ (¬ (b1 = true) → (
  ((x12 = 0) → (
  ∃ (x29 : Int), ∃ (x30 : Int), ∃ (x31 : Int), ∃ (x32 : Int), (∀ w' : World, Below w.heap.size w w' → Calls Try.prog 9 #[.int .i64 2000, .int .i64 0, .int .i64 2000, .int .i64 0] w' (Vc.Ret (.agg #[.int .i64 x29, .int .i64 x30, .int .i64 x31, .int .i64 x32]) w')) ∧
  (((x8 = x29) ∧ ((x9 = x30) ∧ ((x10 = x31) ∧ (x11 = x32)))) → (
  ((x17 = 8) → (
  ((x18 = 0) → (
  ∃ (x33 : Int), ∃ (x34 : Int), ∃ (x35 : Int), ∃ (x36 : Int), (∀ w' : World, Below w.heap.size w w' → Calls Try.prog 9 #[.int .i64 94, .int .i64 (-1), .int .i64 102, .int .i64 6] w' (Vc.Ret (.agg #[.int .i64 x33, .int .i64 x34, .int .i64 x35, .int .i64 x36]) w')) ∧
  (.bool false : Value) = v)) ∧ (¬ (x18 = 0) → (
  (.bool false : Value) = v)))) ∧ (¬ (x17 = 8) → (
  (.bool false : Value) = v)))) ∧ (¬ ((x8 = x29) ∧ ((x9 = x30) ∧ ((x10 = x31) ∧ (x11 = x32)))) → (
  (.bool false : Value) = v)))) ∧ (¬ (x12 = 0) → (
  (.bool false : Value) = v)))))) ∧ (¬ (b0 = true) → (
  (.bool false : Value) = v)))) ∧ (¬ (x4 = (-1)) → (
  (.bool false : Value) = v)))) ∧ (¬ (x2 = 0) → (
  (.bool false : Value) = v)))) ∧ (¬ (x0 = 1) → (
  (.bool false : Value) = v)))) ∧ (¬ (x28 = 1) → (
  ((x28 = 0) → (
  ((x0 = 1) → (
  ((x2 = 0) → (
  ((x4 = (-1)) → (
  ((b0 = true) → (
  ((b1 = true) → (
  (.bool false : Value) = v)) ∧ (¬ (b1 = true) → (
  ((x12 = 0) → (
  ∃ (x29 : Int), ∃ (x30 : Int), ∃ (x31 : Int), ∃ (x32 : Int), (∀ w' : World, Below w.heap.size w w' → Calls Try.prog 9 #[.int .i64 2000, .int .i64 0, .int .i64 2000, .int .i64 0] w' (Vc.Ret (.agg #[.int .i64 x29, .int .i64 x30, .int .i64 x31, .int .i64 x32]) w')) ∧
  (((x8 = x29) ∧ ((x9 = x30) ∧ ((x10 = x31) ∧ (x11 = x32)))) → (
  ((x17 = 8) → (
  ((x18 = 0) → (
  ∃ (x33 : Int), ∃ (x34 : Int), ∃ (x35 : Int), ∃ (x36 : Int), (∀ w' : World, Below w.heap.size w w' → Calls Try.prog 9 #[.int .i64 94, .int .i64 (-1), .int .i64 102, .int .i64 6] w' (Vc.Ret (.agg #[.int .i64 x33, .int .i64 x34, .int .i64 x35, .int .i64 x36]) w')) ∧
  (.bool ((x24 == x33) && ((x25 == x34) && ((x26 == x35) && (x27 == x36)))) : Value) = v)) ∧ (¬ (x18 = 0) → (
  (.bool false : Value) = v)))) ∧ (¬ (x17 = 8) → (
  (.bool false : Value) = v)))) ∧ (¬ ((x8 = x29) ∧ ((x9 = x30) ∧ ((x10 = x31) ∧ (x11 = x32)))) → (
  (.bool false : Value) = v)))) ∧ (¬ (x12 = 0) → (
  (.bool false : Value) = v)))))) ∧ (¬ (b0 = true) → (
  (.bool false : Value) = v)))) ∧ (¬ (x4 = (-1)) → (
  (.bool false : Value) = v)))) ∧ (¬ (x2 = 0) → (
  (.bool false : Value) = v)))) ∧ (¬ (x0 = 1) → (
  (.bool false : Value) = v)))) ∧ (¬ (x28 = 0) → (
  ((x0 = 1) → (
  ((x2 = 0) → (
  ((x4 = (-1)) → (
  ((b0 = true) → (
  ((b1 = true) → (
  (.bool false : Value) = v)) ∧ (¬ (b1 = true) → (
  ((x12 = 0) → (
  ∃ (x29 : Int), ∃ (x30 : Int), ∃ (x31 : Int), ∃ (x32 : Int), (∀ w' : World, Below w.heap.size w w' → Calls Try.prog 9 #[.int .i64 2000, .int .i64 0, .int .i64 2000, .int .i64 0] w' (Vc.Ret (.agg #[.int .i64 x29, .int .i64 x30, .int .i64 x31, .int .i64 x32]) w')) ∧
  (((x8 = x29) ∧ ((x9 = x30) ∧ ((x10 = x31) ∧ (x11 = x32)))) → (
  ((x17 = 8) → (
  ((x18 = 0) → (
  ∃ (x33 : Int), ∃ (x34 : Int), ∃ (x35 : Int), ∃ (x36 : Int), (∀ w' : World, Below w.heap.size w w' → Calls Try.prog 9 #[.int .i64 94, .int .i64 (-1), .int .i64 102, .int .i64 6] w' (Vc.Ret (.agg #[.int .i64 x33, .int .i64 x34, .int .i64 x35, .int .i64 x36]) w')) ∧
  (.bool false : Value) = v)) ∧ (¬ (x18 = 0) → (
  (.bool false : Value) = v)))) ∧ (¬ (x17 = 8) → (
  (.bool false : Value) = v)))) ∧ (¬ ((x8 = x29) ∧ ((x9 = x30) ∧ ((x10 = x31) ∧ (x11 = x32)))) → (
  (.bool false : Value) = v)))) ∧ (¬ (x12 = 0) → (
  (.bool false : Value) = v)))))) ∧ (¬ (b0 = true) → (
  (.bool false : Value) = v)))) ∧ (¬ (x4 = (-1)) → (
  (.bool false : Value) = v)))) ∧ (¬ (x2 = 0) → (
  (.bool false : Value) = v)))) ∧ (¬ (x0 = 1) → (
  (.bool false : Value) = v)))))))) ∧ (¬ (x19 = 0) → (
  ((x0 = 1) → (
  ((x2 = 0) → (
  ((x4 = (-1)) → (
  ((b0 = true) → (
  ((b1 = true) → (
  (.bool false : Value) = v)) ∧ (¬ (b1 = true) → (
  ((x12 = 0) → (
  ∃ (x20 : Int), ∃ (x21 : Int), ∃ (x22 : Int), ∃ (x23 : Int), (∀ w' : World, Below w.heap.size w w' → Calls Try.prog 9 #[.int .i64 2000, .int .i64 0, .int .i64 2000, .int .i64 0] w' (Vc.Ret (.agg #[.int .i64 x20, .int .i64 x21, .int .i64 x22, .int .i64 x23]) w')) ∧
  (((x8 = x20) ∧ ((x9 = x21) ∧ ((x10 = x22) ∧ (x11 = x23)))) → (
  ((x17 = 8) → (
  ((x18 = 0) → (
  (.bool false : Value) = v)) ∧ (¬ (x18 = 0) → (
  (.bool false : Value) = v)))) ∧ (¬ (x17 = 8) → (
  (.bool false : Value) = v)))) ∧ (¬ ((x8 = x20) ∧ ((x9 = x21) ∧ ((x10 = x22) ∧ (x11 = x23)))) → (
  (.bool false : Value) = v)))) ∧ (¬ (x12 = 0) → (
  (.bool false : Value) = v)))))) ∧ (¬ (b0 = true) → (
  (.bool false : Value) = v)))) ∧ (¬ (x4 = (-1)) → (
  (.bool false : Value) = v)))) ∧ (¬ (x2 = 0) → (
  (.bool false : Value) = v)))) ∧ (¬ (x0 = 1) → (
  (.bool false : Value) = v)))))))) ∧ (¬ (b4 = true) → (
  ((x0 = 1) → (
  ((x2 = 0) → (
  ((x4 = (-1)) → (
  ((b0 = true) → (
  ((b1 = true) → (
  (.bool false : Value) = v)) ∧ (¬ (b1 = true) → (
  ((x12 = 0) → (
  ∃ (x19 : Int), ∃ (x20 : Int), ∃ (x21 : Int), ∃ (x22 : Int), (∀ w' : World, Below w.heap.size w w' → Calls Try.prog 9 #[.int .i64 2000, .int .i64 0, .int .i64 2000, .int .i64 0] w' (Vc.Ret (.agg #[.int .i64 x19, .int .i64 x20, .int .i64 x21, .int .i64 x22]) w')) ∧
  (((x8 = x19) ∧ ((x9 = x20) ∧ ((x10 = x21) ∧ (x11 = x22)))) → (
  ((x17 = 8) → (
  ((x18 = 0) → (
  ∃ (x23 : Int), ∃ (x24 : Int), ∃ (x25 : Int), ∃ (x26 : Int), (∀ w' : World, Below w.heap.size w w' → Calls Try.prog 9 #[.int .i64 94, .int .i64 (-1), .int .i64 102, .int .i64 6] w' (Vc.Ret (.agg #[.int .i64 x23, .int .i64 x24, .int .i64 x25, .int .i64 x26]) w')) ∧
  (.bool false : Value) = v)) ∧ (¬ (x18 = 0) → (
  (.bool false : Value) = v)))) ∧ (¬ (x17 = 8) → (
  (.bool false : Value) = v)))) ∧ (¬ ((x8 = x19) ∧ ((x9 = x20) ∧ ((x10 = x21) ∧ (x11 = x22)))) → (
  (.bool false : Value) = v)))) ∧ (¬ (x12 = 0) → (
  (.bool false : Value) = v)))))) ∧ (¬ (b0 = true) → (
  (.bool false : Value) = v)))) ∧ (¬ (x4 = (-1)) → (
  (.bool false : Value) = v)))) ∧ (¬ (x2 = 0) → (
  (.bool false : Value) = v)))) ∧ (¬ (x0 = 1) → (
  (.bool false : Value) = v)))))))) ∧ (¬ (b2 = true) → (
  (.bool false : Value) = v))) : Calls Try.prog 4 #[] w (Vc.Ret v w) :=
  Vc.pure_of (base_inl [13, 14, 27, 26, 8, 11, 9] (by kernel_rfl)) [] 200 Try.func4 (b := (Try.f4.body).getD .skip) (by kernel_rfl) [] ⟨0, 0, 0, 0, 0, 0, 0⟩ (Vc.envOf [] [] [] []) (by kernel_rfl) (by kernel_rfl) (by kernel_rfl) h

theorem vc_safety_near_1 (x0 : Int) (w : World) (v : Value) (h : 
  ∀ x1 : Int, x1 = (if 536870912 < x0 then 536870912 else x0) →
  ∀ x2 : Int, x2 = (if x1 > (-536870912) then x1 else (-536870912)) →
  (.int .i64 x2 : Value) = v) : Calls Try.prog 54 #[.int .i64 x0] w (Vc.Ret v w) :=
  Vc.pure_of base [] 200 Try.func54 (b := (Try.f54.body).getD .skip) (by kernel_rfl) [.cv (.one (.int .i64 (.var 0)))] ⟨1, 0, 0, 0, 0, 0, 0⟩ (Vc.envOf [x0] [] [] []) (by kernel_rfl) (by kernel_rfl) (by kernel_rfl) h

end Go.Proofs.Ytpjajgeajncdgaa
