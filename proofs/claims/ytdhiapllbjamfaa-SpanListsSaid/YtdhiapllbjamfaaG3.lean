/- What the walks of functions come to (written by program). -/
import Derived.Test.YtdhiapllbjamfaaG1
set_option linter.unusedVariables false
set_option maxRecDepth 100000
namespace Go.Proofs.Ytdhiapllbjamfaa
open Go Go.RowKit
theorem vc_ullagelaw01_same (x0 x1 x2 x3 x4 x5 : Int) (w : World) (v : Value) (h : 
    (((x0 = x3) ∧ (x1 = x4)) → (
      (.bool (x2 == x5) : Value) = v)) ∧ (¬ ((x0 = x3) ∧ (x1 = x4)) → (
      (.bool false : Value) = v))) : Calls Try.prog 32 #[.agg #[.int .i64 x0, .int .i64 x1], .int .i64 x2, .agg #[.int .i64 x3, .int .i64 x4], .int .i64 x5] w (Vc.Ret v w) :=
  Vc.pure_of base [] 200 Try.func32 (b := (Try.f32.body).getD .skip) (by kernel_rfl) [.cv (.agg [.int .i64 (.var 0), .int .i64 (.var 1)]), .cv (.one (.int .i64 (.var 2))), .cv (.agg [.int .i64 (.var 3), .int .i64 (.var 4)]), .cv (.one (.int .i64 (.var 5)))] ⟨6, 0, 0, 0, 0, 0, 0⟩ (Vc.envOf [x0, x1, x2, x3, x4, x5] [] [] []) (by kernel_rfl) (by kernel_rfl) (by kernel_rfl) h

theorem vc_ullagelaw01_SpanAsks (x0 x1 x2 x3 x4 : Int) (w : World) (v : Value) (h : 
    ∃ (b0 : Bool), (∀ w' : World, Below w.heap.size w w' → Calls Try.prog 12 #[.agg #[.int .i64 x0, .int .i64 x1], .int .i64 x4] w' (Vc.Ret (.bool b0) w')) ∧
    ∃ (b1 : Bool), (∀ w' : World, Below w.heap.size w w' → Calls Try.prog 13 #[.agg #[.int .i64 x0, .int .i64 x1], .int .i64 x4] w' (Vc.Ret (.bool b1) w')) ∧
    ((((b0 = true) ↔ (b1 = true))) → (
      ∃ (b2 : Bool), (∀ w' : World, Below w.heap.size w w' → Calls Try.prog 14 #[.agg #[.int .i64 x0, .int .i64 x1], .agg #[.int .i64 x2, .int .i64 x3]] w' (Vc.Ret (.bool b2) w')) ∧
      ∃ (b3 : Bool), (∀ w' : World, Below w.heap.size w w' → Calls Try.prog 15 #[.agg #[.int .i64 x0, .int .i64 x1], .agg #[.int .i64 x2, .int .i64 x3]] w' (Vc.Ret (.bool b3) w')) ∧
      ((((b2 = true) ↔ (b3 = true))) → (
        ∃ (x5 : Int), (∀ w' : World, Below w.heap.size w w' → Calls Try.prog 16 #[.agg #[.int .i64 x0, .int .i64 x1]] w' (Vc.Ret (.int .i64 x5) w')) ∧
        ∃ (x6 : Int), (∀ w' : World, Below w.heap.size w w' → Calls Try.prog 17 #[.agg #[.int .i64 x0, .int .i64 x1]] w' (Vc.Ret (.int .i64 x6) w')) ∧
        ((x5 = x6) → (
          ∃ (x7 : Int), (∀ w' : World, Below w.heap.size w w' → Calls Try.prog 18 #[.agg #[.int .i64 x0, .int .i64 x1], .agg #[.int .i64 x2, .int .i64 x3]] w' (Vc.Ret (.int .i64 x7) w')) ∧
          ∃ (x8 : Int), (∀ w' : World, Below w.heap.size w w' → Calls Try.prog 19 #[.agg #[.int .i64 x0, .int .i64 x1], .agg #[.int .i64 x2, .int .i64 x3]] w' (Vc.Ret (.int .i64 x8) w')) ∧
          (.bool (x7 == x8) : Value) = v)) ∧ (¬ (x5 = x6) → (
          (.bool false : Value) = v)))) ∧ (¬ (((b2 = true) ↔ (b3 = true))) → (
        (.bool false : Value) = v)))) ∧ (¬ (((b0 = true) ↔ (b1 = true))) → (
      (.bool false : Value) = v))) : Calls Try.prog 3 #[.agg #[.int .i64 x0, .int .i64 x1], .agg #[.int .i64 x2, .int .i64 x3], .int .i64 x4] w (Vc.Ret v w) :=
  Vc.pure_of base [] 200 Try.func3 (b := (Try.f3.body).getD .skip) (by kernel_rfl) [.cv (.agg [.int .i64 (.var 0), .int .i64 (.var 1)]), .cv (.agg [.int .i64 (.var 2), .int .i64 (.var 3)]), .cv (.one (.int .i64 (.var 4)))] ⟨5, 0, 0, 0, 0, 0, 0⟩ (Vc.envOf [x0, x1, x2, x3, x4] [] [] []) (by kernel_rfl) (by kernel_rfl) (by kernel_rfl) h

theorem vc_ullagelaw01_SpanSets (x0 x1 x2 x3 x4 : Int) (w : World) (v : Value) (h : 
    ∃ (x5 : Int), ∃ (x6 : Int), ∃ (x7 : Int), (∀ w' : World, Below w.heap.size w w' → Calls Try.prog 20 #[.agg #[.int .i64 x0, .int .i64 x1], .agg #[.int .i64 x2, .int .i64 x3]] w' (Vc.Ret (.tuple #[.agg #[.int .i64 x5, .int .i64 x6], .int .i64 x7]) w')) ∧
    ∃ (x8 : Int), ∃ (x9 : Int), ∃ (x10 : Int), (∀ w' : World, Below w.heap.size w w' → Calls Try.prog 21 #[.agg #[.int .i64 x0, .int .i64 x1], .agg #[.int .i64 x2, .int .i64 x3]] w' (Vc.Ret (.tuple #[.agg #[.int .i64 x8, .int .i64 x9], .int .i64 x10]) w')) ∧
    ∃ (x11 : Int), ∃ (x12 : Int), ∃ (x13 : Int), (∀ w' : World, Below w.heap.size w w' → Calls Try.prog 22 #[.agg #[.int .i64 x0, .int .i64 x1], .agg #[.int .i64 x2, .int .i64 x3]] w' (Vc.Ret (.tuple #[.agg #[.int .i64 x11, .int .i64 x12], .int .i64 x13]) w')) ∧
    ∃ (x14 : Int), ∃ (x15 : Int), ∃ (x16 : Int), (∀ w' : World, Below w.heap.size w w' → Calls Try.prog 23 #[.agg #[.int .i64 x0, .int .i64 x1], .agg #[.int .i64 x2, .int .i64 x3]] w' (Vc.Ret (.tuple #[.agg #[.int .i64 x14, .int .i64 x15], .int .i64 x16]) w')) ∧
    ∃ (x17 : Int), ∃ (x18 : Int), ∃ (x19 : Int), (∀ w' : World, Below w.heap.size w w' → Calls Try.prog 24 #[.agg #[.int .i64 x0, .int .i64 x1], .int .i64 x4] w' (Vc.Ret (.tuple #[.agg #[.int .i64 x17, .int .i64 x18], .int .i64 x19]) w')) ∧
    ∃ (x20 : Int), ∃ (x21 : Int), ∃ (x22 : Int), (∀ w' : World, Below w.heap.size w w' → Calls Try.prog 25 #[.agg #[.int .i64 x0, .int .i64 x1], .int .i64 x4] w' (Vc.Ret (.tuple #[.agg #[.int .i64 x20, .int .i64 x21], .int .i64 x22]) w')) ∧
    ∃ (x23 : Int), ∃ (x24 : Int), (∀ w' : World, Below w.heap.size w w' → Calls Try.prog 26 #[.agg #[.int .i64 x0, .int .i64 x1]] w' (Vc.Ret (.tuple #[.int .i64 x23, .int .i64 x24]) w')) ∧
    ∃ (x25 : Int), ∃ (x26 : Int), (∀ w' : World, Below w.heap.size w w' → Calls Try.prog 27 #[.agg #[.int .i64 x0, .int .i64 x1]] w' (Vc.Ret (.tuple #[.int .i64 x25, .int .i64 x26]) w')) ∧
    ∃ (x27 : Int), ∃ (x28 : Int), ∃ (x29 : Int), ∃ (x30 : Int), ∃ (x31 : Int), (∀ w' : World, Below w.heap.size w w' → Calls Try.prog 28 #[.agg #[.int .i64 x0, .int .i64 x1]] w' (Vc.Ret (.tuple #[.agg #[.int .i64 x27, .int .i64 x28], .agg #[.int .i64 x29, .int .i64 x30], .int .i64 x31]) w')) ∧
    ∃ (x32 : Int), ∃ (x33 : Int), ∃ (x34 : Int), ∃ (x35 : Int), ∃ (x36 : Int), (∀ w' : World, Below w.heap.size w w' → Calls Try.prog 29 #[.agg #[.int .i64 x0, .int .i64 x1]] w' (Vc.Ret (.tuple #[.agg #[.int .i64 x32, .int .i64 x33], .agg #[.int .i64 x34, .int .i64 x35], .int .i64 x36]) w')) ∧
    ∃ (x37 : Int), ∃ (x38 : Int), (∀ w' : World, Below w.heap.size w w' → Calls Try.prog 30 #[.agg #[.int .i64 x0, .int .i64 x1]] w' (Vc.Ret (.tuple #[.int .i64 x37, .int .i64 x38]) w')) ∧
    ∃ (x39 : Int), ∃ (x40 : Int), (∀ w' : World, Below w.heap.size w w' → Calls Try.prog 31 #[.agg #[.int .i64 x0, .int .i64 x1]] w' (Vc.Ret (.tuple #[.int .i64 x39, .int .i64 x40]) w')) ∧
    ∃ (b0 : Bool), (∀ w' : World, Below w.heap.size w w' → Calls Try.prog 32 #[.agg #[.int .i64 x5, .int .i64 x6], .int .i64 x7, .agg #[.int .i64 x8, .int .i64 x9], .int .i64 x10] w' (Vc.Ret (.bool b0) w')) ∧
    ((b0 = true) → (
      ∃ (b1 : Bool), (∀ w' : World, Below w.heap.size w w' → Calls Try.prog 32 #[.agg #[.int .i64 x11, .int .i64 x12], .int .i64 x13, .agg #[.int .i64 x14, .int .i64 x15], .int .i64 x16] w' (Vc.Ret (.bool b1) w')) ∧
      ((b1 = true) → (
        ∃ (b2 : Bool), (∀ w' : World, Below w.heap.size w w' → Calls Try.prog 32 #[.agg #[.int .i64 x17, .int .i64 x18], .int .i64 x19, .agg #[.int .i64 x20, .int .i64 x21], .int .i64 x22] w' (Vc.Ret (.bool b2) w')) ∧
        ((b2 = true) → (
          ((x23 = x25) → (
            ((x24 = x26) → (
              ∃ (b3 : Bool), (∀ w' : World, Below w.heap.size w w' → Calls Try.prog 32 #[.agg #[.int .i64 x27, .int .i64 x28], .int .i64 x31, .agg #[.int .i64 x32, .int .i64 x33], .int .i64 x36] w' (Vc.Ret (.bool b3) w')) ∧
              ((b3 = true) → (
                (((x29 = x34) ∧ (x30 = x35)) → (
                  ((x37 = x39) → (
                    (.bool (x38 == x40) : Value) = v)) ∧ (¬ (x37 = x39) → (
                    (.bool false : Value) = v)))) ∧ (¬ ((x29 = x34) ∧ (x30 = x35)) → (
                  (.bool false : Value) = v)))) ∧ (¬ (b3 = true) → (
                (.bool false : Value) = v)))) ∧ (¬ (x24 = x26) → (
              (.bool false : Value) = v)))) ∧ (¬ (x23 = x25) → (
            (.bool false : Value) = v)))) ∧ (¬ (b2 = true) → (
          (.bool false : Value) = v)))) ∧ (¬ (b1 = true) → (
        (.bool false : Value) = v)))) ∧ (¬ (b0 = true) → (
      (.bool false : Value) = v))) : Calls Try.prog 4 #[.agg #[.int .i64 x0, .int .i64 x1], .agg #[.int .i64 x2, .int .i64 x3], .int .i64 x4] w (Vc.Ret v w) :=
  Vc.pure_of base [] 200 Try.func4 (b := (Try.f4.body).getD .skip) (by kernel_rfl) [.cv (.agg [.int .i64 (.var 0), .int .i64 (.var 1)]), .cv (.agg [.int .i64 (.var 2), .int .i64 (.var 3)]), .cv (.one (.int .i64 (.var 4)))] ⟨5, 0, 0, 0, 0, 0, 0⟩ (Vc.envOf [x0, x1, x2, x3, x4] [] [] []) (by kernel_rfl) (by kernel_rfl) (by kernel_rfl) h

theorem vc_ullagelaw01_SpanSums (x0 x1 x2 x3 x4 : Int) (w : World) (v : Value) (h : 
    ∃ (x5 : Int), ∃ (x6 : Int), ∃ (x7 : Int), (∀ w' : World, Below w.heap.size w w' → Calls Try.prog 33 #[.agg #[.int .i64 x0, .int .i64 x1], .agg #[.int .i64 x2, .int .i64 x3]] w' (Vc.Ret (.tuple #[.agg #[.int .i64 x5, .int .i64 x6], .int .i64 x7]) w')) ∧
    ∃ (x8 : Int), ∃ (x9 : Int), ∃ (x10 : Int), (∀ w' : World, Below w.heap.size w w' → Calls Try.prog 34 #[.agg #[.int .i64 x0, .int .i64 x1], .agg #[.int .i64 x2, .int .i64 x3]] w' (Vc.Ret (.tuple #[.agg #[.int .i64 x8, .int .i64 x9], .int .i64 x10]) w')) ∧
    ∃ (x11 : Int), ∃ (x12 : Int), ∃ (x13 : Int), (∀ w' : World, Below w.heap.size w w' → Calls Try.prog 35 #[.agg #[.int .i64 x0, .int .i64 x1], .agg #[.int .i64 x2, .int .i64 x3]] w' (Vc.Ret (.tuple #[.agg #[.int .i64 x11, .int .i64 x12], .int .i64 x13]) w')) ∧
    ∃ (x14 : Int), ∃ (x15 : Int), ∃ (x16 : Int), (∀ w' : World, Below w.heap.size w w' → Calls Try.prog 36 #[.agg #[.int .i64 x0, .int .i64 x1], .agg #[.int .i64 x2, .int .i64 x3]] w' (Vc.Ret (.tuple #[.agg #[.int .i64 x14, .int .i64 x15], .int .i64 x16]) w')) ∧
    ∃ (x17 : Int), ∃ (x18 : Int), ∃ (x19 : Int), (∀ w' : World, Below w.heap.size w w' → Calls Try.prog 37 #[.agg #[.int .i64 x0, .int .i64 x1]] w' (Vc.Ret (.tuple #[.agg #[.int .i64 x17, .int .i64 x18], .int .i64 x19]) w')) ∧
    ∃ (x20 : Int), ∃ (x21 : Int), ∃ (x22 : Int), (∀ w' : World, Below w.heap.size w w' → Calls Try.prog 38 #[.agg #[.int .i64 x0, .int .i64 x1]] w' (Vc.Ret (.tuple #[.agg #[.int .i64 x20, .int .i64 x21], .int .i64 x22]) w')) ∧
    ∃ (x23 : Int), ∃ (x24 : Int), ∃ (x25 : Int), (∀ w' : World, Below w.heap.size w w' → Calls Try.prog 39 #[.agg #[.int .i64 x0, .int .i64 x1], .int .i64 x4] w' (Vc.Ret (.tuple #[.agg #[.int .i64 x23, .int .i64 x24], .int .i64 x25]) w')) ∧
    ∃ (x26 : Int), ∃ (x27 : Int), ∃ (x28 : Int), (∀ w' : World, Below w.heap.size w w' → Calls Try.prog 40 #[.agg #[.int .i64 x0, .int .i64 x1], .int .i64 x4] w' (Vc.Ret (.tuple #[.agg #[.int .i64 x26, .int .i64 x27], .int .i64 x28]) w')) ∧
    ∃ (b0 : Bool), (∀ w' : World, Below w.heap.size w w' → Calls Try.prog 32 #[.agg #[.int .i64 x5, .int .i64 x6], .int .i64 x7, .agg #[.int .i64 x8, .int .i64 x9], .int .i64 x10] w' (Vc.Ret (.bool b0) w')) ∧
    ((b0 = true) → (
      ∃ (b1 : Bool), (∀ w' : World, Below w.heap.size w w' → Calls Try.prog 32 #[.agg #[.int .i64 x11, .int .i64 x12], .int .i64 x13, .agg #[.int .i64 x14, .int .i64 x15], .int .i64 x16] w' (Vc.Ret (.bool b1) w')) ∧
      ((b1 = true) → (
        ∃ (b2 : Bool), (∀ w' : World, Below w.heap.size w w' → Calls Try.prog 32 #[.agg #[.int .i64 x17, .int .i64 x18], .int .i64 x19, .agg #[.int .i64 x20, .int .i64 x21], .int .i64 x22] w' (Vc.Ret (.bool b2) w')) ∧
        ((b2 = true) → (
          ∃ (b3 : Bool), (∀ w' : World, Below w.heap.size w w' → Calls Try.prog 32 #[.agg #[.int .i64 x23, .int .i64 x24], .int .i64 x25, .agg #[.int .i64 x26, .int .i64 x27], .int .i64 x28] w' (Vc.Ret (.bool b3) w')) ∧
          (.bool b3 : Value) = v)) ∧ (¬ (b2 = true) → (
          (.bool false : Value) = v)))) ∧ (¬ (b1 = true) → (
        (.bool false : Value) = v)))) ∧ (¬ (b0 = true) → (
      (.bool false : Value) = v))) : Calls Try.prog 5 #[.agg #[.int .i64 x0, .int .i64 x1], .agg #[.int .i64 x2, .int .i64 x3], .int .i64 x4] w (Vc.Ret v w) :=
  Vc.pure_of base [] 200 Try.func5 (b := (Try.f5.body).getD .skip) (by kernel_rfl) [.cv (.agg [.int .i64 (.var 0), .int .i64 (.var 1)]), .cv (.agg [.int .i64 (.var 2), .int .i64 (.var 3)]), .cv (.one (.int .i64 (.var 4)))] ⟨5, 0, 0, 0, 0, 0, 0⟩ (Vc.envOf [x0, x1, x2, x3, x4] [] [] []) (by kernel_rfl) (by kernel_rfl) (by kernel_rfl) h

theorem vc_ullagelaw01_SpanMakes (x0 x1 x2 x3 : Int) (w : World) (v : Value) (h : 
    ∃ (x4 : Int), ∃ (x5 : Int), ∃ (x6 : Int), (∀ w' : World, Below w.heap.size w w' → Calls Try.prog 41 #[.int .i64 x0] w' (Vc.Ret (.tuple #[.agg #[.int .i64 x4, .int .i64 x5], .int .i64 x6]) w')) ∧
    ∃ (x7 : Int), ∃ (x8 : Int), ∃ (x9 : Int), (∀ w' : World, Below w.heap.size w w' → Calls Try.prog 42 #[.int .i64 x0] w' (Vc.Ret (.tuple #[.agg #[.int .i64 x7, .int .i64 x8], .int .i64 x9]) w')) ∧
    ∃ (x10 : Int), ∃ (x11 : Int), ∃ (x12 : Int), (∀ w' : World, Below w.heap.size w w' → Calls Try.prog 43 #[.int .i64 x2] w' (Vc.Ret (.tuple #[.agg #[.int .i64 x10, .int .i64 x11], .int .i64 x12]) w')) ∧
    ∃ (x13 : Int), ∃ (x14 : Int), ∃ (x15 : Int), (∀ w' : World, Below w.heap.size w w' → Calls Try.prog 44 #[.int .i64 x2] w' (Vc.Ret (.tuple #[.agg #[.int .i64 x13, .int .i64 x14], .int .i64 x15]) w')) ∧
    ∃ (x16 : Int), ∃ (x17 : Int), ∃ (x18 : Int), (∀ w' : World, Below w.heap.size w w' → Calls Try.prog 45 #[.int .i64 x2, .int .i64 x3] w' (Vc.Ret (.tuple #[.agg #[.int .i64 x16, .int .i64 x17], .int .i64 x18]) w')) ∧
    ∃ (x19 : Int), ∃ (x20 : Int), ∃ (x21 : Int), (∀ w' : World, Below w.heap.size w w' → Calls Try.prog 46 #[.int .i64 x2, .int .i64 x3] w' (Vc.Ret (.tuple #[.agg #[.int .i64 x19, .int .i64 x20], .int .i64 x21]) w')) ∧
    ∃ (x22 : Int), (∀ w' : World, Below w.heap.size w w' → Calls Try.prog 47 #[.agg #[.int .i64 x0, .int .i64 x1]] w' (Vc.Ret (.int .i64 x22) w')) ∧
    ∃ (x23 : Int), (∀ w' : World, Below w.heap.size w w' → Calls Try.prog 48 #[.agg #[.int .i64 x0, .int .i64 x1]] w' (Vc.Ret (.int .i64 x23) w')) ∧
    ((x22 = x23) → (
      ∃ (b0 : Bool), (∀ w' : World, Below w.heap.size w w' → Calls Try.prog 32 #[.agg #[.int .i64 x4, .int .i64 x5], .int .i64 x6, .agg #[.int .i64 x7, .int .i64 x8], .int .i64 x9] w' (Vc.Ret (.bool b0) w')) ∧
      ((b0 = true) → (
        ∃ (b1 : Bool), (∀ w' : World, Below w.heap.size w w' → Calls Try.prog 32 #[.agg #[.int .i64 x10, .int .i64 x11], .int .i64 x12, .agg #[.int .i64 x13, .int .i64 x14], .int .i64 x15] w' (Vc.Ret (.bool b1) w')) ∧
        ((b1 = true) → (
          ∃ (b2 : Bool), (∀ w' : World, Below w.heap.size w w' → Calls Try.prog 32 #[.agg #[.int .i64 x16, .int .i64 x17], .int .i64 x18, .agg #[.int .i64 x19, .int .i64 x20], .int .i64 x21] w' (Vc.Ret (.bool b2) w')) ∧
          (.bool b2 : Value) = v)) ∧ (¬ (b1 = true) → (
          (.bool false : Value) = v)))) ∧ (¬ (b0 = true) → (
        (.bool false : Value) = v)))) ∧ (¬ (x22 = x23) → (
      (.bool false : Value) = v))) : Calls Try.prog 6 #[.agg #[.int .i64 x0, .int .i64 x1], .int .i64 x2, .int .i64 x3] w (Vc.Ret v w) :=
  Vc.pure_of base [] 200 Try.func6 (b := (Try.f6.body).getD .skip) (by kernel_rfl) [.cv (.agg [.int .i64 (.var 0), .int .i64 (.var 1)]), .cv (.one (.int .i64 (.var 2))), .cv (.one (.int .i64 (.var 3)))] ⟨4, 0, 0, 0, 0, 0, 0⟩ (Vc.envOf [x0, x1, x2, x3] [] [] []) (by kernel_rfl) (by kernel_rfl) (by kernel_rfl) h

theorem vc_ullagelaw01_SpanTurns (x0 x1 : Int) (w : World) (v : Value) (h : 
    ∃ (x2 : Int), ∃ (x3 : Int), ∃ (x4 : Int), ∃ (x5 : Int), ∃ (x6 : Int), (∀ w' : World, Below w.heap.size w w' → Calls Try.prog 49 #[.agg #[.int .i64 x0, .int .i64 x1]] w' (Vc.Ret (.tuple #[.agg #[.int .i64 x2, .int .i64 x3], .agg #[.int .i64 x4, .int .i64 x5], .int .i64 x6]) w')) ∧
    ∃ (x7 : Int), ∃ (x8 : Int), ∃ (x9 : Int), ∃ (x10 : Int), ∃ (x11 : Int), (∀ w' : World, Below w.heap.size w w' → Calls Try.prog 50 #[.agg #[.int .i64 x0, .int .i64 x1]] w' (Vc.Ret (.tuple #[.agg #[.int .i64 x7, .int .i64 x8], .agg #[.int .i64 x9, .int .i64 x10], .int .i64 x11]) w')) ∧
    ∃ (b0 : Bool), (∀ w' : World, Below w.heap.size w w' → Calls Try.prog 32 #[.agg #[.int .i64 x2, .int .i64 x3], .int .i64 x6, .agg #[.int .i64 x7, .int .i64 x8], .int .i64 x11] w' (Vc.Ret (.bool b0) w')) ∧
    ((b0 = true) → (
      (.bool ((x4 == x9) && (x5 == x10)) : Value) = v)) ∧ (¬ (b0 = true) → (
      (.bool false : Value) = v))) : Calls Try.prog 7 #[.agg #[.int .i64 x0, .int .i64 x1]] w (Vc.Ret v w) :=
  Vc.pure_of base [] 200 Try.func7 (b := (Try.f7.body).getD .skip) (by kernel_rfl) [.cv (.agg [.int .i64 (.var 0), .int .i64 (.var 1)])] ⟨2, 0, 0, 0, 0, 0, 0⟩ (Vc.envOf [x0, x1] [] [] []) (by kernel_rfl) (by kernel_rfl) (by kernel_rfl) h

theorem vc_ullagelaw01_SpanProducts (x0 x1 x2 x3 : Int) (w : World) (v : Value) (h : 
    ∃ (x4 : Int), ∃ (x5 : Int), ∃ (x6 : Int), (∀ w' : World, Below w.heap.size w w' → Calls Try.prog 51 #[.agg #[.int .i64 x0, .int .i64 x1], .agg #[.int .i64 x2, .int .i64 x3]] w' (Vc.Ret (.tuple #[.agg #[.int .i64 x4, .int .i64 x5], .int .i64 x6]) w')) ∧
    ∃ (x7 : Int), ∃ (x8 : Int), ∃ (x9 : Int), (∀ w' : World, Below w.heap.size w w' → Calls Try.prog 52 #[.agg #[.int .i64 x0, .int .i64 x1], .agg #[.int .i64 x2, .int .i64 x3]] w' (Vc.Ret (.tuple #[.agg #[.int .i64 x7, .int .i64 x8], .int .i64 x9]) w')) ∧
    ∃ (x10 : Int), ∃ (x11 : Int), ∃ (x12 : Int), (∀ w' : World, Below w.heap.size w w' → Calls Try.prog 53 #[.agg #[.int .i64 x0, .int .i64 x1], .agg #[.int .i64 x2, .int .i64 x3]] w' (Vc.Ret (.tuple #[.agg #[.int .i64 x10, .int .i64 x11], .int .i64 x12]) w')) ∧
    ∃ (x13 : Int), ∃ (x14 : Int), ∃ (x15 : Int), (∀ w' : World, Below w.heap.size w w' → Calls Try.prog 54 #[.agg #[.int .i64 x0, .int .i64 x1], .agg #[.int .i64 x2, .int .i64 x3]] w' (Vc.Ret (.tuple #[.agg #[.int .i64 x13, .int .i64 x14], .int .i64 x15]) w')) ∧
    ∃ (b0 : Bool), (∀ w' : World, Below w.heap.size w w' → Calls Try.prog 32 #[.agg #[.int .i64 x4, .int .i64 x5], .int .i64 x6, .agg #[.int .i64 x7, .int .i64 x8], .int .i64 x9] w' (Vc.Ret (.bool b0) w')) ∧
    ((b0 = true) → (
      ∃ (b1 : Bool), (∀ w' : World, Below w.heap.size w w' → Calls Try.prog 32 #[.agg #[.int .i64 x10, .int .i64 x11], .int .i64 x12, .agg #[.int .i64 x13, .int .i64 x14], .int .i64 x15] w' (Vc.Ret (.bool b1) w')) ∧
      (.bool b1 : Value) = v)) ∧ (¬ (b0 = true) → (
      (.bool false : Value) = v))) : Calls Try.prog 8 #[.agg #[.int .i64 x0, .int .i64 x1], .agg #[.int .i64 x2, .int .i64 x3]] w (Vc.Ret v w) :=
  Vc.pure_of base [] 200 Try.func8 (b := (Try.f8.body).getD .skip) (by kernel_rfl) [.cv (.agg [.int .i64 (.var 0), .int .i64 (.var 1)]), .cv (.agg [.int .i64 (.var 2), .int .i64 (.var 3)])] ⟨4, 0, 0, 0, 0, 0, 0⟩ (Vc.envOf [x0, x1, x2, x3] [] [] []) (by kernel_rfl) (by kernel_rfl) (by kernel_rfl) h

theorem vc_ullagelaw01_SpanRoots (x0 x1 x2 x3 : Int) (w : World) (v : Value) (h : 
    ∃ (x4 : Int), ∃ (x5 : Int), ∃ (x6 : Int), (∀ w' : World, Below w.heap.size w w' → Calls Try.prog 59 #[.agg #[.int .i64 x0, .int .i64 x1]] w' (Vc.Ret (.tuple #[.agg #[.int .i64 x4, .int .i64 x5], .int .i64 x6]) w')) ∧
    ∃ (x7 : Int), ∃ (x8 : Int), ∃ (x9 : Int), (∀ w' : World, Below w.heap.size w w' → Calls Try.prog 60 #[.agg #[.int .i64 x0, .int .i64 x1]] w' (Vc.Ret (.tuple #[.agg #[.int .i64 x7, .int .i64 x8], .int .i64 x9]) w')) ∧
    ∃ (x10 : Int), ∃ (x11 : Int), ∃ (x12 : Int), (∀ w' : World, Below w.heap.size w w' → Calls Try.prog 61 #[.agg #[.int .i64 x0, .int .i64 x1]] w' (Vc.Ret (.tuple #[.agg #[.int .i64 x10, .int .i64 x11], .int .i64 x12]) w')) ∧
    ∃ (x13 : Int), ∃ (x14 : Int), ∃ (x15 : Int), (∀ w' : World, Below w.heap.size w w' → Calls Try.prog 62 #[.agg #[.int .i64 x0, .int .i64 x1]] w' (Vc.Ret (.tuple #[.agg #[.int .i64 x13, .int .i64 x14], .int .i64 x15]) w')) ∧
    ∃ (x16 : Int), ∃ (x17 : Int), ∃ (x18 : Int), (∀ w' : World, Below w.heap.size w w' → Calls Try.prog 63 #[.agg #[.int .i64 x0, .int .i64 x1]] w' (Vc.Ret (.tuple #[.agg #[.int .i64 x16, .int .i64 x17], .int .i64 x18]) w')) ∧
    ∃ (x19 : Int), ∃ (x20 : Int), ∃ (x21 : Int), (∀ w' : World, Below w.heap.size w w' → Calls Try.prog 64 #[.agg #[.int .i64 x0, .int .i64 x1]] w' (Vc.Ret (.tuple #[.agg #[.int .i64 x19, .int .i64 x20], .int .i64 x21]) w')) ∧
    ∃ (x22 : Int), ∃ (x23 : Int), ∃ (x24 : Int), (∀ w' : World, Below w.heap.size w w' → Calls Try.prog 65 #[.agg #[.int .i64 x0, .int .i64 x1], .agg #[.int .i64 x2, .int .i64 x3]] w' (Vc.Ret (.tuple #[.agg #[.int .i64 x22, .int .i64 x23], .int .i64 x24]) w')) ∧
    ∃ (x25 : Int), ∃ (x26 : Int), ∃ (x27 : Int), (∀ w' : World, Below w.heap.size w w' → Calls Try.prog 66 #[.agg #[.int .i64 x0, .int .i64 x1], .agg #[.int .i64 x2, .int .i64 x3]] w' (Vc.Ret (.tuple #[.agg #[.int .i64 x25, .int .i64 x26], .int .i64 x27]) w')) ∧
    ∃ (x28 : Int), ∃ (x29 : Int), ∃ (x30 : Int), (∀ w' : World, Below w.heap.size w w' → Calls Try.prog 67 #[.agg #[.int .i64 x0, .int .i64 x1], .agg #[.int .i64 x2, .int .i64 x3]] w' (Vc.Ret (.tuple #[.agg #[.int .i64 x28, .int .i64 x29], .int .i64 x30]) w')) ∧
    ∃ (x31 : Int), ∃ (x32 : Int), ∃ (x33 : Int), (∀ w' : World, Below w.heap.size w w' → Calls Try.prog 68 #[.agg #[.int .i64 x0, .int .i64 x1], .agg #[.int .i64 x2, .int .i64 x3]] w' (Vc.Ret (.tuple #[.agg #[.int .i64 x31, .int .i64 x32], .int .i64 x33]) w')) ∧
    ∃ (b0 : Bool), (∀ w' : World, Below w.heap.size w w' → Calls Try.prog 32 #[.agg #[.int .i64 x4, .int .i64 x5], .int .i64 x6, .agg #[.int .i64 x7, .int .i64 x8], .int .i64 x9] w' (Vc.Ret (.bool b0) w')) ∧
    ((b0 = true) → (
      ∃ (b1 : Bool), (∀ w' : World, Below w.heap.size w w' → Calls Try.prog 32 #[.agg #[.int .i64 x10, .int .i64 x11], .int .i64 x12, .agg #[.int .i64 x13, .int .i64 x14], .int .i64 x15] w' (Vc.Ret (.bool b1) w')) ∧
      ((b1 = true) → (
        ∃ (b2 : Bool), (∀ w' : World, Below w.heap.size w w' → Calls Try.prog 32 #[.agg #[.int .i64 x16, .int .i64 x17], .int .i64 x18, .agg #[.int .i64 x19, .int .i64 x20], .int .i64 x21] w' (Vc.Ret (.bool b2) w')) ∧
        ((b2 = true) → (
          ∃ (b3 : Bool), (∀ w' : World, Below w.heap.size w w' → Calls Try.prog 32 #[.agg #[.int .i64 x22, .int .i64 x23], .int .i64 x24, .agg #[.int .i64 x25, .int .i64 x26], .int .i64 x27] w' (Vc.Ret (.bool b3) w')) ∧
          ((b3 = true) → (
            ∃ (b4 : Bool), (∀ w' : World, Below w.heap.size w w' → Calls Try.prog 32 #[.agg #[.int .i64 x28, .int .i64 x29], .int .i64 x30, .agg #[.int .i64 x31, .int .i64 x32], .int .i64 x33] w' (Vc.Ret (.bool b4) w')) ∧
            (.bool b4 : Value) = v)) ∧ (¬ (b3 = true) → (
            (.bool false : Value) = v)))) ∧ (¬ (b2 = true) → (
          (.bool false : Value) = v)))) ∧ (¬ (b1 = true) → (
        (.bool false : Value) = v)))) ∧ (¬ (b0 = true) → (
      (.bool false : Value) = v))) : Calls Try.prog 10 #[.agg #[.int .i64 x0, .int .i64 x1], .agg #[.int .i64 x2, .int .i64 x3]] w (Vc.Ret v w) :=
  Vc.pure_of base [] 200 Try.func10 (b := (Try.f10.body).getD .skip) (by kernel_rfl) [.cv (.agg [.int .i64 (.var 0), .int .i64 (.var 1)]), .cv (.agg [.int .i64 (.var 2), .int .i64 (.var 3)])] ⟨4, 0, 0, 0, 0, 0, 0⟩ (Vc.envOf [x0, x1, x2, x3] [] [] []) (by kernel_rfl) (by kernel_rfl) (by kernel_rfl) h

end Go.Proofs.Ytdhiapllbjamfaa
