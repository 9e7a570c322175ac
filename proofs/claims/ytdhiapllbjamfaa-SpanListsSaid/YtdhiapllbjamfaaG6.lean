/- What the walks of functions come to (written by program). -/
import Derived.Test.YtdhiapllbjamfaaG1
set_option linter.unusedVariables false
set_option maxRecDepth 100000
namespace Go.Proofs.Ytdhiapllbjamfaa
open Go Go.RowKit
theorem vc_span_checked_q (p0 : Nat × Nat) (x0 x1 : Int) (b0 : Bool) (w : World) (v : Value) (h : 
    (0 ≤ x0) ∧
    ((¬ (b0 = true)) ∨ (x0 = 0)) ∧
    ∃ (Ix2 : List Vc.Vl → Prop) (mx2 : List Vc.Vl → Nat), Ix2 [.i 0, .i 0] ∧ ∀ (x2 : Int) (x3 : Int), Ix2 [.i x2, .i x3] → (
      ((x3 < x0) → (
        (¬ (b0 = true)) ∧
        (0 ≤ x3) ∧
        (x3 < x0) ∧
        ∃ (x4 : Int), w.cell? ⟨p0.1, p0.2 + (Int.toNat x3) * 2 + 0, none⟩ = some (.int .i64 x4) ∧
        ∃ (x5 : Int), w.cell? ⟨p0.1, p0.2 + (Int.toNat x3) * 2 + 1, none⟩ = some (.int .i64 x5) ∧
        ∃ (x6 : Int), (∀ w' : World, Below w.heap.size w w' → Calls Try.prog 47 #[.agg #[.int .i64 x4, .int .i64 x5]] w' (Vc.Ret (.int .i64 x6) w')) ∧
        ((x6 = 0) → (
          ∀ x7 : Int, x7 = IntKind.i64.wrap (x3 + 1) →
          Ix2 [.i x2, .i x7] ∧ mx2 [.i x2, .i x7] < mx2 [.i x2, .i x3])) ∧ (¬ (x6 = 0) → (
          (.int .i64 x6 : Value) = v)))) ∧ (¬ (x3 < x0) → (
        (.int .i64 0 : Value) = v)))) : Calls Try.prog 75 #[(if b0 = true then .slice none 0 0 else .slice (some ⟨p0.1, p0.2, none⟩) (Int.toNat x0) (Int.toNat x1) : Value)] w (Vc.Ret v w) :=
  Vc.pure_of base [(2, .inv [] [2, 8] [9, 10, 11, 4, 12, 13, 5, 14, 15, 16, 17])] 200 Try.func75 (b := (Try.f75.body).getD .skip) (by kernel_rfl) [.cv (.one (.qsl 0 0 2 (.var 0) (.var 1)))] ⟨2, 1, 0, 1, 0, 0, 0⟩ (Vc.envOf [x0, x1] [b0] [] [p0]) (by kernel_rfl) (by kernel_rfl) (by kernel_rfl) h

theorem vc_span_few_1 (p0 : Nat × Nat) (w : World) (v : Value) (h : 
    ∃ (b0 : Bool) (p1 : Nat × Nat) (x0 x1 : Int), w.cell? ⟨p0.1, p0.2 + (Int.toNat 0) * 1 + 0, none⟩ = some ((if b0 = true then .slice none 0 0 else .slice (some ⟨p1.1, p1.2, none⟩) (Int.toNat x0) (Int.toNat x1) : Value)) ∧
    (0 ≤ x0) ∧
    ((¬ (b0 = true)) ∨ (x0 = 0)) ∧
    ((64 < x0) → (
      (.int .i64 3 : Value) = v)) ∧ (¬ (64 < x0) → (
      ∃ (b1 : Bool) (p2 : Nat × Nat) (x2 x3 : Int), w.cell? ⟨p0.1, p0.2 + (Int.toNat 0) * 1 + 0, none⟩ = some ((if b1 = true then .slice none 0 0 else .slice (some ⟨p2.1, p2.2, none⟩) (Int.toNat x2) (Int.toNat x3) : Value)) ∧
      ∃ (x4 : Int), (∀ w' : World, Below w.heap.size w w' → Calls Try.prog 75 #[(if b1 = true then .slice none 0 0 else .slice (some ⟨p2.1, p2.2, none⟩) (Int.toNat x2) (Int.toNat x3) : Value)] w' (Vc.Ret (.int .i64 x4) w')) ∧
      ((x4 = 0) → (
        (.int .i64 0 : Value) = v)) ∧ (¬ (x4 = 0) → (
        (.int .i64 x4 : Value) = v))))) : Calls Try.prog 114 #[.slice (some ⟨p0.1, p0.2, none⟩) 1 1] w (Vc.Ret v w) :=
  Vc.pure_of base [(2, .unroll), (8, .unroll)] 200 Try.func114 (b := (Try.f114.body).getD .skip) (by kernel_rfl) [.cv (.one (.xsl 0 (.lit (0)) 1 (.lit (1)) (.lit (1))))] ⟨0, 0, 0, 1, 0, 0, 0⟩ (Vc.envOf [] [] [] [p0]) (by kernel_rfl) (by kernel_rfl) (by kernel_rfl) h

theorem vc_span_few_2 (p0 : Nat × Nat) (w : World) (v : Value) (h : 
    ∃ (b0 : Bool) (p1 : Nat × Nat) (x0 x1 : Int), w.cell? ⟨p0.1, p0.2 + (Int.toNat 0) * 1 + 0, none⟩ = some ((if b0 = true then .slice none 0 0 else .slice (some ⟨p1.1, p1.2, none⟩) (Int.toNat x0) (Int.toNat x1) : Value)) ∧
    (0 ≤ x0) ∧
    ((¬ (b0 = true)) ∨ (x0 = 0)) ∧
    ((64 < x0) → (
      (.int .i64 3 : Value) = v)) ∧ (¬ (64 < x0) → (
      ∃ (b1 : Bool) (p2 : Nat × Nat) (x2 x3 : Int), w.cell? ⟨p0.1, p0.2 + (Int.toNat 1) * 1 + 0, none⟩ = some ((if b1 = true then .slice none 0 0 else .slice (some ⟨p2.1, p2.2, none⟩) (Int.toNat x2) (Int.toNat x3) : Value)) ∧
      (0 ≤ x2) ∧
      ((¬ (b1 = true)) ∨ (x2 = 0)) ∧
      ((64 < x2) → (
        (.int .i64 3 : Value) = v)) ∧ (¬ (64 < x2) → (
        ∃ (b2 : Bool) (p3 : Nat × Nat) (x4 x5 : Int), w.cell? ⟨p0.1, p0.2 + (Int.toNat 0) * 1 + 0, none⟩ = some ((if b2 = true then .slice none 0 0 else .slice (some ⟨p3.1, p3.2, none⟩) (Int.toNat x4) (Int.toNat x5) : Value)) ∧
        ∃ (x6 : Int), (∀ w' : World, Below w.heap.size w w' → Calls Try.prog 75 #[(if b2 = true then .slice none 0 0 else .slice (some ⟨p3.1, p3.2, none⟩) (Int.toNat x4) (Int.toNat x5) : Value)] w' (Vc.Ret (.int .i64 x6) w')) ∧
        ((x6 = 0) → (
          ∃ (b3 : Bool) (p4 : Nat × Nat) (x7 x8 : Int), w.cell? ⟨p0.1, p0.2 + (Int.toNat 1) * 1 + 0, none⟩ = some ((if b3 = true then .slice none 0 0 else .slice (some ⟨p4.1, p4.2, none⟩) (Int.toNat x7) (Int.toNat x8) : Value)) ∧
          ∃ (x9 : Int), (∀ w' : World, Below w.heap.size w w' → Calls Try.prog 75 #[(if b3 = true then .slice none 0 0 else .slice (some ⟨p4.1, p4.2, none⟩) (Int.toNat x7) (Int.toNat x8) : Value)] w' (Vc.Ret (.int .i64 x9) w')) ∧
          ((x9 = 0) → (
            (.int .i64 0 : Value) = v)) ∧ (¬ (x9 = 0) → (
            (.int .i64 x9 : Value) = v)))) ∧ (¬ (x6 = 0) → (
          (.int .i64 x6 : Value) = v))))))) : Calls Try.prog 114 #[.slice (some ⟨p0.1, p0.2, none⟩) 2 2] w (Vc.Ret v w) :=
  Vc.pure_of base [(2, .unroll), (8, .unroll)] 200 Try.func114 (b := (Try.f114.body).getD .skip) (by kernel_rfl) [.cv (.one (.xsl 0 (.lit (0)) 1 (.lit (2)) (.lit (2))))] ⟨0, 0, 0, 1, 0, 0, 0⟩ (Vc.envOf [] [] [] [p0]) (by kernel_rfl) (by kernel_rfl) (by kernel_rfl) h

theorem vc_span_Sum (p0 : Nat × Nat) (x0 x1 : Int) (b0 : Bool) (w : World) (v : Value) (h : 
    ∃ (x2 : Int), (∀ (β : Nat → Nat) (w' : World), Below w.heap.size w w' → ((w.heap.size ≤ β 1 ∧ w'.heap[β 1]? = some (.cells #[(if b0 = true then .slice none 0 0 else .slice (some ⟨p0.1, p0.2, none⟩) (Int.toNat x0) (Int.toNat x1) : Value)] 68)) ∧ True) → Calls Try.prog 114 #[.slice (some ⟨β 1, 0, none⟩) 1 1] w' (Vc.Ret (.int .i64 x2) w')) ∧
    ((x2 = 0) → (
      (0 ≤ x0) ∧
      ((¬ (b0 = true)) ∨ (x0 = 0)) ∧
      ∃ (Ix3 : List Vc.Vl → Prop) (mx3 : List Vc.Vl → Nat), Ix3 [.i 0, .i 0, .i 0] ∧ ∀ (x3 : Int) (x4 : Int) (x5 : Int), Ix3 [.i x3, .i x4, .i x5] → (
        ((x3 < x0) → (
          (¬ (b0 = true)) ∧
          (0 ≤ x3) ∧
          (x3 < x0) ∧
          ∃ (x6 : Int), w.cell? ⟨p0.1, p0.2 + (Int.toNat x3) * 2 + 0, none⟩ = some (.int .i64 x6) ∧
          ∃ (x7 : Int), w.cell? ⟨p0.1, p0.2 + (Int.toNat x3) * 2 + 1, none⟩ = some (.int .i64 x7) ∧
          ∃ (x8 : Int), ∃ (x9 : Int), ∃ (x10 : Int), (∀ w' : World, Below w.heap.size w w' → Calls Try.prog 33 #[.agg #[.int .i64 x4, .int .i64 x5], .agg #[.int .i64 x6, .int .i64 x7]] w' (Vc.Ret (.tuple #[.agg #[.int .i64 x8, .int .i64 x9], .int .i64 x10]) w')) ∧
          ((x10 = 0) → (
            ∀ x11 : Int, x11 = IntKind.i64.wrap (x3 + 1) →
            Ix3 [.i x11, .i x8, .i x9] ∧ mx3 [.i x11, .i x8, .i x9] < mx3 [.i x3, .i x4, .i x5])) ∧ (¬ (x10 = 0) → (
            (.tuple #[.agg #[.int .i64 0, .int .i64 0], .int .i64 x10] : Value) = v)))) ∧ (¬ (x3 < x0) → (
          (.tuple #[.agg #[.int .i64 x4, .int .i64 x5], .int .i64 0] : Value) = v))))) ∧ (¬ (x2 = 0) → (
      (.tuple #[.agg #[.int .i64 0, .int .i64 0], .int .i64 x2] : Value) = v))) : Calls Try.prog 69 #[(if b0 = true then .slice none 0 0 else .slice (some ⟨p0.1, p0.2, none⟩) (Int.toNat x0) (Int.toNat x1) : Value)] w (Vc.Ret v w) :=
  Vc.pure_of (base_inl [115, 116, 135, 117] (by kernel_rfl)) [(1, .invb [(6, 0), (6, 1)] [] [6] [7, 8, 3, 9, 10, 11, 12, 13, 14, 15, 16, 17])] 200 Try.func69 (b := (Try.f69.body).getD .skip) (by kernel_rfl) [.cv (.one (.qsl 0 0 2 (.var 0) (.var 1)))] ⟨2, 1, 0, 1, 0, 0, 0⟩ (Vc.envOf [x0, x1] [b0] [] [p0]) (by kernel_rfl) (by kernel_rfl) (by kernel_rfl) h

theorem vc_span_Norm (p0 : Nat × Nat) (x0 x1 : Int) (b0 : Bool) (w : World) (v : Value) (h : 
    ∃ (x2 : Int), (∀ (β : Nat → Nat) (w' : World), Below w.heap.size w w' → ((w.heap.size ≤ β 1 ∧ w'.heap[β 1]? = some (.cells #[(if b0 = true then .slice none 0 0 else .slice (some ⟨p0.1, p0.2, none⟩) (Int.toNat x0) (Int.toNat x1) : Value)] 68)) ∧ True) → Calls Try.prog 114 #[.slice (some ⟨β 1, 0, none⟩) 1 1] w' (Vc.Ret (.int .i64 x2) w')) ∧
    ((x2 = 0) → (
      (0 ≤ x0) ∧
      ((¬ (b0 = true)) ∨ (x0 = 0)) ∧
      ∃ (Ix3 : List Vc.Vl → Prop) (mx3 : List Vc.Vl → Nat), Ix3 [.i 0, .i 0, .i 0] ∧ ∀ (x3 : Int) (x4 : Int) (x5 : Int), Ix3 [.i x3, .i x4, .i x5] → (
        ((x3 < x0) → (
          (¬ (b0 = true)) ∧
          (0 ≤ x3) ∧
          (x3 < x0) ∧
          ∃ (x6 : Int), w.cell? ⟨p0.1, p0.2 + (Int.toNat x3) * 2 + 0, none⟩ = some (.int .i64 x6) ∧
          ∃ (x7 : Int), w.cell? ⟨p0.1, p0.2 + (Int.toNat x3) * 2 + 1, none⟩ = some (.int .i64 x7) ∧
          ∃ (x8 : Int), ∃ (x9 : Int), ∃ (x10 : Int), (∀ w' : World, Below w.heap.size w w' → Calls Try.prog 59 #[.agg #[.int .i64 x6, .int .i64 x7]] w' (Vc.Ret (.tuple #[.agg #[.int .i64 x8, .int .i64 x9], .int .i64 x10]) w')) ∧
          ((x10 = 0) → (
            ∃ (x11 : Int), ∃ (x12 : Int), ∃ (x13 : Int), (∀ w' : World, Below w.heap.size w w' → Calls Try.prog 33 #[.agg #[.int .i64 x4, .int .i64 x5], .agg #[.int .i64 x8, .int .i64 x9]] w' (Vc.Ret (.tuple #[.agg #[.int .i64 x11, .int .i64 x12], .int .i64 x13]) w')) ∧
            ((x13 = 0) → (
              ∀ x14 : Int, x14 = IntKind.i64.wrap (x3 + 1) →
              Ix3 [.i x14, .i x11, .i x12] ∧ mx3 [.i x14, .i x11, .i x12] < mx3 [.i x3, .i x4, .i x5])) ∧ (¬ (x13 = 0) → (
              ((x13 = 0) → (
                ∃ (x14 : Int), ∃ (x15 : Int), ∃ (x16 : Int), (∀ w' : World, Below w.heap.size w w' → Calls Try.prog 61 #[.agg #[.int .i64 0, .int .i64 0]] w' (Vc.Ret (.tuple #[.agg #[.int .i64 x14, .int .i64 x15], .int .i64 x16]) w')) ∧
                (.tuple #[.agg #[.int .i64 x14, .int .i64 x15], .int .i64 x16] : Value) = v)) ∧ (¬ (x13 = 0) → (
                (.tuple #[.agg #[.int .i64 0, .int .i64 0], .int .i64 x13] : Value) = v)))))) ∧ (¬ (x10 = 0) → (
            ((x10 = 0) → (
              ∀ x11 : Int, x11 = IntKind.i64.wrap (x3 + 1) →
              Ix3 [.i x11, .i x4, .i x5] ∧ mx3 [.i x11, .i x4, .i x5] < mx3 [.i x3, .i x4, .i x5])) ∧ (¬ (x10 = 0) → (
              ((x10 = 0) → (
                ∃ (x11 : Int), ∃ (x12 : Int), ∃ (x13 : Int), (∀ w' : World, Below w.heap.size w w' → Calls Try.prog 61 #[.agg #[.int .i64 0, .int .i64 0]] w' (Vc.Ret (.tuple #[.agg #[.int .i64 x11, .int .i64 x12], .int .i64 x13]) w')) ∧
                (.tuple #[.agg #[.int .i64 x11, .int .i64 x12], .int .i64 x13] : Value) = v)) ∧ (¬ (x10 = 0) → (
                (.tuple #[.agg #[.int .i64 0, .int .i64 0], .int .i64 x10] : Value) = v)))))))) ∧ (¬ (x3 < x0) → (
          ∃ (x6 : Int), ∃ (x7 : Int), ∃ (x8 : Int), (∀ w' : World, Below w.heap.size w w' → Calls Try.prog 61 #[.agg #[.int .i64 x4, .int .i64 x5]] w' (Vc.Ret (.tuple #[.agg #[.int .i64 x6, .int .i64 x7], .int .i64 x8]) w')) ∧
          (.tuple #[.agg #[.int .i64 x6, .int .i64 x7], .int .i64 x8] : Value) = v))))) ∧ (¬ (x2 = 0) → (
      (.tuple #[.agg #[.int .i64 0, .int .i64 0], .int .i64 x2] : Value) = v))) : Calls Try.prog 73 #[(if b0 = true then .slice none 0 0 else .slice (some ⟨p0.1, p0.2, none⟩) (Int.toNat x0) (Int.toNat x1) : Value)] w (Vc.Ret v w) :=
  Vc.pure_of (base_inl [115, 116, 135] (by kernel_rfl)) [(1, .invb [(6, 0), (6, 1)] [] [6] [7, 8, 3, 9, 10, 11, 12, 13, 14, 15, 16, 17])] 200 Try.func73 (b := (Try.f73.body).getD .skip) (by kernel_rfl) [.cv (.one (.qsl 0 0 2 (.var 0) (.var 1)))] ⟨2, 1, 0, 1, 0, 0, 0⟩ (Vc.envOf [x0, x1] [b0] [] [p0]) (by kernel_rfl) (by kernel_rfl) (by kernel_rfl) h

theorem vc_span_Dot (p0 p1 : Nat × Nat) (x0 x1 x2 x3 : Int) (b0 b1 : Bool) (w : World) (v : Value) (h : 
    ∃ (x4 : Int), (∀ (β : Nat → Nat) (w' : World), Below w.heap.size w w' → ((w.heap.size ≤ β 1 ∧ w'.heap[β 1]? = some (.cells #[(if b0 = true then .slice none 0 0 else .slice (some ⟨p0.1, p0.2, none⟩) (Int.toNat x0) (Int.toNat x1) : Value), (if b1 = true then .slice none 0 0 else .slice (some ⟨p1.1, p1.2, none⟩) (Int.toNat x2) (Int.toNat x3) : Value)] 68)) ∧ True) → Calls Try.prog 114 #[.slice (some ⟨β 1, 0, none⟩) 2 2] w' (Vc.Ret (.int .i64 x4) w')) ∧
    ((x4 = 0) → (
      (0 ≤ x0) ∧
      ((¬ (b0 = true)) ∨ (x0 = 0)) ∧
      (0 ≤ x2) ∧
      ((¬ (b1 = true)) ∨ (x2 = 0)) ∧
      ((x0 = x2) → (
        (0 ≤ x0) ∧
        ((¬ (b0 = true)) ∨ (x0 = 0)) ∧
        (0 ≤ x0) ∧
        (x0 ≤ 1073741824) ∧
        ∀ l0 : List Vc.OV, l0.map (·.1) = Vc.times ([.int .i64 0, .int .i64 0, .int .i64 0, .int .i64 0] : List Value) (Int.toNat x0) →
        (0 ≤ x0) ∧
        ((¬ (b0 = true)) ∨ (x0 = 0)) ∧
        ∃ (Ix5 : List Vc.Vl → Prop) (mx5 : List Vc.Vl → Nat), Ix5 [.i 0, .l ((l0.map (·.1) ++ (([] : List Value))))] ∧ ∀ (x5 : Int) (l1 : List Vc.OV), Ix5 [.i x5, .l ((l1.map (·.1) ++ (([] : List Value))))] → (
          ((x5 < x0) → (
            (¬ (b0 = true)) ∧
            (0 ≤ x5) ∧
            (x5 < x0) ∧
            ∃ (x6 : Int), w.cell? ⟨p0.1, p0.2 + (Int.toNat x5) * 2 + 0, none⟩ = some (.int .i64 x6) ∧
            ∃ (x7 : Int), w.cell? ⟨p0.1, p0.2 + (Int.toNat x5) * 2 + 1, none⟩ = some (.int .i64 x7) ∧
            (¬ (b1 = true)) ∧
            (0 ≤ x5) ∧
            (x5 < x2) ∧
            ∃ (x8 : Int), w.cell? ⟨p1.1, p1.2 + (Int.toNat x5) * 2 + 0, none⟩ = some (.int .i64 x8) ∧
            ∃ (x9 : Int), w.cell? ⟨p1.1, p1.2 + (Int.toNat x5) * 2 + 1, none⟩ = some (.int .i64 x9) ∧
            ∀ x10 : Int, x10 = (((0 + (l1.length + 0)) / 4 : Nat) : Int) →
            (0 ≤ x5) ∧
            (x5 < x10) ∧
            ∀ x11 : Int, x11 = (((0 + (l1.length + 0)) / 4 : Nat) : Int) →
            (0 ≤ x5) ∧
            (x5 < x11) ∧
            ∀ l2 : List Vc.OV, l2.map (·.1) = ((l1.map (·.1) ++ (([] : List Value)))).take ((Int.toNat x5) * 4 + 0) ++ ([.int .i64 x6, .int .i64 x7, .int .i64 x8, .int .i64 x9] : List Value) ++ ((l1.map (·.1) ++ (([] : List Value)))).drop ((Int.toNat x5) * 4 + 0 + 4) →
            ∀ x12 : Int, x12 = IntKind.i64.wrap (x5 + 1) →
            Ix5 [.i x12, .l ((l2.map (·.1) ++ (([] : List Value))))] ∧ mx5 [.i x12, .l ((l2.map (·.1) ++ (([] : List Value))))] < mx5 [.i x5, .l ((l1.map (·.1) ++ (([] : List Value))))])) ∧ (¬ (x5 < x0) → (
            ∀ x6 : Int, x6 = (((0 + (l1.length + 0)) / 4 : Nat) : Int) →
            ∃ (Ix7 : List Vc.Vl → Prop) (mx7 : List Vc.Vl → Nat), Ix7 [.i 0, .i 0, .i 0] ∧ ∀ (x7 : Int) (x8 : Int) (x9 : Int), Ix7 [.i x7, .i x8, .i x9] → (
              ((x7 < x6) → (
                ∀ x10 : Int, x10 = (((0 + (l1.length + 0)) / 4 : Nat) : Int) →
                (0 ≤ x7) ∧
                (x7 < x10) ∧
                ∃ (x11 : Int), ((l1.map (·.1) ++ (([] : List Value))))[(Int.toNat x7) * 4 + 0]? = some (.int .i64 x11) ∧
                ∃ (x12 : Int), ((l1.map (·.1) ++ (([] : List Value))))[(Int.toNat x7) * 4 + 1]? = some (.int .i64 x12) ∧
                ∃ (x13 : Int), ((l1.map (·.1) ++ (([] : List Value))))[(Int.toNat x7) * 4 + 2]? = some (.int .i64 x13) ∧
                ∃ (x14 : Int), ((l1.map (·.1) ++ (([] : List Value))))[(Int.toNat x7) * 4 + 3]? = some (.int .i64 x14) ∧
                ∃ (x15 : Int), ∃ (x16 : Int), ∃ (x17 : Int), (∀ w' : World, Below w.heap.size w w' → Calls Try.prog 51 #[.agg #[.int .i64 x11, .int .i64 x12], .agg #[.int .i64 x13, .int .i64 x14]] w' (Vc.Ret (.tuple #[.agg #[.int .i64 x15, .int .i64 x16], .int .i64 x17]) w')) ∧
                ((x17 = 0) → (
                  ∃ (x18 : Int), ∃ (x19 : Int), ∃ (x20 : Int), (∀ w' : World, Below w.heap.size w w' → Calls Try.prog 33 #[.agg #[.int .i64 x8, .int .i64 x9], .agg #[.int .i64 x15, .int .i64 x16]] w' (Vc.Ret (.tuple #[.agg #[.int .i64 x18, .int .i64 x19], .int .i64 x20]) w')) ∧
                  ((x20 = 0) → (
                    ∀ x21 : Int, x21 = IntKind.i64.wrap (x7 + 1) →
                    Ix7 [.i x21, .i x18, .i x19] ∧ mx7 [.i x21, .i x18, .i x19] < mx7 [.i x7, .i x8, .i x9])) ∧ (¬ (x20 = 0) → (
                    (.tuple #[.agg #[.int .i64 0, .int .i64 0], .int .i64 x20] : Value) = v)))) ∧ (¬ (x17 = 0) → (
                  ((x17 = 0) → (
                    ∀ x18 : Int, x18 = IntKind.i64.wrap (x7 + 1) →
                    Ix7 [.i x18, .i x8, .i x9] ∧ mx7 [.i x18, .i x8, .i x9] < mx7 [.i x7, .i x8, .i x9])) ∧ (¬ (x17 = 0) → (
                    (.tuple #[.agg #[.int .i64 0, .int .i64 0], .int .i64 x17] : Value) = v)))))) ∧ (¬ (x7 < x6) → (
                (.tuple #[.agg #[.int .i64 x8, .int .i64 x9], .int .i64 0] : Value) = v)))))))) ∧ (¬ (x0 = x2) → (
        (.tuple #[.agg #[.int .i64 0, .int .i64 0], .int .i64 2] : Value) = v)))) ∧ (¬ (x4 = 0) → (
      (.tuple #[.agg #[.int .i64 0, .int .i64 0], .int .i64 x4] : Value) = v))) : Calls Try.prog 71 #[(if b0 = true then .slice none 0 0 else .slice (some ⟨p0.1, p0.2, none⟩) (Int.toNat x0) (Int.toNat x1) : Value), (if b1 = true then .slice none 0 0 else .slice (some ⟨p1.1, p1.2, none⟩) (Int.toNat x2) (Int.toNat x3) : Value)] w (Vc.Ret v w) :=
  Vc.pure_of (base_inl [119, 120, 136, 121] (by kernel_rfl)) [(8, .inv [] [28, 7] [29, 30, 8, 31, 32, 33, 34, 35, 36, 37, 38, 39, 40, 41, 42, 43]), (1, .invb [(14, 0), (14, 1)] [] [6] [7, 8, 3, 9, 10, 11, 12, 13, 14, 15, 16, 17])] 200 Try.func71 (b := (Try.f71.body).getD .skip) (by kernel_rfl) [.cv (.one (.qsl 0 0 2 (.var 0) (.var 1))), .cv (.one (.qsl 1 1 2 (.var 2) (.var 3)))] ⟨4, 2, 0, 2, 0, 0, 0⟩ (Vc.envOf [x0, x1, x2, x3] [b0, b1] [] [p0, p1]) (by kernel_rfl) (by kernel_rfl) (by kernel_rfl) h

theorem vc_ullageref01_list (p0 : Nat × Nat) (x0 x1 : Int) (b0 : Bool) (w : World) (v : Value) (h : 
    (0 ≤ x0) ∧
    ((¬ (b0 = true)) ∨ (x0 = 0)) ∧
    ((64 < x0) → (
      (.int .i64 3 : Value) = v)) ∧ (¬ (64 < x0) → (
      ∃ (Ix2 : List Vc.Vl → Prop) (mx2 : List Vc.Vl → Nat), Ix2 [.i 0, .i 0] ∧ ∀ (x2 : Int) (x3 : Int), Ix2 [.i x2, .i x3] → (
        (0 ≤ x0) ∧
        ((¬ (b0 = true)) ∨ (x0 = 0)) ∧
        ((x3 < x0) → (
          (¬ (b0 = true)) ∧
          (0 ≤ x3) ∧
          (x3 < x0) ∧
          ∃ (x4 : Int), w.cell? ⟨p0.1, p0.2 + (Int.toNat x3) * 2 + 0, none⟩ = some (.int .i64 x4) ∧
          ∃ (x5 : Int), w.cell? ⟨p0.1, p0.2 + (Int.toNat x3) * 2 + 1, none⟩ = some (.int .i64 x5) ∧
          ∃ (x6 : Int), (∀ w' : World, Below w.heap.size w w' → Calls Try.prog 48 #[.agg #[.int .i64 x4, .int .i64 x5]] w' (Vc.Ret (.int .i64 x6) w')) ∧
          ((x6 = 0) → (
            ∀ x7 : Int, x7 = IntKind.i64.wrap (x3 + 1) →
            Ix2 [.i x2, .i x7] ∧ mx2 [.i x2, .i x7] < mx2 [.i x2, .i x3])) ∧ (¬ (x6 = 0) → (
            (.int .i64 2 : Value) = v)))) ∧ (¬ (x3 < x0) → (
          (.int .i64 0 : Value) = v)))))) : Calls Try.prog 118 #[(if b0 = true then .slice none 0 0 else .slice (some ⟨p0.1, p0.2, none⟩) (Int.toNat x0) (Int.toNat x1) : Value)] w (Vc.Ret v w) :=
  Vc.pure_of base [(4, .inv [] [2, 3] [7, 8, 9, 10, 13, 14, 15, 16, 17, 18, 11, 12])] 200 Try.func118 (b := (Try.f118.body).getD .skip) (by kernel_rfl) [.cv (.one (.qsl 0 0 2 (.var 0) (.var 1)))] ⟨2, 1, 0, 1, 0, 0, 0⟩ (Vc.envOf [x0, x1] [b0] [] [p0]) (by kernel_rfl) (by kernel_rfl) (by kernel_rfl) h

theorem vc_ullageref01_Sum (p0 : Nat × Nat) (x0 x1 : Int) (b0 : Bool) (w : World) (v : Value) (h : 
    ∃ (x2 : Int), (∀ w' : World, Below w.heap.size w w' → Calls Try.prog 118 #[(if b0 = true then .slice none 0 0 else .slice (some ⟨p0.1, p0.2, none⟩) (Int.toNat x0) (Int.toNat x1) : Value)] w' (Vc.Ret (.int .i64 x2) w')) ∧
    ∃ (Ix3 : List Vc.Vl → Prop) (mx3 : List Vc.Vl → Nat), Ix3 [.i x2, .i 0, .i 0, .i 0] ∧ ∀ (x3 : Int) (x4 : Int) (x5 : Int) (x6 : Int), Ix3 [.i x3, .i x4, .i x5, .i x6] → (
      (0 ≤ x0) ∧
      ((¬ (b0 = true)) ∨ (x0 = 0)) ∧
      ((x4 < x0) → (
        ((x3 = 0) → (
          (¬ (b0 = true)) ∧
          (0 ≤ x4) ∧
          (x4 < x0) ∧
          ∃ (x7 : Int), w.cell? ⟨p0.1, p0.2 + (Int.toNat x4) * 2 + 0, none⟩ = some (.int .i64 x7) ∧
          ∃ (x8 : Int), w.cell? ⟨p0.1, p0.2 + (Int.toNat x4) * 2 + 1, none⟩ = some (.int .i64 x8) ∧
          ∃ (x9 : Int), ∃ (x10 : Int), ∃ (x11 : Int), (∀ w' : World, Below w.heap.size w w' → Calls Try.prog 34 #[.agg #[.int .i64 x5, .int .i64 x6], .agg #[.int .i64 x7, .int .i64 x8]] w' (Vc.Ret (.tuple #[.agg #[.int .i64 x9, .int .i64 x10], .int .i64 x11]) w')) ∧
          ∀ x12 : Int, x12 = IntKind.i64.wrap (x4 + 1) →
          Ix3 [.i x11, .i x12, .i x9, .i x10] ∧ mx3 [.i x11, .i x12, .i x9, .i x10] < mx3 [.i x3, .i x4, .i x5, .i x6])) ∧ (¬ (x3 = 0) → (
          ((x3 = 0) → (
            (.tuple #[.agg #[.int .i64 x5, .int .i64 x6], .int .i64 0] : Value) = v)) ∧ (¬ (x3 = 0) → (
            (.tuple #[.agg #[.int .i64 0, .int .i64 0], .int .i64 x3] : Value) = v)))))) ∧ (¬ (x4 < x0) → (
        ((x3 = 0) → (
          (.tuple #[.agg #[.int .i64 x5, .int .i64 x6], .int .i64 0] : Value) = v)) ∧ (¬ (x3 = 0) → (
          (.tuple #[.agg #[.int .i64 0, .int .i64 0], .int .i64 x3] : Value) = v)))))) : Calls Try.prog 70 #[(if b0 = true then .slice none 0 0 else .slice (some ⟨p0.1, p0.2, none⟩) (Int.toNat x0) (Int.toNat x1) : Value)] w (Vc.Ret v w) :=
  Vc.pure_of base [(4, .inv [(5, 0), (5, 1)] [4, 6] [10, 11, 12, 13, 14, 15, 16, 17, 21, 22, 23, 24, 25, 26, 20, 27, 28, 18, 19])] 200 Try.func70 (b := (Try.f70.body).getD .skip) (by kernel_rfl) [.cv (.one (.qsl 0 0 2 (.var 0) (.var 1)))] ⟨2, 1, 0, 1, 0, 0, 0⟩ (Vc.envOf [x0, x1] [b0] [] [p0]) (by kernel_rfl) (by kernel_rfl) (by kernel_rfl) h

theorem vc_ullageref01_Norm (p0 : Nat × Nat) (x0 x1 : Int) (b0 : Bool) (w : World) (v : Value) (h : 
    ∃ (x2 : Int), (∀ w' : World, Below w.heap.size w w' → Calls Try.prog 118 #[(if b0 = true then .slice none 0 0 else .slice (some ⟨p0.1, p0.2, none⟩) (Int.toNat x0) (Int.toNat x1) : Value)] w' (Vc.Ret (.int .i64 x2) w')) ∧
    ((x2 = 0) → (
      ∃ (Ix3 : List Vc.Vl → Prop) (mx3 : List Vc.Vl → Nat), Ix3 [.i 0, .i 0, .i 0, .i 0, .i 0, .i 0] ∧ ∀ (x3 : Int) (x4 : Int) (x5 : Int) (x6 : Int) (x7 : Int) (x8 : Int), Ix3 [.i x3, .i x4, .i x5, .i x6, .i x7, .i x8] → (
        (0 ≤ x0) ∧
        ((¬ (b0 = true)) ∨ (x0 = 0)) ∧
        ((x4 < x0) → (
          (¬ (b0 = true)) ∧
          (0 ≤ x4) ∧
          (x4 < x0) ∧
          ∃ (x9 : Int), w.cell? ⟨p0.1, p0.2 + (Int.toNat x4) * 2 + 0, none⟩ = some (.int .i64 x9) ∧
          ∃ (x10 : Int), w.cell? ⟨p0.1, p0.2 + (Int.toNat x4) * 2 + 1, none⟩ = some (.int .i64 x10) ∧
          ∃ (x11 : Int), ∃ (x12 : Int), ∃ (x13 : Int), (∀ w' : World, Below w.heap.size w w' → Calls Try.prog 60 #[.agg #[.int .i64 x9, .int .i64 x10]] w' (Vc.Ret (.tuple #[.agg #[.int .i64 x11, .int .i64 x12], .int .i64 x13]) w')) ∧
          ((x13 = 0) → (
            ∃ (x14 : Int), ∃ (x15 : Int), ∃ (x16 : Int), (∀ w' : World, Below w.heap.size w w' → Calls Try.prog 34 #[.agg #[.int .i64 x7, .int .i64 x8], .agg #[.int .i64 x11, .int .i64 x12]] w' (Vc.Ret (.tuple #[.agg #[.int .i64 x14, .int .i64 x15], .int .i64 x16]) w')) ∧
            ((x16 = 0) → (
              ∀ x17 : Int, x17 = IntKind.i64.wrap (x4 + 1) →
              Ix3 [.i x3, .i x17, .i x5, .i x6, .i x14, .i x15] ∧ mx3 [.i x3, .i x17, .i x5, .i x6, .i x14, .i x15] < mx3 [.i x3, .i x4, .i x5, .i x6, .i x7, .i x8])) ∧ (¬ (x16 = 0) → (
              (.tuple #[.agg #[.int .i64 0, .int .i64 0], .int .i64 x16] : Value) = v)))) ∧ (¬ (x13 = 0) → (
            (.tuple #[.agg #[.int .i64 0, .int .i64 0], .int .i64 x13] : Value) = v)))) ∧ (¬ (x4 < x0) → (
          ∃ (x9 : Int), ∃ (x10 : Int), ∃ (x11 : Int), (∀ w' : World, Below w.heap.size w w' → Calls Try.prog 62 #[.agg #[.int .i64 x7, .int .i64 x8]] w' (Vc.Ret (.tuple #[.agg #[.int .i64 x9, .int .i64 x10], .int .i64 x11]) w')) ∧
          (.tuple #[.agg #[.int .i64 x9, .int .i64 x10], .int .i64 x11] : Value) = v))))) ∧ (¬ (x2 = 0) → (
      (.tuple #[.agg #[.int .i64 0, .int .i64 0], .int .i64 x2] : Value) = v))) : Calls Try.prog 74 #[(if b0 = true then .slice none 0 0 else .slice (some ⟨p0.1, p0.2, none⟩) (Int.toNat x0) (Int.toNat x1) : Value)] w (Vc.Ret v w) :=
  Vc.pure_of base [(6, .inv [(2, 0), (2, 1), (5, 0), (5, 1)] [3, 6] [16, 17, 18, 19, 23, 24, 25, 26, 27, 22, 28, 29, 7, 8, 30, 31, 32, 33, 35, 36, 37, 34, 38, 39, 40, 41, 42, 43, 20, 21])] 200 Try.func74 (b := (Try.f74.body).getD .skip) (by kernel_rfl) [.cv (.one (.qsl 0 0 2 (.var 0) (.var 1)))] ⟨2, 1, 0, 1, 0, 0, 0⟩ (Vc.envOf [x0, x1] [b0] [] [p0]) (by kernel_rfl) (by kernel_rfl) (by kernel_rfl) h

theorem vc_ullageref01_Dot (p0 p1 : Nat × Nat) (x0 x1 x2 x3 : Int) (b0 b1 : Bool) (w : World) (v : Value) (h : 
    (0 ≤ x0) ∧
    ((¬ (b0 = true)) ∨ (x0 = 0)) ∧
    ((64 < x0) → (
      (.tuple #[.agg #[.int .i64 0, .int .i64 0], .int .i64 3] : Value) = v)) ∧ (¬ (64 < x0) → (
      (0 ≤ x2) ∧
      ((¬ (b1 = true)) ∨ (x2 = 0)) ∧
      ((64 < x2) → (
        (.tuple #[.agg #[.int .i64 0, .int .i64 0], .int .i64 3] : Value) = v)) ∧ (¬ (64 < x2) → (
        ∃ (x4 : Int), (∀ w' : World, Below w.heap.size w w' → Calls Try.prog 118 #[(if b0 = true then .slice none 0 0 else .slice (some ⟨p0.1, p0.2, none⟩) (Int.toNat x0) (Int.toNat x1) : Value)] w' (Vc.Ret (.int .i64 x4) w')) ∧
        ((x4 = 0) → (
          ∃ (x5 : Int), (∀ w' : World, Below w.heap.size w w' → Calls Try.prog 118 #[(if b1 = true then .slice none 0 0 else .slice (some ⟨p1.1, p1.2, none⟩) (Int.toNat x2) (Int.toNat x3) : Value)] w' (Vc.Ret (.int .i64 x5) w')) ∧
          ((x5 = 0) → (
            (0 ≤ x0) ∧
            ((¬ (b0 = true)) ∨ (x0 = 0)) ∧
            (0 ≤ x2) ∧
            ((¬ (b1 = true)) ∨ (x2 = 0)) ∧
            ((x0 = x2) → (
              ∃ (Ix6 : List Vc.Vl → Prop) (mx6 : List Vc.Vl → Nat), Ix6 [.i 0, .i 0, .i 0, .i 0, .i 0, .i 0] ∧ ∀ (x6 : Int) (x7 : Int) (x8 : Int) (x9 : Int) (x10 : Int) (x11 : Int), Ix6 [.i x6, .i x7, .i x8, .i x9, .i x10, .i x11] → (
                (0 ≤ x0) ∧
                ((¬ (b0 = true)) ∨ (x0 = 0)) ∧
                ((x7 < x0) → (
                  (¬ (b0 = true)) ∧
                  (0 ≤ x7) ∧
                  (x7 < x0) ∧
                  ∃ (x12 : Int), w.cell? ⟨p0.1, p0.2 + (Int.toNat x7) * 2 + 0, none⟩ = some (.int .i64 x12) ∧
                  ∃ (x13 : Int), w.cell? ⟨p0.1, p0.2 + (Int.toNat x7) * 2 + 1, none⟩ = some (.int .i64 x13) ∧
                  (¬ (b1 = true)) ∧
                  (0 ≤ x7) ∧
                  (x7 < x2) ∧
                  ∃ (x14 : Int), w.cell? ⟨p1.1, p1.2 + (Int.toNat x7) * 2 + 0, none⟩ = some (.int .i64 x14) ∧
                  ∃ (x15 : Int), w.cell? ⟨p1.1, p1.2 + (Int.toNat x7) * 2 + 1, none⟩ = some (.int .i64 x15) ∧
                  ∃ (x16 : Int), ∃ (x17 : Int), ∃ (x18 : Int), (∀ w' : World, Below w.heap.size w w' → Calls Try.prog 52 #[.agg #[.int .i64 x12, .int .i64 x13], .agg #[.int .i64 x14, .int .i64 x15]] w' (Vc.Ret (.tuple #[.agg #[.int .i64 x16, .int .i64 x17], .int .i64 x18]) w')) ∧
                  ((x18 = 0) → (
                    ∃ (x19 : Int), ∃ (x20 : Int), ∃ (x21 : Int), (∀ w' : World, Below w.heap.size w w' → Calls Try.prog 34 #[.agg #[.int .i64 x10, .int .i64 x11], .agg #[.int .i64 x16, .int .i64 x17]] w' (Vc.Ret (.tuple #[.agg #[.int .i64 x19, .int .i64 x20], .int .i64 x21]) w')) ∧
                    ((x21 = 0) → (
                      ∀ x22 : Int, x22 = IntKind.i64.wrap (x7 + 1) →
                      Ix6 [.i x6, .i x22, .i x8, .i x9, .i x19, .i x20] ∧ mx6 [.i x6, .i x22, .i x8, .i x9, .i x19, .i x20] < mx6 [.i x6, .i x7, .i x8, .i x9, .i x10, .i x11])) ∧ (¬ (x21 = 0) → (
                      (.tuple #[.agg #[.int .i64 0, .int .i64 0], .int .i64 x21] : Value) = v)))) ∧ (¬ (x18 = 0) → (
                    (.tuple #[.agg #[.int .i64 0, .int .i64 0], .int .i64 x18] : Value) = v)))) ∧ (¬ (x7 < x0) → (
                  (.tuple #[.agg #[.int .i64 x10, .int .i64 x11], .int .i64 0] : Value) = v))))) ∧ (¬ (x0 = x2) → (
              (.tuple #[.agg #[.int .i64 0, .int .i64 0], .int .i64 2] : Value) = v)))) ∧ (¬ (x5 = 0) → (
            (.tuple #[.agg #[.int .i64 0, .int .i64 0], .int .i64 2] : Value) = v)))) ∧ (¬ (x4 = 0) → (
          (.tuple #[.agg #[.int .i64 0, .int .i64 0], .int .i64 2] : Value) = v))))))) : Calls Try.prog 72 #[(if b0 = true then .slice none 0 0 else .slice (some ⟨p0.1, p0.2, none⟩) (Int.toNat x0) (Int.toNat x1) : Value), (if b1 = true then .slice none 0 0 else .slice (some ⟨p1.1, p1.2, none⟩) (Int.toNat x2) (Int.toNat x3) : Value)] w (Vc.Ret v w) :=
  Vc.pure_of base [(7, .inv [(4, 0), (4, 1), (6, 0), (6, 1)] [5, 7] [36, 37, 38, 39, 43, 44, 45, 46, 47, 48, 49, 50, 51, 42, 52, 53, 8, 9, 54, 55, 56, 57, 59, 60, 61, 58, 62, 63, 64, 65, 66, 67, 40, 41])] 200 Try.func72 (b := (Try.f72.body).getD .skip) (by kernel_rfl) [.cv (.one (.qsl 0 0 2 (.var 0) (.var 1))), .cv (.one (.qsl 1 1 2 (.var 2) (.var 3)))] ⟨4, 2, 0, 2, 0, 0, 0⟩ (Vc.envOf [x0, x1, x2, x3] [b0, b1] [] [p0, p1]) (by kernel_rfl) (by kernel_rfl) (by kernel_rfl) h

theorem vc_ullagelaw01_SpanLists (p0 p1 : Nat × Nat) (x0 x1 x2 x3 : Int) (b0 b1 : Bool) (w : World) (v : Value) (h : 
    (0 ≤ x0) ∧
    ((¬ (b0 = true)) ∨ (x0 = 0)) ∧
    ((70 < x0) → (
      (.bool true : Value) = v)) ∧ (¬ (70 < x0) → (
      (0 ≤ x2) ∧
      ((¬ (b1 = true)) ∨ (x2 = 0)) ∧
      ((70 < x2) → (
        (.bool true : Value) = v)) ∧ (¬ (70 < x2) → (
        ∃ l0 : List Vc.OV, Vc.SlAt w ((if b0 = true then .slice none 0 0 else .slice (some ⟨p0.1, p0.2, none⟩) (Int.toNat x0) (Int.toNat x1) : Value)) 2 (l0.map (·.1)) ∧
        ∀ x4 : Int, x4 = (((0 + (l0.length + 0)) / 2 : Nat) : Int) →
        (x4 ≤ 1073741824) ∧
        ∃ (x5 : Int), ∃ (x6 : Int), ∃ (x7 : Int), (∀ (β : Nat → Nat) (w' : World), Below w.heap.size w w' → (Vc.RowOk w.heap.size (β 4) (β 5) (β 6) (β 7) ((l0.map (·.1) ++ (([] : List Value)))) 2 24 w' ∧ True) → Calls Try.prog 69 #[Vc.ownV (β 4) (β 5) (β 6) (β 7)] w' (Vc.Ret (.tuple #[.agg #[.int .i64 x5, .int .i64 x6], .int .i64 x7]) w')) ∧
        ∃ (x8 : Int), ∃ (x9 : Int), ∃ (x10 : Int), (∀ w' : World, Below w.heap.size w w' → Calls Try.prog 70 #[(if b0 = true then .slice none 0 0 else .slice (some ⟨p0.1, p0.2, none⟩) (Int.toNat x0) (Int.toNat x1) : Value)] w' (Vc.Ret (.tuple #[.agg #[.int .i64 x8, .int .i64 x9], .int .i64 x10]) w')) ∧
        ∃ (x11 : Int), ∃ (x12 : Int), ∃ (x13 : Int), (∀ (β : Nat → Nat) (w' : World), Below w.heap.size w w' → (Vc.RowOk w.heap.size (β 4) (β 5) (β 6) (β 7) ((l0.map (·.1) ++ (([] : List Value)))) 2 24 w' ∧ True) → Calls Try.prog 71 #[Vc.ownV (β 4) (β 5) (β 6) (β 7), (if b1 = true then .slice none 0 0 else .slice (some ⟨p1.1, p1.2, none⟩) (Int.toNat x2) (Int.toNat x3) : Value)] w' (Vc.Ret (.tuple #[.agg #[.int .i64 x11, .int .i64 x12], .int .i64 x13]) w')) ∧
        ∃ (x14 : Int), ∃ (x15 : Int), ∃ (x16 : Int), (∀ w' : World, Below w.heap.size w w' → Calls Try.prog 72 #[(if b0 = true then .slice none 0 0 else .slice (some ⟨p0.1, p0.2, none⟩) (Int.toNat x0) (Int.toNat x1) : Value), (if b1 = true then .slice none 0 0 else .slice (some ⟨p1.1, p1.2, none⟩) (Int.toNat x2) (Int.toNat x3) : Value)] w' (Vc.Ret (.tuple #[.agg #[.int .i64 x14, .int .i64 x15], .int .i64 x16]) w')) ∧
        ∃ (x17 : Int), ∃ (x18 : Int), ∃ (x19 : Int), (∀ (β : Nat → Nat) (w' : World), Below w.heap.size w w' → (Vc.RowOk w.heap.size (β 4) (β 5) (β 6) (β 7) ((l0.map (·.1) ++ (([] : List Value)))) 2 24 w' ∧ True) → Calls Try.prog 73 #[Vc.ownV (β 4) (β 5) (β 6) (β 7)] w' (Vc.Ret (.tuple #[.agg #[.int .i64 x17, .int .i64 x18], .int .i64 x19]) w')) ∧
        ∃ (x20 : Int), ∃ (x21 : Int), ∃ (x22 : Int), (∀ w' : World, Below w.heap.size w w' → Calls Try.prog 74 #[(if b0 = true then .slice none 0 0 else .slice (some ⟨p0.1, p0.2, none⟩) (Int.toNat x0) (Int.toNat x1) : Value)] w' (Vc.Ret (.tuple #[.agg #[.int .i64 x20, .int .i64 x21], .int .i64 x22]) w')) ∧
        (0 ≤ x0) ∧
        ((¬ (b0 = true)) ∨ (x0 = 0)) ∧
        ∃ (Ib2 : List Vc.Vl → Prop) (mb2 : List Vc.Vl → Nat), Ib2 [.b false, .i 0] ∧ ∀ (b2 : Bool) (x23 : Int), Ib2 [.b b2, .i x23] → (
          ((x23 < x0) → (
            ∀ x24 : Int, x24 = (((0 + (l0.length + 0)) / 2 : Nat) : Int) →
            (0 ≤ x23) ∧
            (x23 < x24) ∧
            ∃ (x25 : Int), ((l0.map (·.1) ++ (([] : List Value))))[(Int.toNat x23) * 2 + 0]? = some (.int .i64 x25) ∧
            ∃ (x26 : Int), ((l0.map (·.1) ++ (([] : List Value))))[(Int.toNat x23) * 2 + 1]? = some (.int .i64 x26) ∧
            (¬ (b0 = true)) ∧
            (0 ≤ x23) ∧
            (x23 < x0) ∧
            ∃ (x27 : Int), w.cell? ⟨p0.1, p0.2 + (Int.toNat x23) * 2 + 0, none⟩ = some (.int .i64 x27) ∧
            ∃ (x28 : Int), w.cell? ⟨p0.1, p0.2 + (Int.toNat x23) * 2 + 1, none⟩ = some (.int .i64 x28) ∧
            (((x25 = x27) ∧ (x26 = x28)) → (
              ∀ x29 : Int, x29 = IntKind.i64.wrap (x23 + 1) →
              Ib2 [.b b2, .i x29] ∧ mb2 [.b b2, .i x29] < mb2 [.b b2, .i x23])) ∧ (¬ ((x25 = x27) ∧ (x26 = x28)) → (
              (.bool false : Value) = v)))) ∧ (¬ (x23 < x0) → (
            ∃ (b3 : Bool), (∀ w' : World, Below w.heap.size w w' → Calls Try.prog 32 #[.agg #[.int .i64 x5, .int .i64 x6], .int .i64 x7, .agg #[.int .i64 x8, .int .i64 x9], .int .i64 x10] w' (Vc.Ret (.bool b3) w')) ∧
            ((b3 = true) → (
              ∃ (b4 : Bool), (∀ w' : World, Below w.heap.size w w' → Calls Try.prog 32 #[.agg #[.int .i64 x11, .int .i64 x12], .int .i64 x13, .agg #[.int .i64 x14, .int .i64 x15], .int .i64 x16] w' (Vc.Ret (.bool b4) w')) ∧
              ((b4 = true) → (
                ∃ (b5 : Bool), (∀ w' : World, Below w.heap.size w w' → Calls Try.prog 32 #[.agg #[.int .i64 x17, .int .i64 x18], .int .i64 x19, .agg #[.int .i64 x20, .int .i64 x21], .int .i64 x22] w' (Vc.Ret (.bool b5) w')) ∧
                (.bool b5 : Value) = v)) ∧ (¬ (b4 = true) → (
                (.bool false : Value) = v)))) ∧ (¬ (b3 = true) → (
              (.bool false : Value) = v)))))))))) : Calls Try.prog 11 #[(if b0 = true then .slice none 0 0 else .slice (some ⟨p0.1, p0.2, none⟩) (Int.toNat x0) (Int.toNat x1) : Value), (if b1 = true then .slice none 0 0 else .slice (some ⟨p1.1, p1.2, none⟩) (Int.toNat x2) (Int.toNat x3) : Value)] w (Vc.Ret v w) :=
  Vc.pure_of base [(11, .inv [] [4, 64] [65, 66, 18, 67, 68, 69, 70, 71, 72, 73, 74, 75, 76])] 200 Try.func11 (b := (Try.f11.body).getD .skip) (by kernel_rfl) [.cv (.one (.qsl 0 0 2 (.var 0) (.var 1))), .cv (.one (.qsl 1 1 2 (.var 2) (.var 3)))] ⟨4, 2, 0, 2, 0, 0, 0⟩ (Vc.envOf [x0, x1, x2, x3] [b0, b1] [] [p0, p1]) (by kernel_rfl) (by kernel_rfl) (by kernel_rfl) h

end Go.Proofs.Ytdhiapllbjamfaa
