/- What the walks of functions come to (written by program). -/
import Derived.Test.YtdhiapllbjamfaaG1
set_option linter.unusedVariables false
set_option maxRecDepth 100000
namespace Go.Proofs.Ytdhiapllbjamfaa
open Go Go.RowKit
theorem vc_span_CheckTable (p0 : Nat × Nat) (x0 x1 : Int) (b0 : Bool) (w : World) (v : Value) (h : 
    (0 ≤ x0) ∧
    ((¬ (b0 = true)) ∨ (x0 = 0)) ∧
    ((x0 = 0) → (
      (.int .i64 2 : Value) = v)) ∧ (¬ (x0 = 0) → (
      (0 ≤ x0) ∧
      ((¬ (b0 = true)) ∨ (x0 = 0)) ∧
      ((64 < x0) → (
        (.int .i64 2 : Value) = v)) ∧ (¬ (64 < x0) → (
        (0 ≤ x0) ∧
        ((¬ (b0 = true)) ∨ (x0 = 0)) ∧
        ∃ (Ix2 : List Vc.Vl → Prop) (mx2 : List Vc.Vl → Nat), Ix2 [.i 0, .i 0] ∧ ∀ (x2 : Int) (x3 : Int), Ix2 [.i x2, .i x3] → (
          ((x3 < x0) → (
            (¬ (b0 = true)) ∧
            (0 ≤ x3) ∧
            (x3 < x0) ∧
            ∃ (x4 : Int), w.cell? ⟨p0.1, p0.2 + (Int.toNat x3) * 3 + 0, none⟩ = some (.int .i64 x4) ∧
            ∃ (x5 : Int), w.cell? ⟨p0.1, p0.2 + (Int.toNat x3) * 3 + 1, none⟩ = some (.int .i64 x5) ∧
            ∃ (x6 : Int), w.cell? ⟨p0.1, p0.2 + (Int.toNat x3) * 3 + 2, none⟩ = some (.int .i64 x6) ∧
            ∃ (b1 : Bool), (∀ w' : World, Below w.heap.size w w' → Calls Try.prog 12 #[.agg #[.int .i64 (-2305843009213693952), .int .i64 2305843009213693952], .int .i64 x4] w' (Vc.Ret (.bool b1) w')) ∧
            ((b1 = true) → (
              ∃ (b2 : Bool), (∀ w' : World, Below w.heap.size w w' → Calls Try.prog 14 #[.agg #[.int .i64 x5, .int .i64 x6], .agg #[.int .i64 (-2305843009213693952), .int .i64 2305843009213693952]] w' (Vc.Ret (.bool b2) w')) ∧
              ((b2 = true) → (
                ((0 < x3) → (
                  ∀ x7 : Int, x7 = IntKind.i64.wrap (x3 - 1) →
                  (¬ (b0 = true)) ∧
                  (0 ≤ x7) ∧
                  (x7 < x0) ∧
                  ∃ (x8 : Int), w.cell? ⟨p0.1, p0.2 + (Int.toNat x7) * 3 + 0, none⟩ = some (.int .i64 x8) ∧
                  ((x4 ≤ x8) → (
                    (.int .i64 2 : Value) = v)) ∧ (¬ (x4 ≤ x8) → (
                    ∀ x9 : Int, x9 = IntKind.i64.wrap (x3 + 1) →
                    Ix2 [.i x2, .i x9] ∧ mx2 [.i x2, .i x9] < mx2 [.i x2, .i x3])))) ∧ (¬ (0 < x3) → (
                  ∀ x7 : Int, x7 = IntKind.i64.wrap (x3 + 1) →
                  Ix2 [.i x2, .i x7] ∧ mx2 [.i x2, .i x7] < mx2 [.i x2, .i x3])))) ∧ (¬ (b2 = true) → (
                (.int .i64 2 : Value) = v)))) ∧ (¬ (b1 = true) → (
              (.int .i64 2 : Value) = v)))) ∧ (¬ (x3 < x0) → (
            (.int .i64 0 : Value) = v)))))))) : Calls Try.prog 57 #[(if b0 = true then .slice none 0 0 else .slice (some ⟨p0.1, p0.2, none⟩) (Int.toNat x0) (Int.toNat x1) : Value)] w (Vc.Ret v w) :=
  Vc.pure_of base [(5, .inv [] [2, 17] [18, 19, 20, 21, 5, 4, 22, 23, 24, 25, 26, 27, 28, 29, 30, 31, 32, 33, 34, 35, 36, 37, 38, 39, 40, 41, 42, 43, 44, 45, 46, 47, 48, 49])] 200 Try.func57 (b := (Try.f57.body).getD .skip) (by kernel_rfl) [.cv (.one (.qsl 0 0 3 (.var 0) (.var 1)))] ⟨2, 1, 0, 1, 0, 0, 0⟩ (Vc.envOf [x0, x1] [b0] [] [p0]) (by kernel_rfl) (by kernel_rfl) (by kernel_rfl) h

theorem vc_span_Look_1_1 (x0 x1 : Int) (w : World) (v : Value) (h : 
    (.int .i64 x0 : Value) = v) : Calls Try.prog 105 #[.agg #[.int .i64 x0, .int .i64 x1]] w (Vc.Ret v w) :=
  Vc.pure_of base [] 200 Try.func105 (b := (Try.f105.body).getD .skip) (by kernel_rfl) [.cv (.agg [.int .i64 (.var 0), .int .i64 (.var 1)])] ⟨2, 0, 0, 0, 0, 0, 0⟩ (Vc.envOf [x0, x1] [] [] []) (by kernel_rfl) (by kernel_rfl) (by kernel_rfl) h

theorem vc_span_Look_1_2 (x0 x1 : Int) (w : World) (v : Value) (h : 
    (.int .i64 x1 : Value) = v) : Calls Try.prog 106 #[.agg #[.int .i64 x0, .int .i64 x1]] w (Vc.Ret v w) :=
  Vc.pure_of base [] 200 Try.func106 (b := (Try.f106.body).getD .skip) (by kernel_rfl) [.cv (.agg [.int .i64 (.var 0), .int .i64 (.var 1)])] ⟨2, 0, 0, 0, 0, 0, 0⟩ (Vc.envOf [x0, x1] [] [] []) (by kernel_rfl) (by kernel_rfl) (by kernel_rfl) h

theorem vc_span_value_lo (p0 : Nat × Nat) (x0 x1 x2 : Int) (b0 : Bool) (w : World) (v : Value) (h : 
    ∃ (Ix3 : List Vc.Vl → Prop) (mx3 : List Vc.Vl → Nat), Ix3 [.i 0] ∧ ∀ (x3 : Int), Ix3 [.i x3] → (
      (0 ≤ x0) ∧
      ((¬ (b0 = true)) ∨ (x0 = 0)) ∧
      ((x3 < x0) → (
        (¬ (b0 = true)) ∧
        (0 ≤ x3) ∧
        (x3 < x0) ∧
        ∃ (x4 : Int), w.cell? ⟨p0.1, p0.2 + (Int.toNat x3) * 3 + 0, none⟩ = some (.int .i64 x4) ∧
        ((x4 < x2) → (
          ∀ x5 : Int, x5 = IntKind.i64.wrap (x3 + 1) →
          Ix3 [.i x5] ∧ mx3 [.i x5] < mx3 [.i x3])) ∧ (¬ (x4 < x2) → (
          ((x3 = 0) → (
            (0 ≤ x0) ∧
            ((¬ (b0 = true)) ∨ (x0 = 0)) ∧
            ∀ x5 : Int, x5 = IntKind.i64.wrap (x0 - 1) →
            ∀ x6 : Int, x6 = (if x5 < x3 then x5 else x3) →
            (¬ (b0 = true)) ∧
            (0 ≤ x6) ∧
            (x6 < x0) ∧
            ∃ (x7 : Int), w.cell? ⟨p0.1, p0.2 + (Int.toNat x6) * 3 + 1, none⟩ = some (.int .i64 x7) ∧
            ∃ (x8 : Int), w.cell? ⟨p0.1, p0.2 + (Int.toNat x6) * 3 + 2, none⟩ = some (.int .i64 x8) ∧
            ∃ (x9 : Int), (∀ w' : World, Below w.heap.size w w' → Calls Try.prog 105 #[.agg #[.int .i64 x7, .int .i64 x8]] w' (Vc.Ret (.int .i64 x9) w')) ∧
            ∃ (b1 : Bool), ∃ (x10 : Int), ∃ (x11 : Int), (∀ w' : World, Below w.heap.size w w' → Calls Try.prog 86 #[.int .i64 x9] w' (Vc.Ret (.agg #[.bool b1, .int .u64 x10, .int .u64 x11]) w')) ∧
            (.tuple #[.agg #[.bool b1, .int .u64 x10, .int .u64 x11], .agg #[.bool b1, .int .u64 x10, .int .u64 x11]] : Value) = v)) ∧ (¬ (x3 = 0) → (
            (0 ≤ x0) ∧
            ((¬ (b0 = true)) ∨ (x0 = 0)) ∧
            ((x3 = x0) → (
              (0 ≤ x0) ∧
              ((¬ (b0 = true)) ∨ (x0 = 0)) ∧
              ∀ x5 : Int, x5 = IntKind.i64.wrap (x0 - 1) →
              ∀ x6 : Int, x6 = (if x5 < x3 then x5 else x3) →
              (¬ (b0 = true)) ∧
              (0 ≤ x6) ∧
              (x6 < x0) ∧
              ∃ (x7 : Int), w.cell? ⟨p0.1, p0.2 + (Int.toNat x6) * 3 + 1, none⟩ = some (.int .i64 x7) ∧
              ∃ (x8 : Int), w.cell? ⟨p0.1, p0.2 + (Int.toNat x6) * 3 + 2, none⟩ = some (.int .i64 x8) ∧
              ∃ (x9 : Int), (∀ w' : World, Below w.heap.size w w' → Calls Try.prog 105 #[.agg #[.int .i64 x7, .int .i64 x8]] w' (Vc.Ret (.int .i64 x9) w')) ∧
              ∃ (b1 : Bool), ∃ (x10 : Int), ∃ (x11 : Int), (∀ w' : World, Below w.heap.size w w' → Calls Try.prog 86 #[.int .i64 x9] w' (Vc.Ret (.agg #[.bool b1, .int .u64 x10, .int .u64 x11]) w')) ∧
              (.tuple #[.agg #[.bool b1, .int .u64 x10, .int .u64 x11], .agg #[.bool b1, .int .u64 x10, .int .u64 x11]] : Value) = v)) ∧ (¬ (x3 = x0) → (
              (¬ (b0 = true)) ∧
              (0 ≤ x3) ∧
              (x3 < x0) ∧
              ∃ (x5 : Int), w.cell? ⟨p0.1, p0.2 + (Int.toNat x3) * 3 + 0, none⟩ = some (.int .i64 x5) ∧
              ((x5 = x2) → (
                (0 ≤ x0) ∧
                ((¬ (b0 = true)) ∨ (x0 = 0)) ∧
                ∀ x6 : Int, x6 = IntKind.i64.wrap (x0 - 1) →
                ∀ x7 : Int, x7 = (if x6 < x3 then x6 else x3) →
                (¬ (b0 = true)) ∧
                (0 ≤ x7) ∧
                (x7 < x0) ∧
                ∃ (x8 : Int), w.cell? ⟨p0.1, p0.2 + (Int.toNat x7) * 3 + 1, none⟩ = some (.int .i64 x8) ∧
                ∃ (x9 : Int), w.cell? ⟨p0.1, p0.2 + (Int.toNat x7) * 3 + 2, none⟩ = some (.int .i64 x9) ∧
                ∃ (x10 : Int), (∀ w' : World, Below w.heap.size w w' → Calls Try.prog 105 #[.agg #[.int .i64 x8, .int .i64 x9]] w' (Vc.Ret (.int .i64 x10) w')) ∧
                ∃ (b1 : Bool), ∃ (x11 : Int), ∃ (x12 : Int), (∀ w' : World, Below w.heap.size w w' → Calls Try.prog 86 #[.int .i64 x10] w' (Vc.Ret (.agg #[.bool b1, .int .u64 x11, .int .u64 x12]) w')) ∧
                (.tuple #[.agg #[.bool b1, .int .u64 x11, .int .u64 x12], .agg #[.bool b1, .int .u64 x11, .int .u64 x12]] : Value) = v)) ∧ (¬ (x5 = x2) → (
                ∀ x6 : Int, x6 = IntKind.i64.wrap (x3 - 1) →
                (¬ (b0 = true)) ∧
                (0 ≤ x6) ∧
                (x6 < x0) ∧
                ∃ (x7 : Int), w.cell? ⟨p0.1, p0.2 + (Int.toNat x6) * 3 + 0, none⟩ = some (.int .i64 x7) ∧
                ∃ (x8 : Int), w.cell? ⟨p0.1, p0.2 + (Int.toNat x6) * 3 + 1, none⟩ = some (.int .i64 x8) ∧
                ∃ (x9 : Int), w.cell? ⟨p0.1, p0.2 + (Int.toNat x6) * 3 + 2, none⟩ = some (.int .i64 x9) ∧
                (¬ (b0 = true)) ∧
                (0 ≤ x3) ∧
                (x3 < x0) ∧
                ∃ (x10 : Int), w.cell? ⟨p0.1, p0.2 + (Int.toNat x3) * 3 + 0, none⟩ = some (.int .i64 x10) ∧
                ∃ (x11 : Int), w.cell? ⟨p0.1, p0.2 + (Int.toNat x3) * 3 + 1, none⟩ = some (.int .i64 x11) ∧
                ∃ (x12 : Int), w.cell? ⟨p0.1, p0.2 + (Int.toNat x3) * 3 + 2, none⟩ = some (.int .i64 x12) ∧
                ∃ (x13 : Int), (∀ w' : World, Below w.heap.size w w' → Calls Try.prog 105 #[.agg #[.int .i64 x8, .int .i64 x9]] w' (Vc.Ret (.int .i64 x13) w')) ∧
                ∃ (x14 : Int), (∀ w' : World, Below w.heap.size w w' → Calls Try.prog 105 #[.agg #[.int .i64 x11, .int .i64 x12]] w' (Vc.Ret (.int .i64 x14) w')) ∧
                ∀ x15 : Int, x15 = IntKind.i64.wrap (x14 - x13) →
                ∀ x16 : Int, x16 = IntKind.i64.wrap (x2 - x7) →
                ∃ (b1 : Bool), ∃ (x17 : Int), ∃ (x18 : Int), (∀ w' : World, Below w.heap.size w w' → Calls Try.prog 89 #[.int .i64 x15, .int .i64 x16] w' (Vc.Ret (.agg #[.bool b1, .int .u64 x17, .int .u64 x18]) w')) ∧
                ∀ x19 : Int, x19 = IntKind.i64.wrap (x10 - x7) →
                ∃ (b2 : Bool), ∃ (x20 : Int), ∃ (x21 : Int), (∀ w' : World, Below w.heap.size w w' → Calls Try.prog 86 #[.int .i64 x19] w' (Vc.Ret (.agg #[.bool b2, .int .u64 x20, .int .u64 x21]) w')) ∧
                ∃ (b3 : Bool), ∃ (x22 : Int), ∃ (x23 : Int), ∃ (b4 : Bool), ∃ (x24 : Int), ∃ (x25 : Int), (∀ w' : World, Below w.heap.size w w' → Calls Try.prog 100 #[.agg #[.bool b1, .int .u64 x17, .int .u64 x18], .agg #[.bool b2, .int .u64 x20, .int .u64 x21]] w' (Vc.Ret (.tuple #[.agg #[.bool b3, .int .u64 x22, .int .u64 x23], .agg #[.bool b4, .int .u64 x24, .int .u64 x25]]) w')) ∧
                ∃ (b5 : Bool), ∃ (x26 : Int), ∃ (x27 : Int), (∀ w' : World, Below w.heap.size w w' → Calls Try.prog 86 #[.int .i64 x13] w' (Vc.Ret (.agg #[.bool b5, .int .u64 x26, .int .u64 x27]) w')) ∧
                ∃ (b6 : Bool), ∃ (x28 : Int), ∃ (x29 : Int), (∀ w' : World, Below w.heap.size w w' → Calls Try.prog 85 #[.agg #[.bool b5, .int .u64 x26, .int .u64 x27], .agg #[.bool b3, .int .u64 x22, .int .u64 x23]] w' (Vc.Ret (.agg #[.bool b6, .int .u64 x28, .int .u64 x29]) w')) ∧
                ∃ (b7 : Bool), ∃ (x30 : Int), ∃ (x31 : Int), (∀ w' : World, Below w.heap.size w w' → Calls Try.prog 86 #[.int .i64 x13] w' (Vc.Ret (.agg #[.bool b7, .int .u64 x30, .int .u64 x31]) w')) ∧
                ∃ (b8 : Bool), ∃ (x32 : Int), ∃ (x33 : Int), (∀ w' : World, Below w.heap.size w w' → Calls Try.prog 85 #[.agg #[.bool b7, .int .u64 x30, .int .u64 x31], .agg #[.bool b4, .int .u64 x24, .int .u64 x25]] w' (Vc.Ret (.agg #[.bool b8, .int .u64 x32, .int .u64 x33]) w')) ∧
                (.tuple #[.agg #[.bool b6, .int .u64 x28, .int .u64 x29], .agg #[.bool b8, .int .u64 x32, .int .u64 x33]] : Value) = v)))))))))) ∧ (¬ (x3 < x0) → (
        ((x3 = 0) → (
          (0 ≤ x0) ∧
          ((¬ (b0 = true)) ∨ (x0 = 0)) ∧
          ∀ x4 : Int, x4 = IntKind.i64.wrap (x0 - 1) →
          ∀ x5 : Int, x5 = (if x4 < x3 then x4 else x3) →
          (¬ (b0 = true)) ∧
          (0 ≤ x5) ∧
          (x5 < x0) ∧
          ∃ (x6 : Int), w.cell? ⟨p0.1, p0.2 + (Int.toNat x5) * 3 + 1, none⟩ = some (.int .i64 x6) ∧
          ∃ (x7 : Int), w.cell? ⟨p0.1, p0.2 + (Int.toNat x5) * 3 + 2, none⟩ = some (.int .i64 x7) ∧
          ∃ (x8 : Int), (∀ w' : World, Below w.heap.size w w' → Calls Try.prog 105 #[.agg #[.int .i64 x6, .int .i64 x7]] w' (Vc.Ret (.int .i64 x8) w')) ∧
          ∃ (b1 : Bool), ∃ (x9 : Int), ∃ (x10 : Int), (∀ w' : World, Below w.heap.size w w' → Calls Try.prog 86 #[.int .i64 x8] w' (Vc.Ret (.agg #[.bool b1, .int .u64 x9, .int .u64 x10]) w')) ∧
          (.tuple #[.agg #[.bool b1, .int .u64 x9, .int .u64 x10], .agg #[.bool b1, .int .u64 x9, .int .u64 x10]] : Value) = v)) ∧ (¬ (x3 = 0) → (
          (0 ≤ x0) ∧
          ((¬ (b0 = true)) ∨ (x0 = 0)) ∧
          ((x3 = x0) → (
            (0 ≤ x0) ∧
            ((¬ (b0 = true)) ∨ (x0 = 0)) ∧
            ∀ x4 : Int, x4 = IntKind.i64.wrap (x0 - 1) →
            ∀ x5 : Int, x5 = (if x4 < x3 then x4 else x3) →
            (¬ (b0 = true)) ∧
            (0 ≤ x5) ∧
            (x5 < x0) ∧
            ∃ (x6 : Int), w.cell? ⟨p0.1, p0.2 + (Int.toNat x5) * 3 + 1, none⟩ = some (.int .i64 x6) ∧
            ∃ (x7 : Int), w.cell? ⟨p0.1, p0.2 + (Int.toNat x5) * 3 + 2, none⟩ = some (.int .i64 x7) ∧
            ∃ (x8 : Int), (∀ w' : World, Below w.heap.size w w' → Calls Try.prog 105 #[.agg #[.int .i64 x6, .int .i64 x7]] w' (Vc.Ret (.int .i64 x8) w')) ∧
            ∃ (b1 : Bool), ∃ (x9 : Int), ∃ (x10 : Int), (∀ w' : World, Below w.heap.size w w' → Calls Try.prog 86 #[.int .i64 x8] w' (Vc.Ret (.agg #[.bool b1, .int .u64 x9, .int .u64 x10]) w')) ∧
            (.tuple #[.agg #[.bool b1, .int .u64 x9, .int .u64 x10], .agg #[.bool b1, .int .u64 x9, .int .u64 x10]] : Value) = v)) ∧ (¬ (x3 = x0) → (
            (¬ (b0 = true)) ∧
            (0 ≤ x3) ∧
            (x3 < x0) ∧
            ∃ (x4 : Int), w.cell? ⟨p0.1, p0.2 + (Int.toNat x3) * 3 + 0, none⟩ = some (.int .i64 x4) ∧
            ((x4 = x2) → (
              (0 ≤ x0) ∧
              ((¬ (b0 = true)) ∨ (x0 = 0)) ∧
              ∀ x5 : Int, x5 = IntKind.i64.wrap (x0 - 1) →
              ∀ x6 : Int, x6 = (if x5 < x3 then x5 else x3) →
              (¬ (b0 = true)) ∧
              (0 ≤ x6) ∧
              (x6 < x0) ∧
              ∃ (x7 : Int), w.cell? ⟨p0.1, p0.2 + (Int.toNat x6) * 3 + 1, none⟩ = some (.int .i64 x7) ∧
              ∃ (x8 : Int), w.cell? ⟨p0.1, p0.2 + (Int.toNat x6) * 3 + 2, none⟩ = some (.int .i64 x8) ∧
              ∃ (x9 : Int), (∀ w' : World, Below w.heap.size w w' → Calls Try.prog 105 #[.agg #[.int .i64 x7, .int .i64 x8]] w' (Vc.Ret (.int .i64 x9) w')) ∧
              ∃ (b1 : Bool), ∃ (x10 : Int), ∃ (x11 : Int), (∀ w' : World, Below w.heap.size w w' → Calls Try.prog 86 #[.int .i64 x9] w' (Vc.Ret (.agg #[.bool b1, .int .u64 x10, .int .u64 x11]) w')) ∧
              (.tuple #[.agg #[.bool b1, .int .u64 x10, .int .u64 x11], .agg #[.bool b1, .int .u64 x10, .int .u64 x11]] : Value) = v)) ∧ (¬ (x4 = x2) → (
              ∀ x5 : Int, x5 = IntKind.i64.wrap (x3 - 1) →
              (¬ (b0 = true)) ∧
              (0 ≤ x5) ∧
              (x5 < x0) ∧
              ∃ (x6 : Int), w.cell? ⟨p0.1, p0.2 + (Int.toNat x5) * 3 + 0, none⟩ = some (.int .i64 x6) ∧
              ∃ (x7 : Int), w.cell? ⟨p0.1, p0.2 + (Int.toNat x5) * 3 + 1, none⟩ = some (.int .i64 x7) ∧
              ∃ (x8 : Int), w.cell? ⟨p0.1, p0.2 + (Int.toNat x5) * 3 + 2, none⟩ = some (.int .i64 x8) ∧
              (¬ (b0 = true)) ∧
              (0 ≤ x3) ∧
              (x3 < x0) ∧
              ∃ (x9 : Int), w.cell? ⟨p0.1, p0.2 + (Int.toNat x3) * 3 + 0, none⟩ = some (.int .i64 x9) ∧
              ∃ (x10 : Int), w.cell? ⟨p0.1, p0.2 + (Int.toNat x3) * 3 + 1, none⟩ = some (.int .i64 x10) ∧
              ∃ (x11 : Int), w.cell? ⟨p0.1, p0.2 + (Int.toNat x3) * 3 + 2, none⟩ = some (.int .i64 x11) ∧
              ∃ (x12 : Int), (∀ w' : World, Below w.heap.size w w' → Calls Try.prog 105 #[.agg #[.int .i64 x7, .int .i64 x8]] w' (Vc.Ret (.int .i64 x12) w')) ∧
              ∃ (x13 : Int), (∀ w' : World, Below w.heap.size w w' → Calls Try.prog 105 #[.agg #[.int .i64 x10, .int .i64 x11]] w' (Vc.Ret (.int .i64 x13) w')) ∧
              ∀ x14 : Int, x14 = IntKind.i64.wrap (x13 - x12) →
              ∀ x15 : Int, x15 = IntKind.i64.wrap (x2 - x6) →
              ∃ (b1 : Bool), ∃ (x16 : Int), ∃ (x17 : Int), (∀ w' : World, Below w.heap.size w w' → Calls Try.prog 89 #[.int .i64 x14, .int .i64 x15] w' (Vc.Ret (.agg #[.bool b1, .int .u64 x16, .int .u64 x17]) w')) ∧
              ∀ x18 : Int, x18 = IntKind.i64.wrap (x9 - x6) →
              ∃ (b2 : Bool), ∃ (x19 : Int), ∃ (x20 : Int), (∀ w' : World, Below w.heap.size w w' → Calls Try.prog 86 #[.int .i64 x18] w' (Vc.Ret (.agg #[.bool b2, .int .u64 x19, .int .u64 x20]) w')) ∧
              ∃ (b3 : Bool), ∃ (x21 : Int), ∃ (x22 : Int), ∃ (b4 : Bool), ∃ (x23 : Int), ∃ (x24 : Int), (∀ w' : World, Below w.heap.size w w' → Calls Try.prog 100 #[.agg #[.bool b1, .int .u64 x16, .int .u64 x17], .agg #[.bool b2, .int .u64 x19, .int .u64 x20]] w' (Vc.Ret (.tuple #[.agg #[.bool b3, .int .u64 x21, .int .u64 x22], .agg #[.bool b4, .int .u64 x23, .int .u64 x24]]) w')) ∧
              ∃ (b5 : Bool), ∃ (x25 : Int), ∃ (x26 : Int), (∀ w' : World, Below w.heap.size w w' → Calls Try.prog 86 #[.int .i64 x12] w' (Vc.Ret (.agg #[.bool b5, .int .u64 x25, .int .u64 x26]) w')) ∧
              ∃ (b6 : Bool), ∃ (x27 : Int), ∃ (x28 : Int), (∀ w' : World, Below w.heap.size w w' → Calls Try.prog 85 #[.agg #[.bool b5, .int .u64 x25, .int .u64 x26], .agg #[.bool b3, .int .u64 x21, .int .u64 x22]] w' (Vc.Ret (.agg #[.bool b6, .int .u64 x27, .int .u64 x28]) w')) ∧
              ∃ (b7 : Bool), ∃ (x29 : Int), ∃ (x30 : Int), (∀ w' : World, Below w.heap.size w w' → Calls Try.prog 86 #[.int .i64 x12] w' (Vc.Ret (.agg #[.bool b7, .int .u64 x29, .int .u64 x30]) w')) ∧
              ∃ (b8 : Bool), ∃ (x31 : Int), ∃ (x32 : Int), (∀ w' : World, Below w.heap.size w w' → Calls Try.prog 85 #[.agg #[.bool b7, .int .u64 x29, .int .u64 x30], .agg #[.bool b4, .int .u64 x23, .int .u64 x24]] w' (Vc.Ret (.agg #[.bool b8, .int .u64 x31, .int .u64 x32]) w')) ∧
              (.tuple #[.agg #[.bool b6, .int .u64 x27, .int .u64 x28], .agg #[.bool b8, .int .u64 x31, .int .u64 x32]] : Value) = v)))))))))) : Calls Try.prog 104 #[(if b0 = true then .slice none 0 0 else .slice (some ⟨p0.1, p0.2, none⟩) (Int.toNat x0) (Int.toNat x1) : Value), .int .i64 x2, .func (.func 105) #[] #[]] w (Vc.Ret v w) :=
  Vc.pure_of base [(2, .inv [] [8] [14, 15, 16, 17, 18, 19, 20, 21, 22, 23, 24, 25, 26, 27, 28])] 200 Try.func104 (b := (Try.f104.body).getD .skip) (by kernel_rfl) [.cv (.one (.qsl 0 0 3 (.var 0) (.var 1))), .cv (.one (.int .i64 (.var 2))), .cv (.one (.fn 105 []))] ⟨3, 1, 0, 1, 0, 0, 0⟩ (Vc.envOf [x0, x1, x2] [b0] [] [p0]) (by kernel_rfl) (by kernel_rfl) (by kernel_rfl) h

theorem vc_span_value_hi (p0 : Nat × Nat) (x0 x1 x2 : Int) (b0 : Bool) (w : World) (v : Value) (h : 
    ∃ (Ix3 : List Vc.Vl → Prop) (mx3 : List Vc.Vl → Nat), Ix3 [.i 0] ∧ ∀ (x3 : Int), Ix3 [.i x3] → (
      (0 ≤ x0) ∧
      ((¬ (b0 = true)) ∨ (x0 = 0)) ∧
      ((x3 < x0) → (
        (¬ (b0 = true)) ∧
        (0 ≤ x3) ∧
        (x3 < x0) ∧
        ∃ (x4 : Int), w.cell? ⟨p0.1, p0.2 + (Int.toNat x3) * 3 + 0, none⟩ = some (.int .i64 x4) ∧
        ((x4 < x2) → (
          ∀ x5 : Int, x5 = IntKind.i64.wrap (x3 + 1) →
          Ix3 [.i x5] ∧ mx3 [.i x5] < mx3 [.i x3])) ∧ (¬ (x4 < x2) → (
          ((x3 = 0) → (
            (0 ≤ x0) ∧
            ((¬ (b0 = true)) ∨ (x0 = 0)) ∧
            ∀ x5 : Int, x5 = IntKind.i64.wrap (x0 - 1) →
            ∀ x6 : Int, x6 = (if x5 < x3 then x5 else x3) →
            (¬ (b0 = true)) ∧
            (0 ≤ x6) ∧
            (x6 < x0) ∧
            ∃ (x7 : Int), w.cell? ⟨p0.1, p0.2 + (Int.toNat x6) * 3 + 1, none⟩ = some (.int .i64 x7) ∧
            ∃ (x8 : Int), w.cell? ⟨p0.1, p0.2 + (Int.toNat x6) * 3 + 2, none⟩ = some (.int .i64 x8) ∧
            ∃ (x9 : Int), (∀ w' : World, Below w.heap.size w w' → Calls Try.prog 106 #[.agg #[.int .i64 x7, .int .i64 x8]] w' (Vc.Ret (.int .i64 x9) w')) ∧
            ∃ (b1 : Bool), ∃ (x10 : Int), ∃ (x11 : Int), (∀ w' : World, Below w.heap.size w w' → Calls Try.prog 86 #[.int .i64 x9] w' (Vc.Ret (.agg #[.bool b1, .int .u64 x10, .int .u64 x11]) w')) ∧
            (.tuple #[.agg #[.bool b1, .int .u64 x10, .int .u64 x11], .agg #[.bool b1, .int .u64 x10, .int .u64 x11]] : Value) = v)) ∧ (¬ (x3 = 0) → (
            (0 ≤ x0) ∧
            ((¬ (b0 = true)) ∨ (x0 = 0)) ∧
            ((x3 = x0) → (
              (0 ≤ x0) ∧
              ((¬ (b0 = true)) ∨ (x0 = 0)) ∧
              ∀ x5 : Int, x5 = IntKind.i64.wrap (x0 - 1) →
              ∀ x6 : Int, x6 = (if x5 < x3 then x5 else x3) →
              (¬ (b0 = true)) ∧
              (0 ≤ x6) ∧
              (x6 < x0) ∧
              ∃ (x7 : Int), w.cell? ⟨p0.1, p0.2 + (Int.toNat x6) * 3 + 1, none⟩ = some (.int .i64 x7) ∧
              ∃ (x8 : Int), w.cell? ⟨p0.1, p0.2 + (Int.toNat x6) * 3 + 2, none⟩ = some (.int .i64 x8) ∧
              ∃ (x9 : Int), (∀ w' : World, Below w.heap.size w w' → Calls Try.prog 106 #[.agg #[.int .i64 x7, .int .i64 x8]] w' (Vc.Ret (.int .i64 x9) w')) ∧
              ∃ (b1 : Bool), ∃ (x10 : Int), ∃ (x11 : Int), (∀ w' : World, Below w.heap.size w w' → Calls Try.prog 86 #[.int .i64 x9] w' (Vc.Ret (.agg #[.bool b1, .int .u64 x10, .int .u64 x11]) w')) ∧
              (.tuple #[.agg #[.bool b1, .int .u64 x10, .int .u64 x11], .agg #[.bool b1, .int .u64 x10, .int .u64 x11]] : Value) = v)) ∧ (¬ (x3 = x0) → (
              (¬ (b0 = true)) ∧
              (0 ≤ x3) ∧
              (x3 < x0) ∧
              ∃ (x5 : Int), w.cell? ⟨p0.1, p0.2 + (Int.toNat x3) * 3 + 0, none⟩ = some (.int .i64 x5) ∧
              ((x5 = x2) → (
                (0 ≤ x0) ∧
                ((¬ (b0 = true)) ∨ (x0 = 0)) ∧
                ∀ x6 : Int, x6 = IntKind.i64.wrap (x0 - 1) →
                ∀ x7 : Int, x7 = (if x6 < x3 then x6 else x3) →
                (¬ (b0 = true)) ∧
                (0 ≤ x7) ∧
                (x7 < x0) ∧
                ∃ (x8 : Int), w.cell? ⟨p0.1, p0.2 + (Int.toNat x7) * 3 + 1, none⟩ = some (.int .i64 x8) ∧
                ∃ (x9 : Int), w.cell? ⟨p0.1, p0.2 + (Int.toNat x7) * 3 + 2, none⟩ = some (.int .i64 x9) ∧
                ∃ (x10 : Int), (∀ w' : World, Below w.heap.size w w' → Calls Try.prog 106 #[.agg #[.int .i64 x8, .int .i64 x9]] w' (Vc.Ret (.int .i64 x10) w')) ∧
                ∃ (b1 : Bool), ∃ (x11 : Int), ∃ (x12 : Int), (∀ w' : World, Below w.heap.size w w' → Calls Try.prog 86 #[.int .i64 x10] w' (Vc.Ret (.agg #[.bool b1, .int .u64 x11, .int .u64 x12]) w')) ∧
                (.tuple #[.agg #[.bool b1, .int .u64 x11, .int .u64 x12], .agg #[.bool b1, .int .u64 x11, .int .u64 x12]] : Value) = v)) ∧ (¬ (x5 = x2) → (
                ∀ x6 : Int, x6 = IntKind.i64.wrap (x3 - 1) →
                (¬ (b0 = true)) ∧
                (0 ≤ x6) ∧
                (x6 < x0) ∧
                ∃ (x7 : Int), w.cell? ⟨p0.1, p0.2 + (Int.toNat x6) * 3 + 0, none⟩ = some (.int .i64 x7) ∧
                ∃ (x8 : Int), w.cell? ⟨p0.1, p0.2 + (Int.toNat x6) * 3 + 1, none⟩ = some (.int .i64 x8) ∧
                ∃ (x9 : Int), w.cell? ⟨p0.1, p0.2 + (Int.toNat x6) * 3 + 2, none⟩ = some (.int .i64 x9) ∧
                (¬ (b0 = true)) ∧
                (0 ≤ x3) ∧
                (x3 < x0) ∧
                ∃ (x10 : Int), w.cell? ⟨p0.1, p0.2 + (Int.toNat x3) * 3 + 0, none⟩ = some (.int .i64 x10) ∧
                ∃ (x11 : Int), w.cell? ⟨p0.1, p0.2 + (Int.toNat x3) * 3 + 1, none⟩ = some (.int .i64 x11) ∧
                ∃ (x12 : Int), w.cell? ⟨p0.1, p0.2 + (Int.toNat x3) * 3 + 2, none⟩ = some (.int .i64 x12) ∧
                ∃ (x13 : Int), (∀ w' : World, Below w.heap.size w w' → Calls Try.prog 106 #[.agg #[.int .i64 x8, .int .i64 x9]] w' (Vc.Ret (.int .i64 x13) w')) ∧
                ∃ (x14 : Int), (∀ w' : World, Below w.heap.size w w' → Calls Try.prog 106 #[.agg #[.int .i64 x11, .int .i64 x12]] w' (Vc.Ret (.int .i64 x14) w')) ∧
                ∀ x15 : Int, x15 = IntKind.i64.wrap (x14 - x13) →
                ∀ x16 : Int, x16 = IntKind.i64.wrap (x2 - x7) →
                ∃ (b1 : Bool), ∃ (x17 : Int), ∃ (x18 : Int), (∀ w' : World, Below w.heap.size w w' → Calls Try.prog 89 #[.int .i64 x15, .int .i64 x16] w' (Vc.Ret (.agg #[.bool b1, .int .u64 x17, .int .u64 x18]) w')) ∧
                ∀ x19 : Int, x19 = IntKind.i64.wrap (x10 - x7) →
                ∃ (b2 : Bool), ∃ (x20 : Int), ∃ (x21 : Int), (∀ w' : World, Below w.heap.size w w' → Calls Try.prog 86 #[.int .i64 x19] w' (Vc.Ret (.agg #[.bool b2, .int .u64 x20, .int .u64 x21]) w')) ∧
                ∃ (b3 : Bool), ∃ (x22 : Int), ∃ (x23 : Int), ∃ (b4 : Bool), ∃ (x24 : Int), ∃ (x25 : Int), (∀ w' : World, Below w.heap.size w w' → Calls Try.prog 100 #[.agg #[.bool b1, .int .u64 x17, .int .u64 x18], .agg #[.bool b2, .int .u64 x20, .int .u64 x21]] w' (Vc.Ret (.tuple #[.agg #[.bool b3, .int .u64 x22, .int .u64 x23], .agg #[.bool b4, .int .u64 x24, .int .u64 x25]]) w')) ∧
                ∃ (b5 : Bool), ∃ (x26 : Int), ∃ (x27 : Int), (∀ w' : World, Below w.heap.size w w' → Calls Try.prog 86 #[.int .i64 x13] w' (Vc.Ret (.agg #[.bool b5, .int .u64 x26, .int .u64 x27]) w')) ∧
                ∃ (b6 : Bool), ∃ (x28 : Int), ∃ (x29 : Int), (∀ w' : World, Below w.heap.size w w' → Calls Try.prog 85 #[.agg #[.bool b5, .int .u64 x26, .int .u64 x27], .agg #[.bool b3, .int .u64 x22, .int .u64 x23]] w' (Vc.Ret (.agg #[.bool b6, .int .u64 x28, .int .u64 x29]) w')) ∧
                ∃ (b7 : Bool), ∃ (x30 : Int), ∃ (x31 : Int), (∀ w' : World, Below w.heap.size w w' → Calls Try.prog 86 #[.int .i64 x13] w' (Vc.Ret (.agg #[.bool b7, .int .u64 x30, .int .u64 x31]) w')) ∧
                ∃ (b8 : Bool), ∃ (x32 : Int), ∃ (x33 : Int), (∀ w' : World, Below w.heap.size w w' → Calls Try.prog 85 #[.agg #[.bool b7, .int .u64 x30, .int .u64 x31], .agg #[.bool b4, .int .u64 x24, .int .u64 x25]] w' (Vc.Ret (.agg #[.bool b8, .int .u64 x32, .int .u64 x33]) w')) ∧
                (.tuple #[.agg #[.bool b6, .int .u64 x28, .int .u64 x29], .agg #[.bool b8, .int .u64 x32, .int .u64 x33]] : Value) = v)))))))))) ∧ (¬ (x3 < x0) → (
        ((x3 = 0) → (
          (0 ≤ x0) ∧
          ((¬ (b0 = true)) ∨ (x0 = 0)) ∧
          ∀ x4 : Int, x4 = IntKind.i64.wrap (x0 - 1) →
          ∀ x5 : Int, x5 = (if x4 < x3 then x4 else x3) →
          (¬ (b0 = true)) ∧
          (0 ≤ x5) ∧
          (x5 < x0) ∧
          ∃ (x6 : Int), w.cell? ⟨p0.1, p0.2 + (Int.toNat x5) * 3 + 1, none⟩ = some (.int .i64 x6) ∧
          ∃ (x7 : Int), w.cell? ⟨p0.1, p0.2 + (Int.toNat x5) * 3 + 2, none⟩ = some (.int .i64 x7) ∧
          ∃ (x8 : Int), (∀ w' : World, Below w.heap.size w w' → Calls Try.prog 106 #[.agg #[.int .i64 x6, .int .i64 x7]] w' (Vc.Ret (.int .i64 x8) w')) ∧
          ∃ (b1 : Bool), ∃ (x9 : Int), ∃ (x10 : Int), (∀ w' : World, Below w.heap.size w w' → Calls Try.prog 86 #[.int .i64 x8] w' (Vc.Ret (.agg #[.bool b1, .int .u64 x9, .int .u64 x10]) w')) ∧
          (.tuple #[.agg #[.bool b1, .int .u64 x9, .int .u64 x10], .agg #[.bool b1, .int .u64 x9, .int .u64 x10]] : Value) = v)) ∧ (¬ (x3 = 0) → (
          (0 ≤ x0) ∧
          ((¬ (b0 = true)) ∨ (x0 = 0)) ∧
          ((x3 = x0) → (
            (0 ≤ x0) ∧
            ((¬ (b0 = true)) ∨ (x0 = 0)) ∧
            ∀ x4 : Int, x4 = IntKind.i64.wrap (x0 - 1) →
            ∀ x5 : Int, x5 = (if x4 < x3 then x4 else x3) →
            (¬ (b0 = true)) ∧
            (0 ≤ x5) ∧
            (x5 < x0) ∧
            ∃ (x6 : Int), w.cell? ⟨p0.1, p0.2 + (Int.toNat x5) * 3 + 1, none⟩ = some (.int .i64 x6) ∧
            ∃ (x7 : Int), w.cell? ⟨p0.1, p0.2 + (Int.toNat x5) * 3 + 2, none⟩ = some (.int .i64 x7) ∧
            ∃ (x8 : Int), (∀ w' : World, Below w.heap.size w w' → Calls Try.prog 106 #[.agg #[.int .i64 x6, .int .i64 x7]] w' (Vc.Ret (.int .i64 x8) w')) ∧
            ∃ (b1 : Bool), ∃ (x9 : Int), ∃ (x10 : Int), (∀ w' : World, Below w.heap.size w w' → Calls Try.prog 86 #[.int .i64 x8] w' (Vc.Ret (.agg #[.bool b1, .int .u64 x9, .int .u64 x10]) w')) ∧
            (.tuple #[.agg #[.bool b1, .int .u64 x9, .int .u64 x10], .agg #[.bool b1, .int .u64 x9, .int .u64 x10]] : Value) = v)) ∧ (¬ (x3 = x0) → (
            (¬ (b0 = true)) ∧
            (0 ≤ x3) ∧
            (x3 < x0) ∧
            ∃ (x4 : Int), w.cell? ⟨p0.1, p0.2 + (Int.toNat x3) * 3 + 0, none⟩ = some (.int .i64 x4) ∧
            ((x4 = x2) → (
              (0 ≤ x0) ∧
              ((¬ (b0 = true)) ∨ (x0 = 0)) ∧
              ∀ x5 : Int, x5 = IntKind.i64.wrap (x0 - 1) →
              ∀ x6 : Int, x6 = (if x5 < x3 then x5 else x3) →
              (¬ (b0 = true)) ∧
              (0 ≤ x6) ∧
              (x6 < x0) ∧
              ∃ (x7 : Int), w.cell? ⟨p0.1, p0.2 + (Int.toNat x6) * 3 + 1, none⟩ = some (.int .i64 x7) ∧
              ∃ (x8 : Int), w.cell? ⟨p0.1, p0.2 + (Int.toNat x6) * 3 + 2, none⟩ = some (.int .i64 x8) ∧
              ∃ (x9 : Int), (∀ w' : World, Below w.heap.size w w' → Calls Try.prog 106 #[.agg #[.int .i64 x7, .int .i64 x8]] w' (Vc.Ret (.int .i64 x9) w')) ∧
              ∃ (b1 : Bool), ∃ (x10 : Int), ∃ (x11 : Int), (∀ w' : World, Below w.heap.size w w' → Calls Try.prog 86 #[.int .i64 x9] w' (Vc.Ret (.agg #[.bool b1, .int .u64 x10, .int .u64 x11]) w')) ∧
              (.tuple #[.agg #[.bool b1, .int .u64 x10, .int .u64 x11], .agg #[.bool b1, .int .u64 x10, .int .u64 x11]] : Value) = v)) ∧ (¬ (x4 = x2) → (
              ∀ x5 : Int, x5 = IntKind.i64.wrap (x3 - 1) →
              (¬ (b0 = true)) ∧
              (0 ≤ x5) ∧
              (x5 < x0) ∧
              ∃ (x6 : Int), w.cell? ⟨p0.1, p0.2 + (Int.toNat x5) * 3 + 0, none⟩ = some (.int .i64 x6) ∧
              ∃ (x7 : Int), w.cell? ⟨p0.1, p0.2 + (Int.toNat x5) * 3 + 1, none⟩ = some (.int .i64 x7) ∧
              ∃ (x8 : Int), w.cell? ⟨p0.1, p0.2 + (Int.toNat x5) * 3 + 2, none⟩ = some (.int .i64 x8) ∧
              (¬ (b0 = true)) ∧
              (0 ≤ x3) ∧
              (x3 < x0) ∧
              ∃ (x9 : Int), w.cell? ⟨p0.1, p0.2 + (Int.toNat x3) * 3 + 0, none⟩ = some (.int .i64 x9) ∧
              ∃ (x10 : Int), w.cell? ⟨p0.1, p0.2 + (Int.toNat x3) * 3 + 1, none⟩ = some (.int .i64 x10) ∧
              ∃ (x11 : Int), w.cell? ⟨p0.1, p0.2 + (Int.toNat x3) * 3 + 2, none⟩ = some (.int .i64 x11) ∧
              ∃ (x12 : Int), (∀ w' : World, Below w.heap.size w w' → Calls Try.prog 106 #[.agg #[.int .i64 x7, .int .i64 x8]] w' (Vc.Ret (.int .i64 x12) w')) ∧
              ∃ (x13 : Int), (∀ w' : World, Below w.heap.size w w' → Calls Try.prog 106 #[.agg #[.int .i64 x10, .int .i64 x11]] w' (Vc.Ret (.int .i64 x13) w')) ∧
              ∀ x14 : Int, x14 = IntKind.i64.wrap (x13 - x12) →
              ∀ x15 : Int, x15 = IntKind.i64.wrap (x2 - x6) →
              ∃ (b1 : Bool), ∃ (x16 : Int), ∃ (x17 : Int), (∀ w' : World, Below w.heap.size w w' → Calls Try.prog 89 #[.int .i64 x14, .int .i64 x15] w' (Vc.Ret (.agg #[.bool b1, .int .u64 x16, .int .u64 x17]) w')) ∧
              ∀ x18 : Int, x18 = IntKind.i64.wrap (x9 - x6) →
              ∃ (b2 : Bool), ∃ (x19 : Int), ∃ (x20 : Int), (∀ w' : World, Below w.heap.size w w' → Calls Try.prog 86 #[.int .i64 x18] w' (Vc.Ret (.agg #[.bool b2, .int .u64 x19, .int .u64 x20]) w')) ∧
              ∃ (b3 : Bool), ∃ (x21 : Int), ∃ (x22 : Int), ∃ (b4 : Bool), ∃ (x23 : Int), ∃ (x24 : Int), (∀ w' : World, Below w.heap.size w w' → Calls Try.prog 100 #[.agg #[.bool b1, .int .u64 x16, .int .u64 x17], .agg #[.bool b2, .int .u64 x19, .int .u64 x20]] w' (Vc.Ret (.tuple #[.agg #[.bool b3, .int .u64 x21, .int .u64 x22], .agg #[.bool b4, .int .u64 x23, .int .u64 x24]]) w')) ∧
              ∃ (b5 : Bool), ∃ (x25 : Int), ∃ (x26 : Int), (∀ w' : World, Below w.heap.size w w' → Calls Try.prog 86 #[.int .i64 x12] w' (Vc.Ret (.agg #[.bool b5, .int .u64 x25, .int .u64 x26]) w')) ∧
              ∃ (b6 : Bool), ∃ (x27 : Int), ∃ (x28 : Int), (∀ w' : World, Below w.heap.size w w' → Calls Try.prog 85 #[.agg #[.bool b5, .int .u64 x25, .int .u64 x26], .agg #[.bool b3, .int .u64 x21, .int .u64 x22]] w' (Vc.Ret (.agg #[.bool b6, .int .u64 x27, .int .u64 x28]) w')) ∧
              ∃ (b7 : Bool), ∃ (x29 : Int), ∃ (x30 : Int), (∀ w' : World, Below w.heap.size w w' → Calls Try.prog 86 #[.int .i64 x12] w' (Vc.Ret (.agg #[.bool b7, .int .u64 x29, .int .u64 x30]) w')) ∧
              ∃ (b8 : Bool), ∃ (x31 : Int), ∃ (x32 : Int), (∀ w' : World, Below w.heap.size w w' → Calls Try.prog 85 #[.agg #[.bool b7, .int .u64 x29, .int .u64 x30], .agg #[.bool b4, .int .u64 x23, .int .u64 x24]] w' (Vc.Ret (.agg #[.bool b8, .int .u64 x31, .int .u64 x32]) w')) ∧
              (.tuple #[.agg #[.bool b6, .int .u64 x27, .int .u64 x28], .agg #[.bool b8, .int .u64 x31, .int .u64 x32]] : Value) = v)))))))))) : Calls Try.prog 104 #[(if b0 = true then .slice none 0 0 else .slice (some ⟨p0.1, p0.2, none⟩) (Int.toNat x0) (Int.toNat x1) : Value), .int .i64 x2, .func (.func 106) #[] #[]] w (Vc.Ret v w) :=
  Vc.pure_of base [(2, .inv [] [8] [14, 15, 16, 17, 18, 19, 20, 21, 22, 23, 24, 25, 26, 27, 28])] 200 Try.func104 (b := (Try.f104.body).getD .skip) (by kernel_rfl) [.cv (.one (.qsl 0 0 3 (.var 0) (.var 1))), .cv (.one (.int .i64 (.var 2))), .cv (.one (.fn 106 []))] ⟨3, 1, 0, 1, 0, 0, 0⟩ (Vc.envOf [x0, x1, x2] [b0] [] [p0]) (by kernel_rfl) (by kernel_rfl) (by kernel_rfl) h

theorem vc_span_Look (p0 : Nat × Nat) (x0 x1 x2 x3 : Int) (b0 : Bool) (w : World) (v : Value) (h : 
    ∃ (x4 : Int), (∀ w' : World, Below w.heap.size w w' → Calls Try.prog 57 #[(if b0 = true then .slice none 0 0 else .slice (some ⟨p0.1, p0.2, none⟩) (Int.toNat x0) (Int.toNat x1) : Value)] w' (Vc.Ret (.int .i64 x4) w')) ∧
    ((x4 = 0) → (
      ∃ (x5 : Int), (∀ w' : World, Below w.heap.size w w' → Calls Try.prog 47 #[.agg #[.int .i64 x2, .int .i64 x3]] w' (Vc.Ret (.int .i64 x5) w')) ∧
      ((x5 = 0) → (
        ∃ (b1 : Bool), ∃ (x6 : Int), ∃ (x7 : Int), ∃ (b2 : Bool), ∃ (x8 : Int), ∃ (x9 : Int), (∀ w' : World, Below w.heap.size w w' → Calls Try.prog 104 #[(if b0 = true then .slice none 0 0 else .slice (some ⟨p0.1, p0.2, none⟩) (Int.toNat x0) (Int.toNat x1) : Value), .int .i64 x2, .func (.func 105) #[] #[]] w' (Vc.Ret (.tuple #[.agg #[.bool b1, .int .u64 x6, .int .u64 x7], .agg #[.bool b2, .int .u64 x8, .int .u64 x9]]) w')) ∧
        ∃ (b3 : Bool), ∃ (x10 : Int), ∃ (x11 : Int), ∃ (b4 : Bool), ∃ (x12 : Int), ∃ (x13 : Int), (∀ w' : World, Below w.heap.size w w' → Calls Try.prog 104 #[(if b0 = true then .slice none 0 0 else .slice (some ⟨p0.1, p0.2, none⟩) (Int.toNat x0) (Int.toNat x1) : Value), .int .i64 x2, .func (.func 106) #[] #[]] w' (Vc.Ret (.tuple #[.agg #[.bool b3, .int .u64 x10, .int .u64 x11], .agg #[.bool b4, .int .u64 x12, .int .u64 x13]]) w')) ∧
        ∃ (b5 : Bool), ∃ (x14 : Int), ∃ (x15 : Int), ∃ (b6 : Bool), ∃ (x16 : Int), ∃ (x17 : Int), (∀ w' : World, Below w.heap.size w w' → Calls Try.prog 104 #[(if b0 = true then .slice none 0 0 else .slice (some ⟨p0.1, p0.2, none⟩) (Int.toNat x0) (Int.toNat x1) : Value), .int .i64 x3, .func (.func 105) #[] #[]] w' (Vc.Ret (.tuple #[.agg #[.bool b5, .int .u64 x14, .int .u64 x15], .agg #[.bool b6, .int .u64 x16, .int .u64 x17]]) w')) ∧
        ∃ (b7 : Bool), ∃ (x18 : Int), ∃ (x19 : Int), ∃ (b8 : Bool), ∃ (x20 : Int), ∃ (x21 : Int), (∀ w' : World, Below w.heap.size w w' → Calls Try.prog 104 #[(if b0 = true then .slice none 0 0 else .slice (some ⟨p0.1, p0.2, none⟩) (Int.toNat x0) (Int.toNat x1) : Value), .int .i64 x3, .func (.func 106) #[] #[]] w' (Vc.Ret (.tuple #[.agg #[.bool b7, .int .u64 x18, .int .u64 x19], .agg #[.bool b8, .int .u64 x20, .int .u64 x21]]) w')) ∧
        (0 ≤ x0) ∧
        ((¬ (b0 = true)) ∨ (x0 = 0)) ∧
        ∃ (Ix22 : List Vc.Vl → Prop) (mx22 : List Vc.Vl → Nat), Ix22 [.i 0, .l (([.bool b1, .int .u64 x6, .int .u64 x7, .bool b5, .int .u64 x14, .int .u64 x15] : List Value)), .l (([.bool b4, .int .u64 x12, .int .u64 x13, .bool b8, .int .u64 x20, .int .u64 x21] : List Value))] ∧ ∀ (x22 : Int) (l0 : List Vc.OV) (l1 : List Vc.OV), Ix22 [.i x22, .l ((l0.map (·.1) ++ (([] : List Value)))), .l ((l1.map (·.1) ++ (([] : List Value))))] → (
          ((x22 < x0) → (
            (¬ (b0 = true)) ∧
            (0 ≤ x22) ∧
            (x22 < x0) ∧
            ∃ (x23 : Int), w.cell? ⟨p0.1, p0.2 + (Int.toNat x22) * 3 + 0, none⟩ = some (.int .i64 x23) ∧
            ∃ (x24 : Int), w.cell? ⟨p0.1, p0.2 + (Int.toNat x22) * 3 + 1, none⟩ = some (.int .i64 x24) ∧
            ∃ (x25 : Int), w.cell? ⟨p0.1, p0.2 + (Int.toNat x22) * 3 + 2, none⟩ = some (.int .i64 x25) ∧
            ∃ (b9 : Bool), (∀ w' : World, Below w.heap.size w w' → Calls Try.prog 12 #[.agg #[.int .i64 x2, .int .i64 x3], .int .i64 x23] w' (Vc.Ret (.bool b9) w')) ∧
            ((b9 = true) → (
              ∃ (b10 : Bool), ∃ (x26 : Int), ∃ (x27 : Int), ∃ (b11 : Bool), ∃ (x28 : Int), ∃ (x29 : Int), (∀ w' : World, Below w.heap.size w w' → Calls Try.prog 104 #[(if b0 = true then .slice none 0 0 else .slice (some ⟨p0.1, p0.2, none⟩) (Int.toNat x0) (Int.toNat x1) : Value), .int .i64 x23, .func (.func 105) #[] #[]] w' (Vc.Ret (.tuple #[.agg #[.bool b10, .int .u64 x26, .int .u64 x27], .agg #[.bool b11, .int .u64 x28, .int .u64 x29]]) w')) ∧
              ∃ (b12 : Bool), ∃ (x30 : Int), ∃ (x31 : Int), ∃ (b13 : Bool), ∃ (x32 : Int), ∃ (x33 : Int), (∀ w' : World, Below w.heap.size w w' → Calls Try.prog 104 #[(if b0 = true then .slice none 0 0 else .slice (some ⟨p0.1, p0.2, none⟩) (Int.toNat x0) (Int.toNat x1) : Value), .int .i64 x23, .func (.func 106) #[] #[]] w' (Vc.Ret (.tuple #[.agg #[.bool b12, .int .u64 x30, .int .u64 x31], .agg #[.bool b13, .int .u64 x32, .int .u64 x33]]) w')) ∧
              ∀ x34 : Int, x34 = (((3 + (l0.length + 0)) / 3 : Nat) : Int) →
              (x34 ≤ 1073741824) ∧
              ∀ x35 : Int, x35 = (((3 + (l1.length + 0)) / 3 : Nat) : Int) →
              (x35 ≤ 1073741824) ∧
              ∀ x36 : Int, x36 = IntKind.i64.wrap (x22 + 1) →
              Ix22 [.i x36, .l ((l0.map (·.1) ++ (([.bool b10, .int .u64 x26, .int .u64 x27] : List Value)))), .l ((l1.map (·.1) ++ (([.bool b13, .int .u64 x32, .int .u64 x33] : List Value))))] ∧ mx22 [.i x36, .l ((l0.map (·.1) ++ (([.bool b10, .int .u64 x26, .int .u64 x27] : List Value)))), .l ((l1.map (·.1) ++ (([.bool b13, .int .u64 x32, .int .u64 x33] : List Value))))] < mx22 [.i x22, .l ((l0.map (·.1) ++ (([] : List Value)))), .l ((l1.map (·.1) ++ (([] : List Value))))])) ∧ (¬ (b9 = true) → (
              ∀ x26 : Int, x26 = IntKind.i64.wrap (x22 + 1) →
              Ix22 [.i x26, .l ((l0.map (·.1) ++ (([] : List Value)))), .l ((l1.map (·.1) ++ (([] : List Value))))] ∧ mx22 [.i x26, .l ((l0.map (·.1) ++ (([] : List Value)))), .l ((l1.map (·.1) ++ (([] : List Value))))] < mx22 [.i x22, .l ((l0.map (·.1) ++ (([] : List Value)))), .l ((l1.map (·.1) ++ (([] : List Value))))])))) ∧ (¬ (x22 < x0) → (
            ∃ (b9 : Bool), ∃ (x23 : Int), ∃ (x24 : Int), ∃ (b10 : Bool), ∃ (x25 : Int), ∃ (x26 : Int), (∀ (β : Nat → Nat) (w' : World), Below w.heap.size w w' → (Vc.RowOk w.heap.size (β 33) (β 34) (β 35) (β 36) ((l0.map (·.1) ++ (([] : List Value)))) 3 86 w' ∧ True) → Calls Try.prog 88 #[Vc.ownV (β 33) (β 34) (β 35) (β 36)] w' (Vc.Ret (.tuple #[.agg #[.bool b9, .int .u64 x23, .int .u64 x24], .agg #[.bool b10, .int .u64 x25, .int .u64 x26]]) w')) ∧
            ∃ (b11 : Bool), ∃ (x27 : Int), ∃ (x28 : Int), ∃ (b12 : Bool), ∃ (x29 : Int), ∃ (x30 : Int), (∀ (β : Nat → Nat) (w' : World), Below w.heap.size w w' → (Vc.RowOk w.heap.size (β 37) (β 38) (β 39) (β 40) ((l1.map (·.1) ++ (([] : List Value)))) 3 86 w' ∧ True) → Calls Try.prog 88 #[Vc.ownV (β 37) (β 38) (β 39) (β 40)] w' (Vc.Ret (.tuple #[.agg #[.bool b11, .int .u64 x27, .int .u64 x28], .agg #[.bool b12, .int .u64 x29, .int .u64 x30]]) w')) ∧
            ∃ (x31 : Int), ∃ (x32 : Int), ∃ (x33 : Int), (∀ w' : World, Below w.heap.size w w' → Calls Try.prog 87 #[.agg #[.bool b9, .int .u64 x23, .int .u64 x24], .agg #[.bool b12, .int .u64 x29, .int .u64 x30]] w' (Vc.Ret (.tuple #[.agg #[.int .i64 x31, .int .i64 x32], .int .i64 x33]) w')) ∧
            (.tuple #[.agg #[.int .i64 x31, .int .i64 x32], .int .i64 x33] : Value) = v))))) ∧ (¬ (x5 = 0) → (
        (.tuple #[.agg #[.int .i64 0, .int .i64 0], .int .i64 2] : Value) = v)))) ∧ (¬ (x4 = 0) → (
      (.tuple #[.agg #[.int .i64 0, .int .i64 0], .int .i64 2] : Value) = v))) : Calls Try.prog 55 #[(if b0 = true then .slice none 0 0 else .slice (some ⟨p0.1, p0.2, none⟩) (Int.toNat x0) (Int.toNat x1) : Value), .agg #[.int .i64 x2, .int .i64 x3]] w (Vc.Ret v w) :=
  Vc.pure_of (base_inl [103] (by kernel_rfl)) [(8, .inv [(6, 0), (7, 0)] [35] [36, 37, 38, 10, 39, 40, 41, 42, 43, 44, 45, 46, 47])] 200 Try.func55 (b := (Try.f55.body).getD .skip) (by kernel_rfl) [.cv (.one (.qsl 0 0 3 (.var 0) (.var 1))), .cv (.agg [.int .i64 (.var 2), .int .i64 (.var 3)])] ⟨4, 1, 0, 1, 0, 0, 0⟩ (Vc.envOf [x0, x1, x2, x3] [b0] [] [p0]) (by kernel_rfl) (by kernel_rfl) (by kernel_rfl) h

theorem vc_ullageref01_small (x0 : Int) (w : World) (v : Value) (h : 
    (((-2305843009213693952) ≤ x0) → (
      (.bool (decide (x0 ≤ 2305843009213693952)) : Value) = v)) ∧ (¬ ((-2305843009213693952) ≤ x0) → (
      (.bool false : Value) = v))) : Calls Try.prog 108 #[.int .i64 x0] w (Vc.Ret v w) :=
  Vc.pure_of base [] 200 Try.func108 (b := (Try.f108.body).getD .skip) (by kernel_rfl) [.cv (.one (.int .i64 (.var 0)))] ⟨1, 0, 0, 0, 0, 0, 0⟩ (Vc.envOf [x0] [] [] []) (by kernel_rfl) (by kernel_rfl) (by kernel_rfl) h

theorem vc_ullageref01_CheckTable (p0 : Nat × Nat) (x0 x1 : Int) (b0 : Bool) (w : World) (v : Value) (h : 
    (0 ≤ x0) ∧
    ((¬ (b0 = true)) ∨ (x0 = 0)) ∧
    ((x0 = 0) → (
      (.int .i64 2 : Value) = v)) ∧ (¬ (x0 = 0) → (
      (0 ≤ x0) ∧
      ((¬ (b0 = true)) ∨ (x0 = 0)) ∧
      ((64 < x0) → (
        (.int .i64 2 : Value) = v)) ∧ (¬ (64 < x0) → (
        ∃ (Ix2 : List Vc.Vl → Prop) (mx2 : List Vc.Vl → Nat), Ix2 [.i 0, .i 0] ∧ ∀ (x2 : Int) (x3 : Int), Ix2 [.i x2, .i x3] → (
          (0 ≤ x0) ∧
          ((¬ (b0 = true)) ∨ (x0 = 0)) ∧
          ((x3 < x0) → (
            (¬ (b0 = true)) ∧
            (0 ≤ x3) ∧
            (x3 < x0) ∧
            ∃ (x4 : Int), w.cell? ⟨p0.1, p0.2 + (Int.toNat x3) * 3 + 0, none⟩ = some (.int .i64 x4) ∧
            ∃ (b1 : Bool), (∀ w' : World, Below w.heap.size w w' → Calls Try.prog 108 #[.int .i64 x4] w' (Vc.Ret (.bool b1) w')) ∧
            (¬ (b0 = true)) ∧
            (0 ≤ x3) ∧
            (x3 < x0) ∧
            ∃ (x5 : Int), w.cell? ⟨p0.1, p0.2 + (Int.toNat x3) * 3 + 1, none⟩ = some (.int .i64 x5) ∧
            ∃ (b2 : Bool), (∀ w' : World, Below w.heap.size w w' → Calls Try.prog 108 #[.int .i64 x5] w' (Vc.Ret (.bool b2) w')) ∧
            (¬ (b0 = true)) ∧
            (0 ≤ x3) ∧
            (x3 < x0) ∧
            ∃ (x6 : Int), w.cell? ⟨p0.1, p0.2 + (Int.toNat x3) * 3 + 2, none⟩ = some (.int .i64 x6) ∧
            ∃ (b3 : Bool), (∀ w' : World, Below w.heap.size w w' → Calls Try.prog 108 #[.int .i64 x6] w' (Vc.Ret (.bool b3) w')) ∧
            ((b1 = true) → (
              ((b2 = true) → (
                ((b3 = true) → (
                  (¬ (b0 = true)) ∧
                  (0 ≤ x3) ∧
                  (x3 < x0) ∧
                  ∃ (x7 : Int), w.cell? ⟨p0.1, p0.2 + (Int.toNat x3) * 3 + 1, none⟩ = some (.int .i64 x7) ∧
                  ∃ (x8 : Int), w.cell? ⟨p0.1, p0.2 + (Int.toNat x3) * 3 + 2, none⟩ = some (.int .i64 x8) ∧
                  ∃ (x9 : Int), (∀ w' : World, Below w.heap.size w w' → Calls Try.prog 48 #[.agg #[.int .i64 x7, .int .i64 x8]] w' (Vc.Ret (.int .i64 x9) w')) ∧
                  ((x9 = 0) → (
                    ((0 < x3) → (
                      ∀ x10 : Int, x10 = IntKind.i64.wrap (x3 - 1) →
                      (¬ (b0 = true)) ∧
                      (0 ≤ x10) ∧
                      (x10 < x0) ∧
                      ∃ (x11 : Int), w.cell? ⟨p0.1, p0.2 + (Int.toNat x10) * 3 + 0, none⟩ = some (.int .i64 x11) ∧
                      (¬ (b0 = true)) ∧
                      (0 ≤ x3) ∧
                      (x3 < x0) ∧
                      ∃ (x12 : Int), w.cell? ⟨p0.1, p0.2 + (Int.toNat x3) * 3 + 0, none⟩ = some (.int .i64 x12) ∧
                      ((x12 ≤ x11) → (
                        (.int .i64 2 : Value) = v)) ∧ (¬ (x12 ≤ x11) → (
                        ∀ x13 : Int, x13 = IntKind.i64.wrap (x3 + 1) →
                        Ix2 [.i x2, .i x13] ∧ mx2 [.i x2, .i x13] < mx2 [.i x2, .i x3])))) ∧ (¬ (0 < x3) → (
                      ∀ x10 : Int, x10 = IntKind.i64.wrap (x3 + 1) →
                      Ix2 [.i x2, .i x10] ∧ mx2 [.i x2, .i x10] < mx2 [.i x2, .i x3])))) ∧ (¬ (x9 = 0) → (
                    (.int .i64 2 : Value) = v)))) ∧ (¬ (b3 = true) → (
                  (.int .i64 2 : Value) = v)))) ∧ (¬ (b2 = true) → (
                (.int .i64 2 : Value) = v)))) ∧ (¬ (b1 = true) → (
              (.int .i64 2 : Value) = v)))) ∧ (¬ (x3 < x0) → (
            (.int .i64 0 : Value) = v)))))))) : Calls Try.prog 58 #[(if b0 = true then .slice none 0 0 else .slice (some ⟨p0.1, p0.2, none⟩) (Int.toNat x0) (Int.toNat x1) : Value)] w (Vc.Ret v w) :=
  Vc.pure_of base [(4, .inv [] [2, 3] [15, 16, 17, 18, 21, 22, 23, 24, 25, 26, 4, 27, 28, 29, 30, 31, 32, 33, 5, 34, 35, 36, 37, 38, 39, 40, 6, 41, 42, 43, 44, 45, 46, 47, 48, 49, 50, 51, 52, 53, 54, 55, 56, 57, 58, 59, 60, 61, 62, 63, 64, 65, 66, 67, 68, 69, 70, 71, 72, 73, 74, 75, 76, 77, 19, 20])] 200 Try.func58 (b := (Try.f58.body).getD .skip) (by kernel_rfl) [.cv (.one (.qsl 0 0 3 (.var 0) (.var 1)))] ⟨2, 1, 0, 1, 0, 0, 0⟩ (Vc.envOf [x0, x1] [b0] [] [p0]) (by kernel_rfl) (by kernel_rfl) (by kernel_rfl) h

theorem vc_ullageref01_bound (x0 x1 x2 : Int) (b0 : Bool) (w : World) (v : Value) (h : 
    ((b0 = true) → (
      (.int .i64 x2 : Value) = v)) ∧ (¬ (b0 = true) → (
      (.int .i64 x1 : Value) = v))) : Calls Try.prog 134 #[.agg #[.int .i64 x0, .int .i64 x1, .int .i64 x2], .bool b0] w (Vc.Ret v w) :=
  Vc.pure_of base [] 200 Try.func134 (b := (Try.f134.body).getD .skip) (by kernel_rfl) [.cv (.agg [.int .i64 (.var 0), .int .i64 (.var 1), .int .i64 (.var 2)]), .cv (.one (.bool (.var 0)))] ⟨3, 1, 0, 0, 0, 0, 0⟩ (Vc.envOf [x0, x1, x2] [b0] [] []) (by kernel_rfl) (by kernel_rfl) (by kernel_rfl) h

theorem vc_ullageref01_line (p0 : Nat × Nat) (x0 x1 x2 : Int) (b0 b1 : Bool) (w : World) (v : Value) (h : 
    (¬ (b0 = true)) ∧
    (0 < x0) ∧
    ∃ (x3 : Int), w.cell? ⟨p0.1, p0.2 + (Int.toNat 0) * 3 + 0, none⟩ = some (.int .i64 x3) ∧
    ((x2 ≤ x3) → (
      (¬ (b0 = true)) ∧
      (0 < x0) ∧
      ∃ (x4 : Int), w.cell? ⟨p0.1, p0.2 + (Int.toNat 0) * 3 + 0, none⟩ = some (.int .i64 x4) ∧
      ∃ (x5 : Int), w.cell? ⟨p0.1, p0.2 + (Int.toNat 0) * 3 + 1, none⟩ = some (.int .i64 x5) ∧
      ∃ (x6 : Int), w.cell? ⟨p0.1, p0.2 + (Int.toNat 0) * 3 + 2, none⟩ = some (.int .i64 x6) ∧
      ∃ (x7 : Int), (∀ w' : World, Below w.heap.size w w' → Calls Try.prog 134 #[.agg #[.int .i64 x4, .int .i64 x5, .int .i64 x6], .bool b1] w' (Vc.Ret (.int .i64 x7) w')) ∧
      ∃ (x8 : Int), ∃ (x9 : Int), (∀ w' : World, Below w.heap.size w w' → Calls Try.prog 79 #[.int .i64 x7] w' (Vc.Ret (.agg #[.int .i64 x8, .int .u64 x9]) w')) ∧
      (.tuple #[.agg #[.int .i64 x8, .int .u64 x9], .agg #[.int .i64 x8, .int .u64 x9]] : Value) = v)) ∧ (¬ (x2 ≤ x3) → (
      ∃ (Ix4 : List Vc.Vl → Prop) (mx4 : List Vc.Vl → Nat), Ix4 [.i 1, .i 0, .i 0, .i 0, .i 0] ∧ ∀ (x4 : Int) (x5 : Int) (x6 : Int) (x7 : Int) (x8 : Int), Ix4 [.i x4, .i x5, .i x6, .i x7, .i x8] → (
        (0 ≤ x0) ∧
        ((¬ (b0 = true)) ∨ (x0 = 0)) ∧
        ((x4 < x0) → (
          (¬ (b0 = true)) ∧
          (0 ≤ x4) ∧
          (x4 < x0) ∧
          ∃ (x9 : Int), w.cell? ⟨p0.1, p0.2 + (Int.toNat x4) * 3 + 0, none⟩ = some (.int .i64 x9) ∧
          ((x9 < x2) → (
            ∀ x10 : Int, x10 = IntKind.i64.wrap (x4 + 1) →
            Ix4 [.i x10, .i x5, .i x6, .i x7, .i x8] ∧ mx4 [.i x10, .i x5, .i x6, .i x7, .i x8] < mx4 [.i x4, .i x5, .i x6, .i x7, .i x8])) ∧ (¬ (x9 < x2) → (
            ∀ x10 : Int, x10 = IntKind.i64.wrap (x4 - 1) →
            (¬ (b0 = true)) ∧
            (0 ≤ x10) ∧
            (x10 < x0) ∧
            ∃ (x11 : Int), w.cell? ⟨p0.1, p0.2 + (Int.toNat x10) * 3 + 0, none⟩ = some (.int .i64 x11) ∧
            ∃ (x12 : Int), w.cell? ⟨p0.1, p0.2 + (Int.toNat x10) * 3 + 1, none⟩ = some (.int .i64 x12) ∧
            ∃ (x13 : Int), w.cell? ⟨p0.1, p0.2 + (Int.toNat x10) * 3 + 2, none⟩ = some (.int .i64 x13) ∧
            ∃ (x14 : Int), (∀ w' : World, Below w.heap.size w w' → Calls Try.prog 134 #[.agg #[.int .i64 x11, .int .i64 x12, .int .i64 x13], .bool b1] w' (Vc.Ret (.int .i64 x14) w')) ∧
            (¬ (b0 = true)) ∧
            (0 ≤ x4) ∧
            (x4 < x0) ∧
            ∃ (x15 : Int), w.cell? ⟨p0.1, p0.2 + (Int.toNat x4) * 3 + 0, none⟩ = some (.int .i64 x15) ∧
            ∃ (x16 : Int), w.cell? ⟨p0.1, p0.2 + (Int.toNat x4) * 3 + 1, none⟩ = some (.int .i64 x16) ∧
            ∃ (x17 : Int), w.cell? ⟨p0.1, p0.2 + (Int.toNat x4) * 3 + 2, none⟩ = some (.int .i64 x17) ∧
            ∃ (x18 : Int), (∀ w' : World, Below w.heap.size w w' → Calls Try.prog 134 #[.agg #[.int .i64 x15, .int .i64 x16, .int .i64 x17], .bool b1] w' (Vc.Ret (.int .i64 x18) w')) ∧
            ∀ x19 : Int, x19 = IntKind.i64.wrap (x18 - x14) →
            ∀ x20 : Int, x20 = IntKind.i64.wrap (x4 - 1) →
            (¬ (b0 = true)) ∧
            (0 ≤ x20) ∧
            (x20 < x0) ∧
            ∃ (x21 : Int), w.cell? ⟨p0.1, p0.2 + (Int.toNat x20) * 3 + 0, none⟩ = some (.int .i64 x21) ∧
            ∀ x22 : Int, x22 = IntKind.i64.wrap (x2 - x21) →
            ∃ (x23 : Int), ∃ (x24 : Int), (∀ w' : World, Below w.heap.size w w' → Calls Try.prog 90 #[.int .i64 x19, .int .i64 x22] w' (Vc.Ret (.agg #[.int .i64 x23, .int .u64 x24]) w')) ∧
            (¬ (b0 = true)) ∧
            (0 ≤ x4) ∧
            (x4 < x0) ∧
            ∃ (x25 : Int), w.cell? ⟨p0.1, p0.2 + (Int.toNat x4) * 3 + 0, none⟩ = some (.int .i64 x25) ∧
            ∀ x26 : Int, x26 = IntKind.i64.wrap (x4 - 1) →
            (¬ (b0 = true)) ∧
            (0 ≤ x26) ∧
            (x26 < x0) ∧
            ∃ (x27 : Int), w.cell? ⟨p0.1, p0.2 + (Int.toNat x26) * 3 + 0, none⟩ = some (.int .i64 x27) ∧
            ∀ x28 : Int, x28 = IntKind.i64.wrap (x25 - x27) →
            ∃ (x29 : Int), ∃ (x30 : Int), (∀ w' : World, Below w.heap.size w w' → Calls Try.prog 79 #[.int .i64 x28] w' (Vc.Ret (.agg #[.int .i64 x29, .int .u64 x30]) w')) ∧
            ∃ (x31 : Int), ∃ (x32 : Int), (∀ w' : World, Below w.heap.size w w' → Calls Try.prog 79 #[.int .i64 x14] w' (Vc.Ret (.agg #[.int .i64 x31, .int .u64 x32]) w')) ∧
            ∃ (x33 : Int), ∃ (x34 : Int), (∀ w' : World, Below w.heap.size w w' → Calls Try.prog 80 #[.agg #[.int .i64 x23, .int .u64 x24], .agg #[.int .i64 x29, .int .u64 x30]] w' (Vc.Ret (.agg #[.int .i64 x33, .int .u64 x34]) w')) ∧
            ∃ (x35 : Int), ∃ (x36 : Int), (∀ w' : World, Below w.heap.size w w' → Calls Try.prog 78 #[.agg #[.int .i64 x31, .int .u64 x32], .agg #[.int .i64 x33, .int .u64 x34]] w' (Vc.Ret (.agg #[.int .i64 x35, .int .u64 x36]) w')) ∧
            ∃ (x37 : Int), ∃ (x38 : Int), (∀ w' : World, Below w.heap.size w w' → Calls Try.prog 79 #[.int .i64 x14] w' (Vc.Ret (.agg #[.int .i64 x37, .int .u64 x38]) w')) ∧
            ∃ (x39 : Int), ∃ (x40 : Int), (∀ w' : World, Below w.heap.size w w' → Calls Try.prog 130 #[.agg #[.int .i64 x23, .int .u64 x24], .agg #[.int .i64 x29, .int .u64 x30]] w' (Vc.Ret (.agg #[.int .i64 x39, .int .u64 x40]) w')) ∧
            ∃ (x41 : Int), ∃ (x42 : Int), (∀ w' : World, Below w.heap.size w w' → Calls Try.prog 78 #[.agg #[.int .i64 x37, .int .u64 x38], .agg #[.int .i64 x39, .int .u64 x40]] w' (Vc.Ret (.agg #[.int .i64 x41, .int .u64 x42]) w')) ∧
            (.tuple #[.agg #[.int .i64 x35, .int .u64 x36], .agg #[.int .i64 x41, .int .u64 x42]] : Value) = v)))) ∧ (¬ (x4 < x0) → (
          (0 ≤ x0) ∧
          ((¬ (b0 = true)) ∨ (x0 = 0)) ∧
          ∀ x9 : Int, x9 = IntKind.i64.wrap (x0 - 1) →
          (¬ (b0 = true)) ∧
          (0 ≤ x9) ∧
          (x9 < x0) ∧
          ∃ (x10 : Int), w.cell? ⟨p0.1, p0.2 + (Int.toNat x9) * 3 + 0, none⟩ = some (.int .i64 x10) ∧
          ∃ (x11 : Int), w.cell? ⟨p0.1, p0.2 + (Int.toNat x9) * 3 + 1, none⟩ = some (.int .i64 x11) ∧
          ∃ (x12 : Int), w.cell? ⟨p0.1, p0.2 + (Int.toNat x9) * 3 + 2, none⟩ = some (.int .i64 x12) ∧
          ∃ (x13 : Int), (∀ w' : World, Below w.heap.size w w' → Calls Try.prog 134 #[.agg #[.int .i64 x10, .int .i64 x11, .int .i64 x12], .bool b1] w' (Vc.Ret (.int .i64 x13) w')) ∧
          ∃ (x14 : Int), ∃ (x15 : Int), (∀ w' : World, Below w.heap.size w w' → Calls Try.prog 79 #[.int .i64 x13] w' (Vc.Ret (.agg #[.int .i64 x14, .int .u64 x15]) w')) ∧
          (.tuple #[.agg #[.int .i64 x14, .int .u64 x15], .agg #[.int .i64 x14, .int .u64 x15]] : Value) = v)))))) : Calls Try.prog 107 #[(if b0 = true then .slice none 0 0 else .slice (some ⟨p0.1, p0.2, none⟩) (Int.toNat x0) (Int.toNat x1) : Value), .bool b1, .int .i64 x2] w (Vc.Ret v w) :=
  Vc.pure_of base [(5, .inv [(6, 0), (6, 1), (7, 0), (7, 1)] [9] [29, 30, 31, 32, 35, 36, 37, 38, 39, 40, 41, 42, 43, 44, 45, 46, 47, 48, 10, 49, 50, 51, 52, 53, 54, 11, 55, 56, 57, 58, 59, 60, 61, 62, 63, 64, 65, 66, 12, 67, 68, 69, 70, 71, 72, 73, 74, 75, 76, 77, 78, 79, 13, 80, 81, 82, 83, 84, 85, 86, 87, 88, 89, 90, 91, 33, 34])] 200 Try.func107 (b := (Try.f107.body).getD .skip) (by kernel_rfl) [.cv (.one (.qsl 0 0 3 (.var 0) (.var 1))), .cv (.one (.bool (.var 1))), .cv (.one (.int .i64 (.var 2)))] ⟨3, 2, 0, 1, 0, 0, 0⟩ (Vc.envOf [x0, x1, x2] [b0, b1] [] [p0]) (by kernel_rfl) (by kernel_rfl) (by kernel_rfl) h

theorem vc_ullageref01_Look (p0 : Nat × Nat) (x0 x1 x2 x3 : Int) (b0 : Bool) (w : World) (v : Value) (h : 
    ∃ (x4 : Int), (∀ w' : World, Below w.heap.size w w' → Calls Try.prog 58 #[(if b0 = true then .slice none 0 0 else .slice (some ⟨p0.1, p0.2, none⟩) (Int.toNat x0) (Int.toNat x1) : Value)] w' (Vc.Ret (.int .i64 x4) w')) ∧
    ((x4 = 0) → (
      ∃ (x5 : Int), (∀ w' : World, Below w.heap.size w w' → Calls Try.prog 48 #[.agg #[.int .i64 x2, .int .i64 x3]] w' (Vc.Ret (.int .i64 x5) w')) ∧
      ((x5 = 0) → (
        ∃ (Io6 : List Vc.Vl → Prop) (mo6 : List Vc.Vl → Nat), Io6 [.l (([.int .i64 x2, .int .i64 x3] : List Value)), .i 0] ∧ ∀ (l0 : List Vc.OV) (x6 : Int), Io6 [.l ((l0.map (·.1) ++ (([] : List Value)))), .i x6] → (
          (0 ≤ x0) ∧
          ((¬ (b0 = true)) ∨ (x0 = 0)) ∧
          ((x6 < x0) → (
            (¬ (b0 = true)) ∧
            (0 ≤ x6) ∧
            (x6 < x0) ∧
            ∃ (x7 : Int), w.cell? ⟨p0.1, p0.2 + (Int.toNat x6) * 3 + 0, none⟩ = some (.int .i64 x7) ∧
            ((x2 ≤ x7) → (
              (¬ (b0 = true)) ∧
              (0 ≤ x6) ∧
              (x6 < x0) ∧
              ∃ (x8 : Int), w.cell? ⟨p0.1, p0.2 + (Int.toNat x6) * 3 + 0, none⟩ = some (.int .i64 x8) ∧
              ((x8 ≤ x3) → (
                (¬ (b0 = true)) ∧
                (0 ≤ x6) ∧
                (x6 < x0) ∧
                ∃ (x9 : Int), w.cell? ⟨p0.1, p0.2 + (Int.toNat x6) * 3 + 0, none⟩ = some (.int .i64 x9) ∧
                ∀ x10 : Int, x10 = (((1 + (l0.length + 0)) / 1 : Nat) : Int) →
                (x10 ≤ 1073741824) ∧
                ∀ x11 : Int, x11 = IntKind.i64.wrap (x6 + 1) →
                Io6 [.l ((l0.map (·.1) ++ (([.int .i64 x9] : List Value)))), .i x11] ∧ mo6 [.l ((l0.map (·.1) ++ (([.int .i64 x9] : List Value)))), .i x11] < mo6 [.l ((l0.map (·.1) ++ (([] : List Value)))), .i x6])) ∧ (¬ (x8 ≤ x3) → (
                ∀ x9 : Int, x9 = IntKind.i64.wrap (x6 + 1) →
                Io6 [.l ((l0.map (·.1) ++ (([] : List Value)))), .i x9] ∧ mo6 [.l ((l0.map (·.1) ++ (([] : List Value)))), .i x9] < mo6 [.l ((l0.map (·.1) ++ (([] : List Value)))), .i x6])))) ∧ (¬ (x2 ≤ x7) → (
              ∀ x8 : Int, x8 = IntKind.i64.wrap (x6 + 1) →
              Io6 [.l ((l0.map (·.1) ++ (([] : List Value)))), .i x8] ∧ mo6 [.l ((l0.map (·.1) ++ (([] : List Value)))), .i x8] < mo6 [.l ((l0.map (·.1) ++ (([] : List Value)))), .i x6])))) ∧ (¬ (x6 < x0) → (
            ∃ (Ix7 : List Vc.Vl → Prop) (mx7 : List Vc.Vl → Nat), Ix7 [.i 0, .i 0, .i 0, .i 0, .i 0] ∧ ∀ (x7 : Int) (x8 : Int) (x9 : Int) (x10 : Int) (x11 : Int), Ix7 [.i x7, .i x8, .i x9, .i x10, .i x11] → (
              ∀ x12 : Int, x12 = (((0 + (l0.length + 0)) / 1 : Nat) : Int) →
              ((x7 < x12) → (
                ∀ x13 : Int, x13 = (((0 + (l0.length + 0)) / 1 : Nat) : Int) →
                (0 ≤ x7) ∧
                (x7 < x13) ∧
                ∃ (x14 : Int), ((l0.map (·.1) ++ (([] : List Value))))[(Int.toNat x7) * 1 + 0]? = some (.int .i64 x14) ∧
                ∃ (x15 : Int), ∃ (x16 : Int), ∃ (x17 : Int), ∃ (x18 : Int), (∀ w' : World, Below w.heap.size w w' → Calls Try.prog 107 #[(if b0 = true then .slice none 0 0 else .slice (some ⟨p0.1, p0.2, none⟩) (Int.toNat x0) (Int.toNat x1) : Value), .bool false, .int .i64 x14] w' (Vc.Ret (.tuple #[.agg #[.int .i64 x15, .int .u64 x16], .agg #[.int .i64 x17, .int .u64 x18]]) w')) ∧
                ∀ x19 : Int, x19 = (((0 + (l0.length + 0)) / 1 : Nat) : Int) →
                (0 ≤ x7) ∧
                (x7 < x19) ∧
                ∃ (x20 : Int), ((l0.map (·.1) ++ (([] : List Value))))[(Int.toNat x7) * 1 + 0]? = some (.int .i64 x20) ∧
                ∃ (x21 : Int), ∃ (x22 : Int), ∃ (x23 : Int), ∃ (x24 : Int), (∀ w' : World, Below w.heap.size w w' → Calls Try.prog 107 #[(if b0 = true then .slice none 0 0 else .slice (some ⟨p0.1, p0.2, none⟩) (Int.toNat x0) (Int.toNat x1) : Value), .bool true, .int .i64 x20] w' (Vc.Ret (.tuple #[.agg #[.int .i64 x21, .int .u64 x22], .agg #[.int .i64 x23, .int .u64 x24]]) w')) ∧
                ((x7 = 0) → (
                  ((x7 = 0) → (
                    ∀ x25 : Int, x25 = IntKind.i64.wrap (x7 + 1) →
                    Ix7 [.i x25, .i x15, .i x16, .i x23, .i x24] ∧ mx7 [.i x25, .i x15, .i x16, .i x23, .i x24] < mx7 [.i x7, .i x8, .i x9, .i x10, .i x11])) ∧ (¬ (x7 = 0) → (
                    ∃ (b1 : Bool), (∀ w' : World, Below w.heap.size w w' → Calls Try.prog 83 #[.agg #[.int .i64 x10, .int .u64 x11], .agg #[.int .i64 x23, .int .u64 x24]] w' (Vc.Ret (.bool b1) w')) ∧
                    ((b1 = true) → (
                      ∀ x25 : Int, x25 = IntKind.i64.wrap (x7 + 1) →
                      Ix7 [.i x25, .i x15, .i x16, .i x23, .i x24] ∧ mx7 [.i x25, .i x15, .i x16, .i x23, .i x24] < mx7 [.i x7, .i x8, .i x9, .i x10, .i x11])) ∧ (¬ (b1 = true) → (
                      ∀ x25 : Int, x25 = IntKind.i64.wrap (x7 + 1) →
                      Ix7 [.i x25, .i x15, .i x16, .i x10, .i x11] ∧ mx7 [.i x25, .i x15, .i x16, .i x10, .i x11] < mx7 [.i x7, .i x8, .i x9, .i x10, .i x11])))))) ∧ (¬ (x7 = 0) → (
                  ∃ (b1 : Bool), (∀ w' : World, Below w.heap.size w w' → Calls Try.prog 83 #[.agg #[.int .i64 x15, .int .u64 x16], .agg #[.int .i64 x8, .int .u64 x9]] w' (Vc.Ret (.bool b1) w')) ∧
                  ((b1 = true) → (
                    ((x7 = 0) → (
                      ∀ x25 : Int, x25 = IntKind.i64.wrap (x7 + 1) →
                      Ix7 [.i x25, .i x15, .i x16, .i x23, .i x24] ∧ mx7 [.i x25, .i x15, .i x16, .i x23, .i x24] < mx7 [.i x7, .i x8, .i x9, .i x10, .i x11])) ∧ (¬ (x7 = 0) → (
                      ∃ (b2 : Bool), (∀ w' : World, Below w.heap.size w w' → Calls Try.prog 83 #[.agg #[.int .i64 x10, .int .u64 x11], .agg #[.int .i64 x23, .int .u64 x24]] w' (Vc.Ret (.bool b2) w')) ∧
                      ((b2 = true) → (
                        ∀ x25 : Int, x25 = IntKind.i64.wrap (x7 + 1) →
                        Ix7 [.i x25, .i x15, .i x16, .i x23, .i x24] ∧ mx7 [.i x25, .i x15, .i x16, .i x23, .i x24] < mx7 [.i x7, .i x8, .i x9, .i x10, .i x11])) ∧ (¬ (b2 = true) → (
                        ∀ x25 : Int, x25 = IntKind.i64.wrap (x7 + 1) →
                        Ix7 [.i x25, .i x15, .i x16, .i x10, .i x11] ∧ mx7 [.i x25, .i x15, .i x16, .i x10, .i x11] < mx7 [.i x7, .i x8, .i x9, .i x10, .i x11])))))) ∧ (¬ (b1 = true) → (
                    ((x7 = 0) → (
                      ∀ x25 : Int, x25 = IntKind.i64.wrap (x7 + 1) →
                      Ix7 [.i x25, .i x8, .i x9, .i x23, .i x24] ∧ mx7 [.i x25, .i x8, .i x9, .i x23, .i x24] < mx7 [.i x7, .i x8, .i x9, .i x10, .i x11])) ∧ (¬ (x7 = 0) → (
                      ∃ (b2 : Bool), (∀ w' : World, Below w.heap.size w w' → Calls Try.prog 83 #[.agg #[.int .i64 x10, .int .u64 x11], .agg #[.int .i64 x23, .int .u64 x24]] w' (Vc.Ret (.bool b2) w')) ∧
                      ((b2 = true) → (
                        ∀ x25 : Int, x25 = IntKind.i64.wrap (x7 + 1) →
                        Ix7 [.i x25, .i x8, .i x9, .i x23, .i x24] ∧ mx7 [.i x25, .i x8, .i x9, .i x23, .i x24] < mx7 [.i x7, .i x8, .i x9, .i x10, .i x11])) ∧ (¬ (b2 = true) → (
                        ∀ x25 : Int, x25 = IntKind.i64.wrap (x7 + 1) →
                        Ix7 [.i x25, .i x8, .i x9, .i x10, .i x11] ∧ mx7 [.i x25, .i x8, .i x9, .i x10, .i x11] < mx7 [.i x7, .i x8, .i x9, .i x10, .i x11])))))))))) ∧ (¬ (x7 < x12) → (
                ∃ (x13 : Int), ∃ (x14 : Int), ∃ (x15 : Int), (∀ w' : World, Below w.heap.size w w' → Calls Try.prog 77 #[.agg #[.int .i64 x8, .int .u64 x9], .agg #[.int .i64 x10, .int .u64 x11]] w' (Vc.Ret (.tuple #[.agg #[.int .i64 x13, .int .i64 x14], .int .i64 x15]) w')) ∧
                (.tuple #[.agg #[.int .i64 x13, .int .i64 x14], .int .i64 x15] : Value) = v)))))))) ∧ (¬ (x5 = 0) → (
        (.tuple #[.agg #[.int .i64 0, .int .i64 0], .int .i64 2] : Value) = v)))) ∧ (¬ (x4 = 0) → (
      (.tuple #[.agg #[.int .i64 0, .int .i64 0], .int .i64 2] : Value) = v))) : Calls Try.prog 56 #[(if b0 = true then .slice none 0 0 else .slice (some ⟨p0.1, p0.2, none⟩) (Int.toNat x0) (Int.toNat x1) : Value), .agg #[.int .i64 x2, .int .i64 x3]] w (Vc.Ret v w) :=
  Vc.pure_of base [(5, .inv [] [6, 7] [29, 30, 31, 32, 35, 36, 37, 38, 39, 40, 41, 42, 43, 44, 45, 46, 47, 48, 49, 50, 51, 52, 53, 54, 55, 56, 57, 58, 59, 60, 33, 34]), (12, .inv [(8, 0), (8, 1), (9, 0), (9, 1)] [10] [63, 64, 65, 66, 70, 71, 72, 73, 74, 75, 69, 76, 77, 11, 12, 79, 80, 81, 82, 83, 84, 78, 85, 86, 13, 14, 87, 88, 89, 90, 91, 92, 93, 94, 95, 96, 97, 98, 99, 100, 101, 102, 67, 68]), (2100028, .unroll)] 200 Try.func56 (b := (Try.f56.body).getD .skip) (by kernel_rfl) [.cv (.one (.qsl 0 0 3 (.var 0) (.var 1))), .cv (.agg [.int .i64 (.var 2), .int .i64 (.var 3)])] ⟨4, 1, 0, 1, 0, 0, 0⟩ (Vc.envOf [x0, x1, x2, x3] [b0] [] [p0]) (by kernel_rfl) (by kernel_rfl) (by kernel_rfl) h

theorem vc_ullagelaw01_SpanTables (p0 : Nat × Nat) (x0 x1 x2 x3 : Int) (b0 : Bool) (w : World) (v : Value) (h : 
    (0 ≤ x0) ∧
    ((¬ (b0 = true)) ∨ (x0 = 0)) ∧
    ((70 < x0) → (
      (.bool true : Value) = v)) ∧ (¬ (70 < x0) → (
      ∃ l0 : List Vc.OV, Vc.SlAt w ((if b0 = true then .slice none 0 0 else .slice (some ⟨p0.1, p0.2, none⟩) (Int.toNat x0) (Int.toNat x1) : Value)) 3 (l0.map (·.1)) ∧
      ∀ x4 : Int, x4 = (((0 + (l0.length + 0)) / 3 : Nat) : Int) →
      (x4 ≤ 1073741824) ∧
      ∃ (x5 : Int), ∃ (x6 : Int), ∃ (x7 : Int), (∀ (β : Nat → Nat) (w' : World), Below w.heap.size w w' → (Vc.RowOk w.heap.size (β 5) (β 6) (β 7) (β 8) ((l0.map (·.1) ++ (([] : List Value)))) 3 64 w' ∧ True) → Calls Try.prog 55 #[Vc.ownV (β 5) (β 6) (β 7) (β 8), .agg #[.int .i64 x2, .int .i64 x3]] w' (Vc.Ret (.tuple #[.agg #[.int .i64 x5, .int .i64 x6], .int .i64 x7]) w')) ∧
      ∃ (x8 : Int), ∃ (x9 : Int), ∃ (x10 : Int), (∀ w' : World, Below w.heap.size w w' → Calls Try.prog 56 #[(if b0 = true then .slice none 0 0 else .slice (some ⟨p0.1, p0.2, none⟩) (Int.toNat x0) (Int.toNat x1) : Value), .agg #[.int .i64 x2, .int .i64 x3]] w' (Vc.Ret (.tuple #[.agg #[.int .i64 x8, .int .i64 x9], .int .i64 x10]) w')) ∧
      (0 ≤ x0) ∧
      ((¬ (b0 = true)) ∨ (x0 = 0)) ∧
      ∃ (Ib1 : List Vc.Vl → Prop) (mb1 : List Vc.Vl → Nat), Ib1 [.b false, .i 0] ∧ ∀ (b1 : Bool) (x11 : Int), Ib1 [.b b1, .i x11] → (
        ((x11 < x0) → (
          ∀ x12 : Int, x12 = (((0 + (l0.length + 0)) / 3 : Nat) : Int) →
          (0 ≤ x11) ∧
          (x11 < x12) ∧
          ∃ (x13 : Int), ((l0.map (·.1) ++ (([] : List Value))))[(Int.toNat x11) * 3 + 0]? = some (.int .i64 x13) ∧
          ∃ (x14 : Int), ((l0.map (·.1) ++ (([] : List Value))))[(Int.toNat x11) * 3 + 1]? = some (.int .i64 x14) ∧
          ∃ (x15 : Int), ((l0.map (·.1) ++ (([] : List Value))))[(Int.toNat x11) * 3 + 2]? = some (.int .i64 x15) ∧
          (¬ (b0 = true)) ∧
          (0 ≤ x11) ∧
          (x11 < x0) ∧
          ∃ (x16 : Int), w.cell? ⟨p0.1, p0.2 + (Int.toNat x11) * 3 + 0, none⟩ = some (.int .i64 x16) ∧
          ∃ (x17 : Int), w.cell? ⟨p0.1, p0.2 + (Int.toNat x11) * 3 + 1, none⟩ = some (.int .i64 x17) ∧
          ∃ (x18 : Int), w.cell? ⟨p0.1, p0.2 + (Int.toNat x11) * 3 + 2, none⟩ = some (.int .i64 x18) ∧
          (((x13 = x16) ∧ ((x14 = x17) ∧ (x15 = x18))) → (
            ∀ x19 : Int, x19 = IntKind.i64.wrap (x11 + 1) →
            Ib1 [.b b1, .i x19] ∧ mb1 [.b b1, .i x19] < mb1 [.b b1, .i x11])) ∧ (¬ ((x13 = x16) ∧ ((x14 = x17) ∧ (x15 = x18))) → (
            (.bool false : Value) = v)))) ∧ (¬ (x11 < x0) → (
          ∃ (x12 : Int), (∀ w' : World, Below w.heap.size w w' → Calls Try.prog 57 #[(if b0 = true then .slice none 0 0 else .slice (some ⟨p0.1, p0.2, none⟩) (Int.toNat x0) (Int.toNat x1) : Value)] w' (Vc.Ret (.int .i64 x12) w')) ∧
          ∃ (x13 : Int), (∀ w' : World, Below w.heap.size w w' → Calls Try.prog 58 #[(if b0 = true then .slice none 0 0 else .slice (some ⟨p0.1, p0.2, none⟩) (Int.toNat x0) (Int.toNat x1) : Value)] w' (Vc.Ret (.int .i64 x13) w')) ∧
          ((x12 = x13) → (
            ∃ (b2 : Bool), (∀ w' : World, Below w.heap.size w w' → Calls Try.prog 32 #[.agg #[.int .i64 x5, .int .i64 x6], .int .i64 x7, .agg #[.int .i64 x8, .int .i64 x9], .int .i64 x10] w' (Vc.Ret (.bool b2) w')) ∧
            (.bool b2 : Value) = v)) ∧ (¬ (x12 = x13) → (
            (.bool false : Value) = v)))))))) : Calls Try.prog 9 #[(if b0 = true then .slice none 0 0 else .slice (some ⟨p0.1, p0.2, none⟩) (Int.toNat x0) (Int.toNat x1) : Value), .agg #[.int .i64 x2, .int .i64 x3]] w (Vc.Ret v w) :=
  Vc.pure_of base [(7, .inv [] [4, 31] [32, 33, 10, 34, 35, 36, 37, 38, 39, 40, 41, 42, 43])] 200 Try.func9 (b := (Try.f9.body).getD .skip) (by kernel_rfl) [.cv (.one (.qsl 0 0 3 (.var 0) (.var 1))), .cv (.agg [.int .i64 (.var 2), .int .i64 (.var 3)])] ⟨4, 1, 0, 1, 0, 0, 0⟩ (Vc.envOf [x0, x1, x2, x3] [b0] [] [p0]) (by kernel_rfl) (by kernel_rfl) (by kernel_rfl) h

end Go.Proofs.Ytdhiapllbjamfaa
