/- What the walks of functions come to (written by program). -/
import Derived.Test.YtbpcdmjjdnjmbaaGreatNoG1
set_option linter.unusedVariables false
set_option maxRecDepth 100000
namespace Go.Proofs.YtbpcdmjjdnjmbaaGreat
open Go Go.RowKit
theorem vc___safety_Unit__Doubt (p0 : Nat × Nat) (w : World) (v : Value) (h : 
  ∃ (x0 : Int), w.cell? ⟨p0.1, p0.2 + (Int.toNat 0) * 12 + 11, none⟩ = some (.int .i64 x0) ∧
  (.int .i64 x0 : Value) = v) : Calls Tryz.prog 29 #[.pointer (some ⟨p0.1, p0.2 + (Int.toNat 0) * 12 + 0, none⟩)] w (Vc.Ret v w) :=
  Vc.pure_of base [] 200 Tryz.func29 (b := (Tryz.f29.body).getD .skip) (by kernel_rfl) [.cv (.one (.ext 0 (.lit (0)) 12 0))] ⟨0, 0, 0, 1, 0, 0, 0⟩ (Vc.envOf [] [] [] [p0]) (by kernel_rfl) (by kernel_rfl) (by kernel_rfl) h

theorem vc_ullagelaw09_SafetyNone (p0 p1 p2 p3 : Nat × Nat) (x0 x1 x2 x3 x4 x5 x6 x7 x8 x9 x10 x11 : Int) (b0 b1 b2 b3 : Bool) (s0 : List UInt8) (w : World) (v : Value) (h : 
  ∃ (b4 : Bool), ∃ (x12 : Int), ∃ (b5 : Bool), ∃ (x13 : Int), ∃ (x14 : Int), ∃ (x15 : Int), ∃ (x16 : Int), ∃ (x17 : Int), (∀ w' : World, Below w.heap.size w w' → Calls Tryz.prog 27 #[.pointer none, .agg #[.int .i64 0, .int .i64 0, .int .i64 0, .int .i64 0], .bool true] w' (Vc.Ret (.tuple #[.agg #[.bool b4, .int .i64 x12, .bool b5, .int .i64 x13, .int .i64 x14, .int .i64 x15, .int .i64 x16], .int .i64 x17]) w')) ∧
  (((¬ (b4 = true)) ∧ ((x12 = 0) ∧ ((¬ (b5 = true)) ∧ ((x13 = 0) ∧ ((x14 = 0) ∧ ((x15 = 0) ∧ (x16 = 0))))))) → (
  ((x17 = 1) → (
  ∃ (x18 : Int), (∀ w' : World, Below w.heap.size w w' → Calls Tryz.prog 26 #[.pointer none] w' (Vc.Ret (.int .i64 x18) w')) ∧
  ((x18 = 1) → (
  ∃ (x19 : Int), (∀ w' : World, Below w.heap.size w w' → Calls Tryz.prog 29 #[.pointer none] w' (Vc.Ret (.int .i64 x19) w')) ∧
  ((x19 = 0) → (
  ∃ (b6 : Bool), ∃ (x20 : Int), ∃ (b7 : Bool), ∃ (x21 : Int), ∃ (x22 : Int), ∃ (x23 : Int), ∃ (x24 : Int), ∃ (x25 : Int), ∃ (b8 : Bool), ∃ (b9 : Bool), ∃ (x26 : Int), ∃ (x27 : Int), ∃ (x28 : Int), ∃ (x29 : Int), ∃ (x30 : Int), (∀ (β : Nat → Nat) (w' : World), Below w.heap.size w w' → ((w.heap.size ≤ β 1 ∧ w'.heap[β 1]? = some (.cells #[.string ⟨(([] : List UInt8)).toArray⟩, .slice none 0 0, .int .i64 0, .int .i64 0, .bool false, .bool false, .bool false, .int .i64 0, .int .i64 0, .int .i64 0, .int .i64 0, .int .i64 0] 76)) ∧ True) → Calls Tryz.prog 27 #[Vc.ptr (β 1) 0, .agg #[.int .i64 0, .int .i64 0, .int .i64 0, .int .i64 0], .bool true] w' (Vc.Eff (.tuple #[.agg #[.bool b6, .int .i64 x20, .bool b7, .int .i64 x21, .int .i64 x22, .int .i64 x23, .int .i64 x24], .int .i64 x25]) (β 1) #[.string ⟨(([] : List UInt8)).toArray⟩, .slice none 0 0, .int .i64 0, .int .i64 0, .bool false, .bool b8, .bool b9, .int .i64 x26, .int .i64 x27, .int .i64 x28, .int .i64 x29, .int .i64 x30] 76 w')) ∧
  (((¬ (b6 = true)) ∧ ((x20 = 0) ∧ ((¬ (b7 = true)) ∧ ((x21 = 0) ∧ ((x22 = 0) ∧ ((x23 = 0) ∧ (x24 = 0))))))) → (
  ((x25 = 1) → (
  ∃ (x31 : Int), ∃ (b10 : Bool), (∀ (β : Nat → Nat) (w' : World), Below w.heap.size w w' → ((w.heap.size ≤ β 1 ∧ w'.heap[β 1]? = some (.cells #[.string ⟨(([] : List UInt8)).toArray⟩, .slice none 0 0, .int .i64 0, .int .i64 0, .bool false, .bool b8, .bool b9, .int .i64 x26, .int .i64 x27, .int .i64 x28, .int .i64 x29, .int .i64 x30] 76)) ∧ True) → Calls Tryz.prog 26 #[Vc.ptr (β 1) 0] w' (Vc.Eff (.int .i64 x31) (β 1) #[.string ⟨(([] : List UInt8)).toArray⟩, .slice none 0 0, .int .i64 0, .int .i64 0, .bool false, .bool b10, .bool b9, .int .i64 x26, .int .i64 x27, .int .i64 x28, .int .i64 x29, .int .i64 x30] 76 w')) ∧
  ((x31 = 1) → (
  ∃ (x32 : Int), (∀ (β : Nat → Nat) (w' : World), Below w.heap.size w w' → ((w.heap.size ≤ β 1 ∧ w'.heap[β 1]? = some (.cells #[.string ⟨(([] : List UInt8)).toArray⟩, .slice none 0 0, .int .i64 0, .int .i64 0, .bool false, .bool b10, .bool b9, .int .i64 x26, .int .i64 x27, .int .i64 x28, .int .i64 x29, .int .i64 x30] 76)) ∧ True) → Calls Tryz.prog 29 #[Vc.ptr (β 1) 0] w' (Vc.Ret (.int .i64 x32) w')) ∧
  ((x32 = 0) → (
  ∃ (b11 : Bool), (∀ w' : World, Below w.heap.size w w' → Calls Tryz.prog 15 #[.agg #[.string ⟨s0.toArray⟩, (if b0 = true then .slice none 0 0 else .slice (some (Vc.qad p0 (Int.toNat x0) (Int.toNat x1))) (Int.toNat x0) (Int.toNat x1) : Value), (if b1 = true then .slice none 0 0 else .slice (some (Vc.qad p1 (Int.toNat x2) (Int.toNat x3))) (Int.toNat x2) (Int.toNat x3) : Value), (if b2 = true then .slice none 0 0 else .slice (some (Vc.qad p2 (Int.toNat x4) (Int.toNat x5))) (Int.toNat x4) (Int.toNat x5) : Value), .int .i64 x6, .int .i64 x7, .int .i64 x8, .int .i64 x9]] w' (Vc.Ret (.bool b11) w')) ∧
  ((b11 = true) → (
  ∃ (b12 : Bool), (∀ w' : World, Below w.heap.size w w' → Calls Tryz.prog 10 #[] w' (Vc.Ret (.bool b12) w')) ∧
  (.bool b12 : Value) = v)) ∧ (¬ (b11 = true) → (
  (0 ≤ x10) ∧
  ((¬ (b3 = true)) ∨ (x10 = 0)) ∧
  ((100 < x10) → (
  ∃ (b12 : Bool), (∀ w' : World, Below w.heap.size w w' → Calls Tryz.prog 10 #[] w' (Vc.Ret (.bool b12) w')) ∧
  (.bool b12 : Value) = v)) ∧ (¬ (100 < x10) → (
  ∃ l0 : List Vc.OV, Vc.SlAt w ((if b0 = true then .slice none 0 0 else .slice (some (Vc.qad p0 (Int.toNat x0) (Int.toNat x1))) (Int.toNat x0) (Int.toNat x1) : Value)) 2 (l0.map (·.1)) ∧
  ∀ x33 : Int, x33 = (((0 + (l0.length + 0)) / 2 : Nat) : Int) →
  (x33 ≤ 1073741824) ∧
  ∃ (b12 : Bool), (∀ (β : Nat → Nat) (w' : World), Below w.heap.size w w' → (Vc.RowOk w.heap.size (β 10) (β 11) (β 12) (β 13) ((l0.map (·.1) ++ (([] : List Value)))) 2 26 w' ∧ True) → Calls Tryz.prog 23 #[.agg #[.string ⟨s0.toArray⟩, Vc.ownV (β 10) (β 11) (β 12) (β 13), (if b1 = true then .slice none 0 0 else .slice (some (Vc.qad p1 (Int.toNat x2) (Int.toNat x3))) (Int.toNat x2) (Int.toNat x3) : Value), (if b2 = true then .slice none 0 0 else .slice (some (Vc.qad p2 (Int.toNat x4) (Int.toNat x5))) (Int.toNat x4) (Int.toNat x5) : Value), .int .i64 x6, .int .i64 x7, .int .i64 x8, .int .i64 x9]] w' (Vc.Ret (.bool b12) w')) ∧
  ((b12 = true) → (
  ∀ x34 : Int, x34 = (((0 + (l0.length + 0)) / 2 : Nat) : Int) →
  (0 < x34) ∧
  ∀ x35 : Int, x35 = (((0 + (l0.length + 0)) / 2 : Nat) : Int) →
  (x35 ≤ 1073741824) ∧
  ∃ (Ix36 : List Vc.Vl → Prop) (mx36 : List Vc.Vl → Nat), Ix36 [.i 0, .l ((l0.map (·.1) ++ (([] : List Value))))] ∧ ∀ (x36 : Int) (l1 : List Vc.OV), Ix36 [.i x36, .l ((l1.map (·.1) ++ (([] : List Value))))] → (
  ∀ x37 : Int, x37 = (((0 + (l1.length + 0)) / 2 : Nat) : Int) →
  ((x36 < x37) → (
  ∀ x38 : Int, x38 = (((0 + (l1.length + 0)) / 2 : Nat) : Int) →
  (0 ≤ x36) ∧
  (x36 < x38) ∧
  ∀ x39 : Int, x39 = (((0 + (l1.length + 0)) / 2 : Nat) : Int) →
  (0 ≤ x36) ∧
  (x36 < x39) ∧
  ∀ l2 : List Vc.OV, l2.map (·.1) = ((l1.map (·.1) ++ (([] : List Value)))).take ((Int.toNat x36) * 2 + 0) ++ ([.int .i64 0, .int .i64 0] : List Value) ++ ((l1.map (·.1) ++ (([] : List Value)))).drop ((Int.toNat x36) * 2 + 0 + 2) →
  ∀ x40 : Int, x40 = IntKind.i64.wrap (x36 + 1) →
  Ix36 [.i x40, .l ((l2.map (·.1) ++ (([] : List Value))))] ∧ mx36 [.i x40, .l ((l2.map (·.1) ++ (([] : List Value))))] < mx36 [.i x36, .l ((l1.map (·.1) ++ (([] : List Value))))])) ∧ (¬ (x36 < x37) → (
  ∃ (Ib13 : List Vc.Vl → Prop) (mb13 : List Vc.Vl → Nat), Ib13 [.b false, .i 0, .b false, .b false, .i 0, .i 0, .i 0, .i 0, .i 0, .s s0, .v ((if b0 = true then .slice none 0 0 else .slice (some (Vc.qad p0 (Int.toNat x0) (Int.toNat x1))) (Int.toNat x0) (Int.toNat x1) : Value)), .v ((if b1 = true then .slice none 0 0 else .slice (some (Vc.qad p1 (Int.toNat x2) (Int.toNat x3))) (Int.toNat x2) (Int.toNat x3) : Value)), .v ((if b2 = true then .slice none 0 0 else .slice (some (Vc.qad p2 (Int.toNat x4) (Int.toNat x5))) (Int.toNat x4) (Int.toNat x5) : Value)), .i x6, .i x7, .i x8, .i x9, .b false, .b false, .i 0, .i 0, .i 0, .i 0, .i 0] ∧ ∀ (b13 : Bool) (x38 : Int) (b14 : Bool) (b15 : Bool) (x39 : Int) (x40 : Int) (x41 : Int) (x42 : Int) (x43 : Int) (s1 : List UInt8) (b16 : Bool) (p4 : Nat × Nat) (x44 x45 : Int) (b17 : Bool) (p5 : Nat × Nat) (x46 x47 : Int) (b18 : Bool) (p6 : Nat × Nat) (x48 x49 : Int) (x50 : Int) (x51 : Int) (x52 : Int) (x53 : Int) (b19 : Bool) (b20 : Bool) (x54 : Int) (x55 : Int) (x56 : Int) (x57 : Int) (x58 : Int), Ib13 [.b b13, .i x38, .b b14, .b b15, .i x39, .i x40, .i x41, .i x42, .i x43, .s s1, .v ((if b16 = true then .slice none 0 0 else .slice (some (Vc.qad p4 (Int.toNat x44) (Int.toNat x45))) (Int.toNat x44) (Int.toNat x45) : Value)), .v ((if b17 = true then .slice none 0 0 else .slice (some (Vc.qad p5 (Int.toNat x46) (Int.toNat x47))) (Int.toNat x46) (Int.toNat x47) : Value)), .v ((if b18 = true then .slice none 0 0 else .slice (some (Vc.qad p6 (Int.toNat x48) (Int.toNat x49))) (Int.toNat x48) (Int.toNat x49) : Value)), .i x50, .i x51, .i x52, .i x53, .b b19, .b b20, .i x54, .i x55, .i x56, .i x57, .i x58] → (
  (0 ≤ x10) ∧
  ((¬ (b3 = true)) ∨ (x10 = 0)) ∧
  ((x38 < x10) → (
  (¬ (b3 = true)) ∧
  (0 ≤ x38) ∧
  (x38 < x10) ∧
  ∃ (x59 : Int), w.cell? ⟨p3.1, p3.2 + (Int.toNat x38) * 6 + 0, none⟩ = some (.int .i64 x59) ∧
  ∃ (x60 : Int), w.cell? ⟨p3.1, p3.2 + (Int.toNat x38) * 6 + 1, none⟩ = some (.int .i64 x60) ∧
  ∃ (x61 : Int), w.cell? ⟨p3.1, p3.2 + (Int.toNat x38) * 6 + 2, none⟩ = some (.int .i64 x61) ∧
  ∃ (x62 : Int), w.cell? ⟨p3.1, p3.2 + (Int.toNat x38) * 6 + 3, none⟩ = some (.int .i64 x62) ∧
  (¬ (b3 = true)) ∧
  (0 ≤ x38) ∧
  (x38 < x10) ∧
  ∃ (b21 : Bool), w.cell? ⟨p3.1, p3.2 + (Int.toNat x38) * 6 + 4, none⟩ = some (.bool b21) ∧
  ∃ (b22 : Bool), ∃ (x63 : Int), ∃ (b23 : Bool), ∃ (x64 : Int), ∃ (x65 : Int), ∃ (x66 : Int), ∃ (x67 : Int), ∃ (x68 : Int), ∃ (b24 : Bool), ∃ (b25 : Bool), ∃ (x69 : Int), ∃ (x70 : Int), ∃ (x71 : Int), ∃ (x72 : Int), ∃ (x73 : Int), (∀ (β : Nat → Nat) (w' : World), Below w.heap.size w w' → ((w.heap.size ≤ β 23 ∧ w'.heap[β 23]? = some (.cells #[.string ⟨s0.toArray⟩, Vc.ownV (β 19) (β 20) (β 21) (β 22), .int .i64 x6, .int .i64 x7, .bool true, .bool b14, .bool b15, .int .i64 x39, .int .i64 x40, .int .i64 x41, .int .i64 x42, .int .i64 x43] 76)) ∧ Vc.RowOk w.heap.size (β 19) (β 20) (β 21) (β 22) ((l0.map (·.1) ++ (([] : List Value)))) 2 26 w' ∧ True) → Calls Tryz.prog 27 #[Vc.ptr (β 23) 0, .agg #[.int .i64 x59, .int .i64 x60, .int .i64 x61, .int .i64 x62], .bool b21] w' (Vc.Eff (.tuple #[.agg #[.bool b22, .int .i64 x63, .bool b23, .int .i64 x64, .int .i64 x65, .int .i64 x66, .int .i64 x67], .int .i64 x68]) (β 23) #[.string ⟨s0.toArray⟩, Vc.ownV (β 19) (β 20) (β 21) (β 22), .int .i64 x6, .int .i64 x7, .bool true, .bool b24, .bool b25, .int .i64 x69, .int .i64 x70, .int .i64 x71, .int .i64 x72, .int .i64 x73] 76 w')) ∧
  (¬ (b3 = true)) ∧
  (0 ≤ x38) ∧
  (x38 < x10) ∧
  ∃ (x74 : Int), w.cell? ⟨p3.1, p3.2 + (Int.toNat x38) * 6 + 0, none⟩ = some (.int .i64 x74) ∧
  ∃ (x75 : Int), w.cell? ⟨p3.1, p3.2 + (Int.toNat x38) * 6 + 1, none⟩ = some (.int .i64 x75) ∧
  ∃ (x76 : Int), w.cell? ⟨p3.1, p3.2 + (Int.toNat x38) * 6 + 2, none⟩ = some (.int .i64 x76) ∧
  ∃ (x77 : Int), w.cell? ⟨p3.1, p3.2 + (Int.toNat x38) * 6 + 3, none⟩ = some (.int .i64 x77) ∧
  (¬ (b3 = true)) ∧
  (0 ≤ x38) ∧
  (x38 < x10) ∧
  ∃ (b26 : Bool), w.cell? ⟨p3.1, p3.2 + (Int.toNat x38) * 6 + 4, none⟩ = some (.bool b26) ∧
  ∃ (s2 : List UInt8), ∃ (b27 : Bool) (p7 : Nat × Nat) (x78 x79 : Int), ∃ (b28 : Bool) (p8 : Nat × Nat) (x80 x81 : Int), ∃ (b29 : Bool) (p9 : Nat × Nat) (x82 x83 : Int), ∃ (x84 : Int), ∃ (x85 : Int), ∃ (x86 : Int), ∃ (x87 : Int), ∃ (b30 : Bool), ∃ (b31 : Bool), ∃ (x88 : Int), ∃ (x89 : Int), ∃ (x90 : Int), ∃ (x91 : Int), ∃ (x92 : Int), ∃ (b32 : Bool), ∃ (x93 : Int), ∃ (b33 : Bool), ∃ (x94 : Int), ∃ (x95 : Int), ∃ (x96 : Int), ∃ (x97 : Int), ∃ (x98 : Int), (∀ w' : World, Below w.heap.size w w' → Calls Tryz.prog 28 #[.agg #[.string ⟨s1.toArray⟩, (if b16 = true then .slice none 0 0 else .slice (some (Vc.qad p4 (Int.toNat x44) (Int.toNat x45))) (Int.toNat x44) (Int.toNat x45) : Value), (if b17 = true then .slice none 0 0 else .slice (some (Vc.qad p5 (Int.toNat x46) (Int.toNat x47))) (Int.toNat x46) (Int.toNat x47) : Value), (if b18 = true then .slice none 0 0 else .slice (some (Vc.qad p6 (Int.toNat x48) (Int.toNat x49))) (Int.toNat x48) (Int.toNat x49) : Value), .int .i64 x50, .int .i64 x51, .int .i64 x52, .int .i64 x53, .bool b19, .bool b20, .int .i64 x54, .int .i64 x55, .int .i64 x56, .int .i64 x57, .int .i64 x58], .agg #[.int .i64 x74, .int .i64 x75, .int .i64 x76, .int .i64 x77], .bool b26] w' (Vc.Ret (.tuple #[.agg #[.string ⟨s2.toArray⟩, (if b27 = true then .slice none 0 0 else .slice (some (Vc.qad p7 (Int.toNat x78) (Int.toNat x79))) (Int.toNat x78) (Int.toNat x79) : Value), (if b28 = true then .slice none 0 0 else .slice (some (Vc.qad p8 (Int.toNat x80) (Int.toNat x81))) (Int.toNat x80) (Int.toNat x81) : Value), (if b29 = true then .slice none 0 0 else .slice (some (Vc.qad p9 (Int.toNat x82) (Int.toNat x83))) (Int.toNat x82) (Int.toNat x83) : Value), .int .i64 x84, .int .i64 x85, .int .i64 x86, .int .i64 x87, .bool b30, .bool b31, .int .i64 x88, .int .i64 x89, .int .i64 x90, .int .i64 x91, .int .i64 x92], .agg #[.bool b32, .int .i64 x93, .bool b33, .int .i64 x94, .int .i64 x95, .int .i64 x96, .int .i64 x97], .int .i64 x98]) w')) ∧
  (((((b22 = true) ↔ (b32 = true))) ∧ ((x63 = x93) ∧ ((((b23 = true) ↔ (b33 = true))) ∧ ((x64 = x94) ∧ ((x65 = x95) ∧ ((x66 = x96) ∧ (x67 = x97))))))) → (
  ((x68 = x98) → (
  ∀ x99 : Int, x99 = IntKind.i64.wrap (x38 + 1) →
  Ib13 [.b b13, .i x99, .b b24, .b b25, .i x69, .i x70, .i x71, .i x72, .i x73, .s s2, .v ((if b27 = true then .slice none 0 0 else .slice (some (Vc.qad p7 (Int.toNat x78) (Int.toNat x79))) (Int.toNat x78) (Int.toNat x79) : Value)), .v ((if b28 = true then .slice none 0 0 else .slice (some (Vc.qad p8 (Int.toNat x80) (Int.toNat x81))) (Int.toNat x80) (Int.toNat x81) : Value)), .v ((if b29 = true then .slice none 0 0 else .slice (some (Vc.qad p9 (Int.toNat x82) (Int.toNat x83))) (Int.toNat x82) (Int.toNat x83) : Value)), .i x84, .i x85, .i x86, .i x87, .b b30, .b b31, .i x88, .i x89, .i x90, .i x91, .i x92] ∧ mb13 [.b b13, .i x99, .b b24, .b b25, .i x69, .i x70, .i x71, .i x72, .i x73, .s s2, .v ((if b27 = true then .slice none 0 0 else .slice (some (Vc.qad p7 (Int.toNat x78) (Int.toNat x79))) (Int.toNat x78) (Int.toNat x79) : Value)), .v ((if b28 = true then .slice none 0 0 else .slice (some (Vc.qad p8 (Int.toNat x80) (Int.toNat x81))) (Int.toNat x80) (Int.toNat x81) : Value)), .v ((if b29 = true then .slice none 0 0 else .slice (some (Vc.qad p9 (Int.toNat x82) (Int.toNat x83))) (Int.toNat x82) (Int.toNat x83) : Value)), .i x84, .i x85, .i x86, .i x87, .b b30, .b b31, .i x88, .i x89, .i x90, .i x91, .i x92] < mb13 [.b b13, .i x38, .b b14, .b b15, .i x39, .i x40, .i x41, .i x42, .i x43, .s s1, .v ((if b16 = true then .slice none 0 0 else .slice (some (Vc.qad p4 (Int.toNat x44) (Int.toNat x45))) (Int.toNat x44) (Int.toNat x45) : Value)), .v ((if b17 = true then .slice none 0 0 else .slice (some (Vc.qad p5 (Int.toNat x46) (Int.toNat x47))) (Int.toNat x46) (Int.toNat x47) : Value)), .v ((if b18 = true then .slice none 0 0 else .slice (some (Vc.qad p6 (Int.toNat x48) (Int.toNat x49))) (Int.toNat x48) (Int.toNat x49) : Value)), .i x50, .i x51, .i x52, .i x53, .b b19, .b b20, .i x54, .i x55, .i x56, .i x57, .i x58])) ∧ (¬ (x68 = x98) → (
  (.bool false : Value) = v)))) ∧ (¬ ((((b22 = true) ↔ (b32 = true))) ∧ ((x63 = x93) ∧ ((((b23 = true) ↔ (b33 = true))) ∧ ((x64 = x94) ∧ ((x65 = x95) ∧ ((x66 = x96) ∧ (x67 = x97))))))) → (
  (.bool false : Value) = v)))) ∧ (¬ (x38 < x10) → (
  ∃ (b21 : Bool), (∀ w' : World, Below w.heap.size w w' → Calls Tryz.prog 10 #[] w' (Vc.Ret (.bool b21) w')) ∧
  (.bool b21 : Value) = v)))))))) ∧ (¬ (b12 = true) → (
  ∃ (b13 : Bool), (∀ w' : World, Below w.heap.size w w' → Calls Tryz.prog 10 #[] w' (Vc.Ret (.bool b13) w')) ∧
  (.bool b13 : Value) = v)))))))) ∧ (¬ (x32 = 0) → (
  (.bool false : Value) = v)))) ∧ (¬ (x31 = 1) → (
  (.bool false : Value) = v)))) ∧ (¬ (x25 = 1) → (
  (.bool false : Value) = v)))) ∧ (¬ ((¬ (b6 = true)) ∧ ((x20 = 0) ∧ ((¬ (b7 = true)) ∧ ((x21 = 0) ∧ ((x22 = 0) ∧ ((x23 = 0) ∧ (x24 = 0))))))) → (
  (.bool false : Value) = v)))) ∧ (¬ (x19 = 0) → (
  (.bool false : Value) = v)))) ∧ (¬ (x18 = 1) → (
  (.bool false : Value) = v)))) ∧ (¬ (x17 = 1) → (
  (.bool false : Value) = v)))) ∧ (¬ ((¬ (b4 = true)) ∧ ((x12 = 0) ∧ ((¬ (b5 = true)) ∧ ((x13 = 0) ∧ ((x14 = 0) ∧ ((x15 = 0) ∧ (x16 = 0))))))) → (
  (.bool false : Value) = v))) : Calls Tryz.prog 8 #[.agg #[.string ⟨s0.toArray⟩, (if b0 = true then .slice none 0 0 else .slice (some (Vc.qad p0 (Int.toNat x0) (Int.toNat x1))) (Int.toNat x0) (Int.toNat x1) : Value), (if b1 = true then .slice none 0 0 else .slice (some (Vc.qad p1 (Int.toNat x2) (Int.toNat x3))) (Int.toNat x2) (Int.toNat x3) : Value), (if b2 = true then .slice none 0 0 else .slice (some (Vc.qad p2 (Int.toNat x4) (Int.toNat x5))) (Int.toNat x4) (Int.toNat x5) : Value), .int .i64 x6, .int .i64 x7, .int .i64 x8, .int .i64 x9], (if b3 = true then .slice none 0 0 else .slice (some (Vc.qad p3 (Int.toNat x10) (Int.toNat x11))) (Int.toNat x10) (Int.toNat x11) : Value)] w (Vc.Ret v w) :=
  Vc.pure_of (base_inl [25, 66] (by kernel_rfl)) [(2000000000004, .unroll), (6000000000017, .inv [(10, 1)] [13] [89, 90, 91, 92, 93, 94, 97, 98, 99, 100, 101, 102, 95, 96]), (4000000000022, .inva [[(23, 5), (23, 6), (23, 7), (23, 8), (23, 9), (23, 10), (23, 11)]] [(14, 0), (14, 1), (14, 2), (14, 3), (14, 4), (14, 5), (14, 6), (14, 7), (14, 8), (14, 9), (14, 10), (14, 11), (14, 12), (14, 13), (14, 14)] [4, 15] [105, 106, 107, 108, 112, 113, 114, 115, 116, 117, 118, 119, 120, 121, 122, 123, 111, 124, 125, 16, 17, 127, 128, 129, 130, 131, 132, 133, 134, 135, 136, 137, 138, 126, 139, 140, 141, 18, 19, 20, 142, 143, 144, 145, 146, 147, 148, 149, 150, 109, 110]), (3000027, .inv [] [0] [5, 6, 7, 8, 9, 10, 11]), (3000026, .inv [] [0] [5])] 200 Tryz.func8 (b := (Tryz.f8.body).getD .skip) (by kernel_rfl) [.cv (.agg [.sv 0, .qsl 0 0 2 (.var 0) (.var 1), .qsl 1 1 2 (.var 2) (.var 3), .qsl 2 2 4 (.var 4) (.var 5), .int .i64 (.var 6), .int .i64 (.var 7), .int .i64 (.var 8), .int .i64 (.var 9)]), .cv (.one (.qsl 3 3 6 (.var 10) (.var 11)))] ⟨12, 4, 0, 4, 0, 1, 0⟩ (Vc.envOf [x0, x1, x2, x3, x4, x5, x6, x7, x8, x9, x10, x11] [b0, b1, b2, b3] [] [p0, p1, p2, p3] [s0]) (by kernel_rfl) (by kernel_rfl) (by kernel_rfl) h

theorem vc_ullageref09_in (x0 x1 x2 : Int) (w : World) (v : Value) (h : 
  ((x1 ≤ x0) → (
  (.bool (decide (x0 ≤ x2)) : Value) = v)) ∧ (¬ (x1 ≤ x0) → (
  (.bool false : Value) = v))) : Calls Tryz.prog 57 #[.int .i64 x0, .int .i64 x1, .int .i64 x2] w (Vc.Ret v w) :=
  Vc.pure_of base [] 200 Tryz.func57 (b := (Tryz.f57.body).getD .skip) (by kernel_rfl) [.cv (.one (.int .i64 (.var 0))), .cv (.one (.int .i64 (.var 1))), .cv (.one (.int .i64 (.var 2)))] ⟨3, 0, 0, 0, 0, 0, 0⟩ (Vc.envOf [x0, x1, x2] [] [] []) (by kernel_rfl) (by kernel_rfl) (by kernel_rfl) h

theorem vc_ullageref09_left (x0 x1 x2 x3 x4 x5 : Int) (w : World) (v : Value) (h : 
  ∀ x6 : Int, x6 = IntKind.i64.wrap (x2 - x0) →
  ∀ x7 : Int, x7 = IntKind.i64.wrap (x5 - x1) →
  ∀ x8 : Int, x8 = IntKind.i64.wrap (x6 * x7) →
  ∀ x9 : Int, x9 = IntKind.i64.wrap (x3 - x1) →
  ∀ x10 : Int, x10 = IntKind.i64.wrap (x4 - x0) →
  ∀ x11 : Int, x11 = IntKind.i64.wrap (x9 * x10) →
  ∀ x12 : Int, x12 = IntKind.i64.wrap (x8 - x11) →
  (.int .i64 x12 : Value) = v) : Calls Tryz.prog 79 #[.agg #[.int .i64 x0, .int .i64 x1], .agg #[.int .i64 x2, .int .i64 x3], .agg #[.int .i64 x4, .int .i64 x5]] w (Vc.Ret v w) :=
  Vc.pure_of base [] 200 Tryz.func79 (b := (Tryz.f79.body).getD .skip) (by kernel_rfl) [.cv (.agg [.int .i64 (.var 0), .int .i64 (.var 1)]), .cv (.agg [.int .i64 (.var 2), .int .i64 (.var 3)]), .cv (.agg [.int .i64 (.var 4), .int .i64 (.var 5)])] ⟨6, 0, 0, 0, 0, 0, 0⟩ (Vc.envOf [x0, x1, x2, x3, x4, x5] [] [] []) (by kernel_rfl) (by kernel_rfl) (by kernel_rfl) h

theorem vc_ullageref09_inside (p0 : Nat × Nat) (x0 x1 x2 x3 : Int) (b0 : Bool) (s0 : List UInt8) (w : World) (v : Value) (h : 
  ∃ (Ib1 : List Vc.Vl → Prop) (mb1 : List Vc.Vl → Nat), Ib1 [.b false, .i 0] ∧ ∀ (b1 : Bool) (x4 : Int), Ib1 [.b b1, .i x4] → (
  (0 ≤ x0) ∧
  ((¬ (b0 = true)) ∨ (x0 = 0)) ∧
  ((x4 < x0) → (
  (¬ (b0 = true)) ∧
  (0 ≤ x4) ∧
  (x4 < x0) ∧
  ∃ (x5 : Int), w.cell? ⟨p0.1, p0.2 + (Int.toNat x4) * 2 + 0, none⟩ = some (.int .i64 x5) ∧
  ∃ (x6 : Int), w.cell? ⟨p0.1, p0.2 + (Int.toNat x4) * 2 + 1, none⟩ = some (.int .i64 x6) ∧
  ∀ x7 : Int, x7 = IntKind.i64.wrap (x4 + 1) →
  (0 ≤ x0) ∧
  ((¬ (b0 = true)) ∨ (x0 = 0)) ∧
  (x0 ≠ 0) ∧
  ∀ x8 : Int, x8 = Int.tmod x7 x0 →
  (¬ (b0 = true)) ∧
  (0 ≤ x8) ∧
  (x8 < x0) ∧
  ∃ (x9 : Int), w.cell? ⟨p0.1, p0.2 + (Int.toNat x8) * 2 + 0, none⟩ = some (.int .i64 x9) ∧
  ∃ (x10 : Int), w.cell? ⟨p0.1, p0.2 + (Int.toNat x8) * 2 + 1, none⟩ = some (.int .i64 x10) ∧
  ∃ (x11 : Int), (∀ w' : World, Below w.heap.size w w' → Calls Tryz.prog 79 #[.agg #[.int .i64 x5, .int .i64 x6], .agg #[.int .i64 x9, .int .i64 x10], .agg #[.int .i64 x2, .int .i64 x3]] w' (Vc.Ret (.int .i64 x11) w')) ∧
  ((x11 < 0) → (
  (.bool false : Value) = v)) ∧ (¬ (x11 < 0) → (
  ∀ x12 : Int, x12 = IntKind.i64.wrap (x4 + 1) →
  Ib1 [.b b1, .i x12] ∧ mb1 [.b b1, .i x12] < mb1 [.b b1, .i x4])))) ∧ (¬ (x4 < x0) → (
  (.bool true : Value) = v)))) : Calls Tryz.prog 82 #[.agg #[.string ⟨s0.toArray⟩, (if b0 = true then .slice none 0 0 else .slice (some (Vc.qad p0 (Int.toNat x0) (Int.toNat x1))) (Int.toNat x0) (Int.toNat x1) : Value)], .agg #[.int .i64 x2, .int .i64 x3]] w (Vc.Ret v w) :=
  Vc.pure_of base [(5000000000002, .inv [] [4, 5] [6, 7, 8, 9, 10, 13, 14, 15, 16, 17, 18, 19, 20, 21, 22, 23, 24, 25, 26, 27, 28, 29, 30, 11, 12])] 200 Tryz.func82 (b := (Tryz.f82.body).getD .skip) (by kernel_rfl) [.cv (.agg [.sv 0, .qsl 0 0 2 (.var 0) (.var 1)]), .cv (.agg [.int .i64 (.var 2), .int .i64 (.var 3)])] ⟨4, 1, 0, 1, 0, 1, 0⟩ (Vc.envOf [x0, x1, x2, x3] [b0] [] [p0] [s0]) (by kernel_rfl) (by kernel_rfl) (by kernel_rfl) h

theorem vc_ullageref09_Rect (x0 x1 x2 x3 : Int) (w : World) (v : Value) (h : 
  ∃ (b0 : Bool), (∀ w' : World, Below w.heap.size w w' → Calls Tryz.prog 57 #[.int .i64 x0, .int .i64 (-536870912), .int .i64 x2] w' (Vc.Ret (.bool b0) w')) ∧
  ((b0 = true) → (
  ∃ (b1 : Bool), (∀ w' : World, Below w.heap.size w w' → Calls Tryz.prog 57 #[.int .i64 x2, .int .i64 x0, .int .i64 536870912] w' (Vc.Ret (.bool b1) w')) ∧
  ((b1 = true) → (
  ∃ (b2 : Bool), (∀ w' : World, Below w.heap.size w w' → Calls Tryz.prog 57 #[.int .i64 x1, .int .i64 (-536870912), .int .i64 x3] w' (Vc.Ret (.bool b2) w')) ∧
  ((b2 = true) → (
  ∃ (b3 : Bool), (∀ w' : World, Below w.heap.size w w' → Calls Tryz.prog 57 #[.int .i64 x3, .int .i64 x1, .int .i64 536870912] w' (Vc.Ret (.bool b3) w')) ∧
  (.bool b3 : Value) = v)) ∧ (¬ (b2 = true) → (
  (.bool false : Value) = v)))) ∧ (¬ (b1 = true) → (
  (.bool false : Value) = v)))) ∧ (¬ (b0 = true) → (
  (.bool false : Value) = v))) : Calls Tryz.prog 37 #[.agg #[.int .i64 x0, .int .i64 x1, .int .i64 x2, .int .i64 x3]] w (Vc.Ret v w) :=
  Vc.pure_of base [] 200 Tryz.func37 (b := (Tryz.f37.body).getD .skip) (by kernel_rfl) [.cv (.agg [.int .i64 (.var 0), .int .i64 (.var 1), .int .i64 (.var 2), .int .i64 (.var 3)])] ⟨4, 0, 0, 0, 0, 0, 0⟩ (Vc.envOf [x0, x1, x2, x3] [] [] []) (by kernel_rfl) (by kernel_rfl) (by kernel_rfl) h

theorem vc_ullageref09_bounds (p0 : Nat × Nat) (x0 x1 x2 x3 : Int) (b0 : Bool) (w : World) (v : Value) (h : 
  ∃ (Ix4 : List Vc.Vl → Prop) (mx4 : List Vc.Vl → Nat), Ix4 [.i 4611686018427387904, .i (-4611686018427387904), .i 0] ∧ ∀ (x4 : Int) (x5 : Int) (x6 : Int), Ix4 [.i x4, .i x5, .i x6] → (
  (0 ≤ x0) ∧
  ((¬ (b0 = true)) ∨ (x0 = 0)) ∧
  ((x6 < x0) → (
  (¬ (b0 = true)) ∧
  (0 ≤ x6) ∧
  (x6 < x0) ∧
  ∃ (x7 : Int), w.cell? ⟨p0.1, p0.2 + (Int.toNat x6) * 2 + 0, none⟩ = some (.int .i64 x7) ∧
  ∀ x8 : Int, x8 = IntKind.i64.wrap (x2 * x7) →
  (¬ (b0 = true)) ∧
  (0 ≤ x6) ∧
  (x6 < x0) ∧
  ∃ (x9 : Int), w.cell? ⟨p0.1, p0.2 + (Int.toNat x6) * 2 + 1, none⟩ = some (.int .i64 x9) ∧
  ∀ x10 : Int, x10 = IntKind.i64.wrap (x3 * x9) →
  ∀ x11 : Int, x11 = IntKind.i64.wrap (x8 + x10) →
  ∀ x12 : Int, x12 = (if x11 < x4 then x11 else x4) →
  ∀ x13 : Int, x13 = (if x11 > x5 then x11 else x5) →
  ∀ x14 : Int, x14 = IntKind.i64.wrap (x6 + 1) →
  Ix4 [.i x12, .i x13, .i x14] ∧ mx4 [.i x12, .i x13, .i x14] < mx4 [.i x4, .i x5, .i x6])) ∧ (¬ (x6 < x0) → (
  (.tuple #[.int .i64 x4, .int .i64 x5] : Value) = v)))) : Calls Tryz.prog 108 #[(if b0 = true then .slice none 0 0 else .slice (some (Vc.qad p0 (Int.toNat x0) (Int.toNat x1))) (Int.toNat x0) (Int.toNat x1) : Value), .agg #[.int .i64 x2, .int .i64 x3]] w (Vc.Ret v w) :=
  Vc.pure_of base [(4000000000003, .inv [] [6, 7, 8] [10, 11, 12, 13, 16, 17, 18, 19, 20, 21, 22, 23, 24, 25, 26, 27, 28, 29, 30, 31, 32, 9, 33, 34, 35, 36, 37, 38, 14, 15])] 200 Tryz.func108 (b := (Tryz.f108.body).getD .skip) (by kernel_rfl) [.cv (.one (.qsl 0 0 2 (.var 0) (.var 1))), .cv (.agg [.int .i64 (.var 2), .int .i64 (.var 3)])] ⟨4, 1, 0, 1, 0, 0, 0⟩ (Vc.envOf [x0, x1, x2, x3] [b0] [] [p0]) (by kernel_rfl) (by kernel_rfl) (by kernel_rfl) h

theorem vc_ullageref09_size (x0 : Int) (w : World) (v : Value) (h : 
  ∀ x1 : Int, x1 = IntKind.i64.wrap (0 - x0) →
  ∀ x2 : Int, x2 = (if x1 > x0 then x1 else x0) →
  (.int .i64 x2 : Value) = v) : Calls Tryz.prog 109 #[.int .i64 x0] w (Vc.Ret v w) :=
  Vc.pure_of base [] 200 Tryz.func109 (b := (Tryz.f109.body).getD .skip) (by kernel_rfl) [.cv (.one (.int .i64 (.var 0)))] ⟨1, 0, 0, 0, 0, 0, 0⟩ (Vc.envOf [x0] [] [] []) (by kernel_rfl) (by kernel_rfl) (by kernel_rfl) h

theorem vc_ullageref09_apart (p0 p1 : Nat × Nat) (x0 x1 x2 x3 x4 : Int) (b0 b1 : Bool) (w : World) (v : Value) (h : 
  ∃ (Io4 : List Vc.Vl → Prop) (mo4 : List Vc.Vl → Nat), Io4 [.l (([] : List Value)), .i 0] ∧ ∀ (l0 : List Vc.OV) (x5 : Int), Io4 [.l ((l0.map (·.1) ++ (([] : List Value)))), .i x5] → (
  (0 ≤ x0) ∧
  ((¬ (b0 = true)) ∨ (x0 = 0)) ∧
  ((x5 < x0) → (
  (¬ (b0 = true)) ∧
  (0 ≤ x5) ∧
  (x5 < x0) ∧
  ∃ (x6 : Int), w.cell? ⟨p0.1, p0.2 + (Int.toNat x5) * 2 + 0, none⟩ = some (.int .i64 x6) ∧
  ∃ (x7 : Int), w.cell? ⟨p0.1, p0.2 + (Int.toNat x5) * 2 + 1, none⟩ = some (.int .i64 x7) ∧
  ∀ x8 : Int, x8 = IntKind.i64.wrap (x5 + 1) →
  (0 ≤ x0) ∧
  ((¬ (b0 = true)) ∨ (x0 = 0)) ∧
  (x0 ≠ 0) ∧
  ∀ x9 : Int, x9 = Int.tmod x8 x0 →
  (¬ (b0 = true)) ∧
  (0 ≤ x9) ∧
  (x9 < x0) ∧
  ∃ (x10 : Int), w.cell? ⟨p0.1, p0.2 + (Int.toNat x9) * 2 + 0, none⟩ = some (.int .i64 x10) ∧
  ∃ (x11 : Int), w.cell? ⟨p0.1, p0.2 + (Int.toNat x9) * 2 + 1, none⟩ = some (.int .i64 x11) ∧
  ∀ x12 : Int, x12 = IntKind.i64.wrap (x7 - x11) →
  ∀ x13 : Int, x13 = IntKind.i64.wrap (x10 - x6) →
  ∀ x14 : Int, x14 = IntKind.i64.wrap (x11 - x7) →
  ∀ x15 : Int, x15 = IntKind.i64.wrap (x6 - x10) →
  ∀ x16 : Int, x16 = (((4 + (l0.length + 0)) / 2 : Nat) : Int) →
  (x16 ≤ 1073741824) ∧
  ∀ x17 : Int, x17 = IntKind.i64.wrap (x5 + 1) →
  Io4 [.l ((l0.map (·.1) ++ (([.int .i64 x12, .int .i64 x13, .int .i64 x14, .int .i64 x15] : List Value)))), .i x17] ∧ mo4 [.l ((l0.map (·.1) ++ (([.int .i64 x12, .int .i64 x13, .int .i64 x14, .int .i64 x15] : List Value)))), .i x17] < mo4 [.l ((l0.map (·.1) ++ (([] : List Value)))), .i x5])) ∧ (¬ (x5 < x0) → (
  ∃ (Io12 : List Vc.Vl → Prop) (mo12 : List Vc.Vl → Nat), Io12 [.l (([] : List Value)), .i 0] ∧ ∀ (l1 : List Vc.OV) (x6 : Int), Io12 [.l ((l1.map (·.1) ++ (([] : List Value)))), .i x6] → (
  (0 ≤ x2) ∧
  ((¬ (b1 = true)) ∨ (x2 = 0)) ∧
  ((x6 < x2) → (
  (¬ (b1 = true)) ∧
  (0 ≤ x6) ∧
  (x6 < x2) ∧
  ∃ (x7 : Int), w.cell? ⟨p1.1, p1.2 + (Int.toNat x6) * 2 + 0, none⟩ = some (.int .i64 x7) ∧
  ∃ (x8 : Int), w.cell? ⟨p1.1, p1.2 + (Int.toNat x6) * 2 + 1, none⟩ = some (.int .i64 x8) ∧
  ∀ x9 : Int, x9 = IntKind.i64.wrap (x6 + 1) →
  (0 ≤ x2) ∧
  ((¬ (b1 = true)) ∨ (x2 = 0)) ∧
  (x2 ≠ 0) ∧
  ∀ x10 : Int, x10 = Int.tmod x9 x2 →
  (¬ (b1 = true)) ∧
  (0 ≤ x10) ∧
  (x10 < x2) ∧
  ∃ (x11 : Int), w.cell? ⟨p1.1, p1.2 + (Int.toNat x10) * 2 + 0, none⟩ = some (.int .i64 x11) ∧
  ∃ (x12 : Int), w.cell? ⟨p1.1, p1.2 + (Int.toNat x10) * 2 + 1, none⟩ = some (.int .i64 x12) ∧
  ∀ x13 : Int, x13 = IntKind.i64.wrap (x8 - x12) →
  ∀ x14 : Int, x14 = IntKind.i64.wrap (x11 - x7) →
  ∀ x15 : Int, x15 = IntKind.i64.wrap (x12 - x8) →
  ∀ x16 : Int, x16 = IntKind.i64.wrap (x7 - x11) →
  ∀ x17 : Int, x17 = (((4 + (l1.length + 0)) / 2 : Nat) : Int) →
  (x17 ≤ 1073741824) ∧
  ∀ x18 : Int, x18 = IntKind.i64.wrap (x6 + 1) →
  Io12 [.l ((l1.map (·.1) ++ (([.int .i64 x13, .int .i64 x14, .int .i64 x15, .int .i64 x16] : List Value)))), .i x18] ∧ mo12 [.l ((l1.map (·.1) ++ (([.int .i64 x13, .int .i64 x14, .int .i64 x15, .int .i64 x16] : List Value)))), .i x18] < mo12 [.l ((l1.map (·.1) ++ (([] : List Value)))), .i x6])) ∧ (¬ (x6 < x2) → (
  ∀ x7 : Int, x7 = (((0 + (l0.length + (l1.length + 0))) / 2 : Nat) : Int) →
  (x7 ≤ 1073741824) ∧
  ∀ x8 : Int, x8 = (((8 + (l0.length + (l1.length + 0))) / 2 : Nat) : Int) →
  (x8 ≤ 1073741824) ∧
  ∃ (Ib2 : List Vc.Vl → Prop) (mb2 : List Vc.Vl → Nat), Ib2 [.b false, .i 0] ∧ ∀ (b2 : Bool) (x9 : Int), Ib2 [.b b2, .i x9] → (
  ∀ x10 : Int, x10 = (((8 + (l0.length + (l1.length + 0))) / 2 : Nat) : Int) →
  ((x9 < x10) → (
  ∀ x11 : Int, x11 = (((8 + (l0.length + (l1.length + 0))) / 2 : Nat) : Int) →
  (0 ≤ x9) ∧
  (x9 < x11) ∧
  ∃ (x12 : Int), ((l0.map (·.1) ++ ((l1.map (·.1) ++ (([.int .i64 1, .int .i64 0, .int .i64 (-1), .int .i64 0, .int .i64 0, .int .i64 1, .int .i64 0, .int .i64 (-1)] : List Value))))))[(Int.toNat x9) * 2 + 0]? = some (.int .i64 x12) ∧
  ∃ (x13 : Int), ((l0.map (·.1) ++ ((l1.map (·.1) ++ (([.int .i64 1, .int .i64 0, .int .i64 (-1), .int .i64 0, .int .i64 0, .int .i64 1, .int .i64 0, .int .i64 (-1)] : List Value))))))[(Int.toNat x9) * 2 + 1]? = some (.int .i64 x13) ∧
  ∃ (x14 : Int), ∃ (x15 : Int), (∀ w' : World, Below w.heap.size w w' → Calls Tryz.prog 108 #[(if b0 = true then .slice none 0 0 else .slice (some (Vc.qad p0 (Int.toNat x0) (Int.toNat x1))) (Int.toNat x0) (Int.toNat x1) : Value), .agg #[.int .i64 x12, .int .i64 x13]] w' (Vc.Ret (.tuple #[.int .i64 x14, .int .i64 x15]) w')) ∧
  ∀ x16 : Int, x16 = (((8 + (l0.length + (l1.length + 0))) / 2 : Nat) : Int) →
  (0 ≤ x9) ∧
  (x9 < x16) ∧
  ∃ (x17 : Int), ((l0.map (·.1) ++ ((l1.map (·.1) ++ (([.int .i64 1, .int .i64 0, .int .i64 (-1), .int .i64 0, .int .i64 0, .int .i64 1, .int .i64 0, .int .i64 (-1)] : List Value))))))[(Int.toNat x9) * 2 + 0]? = some (.int .i64 x17) ∧
  ∃ (x18 : Int), ((l0.map (·.1) ++ ((l1.map (·.1) ++ (([.int .i64 1, .int .i64 0, .int .i64 (-1), .int .i64 0, .int .i64 0, .int .i64 1, .int .i64 0, .int .i64 (-1)] : List Value))))))[(Int.toNat x9) * 2 + 1]? = some (.int .i64 x18) ∧
  ∃ (x19 : Int), ∃ (x20 : Int), (∀ w' : World, Below w.heap.size w w' → Calls Tryz.prog 108 #[(if b1 = true then .slice none 0 0 else .slice (some (Vc.qad p1 (Int.toNat x2) (Int.toNat x3))) (Int.toNat x2) (Int.toNat x3) : Value), .agg #[.int .i64 x17, .int .i64 x18]] w' (Vc.Ret (.tuple #[.int .i64 x19, .int .i64 x20]) w')) ∧
  ∀ x21 : Int, x21 = IntKind.i64.wrap (x19 - x15) →
  ∀ x22 : Int, x22 = (((8 + (l0.length + (l1.length + 0))) / 2 : Nat) : Int) →
  (0 ≤ x9) ∧
  (x9 < x22) ∧
  ∃ (x23 : Int), ((l0.map (·.1) ++ ((l1.map (·.1) ++ (([.int .i64 1, .int .i64 0, .int .i64 (-1), .int .i64 0, .int .i64 0, .int .i64 1, .int .i64 0, .int .i64 (-1)] : List Value))))))[(Int.toNat x9) * 2 + 0]? = some (.int .i64 x23) ∧
  ∃ (x24 : Int), (∀ w' : World, Below w.heap.size w w' → Calls Tryz.prog 109 #[.int .i64 x23] w' (Vc.Ret (.int .i64 x24) w')) ∧
  ∀ x25 : Int, x25 = (((8 + (l0.length + (l1.length + 0))) / 2 : Nat) : Int) →
  (0 ≤ x9) ∧
  (x9 < x25) ∧
  ∃ (x26 : Int), ((l0.map (·.1) ++ ((l1.map (·.1) ++ (([.int .i64 1, .int .i64 0, .int .i64 (-1), .int .i64 0, .int .i64 0, .int .i64 1, .int .i64 0, .int .i64 (-1)] : List Value))))))[(Int.toNat x9) * 2 + 1]? = some (.int .i64 x26) ∧
  ∃ (x27 : Int), (∀ w' : World, Below w.heap.size w w' → Calls Tryz.prog 109 #[.int .i64 x26] w' (Vc.Ret (.int .i64 x27) w')) ∧
  ∀ x28 : Int, x28 = IntKind.i64.wrap (x24 + x27) →
  ∀ x29 : Int, x29 = IntKind.i64.wrap (x4 * x28) →
  ((x29 < x21) → (
  (.bool true : Value) = v)) ∧ (¬ (x29 < x21) → (
  ∀ x30 : Int, x30 = IntKind.i64.wrap (x9 + 1) →
  Ib2 [.b b2, .i x30] ∧ mb2 [.b b2, .i x30] < mb2 [.b b2, .i x9])))) ∧ (¬ (x9 < x10) → (
  (.bool false : Value) = v)))))))))) : Calls Tryz.prog 58 #[(if b0 = true then .slice none 0 0 else .slice (some (Vc.qad p0 (Int.toNat x0) (Int.toNat x1))) (Int.toNat x0) (Int.toNat x1) : Value), (if b1 = true then .slice none 0 0 else .slice (some (Vc.qad p1 (Int.toNat x2) (Int.toNat x3))) (Int.toNat x2) (Int.toNat x3) : Value), .int .i64 x4] w (Vc.Ret v w) :=
  Vc.pure_of (base_inl [107] (by kernel_rfl)) [(4000000000004, .inv [] [6, 8] [25, 26, 27, 28, 32, 33, 34, 35, 36, 37, 31, 38, 39, 9, 10, 41, 42, 43, 44, 45, 46, 40, 47, 48, 11, 12, 49, 50, 51, 52, 53, 54, 55, 56, 57, 58, 59, 60, 61, 62, 63, 64, 65, 66, 67, 29, 30]), (4000000000003, .inv [] [3, 4] [7, 8, 9, 10, 13, 14, 15, 16, 17, 18, 19, 20, 21, 22, 23, 24, 5, 6, 25, 26, 27, 28, 29, 30, 31, 32, 33, 34, 35, 36, 37, 38, 39, 40, 41, 42, 43, 44, 45, 46, 47, 48, 49, 11, 12]), (900000003, .inv [] [26] [])] 200 Tryz.func58 (b := (Tryz.f58.body).getD .skip) (by kernel_rfl) [.cv (.one (.qsl 0 0 2 (.var 0) (.var 1))), .cv (.one (.qsl 1 1 2 (.var 2) (.var 3))), .cv (.one (.int .i64 (.var 4)))] ⟨5, 2, 0, 2, 0, 0, 0⟩ (Vc.envOf [x0, x1, x2, x3, x4] [b0, b1] [] [p0, p1]) (by kernel_rfl) (by kernel_rfl) (by kernel_rfl) h

theorem vc_ullageref09_side (p0 : Nat × Nat) (x0 x1 x2 x3 x4 x5 : Int) (b0 : Bool) (s0 : List UInt8) (w : World) (v : Value) (h : 
  ∃ (b1 : Bool), (∀ w' : World, Below w.heap.size w w' → Calls Tryz.prog 82 #[.agg #[.string ⟨s0.toArray⟩, (if b0 = true then .slice none 0 0 else .slice (some (Vc.qad p0 (Int.toNat x0) (Int.toNat x1))) (Int.toNat x0) (Int.toNat x1) : Value)], .agg #[.int .i64 x2, .int .i64 x3]] w' (Vc.Ret (.bool b1) w')) ∧
  ((b1 = true) → (
  ∃ (b2 : Bool), (∀ w' : World, Below w.heap.size w w' → Calls Tryz.prog 82 #[.agg #[.string ⟨s0.toArray⟩, (if b0 = true then .slice none 0 0 else .slice (some (Vc.qad p0 (Int.toNat x0) (Int.toNat x1))) (Int.toNat x0) (Int.toNat x1) : Value)], .agg #[.int .i64 x4, .int .i64 x3]] w' (Vc.Ret (.bool b2) w')) ∧
  ((b2 = true) → (
  ∃ (b3 : Bool), (∀ w' : World, Below w.heap.size w w' → Calls Tryz.prog 82 #[.agg #[.string ⟨s0.toArray⟩, (if b0 = true then .slice none 0 0 else .slice (some (Vc.qad p0 (Int.toNat x0) (Int.toNat x1))) (Int.toNat x0) (Int.toNat x1) : Value)], .agg #[.int .i64 x4, .int .i64 x5]] w' (Vc.Ret (.bool b3) w')) ∧
  ((b3 = true) → (
  ∃ (b4 : Bool), (∀ w' : World, Below w.heap.size w w' → Calls Tryz.prog 82 #[.agg #[.string ⟨s0.toArray⟩, (if b0 = true then .slice none 0 0 else .slice (some (Vc.qad p0 (Int.toNat x0) (Int.toNat x1))) (Int.toNat x0) (Int.toNat x1) : Value)], .agg #[.int .i64 x2, .int .i64 x5]] w' (Vc.Ret (.bool b4) w')) ∧
  ((b4 = true) → (
  (.int .i64 1 : Value) = v)) ∧ (¬ (b4 = true) → (
  ∃ (b5 : Bool), (∀ (β : Nat → Nat) (w' : World), Below w.heap.size w w' → ((w.heap.size ≤ β 3 ∧ w'.heap[β 3]? = some (.cells #[.int .i64 x2, .int .i64 x3, .int .i64 x4, .int .i64 x3, .int .i64 x4, .int .i64 x5, .int .i64 x2, .int .i64 x5] 26)) ∧ True) → Calls Tryz.prog 58 #[(if b0 = true then .slice none 0 0 else .slice (some (Vc.qad p0 (Int.toNat x0) (Int.toNat x1))) (Int.toNat x0) (Int.toNat x1) : Value), .slice (some ⟨β 3, 0, none⟩) 4 4, .int .i64 0] w' (Vc.Ret (.bool b5) w')) ∧
  ((b5 = true) → (
  (.int .i64 (-1) : Value) = v)) ∧ (¬ (b5 = true) → (
  (.int .i64 0 : Value) = v)))))) ∧ (¬ (b3 = true) → (
  ∃ (b4 : Bool), (∀ (β : Nat → Nat) (w' : World), Below w.heap.size w w' → ((w.heap.size ≤ β 3 ∧ w'.heap[β 3]? = some (.cells #[.int .i64 x2, .int .i64 x3, .int .i64 x4, .int .i64 x3, .int .i64 x4, .int .i64 x5, .int .i64 x2, .int .i64 x5] 26)) ∧ True) → Calls Tryz.prog 58 #[(if b0 = true then .slice none 0 0 else .slice (some (Vc.qad p0 (Int.toNat x0) (Int.toNat x1))) (Int.toNat x0) (Int.toNat x1) : Value), .slice (some ⟨β 3, 0, none⟩) 4 4, .int .i64 0] w' (Vc.Ret (.bool b4) w')) ∧
  ((b4 = true) → (
  (.int .i64 (-1) : Value) = v)) ∧ (¬ (b4 = true) → (
  (.int .i64 0 : Value) = v)))))) ∧ (¬ (b2 = true) → (
  ∃ (b3 : Bool), (∀ (β : Nat → Nat) (w' : World), Below w.heap.size w w' → ((w.heap.size ≤ β 3 ∧ w'.heap[β 3]? = some (.cells #[.int .i64 x2, .int .i64 x3, .int .i64 x4, .int .i64 x3, .int .i64 x4, .int .i64 x5, .int .i64 x2, .int .i64 x5] 26)) ∧ True) → Calls Tryz.prog 58 #[(if b0 = true then .slice none 0 0 else .slice (some (Vc.qad p0 (Int.toNat x0) (Int.toNat x1))) (Int.toNat x0) (Int.toNat x1) : Value), .slice (some ⟨β 3, 0, none⟩) 4 4, .int .i64 0] w' (Vc.Ret (.bool b3) w')) ∧
  ((b3 = true) → (
  (.int .i64 (-1) : Value) = v)) ∧ (¬ (b3 = true) → (
  (.int .i64 0 : Value) = v)))))) ∧ (¬ (b1 = true) → (
  ∃ (b2 : Bool), (∀ (β : Nat → Nat) (w' : World), Below w.heap.size w w' → ((w.heap.size ≤ β 3 ∧ w'.heap[β 3]? = some (.cells #[.int .i64 x2, .int .i64 x3, .int .i64 x4, .int .i64 x3, .int .i64 x4, .int .i64 x5, .int .i64 x2, .int .i64 x5] 26)) ∧ True) → Calls Tryz.prog 58 #[(if b0 = true then .slice none 0 0 else .slice (some (Vc.qad p0 (Int.toNat x0) (Int.toNat x1))) (Int.toNat x0) (Int.toNat x1) : Value), .slice (some ⟨β 3, 0, none⟩) 4 4, .int .i64 0] w' (Vc.Ret (.bool b2) w')) ∧
  ((b2 = true) → (
  (.int .i64 (-1) : Value) = v)) ∧ (¬ (b2 = true) → (
  (.int .i64 0 : Value) = v))))) : Calls Tryz.prog 38 #[.agg #[.string ⟨s0.toArray⟩, (if b0 = true then .slice none 0 0 else .slice (some (Vc.qad p0 (Int.toNat x0) (Int.toNat x1))) (Int.toNat x0) (Int.toNat x1) : Value)], .agg #[.int .i64 x2, .int .i64 x3, .int .i64 x4, .int .i64 x5]] w (Vc.Ret v w) :=
  Vc.pure_of (base_inl [81] (by kernel_rfl)) [(2000000000004, .unroll)] 200 Tryz.func38 (b := (Tryz.f38.body).getD .skip) (by kernel_rfl) [.cv (.agg [.sv 0, .qsl 0 0 2 (.var 0) (.var 1)]), .cv (.agg [.int .i64 (.var 2), .int .i64 (.var 3), .int .i64 (.var 4), .int .i64 (.var 5)])] ⟨6, 1, 0, 1, 0, 1, 0⟩ (Vc.envOf [x0, x1, x2, x3, x4, x5] [b0] [] [p0] [s0]) (by kernel_rfl) (by kernel_rfl) (by kernel_rfl) h

theorem vc_ullageref09_grown (x0 x1 x2 x3 x4 : Int) (w : World) (v : Value) (h : 
  ∀ x5 : Int, x5 = IntKind.i64.wrap (x0 - x4) →
  ∀ x6 : Int, x6 = IntKind.i64.wrap (x1 - x4) →
  ∀ x7 : Int, x7 = IntKind.i64.wrap (x2 + x4) →
  ∀ x8 : Int, x8 = IntKind.i64.wrap (x3 + x4) →
  (.agg #[.int .i64 x5, .int .i64 x6, .int .i64 x7, .int .i64 x8] : Value) = v) : Calls Tryz.prog 54 #[.agg #[.int .i64 x0, .int .i64 x1, .int .i64 x2, .int .i64 x3], .int .i64 x4] w (Vc.Ret v w) :=
  Vc.pure_of base [] 200 Tryz.func54 (b := (Tryz.f54.body).getD .skip) (by kernel_rfl) [.cv (.agg [.int .i64 (.var 0), .int .i64 (.var 1), .int .i64 (.var 2), .int .i64 (.var 3)]), .cv (.one (.int .i64 (.var 4)))] ⟨5, 0, 0, 0, 0, 0, 0⟩ (Vc.envOf [x0, x1, x2, x3, x4] [] [] []) (by kernel_rfl) (by kernel_rfl) (by kernel_rfl) h

theorem vc_ullageref09_clipped (x0 : Int) (w : World) (v : Value) (h : 
  ∀ x1 : Int, x1 = (if x0 < 536870912 then x0 else 536870912) →
  ∀ x2 : Int, x2 = (if x1 > (-536870912) then x1 else (-536870912)) →
  (.int .i64 x2 : Value) = v) : Calls Tryz.prog 69 #[.int .i64 x0] w (Vc.Ret v w) :=
  Vc.pure_of base [] 200 Tryz.func69 (b := (Tryz.f69.body).getD .skip) (by kernel_rfl) [.cv (.one (.int .i64 (.var 0)))] ⟨1, 0, 0, 0, 0, 0, 0⟩ (Vc.envOf [x0] [] [] []) (by kernel_rfl) (by kernel_rfl) (by kernel_rfl) h

theorem vc_ullageref09_Tick (p0 p1 p2 : Nat × Nat) (x0 x1 x2 x3 x4 x5 x6 x7 x8 x9 x10 x11 x12 x13 x14 x15 x16 x17 x18 : Int) (b0 b1 b2 b3 b4 b5 : Bool) (s0 : List UInt8) (w : World) (v : Value) (h : 
  ((b3 = true) → (
  (.tuple #[.agg #[.string ⟨s0.toArray⟩, (if b0 = true then .slice none 0 0 else .slice (some (Vc.qad p0 (Int.toNat x0) (Int.toNat x1))) (Int.toNat x0) (Int.toNat x1) : Value), (if b1 = true then .slice none 0 0 else .slice (some (Vc.qad p1 (Int.toNat x2) (Int.toNat x3))) (Int.toNat x2) (Int.toNat x3) : Value), (if b2 = true then .slice none 0 0 else .slice (some (Vc.qad p2 (Int.toNat x4) (Int.toNat x5))) (Int.toNat x4) (Int.toNat x5) : Value), .int .i64 x6, .int .i64 x7, .int .i64 x8, .int .i64 x9, .bool b3, .bool b4, .int .i64 x10, .int .i64 x11, .int .i64 x12, .int .i64 x13, .int .i64 x14], .agg #[.bool false, .int .i64 0, .bool false, .int .i64 0, .int .i64 0, .int .i64 0, .int .i64 0], .int .i64 9] : Value) = v)) ∧ (¬ (b3 = true) → (
  ((b5 = true) → (
  ∃ (b6 : Bool), (∀ w' : World, Below w.heap.size w w' → Calls Tryz.prog 37 #[.agg #[.int .i64 x15, .int .i64 x16, .int .i64 x17, .int .i64 x18]] w' (Vc.Ret (.bool b6) w')) ∧
  ((b6 = true) → (
  ((b5 = true) → (
  ∃ (x19 : Int), (∀ w' : World, Below w.heap.size w w' → Calls Tryz.prog 38 #[.agg #[.string ⟨s0.toArray⟩, (if b0 = true then .slice none 0 0 else .slice (some (Vc.qad p0 (Int.toNat x0) (Int.toNat x1))) (Int.toNat x0) (Int.toNat x1) : Value)], .agg #[.int .i64 x15, .int .i64 x16, .int .i64 x17, .int .i64 x18]] w' (Vc.Ret (.int .i64 x19) w')) ∧
  ((x19 = 1) → (
  ((x19 = 0) → (
  ((x19 = (-1)) → (
  (.tuple #[.agg #[.string ⟨s0.toArray⟩, (if b0 = true then .slice none 0 0 else .slice (some (Vc.qad p0 (Int.toNat x0) (Int.toNat x1))) (Int.toNat x0) (Int.toNat x1) : Value), (if b1 = true then .slice none 0 0 else .slice (some (Vc.qad p1 (Int.toNat x2) (Int.toNat x3))) (Int.toNat x2) (Int.toNat x3) : Value), (if b2 = true then .slice none 0 0 else .slice (some (Vc.qad p2 (Int.toNat x4) (Int.toNat x5))) (Int.toNat x4) (Int.toNat x5) : Value), .int .i64 x6, .int .i64 x7, .int .i64 x8, .int .i64 x9, .bool true, .bool true, .int .i64 x15, .int .i64 x16, .int .i64 x17, .int .i64 x18, .int .i64 1], .agg #[.bool true, .int .i64 1, .bool true, .int .i64 x15, .int .i64 x16, .int .i64 x17, .int .i64 x18], .int .i64 0] : Value) = v)) ∧ (¬ (x19 = (-1)) → (
  ((x7 < 1) → (
  (.tuple #[.agg #[.string ⟨s0.toArray⟩, (if b0 = true then .slice none 0 0 else .slice (some (Vc.qad p0 (Int.toNat x0) (Int.toNat x1))) (Int.toNat x0) (Int.toNat x1) : Value), (if b1 = true then .slice none 0 0 else .slice (some (Vc.qad p1 (Int.toNat x2) (Int.toNat x3))) (Int.toNat x2) (Int.toNat x3) : Value), (if b2 = true then .slice none 0 0 else .slice (some (Vc.qad p2 (Int.toNat x4) (Int.toNat x5))) (Int.toNat x4) (Int.toNat x5) : Value), .int .i64 x6, .int .i64 x7, .int .i64 x8, .int .i64 x9, .bool true, .bool true, .int .i64 x15, .int .i64 x16, .int .i64 x17, .int .i64 x18, .int .i64 1], .agg #[.bool true, .int .i64 2, .bool true, .int .i64 x15, .int .i64 x16, .int .i64 x17, .int .i64 x18], .int .i64 0] : Value) = v)) ∧ (¬ (x7 < 1) → (
  (.tuple #[.agg #[.string ⟨s0.toArray⟩, (if b0 = true then .slice none 0 0 else .slice (some (Vc.qad p0 (Int.toNat x0) (Int.toNat x1))) (Int.toNat x0) (Int.toNat x1) : Value), (if b1 = true then .slice none 0 0 else .slice (some (Vc.qad p1 (Int.toNat x2) (Int.toNat x3))) (Int.toNat x2) (Int.toNat x3) : Value), (if b2 = true then .slice none 0 0 else .slice (some (Vc.qad p2 (Int.toNat x4) (Int.toNat x5))) (Int.toNat x4) (Int.toNat x5) : Value), .int .i64 x6, .int .i64 x7, .int .i64 x8, .int .i64 x9, .bool false, .bool true, .int .i64 x15, .int .i64 x16, .int .i64 x17, .int .i64 x18, .int .i64 1], .agg #[.bool false, .int .i64 0, .bool true, .int .i64 x15, .int .i64 x16, .int .i64 x17, .int .i64 x18], .int .i64 0] : Value) = v)))))) ∧ (¬ (x19 = 0) → (
  ((x19 = (-1)) → (
  (.tuple #[.agg #[.string ⟨s0.toArray⟩, (if b0 = true then .slice none 0 0 else .slice (some (Vc.qad p0 (Int.toNat x0) (Int.toNat x1))) (Int.toNat x0) (Int.toNat x1) : Value), (if b1 = true then .slice none 0 0 else .slice (some (Vc.qad p1 (Int.toNat x2) (Int.toNat x3))) (Int.toNat x2) (Int.toNat x3) : Value), (if b2 = true then .slice none 0 0 else .slice (some (Vc.qad p2 (Int.toNat x4) (Int.toNat x5))) (Int.toNat x4) (Int.toNat x5) : Value), .int .i64 x6, .int .i64 x7, .int .i64 x8, .int .i64 x9, .bool true, .bool true, .int .i64 x15, .int .i64 x16, .int .i64 x17, .int .i64 x18, .int .i64 0], .agg #[.bool true, .int .i64 1, .bool true, .int .i64 x15, .int .i64 x16, .int .i64 x17, .int .i64 x18], .int .i64 0] : Value) = v)) ∧ (¬ (x19 = (-1)) → (
  ((x7 < 0) → (
  (.tuple #[.agg #[.string ⟨s0.toArray⟩, (if b0 = true then .slice none 0 0 else .slice (some (Vc.qad p0 (Int.toNat x0) (Int.toNat x1))) (Int.toNat x0) (Int.toNat x1) : Value), (if b1 = true then .slice none 0 0 else .slice (some (Vc.qad p1 (Int.toNat x2) (Int.toNat x3))) (Int.toNat x2) (Int.toNat x3) : Value), (if b2 = true then .slice none 0 0 else .slice (some (Vc.qad p2 (Int.toNat x4) (Int.toNat x5))) (Int.toNat x4) (Int.toNat x5) : Value), .int .i64 x6, .int .i64 x7, .int .i64 x8, .int .i64 x9, .bool true, .bool true, .int .i64 x15, .int .i64 x16, .int .i64 x17, .int .i64 x18, .int .i64 0], .agg #[.bool true, .int .i64 2, .bool true, .int .i64 x15, .int .i64 x16, .int .i64 x17, .int .i64 x18], .int .i64 0] : Value) = v)) ∧ (¬ (x7 < 0) → (
  (.tuple #[.agg #[.string ⟨s0.toArray⟩, (if b0 = true then .slice none 0 0 else .slice (some (Vc.qad p0 (Int.toNat x0) (Int.toNat x1))) (Int.toNat x0) (Int.toNat x1) : Value), (if b1 = true then .slice none 0 0 else .slice (some (Vc.qad p1 (Int.toNat x2) (Int.toNat x3))) (Int.toNat x2) (Int.toNat x3) : Value), (if b2 = true then .slice none 0 0 else .slice (some (Vc.qad p2 (Int.toNat x4) (Int.toNat x5))) (Int.toNat x4) (Int.toNat x5) : Value), .int .i64 x6, .int .i64 x7, .int .i64 x8, .int .i64 x9, .bool false, .bool true, .int .i64 x15, .int .i64 x16, .int .i64 x17, .int .i64 x18, .int .i64 0], .agg #[.bool false, .int .i64 0, .bool true, .int .i64 x15, .int .i64 x16, .int .i64 x17, .int .i64 x18], .int .i64 0] : Value) = v)))))))) ∧ (¬ (x19 = 1) → (
  ((x19 = 0) → (
  ∀ x20 : Int, x20 = IntKind.i64.wrap (x14 + 1) →
  ((x19 = (-1)) → (
  (.tuple #[.agg #[.string ⟨s0.toArray⟩, (if b0 = true then .slice none 0 0 else .slice (some (Vc.qad p0 (Int.toNat x0) (Int.toNat x1))) (Int.toNat x0) (Int.toNat x1) : Value), (if b1 = true then .slice none 0 0 else .slice (some (Vc.qad p1 (Int.toNat x2) (Int.toNat x3))) (Int.toNat x2) (Int.toNat x3) : Value), (if b2 = true then .slice none 0 0 else .slice (some (Vc.qad p2 (Int.toNat x4) (Int.toNat x5))) (Int.toNat x4) (Int.toNat x5) : Value), .int .i64 x6, .int .i64 x7, .int .i64 x8, .int .i64 x9, .bool true, .bool true, .int .i64 x15, .int .i64 x16, .int .i64 x17, .int .i64 x18, .int .i64 x20], .agg #[.bool true, .int .i64 1, .bool true, .int .i64 x15, .int .i64 x16, .int .i64 x17, .int .i64 x18], .int .i64 0] : Value) = v)) ∧ (¬ (x19 = (-1)) → (
  ((x7 < x20) → (
  (.tuple #[.agg #[.string ⟨s0.toArray⟩, (if b0 = true then .slice none 0 0 else .slice (some (Vc.qad p0 (Int.toNat x0) (Int.toNat x1))) (Int.toNat x0) (Int.toNat x1) : Value), (if b1 = true then .slice none 0 0 else .slice (some (Vc.qad p1 (Int.toNat x2) (Int.toNat x3))) (Int.toNat x2) (Int.toNat x3) : Value), (if b2 = true then .slice none 0 0 else .slice (some (Vc.qad p2 (Int.toNat x4) (Int.toNat x5))) (Int.toNat x4) (Int.toNat x5) : Value), .int .i64 x6, .int .i64 x7, .int .i64 x8, .int .i64 x9, .bool true, .bool true, .int .i64 x15, .int .i64 x16, .int .i64 x17, .int .i64 x18, .int .i64 x20], .agg #[.bool true, .int .i64 2, .bool true, .int .i64 x15, .int .i64 x16, .int .i64 x17, .int .i64 x18], .int .i64 0] : Value) = v)) ∧ (¬ (x7 < x20) → (
  (.tuple #[.agg #[.string ⟨s0.toArray⟩, (if b0 = true then .slice none 0 0 else .slice (some (Vc.qad p0 (Int.toNat x0) (Int.toNat x1))) (Int.toNat x0) (Int.toNat x1) : Value), (if b1 = true then .slice none 0 0 else .slice (some (Vc.qad p1 (Int.toNat x2) (Int.toNat x3))) (Int.toNat x2) (Int.toNat x3) : Value), (if b2 = true then .slice none 0 0 else .slice (some (Vc.qad p2 (Int.toNat x4) (Int.toNat x5))) (Int.toNat x4) (Int.toNat x5) : Value), .int .i64 x6, .int .i64 x7, .int .i64 x8, .int .i64 x9, .bool false, .bool true, .int .i64 x15, .int .i64 x16, .int .i64 x17, .int .i64 x18, .int .i64 x20], .agg #[.bool false, .int .i64 0, .bool true, .int .i64 x15, .int .i64 x16, .int .i64 x17, .int .i64 x18], .int .i64 0] : Value) = v)))))) ∧ (¬ (x19 = 0) → (
  ((x19 = (-1)) → (
  (.tuple #[.agg #[.string ⟨s0.toArray⟩, (if b0 = true then .slice none 0 0 else .slice (some (Vc.qad p0 (Int.toNat x0) (Int.toNat x1))) (Int.toNat x0) (Int.toNat x1) : Value), (if b1 = true then .slice none 0 0 else .slice (some (Vc.qad p1 (Int.toNat x2) (Int.toNat x3))) (Int.toNat x2) (Int.toNat x3) : Value), (if b2 = true then .slice none 0 0 else .slice (some (Vc.qad p2 (Int.toNat x4) (Int.toNat x5))) (Int.toNat x4) (Int.toNat x5) : Value), .int .i64 x6, .int .i64 x7, .int .i64 x8, .int .i64 x9, .bool true, .bool true, .int .i64 x15, .int .i64 x16, .int .i64 x17, .int .i64 x18, .int .i64 x14], .agg #[.bool true, .int .i64 1, .bool true, .int .i64 x15, .int .i64 x16, .int .i64 x17, .int .i64 x18], .int .i64 0] : Value) = v)) ∧ (¬ (x19 = (-1)) → (
  ((x7 < x14) → (
  (.tuple #[.agg #[.string ⟨s0.toArray⟩, (if b0 = true then .slice none 0 0 else .slice (some (Vc.qad p0 (Int.toNat x0) (Int.toNat x1))) (Int.toNat x0) (Int.toNat x1) : Value), (if b1 = true then .slice none 0 0 else .slice (some (Vc.qad p1 (Int.toNat x2) (Int.toNat x3))) (Int.toNat x2) (Int.toNat x3) : Value), (if b2 = true then .slice none 0 0 else .slice (some (Vc.qad p2 (Int.toNat x4) (Int.toNat x5))) (Int.toNat x4) (Int.toNat x5) : Value), .int .i64 x6, .int .i64 x7, .int .i64 x8, .int .i64 x9, .bool true, .bool true, .int .i64 x15, .int .i64 x16, .int .i64 x17, .int .i64 x18, .int .i64 x14], .agg #[.bool true, .int .i64 2, .bool true, .int .i64 x15, .int .i64 x16, .int .i64 x17, .int .i64 x18], .int .i64 0] : Value) = v)) ∧ (¬ (x7 < x14) → (
  (.tuple #[.agg #[.string ⟨s0.toArray⟩, (if b0 = true then .slice none 0 0 else .slice (some (Vc.qad p0 (Int.toNat x0) (Int.toNat x1))) (Int.toNat x0) (Int.toNat x1) : Value), (if b1 = true then .slice none 0 0 else .slice (some (Vc.qad p1 (Int.toNat x2) (Int.toNat x3))) (Int.toNat x2) (Int.toNat x3) : Value), (if b2 = true then .slice none 0 0 else .slice (some (Vc.qad p2 (Int.toNat x4) (Int.toNat x5))) (Int.toNat x4) (Int.toNat x5) : Value), .int .i64 x6, .int .i64 x7, .int .i64 x8, .int .i64 x9, .bool false, .bool true, .int .i64 x15, .int .i64 x16, .int .i64 x17, .int .i64 x18, .int .i64 x14], .agg #[.bool false, .int .i64 0, .bool true, .int .i64 x15, .int .i64 x16, .int .i64 x17, .int .i64 x18], .int .i64 0] : Value) = v)))))))))) ∧ (¬ (b5 = true) → (
  ((b4 = true) → (
  ∃ (x19 : Int), ∃ (x20 : Int), ∃ (x21 : Int), ∃ (x22 : Int), (∀ w' : World, Below w.heap.size w w' → Calls Tryz.prog 54 #[.agg #[.int .i64 x10, .int .i64 x11, .int .i64 x12, .int .i64 x13], .int .i64 x6] w' (Vc.Ret (.agg #[.int .i64 x19, .int .i64 x20, .int .i64 x21, .int .i64 x22]) w')) ∧
  ∃ (x23 : Int), (∀ w' : World, Below w.heap.size w w' → Calls Tryz.prog 69 #[.int .i64 x19] w' (Vc.Ret (.int .i64 x23) w')) ∧
  ∃ (x24 : Int), (∀ w' : World, Below w.heap.size w w' → Calls Tryz.prog 69 #[.int .i64 x20] w' (Vc.Ret (.int .i64 x24) w')) ∧
  ∃ (x25 : Int), (∀ w' : World, Below w.heap.size w w' → Calls Tryz.prog 69 #[.int .i64 x21] w' (Vc.Ret (.int .i64 x25) w')) ∧
  ∃ (x26 : Int), (∀ w' : World, Below w.heap.size w w' → Calls Tryz.prog 69 #[.int .i64 x22] w' (Vc.Ret (.int .i64 x26) w')) ∧
  ((b4 = true) → (
  ∃ (x27 : Int), (∀ w' : World, Below w.heap.size w w' → Calls Tryz.prog 38 #[.agg #[.string ⟨s0.toArray⟩, (if b0 = true then .slice none 0 0 else .slice (some (Vc.qad p0 (Int.toNat x0) (Int.toNat x1))) (Int.toNat x0) (Int.toNat x1) : Value)], .agg #[.int .i64 x23, .int .i64 x24, .int .i64 x25, .int .i64 x26]] w' (Vc.Ret (.int .i64 x27) w')) ∧
  ((x27 = 1) → (
  ((x27 = 0) → (
  ((x27 = (-1)) → (
  (.tuple #[.agg #[.string ⟨s0.toArray⟩, (if b0 = true then .slice none 0 0 else .slice (some (Vc.qad p0 (Int.toNat x0) (Int.toNat x1))) (Int.toNat x0) (Int.toNat x1) : Value), (if b1 = true then .slice none 0 0 else .slice (some (Vc.qad p1 (Int.toNat x2) (Int.toNat x3))) (Int.toNat x2) (Int.toNat x3) : Value), (if b2 = true then .slice none 0 0 else .slice (some (Vc.qad p2 (Int.toNat x4) (Int.toNat x5))) (Int.toNat x4) (Int.toNat x5) : Value), .int .i64 x6, .int .i64 x7, .int .i64 x8, .int .i64 x9, .bool true, .bool b4, .int .i64 x23, .int .i64 x24, .int .i64 x25, .int .i64 x26, .int .i64 1], .agg #[.bool true, .int .i64 1, .bool b4, .int .i64 x23, .int .i64 x24, .int .i64 x25, .int .i64 x26], .int .i64 0] : Value) = v)) ∧ (¬ (x27 = (-1)) → (
  ((x7 < 1) → (
  (.tuple #[.agg #[.string ⟨s0.toArray⟩, (if b0 = true then .slice none 0 0 else .slice (some (Vc.qad p0 (Int.toNat x0) (Int.toNat x1))) (Int.toNat x0) (Int.toNat x1) : Value), (if b1 = true then .slice none 0 0 else .slice (some (Vc.qad p1 (Int.toNat x2) (Int.toNat x3))) (Int.toNat x2) (Int.toNat x3) : Value), (if b2 = true then .slice none 0 0 else .slice (some (Vc.qad p2 (Int.toNat x4) (Int.toNat x5))) (Int.toNat x4) (Int.toNat x5) : Value), .int .i64 x6, .int .i64 x7, .int .i64 x8, .int .i64 x9, .bool true, .bool b4, .int .i64 x23, .int .i64 x24, .int .i64 x25, .int .i64 x26, .int .i64 1], .agg #[.bool true, .int .i64 2, .bool b4, .int .i64 x23, .int .i64 x24, .int .i64 x25, .int .i64 x26], .int .i64 0] : Value) = v)) ∧ (¬ (x7 < 1) → (
  (.tuple #[.agg #[.string ⟨s0.toArray⟩, (if b0 = true then .slice none 0 0 else .slice (some (Vc.qad p0 (Int.toNat x0) (Int.toNat x1))) (Int.toNat x0) (Int.toNat x1) : Value), (if b1 = true then .slice none 0 0 else .slice (some (Vc.qad p1 (Int.toNat x2) (Int.toNat x3))) (Int.toNat x2) (Int.toNat x3) : Value), (if b2 = true then .slice none 0 0 else .slice (some (Vc.qad p2 (Int.toNat x4) (Int.toNat x5))) (Int.toNat x4) (Int.toNat x5) : Value), .int .i64 x6, .int .i64 x7, .int .i64 x8, .int .i64 x9, .bool false, .bool b4, .int .i64 x23, .int .i64 x24, .int .i64 x25, .int .i64 x26, .int .i64 1], .agg #[.bool false, .int .i64 0, .bool b4, .int .i64 x23, .int .i64 x24, .int .i64 x25, .int .i64 x26], .int .i64 0] : Value) = v)))))) ∧ (¬ (x27 = 0) → (
  ((x27 = (-1)) → (
  (.tuple #[.agg #[.string ⟨s0.toArray⟩, (if b0 = true then .slice none 0 0 else .slice (some (Vc.qad p0 (Int.toNat x0) (Int.toNat x1))) (Int.toNat x0) (Int.toNat x1) : Value), (if b1 = true then .slice none 0 0 else .slice (some (Vc.qad p1 (Int.toNat x2) (Int.toNat x3))) (Int.toNat x2) (Int.toNat x3) : Value), (if b2 = true then .slice none 0 0 else .slice (some (Vc.qad p2 (Int.toNat x4) (Int.toNat x5))) (Int.toNat x4) (Int.toNat x5) : Value), .int .i64 x6, .int .i64 x7, .int .i64 x8, .int .i64 x9, .bool true, .bool b4, .int .i64 x23, .int .i64 x24, .int .i64 x25, .int .i64 x26, .int .i64 0], .agg #[.bool true, .int .i64 1, .bool b4, .int .i64 x23, .int .i64 x24, .int .i64 x25, .int .i64 x26], .int .i64 0] : Value) = v)) ∧ (¬ (x27 = (-1)) → (
  ((x7 < 0) → (
  (.tuple #[.agg #[.string ⟨s0.toArray⟩, (if b0 = true then .slice none 0 0 else .slice (some (Vc.qad p0 (Int.toNat x0) (Int.toNat x1))) (Int.toNat x0) (Int.toNat x1) : Value), (if b1 = true then .slice none 0 0 else .slice (some (Vc.qad p1 (Int.toNat x2) (Int.toNat x3))) (Int.toNat x2) (Int.toNat x3) : Value), (if b2 = true then .slice none 0 0 else .slice (some (Vc.qad p2 (Int.toNat x4) (Int.toNat x5))) (Int.toNat x4) (Int.toNat x5) : Value), .int .i64 x6, .int .i64 x7, .int .i64 x8, .int .i64 x9, .bool true, .bool b4, .int .i64 x23, .int .i64 x24, .int .i64 x25, .int .i64 x26, .int .i64 0], .agg #[.bool true, .int .i64 2, .bool b4, .int .i64 x23, .int .i64 x24, .int .i64 x25, .int .i64 x26], .int .i64 0] : Value) = v)) ∧ (¬ (x7 < 0) → (
  (.tuple #[.agg #[.string ⟨s0.toArray⟩, (if b0 = true then .slice none 0 0 else .slice (some (Vc.qad p0 (Int.toNat x0) (Int.toNat x1))) (Int.toNat x0) (Int.toNat x1) : Value), (if b1 = true then .slice none 0 0 else .slice (some (Vc.qad p1 (Int.toNat x2) (Int.toNat x3))) (Int.toNat x2) (Int.toNat x3) : Value), (if b2 = true then .slice none 0 0 else .slice (some (Vc.qad p2 (Int.toNat x4) (Int.toNat x5))) (Int.toNat x4) (Int.toNat x5) : Value), .int .i64 x6, .int .i64 x7, .int .i64 x8, .int .i64 x9, .bool false, .bool b4, .int .i64 x23, .int .i64 x24, .int .i64 x25, .int .i64 x26, .int .i64 0], .agg #[.bool false, .int .i64 0, .bool b4, .int .i64 x23, .int .i64 x24, .int .i64 x25, .int .i64 x26], .int .i64 0] : Value) = v)))))))) ∧ (¬ (x27 = 1) → (
  ((x27 = 0) → (
  ∀ x28 : Int, x28 = IntKind.i64.wrap (x14 + 1) →
  ((x27 = (-1)) → (
  (.tuple #[.agg #[.string ⟨s0.toArray⟩, (if b0 = true then .slice none 0 0 else .slice (some (Vc.qad p0 (Int.toNat x0) (Int.toNat x1))) (Int.toNat x0) (Int.toNat x1) : Value), (if b1 = true then .slice none 0 0 else .slice (some (Vc.qad p1 (Int.toNat x2) (Int.toNat x3))) (Int.toNat x2) (Int.toNat x3) : Value), (if b2 = true then .slice none 0 0 else .slice (some (Vc.qad p2 (Int.toNat x4) (Int.toNat x5))) (Int.toNat x4) (Int.toNat x5) : Value), .int .i64 x6, .int .i64 x7, .int .i64 x8, .int .i64 x9, .bool true, .bool b4, .int .i64 x23, .int .i64 x24, .int .i64 x25, .int .i64 x26, .int .i64 x28], .agg #[.bool true, .int .i64 1, .bool b4, .int .i64 x23, .int .i64 x24, .int .i64 x25, .int .i64 x26], .int .i64 0] : Value) = v)) ∧ (¬ (x27 = (-1)) → (
  ((x7 < x28) → (
  (.tuple #[.agg #[.string ⟨s0.toArray⟩, (if b0 = true then .slice none 0 0 else .slice (some (Vc.qad p0 (Int.toNat x0) (Int.toNat x1))) (Int.toNat x0) (Int.toNat x1) : Value), (if b1 = true then .slice none 0 0 else .slice (some (Vc.qad p1 (Int.toNat x2) (Int.toNat x3))) (Int.toNat x2) (Int.toNat x3) : Value), (if b2 = true then .slice none 0 0 else .slice (some (Vc.qad p2 (Int.toNat x4) (Int.toNat x5))) (Int.toNat x4) (Int.toNat x5) : Value), .int .i64 x6, .int .i64 x7, .int .i64 x8, .int .i64 x9, .bool true, .bool b4, .int .i64 x23, .int .i64 x24, .int .i64 x25, .int .i64 x26, .int .i64 x28], .agg #[.bool true, .int .i64 2, .bool b4, .int .i64 x23, .int .i64 x24, .int .i64 x25, .int .i64 x26], .int .i64 0] : Value) = v)) ∧ (¬ (x7 < x28) → (
  (.tuple #[.agg #[.string ⟨s0.toArray⟩, (if b0 = true then .slice none 0 0 else .slice (some (Vc.qad p0 (Int.toNat x0) (Int.toNat x1))) (Int.toNat x0) (Int.toNat x1) : Value), (if b1 = true then .slice none 0 0 else .slice (some (Vc.qad p1 (Int.toNat x2) (Int.toNat x3))) (Int.toNat x2) (Int.toNat x3) : Value), (if b2 = true then .slice none 0 0 else .slice (some (Vc.qad p2 (Int.toNat x4) (Int.toNat x5))) (Int.toNat x4) (Int.toNat x5) : Value), .int .i64 x6, .int .i64 x7, .int .i64 x8, .int .i64 x9, .bool false, .bool b4, .int .i64 x23, .int .i64 x24, .int .i64 x25, .int .i64 x26, .int .i64 x28], .agg #[.bool false, .int .i64 0, .bool b4, .int .i64 x23, .int .i64 x24, .int .i64 x25, .int .i64 x26], .int .i64 0] : Value) = v)))))) ∧ (¬ (x27 = 0) → (
  ((x27 = (-1)) → (
  (.tuple #[.agg #[.string ⟨s0.toArray⟩, (if b0 = true then .slice none 0 0 else .slice (some (Vc.qad p0 (Int.toNat x0) (Int.toNat x1))) (Int.toNat x0) (Int.toNat x1) : Value), (if b1 = true then .slice none 0 0 else .slice (some (Vc.qad p1 (Int.toNat x2) (Int.toNat x3))) (Int.toNat x2) (Int.toNat x3) : Value), (if b2 = true then .slice none 0 0 else .slice (some (Vc.qad p2 (Int.toNat x4) (Int.toNat x5))) (Int.toNat x4) (Int.toNat x5) : Value), .int .i64 x6, .int .i64 x7, .int .i64 x8, .int .i64 x9, .bool true, .bool b4, .int .i64 x23, .int .i64 x24, .int .i64 x25, .int .i64 x26, .int .i64 x14], .agg #[.bool true, .int .i64 1, .bool b4, .int .i64 x23, .int .i64 x24, .int .i64 x25, .int .i64 x26], .int .i64 0] : Value) = v)) ∧ (¬ (x27 = (-1)) → (
  ((x7 < x14) → (
  (.tuple #[.agg #[.string ⟨s0.toArray⟩, (if b0 = true then .slice none 0 0 else .slice (some (Vc.qad p0 (Int.toNat x0) (Int.toNat x1))) (Int.toNat x0) (Int.toNat x1) : Value), (if b1 = true then .slice none 0 0 else .slice (some (Vc.qad p1 (Int.toNat x2) (Int.toNat x3))) (Int.toNat x2) (Int.toNat x3) : Value), (if b2 = true then .slice none 0 0 else .slice (some (Vc.qad p2 (Int.toNat x4) (Int.toNat x5))) (Int.toNat x4) (Int.toNat x5) : Value), .int .i64 x6, .int .i64 x7, .int .i64 x8, .int .i64 x9, .bool true, .bool b4, .int .i64 x23, .int .i64 x24, .int .i64 x25, .int .i64 x26, .int .i64 x14], .agg #[.bool true, .int .i64 2, .bool b4, .int .i64 x23, .int .i64 x24, .int .i64 x25, .int .i64 x26], .int .i64 0] : Value) = v)) ∧ (¬ (x7 < x14) → (
  (.tuple #[.agg #[.string ⟨s0.toArray⟩, (if b0 = true then .slice none 0 0 else .slice (some (Vc.qad p0 (Int.toNat x0) (Int.toNat x1))) (Int.toNat x0) (Int.toNat x1) : Value), (if b1 = true then .slice none 0 0 else .slice (some (Vc.qad p1 (Int.toNat x2) (Int.toNat x3))) (Int.toNat x2) (Int.toNat x3) : Value), (if b2 = true then .slice none 0 0 else .slice (some (Vc.qad p2 (Int.toNat x4) (Int.toNat x5))) (Int.toNat x4) (Int.toNat x5) : Value), .int .i64 x6, .int .i64 x7, .int .i64 x8, .int .i64 x9, .bool false, .bool b4, .int .i64 x23, .int .i64 x24, .int .i64 x25, .int .i64 x26, .int .i64 x14], .agg #[.bool false, .int .i64 0, .bool b4, .int .i64 x23, .int .i64 x24, .int .i64 x25, .int .i64 x26], .int .i64 0] : Value) = v)))))))))) ∧ (¬ (b4 = true) → (
  ∀ x27 : Int, x27 = IntKind.i64.wrap (x14 + 1) →
  ((x7 < x27) → (
  (.tuple #[.agg #[.string ⟨s0.toArray⟩, (if b0 = true then .slice none 0 0 else .slice (some (Vc.qad p0 (Int.toNat x0) (Int.toNat x1))) (Int.toNat x0) (Int.toNat x1) : Value), (if b1 = true then .slice none 0 0 else .slice (some (Vc.qad p1 (Int.toNat x2) (Int.toNat x3))) (Int.toNat x2) (Int.toNat x3) : Value), (if b2 = true then .slice none 0 0 else .slice (some (Vc.qad p2 (Int.toNat x4) (Int.toNat x5))) (Int.toNat x4) (Int.toNat x5) : Value), .int .i64 x6, .int .i64 x7, .int .i64 x8, .int .i64 x9, .bool true, .bool b4, .int .i64 x23, .int .i64 x24, .int .i64 x25, .int .i64 x26, .int .i64 x27], .agg #[.bool true, .int .i64 2, .bool b4, .int .i64 x23, .int .i64 x24, .int .i64 x25, .int .i64 x26], .int .i64 0] : Value) = v)) ∧ (¬ (x7 < x27) → (
  (.tuple #[.agg #[.string ⟨s0.toArray⟩, (if b0 = true then .slice none 0 0 else .slice (some (Vc.qad p0 (Int.toNat x0) (Int.toNat x1))) (Int.toNat x0) (Int.toNat x1) : Value), (if b1 = true then .slice none 0 0 else .slice (some (Vc.qad p1 (Int.toNat x2) (Int.toNat x3))) (Int.toNat x2) (Int.toNat x3) : Value), (if b2 = true then .slice none 0 0 else .slice (some (Vc.qad p2 (Int.toNat x4) (Int.toNat x5))) (Int.toNat x4) (Int.toNat x5) : Value), .int .i64 x6, .int .i64 x7, .int .i64 x8, .int .i64 x9, .bool false, .bool b4, .int .i64 x23, .int .i64 x24, .int .i64 x25, .int .i64 x26, .int .i64 x27], .agg #[.bool false, .int .i64 0, .bool b4, .int .i64 x23, .int .i64 x24, .int .i64 x25, .int .i64 x26], .int .i64 0] : Value) = v)))))) ∧ (¬ (b4 = true) → (
  ((b4 = true) → (
  ∃ (x19 : Int), (∀ w' : World, Below w.heap.size w w' → Calls Tryz.prog 38 #[.agg #[.string ⟨s0.toArray⟩, (if b0 = true then .slice none 0 0 else .slice (some (Vc.qad p0 (Int.toNat x0) (Int.toNat x1))) (Int.toNat x0) (Int.toNat x1) : Value)], .agg #[.int .i64 x10, .int .i64 x11, .int .i64 x12, .int .i64 x13]] w' (Vc.Ret (.int .i64 x19) w')) ∧
  ((x19 = 1) → (
  ((x19 = 0) → (
  ((x19 = (-1)) → (
  (.tuple #[.agg #[.string ⟨s0.toArray⟩, (if b0 = true then .slice none 0 0 else .slice (some (Vc.qad p0 (Int.toNat x0) (Int.toNat x1))) (Int.toNat x0) (Int.toNat x1) : Value), (if b1 = true then .slice none 0 0 else .slice (some (Vc.qad p1 (Int.toNat x2) (Int.toNat x3))) (Int.toNat x2) (Int.toNat x3) : Value), (if b2 = true then .slice none 0 0 else .slice (some (Vc.qad p2 (Int.toNat x4) (Int.toNat x5))) (Int.toNat x4) (Int.toNat x5) : Value), .int .i64 x6, .int .i64 x7, .int .i64 x8, .int .i64 x9, .bool true, .bool b4, .int .i64 x10, .int .i64 x11, .int .i64 x12, .int .i64 x13, .int .i64 1], .agg #[.bool true, .int .i64 1, .bool b4, .int .i64 x10, .int .i64 x11, .int .i64 x12, .int .i64 x13], .int .i64 0] : Value) = v)) ∧ (¬ (x19 = (-1)) → (
  ((x7 < 1) → (
  (.tuple #[.agg #[.string ⟨s0.toArray⟩, (if b0 = true then .slice none 0 0 else .slice (some (Vc.qad p0 (Int.toNat x0) (Int.toNat x1))) (Int.toNat x0) (Int.toNat x1) : Value), (if b1 = true then .slice none 0 0 else .slice (some (Vc.qad p1 (Int.toNat x2) (Int.toNat x3))) (Int.toNat x2) (Int.toNat x3) : Value), (if b2 = true then .slice none 0 0 else .slice (some (Vc.qad p2 (Int.toNat x4) (Int.toNat x5))) (Int.toNat x4) (Int.toNat x5) : Value), .int .i64 x6, .int .i64 x7, .int .i64 x8, .int .i64 x9, .bool true, .bool b4, .int .i64 x10, .int .i64 x11, .int .i64 x12, .int .i64 x13, .int .i64 1], .agg #[.bool true, .int .i64 2, .bool b4, .int .i64 x10, .int .i64 x11, .int .i64 x12, .int .i64 x13], .int .i64 0] : Value) = v)) ∧ (¬ (x7 < 1) → (
  (.tuple #[.agg #[.string ⟨s0.toArray⟩, (if b0 = true then .slice none 0 0 else .slice (some (Vc.qad p0 (Int.toNat x0) (Int.toNat x1))) (Int.toNat x0) (Int.toNat x1) : Value), (if b1 = true then .slice none 0 0 else .slice (some (Vc.qad p1 (Int.toNat x2) (Int.toNat x3))) (Int.toNat x2) (Int.toNat x3) : Value), (if b2 = true then .slice none 0 0 else .slice (some (Vc.qad p2 (Int.toNat x4) (Int.toNat x5))) (Int.toNat x4) (Int.toNat x5) : Value), .int .i64 x6, .int .i64 x7, .int .i64 x8, .int .i64 x9, .bool false, .bool b4, .int .i64 x10, .int .i64 x11, .int .i64 x12, .int .i64 x13, .int .i64 1], .agg #[.bool false, .int .i64 0, .bool b4, .int .i64 x10, .int .i64 x11, .int .i64 x12, .int .i64 x13], .int .i64 0] : Value) = v)))))) ∧ (¬ (x19 = 0) → (
  ((x19 = (-1)) → (
  (.tuple #[.agg #[.string ⟨s0.toArray⟩, (if b0 = true then .slice none 0 0 else .slice (some (Vc.qad p0 (Int.toNat x0) (Int.toNat x1))) (Int.toNat x0) (Int.toNat x1) : Value), (if b1 = true then .slice none 0 0 else .slice (some (Vc.qad p1 (Int.toNat x2) (Int.toNat x3))) (Int.toNat x2) (Int.toNat x3) : Value), (if b2 = true then .slice none 0 0 else .slice (some (Vc.qad p2 (Int.toNat x4) (Int.toNat x5))) (Int.toNat x4) (Int.toNat x5) : Value), .int .i64 x6, .int .i64 x7, .int .i64 x8, .int .i64 x9, .bool true, .bool b4, .int .i64 x10, .int .i64 x11, .int .i64 x12, .int .i64 x13, .int .i64 0], .agg #[.bool true, .int .i64 1, .bool b4, .int .i64 x10, .int .i64 x11, .int .i64 x12, .int .i64 x13], .int .i64 0] : Value) = v)) ∧ (¬ (x19 = (-1)) → (
  ((x7 < 0) → (
  (.tuple #[.agg #[.string ⟨s0.toArray⟩, (if b0 = true then .slice none 0 0 else .slice (some (Vc.qad p0 (Int.toNat x0) (Int.toNat x1))) (Int.toNat x0) (Int.toNat x1) : Value), (if b1 = true then .slice none 0 0 else .slice (some (Vc.qad p1 (Int.toNat x2) (Int.toNat x3))) (Int.toNat x2) (Int.toNat x3) : Value), (if b2 = true then .slice none 0 0 else .slice (some (Vc.qad p2 (Int.toNat x4) (Int.toNat x5))) (Int.toNat x4) (Int.toNat x5) : Value), .int .i64 x6, .int .i64 x7, .int .i64 x8, .int .i64 x9, .bool true, .bool b4, .int .i64 x10, .int .i64 x11, .int .i64 x12, .int .i64 x13, .int .i64 0], .agg #[.bool true, .int .i64 2, .bool b4, .int .i64 x10, .int .i64 x11, .int .i64 x12, .int .i64 x13], .int .i64 0] : Value) = v)) ∧ (¬ (x7 < 0) → (
  (.tuple #[.agg #[.string ⟨s0.toArray⟩, (if b0 = true then .slice none 0 0 else .slice (some (Vc.qad p0 (Int.toNat x0) (Int.toNat x1))) (Int.toNat x0) (Int.toNat x1) : Value), (if b1 = true then .slice none 0 0 else .slice (some (Vc.qad p1 (Int.toNat x2) (Int.toNat x3))) (Int.toNat x2) (Int.toNat x3) : Value), (if b2 = true then .slice none 0 0 else .slice (some (Vc.qad p2 (Int.toNat x4) (Int.toNat x5))) (Int.toNat x4) (Int.toNat x5) : Value), .int .i64 x6, .int .i64 x7, .int .i64 x8, .int .i64 x9, .bool false, .bool b4, .int .i64 x10, .int .i64 x11, .int .i64 x12, .int .i64 x13, .int .i64 0], .agg #[.bool false, .int .i64 0, .bool b4, .int .i64 x10, .int .i64 x11, .int .i64 x12, .int .i64 x13], .int .i64 0] : Value) = v)))))))) ∧ (¬ (x19 = 1) → (
  ((x19 = 0) → (
  ∀ x20 : Int, x20 = IntKind.i64.wrap (x14 + 1) →
  ((x19 = (-1)) → (
  (.tuple #[.agg #[.string ⟨s0.toArray⟩, (if b0 = true then .slice none 0 0 else .slice (some (Vc.qad p0 (Int.toNat x0) (Int.toNat x1))) (Int.toNat x0) (Int.toNat x1) : Value), (if b1 = true then .slice none 0 0 else .slice (some (Vc.qad p1 (Int.toNat x2) (Int.toNat x3))) (Int.toNat x2) (Int.toNat x3) : Value), (if b2 = true then .slice none 0 0 else .slice (some (Vc.qad p2 (Int.toNat x4) (Int.toNat x5))) (Int.toNat x4) (Int.toNat x5) : Value), .int .i64 x6, .int .i64 x7, .int .i64 x8, .int .i64 x9, .bool true, .bool b4, .int .i64 x10, .int .i64 x11, .int .i64 x12, .int .i64 x13, .int .i64 x20], .agg #[.bool true, .int .i64 1, .bool b4, .int .i64 x10, .int .i64 x11, .int .i64 x12, .int .i64 x13], .int .i64 0] : Value) = v)) ∧ (¬ (x19 = (-1)) → (
  ((x7 < x20) → (
  (.tuple #[.agg #[.string ⟨s0.toArray⟩, (if b0 = true then .slice none 0 0 else .slice (some (Vc.qad p0 (Int.toNat x0) (Int.toNat x1))) (Int.toNat x0) (Int.toNat x1) : Value), (if b1 = true then .slice none 0 0 else .slice (some (Vc.qad p1 (Int.toNat x2) (Int.toNat x3))) (Int.toNat x2) (Int.toNat x3) : Value), (if b2 = true then .slice none 0 0 else .slice (some (Vc.qad p2 (Int.toNat x4) (Int.toNat x5))) (Int.toNat x4) (Int.toNat x5) : Value), .int .i64 x6, .int .i64 x7, .int .i64 x8, .int .i64 x9, .bool true, .bool b4, .int .i64 x10, .int .i64 x11, .int .i64 x12, .int .i64 x13, .int .i64 x20], .agg #[.bool true, .int .i64 2, .bool b4, .int .i64 x10, .int .i64 x11, .int .i64 x12, .int .i64 x13], .int .i64 0] : Value) = v)) ∧ (¬ (x7 < x20) → (
  (.tuple #[.agg #[.string ⟨s0.toArray⟩, (if b0 = true then .slice none 0 0 else .slice (some (Vc.qad p0 (Int.toNat x0) (Int.toNat x1))) (Int.toNat x0) (Int.toNat x1) : Value), (if b1 = true then .slice none 0 0 else .slice (some (Vc.qad p1 (Int.toNat x2) (Int.toNat x3))) (Int.toNat x2) (Int.toNat x3) : Value), (if b2 = true then .slice none 0 0 else .slice (some (Vc.qad p2 (Int.toNat x4) (Int.toNat x5))) (Int.toNat x4) (Int.toNat x5) : Value), .int .i64 x6, .int .i64 x7, .int .i64 x8, .int .i64 x9, .bool false, .bool b4, .int .i64 x10, .int .i64 x11, .int .i64 x12, .int .i64 x13, .int .i64 x20], .agg #[.bool false, .int .i64 0, .bool b4, .int .i64 x10, .int .i64 x11, .int .i64 x12, .int .i64 x13], .int .i64 0] : Value) = v)))))) ∧ (¬ (x19 = 0) → (
  ((x19 = (-1)) → (
  (.tuple #[.agg #[.string ⟨s0.toArray⟩, (if b0 = true then .slice none 0 0 else .slice (some (Vc.qad p0 (Int.toNat x0) (Int.toNat x1))) (Int.toNat x0) (Int.toNat x1) : Value), (if b1 = true then .slice none 0 0 else .slice (some (Vc.qad p1 (Int.toNat x2) (Int.toNat x3))) (Int.toNat x2) (Int.toNat x3) : Value), (if b2 = true then .slice none 0 0 else .slice (some (Vc.qad p2 (Int.toNat x4) (Int.toNat x5))) (Int.toNat x4) (Int.toNat x5) : Value), .int .i64 x6, .int .i64 x7, .int .i64 x8, .int .i64 x9, .bool true, .bool b4, .int .i64 x10, .int .i64 x11, .int .i64 x12, .int .i64 x13, .int .i64 x14], .agg #[.bool true, .int .i64 1, .bool b4, .int .i64 x10, .int .i64 x11, .int .i64 x12, .int .i64 x13], .int .i64 0] : Value) = v)) ∧ (¬ (x19 = (-1)) → (
  ((x7 < x14) → (
  (.tuple #[.agg #[.string ⟨s0.toArray⟩, (if b0 = true then .slice none 0 0 else .slice (some (Vc.qad p0 (Int.toNat x0) (Int.toNat x1))) (Int.toNat x0) (Int.toNat x1) : Value), (if b1 = true then .slice none 0 0 else .slice (some (Vc.qad p1 (Int.toNat x2) (Int.toNat x3))) (Int.toNat x2) (Int.toNat x3) : Value), (if b2 = true then .slice none 0 0 else .slice (some (Vc.qad p2 (Int.toNat x4) (Int.toNat x5))) (Int.toNat x4) (Int.toNat x5) : Value), .int .i64 x6, .int .i64 x7, .int .i64 x8, .int .i64 x9, .bool true, .bool b4, .int .i64 x10, .int .i64 x11, .int .i64 x12, .int .i64 x13, .int .i64 x14], .agg #[.bool true, .int .i64 2, .bool b4, .int .i64 x10, .int .i64 x11, .int .i64 x12, .int .i64 x13], .int .i64 0] : Value) = v)) ∧ (¬ (x7 < x14) → (
  (.tuple #[.agg #[.string ⟨s0.toArray⟩, (if b0 = true then .slice none 0 0 else .slice (some (Vc.qad p0 (Int.toNat x0) (Int.toNat x1))) (Int.toNat x0) (Int.toNat x1) : Value), (if b1 = true then .slice none 0 0 else .slice (some (Vc.qad p1 (Int.toNat x2) (Int.toNat x3))) (Int.toNat x2) (Int.toNat x3) : Value), (if b2 = true then .slice none 0 0 else .slice (some (Vc.qad p2 (Int.toNat x4) (Int.toNat x5))) (Int.toNat x4) (Int.toNat x5) : Value), .int .i64 x6, .int .i64 x7, .int .i64 x8, .int .i64 x9, .bool false, .bool b4, .int .i64 x10, .int .i64 x11, .int .i64 x12, .int .i64 x13, .int .i64 x14], .agg #[.bool false, .int .i64 0, .bool b4, .int .i64 x10, .int .i64 x11, .int .i64 x12, .int .i64 x13], .int .i64 0] : Value) = v)))))))))) ∧ (¬ (b4 = true) → (
  ∀ x19 : Int, x19 = IntKind.i64.wrap (x14 + 1) →
  ((x7 < x19) → (
  (.tuple #[.agg #[.string ⟨s0.toArray⟩, (if b0 = true then .slice none 0 0 else .slice (some (Vc.qad p0 (Int.toNat x0) (Int.toNat x1))) (Int.toNat x0) (Int.toNat x1) : Value), (if b1 = true then .slice none 0 0 else .slice (some (Vc.qad p1 (Int.toNat x2) (Int.toNat x3))) (Int.toNat x2) (Int.toNat x3) : Value), (if b2 = true then .slice none 0 0 else .slice (some (Vc.qad p2 (Int.toNat x4) (Int.toNat x5))) (Int.toNat x4) (Int.toNat x5) : Value), .int .i64 x6, .int .i64 x7, .int .i64 x8, .int .i64 x9, .bool true, .bool b4, .int .i64 x10, .int .i64 x11, .int .i64 x12, .int .i64 x13, .int .i64 x19], .agg #[.bool true, .int .i64 2, .bool b4, .int .i64 x10, .int .i64 x11, .int .i64 x12, .int .i64 x13], .int .i64 0] : Value) = v)) ∧ (¬ (x7 < x19) → (
  (.tuple #[.agg #[.string ⟨s0.toArray⟩, (if b0 = true then .slice none 0 0 else .slice (some (Vc.qad p0 (Int.toNat x0) (Int.toNat x1))) (Int.toNat x0) (Int.toNat x1) : Value), (if b1 = true then .slice none 0 0 else .slice (some (Vc.qad p1 (Int.toNat x2) (Int.toNat x3))) (Int.toNat x2) (Int.toNat x3) : Value), (if b2 = true then .slice none 0 0 else .slice (some (Vc.qad p2 (Int.toNat x4) (Int.toNat x5))) (Int.toNat x4) (Int.toNat x5) : Value), .int .i64 x6, .int .i64 x7, .int .i64 x8, .int .i64 x9, .bool false, .bool b4, .int .i64 x10, .int .i64 x11, .int .i64 x12, .int .i64 x13, .int .i64 x19], .agg #[.bool false, .int .i64 0, .bool b4, .int .i64 x10, .int .i64 x11, .int .i64 x12, .int .i64 x13], .int .i64 0] : Value) = v)))))))))) ∧ (¬ (b6 = true) → (
  (.tuple #[.agg #[.string ⟨s0.toArray⟩, (if b0 = true then .slice none 0 0 else .slice (some (Vc.qad p0 (Int.toNat x0) (Int.toNat x1))) (Int.toNat x0) (Int.toNat x1) : Value), (if b1 = true then .slice none 0 0 else .slice (some (Vc.qad p1 (Int.toNat x2) (Int.toNat x3))) (Int.toNat x2) (Int.toNat x3) : Value), (if b2 = true then .slice none 0 0 else .slice (some (Vc.qad p2 (Int.toNat x4) (Int.toNat x5))) (Int.toNat x4) (Int.toNat x5) : Value), .int .i64 x6, .int .i64 x7, .int .i64 x8, .int .i64 x9, .bool b3, .bool b4, .int .i64 x10, .int .i64 x11, .int .i64 x12, .int .i64 x13, .int .i64 x14], .agg #[.bool false, .int .i64 0, .bool false, .int .i64 0, .int .i64 0, .int .i64 0, .int .i64 0], .int .i64 2] : Value) = v)))) ∧ (¬ (b5 = true) → (
  ((b5 = true) → (
  ∃ (x19 : Int), (∀ w' : World, Below w.heap.size w w' → Calls Tryz.prog 38 #[.agg #[.string ⟨s0.toArray⟩, (if b0 = true then .slice none 0 0 else .slice (some (Vc.qad p0 (Int.toNat x0) (Int.toNat x1))) (Int.toNat x0) (Int.toNat x1) : Value)], .agg #[.int .i64 x15, .int .i64 x16, .int .i64 x17, .int .i64 x18]] w' (Vc.Ret (.int .i64 x19) w')) ∧
  ((x19 = 1) → (
  ((x19 = 0) → (
  ((x19 = (-1)) → (
  (.tuple #[.agg #[.string ⟨s0.toArray⟩, (if b0 = true then .slice none 0 0 else .slice (some (Vc.qad p0 (Int.toNat x0) (Int.toNat x1))) (Int.toNat x0) (Int.toNat x1) : Value), (if b1 = true then .slice none 0 0 else .slice (some (Vc.qad p1 (Int.toNat x2) (Int.toNat x3))) (Int.toNat x2) (Int.toNat x3) : Value), (if b2 = true then .slice none 0 0 else .slice (some (Vc.qad p2 (Int.toNat x4) (Int.toNat x5))) (Int.toNat x4) (Int.toNat x5) : Value), .int .i64 x6, .int .i64 x7, .int .i64 x8, .int .i64 x9, .bool true, .bool true, .int .i64 x15, .int .i64 x16, .int .i64 x17, .int .i64 x18, .int .i64 1], .agg #[.bool true, .int .i64 1, .bool true, .int .i64 x15, .int .i64 x16, .int .i64 x17, .int .i64 x18], .int .i64 0] : Value) = v)) ∧ (¬ (x19 = (-1)) → (
  ((x7 < 1) → (
  (.tuple #[.agg #[.string ⟨s0.toArray⟩, (if b0 = true then .slice none 0 0 else .slice (some (Vc.qad p0 (Int.toNat x0) (Int.toNat x1))) (Int.toNat x0) (Int.toNat x1) : Value), (if b1 = true then .slice none 0 0 else .slice (some (Vc.qad p1 (Int.toNat x2) (Int.toNat x3))) (Int.toNat x2) (Int.toNat x3) : Value), (if b2 = true then .slice none 0 0 else .slice (some (Vc.qad p2 (Int.toNat x4) (Int.toNat x5))) (Int.toNat x4) (Int.toNat x5) : Value), .int .i64 x6, .int .i64 x7, .int .i64 x8, .int .i64 x9, .bool true, .bool true, .int .i64 x15, .int .i64 x16, .int .i64 x17, .int .i64 x18, .int .i64 1], .agg #[.bool true, .int .i64 2, .bool true, .int .i64 x15, .int .i64 x16, .int .i64 x17, .int .i64 x18], .int .i64 0] : Value) = v)) ∧ (¬ (x7 < 1) → (
  (.tuple #[.agg #[.string ⟨s0.toArray⟩, (if b0 = true then .slice none 0 0 else .slice (some (Vc.qad p0 (Int.toNat x0) (Int.toNat x1))) (Int.toNat x0) (Int.toNat x1) : Value), (if b1 = true then .slice none 0 0 else .slice (some (Vc.qad p1 (Int.toNat x2) (Int.toNat x3))) (Int.toNat x2) (Int.toNat x3) : Value), (if b2 = true then .slice none 0 0 else .slice (some (Vc.qad p2 (Int.toNat x4) (Int.toNat x5))) (Int.toNat x4) (Int.toNat x5) : Value), .int .i64 x6, .int .i64 x7, .int .i64 x8, .int .i64 x9, .bool false, .bool true, .int .i64 x15, .int .i64 x16, .int .i64 x17, .int .i64 x18, .int .i64 1], .agg #[.bool false, .int .i64 0, .bool true, .int .i64 x15, .int .i64 x16, .int .i64 x17, .int .i64 x18], .int .i64 0] : Value) = v)))))) ∧ (¬ (x19 = 0) → (
  ((x19 = (-1)) → (
  (.tuple #[.agg #[.string ⟨s0.toArray⟩, (if b0 = true then .slice none 0 0 else .slice (some (Vc.qad p0 (Int.toNat x0) (Int.toNat x1))) (Int.toNat x0) (Int.toNat x1) : Value), (if b1 = true then .slice none 0 0 else .slice (some (Vc.qad p1 (Int.toNat x2) (Int.toNat x3))) (Int.toNat x2) (Int.toNat x3) : Value), (if b2 = true then .slice none 0 0 else .slice (some (Vc.qad p2 (Int.toNat x4) (Int.toNat x5))) (Int.toNat x4) (Int.toNat x5) : Value), .int .i64 x6, .int .i64 x7, .int .i64 x8, .int .i64 x9, .bool true, .bool true, .int .i64 x15, .int .i64 x16, .int .i64 x17, .int .i64 x18, .int .i64 0], .agg #[.bool true, .int .i64 1, .bool true, .int .i64 x15, .int .i64 x16, .int .i64 x17, .int .i64 x18], .int .i64 0] : Value) = v)) ∧ (¬ (x19 = (-1)) → (
  ((x7 < 0) → (
  (.tuple #[.agg #[.string ⟨s0.toArray⟩, (if b0 = true then .slice none 0 0 else .slice (some (Vc.qad p0 (Int.toNat x0) (Int.toNat x1))) (Int.toNat x0) (Int.toNat x1) : Value), (if b1 = true then .slice none 0 0 else .slice (some (Vc.qad p1 (Int.toNat x2) (Int.toNat x3))) (Int.toNat x2) (Int.toNat x3) : Value), (if b2 = true then .slice none 0 0 else .slice (some (Vc.qad p2 (Int.toNat x4) (Int.toNat x5))) (Int.toNat x4) (Int.toNat x5) : Value), .int .i64 x6, .int .i64 x7, .int .i64 x8, .int .i64 x9, .bool true, .bool true, .int .i64 x15, .int .i64 x16, .int .i64 x17, .int .i64 x18, .int .i64 0], .agg #[.bool true, .int .i64 2, .bool true, .int .i64 x15, .int .i64 x16, .int .i64 x17, .int .i64 x18], .int .i64 0] : Value) = v)) ∧ (¬ (x7 < 0) → (
  (.tuple #[.agg #[.string ⟨s0.toArray⟩, (if b0 = true then .slice none 0 0 else .slice (some (Vc.qad p0 (Int.toNat x0) (Int.toNat x1))) (Int.toNat x0) (Int.toNat x1) : Value), (if b1 = true then .slice none 0 0 else .slice (some (Vc.qad p1 (Int.toNat x2) (Int.toNat x3))) (Int.toNat x2) (Int.toNat x3) : Value), (if b2 = true then .slice none 0 0 else .slice (some (Vc.qad p2 (Int.toNat x4) (Int.toNat x5))) (Int.toNat x4) (Int.toNat x5) : Value), .int .i64 x6, .int .i64 x7, .int .i64 x8, .int .i64 x9, .bool false, .bool true, .int .i64 x15, .int .i64 x16, .int .i64 x17, .int .i64 x18, .int .i64 0], .agg #[.bool false, .int .i64 0, .bool true, .int .i64 x15, .int .i64 x16, .int .i64 x17, .int .i64 x18], .int .i64 0] : Value) = v)))))))) ∧ (¬ (x19 = 1) → (
  ((x19 = 0) → (
  ∀ x20 : Int, x20 = IntKind.i64.wrap (x14 + 1) →
  ((x19 = (-1)) → (
  (.tuple #[.agg #[.string ⟨s0.toArray⟩, (if b0 = true then .slice none 0 0 else .slice (some (Vc.qad p0 (Int.toNat x0) (Int.toNat x1))) (Int.toNat x0) (Int.toNat x1) : Value), (if b1 = true then .slice none 0 0 else .slice (some (Vc.qad p1 (Int.toNat x2) (Int.toNat x3))) (Int.toNat x2) (Int.toNat x3) : Value), (if b2 = true then .slice none 0 0 else .slice (some (Vc.qad p2 (Int.toNat x4) (Int.toNat x5))) (Int.toNat x4) (Int.toNat x5) : Value), .int .i64 x6, .int .i64 x7, .int .i64 x8, .int .i64 x9, .bool true, .bool true, .int .i64 x15, .int .i64 x16, .int .i64 x17, .int .i64 x18, .int .i64 x20], .agg #[.bool true, .int .i64 1, .bool true, .int .i64 x15, .int .i64 x16, .int .i64 x17, .int .i64 x18], .int .i64 0] : Value) = v)) ∧ (¬ (x19 = (-1)) → (
  ((x7 < x20) → (
  (.tuple #[.agg #[.string ⟨s0.toArray⟩, (if b0 = true then .slice none 0 0 else .slice (some (Vc.qad p0 (Int.toNat x0) (Int.toNat x1))) (Int.toNat x0) (Int.toNat x1) : Value), (if b1 = true then .slice none 0 0 else .slice (some (Vc.qad p1 (Int.toNat x2) (Int.toNat x3))) (Int.toNat x2) (Int.toNat x3) : Value), (if b2 = true then .slice none 0 0 else .slice (some (Vc.qad p2 (Int.toNat x4) (Int.toNat x5))) (Int.toNat x4) (Int.toNat x5) : Value), .int .i64 x6, .int .i64 x7, .int .i64 x8, .int .i64 x9, .bool true, .bool true, .int .i64 x15, .int .i64 x16, .int .i64 x17, .int .i64 x18, .int .i64 x20], .agg #[.bool true, .int .i64 2, .bool true, .int .i64 x15, .int .i64 x16, .int .i64 x17, .int .i64 x18], .int .i64 0] : Value) = v)) ∧ (¬ (x7 < x20) → (
  (.tuple #[.agg #[.string ⟨s0.toArray⟩, (if b0 = true then .slice none 0 0 else .slice (some (Vc.qad p0 (Int.toNat x0) (Int.toNat x1))) (Int.toNat x0) (Int.toNat x1) : Value), (if b1 = true then .slice none 0 0 else .slice (some (Vc.qad p1 (Int.toNat x2) (Int.toNat x3))) (Int.toNat x2) (Int.toNat x3) : Value), (if b2 = true then .slice none 0 0 else .slice (some (Vc.qad p2 (Int.toNat x4) (Int.toNat x5))) (Int.toNat x4) (Int.toNat x5) : Value), .int .i64 x6, .int .i64 x7, .int .i64 x8, .int .i64 x9, .bool false, .bool true, .int .i64 x15, .int .i64 x16, .int .i64 x17, .int .i64 x18, .int .i64 x20], .agg #[.bool false, .int .i64 0, .bool true, .int .i64 x15, .int .i64 x16, .int .i64 x17, .int .i64 x18], .int .i64 0] : Value) = v)))))) ∧ (¬ (x19 = 0) → (
  ((x19 = (-1)) → (
  (.tuple #[.agg #[.string ⟨s0.toArray⟩, (if b0 = true then .slice none 0 0 else .slice (some (Vc.qad p0 (Int.toNat x0) (Int.toNat x1))) (Int.toNat x0) (Int.toNat x1) : Value), (if b1 = true then .slice none 0 0 else .slice (some (Vc.qad p1 (Int.toNat x2) (Int.toNat x3))) (Int.toNat x2) (Int.toNat x3) : Value), (if b2 = true then .slice none 0 0 else .slice (some (Vc.qad p2 (Int.toNat x4) (Int.toNat x5))) (Int.toNat x4) (Int.toNat x5) : Value), .int .i64 x6, .int .i64 x7, .int .i64 x8, .int .i64 x9, .bool true, .bool true, .int .i64 x15, .int .i64 x16, .int .i64 x17, .int .i64 x18, .int .i64 x14], .agg #[.bool true, .int .i64 1, .bool true, .int .i64 x15, .int .i64 x16, .int .i64 x17, .int .i64 x18], .int .i64 0] : Value) = v)) ∧ (¬ (x19 = (-1)) → (
  ((x7 < x14) → (
  (.tuple #[.agg #[.string ⟨s0.toArray⟩, (if b0 = true then .slice none 0 0 else .slice (some (Vc.qad p0 (Int.toNat x0) (Int.toNat x1))) (Int.toNat x0) (Int.toNat x1) : Value), (if b1 = true then .slice none 0 0 else .slice (some (Vc.qad p1 (Int.toNat x2) (Int.toNat x3))) (Int.toNat x2) (Int.toNat x3) : Value), (if b2 = true then .slice none 0 0 else .slice (some (Vc.qad p2 (Int.toNat x4) (Int.toNat x5))) (Int.toNat x4) (Int.toNat x5) : Value), .int .i64 x6, .int .i64 x7, .int .i64 x8, .int .i64 x9, .bool true, .bool true, .int .i64 x15, .int .i64 x16, .int .i64 x17, .int .i64 x18, .int .i64 x14], .agg #[.bool true, .int .i64 2, .bool true, .int .i64 x15, .int .i64 x16, .int .i64 x17, .int .i64 x18], .int .i64 0] : Value) = v)) ∧ (¬ (x7 < x14) → (
  (.tuple #[.agg #[.string ⟨s0.toArray⟩, (if b0 = true then .slice none 0 0 else .slice (some (Vc.qad p0 (Int.toNat x0) (Int.toNat x1))) (Int.toNat x0) (Int.toNat x1) : Value), (if b1 = true then .slice none 0 0 else .slice (some (Vc.qad p1 (Int.toNat x2) (Int.toNat x3))) (Int.toNat x2) (Int.toNat x3) : Value), (if b2 = true then .slice none 0 0 else .slice (some (Vc.qad p2 (Int.toNat x4) (Int.toNat x5))) (Int.toNat x4) (Int.toNat x5) : Value), .int .i64 x6, .int .i64 x7, .int .i64 x8, .int .i64 x9, .bool false, .bool true, .int .i64 x15, .int .i64 x16, .int .i64 x17, .int .i64 x18, .int .i64 x14], .agg #[.bool false, .int .i64 0, .bool true, .int .i64 x15, .int .i64 x16, .int .i64 x17, .int .i64 x18], .int .i64 0] : Value) = v)))))))))) ∧ (¬ (b5 = true) → (
  ((b4 = true) → (
  ∃ (x19 : Int), ∃ (x20 : Int), ∃ (x21 : Int), ∃ (x22 : Int), (∀ w' : World, Below w.heap.size w w' → Calls Tryz.prog 54 #[.agg #[.int .i64 x10, .int .i64 x11, .int .i64 x12, .int .i64 x13], .int .i64 x6] w' (Vc.Ret (.agg #[.int .i64 x19, .int .i64 x20, .int .i64 x21, .int .i64 x22]) w')) ∧
  ∃ (x23 : Int), (∀ w' : World, Below w.heap.size w w' → Calls Tryz.prog 69 #[.int .i64 x19] w' (Vc.Ret (.int .i64 x23) w')) ∧
  ∃ (x24 : Int), (∀ w' : World, Below w.heap.size w w' → Calls Tryz.prog 69 #[.int .i64 x20] w' (Vc.Ret (.int .i64 x24) w')) ∧
  ∃ (x25 : Int), (∀ w' : World, Below w.heap.size w w' → Calls Tryz.prog 69 #[.int .i64 x21] w' (Vc.Ret (.int .i64 x25) w')) ∧
  ∃ (x26 : Int), (∀ w' : World, Below w.heap.size w w' → Calls Tryz.prog 69 #[.int .i64 x22] w' (Vc.Ret (.int .i64 x26) w')) ∧
  ((b4 = true) → (
  ∃ (x27 : Int), (∀ w' : World, Below w.heap.size w w' → Calls Tryz.prog 38 #[.agg #[.string ⟨s0.toArray⟩, (if b0 = true then .slice none 0 0 else .slice (some (Vc.qad p0 (Int.toNat x0) (Int.toNat x1))) (Int.toNat x0) (Int.toNat x1) : Value)], .agg #[.int .i64 x23, .int .i64 x24, .int .i64 x25, .int .i64 x26]] w' (Vc.Ret (.int .i64 x27) w')) ∧
  ((x27 = 1) → (
  ((x27 = 0) → (
  ((x27 = (-1)) → (
  (.tuple #[.agg #[.string ⟨s0.toArray⟩, (if b0 = true then .slice none 0 0 else .slice (some (Vc.qad p0 (Int.toNat x0) (Int.toNat x1))) (Int.toNat x0) (Int.toNat x1) : Value), (if b1 = true then .slice none 0 0 else .slice (some (Vc.qad p1 (Int.toNat x2) (Int.toNat x3))) (Int.toNat x2) (Int.toNat x3) : Value), (if b2 = true then .slice none 0 0 else .slice (some (Vc.qad p2 (Int.toNat x4) (Int.toNat x5))) (Int.toNat x4) (Int.toNat x5) : Value), .int .i64 x6, .int .i64 x7, .int .i64 x8, .int .i64 x9, .bool true, .bool b4, .int .i64 x23, .int .i64 x24, .int .i64 x25, .int .i64 x26, .int .i64 1], .agg #[.bool true, .int .i64 1, .bool b4, .int .i64 x23, .int .i64 x24, .int .i64 x25, .int .i64 x26], .int .i64 0] : Value) = v)) ∧ (¬ (x27 = (-1)) → (
  ((x7 < 1) → (
  (.tuple #[.agg #[.string ⟨s0.toArray⟩, (if b0 = true then .slice none 0 0 else .slice (some (Vc.qad p0 (Int.toNat x0) (Int.toNat x1))) (Int.toNat x0) (Int.toNat x1) : Value), (if b1 = true then .slice none 0 0 else .slice (some (Vc.qad p1 (Int.toNat x2) (Int.toNat x3))) (Int.toNat x2) (Int.toNat x3) : Value), (if b2 = true then .slice none 0 0 else .slice (some (Vc.qad p2 (Int.toNat x4) (Int.toNat x5))) (Int.toNat x4) (Int.toNat x5) : Value), .int .i64 x6, .int .i64 x7, .int .i64 x8, .int .i64 x9, .bool true, .bool b4, .int .i64 x23, .int .i64 x24, .int .i64 x25, .int .i64 x26, .int .i64 1], .agg #[.bool true, .int .i64 2, .bool b4, .int .i64 x23, .int .i64 x24, .int .i64 x25, .int .i64 x26], .int .i64 0] : Value) = v)) ∧ (¬ (x7 < 1) → (
  (.tuple #[.agg #[.string ⟨s0.toArray⟩, (if b0 = true then .slice none 0 0 else .slice (some (Vc.qad p0 (Int.toNat x0) (Int.toNat x1))) (Int.toNat x0) (Int.toNat x1) : Value), (if b1 = true then .slice none 0 0 else .slice (some (Vc.qad p1 (Int.toNat x2) (Int.toNat x3))) (Int.toNat x2) (Int.toNat x3) : Value), (if b2 = true then .slice none 0 0 else .slice (some (Vc.qad p2 (Int.toNat x4) (Int.toNat x5))) (Int.toNat x4) (Int.toNat x5) : Value), .int .i64 x6, .int .i64 x7, .int .i64 x8, .int .i64 x9, .bool false, .bool b4, .int .i64 x23, .int .i64 x24, .int .i64 x25, .int .i64 x26, .int .i64 1], .agg #[.bool false, .int .i64 0, .bool b4, .int .i64 x23, .int .i64 x24, .int .i64 x25, .int .i64 x26], .int .i64 0] : Value) = v)))))) ∧ (¬ (x27 = 0) → (
  ((x27 = (-1)) → (
  (.tuple #[.agg #[.string ⟨s0.toArray⟩, (if b0 = true then .slice none 0 0 else .slice (some (Vc.qad p0 (Int.toNat x0) (Int.toNat x1))) (Int.toNat x0) (Int.toNat x1) : Value), (if b1 = true then .slice none 0 0 else .slice (some (Vc.qad p1 (Int.toNat x2) (Int.toNat x3))) (Int.toNat x2) (Int.toNat x3) : Value), (if b2 = true then .slice none 0 0 else .slice (some (Vc.qad p2 (Int.toNat x4) (Int.toNat x5))) (Int.toNat x4) (Int.toNat x5) : Value), .int .i64 x6, .int .i64 x7, .int .i64 x8, .int .i64 x9, .bool true, .bool b4, .int .i64 x23, .int .i64 x24, .int .i64 x25, .int .i64 x26, .int .i64 0], .agg #[.bool true, .int .i64 1, .bool b4, .int .i64 x23, .int .i64 x24, .int .i64 x25, .int .i64 x26], .int .i64 0] : Value) = v)) ∧ (¬ (x27 = (-1)) → (
  ((x7 < 0) → (
  (.tuple #[.agg #[.string ⟨s0.toArray⟩, (if b0 = true then .slice none 0 0 else .slice (some (Vc.qad p0 (Int.toNat x0) (Int.toNat x1))) (Int.toNat x0) (Int.toNat x1) : Value), (if b1 = true then .slice none 0 0 else .slice (some (Vc.qad p1 (Int.toNat x2) (Int.toNat x3))) (Int.toNat x2) (Int.toNat x3) : Value), (if b2 = true then .slice none 0 0 else .slice (some (Vc.qad p2 (Int.toNat x4) (Int.toNat x5))) (Int.toNat x4) (Int.toNat x5) : Value), .int .i64 x6, .int .i64 x7, .int .i64 x8, .int .i64 x9, .bool true, .bool b4, .int .i64 x23, .int .i64 x24, .int .i64 x25, .int .i64 x26, .int .i64 0], .agg #[.bool true, .int .i64 2, .bool b4, .int .i64 x23, .int .i64 x24, .int .i64 x25, .int .i64 x26], .int .i64 0] : Value) = v)) ∧ (¬ (x7 < 0) → (
  (.tuple #[.agg #[.string ⟨s0.toArray⟩, (if b0 = true then .slice none 0 0 else .slice (some (Vc.qad p0 (Int.toNat x0) (Int.toNat x1))) (Int.toNat x0) (Int.toNat x1) : Value), (if b1 = true then .slice none 0 0 else .slice (some (Vc.qad p1 (Int.toNat x2) (Int.toNat x3))) (Int.toNat x2) (Int.toNat x3) : Value), (if b2 = true then .slice none 0 0 else .slice (some (Vc.qad p2 (Int.toNat x4) (Int.toNat x5))) (Int.toNat x4) (Int.toNat x5) : Value), .int .i64 x6, .int .i64 x7, .int .i64 x8, .int .i64 x9, .bool false, .bool b4, .int .i64 x23, .int .i64 x24, .int .i64 x25, .int .i64 x26, .int .i64 0], .agg #[.bool false, .int .i64 0, .bool b4, .int .i64 x23, .int .i64 x24, .int .i64 x25, .int .i64 x26], .int .i64 0] : Value) = v)))))))) ∧ (¬ (x27 = 1) → (
  ((x27 = 0) → (
  ∀ x28 : Int, x28 = IntKind.i64.wrap (x14 + 1) →
  ((x27 = (-1)) → (
  (.tuple #[.agg #[.string ⟨s0.toArray⟩, (if b0 = true then .slice none 0 0 else .slice (some (Vc.qad p0 (Int.toNat x0) (Int.toNat x1))) (Int.toNat x0) (Int.toNat x1) : Value), (if b1 = true then .slice none 0 0 else .slice (some (Vc.qad p1 (Int.toNat x2) (Int.toNat x3))) (Int.toNat x2) (Int.toNat x3) : Value), (if b2 = true then .slice none 0 0 else .slice (some (Vc.qad p2 (Int.toNat x4) (Int.toNat x5))) (Int.toNat x4) (Int.toNat x5) : Value), .int .i64 x6, .int .i64 x7, .int .i64 x8, .int .i64 x9, .bool true, .bool b4, .int .i64 x23, .int .i64 x24, .int .i64 x25, .int .i64 x26, .int .i64 x28], .agg #[.bool true, .int .i64 1, .bool b4, .int .i64 x23, .int .i64 x24, .int .i64 x25, .int .i64 x26], .int .i64 0] : Value) = v)) ∧ (¬ (x27 = (-1)) → (
  ((x7 < x28) → (
  (.tuple #[.agg #[.string ⟨s0.toArray⟩, (if b0 = true then .slice none 0 0 else .slice (some (Vc.qad p0 (Int.toNat x0) (Int.toNat x1))) (Int.toNat x0) (Int.toNat x1) : Value), (if b1 = true then .slice none 0 0 else .slice (some (Vc.qad p1 (Int.toNat x2) (Int.toNat x3))) (Int.toNat x2) (Int.toNat x3) : Value), (if b2 = true then .slice none 0 0 else .slice (some (Vc.qad p2 (Int.toNat x4) (Int.toNat x5))) (Int.toNat x4) (Int.toNat x5) : Value), .int .i64 x6, .int .i64 x7, .int .i64 x8, .int .i64 x9, .bool true, .bool b4, .int .i64 x23, .int .i64 x24, .int .i64 x25, .int .i64 x26, .int .i64 x28], .agg #[.bool true, .int .i64 2, .bool b4, .int .i64 x23, .int .i64 x24, .int .i64 x25, .int .i64 x26], .int .i64 0] : Value) = v)) ∧ (¬ (x7 < x28) → (
  (.tuple #[.agg #[.string ⟨s0.toArray⟩, (if b0 = true then .slice none 0 0 else .slice (some (Vc.qad p0 (Int.toNat x0) (Int.toNat x1))) (Int.toNat x0) (Int.toNat x1) : Value), (if b1 = true then .slice none 0 0 else .slice (some (Vc.qad p1 (Int.toNat x2) (Int.toNat x3))) (Int.toNat x2) (Int.toNat x3) : Value), (if b2 = true then .slice none 0 0 else .slice (some (Vc.qad p2 (Int.toNat x4) (Int.toNat x5))) (Int.toNat x4) (Int.toNat x5) : Value), .int .i64 x6, .int .i64 x7, .int .i64 x8, .int .i64 x9, .bool false, .bool b4, .int .i64 x23, .int .i64 x24, .int .i64 x25, .int .i64 x26, .int .i64 x28], .agg #[.bool false, .int .i64 0, .bool b4, .int .i64 x23, .int .i64 x24, .int .i64 x25, .int .i64 x26], .int .i64 0] : Value) = v)))))) ∧ (¬ (x27 = 0) → (
  ((x27 = (-1)) → (
  (.tuple #[.agg #[.string ⟨s0.toArray⟩, (if b0 = true then .slice none 0 0 else .slice (some (Vc.qad p0 (Int.toNat x0) (Int.toNat x1))) (Int.toNat x0) (Int.toNat x1) : Value), (if b1 = true then .slice none 0 0 else .slice (some (Vc.qad p1 (Int.toNat x2) (Int.toNat x3))) (Int.toNat x2) (Int.toNat x3) : Value), (if b2 = true then .slice none 0 0 else .slice (some (Vc.qad p2 (Int.toNat x4) (Int.toNat x5))) (Int.toNat x4) (Int.toNat x5) : Value), .int .i64 x6, .int .i64 x7, .int .i64 x8, .int .i64 x9, .bool true, .bool b4, .int .i64 x23, .int .i64 x24, .int .i64 x25, .int .i64 x26, .int .i64 x14], .agg #[.bool true, .int .i64 1, .bool b4, .int .i64 x23, .int .i64 x24, .int .i64 x25, .int .i64 x26], .int .i64 0] : Value) = v)) ∧ (¬ (x27 = (-1)) → (
  ((x7 < x14) → (
  (.tuple #[.agg #[.string ⟨s0.toArray⟩, (if b0 = true then .slice none 0 0 else .slice (some (Vc.qad p0 (Int.toNat x0) (Int.toNat x1))) (Int.toNat x0) (Int.toNat x1) : Value), (if b1 = true then .slice none 0 0 else .slice (some (Vc.qad p1 (Int.toNat x2) (Int.toNat x3))) (Int.toNat x2) (Int.toNat x3) : Value), (if b2 = true then .slice none 0 0 else .slice (some (Vc.qad p2 (Int.toNat x4) (Int.toNat x5))) (Int.toNat x4) (Int.toNat x5) : Value), .int .i64 x6, .int .i64 x7, .int .i64 x8, .int .i64 x9, .bool true, .bool b4, .int .i64 x23, .int .i64 x24, .int .i64 x25, .int .i64 x26, .int .i64 x14], .agg #[.bool true, .int .i64 2, .bool b4, .int .i64 x23, .int .i64 x24, .int .i64 x25, .int .i64 x26], .int .i64 0] : Value) = v)) ∧ (¬ (x7 < x14) → (
  (.tuple #[.agg #[.string ⟨s0.toArray⟩, (if b0 = true then .slice none 0 0 else .slice (some (Vc.qad p0 (Int.toNat x0) (Int.toNat x1))) (Int.toNat x0) (Int.toNat x1) : Value), (if b1 = true then .slice none 0 0 else .slice (some (Vc.qad p1 (Int.toNat x2) (Int.toNat x3))) (Int.toNat x2) (Int.toNat x3) : Value), (if b2 = true then .slice none 0 0 else .slice (some (Vc.qad p2 (Int.toNat x4) (Int.toNat x5))) (Int.toNat x4) (Int.toNat x5) : Value), .int .i64 x6, .int .i64 x7, .int .i64 x8, .int .i64 x9, .bool false, .bool b4, .int .i64 x23, .int .i64 x24, .int .i64 x25, .int .i64 x26, .int .i64 x14], .agg #[.bool false, .int .i64 0, .bool b4, .int .i64 x23, .int .i64 x24, .int .i64 x25, .int .i64 x26], .int .i64 0] : Value) = v)))))))))) ∧ (¬ (b4 = true) → (
  ∀ x27 : Int, x27 = IntKind.i64.wrap (x14 + 1) →
  ((x7 < x27) → (
  (.tuple #[.agg #[.string ⟨s0.toArray⟩, (if b0 = true then .slice none 0 0 else .slice (some (Vc.qad p0 (Int.toNat x0) (Int.toNat x1))) (Int.toNat x0) (Int.toNat x1) : Value), (if b1 = true then .slice none 0 0 else .slice (some (Vc.qad p1 (Int.toNat x2) (Int.toNat x3))) (Int.toNat x2) (Int.toNat x3) : Value), (if b2 = true then .slice none 0 0 else .slice (some (Vc.qad p2 (Int.toNat x4) (Int.toNat x5))) (Int.toNat x4) (Int.toNat x5) : Value), .int .i64 x6, .int .i64 x7, .int .i64 x8, .int .i64 x9, .bool true, .bool b4, .int .i64 x23, .int .i64 x24, .int .i64 x25, .int .i64 x26, .int .i64 x27], .agg #[.bool true, .int .i64 2, .bool b4, .int .i64 x23, .int .i64 x24, .int .i64 x25, .int .i64 x26], .int .i64 0] : Value) = v)) ∧ (¬ (x7 < x27) → (
  (.tuple #[.agg #[.string ⟨s0.toArray⟩, (if b0 = true then .slice none 0 0 else .slice (some (Vc.qad p0 (Int.toNat x0) (Int.toNat x1))) (Int.toNat x0) (Int.toNat x1) : Value), (if b1 = true then .slice none 0 0 else .slice (some (Vc.qad p1 (Int.toNat x2) (Int.toNat x3))) (Int.toNat x2) (Int.toNat x3) : Value), (if b2 = true then .slice none 0 0 else .slice (some (Vc.qad p2 (Int.toNat x4) (Int.toNat x5))) (Int.toNat x4) (Int.toNat x5) : Value), .int .i64 x6, .int .i64 x7, .int .i64 x8, .int .i64 x9, .bool false, .bool b4, .int .i64 x23, .int .i64 x24, .int .i64 x25, .int .i64 x26, .int .i64 x27], .agg #[.bool false, .int .i64 0, .bool b4, .int .i64 x23, .int .i64 x24, .int .i64 x25, .int .i64 x26], .int .i64 0] : Value) = v)))))) ∧ (¬ (b4 = true) → (
  ((b4 = true) → (
  ∃ (x19 : Int), (∀ w' : World, Below w.heap.size w w' → Calls Tryz.prog 38 #[.agg #[.string ⟨s0.toArray⟩, (if b0 = true then .slice none 0 0 else .slice (some (Vc.qad p0 (Int.toNat x0) (Int.toNat x1))) (Int.toNat x0) (Int.toNat x1) : Value)], .agg #[.int .i64 x10, .int .i64 x11, .int .i64 x12, .int .i64 x13]] w' (Vc.Ret (.int .i64 x19) w')) ∧
  ((x19 = 1) → (
  ((x19 = 0) → (
  ((x19 = (-1)) → (
  (.tuple #[.agg #[.string ⟨s0.toArray⟩, (if b0 = true then .slice none 0 0 else .slice (some (Vc.qad p0 (Int.toNat x0) (Int.toNat x1))) (Int.toNat x0) (Int.toNat x1) : Value), (if b1 = true then .slice none 0 0 else .slice (some (Vc.qad p1 (Int.toNat x2) (Int.toNat x3))) (Int.toNat x2) (Int.toNat x3) : Value), (if b2 = true then .slice none 0 0 else .slice (some (Vc.qad p2 (Int.toNat x4) (Int.toNat x5))) (Int.toNat x4) (Int.toNat x5) : Value), .int .i64 x6, .int .i64 x7, .int .i64 x8, .int .i64 x9, .bool true, .bool b4, .int .i64 x10, .int .i64 x11, .int .i64 x12, .int .i64 x13, .int .i64 1], .agg #[.bool true, .int .i64 1, .bool b4, .int .i64 x10, .int .i64 x11, .int .i64 x12, .int .i64 x13], .int .i64 0] : Value) = v)) ∧ (¬ (x19 = (-1)) → (
  ((x7 < 1) → (
  (.tuple #[.agg #[.string ⟨s0.toArray⟩, (if b0 = true then .slice none 0 0 else .slice (some (Vc.qad p0 (Int.toNat x0) (Int.toNat x1))) (Int.toNat x0) (Int.toNat x1) : Value), (if b1 = true then .slice none 0 0 else .slice (some (Vc.qad p1 (Int.toNat x2) (Int.toNat x3))) (Int.toNat x2) (Int.toNat x3) : Value), (if b2 = true then .slice none 0 0 else .slice (some (Vc.qad p2 (Int.toNat x4) (Int.toNat x5))) (Int.toNat x4) (Int.toNat x5) : Value), .int .i64 x6, .int .i64 x7, .int .i64 x8, .int .i64 x9, .bool true, .bool b4, .int .i64 x10, .int .i64 x11, .int .i64 x12, .int .i64 x13, .int .i64 1], .agg #[.bool true, .int .i64 2, .bool b4, .int .i64 x10, .int .i64 x11, .int .i64 x12, .int .i64 x13], .int .i64 0] : Value) = v)) ∧ (¬ (x7 < 1) → (
  (.tuple #[.agg #[.string ⟨s0.toArray⟩, (if b0 = true then .slice none 0 0 else .slice (some (Vc.qad p0 (Int.toNat x0) (Int.toNat x1))) (Int.toNat x0) (Int.toNat x1) : Value), (if b1 = true then .slice none 0 0 else .slice (some (Vc.qad p1 (Int.toNat x2) (Int.toNat x3))) (Int.toNat x2) (Int.toNat x3) : Value), (if b2 = true then .slice none 0 0 else .slice (some (Vc.qad p2 (Int.toNat x4) (Int.toNat x5))) (Int.toNat x4) (Int.toNat x5) : Value), .int .i64 x6, .int .i64 x7, .int .i64 x8, .int .i64 x9, .bool false, .bool b4, .int .i64 x10, .int .i64 x11, .int .i64 x12, .int .i64 x13, .int .i64 1], .agg #[.bool false, .int .i64 0, .bool b4, .int .i64 x10, .int .i64 x11, .int .i64 x12, .int .i64 x13], .int .i64 0] : Value) = v)))))) ∧ (¬ (x19 = 0) → (
  ((x19 = (-1)) → (
  (.tuple #[.agg #[.string ⟨s0.toArray⟩, (if b0 = true then .slice none 0 0 else .slice (some (Vc.qad p0 (Int.toNat x0) (Int.toNat x1))) (Int.toNat x0) (Int.toNat x1) : Value), (if b1 = true then .slice none 0 0 else .slice (some (Vc.qad p1 (Int.toNat x2) (Int.toNat x3))) (Int.toNat x2) (Int.toNat x3) : Value), (if b2 = true then .slice none 0 0 else .slice (some (Vc.qad p2 (Int.toNat x4) (Int.toNat x5))) (Int.toNat x4) (Int.toNat x5) : Value), .int .i64 x6, .int .i64 x7, .int .i64 x8, .int .i64 x9, .bool true, .bool b4, .int .i64 x10, .int .i64 x11, .int .i64 x12, .int .i64 x13, .int .i64 0], .agg #[.bool true, .int .i64 1, .bool b4, .int .i64 x10, .int .i64 x11, .int .i64 x12, .int .i64 x13], .int .i64 0] : Value) = v)) ∧ (¬ (x19 = (-1)) → (
  ((x7 < 0) → (
  (.tuple #[.agg #[.string ⟨s0.toArray⟩, (if b0 = true then .slice none 0 0 else .slice (some (Vc.qad p0 (Int.toNat x0) (Int.toNat x1))) (Int.toNat x0) (Int.toNat x1) : Value), (if b1 = true then .slice none 0 0 else .slice (some (Vc.qad p1 (Int.toNat x2) (Int.toNat x3))) (Int.toNat x2) (Int.toNat x3) : Value), (if b2 = true then .slice none 0 0 else .slice (some (Vc.qad p2 (Int.toNat x4) (Int.toNat x5))) (Int.toNat x4) (Int.toNat x5) : Value), .int .i64 x6, .int .i64 x7, .int .i64 x8, .int .i64 x9, .bool true, .bool b4, .int .i64 x10, .int .i64 x11, .int .i64 x12, .int .i64 x13, .int .i64 0], .agg #[.bool true, .int .i64 2, .bool b4, .int .i64 x10, .int .i64 x11, .int .i64 x12, .int .i64 x13], .int .i64 0] : Value) = v)) ∧ (¬ (x7 < 0) → (
  (.tuple #[.agg #[.string ⟨s0.toArray⟩, (if b0 = true then .slice none 0 0 else .slice (some (Vc.qad p0 (Int.toNat x0) (Int.toNat x1))) (Int.toNat x0) (Int.toNat x1) : Value), (if b1 = true then .slice none 0 0 else .slice (some (Vc.qad p1 (Int.toNat x2) (Int.toNat x3))) (Int.toNat x2) (Int.toNat x3) : Value), (if b2 = true then .slice none 0 0 else .slice (some (Vc.qad p2 (Int.toNat x4) (Int.toNat x5))) (Int.toNat x4) (Int.toNat x5) : Value), .int .i64 x6, .int .i64 x7, .int .i64 x8, .int .i64 x9, .bool false, .bool b4, .int .i64 x10, .int .i64 x11, .int .i64 x12, .int .i64 x13, .int .i64 0], .agg #[.bool false, .int .i64 0, .bool b4, .int .i64 x10, .int .i64 x11, .int .i64 x12, .int .i64 x13], .int .i64 0] : Value) = v)))))))) ∧ (¬ (x19 = 1) → (
  ((x19 = 0) → (
  ∀ x20 : Int, x20 = IntKind.i64.wrap (x14 + 1) →
  ((x19 = (-1)) → (
  (.tuple #[.agg #[.string ⟨s0.toArray⟩, (if b0 = true then .slice none 0 0 else .slice (some (Vc.qad p0 (Int.toNat x0) (Int.toNat x1))) (Int.toNat x0) (Int.toNat x1) : Value), (if b1 = true then .slice none 0 0 else .slice (some (Vc.qad p1 (Int.toNat x2) (Int.toNat x3))) (Int.toNat x2) (Int.toNat x3) : Value), (if b2 = true then .slice none 0 0 else .slice (some (Vc.qad p2 (Int.toNat x4) (Int.toNat x5))) (Int.toNat x4) (Int.toNat x5) : Value), .int .i64 x6, .int .i64 x7, .int .i64 x8, .int .i64 x9, .bool true, .bool b4, .int .i64 x10, .int .i64 x11, .int .i64 x12, .int .i64 x13, .int .i64 x20], .agg #[.bool true, .int .i64 1, .bool b4, .int .i64 x10, .int .i64 x11, .int .i64 x12, .int .i64 x13], .int .i64 0] : Value) = v)) ∧ (¬ (x19 = (-1)) → (
  ((x7 < x20) → (
  (.tuple #[.agg #[.string ⟨s0.toArray⟩, (if b0 = true then .slice none 0 0 else .slice (some (Vc.qad p0 (Int.toNat x0) (Int.toNat x1))) (Int.toNat x0) (Int.toNat x1) : Value), (if b1 = true then .slice none 0 0 else .slice (some (Vc.qad p1 (Int.toNat x2) (Int.toNat x3))) (Int.toNat x2) (Int.toNat x3) : Value), (if b2 = true then .slice none 0 0 else .slice (some (Vc.qad p2 (Int.toNat x4) (Int.toNat x5))) (Int.toNat x4) (Int.toNat x5) : Value), .int .i64 x6, .int .i64 x7, .int .i64 x8, .int .i64 x9, .bool true, .bool b4, .int .i64 x10, .int .i64 x11, .int .i64 x12, .int .i64 x13, .int .i64 x20], .agg #[.bool true, .int .i64 2, .bool b4, .int .i64 x10, .int .i64 x11, .int .i64 x12, .int .i64 x13], .int .i64 0] : Value) = v)) ∧ (¬ (x7 < x20) → (
  (.tuple #[.agg #[.string ⟨s0.toArray⟩, (if b0 = true then .slice none 0 0 else .slice (some (Vc.qad p0 (Int.toNat x0) (Int.toNat x1))) (Int.toNat x0) (Int.toNat x1) : Value), (if b1 = true then .slice none 0 0 else .slice (some (Vc.qad p1 (Int.toNat x2) (Int.toNat x3))) (Int.toNat x2) (Int.toNat x3) : Value), (if b2 = true then .slice none 0 0 else .slice (some (Vc.qad p2 (Int.toNat x4) (Int.toNat x5))) (Int.toNat x4) (Int.toNat x5) : Value), .int .i64 x6, .int .i64 x7, .int .i64 x8, .int .i64 x9, .bool false, .bool b4, .int .i64 x10, .int .i64 x11, .int .i64 x12, .int .i64 x13, .int .i64 x20], .agg #[.bool false, .int .i64 0, .bool b4, .int .i64 x10, .int .i64 x11, .int .i64 x12, .int .i64 x13], .int .i64 0] : Value) = v)))))) ∧ (¬ (x19 = 0) → (
  ((x19 = (-1)) → (
  (.tuple #[.agg #[.string ⟨s0.toArray⟩, (if b0 = true then .slice none 0 0 else .slice (some (Vc.qad p0 (Int.toNat x0) (Int.toNat x1))) (Int.toNat x0) (Int.toNat x1) : Value), (if b1 = true then .slice none 0 0 else .slice (some (Vc.qad p1 (Int.toNat x2) (Int.toNat x3))) (Int.toNat x2) (Int.toNat x3) : Value), (if b2 = true then .slice none 0 0 else .slice (some (Vc.qad p2 (Int.toNat x4) (Int.toNat x5))) (Int.toNat x4) (Int.toNat x5) : Value), .int .i64 x6, .int .i64 x7, .int .i64 x8, .int .i64 x9, .bool true, .bool b4, .int .i64 x10, .int .i64 x11, .int .i64 x12, .int .i64 x13, .int .i64 x14], .agg #[.bool true, .int .i64 1, .bool b4, .int .i64 x10, .int .i64 x11, .int .i64 x12, .int .i64 x13], .int .i64 0] : Value) = v)) ∧ (¬ (x19 = (-1)) → (
  ((x7 < x14) → (
  (.tuple #[.agg #[.string ⟨s0.toArray⟩, (if b0 = true then .slice none 0 0 else .slice (some (Vc.qad p0 (Int.toNat x0) (Int.toNat x1))) (Int.toNat x0) (Int.toNat x1) : Value), (if b1 = true then .slice none 0 0 else .slice (some (Vc.qad p1 (Int.toNat x2) (Int.toNat x3))) (Int.toNat x2) (Int.toNat x3) : Value), (if b2 = true then .slice none 0 0 else .slice (some (Vc.qad p2 (Int.toNat x4) (Int.toNat x5))) (Int.toNat x4) (Int.toNat x5) : Value), .int .i64 x6, .int .i64 x7, .int .i64 x8, .int .i64 x9, .bool true, .bool b4, .int .i64 x10, .int .i64 x11, .int .i64 x12, .int .i64 x13, .int .i64 x14], .agg #[.bool true, .int .i64 2, .bool b4, .int .i64 x10, .int .i64 x11, .int .i64 x12, .int .i64 x13], .int .i64 0] : Value) = v)) ∧ (¬ (x7 < x14) → (
  (.tuple #[.agg #[.string ⟨s0.toArray⟩, (if b0 = true then .slice none 0 0 else .slice (some (Vc.qad p0 (Int.toNat x0) (Int.toNat x1))) (Int.toNat x0) (Int.toNat x1) : Value), (if b1 = true then .slice none 0 0 else .slice (some (Vc.qad p1 (Int.toNat x2) (Int.toNat x3))) (Int.toNat x2) (Int.toNat x3) : Value), (if b2 = true then .slice none 0 0 else .slice (some (Vc.qad p2 (Int.toNat x4) (Int.toNat x5))) (Int.toNat x4) (Int.toNat x5) : Value), .int .i64 x6, .int .i64 x7, .int .i64 x8, .int .i64 x9, .bool false, .bool b4, .int .i64 x10, .int .i64 x11, .int .i64 x12, .int .i64 x13, .int .i64 x14], .agg #[.bool false, .int .i64 0, .bool b4, .int .i64 x10, .int .i64 x11, .int .i64 x12, .int .i64 x13], .int .i64 0] : Value) = v)))))))))) ∧ (¬ (b4 = true) → (
  ∀ x19 : Int, x19 = IntKind.i64.wrap (x14 + 1) →
  ((x7 < x19) → (
  (.tuple #[.agg #[.string ⟨s0.toArray⟩, (if b0 = true then .slice none 0 0 else .slice (some (Vc.qad p0 (Int.toNat x0) (Int.toNat x1))) (Int.toNat x0) (Int.toNat x1) : Value), (if b1 = true then .slice none 0 0 else .slice (some (Vc.qad p1 (Int.toNat x2) (Int.toNat x3))) (Int.toNat x2) (Int.toNat x3) : Value), (if b2 = true then .slice none 0 0 else .slice (some (Vc.qad p2 (Int.toNat x4) (Int.toNat x5))) (Int.toNat x4) (Int.toNat x5) : Value), .int .i64 x6, .int .i64 x7, .int .i64 x8, .int .i64 x9, .bool true, .bool b4, .int .i64 x10, .int .i64 x11, .int .i64 x12, .int .i64 x13, .int .i64 x19], .agg #[.bool true, .int .i64 2, .bool b4, .int .i64 x10, .int .i64 x11, .int .i64 x12, .int .i64 x13], .int .i64 0] : Value) = v)) ∧ (¬ (x7 < x19) → (
  (.tuple #[.agg #[.string ⟨s0.toArray⟩, (if b0 = true then .slice none 0 0 else .slice (some (Vc.qad p0 (Int.toNat x0) (Int.toNat x1))) (Int.toNat x0) (Int.toNat x1) : Value), (if b1 = true then .slice none 0 0 else .slice (some (Vc.qad p1 (Int.toNat x2) (Int.toNat x3))) (Int.toNat x2) (Int.toNat x3) : Value), (if b2 = true then .slice none 0 0 else .slice (some (Vc.qad p2 (Int.toNat x4) (Int.toNat x5))) (Int.toNat x4) (Int.toNat x5) : Value), .int .i64 x6, .int .i64 x7, .int .i64 x8, .int .i64 x9, .bool false, .bool b4, .int .i64 x10, .int .i64 x11, .int .i64 x12, .int .i64 x13, .int .i64 x19], .agg #[.bool false, .int .i64 0, .bool b4, .int .i64 x10, .int .i64 x11, .int .i64 x12, .int .i64 x13], .int .i64 0] : Value) = v))))))))))))) : Calls Tryz.prog 28 #[.agg #[.string ⟨s0.toArray⟩, (if b0 = true then .slice none 0 0 else .slice (some (Vc.qad p0 (Int.toNat x0) (Int.toNat x1))) (Int.toNat x0) (Int.toNat x1) : Value), (if b1 = true then .slice none 0 0 else .slice (some (Vc.qad p1 (Int.toNat x2) (Int.toNat x3))) (Int.toNat x2) (Int.toNat x3) : Value), (if b2 = true then .slice none 0 0 else .slice (some (Vc.qad p2 (Int.toNat x4) (Int.toNat x5))) (Int.toNat x4) (Int.toNat x5) : Value), .int .i64 x6, .int .i64 x7, .int .i64 x8, .int .i64 x9, .bool b3, .bool b4, .int .i64 x10, .int .i64 x11, .int .i64 x12, .int .i64 x13, .int .i64 x14], .agg #[.int .i64 x15, .int .i64 x16, .int .i64 x17, .int .i64 x18], .bool b5] w (Vc.Ret v w) :=
  Vc.pure_of base [] 200 Tryz.func28 (b := (Tryz.f28.body).getD .skip) (by kernel_rfl) [.cv (.agg [.sv 0, .qsl 0 0 2 (.var 0) (.var 1), .qsl 1 1 2 (.var 2) (.var 3), .qsl 2 2 4 (.var 4) (.var 5), .int .i64 (.var 6), .int .i64 (.var 7), .int .i64 (.var 8), .int .i64 (.var 9), .bool (.var 3), .bool (.var 4), .int .i64 (.var 10), .int .i64 (.var 11), .int .i64 (.var 12), .int .i64 (.var 13), .int .i64 (.var 14)]), .cv (.agg [.int .i64 (.var 15), .int .i64 (.var 16), .int .i64 (.var 17), .int .i64 (.var 18)]), .cv (.one (.bool (.var 5)))] ⟨19, 6, 0, 3, 0, 1, 0⟩ (Vc.envOf [x0, x1, x2, x3, x4, x5, x6, x7, x8, x9, x10, x11, x12, x13, x14, x15, x16, x17, x18] [b0, b1, b2, b3, b4, b5] [] [p0, p1, p2] [s0]) (by kernel_rfl) (by kernel_rfl) (by kernel_rfl) h

theorem vc_ullageref09_many (p0 : Nat × Nat) (x0 x1 : Int) (b0 : Bool) (s0 : List UInt8) (w : World) (v : Value) (h : 
  (0 ≤ x0) ∧
  ((¬ (b0 = true)) ∨ (x0 = 0)) ∧
  ∀ x2 : Int, x2 = ((s0.length : Nat) : Int) →
  ∀ x3 : Int, x3 = IntKind.i64.wrap (x0 + x2) →
  (.int .i64 x3 : Value) = v) : Calls Tryz.prog 30 #[.agg #[.string ⟨s0.toArray⟩, (if b0 = true then .slice none 0 0 else .slice (some (Vc.qad p0 (Int.toNat x0) (Int.toNat x1))) (Int.toNat x0) (Int.toNat x1) : Value)]] w (Vc.Ret v w) :=
  Vc.pure_of base [] 200 Tryz.func30 (b := (Tryz.f30.body).getD .skip) (by kernel_rfl) [.cv (.agg [.sv 0, .qsl 0 0 2 (.var 0) (.var 1)])] ⟨2, 1, 0, 1, 0, 1, 0⟩ (Vc.envOf [x0, x1] [b0] [] [p0] [s0]) (by kernel_rfl) (by kernel_rfl) (by kernel_rfl) h

theorem vc_ullageref09_Great (p0 p1 p2 : Nat × Nat) (x0 x1 x2 x3 x4 x5 x6 x7 x8 x9 : Int) (b0 b1 b2 : Bool) (s0 : List UInt8) (w : World) (v : Value) (h : 
  ∃ (x10 : Int), (∀ w' : World, Below w.heap.size w w' → Calls Tryz.prog 30 #[.agg #[.string ⟨s0.toArray⟩, (if b0 = true then .slice none 0 0 else .slice (some (Vc.qad p0 (Int.toNat x0) (Int.toNat x1))) (Int.toNat x0) (Int.toNat x1) : Value)]] w' (Vc.Ret (.int .i64 x10) w')) ∧
  ∃ (Ix11 : List Vc.Vl → Prop) (mx11 : List Vc.Vl → Nat), Ix11 [.i x10, .i 0] ∧ ∀ (x11 : Int) (x12 : Int), Ix11 [.i x11, .i x12] → (
  (0 ≤ x2) ∧
  ((¬ (b1 = true)) ∨ (x2 = 0)) ∧
  ((x12 < x2) → (
  ((x12 < 20) → (
  (¬ (b1 = true)) ∧
  (0 ≤ x12) ∧
  (x12 < x2) ∧
  ∃ (s1 : List UInt8), w.cell? ⟨p1.1, p1.2 + (Int.toNat x12) * 2 + 0, none⟩ = some (.string ⟨s1.toArray⟩) ∧
  ∃ (b3 : Bool) (p3 : Nat × Nat) (x13 x14 : Int), w.cell? ⟨p1.1, p1.2 + (Int.toNat x12) * 2 + 1, none⟩ = some ((if b3 = true then .slice none 0 0 else .slice (some (Vc.qad p3 (Int.toNat x13) (Int.toNat x14))) (Int.toNat x13) (Int.toNat x14) : Value)) ∧
  ∃ (x15 : Int), (∀ w' : World, Below w.heap.size w w' → Calls Tryz.prog 30 #[.agg #[.string ⟨s1.toArray⟩, (if b3 = true then .slice none 0 0 else .slice (some (Vc.qad p3 (Int.toNat x13) (Int.toNat x14))) (Int.toNat x13) (Int.toNat x14) : Value)]] w' (Vc.Ret (.int .i64 x15) w')) ∧
  ∀ x16 : Int, x16 = IntKind.i64.wrap (x11 + x15) →
  ∀ x17 : Int, x17 = IntKind.i64.wrap (x12 + 1) →
  Ix11 [.i x16, .i x17] ∧ mx11 [.i x16, .i x17] < mx11 [.i x11, .i x12])) ∧ (¬ (x12 < 20) → (
  ∃ (Ix13 : List Vc.Vl → Prop) (mx13 : List Vc.Vl → Nat), Ix13 [.i x11, .i 0] ∧ ∀ (x13 : Int) (x14 : Int), Ix13 [.i x13, .i x14] → (
  (0 ≤ x4) ∧
  ((¬ (b2 = true)) ∨ (x4 = 0)) ∧
  ((x14 < x4) → (
  ((x14 < 20) → (
  (¬ (b2 = true)) ∧
  (0 ≤ x14) ∧
  (x14 < x4) ∧
  ∃ (s1 : List UInt8), w.cell? ⟨p2.1, p2.2 + (Int.toNat x14) * 4 + 0, none⟩ = some (.string ⟨s1.toArray⟩) ∧
  ∃ (b3 : Bool) (p3 : Nat × Nat) (x15 x16 : Int), w.cell? ⟨p2.1, p2.2 + (Int.toNat x14) * 4 + 1, none⟩ = some ((if b3 = true then .slice none 0 0 else .slice (some (Vc.qad p3 (Int.toNat x15) (Int.toNat x16))) (Int.toNat x15) (Int.toNat x16) : Value)) ∧
  ∃ (x17 : Int), (∀ w' : World, Below w.heap.size w w' → Calls Tryz.prog 30 #[.agg #[.string ⟨s1.toArray⟩, (if b3 = true then .slice none 0 0 else .slice (some (Vc.qad p3 (Int.toNat x15) (Int.toNat x16))) (Int.toNat x15) (Int.toNat x16) : Value)]] w' (Vc.Ret (.int .i64 x17) w')) ∧
  ∀ x18 : Int, x18 = IntKind.i64.wrap (x13 + x17) →
  ∀ x19 : Int, x19 = IntKind.i64.wrap (x14 + 1) →
  Ix13 [.i x18, .i x19] ∧ mx13 [.i x18, .i x19] < mx13 [.i x13, .i x14])) ∧ (¬ (x14 < 20) → (
  (0 ≤ x2) ∧
  ((¬ (b1 = true)) ∨ (x2 = 0)) ∧
  ((20 < x2) → (
  (.bool true : Value) = v)) ∧ (¬ (20 < x2) → (
  (0 ≤ x4) ∧
  ((¬ (b2 = true)) ∨ (x4 = 0)) ∧
  ((20 < x4) → (
  (.bool true : Value) = v)) ∧ (¬ (20 < x4) → (
  (.bool (decide (x13 > 2000)) : Value) = v)))))))) ∧ (¬ (x14 < x4) → (
  (0 ≤ x2) ∧
  ((¬ (b1 = true)) ∨ (x2 = 0)) ∧
  ((20 < x2) → (
  (.bool true : Value) = v)) ∧ (¬ (20 < x2) → (
  (0 ≤ x4) ∧
  ((¬ (b2 = true)) ∨ (x4 = 0)) ∧
  ((20 < x4) → (
  (.bool true : Value) = v)) ∧ (¬ (20 < x4) → (
  (.bool (decide (x13 > 2000)) : Value) = v))))))))))) ∧ (¬ (x12 < x2) → (
  ∃ (Ix13 : List Vc.Vl → Prop) (mx13 : List Vc.Vl → Nat), Ix13 [.i x11, .i 0] ∧ ∀ (x13 : Int) (x14 : Int), Ix13 [.i x13, .i x14] → (
  (0 ≤ x4) ∧
  ((¬ (b2 = true)) ∨ (x4 = 0)) ∧
  ((x14 < x4) → (
  ((x14 < 20) → (
  (¬ (b2 = true)) ∧
  (0 ≤ x14) ∧
  (x14 < x4) ∧
  ∃ (s1 : List UInt8), w.cell? ⟨p2.1, p2.2 + (Int.toNat x14) * 4 + 0, none⟩ = some (.string ⟨s1.toArray⟩) ∧
  ∃ (b3 : Bool) (p3 : Nat × Nat) (x15 x16 : Int), w.cell? ⟨p2.1, p2.2 + (Int.toNat x14) * 4 + 1, none⟩ = some ((if b3 = true then .slice none 0 0 else .slice (some (Vc.qad p3 (Int.toNat x15) (Int.toNat x16))) (Int.toNat x15) (Int.toNat x16) : Value)) ∧
  ∃ (x17 : Int), (∀ w' : World, Below w.heap.size w w' → Calls Tryz.prog 30 #[.agg #[.string ⟨s1.toArray⟩, (if b3 = true then .slice none 0 0 else .slice (some (Vc.qad p3 (Int.toNat x15) (Int.toNat x16))) (Int.toNat x15) (Int.toNat x16) : Value)]] w' (Vc.Ret (.int .i64 x17) w')) ∧
  ∀ x18 : Int, x18 = IntKind.i64.wrap (x13 + x17) →
  ∀ x19 : Int, x19 = IntKind.i64.wrap (x14 + 1) →
  Ix13 [.i x18, .i x19] ∧ mx13 [.i x18, .i x19] < mx13 [.i x13, .i x14])) ∧ (¬ (x14 < 20) → (
  (0 ≤ x2) ∧
  ((¬ (b1 = true)) ∨ (x2 = 0)) ∧
  ((20 < x2) → (
  (.bool true : Value) = v)) ∧ (¬ (20 < x2) → (
  (0 ≤ x4) ∧
  ((¬ (b2 = true)) ∨ (x4 = 0)) ∧
  ((20 < x4) → (
  (.bool true : Value) = v)) ∧ (¬ (20 < x4) → (
  (.bool (decide (x13 > 2000)) : Value) = v)))))))) ∧ (¬ (x14 < x4) → (
  (0 ≤ x2) ∧
  ((¬ (b1 = true)) ∨ (x2 = 0)) ∧
  ((20 < x2) → (
  (.bool true : Value) = v)) ∧ (¬ (20 < x2) → (
  (0 ≤ x4) ∧
  ((¬ (b2 = true)) ∨ (x4 = 0)) ∧
  ((20 < x4) → (
  (.bool true : Value) = v)) ∧ (¬ (20 < x4) → (
  (.bool (decide (x13 > 2000)) : Value) = v))))))))))) : Calls Tryz.prog 15 #[.agg #[.string ⟨s0.toArray⟩, (if b0 = true then .slice none 0 0 else .slice (some (Vc.qad p0 (Int.toNat x0) (Int.toNat x1))) (Int.toNat x0) (Int.toNat x1) : Value), (if b1 = true then .slice none 0 0 else .slice (some (Vc.qad p1 (Int.toNat x2) (Int.toNat x3))) (Int.toNat x2) (Int.toNat x3) : Value), (if b2 = true then .slice none 0 0 else .slice (some (Vc.qad p2 (Int.toNat x4) (Int.toNat x5))) (Int.toNat x4) (Int.toNat x5) : Value), .int .i64 x6, .int .i64 x7, .int .i64 x8, .int .i64 x9]] w (Vc.Ret v w) :=
  Vc.pure_of base [(9000000000003, .inv [] [3, 4] [9, 10, 11, 12, 13, 14, 15, 16, 17, 20, 21, 22, 23, 24, 25, 26, 27, 18, 19]), (9000000000007, .inv [] [3, 5] [28, 29, 30, 31, 32, 33, 34, 35, 36, 39, 40, 41, 42, 43, 44, 45, 46, 47, 37, 38])] 200 Tryz.func15 (b := (Tryz.f15.body).getD .skip) (by kernel_rfl) [.cv (.agg [.sv 0, .qsl 0 0 2 (.var 0) (.var 1), .qsl 1 1 2 (.var 2) (.var 3), .qsl 2 2 4 (.var 4) (.var 5), .int .i64 (.var 6), .int .i64 (.var 7), .int .i64 (.var 8), .int .i64 (.var 9)])] ⟨10, 3, 0, 3, 0, 1, 0⟩ (Vc.envOf [x0, x1, x2, x3, x4, x5, x6, x7, x8, x9] [b0, b1, b2] [] [p0, p1, p2] [s0]) (by kernel_rfl) (by kernel_rfl) (by kernel_rfl) h

theorem vc_ullagelaw09_rect (x0 x1 x2 x3 : Int) (w : World) (v : Value) (h : 
  (.agg #[.int .i64 x0, .int .i64 x1, .int .i64 x2, .int .i64 x3] : Value) = v) : Calls Tryz.prog 18 #[.int .i64 x0, .int .i64 x1, .int .i64 x2, .int .i64 x3] w (Vc.Ret v w) :=
  Vc.pure_of base [] 200 Tryz.func18 (b := (Tryz.f18.body).getD .skip) (by kernel_rfl) [.cv (.one (.int .i64 (.var 0))), .cv (.one (.int .i64 (.var 1))), .cv (.one (.int .i64 (.var 2))), .cv (.one (.int .i64 (.var 3)))] ⟨4, 0, 0, 0, 0, 0, 0⟩ (Vc.envOf [x0, x1, x2, x3] [] [] []) (by kernel_rfl) (by kernel_rfl) (by kernel_rfl) h

theorem vc___safety_Unit__Tick (p0 : Nat × Nat) (x0 x1 x2 x3 x4 x5 x6 x7 x8 x9 x10 x11 x12 : Int) (b0 b1 b2 b3 b4 : Bool) (s0 : List UInt8) (xl : Nat) (w : World) (v : Value) (new : Array Value) (hx : w.heap[xl]? = some (.cells #[.string ⟨s0.toArray⟩, (if b0 = true then .slice none 0 0 else .slice (some (Vc.qad p0 (Int.toNat x0) (Int.toNat x1))) (Int.toNat x0) (Int.toNat x1) : Value), .int .i64 x2, .int .i64 x3, .bool b1, .bool b2, .bool b3, .int .i64 x4, .int .i64 x5, .int .i64 x6, .int .i64 x7, .int .i64 x8] 76)) (h : 
  ((b1 = true) → (
  ((b2 = true) → (
  (.agg #[.tuple #[.agg #[.bool false, .int .i64 0, .bool false, .int .i64 0, .int .i64 0, .int .i64 0, .int .i64 0], .int .i64 9], .agg #[.string ⟨s0.toArray⟩, (if b0 = true then .slice none 0 0 else .slice (some (Vc.qad p0 (Int.toNat x0) (Int.toNat x1))) (Int.toNat x0) (Int.toNat x1) : Value), .int .i64 x2, .int .i64 x3, .bool b1, .bool b2, .bool b3, .int .i64 x4, .int .i64 x5, .int .i64 x6, .int .i64 x7, .int .i64 x8]] : Value) = .agg #[v, .agg new])) ∧ (¬ (b2 = true) → (
  ((b4 = true) → (
  ∃ (b5 : Bool), (∀ w' : World, Vc.BelX xl w w' → Calls Tryz.prog 34 #[.agg #[.int .i64 x9, .int .i64 x10, .int .i64 x11, .int .i64 x12]] w' (Vc.Ret (.bool b5) w')) ∧
  ((b5 = true) → (
  ((b4 = true) → (
  ∃ (x13 : Int), (∀ w' : World, Vc.BelX xl w w' → Calls Tryz.prog 35 #[.agg #[.string ⟨s0.toArray⟩, (if b0 = true then .slice none 0 0 else .slice (some (Vc.qad p0 (Int.toNat x0) (Int.toNat x1))) (Int.toNat x0) (Int.toNat x1) : Value)], .agg #[.int .i64 x9, .int .i64 x10, .int .i64 x11, .int .i64 x12]] w' (Vc.Ret (.int .i64 x13) w')) ∧
  ((x13 = 1) → (
  (.agg #[.tuple #[.agg #[.bool false, .int .i64 0, .bool true, .int .i64 x9, .int .i64 x10, .int .i64 x11, .int .i64 x12], .int .i64 0], .agg #[.string ⟨s0.toArray⟩, (if b0 = true then .slice none 0 0 else .slice (some (Vc.qad p0 (Int.toNat x0) (Int.toNat x1))) (Int.toNat x0) (Int.toNat x1) : Value), .int .i64 x2, .int .i64 x3, .bool b1, .bool false, .bool true, .int .i64 x9, .int .i64 x10, .int .i64 x11, .int .i64 x12, .int .i64 0]] : Value) = .agg #[v, .agg new])) ∧ (¬ (x13 = 1) → (
  ((x13 = 0) → (
  ∀ x14 : Int, x14 = IntKind.i64.wrap (x8 + 1) →
  ((x3 < x14) → (
  (.agg #[.tuple #[.agg #[.bool true, .int .i64 2, .bool true, .int .i64 x9, .int .i64 x10, .int .i64 x11, .int .i64 x12], .int .i64 0], .agg #[.string ⟨s0.toArray⟩, (if b0 = true then .slice none 0 0 else .slice (some (Vc.qad p0 (Int.toNat x0) (Int.toNat x1))) (Int.toNat x0) (Int.toNat x1) : Value), .int .i64 x2, .int .i64 x3, .bool b1, .bool true, .bool true, .int .i64 x9, .int .i64 x10, .int .i64 x11, .int .i64 x12, .int .i64 x14]] : Value) = .agg #[v, .agg new])) ∧ (¬ (x3 < x14) → (
  (.agg #[.tuple #[.agg #[.bool false, .int .i64 0, .bool true, .int .i64 x9, .int .i64 x10, .int .i64 x11, .int .i64 x12], .int .i64 0], .agg #[.string ⟨s0.toArray⟩, (if b0 = true then .slice none 0 0 else .slice (some (Vc.qad p0 (Int.toNat x0) (Int.toNat x1))) (Int.toNat x0) (Int.toNat x1) : Value), .int .i64 x2, .int .i64 x3, .bool b1, .bool false, .bool true, .int .i64 x9, .int .i64 x10, .int .i64 x11, .int .i64 x12, .int .i64 x14]] : Value) = .agg #[v, .agg new])))) ∧ (¬ (x13 = 0) → (
  (.agg #[.tuple #[.agg #[.bool true, .int .i64 1, .bool true, .int .i64 x9, .int .i64 x10, .int .i64 x11, .int .i64 x12], .int .i64 0], .agg #[.string ⟨s0.toArray⟩, (if b0 = true then .slice none 0 0 else .slice (some (Vc.qad p0 (Int.toNat x0) (Int.toNat x1))) (Int.toNat x0) (Int.toNat x1) : Value), .int .i64 x2, .int .i64 x3, .bool b1, .bool true, .bool true, .int .i64 x9, .int .i64 x10, .int .i64 x11, .int .i64 x12, .int .i64 x8]] : Value) = .agg #[v, .agg new])))))) ∧ (¬ (b4 = true) → (
  ((b3 = true) → (
  ∃ (x13 : Int), ∃ (x14 : Int), ∃ (x15 : Int), ∃ (x16 : Int), (∀ w' : World, Vc.BelX xl w w' → Calls Tryz.prog 53 #[.agg #[.int .i64 x4, .int .i64 x5, .int .i64 x6, .int .i64 x7], .int .i64 x2] w' (Vc.Ret (.agg #[.int .i64 x13, .int .i64 x14, .int .i64 x15, .int .i64 x16]) w')) ∧
  ∃ (x17 : Int), ∃ (x18 : Int), (∀ w' : World, Vc.BelX xl w w' → Calls Tryz.prog 68 #[.agg #[.int .i64 x13, .int .i64 x14]] w' (Vc.Ret (.agg #[.int .i64 x17, .int .i64 x18]) w')) ∧
  ∃ (x19 : Int), ∃ (x20 : Int), (∀ w' : World, Vc.BelX xl w w' → Calls Tryz.prog 68 #[.agg #[.int .i64 x15, .int .i64 x16]] w' (Vc.Ret (.agg #[.int .i64 x19, .int .i64 x20]) w')) ∧
  ((b3 = true) → (
  ∃ (x21 : Int), (∀ w' : World, Vc.BelX xl w w' → Calls Tryz.prog 35 #[.agg #[.string ⟨s0.toArray⟩, (if b0 = true then .slice none 0 0 else .slice (some (Vc.qad p0 (Int.toNat x0) (Int.toNat x1))) (Int.toNat x0) (Int.toNat x1) : Value)], .agg #[.int .i64 x17, .int .i64 x18, .int .i64 x19, .int .i64 x20]] w' (Vc.Ret (.int .i64 x21) w')) ∧
  ((x21 = 1) → (
  (.agg #[.tuple #[.agg #[.bool false, .int .i64 0, .bool b3, .int .i64 x17, .int .i64 x18, .int .i64 x19, .int .i64 x20], .int .i64 0], .agg #[.string ⟨s0.toArray⟩, (if b0 = true then .slice none 0 0 else .slice (some (Vc.qad p0 (Int.toNat x0) (Int.toNat x1))) (Int.toNat x0) (Int.toNat x1) : Value), .int .i64 x2, .int .i64 x3, .bool b1, .bool false, .bool b3, .int .i64 x17, .int .i64 x18, .int .i64 x19, .int .i64 x20, .int .i64 0]] : Value) = .agg #[v, .agg new])) ∧ (¬ (x21 = 1) → (
  ((x21 = 0) → (
  ∀ x22 : Int, x22 = IntKind.i64.wrap (x8 + 1) →
  ((x3 < x22) → (
  (.agg #[.tuple #[.agg #[.bool true, .int .i64 2, .bool b3, .int .i64 x17, .int .i64 x18, .int .i64 x19, .int .i64 x20], .int .i64 0], .agg #[.string ⟨s0.toArray⟩, (if b0 = true then .slice none 0 0 else .slice (some (Vc.qad p0 (Int.toNat x0) (Int.toNat x1))) (Int.toNat x0) (Int.toNat x1) : Value), .int .i64 x2, .int .i64 x3, .bool b1, .bool true, .bool b3, .int .i64 x17, .int .i64 x18, .int .i64 x19, .int .i64 x20, .int .i64 x22]] : Value) = .agg #[v, .agg new])) ∧ (¬ (x3 < x22) → (
  (.agg #[.tuple #[.agg #[.bool false, .int .i64 0, .bool b3, .int .i64 x17, .int .i64 x18, .int .i64 x19, .int .i64 x20], .int .i64 0], .agg #[.string ⟨s0.toArray⟩, (if b0 = true then .slice none 0 0 else .slice (some (Vc.qad p0 (Int.toNat x0) (Int.toNat x1))) (Int.toNat x0) (Int.toNat x1) : Value), .int .i64 x2, .int .i64 x3, .bool b1, .bool false, .bool b3, .int .i64 x17, .int .i64 x18, .int .i64 x19, .int .i64 x20, .int .i64 x22]] : Value) = .agg #[v, .agg new])))) ∧ (¬ (x21 = 0) → (
  (.agg #[.tuple #[.agg #[.bool true, .int .i64 1, .bool b3, .int .i64 x17, .int .i64 x18, .int .i64 x19, .int .i64 x20], .int .i64 0], .agg #[.string ⟨s0.toArray⟩, (if b0 = true then .slice none 0 0 else .slice (some (Vc.qad p0 (Int.toNat x0) (Int.toNat x1))) (Int.toNat x0) (Int.toNat x1) : Value), .int .i64 x2, .int .i64 x3, .bool b1, .bool true, .bool b3, .int .i64 x17, .int .i64 x18, .int .i64 x19, .int .i64 x20, .int .i64 x8]] : Value) = .agg #[v, .agg new])))))) ∧ (¬ (b3 = true) → (
  ∀ x21 : Int, x21 = IntKind.i64.wrap (x8 + 1) →
  ((x3 < x21) → (
  (.agg #[.tuple #[.agg #[.bool true, .int .i64 2, .bool b3, .int .i64 x17, .int .i64 x18, .int .i64 x19, .int .i64 x20], .int .i64 0], .agg #[.string ⟨s0.toArray⟩, (if b0 = true then .slice none 0 0 else .slice (some (Vc.qad p0 (Int.toNat x0) (Int.toNat x1))) (Int.toNat x0) (Int.toNat x1) : Value), .int .i64 x2, .int .i64 x3, .bool b1, .bool true, .bool b3, .int .i64 x17, .int .i64 x18, .int .i64 x19, .int .i64 x20, .int .i64 x21]] : Value) = .agg #[v, .agg new])) ∧ (¬ (x3 < x21) → (
  (.agg #[.tuple #[.agg #[.bool false, .int .i64 0, .bool b3, .int .i64 x17, .int .i64 x18, .int .i64 x19, .int .i64 x20], .int .i64 0], .agg #[.string ⟨s0.toArray⟩, (if b0 = true then .slice none 0 0 else .slice (some (Vc.qad p0 (Int.toNat x0) (Int.toNat x1))) (Int.toNat x0) (Int.toNat x1) : Value), .int .i64 x2, .int .i64 x3, .bool b1, .bool false, .bool b3, .int .i64 x17, .int .i64 x18, .int .i64 x19, .int .i64 x20, .int .i64 x21]] : Value) = .agg #[v, .agg new])))))) ∧ (¬ (b3 = true) → (
  ((b3 = true) → (
  ∃ (x13 : Int), (∀ w' : World, Vc.BelX xl w w' → Calls Tryz.prog 35 #[.agg #[.string ⟨s0.toArray⟩, (if b0 = true then .slice none 0 0 else .slice (some (Vc.qad p0 (Int.toNat x0) (Int.toNat x1))) (Int.toNat x0) (Int.toNat x1) : Value)], .agg #[.int .i64 x4, .int .i64 x5, .int .i64 x6, .int .i64 x7]] w' (Vc.Ret (.int .i64 x13) w')) ∧
  ((x13 = 1) → (
  (.agg #[.tuple #[.agg #[.bool false, .int .i64 0, .bool b3, .int .i64 x4, .int .i64 x5, .int .i64 x6, .int .i64 x7], .int .i64 0], .agg #[.string ⟨s0.toArray⟩, (if b0 = true then .slice none 0 0 else .slice (some (Vc.qad p0 (Int.toNat x0) (Int.toNat x1))) (Int.toNat x0) (Int.toNat x1) : Value), .int .i64 x2, .int .i64 x3, .bool b1, .bool false, .bool b3, .int .i64 x4, .int .i64 x5, .int .i64 x6, .int .i64 x7, .int .i64 0]] : Value) = .agg #[v, .agg new])) ∧ (¬ (x13 = 1) → (
  ((x13 = 0) → (
  ∀ x14 : Int, x14 = IntKind.i64.wrap (x8 + 1) →
  ((x3 < x14) → (
  (.agg #[.tuple #[.agg #[.bool true, .int .i64 2, .bool b3, .int .i64 x4, .int .i64 x5, .int .i64 x6, .int .i64 x7], .int .i64 0], .agg #[.string ⟨s0.toArray⟩, (if b0 = true then .slice none 0 0 else .slice (some (Vc.qad p0 (Int.toNat x0) (Int.toNat x1))) (Int.toNat x0) (Int.toNat x1) : Value), .int .i64 x2, .int .i64 x3, .bool b1, .bool true, .bool b3, .int .i64 x4, .int .i64 x5, .int .i64 x6, .int .i64 x7, .int .i64 x14]] : Value) = .agg #[v, .agg new])) ∧ (¬ (x3 < x14) → (
  (.agg #[.tuple #[.agg #[.bool false, .int .i64 0, .bool b3, .int .i64 x4, .int .i64 x5, .int .i64 x6, .int .i64 x7], .int .i64 0], .agg #[.string ⟨s0.toArray⟩, (if b0 = true then .slice none 0 0 else .slice (some (Vc.qad p0 (Int.toNat x0) (Int.toNat x1))) (Int.toNat x0) (Int.toNat x1) : Value), .int .i64 x2, .int .i64 x3, .bool b1, .bool false, .bool b3, .int .i64 x4, .int .i64 x5, .int .i64 x6, .int .i64 x7, .int .i64 x14]] : Value) = .agg #[v, .agg new])))) ∧ (¬ (x13 = 0) → (
  (.agg #[.tuple #[.agg #[.bool true, .int .i64 1, .bool b3, .int .i64 x4, .int .i64 x5, .int .i64 x6, .int .i64 x7], .int .i64 0], .agg #[.string ⟨s0.toArray⟩, (if b0 = true then .slice none 0 0 else .slice (some (Vc.qad p0 (Int.toNat x0) (Int.toNat x1))) (Int.toNat x0) (Int.toNat x1) : Value), .int .i64 x2, .int .i64 x3, .bool b1, .bool true, .bool b3, .int .i64 x4, .int .i64 x5, .int .i64 x6, .int .i64 x7, .int .i64 x8]] : Value) = .agg #[v, .agg new])))))) ∧ (¬ (b3 = true) → (
  ∀ x13 : Int, x13 = IntKind.i64.wrap (x8 + 1) →
  ((x3 < x13) → (
  (.agg #[.tuple #[.agg #[.bool true, .int .i64 2, .bool b3, .int .i64 x4, .int .i64 x5, .int .i64 x6, .int .i64 x7], .int .i64 0], .agg #[.string ⟨s0.toArray⟩, (if b0 = true then .slice none 0 0 else .slice (some (Vc.qad p0 (Int.toNat x0) (Int.toNat x1))) (Int.toNat x0) (Int.toNat x1) : Value), .int .i64 x2, .int .i64 x3, .bool b1, .bool true, .bool b3, .int .i64 x4, .int .i64 x5, .int .i64 x6, .int .i64 x7, .int .i64 x13]] : Value) = .agg #[v, .agg new])) ∧ (¬ (x3 < x13) → (
  (.agg #[.tuple #[.agg #[.bool false, .int .i64 0, .bool b3, .int .i64 x4, .int .i64 x5, .int .i64 x6, .int .i64 x7], .int .i64 0], .agg #[.string ⟨s0.toArray⟩, (if b0 = true then .slice none 0 0 else .slice (some (Vc.qad p0 (Int.toNat x0) (Int.toNat x1))) (Int.toNat x0) (Int.toNat x1) : Value), .int .i64 x2, .int .i64 x3, .bool b1, .bool false, .bool b3, .int .i64 x4, .int .i64 x5, .int .i64 x6, .int .i64 x7, .int .i64 x13]] : Value) = .agg #[v, .agg new])))))))))) ∧ (¬ (b5 = true) → (
  (.agg #[.tuple #[.agg #[.bool false, .int .i64 0, .bool false, .int .i64 0, .int .i64 0, .int .i64 0, .int .i64 0], .int .i64 2], .agg #[.string ⟨s0.toArray⟩, (if b0 = true then .slice none 0 0 else .slice (some (Vc.qad p0 (Int.toNat x0) (Int.toNat x1))) (Int.toNat x0) (Int.toNat x1) : Value), .int .i64 x2, .int .i64 x3, .bool b1, .bool b2, .bool b3, .int .i64 x4, .int .i64 x5, .int .i64 x6, .int .i64 x7, .int .i64 x8]] : Value) = .agg #[v, .agg new])))) ∧ (¬ (b4 = true) → (
  ((b4 = true) → (
  ∃ (x13 : Int), (∀ w' : World, Vc.BelX xl w w' → Calls Tryz.prog 35 #[.agg #[.string ⟨s0.toArray⟩, (if b0 = true then .slice none 0 0 else .slice (some (Vc.qad p0 (Int.toNat x0) (Int.toNat x1))) (Int.toNat x0) (Int.toNat x1) : Value)], .agg #[.int .i64 x9, .int .i64 x10, .int .i64 x11, .int .i64 x12]] w' (Vc.Ret (.int .i64 x13) w')) ∧
  ((x13 = 1) → (
  (.agg #[.tuple #[.agg #[.bool false, .int .i64 0, .bool true, .int .i64 x9, .int .i64 x10, .int .i64 x11, .int .i64 x12], .int .i64 0], .agg #[.string ⟨s0.toArray⟩, (if b0 = true then .slice none 0 0 else .slice (some (Vc.qad p0 (Int.toNat x0) (Int.toNat x1))) (Int.toNat x0) (Int.toNat x1) : Value), .int .i64 x2, .int .i64 x3, .bool b1, .bool false, .bool true, .int .i64 x9, .int .i64 x10, .int .i64 x11, .int .i64 x12, .int .i64 0]] : Value) = .agg #[v, .agg new])) ∧ (¬ (x13 = 1) → (
  ((x13 = 0) → (
  ∀ x14 : Int, x14 = IntKind.i64.wrap (x8 + 1) →
  ((x3 < x14) → (
  (.agg #[.tuple #[.agg #[.bool true, .int .i64 2, .bool true, .int .i64 x9, .int .i64 x10, .int .i64 x11, .int .i64 x12], .int .i64 0], .agg #[.string ⟨s0.toArray⟩, (if b0 = true then .slice none 0 0 else .slice (some (Vc.qad p0 (Int.toNat x0) (Int.toNat x1))) (Int.toNat x0) (Int.toNat x1) : Value), .int .i64 x2, .int .i64 x3, .bool b1, .bool true, .bool true, .int .i64 x9, .int .i64 x10, .int .i64 x11, .int .i64 x12, .int .i64 x14]] : Value) = .agg #[v, .agg new])) ∧ (¬ (x3 < x14) → (
  (.agg #[.tuple #[.agg #[.bool false, .int .i64 0, .bool true, .int .i64 x9, .int .i64 x10, .int .i64 x11, .int .i64 x12], .int .i64 0], .agg #[.string ⟨s0.toArray⟩, (if b0 = true then .slice none 0 0 else .slice (some (Vc.qad p0 (Int.toNat x0) (Int.toNat x1))) (Int.toNat x0) (Int.toNat x1) : Value), .int .i64 x2, .int .i64 x3, .bool b1, .bool false, .bool true, .int .i64 x9, .int .i64 x10, .int .i64 x11, .int .i64 x12, .int .i64 x14]] : Value) = .agg #[v, .agg new])))) ∧ (¬ (x13 = 0) → (
  (.agg #[.tuple #[.agg #[.bool true, .int .i64 1, .bool true, .int .i64 x9, .int .i64 x10, .int .i64 x11, .int .i64 x12], .int .i64 0], .agg #[.string ⟨s0.toArray⟩, (if b0 = true then .slice none 0 0 else .slice (some (Vc.qad p0 (Int.toNat x0) (Int.toNat x1))) (Int.toNat x0) (Int.toNat x1) : Value), .int .i64 x2, .int .i64 x3, .bool b1, .bool true, .bool true, .int .i64 x9, .int .i64 x10, .int .i64 x11, .int .i64 x12, .int .i64 x8]] : Value) = .agg #[v, .agg new])))))) ∧ (¬ (b4 = true) → (
  ((b3 = true) → (
  ∃ (x13 : Int), ∃ (x14 : Int), ∃ (x15 : Int), ∃ (x16 : Int), (∀ w' : World, Vc.BelX xl w w' → Calls Tryz.prog 53 #[.agg #[.int .i64 x4, .int .i64 x5, .int .i64 x6, .int .i64 x7], .int .i64 x2] w' (Vc.Ret (.agg #[.int .i64 x13, .int .i64 x14, .int .i64 x15, .int .i64 x16]) w')) ∧
  ∃ (x17 : Int), ∃ (x18 : Int), (∀ w' : World, Vc.BelX xl w w' → Calls Tryz.prog 68 #[.agg #[.int .i64 x13, .int .i64 x14]] w' (Vc.Ret (.agg #[.int .i64 x17, .int .i64 x18]) w')) ∧
  ∃ (x19 : Int), ∃ (x20 : Int), (∀ w' : World, Vc.BelX xl w w' → Calls Tryz.prog 68 #[.agg #[.int .i64 x15, .int .i64 x16]] w' (Vc.Ret (.agg #[.int .i64 x19, .int .i64 x20]) w')) ∧
  ((b3 = true) → (
  ∃ (x21 : Int), (∀ w' : World, Vc.BelX xl w w' → Calls Tryz.prog 35 #[.agg #[.string ⟨s0.toArray⟩, (if b0 = true then .slice none 0 0 else .slice (some (Vc.qad p0 (Int.toNat x0) (Int.toNat x1))) (Int.toNat x0) (Int.toNat x1) : Value)], .agg #[.int .i64 x17, .int .i64 x18, .int .i64 x19, .int .i64 x20]] w' (Vc.Ret (.int .i64 x21) w')) ∧
  ((x21 = 1) → (
  (.agg #[.tuple #[.agg #[.bool false, .int .i64 0, .bool b3, .int .i64 x17, .int .i64 x18, .int .i64 x19, .int .i64 x20], .int .i64 0], .agg #[.string ⟨s0.toArray⟩, (if b0 = true then .slice none 0 0 else .slice (some (Vc.qad p0 (Int.toNat x0) (Int.toNat x1))) (Int.toNat x0) (Int.toNat x1) : Value), .int .i64 x2, .int .i64 x3, .bool b1, .bool false, .bool b3, .int .i64 x17, .int .i64 x18, .int .i64 x19, .int .i64 x20, .int .i64 0]] : Value) = .agg #[v, .agg new])) ∧ (¬ (x21 = 1) → (
  ((x21 = 0) → (
  ∀ x22 : Int, x22 = IntKind.i64.wrap (x8 + 1) →
  ((x3 < x22) → (
  (.agg #[.tuple #[.agg #[.bool true, .int .i64 2, .bool b3, .int .i64 x17, .int .i64 x18, .int .i64 x19, .int .i64 x20], .int .i64 0], .agg #[.string ⟨s0.toArray⟩, (if b0 = true then .slice none 0 0 else .slice (some (Vc.qad p0 (Int.toNat x0) (Int.toNat x1))) (Int.toNat x0) (Int.toNat x1) : Value), .int .i64 x2, .int .i64 x3, .bool b1, .bool true, .bool b3, .int .i64 x17, .int .i64 x18, .int .i64 x19, .int .i64 x20, .int .i64 x22]] : Value) = .agg #[v, .agg new])) ∧ (¬ (x3 < x22) → (
  (.agg #[.tuple #[.agg #[.bool false, .int .i64 0, .bool b3, .int .i64 x17, .int .i64 x18, .int .i64 x19, .int .i64 x20], .int .i64 0], .agg #[.string ⟨s0.toArray⟩, (if b0 = true then .slice none 0 0 else .slice (some (Vc.qad p0 (Int.toNat x0) (Int.toNat x1))) (Int.toNat x0) (Int.toNat x1) : Value), .int .i64 x2, .int .i64 x3, .bool b1, .bool false, .bool b3, .int .i64 x17, .int .i64 x18, .int .i64 x19, .int .i64 x20, .int .i64 x22]] : Value) = .agg #[v, .agg new])))) ∧ (¬ (x21 = 0) → (
  (.agg #[.tuple #[.agg #[.bool true, .int .i64 1, .bool b3, .int .i64 x17, .int .i64 x18, .int .i64 x19, .int .i64 x20], .int .i64 0], .agg #[.string ⟨s0.toArray⟩, (if b0 = true then .slice none 0 0 else .slice (some (Vc.qad p0 (Int.toNat x0) (Int.toNat x1))) (Int.toNat x0) (Int.toNat x1) : Value), .int .i64 x2, .int .i64 x3, .bool b1, .bool true, .bool b3, .int .i64 x17, .int .i64 x18, .int .i64 x19, .int .i64 x20, .int .i64 x8]] : Value) = .agg #[v, .agg new])))))) ∧ (¬ (b3 = true) → (
  ∀ x21 : Int, x21 = IntKind.i64.wrap (x8 + 1) →
  ((x3 < x21) → (
  (.agg #[.tuple #[.agg #[.bool true, .int .i64 2, .bool b3, .int .i64 x17, .int .i64 x18, .int .i64 x19, .int .i64 x20], .int .i64 0], .agg #[.string ⟨s0.toArray⟩, (if b0 = true then .slice none 0 0 else .slice (some (Vc.qad p0 (Int.toNat x0) (Int.toNat x1))) (Int.toNat x0) (Int.toNat x1) : Value), .int .i64 x2, .int .i64 x3, .bool b1, .bool true, .bool b3, .int .i64 x17, .int .i64 x18, .int .i64 x19, .int .i64 x20, .int .i64 x21]] : Value) = .agg #[v, .agg new])) ∧ (¬ (x3 < x21) → (
  (.agg #[.tuple #[.agg #[.bool false, .int .i64 0, .bool b3, .int .i64 x17, .int .i64 x18, .int .i64 x19, .int .i64 x20], .int .i64 0], .agg #[.string ⟨s0.toArray⟩, (if b0 = true then .slice none 0 0 else .slice (some (Vc.qad p0 (Int.toNat x0) (Int.toNat x1))) (Int.toNat x0) (Int.toNat x1) : Value), .int .i64 x2, .int .i64 x3, .bool b1, .bool false, .bool b3, .int .i64 x17, .int .i64 x18, .int .i64 x19, .int .i64 x20, .int .i64 x21]] : Value) = .agg #[v, .agg new])))))) ∧ (¬ (b3 = true) → (
  ((b3 = true) → (
  ∃ (x13 : Int), (∀ w' : World, Vc.BelX xl w w' → Calls Tryz.prog 35 #[.agg #[.string ⟨s0.toArray⟩, (if b0 = true then .slice none 0 0 else .slice (some (Vc.qad p0 (Int.toNat x0) (Int.toNat x1))) (Int.toNat x0) (Int.toNat x1) : Value)], .agg #[.int .i64 x4, .int .i64 x5, .int .i64 x6, .int .i64 x7]] w' (Vc.Ret (.int .i64 x13) w')) ∧
  ((x13 = 1) → (
  (.agg #[.tuple #[.agg #[.bool false, .int .i64 0, .bool b3, .int .i64 x4, .int .i64 x5, .int .i64 x6, .int .i64 x7], .int .i64 0], .agg #[.string ⟨s0.toArray⟩, (if b0 = true then .slice none 0 0 else .slice (some (Vc.qad p0 (Int.toNat x0) (Int.toNat x1))) (Int.toNat x0) (Int.toNat x1) : Value), .int .i64 x2, .int .i64 x3, .bool b1, .bool false, .bool b3, .int .i64 x4, .int .i64 x5, .int .i64 x6, .int .i64 x7, .int .i64 0]] : Value) = .agg #[v, .agg new])) ∧ (¬ (x13 = 1) → (
  ((x13 = 0) → (
  ∀ x14 : Int, x14 = IntKind.i64.wrap (x8 + 1) →
  ((x3 < x14) → (
  (.agg #[.tuple #[.agg #[.bool true, .int .i64 2, .bool b3, .int .i64 x4, .int .i64 x5, .int .i64 x6, .int .i64 x7], .int .i64 0], .agg #[.string ⟨s0.toArray⟩, (if b0 = true then .slice none 0 0 else .slice (some (Vc.qad p0 (Int.toNat x0) (Int.toNat x1))) (Int.toNat x0) (Int.toNat x1) : Value), .int .i64 x2, .int .i64 x3, .bool b1, .bool true, .bool b3, .int .i64 x4, .int .i64 x5, .int .i64 x6, .int .i64 x7, .int .i64 x14]] : Value) = .agg #[v, .agg new])) ∧ (¬ (x3 < x14) → (
  (.agg #[.tuple #[.agg #[.bool false, .int .i64 0, .bool b3, .int .i64 x4, .int .i64 x5, .int .i64 x6, .int .i64 x7], .int .i64 0], .agg #[.string ⟨s0.toArray⟩, (if b0 = true then .slice none 0 0 else .slice (some (Vc.qad p0 (Int.toNat x0) (Int.toNat x1))) (Int.toNat x0) (Int.toNat x1) : Value), .int .i64 x2, .int .i64 x3, .bool b1, .bool false, .bool b3, .int .i64 x4, .int .i64 x5, .int .i64 x6, .int .i64 x7, .int .i64 x14]] : Value) = .agg #[v, .agg new])))) ∧ (¬ (x13 = 0) → (
  (.agg #[.tuple #[.agg #[.bool true, .int .i64 1, .bool b3, .int .i64 x4, .int .i64 x5, .int .i64 x6, .int .i64 x7], .int .i64 0], .agg #[.string ⟨s0.toArray⟩, (if b0 = true then .slice none 0 0 else .slice (some (Vc.qad p0 (Int.toNat x0) (Int.toNat x1))) (Int.toNat x0) (Int.toNat x1) : Value), .int .i64 x2, .int .i64 x3, .bool b1, .bool true, .bool b3, .int .i64 x4, .int .i64 x5, .int .i64 x6, .int .i64 x7, .int .i64 x8]] : Value) = .agg #[v, .agg new])))))) ∧ (¬ (b3 = true) → (
  ∀ x13 : Int, x13 = IntKind.i64.wrap (x8 + 1) →
  ((x3 < x13) → (
  (.agg #[.tuple #[.agg #[.bool true, .int .i64 2, .bool b3, .int .i64 x4, .int .i64 x5, .int .i64 x6, .int .i64 x7], .int .i64 0], .agg #[.string ⟨s0.toArray⟩, (if b0 = true then .slice none 0 0 else .slice (some (Vc.qad p0 (Int.toNat x0) (Int.toNat x1))) (Int.toNat x0) (Int.toNat x1) : Value), .int .i64 x2, .int .i64 x3, .bool b1, .bool true, .bool b3, .int .i64 x4, .int .i64 x5, .int .i64 x6, .int .i64 x7, .int .i64 x13]] : Value) = .agg #[v, .agg new])) ∧ (¬ (x3 < x13) → (
  (.agg #[.tuple #[.agg #[.bool false, .int .i64 0, .bool b3, .int .i64 x4, .int .i64 x5, .int .i64 x6, .int .i64 x7], .int .i64 0], .agg #[.string ⟨s0.toArray⟩, (if b0 = true then .slice none 0 0 else .slice (some (Vc.qad p0 (Int.toNat x0) (Int.toNat x1))) (Int.toNat x0) (Int.toNat x1) : Value), .int .i64 x2, .int .i64 x3, .bool b1, .bool false, .bool b3, .int .i64 x4, .int .i64 x5, .int .i64 x6, .int .i64 x7, .int .i64 x13]] : Value) = .agg #[v, .agg new])))))))))))))) ∧ (¬ (b1 = true) → (
  (.agg #[.tuple #[.agg #[.bool false, .int .i64 0, .bool false, .int .i64 0, .int .i64 0, .int .i64 0, .int .i64 0], .int .i64 1], .agg #[.string ⟨s0.toArray⟩, (if b0 = true then .slice none 0 0 else .slice (some (Vc.qad p0 (Int.toNat x0) (Int.toNat x1))) (Int.toNat x0) (Int.toNat x1) : Value), .int .i64 x2, .int .i64 x3, .bool b1, .bool b2, .bool b3, .int .i64 x4, .int .i64 x5, .int .i64 x6, .int .i64 x7, .int .i64 x8]] : Value) = .agg #[v, .agg new]))) : Calls Tryz.prog 27 #[Vc.ptr xl 0, .agg #[.int .i64 x9, .int .i64 x10, .int .i64 x11, .int .i64 x12], .bool b4] w (Vc.Eff v xl new 76 w) :=
  Vc.eff_of (base_inl [67] (by kernel_rfl)) [] 200 Tryz.func27 (b := (Tryz.f27.body).getD .skip) (by kernel_rfl) [.cv (.one (.loc 0 0)), .cv (.agg [.int .i64 (.var 9), .int .i64 (.var 10), .int .i64 (.var 11), .int .i64 (.var 12)]), .cv (.one (.bool (.var 4)))] [.sv 0, .qsl 0 0 2 (.var 0) (.var 1), .int .i64 (.var 2), .int .i64 (.var 3), .bool (.var 1), .bool (.var 2), .bool (.var 3), .int .i64 (.var 4), .int .i64 (.var 5), .int .i64 (.var 6), .int .i64 (.var 7), .int .i64 (.var 8)] 76 ⟨13, 5, 0, 1, 1, 1, 0⟩ (Vc.envOf [x0, x1, x2, x3, x4, x5, x6, x7, x8, x9, x10, x11, x12] [b0, b1, b2, b3, b4] [] [p0] [s0]) (by kernel_rfl) (by kernel_rfl) (by kernel_rfl) (by kernel_rfl) (by decide) (by kernel_rfl) hx h

theorem vc___safety_Unit__Safe (p0 : Nat × Nat) (x0 x1 x2 x3 x4 x5 x6 x7 x8 : Int) (b0 b1 b2 b3 : Bool) (s0 : List UInt8) (xl : Nat) (w : World) (v : Value) (new : Array Value) (hx : w.heap[xl]? = some (.cells #[.string ⟨s0.toArray⟩, (if b0 = true then .slice none 0 0 else .slice (some (Vc.qad p0 (Int.toNat x0) (Int.toNat x1))) (Int.toNat x0) (Int.toNat x1) : Value), .int .i64 x2, .int .i64 x3, .bool b1, .bool b2, .bool b3, .int .i64 x4, .int .i64 x5, .int .i64 x6, .int .i64 x7, .int .i64 x8] 76)) (h : 
  ((b1 = true) → (
  ((b2 = true) → (
  (.agg #[.int .i64 9, .agg #[.string ⟨s0.toArray⟩, (if b0 = true then .slice none 0 0 else .slice (some (Vc.qad p0 (Int.toNat x0) (Int.toNat x1))) (Int.toNat x0) (Int.toNat x1) : Value), .int .i64 x2, .int .i64 x3, .bool b1, .bool b2, .bool b3, .int .i64 x4, .int .i64 x5, .int .i64 x6, .int .i64 x7, .int .i64 x8]] : Value) = .agg #[v, .agg new])) ∧ (¬ (b2 = true) → (
  (.agg #[.int .i64 0, .agg #[.string ⟨s0.toArray⟩, (if b0 = true then .slice none 0 0 else .slice (some (Vc.qad p0 (Int.toNat x0) (Int.toNat x1))) (Int.toNat x0) (Int.toNat x1) : Value), .int .i64 x2, .int .i64 x3, .bool b1, .bool true, .bool b3, .int .i64 x4, .int .i64 x5, .int .i64 x6, .int .i64 x7, .int .i64 x8]] : Value) = .agg #[v, .agg new])))) ∧ (¬ (b1 = true) → (
  (.agg #[.int .i64 1, .agg #[.string ⟨s0.toArray⟩, (if b0 = true then .slice none 0 0 else .slice (some (Vc.qad p0 (Int.toNat x0) (Int.toNat x1))) (Int.toNat x0) (Int.toNat x1) : Value), .int .i64 x2, .int .i64 x3, .bool b1, .bool b2, .bool b3, .int .i64 x4, .int .i64 x5, .int .i64 x6, .int .i64 x7, .int .i64 x8]] : Value) = .agg #[v, .agg new]))) : Calls Tryz.prog 26 #[Vc.ptr xl 0] w (Vc.Eff v xl new 76 w) :=
  Vc.eff_of (base_inl [67] (by kernel_rfl)) [] 200 Tryz.func26 (b := (Tryz.f26.body).getD .skip) (by kernel_rfl) [.cv (.one (.loc 0 0))] [.sv 0, .qsl 0 0 2 (.var 0) (.var 1), .int .i64 (.var 2), .int .i64 (.var 3), .bool (.var 1), .bool (.var 2), .bool (.var 3), .int .i64 (.var 4), .int .i64 (.var 5), .int .i64 (.var 6), .int .i64 (.var 7), .int .i64 (.var 8)] 76 ⟨9, 4, 0, 1, 1, 1, 0⟩ (Vc.envOf [x0, x1, x2, x3, x4, x5, x6, x7, x8] [b0, b1, b2, b3] [] [p0] [s0]) (by kernel_rfl) (by kernel_rfl) (by kernel_rfl) (by kernel_rfl) (by decide) (by kernel_rfl) hx h

theorem vc___safety_Unit__Tick_nil (x0 x1 x2 x3 : Int) (b0 : Bool) (w : World) (v : Value) (h : 
  (.tuple #[.agg #[.bool false, .int .i64 0, .bool false, .int .i64 0, .int .i64 0, .int .i64 0, .int .i64 0], .int .i64 1] : Value) = v) : Calls Tryz.prog 27 #[.pointer none, .agg #[.int .i64 x0, .int .i64 x1, .int .i64 x2, .int .i64 x3], .bool b0] w (Vc.Ret v w) :=
  Vc.pure_of (base_inl [67] (by kernel_rfl)) [] 200 Tryz.func27 (b := (Tryz.f27.body).getD .skip) (by kernel_rfl) [.cv (.one (.nilp)), .cv (.agg [.int .i64 (.var 0), .int .i64 (.var 1), .int .i64 (.var 2), .int .i64 (.var 3)]), .cv (.one (.bool (.var 0)))] ⟨4, 1, 0, 0, 0, 0, 0⟩ (Vc.envOf [x0, x1, x2, x3] [b0] [] []) (by kernel_rfl) (by kernel_rfl) (by kernel_rfl) h

theorem vc___safety_Unit__Safe_nil (w : World) (v : Value) (h : 
  (.int .i64 1 : Value) = v) : Calls Tryz.prog 26 #[.pointer none] w (Vc.Ret v w) :=
  Vc.pure_of (base_inl [67] (by kernel_rfl)) [] 200 Tryz.func26 (b := (Tryz.f26.body).getD .skip) (by kernel_rfl) [.cv (.one (.nilp))] ⟨0, 0, 0, 0, 0, 0, 0⟩ (Vc.envOf [] [] [] []) (by kernel_rfl) (by kernel_rfl) (by kernel_rfl) h

theorem vc___safety_Unit__Doubt_nil (w : World) (v : Value) (h : 
  (.int .i64 0 : Value) = v) : Calls Tryz.prog 29 #[.pointer none] w (Vc.Ret v w) :=
  Vc.pure_of base [] 200 Tryz.func29 (b := (Tryz.f29.body).getD .skip) (by kernel_rfl) [.cv (.one (.nilp))] ⟨0, 0, 0, 0, 0, 0, 0⟩ (Vc.envOf [] [] [] []) (by kernel_rfl) (by kernel_rfl) (by kernel_rfl) h

theorem vc_ullagelaw09_awake (w : World) (v : Value) (h : 
  ∃ (x0 : Int), ∃ (x1 : Int), (∀ (β : Nat → Nat) (w' : World), Below w.heap.size w w' → ((w.heap.size ≤ β 1 ∧ w'.heap[β 1]? = some (.cells #[.int .i64 0, .int .i64 0, .int .i64 100, .int .i64 0, .int .i64 100, .int .i64 100, .int .i64 0, .int .i64 100] 26)) ∧ True) → Calls Tryz.prog 11 #[.agg #[.string ⟨(([113] : List UInt8)).toArray⟩, .slice (some ⟨β 1, 0, none⟩) 4 4], .agg #[.int .i64 10, .int .i64 10, .int .i64 90, .int .i64 100]] w' (Vc.Ret (.tuple #[.int .i64 x0, .int .i64 x1]) w')) ∧
  ∃ (x2 : Int), ∃ (x3 : Int), (∀ (β : Nat → Nat) (w' : World), Below w.heap.size w w' → ((w.heap.size ≤ β 4 ∧ w'.heap[β 4]? = some (.cells #[.int .i64 0, .int .i64 0, .int .i64 100, .int .i64 0, .int .i64 100, .int .i64 100, .int .i64 0, .int .i64 100] 26)) ∧ True) → Calls Tryz.prog 11 #[.agg #[.string ⟨(([113] : List UInt8)).toArray⟩, .slice (some ⟨β 4, 0, none⟩) 4 4], .agg #[.int .i64 10, .int .i64 10, .int .i64 90, .int .i64 101]] w' (Vc.Ret (.tuple #[.int .i64 x2, .int .i64 x3]) w')) ∧
  ∃ (x4 : Int), ∃ (x5 : Int), (∀ (β : Nat → Nat) (w' : World), Below w.heap.size w w' → ((w.heap.size ≤ β 6 ∧ w'.heap[β 6]? = some (.cells #[.int .i64 0, .int .i64 0, .int .i64 10, .int .i64 0, .int .i64 0, .int .i64 10] 26)) ∧ True) → Calls Tryz.prog 11 #[.agg #[.string ⟨(([116] : List UInt8)).toArray⟩, .slice (some ⟨β 6, 0, none⟩) 3 3], .agg #[.int .i64 6, .int .i64 6, .int .i64 9, .int .i64 9]] w' (Vc.Ret (.tuple #[.int .i64 x4, .int .i64 x5]) w')) ∧
  ∃ (b0 : Bool), ∃ (x6 : Int), (∀ (β : Nat → Nat) (w' : World), Below w.heap.size w w' → ((w.heap.size ≤ β 9 ∧ w'.heap[β 9]? = some (.cells #[.int .i64 0, .int .i64 0, .int .i64 100, .int .i64 0, .int .i64 100, .int .i64 100, .int .i64 0, .int .i64 100] 26)) ∧ (w.heap.size ≤ β 11 ∧ w'.heap[β 11]? = some (.cells #[.int .i64 0, .int .i64 110, .int .i64 100, .int .i64 110, .int .i64 100, .int .i64 210, .int .i64 0, .int .i64 210] 26)) ∧ True) → Calls Tryz.prog 19 #[.agg #[.string ⟨(([113] : List UInt8)).toArray⟩, .slice (some ⟨β 9, 0, none⟩) 4 4], .agg #[.string ⟨(([113] : List UInt8)).toArray⟩, .slice (some ⟨β 11, 0, none⟩) 4 4], .int .i64 9] w' (Vc.Ret (.tuple #[.bool b0, .int .i64 x6]) w')) ∧
  ∃ (b1 : Bool), ∃ (x7 : Int), (∀ (β : Nat → Nat) (w' : World), Below w.heap.size w w' → ((w.heap.size ≤ β 13 ∧ w'.heap[β 13]? = some (.cells #[.int .i64 0, .int .i64 0, .int .i64 100, .int .i64 0, .int .i64 100, .int .i64 100, .int .i64 0, .int .i64 100] 26)) ∧ (w.heap.size ≤ β 15 ∧ w'.heap[β 15]? = some (.cells #[.int .i64 0, .int .i64 110, .int .i64 100, .int .i64 110, .int .i64 100, .int .i64 210, .int .i64 0, .int .i64 210] 26)) ∧ True) → Calls Tryz.prog 19 #[.agg #[.string ⟨(([113] : List UInt8)).toArray⟩, .slice (some ⟨β 13, 0, none⟩) 4 4], .agg #[.string ⟨(([113] : List UInt8)).toArray⟩, .slice (some ⟨β 15, 0, none⟩) 4 4], .int .i64 10] w' (Vc.Ret (.tuple #[.bool b1, .int .i64 x7]) w')) ∧
  ∃ (x8 : Int), ∃ (x9 : Int), ∃ (x10 : Int), ∃ (x11 : Int), ∃ (x12 : Int), (∀ w' : World, Below w.heap.size w w' → Calls Tryz.prog 13 #[.agg #[.int .i64 4294967296, .int .i64 4294967296, .int .i64 0, .int .i64 0, .int .i64 0, .int .i64 0, .int .i64 4294967296, .int .i64 4294967296, .int .i64 0, .int .i64 0, .int .i64 21474836480, .int .i64 21474836480, .int .i64 42949672960, .int .i64 42949672960, .int .i64 0, .int .i64 0, .int .i64 0, .int .i64 0]] w' (Vc.Ret (.tuple #[.agg #[.int .i64 x8, .int .i64 x9, .int .i64 x10, .int .i64 x11], .int .i64 x12]) w')) ∧
  ∃ (x13 : Int), ∃ (x14 : Int), ∃ (x15 : Int), ∃ (x16 : Int), (∀ w' : World, Below w.heap.size w w' → Calls Tryz.prog 18 #[.int .i64 0, .int .i64 0, .int .i64 1, .int .i64 1] w' (Vc.Ret (.agg #[.int .i64 x13, .int .i64 x14, .int .i64 x15, .int .i64 x16]) w')) ∧
  ∃ (x17 : Int), ∃ (x18 : Int), (∀ (β : Nat → Nat) (w' : World), Below w.heap.size w w' → ((w.heap.size ≤ β 22 ∧ w'.heap[β 22]? = some (.cells #[.int .i64 0, .int .i64 0, .int .i64 100, .int .i64 0, .int .i64 100, .int .i64 100, .int .i64 0, .int .i64 100] 26)) ∧ (w.heap.size ≤ β 25 ∧ w'.heap[β 25]? = some (.cells #[.string ⟨(([113] : List UInt8)).toArray⟩, .slice (some ⟨β 24, 0, none⟩) 4 4, .int .i64 1000, .int .i64 400] 82)) ∧ (w.heap.size ≤ β 24 ∧ w'.heap[β 24]? = some (.cells #[.int .i64 0, .int .i64 0, .int .i64 100, .int .i64 0, .int .i64 100, .int .i64 100, .int .i64 0, .int .i64 100] 26)) ∧ True) → Calls Tryz.prog 16 #[.agg #[.string ⟨(([113] : List UInt8)).toArray⟩, .slice (some ⟨β 22, 0, none⟩) 4 4, .slice none 0 0, .slice (some ⟨β 25, 0, none⟩) 1 1, .int .i64 1, .int .i64 1, .int .i64 5, .int .i64 3], .agg #[.int .i64 x13, .int .i64 x14, .int .i64 x15, .int .i64 x16]] w' (Vc.Ret (.tuple #[.int .i64 x17, .int .i64 x18]) w')) ∧
  ∃ (b2 : Bool), (∀ (β : Nat → Nat) (w' : World), Below w.heap.size w w' → ((w.heap.size ≤ β 22 ∧ w'.heap[β 22]? = some (.cells #[.int .i64 0, .int .i64 0, .int .i64 100, .int .i64 0, .int .i64 100, .int .i64 100, .int .i64 0, .int .i64 100] 26)) ∧ (w.heap.size ≤ β 25 ∧ w'.heap[β 25]? = some (.cells #[.string ⟨(([113] : List UInt8)).toArray⟩, .slice (some ⟨β 24, 0, none⟩) 4 4, .int .i64 1000, .int .i64 400] 82)) ∧ (w.heap.size ≤ β 24 ∧ w'.heap[β 24]? = some (.cells #[.int .i64 0, .int .i64 0, .int .i64 100, .int .i64 0, .int .i64 100, .int .i64 100, .int .i64 0, .int .i64 100] 26)) ∧ True) → Calls Tryz.prog 23 #[.agg #[.string ⟨(([113] : List UInt8)).toArray⟩, .slice (some ⟨β 22, 0, none⟩) 4 4, .slice none 0 0, .slice (some ⟨β 25, 0, none⟩) 1 1, .int .i64 1, .int .i64 1, .int .i64 5, .int .i64 3]] w' (Vc.Ret (.bool b2) w')) ∧
  ((b2 = true) → (
  ∃ (b3 : Bool), (∀ w' : World, Below w.heap.size w w' → Calls Tryz.prog 34 #[.agg #[.int .i64 10, .int .i64 10, .int .i64 20, .int .i64 20]] w' (Vc.Ret (.bool b3) w')) ∧
  ((b3 = true) → (
  ∃ (x19 : Int), (∀ (β : Nat → Nat) (w' : World), Below w.heap.size w w' → (Vc.RowOk w.heap.size (β 32) (β 33) (β 34) (β 35) (([.int .i64 0, .int .i64 0, .int .i64 100, .int .i64 0, .int .i64 100, .int .i64 100, .int .i64 0, .int .i64 100] : List Value)) 2 26 w' ∧ True) → Calls Tryz.prog 35 #[.agg #[.string ⟨(([113] : List UInt8)).toArray⟩, Vc.ownV (β 32) (β 33) (β 34) (β 35)], .agg #[.int .i64 10, .int .i64 10, .int .i64 20, .int .i64 20]] w' (Vc.Ret (.int .i64 x19) w')) ∧
  ((x19 = 1) → (
  ∃ (b4 : Bool), (∀ w' : World, Below w.heap.size w w' → Calls Tryz.prog 34 #[.agg #[.int .i64 95, .int .i64 0, .int .i64 101, .int .i64 5]] w' (Vc.Ret (.bool b4) w')) ∧
  ((b4 = true) → (
  ∃ (x20 : Int), (∀ (β : Nat → Nat) (w' : World), Below w.heap.size w w' → (Vc.RowOk w.heap.size (β 32) (β 33) (β 34) (β 35) (([.int .i64 0, .int .i64 0, .int .i64 100, .int .i64 0, .int .i64 100, .int .i64 100, .int .i64 0, .int .i64 100] : List Value)) 2 26 w' ∧ True) → Calls Tryz.prog 35 #[.agg #[.string ⟨(([113] : List UInt8)).toArray⟩, Vc.ownV (β 32) (β 33) (β 34) (β 35)], .agg #[.int .i64 95, .int .i64 0, .int .i64 101, .int .i64 5]] w' (Vc.Ret (.int .i64 x20) w')) ∧
  ((x20 = 1) → (
  ∃ (x21 : Int), ∃ (x22 : Int), ∃ (x23 : Int), ∃ (x24 : Int), (∀ w' : World, Below w.heap.size w w' → Calls Tryz.prog 53 #[.agg #[.int .i64 95, .int .i64 0, .int .i64 101, .int .i64 5], .int .i64 1] w' (Vc.Ret (.agg #[.int .i64 x21, .int .i64 x22, .int .i64 x23, .int .i64 x24]) w')) ∧
  ∃ (x25 : Int), ∃ (x26 : Int), (∀ w' : World, Below w.heap.size w w' → Calls Tryz.prog 68 #[.agg #[.int .i64 x21, .int .i64 x22]] w' (Vc.Ret (.agg #[.int .i64 x25, .int .i64 x26]) w')) ∧
  ∃ (x27 : Int), ∃ (x28 : Int), (∀ w' : World, Below w.heap.size w w' → Calls Tryz.prog 68 #[.agg #[.int .i64 x23, .int .i64 x24]] w' (Vc.Ret (.agg #[.int .i64 x27, .int .i64 x28]) w')) ∧
  ∃ (x29 : Int), (∀ (β : Nat → Nat) (w' : World), Below w.heap.size w w' → (Vc.RowOk w.heap.size (β 32) (β 33) (β 34) (β 35) (([.int .i64 0, .int .i64 0, .int .i64 100, .int .i64 0, .int .i64 100, .int .i64 100, .int .i64 0, .int .i64 100] : List Value)) 2 26 w' ∧ True) → Calls Tryz.prog 35 #[.agg #[.string ⟨(([113] : List UInt8)).toArray⟩, Vc.ownV (β 32) (β 33) (β 34) (β 35)], .agg #[.int .i64 x25, .int .i64 x26, .int .i64 x27, .int .i64 x28]] w' (Vc.Ret (.int .i64 x29) w')) ∧
  ((x29 = 1) → (
  ((x0 = 1) → (
  ((x2 = 0) → (
  ((x4 = (-1)) → (
  ((b0 = true) → (
  ((b1 = true) → (
  (.bool false : Value) = v)) ∧ (¬ (b1 = true) → (
  ((x12 = 0) → (
  ∃ (x30 : Int), ∃ (x31 : Int), ∃ (x32 : Int), ∃ (x33 : Int), (∀ w' : World, Below w.heap.size w w' → Calls Tryz.prog 18 #[.int .i64 2000, .int .i64 0, .int .i64 2000, .int .i64 0] w' (Vc.Ret (.agg #[.int .i64 x30, .int .i64 x31, .int .i64 x32, .int .i64 x33]) w')) ∧
  (((x8 = x30) ∧ ((x9 = x31) ∧ ((x10 = x32) ∧ (x11 = x33)))) → (
  ((x17 = 8) → (
  ((x18 = 0) → (
  ∃ (x34 : Int), ∃ (x35 : Int), ∃ (x36 : Int), ∃ (x37 : Int), (∀ w' : World, Below w.heap.size w w' → Calls Tryz.prog 18 #[.int .i64 94, .int .i64 (-1), .int .i64 102, .int .i64 6] w' (Vc.Ret (.agg #[.int .i64 x34, .int .i64 x35, .int .i64 x36, .int .i64 x37]) w')) ∧
  (.bool false : Value) = v)) ∧ (¬ (x18 = 0) → (
  (.bool false : Value) = v)))) ∧ (¬ (x17 = 8) → (
  (.bool false : Value) = v)))) ∧ (¬ ((x8 = x30) ∧ ((x9 = x31) ∧ ((x10 = x32) ∧ (x11 = x33)))) → (
  (.bool false : Value) = v)))) ∧ (¬ (x12 = 0) → (
  (.bool false : Value) = v)))))) ∧ (¬ (b0 = true) → (
  (.bool false : Value) = v)))) ∧ (¬ (x4 = (-1)) → (
  (.bool false : Value) = v)))) ∧ (¬ (x2 = 0) → (
  (.bool false : Value) = v)))) ∧ (¬ (x0 = 1) → (
  (.bool false : Value) = v)))) ∧ (¬ (x29 = 1) → (
  ((x29 = 0) → (
  ((x0 = 1) → (
  ((x2 = 0) → (
  ((x4 = (-1)) → (
  ((b0 = true) → (
  ((b1 = true) → (
  (.bool false : Value) = v)) ∧ (¬ (b1 = true) → (
  ((x12 = 0) → (
  ∃ (x30 : Int), ∃ (x31 : Int), ∃ (x32 : Int), ∃ (x33 : Int), (∀ w' : World, Below w.heap.size w w' → Calls Tryz.prog 18 #[.int .i64 2000, .int .i64 0, .int .i64 2000, .int .i64 0] w' (Vc.Ret (.agg #[.int .i64 x30, .int .i64 x31, .int .i64 x32, .int .i64 x33]) w')) ∧
  (((x8 = x30) ∧ ((x9 = x31) ∧ ((x10 = x32) ∧ (x11 = x33)))) → (
  ((x17 = 8) → (
  ((x18 = 0) → (
  ∃ (x34 : Int), ∃ (x35 : Int), ∃ (x36 : Int), ∃ (x37 : Int), (∀ w' : World, Below w.heap.size w w' → Calls Tryz.prog 18 #[.int .i64 94, .int .i64 (-1), .int .i64 102, .int .i64 6] w' (Vc.Ret (.agg #[.int .i64 x34, .int .i64 x35, .int .i64 x36, .int .i64 x37]) w')) ∧
  (.bool false : Value) = v)) ∧ (¬ (x18 = 0) → (
  (.bool false : Value) = v)))) ∧ (¬ (x17 = 8) → (
  (.bool false : Value) = v)))) ∧ (¬ ((x8 = x30) ∧ ((x9 = x31) ∧ ((x10 = x32) ∧ (x11 = x33)))) → (
  (.bool false : Value) = v)))) ∧ (¬ (x12 = 0) → (
  (.bool false : Value) = v)))))) ∧ (¬ (b0 = true) → (
  (.bool false : Value) = v)))) ∧ (¬ (x4 = (-1)) → (
  (.bool false : Value) = v)))) ∧ (¬ (x2 = 0) → (
  (.bool false : Value) = v)))) ∧ (¬ (x0 = 1) → (
  (.bool false : Value) = v)))) ∧ (¬ (x29 = 0) → (
  ((x0 = 1) → (
  ((x2 = 0) → (
  ((x4 = (-1)) → (
  ((b0 = true) → (
  ((b1 = true) → (
  (.bool false : Value) = v)) ∧ (¬ (b1 = true) → (
  ((x12 = 0) → (
  ∃ (x30 : Int), ∃ (x31 : Int), ∃ (x32 : Int), ∃ (x33 : Int), (∀ w' : World, Below w.heap.size w w' → Calls Tryz.prog 18 #[.int .i64 2000, .int .i64 0, .int .i64 2000, .int .i64 0] w' (Vc.Ret (.agg #[.int .i64 x30, .int .i64 x31, .int .i64 x32, .int .i64 x33]) w')) ∧
  (((x8 = x30) ∧ ((x9 = x31) ∧ ((x10 = x32) ∧ (x11 = x33)))) → (
  ((x17 = 8) → (
  ((x18 = 0) → (
  ∃ (x34 : Int), ∃ (x35 : Int), ∃ (x36 : Int), ∃ (x37 : Int), (∀ w' : World, Below w.heap.size w w' → Calls Tryz.prog 18 #[.int .i64 94, .int .i64 (-1), .int .i64 102, .int .i64 6] w' (Vc.Ret (.agg #[.int .i64 x34, .int .i64 x35, .int .i64 x36, .int .i64 x37]) w')) ∧
  (.bool false : Value) = v)) ∧ (¬ (x18 = 0) → (
  (.bool false : Value) = v)))) ∧ (¬ (x17 = 8) → (
  (.bool false : Value) = v)))) ∧ (¬ ((x8 = x30) ∧ ((x9 = x31) ∧ ((x10 = x32) ∧ (x11 = x33)))) → (
  (.bool false : Value) = v)))) ∧ (¬ (x12 = 0) → (
  (.bool false : Value) = v)))))) ∧ (¬ (b0 = true) → (
  (.bool false : Value) = v)))) ∧ (¬ (x4 = (-1)) → (
  (.bool false : Value) = v)))) ∧ (¬ (x2 = 0) → (
  (.bool false : Value) = v)))) ∧ (¬ (x0 = 1) → (
  (.bool false : Value) = v)))))))) ∧ (¬ (x20 = 1) → (
  ((x20 = 0) → (
  ∃ (x21 : Int), ∃ (x22 : Int), ∃ (x23 : Int), ∃ (x24 : Int), (∀ w' : World, Below w.heap.size w w' → Calls Tryz.prog 53 #[.agg #[.int .i64 95, .int .i64 0, .int .i64 101, .int .i64 5], .int .i64 1] w' (Vc.Ret (.agg #[.int .i64 x21, .int .i64 x22, .int .i64 x23, .int .i64 x24]) w')) ∧
  ∃ (x25 : Int), ∃ (x26 : Int), (∀ w' : World, Below w.heap.size w w' → Calls Tryz.prog 68 #[.agg #[.int .i64 x21, .int .i64 x22]] w' (Vc.Ret (.agg #[.int .i64 x25, .int .i64 x26]) w')) ∧
  ∃ (x27 : Int), ∃ (x28 : Int), (∀ w' : World, Below w.heap.size w w' → Calls Tryz.prog 68 #[.agg #[.int .i64 x23, .int .i64 x24]] w' (Vc.Ret (.agg #[.int .i64 x27, .int .i64 x28]) w')) ∧
  ∃ (x29 : Int), (∀ (β : Nat → Nat) (w' : World), Below w.heap.size w w' → (Vc.RowOk w.heap.size (β 32) (β 33) (β 34) (β 35) (([.int .i64 0, .int .i64 0, .int .i64 100, .int .i64 0, .int .i64 100, .int .i64 100, .int .i64 0, .int .i64 100] : List Value)) 2 26 w' ∧ True) → Calls Tryz.prog 35 #[.agg #[.string ⟨(([113] : List UInt8)).toArray⟩, Vc.ownV (β 32) (β 33) (β 34) (β 35)], .agg #[.int .i64 x25, .int .i64 x26, .int .i64 x27, .int .i64 x28]] w' (Vc.Ret (.int .i64 x29) w')) ∧
  ((x29 = 1) → (
  ((x0 = 1) → (
  ((x2 = 0) → (
  ((x4 = (-1)) → (
  ((b0 = true) → (
  ((b1 = true) → (
  (.bool false : Value) = v)) ∧ (¬ (b1 = true) → (
  ((x12 = 0) → (
  ∃ (x30 : Int), ∃ (x31 : Int), ∃ (x32 : Int), ∃ (x33 : Int), (∀ w' : World, Below w.heap.size w w' → Calls Tryz.prog 18 #[.int .i64 2000, .int .i64 0, .int .i64 2000, .int .i64 0] w' (Vc.Ret (.agg #[.int .i64 x30, .int .i64 x31, .int .i64 x32, .int .i64 x33]) w')) ∧
  (((x8 = x30) ∧ ((x9 = x31) ∧ ((x10 = x32) ∧ (x11 = x33)))) → (
  ((x17 = 8) → (
  ((x18 = 0) → (
  ∃ (x34 : Int), ∃ (x35 : Int), ∃ (x36 : Int), ∃ (x37 : Int), (∀ w' : World, Below w.heap.size w w' → Calls Tryz.prog 18 #[.int .i64 94, .int .i64 (-1), .int .i64 102, .int .i64 6] w' (Vc.Ret (.agg #[.int .i64 x34, .int .i64 x35, .int .i64 x36, .int .i64 x37]) w')) ∧
  (.bool false : Value) = v)) ∧ (¬ (x18 = 0) → (
  (.bool false : Value) = v)))) ∧ (¬ (x17 = 8) → (
  (.bool false : Value) = v)))) ∧ (¬ ((x8 = x30) ∧ ((x9 = x31) ∧ ((x10 = x32) ∧ (x11 = x33)))) → (
  (.bool false : Value) = v)))) ∧ (¬ (x12 = 0) → (
  (.bool false : Value) = v)))))) ∧ (¬ (b0 = true) → (
  (.bool false : Value) = v)))) ∧ (¬ (x4 = (-1)) → (
  (.bool false : Value) = v)))) ∧ (¬ (x2 = 0) → (
  (.bool false : Value) = v)))) ∧ (¬ (x0 = 1) → (
  (.bool false : Value) = v)))) ∧ (¬ (x29 = 1) → (
  ((x29 = 0) → (
  ((x0 = 1) → (
  ((x2 = 0) → (
  ((x4 = (-1)) → (
  ((b0 = true) → (
  ((b1 = true) → (
  (.bool false : Value) = v)) ∧ (¬ (b1 = true) → (
  ((x12 = 0) → (
  ∃ (x30 : Int), ∃ (x31 : Int), ∃ (x32 : Int), ∃ (x33 : Int), (∀ w' : World, Below w.heap.size w w' → Calls Tryz.prog 18 #[.int .i64 2000, .int .i64 0, .int .i64 2000, .int .i64 0] w' (Vc.Ret (.agg #[.int .i64 x30, .int .i64 x31, .int .i64 x32, .int .i64 x33]) w')) ∧
  (((x8 = x30) ∧ ((x9 = x31) ∧ ((x10 = x32) ∧ (x11 = x33)))) → (
  ((x17 = 8) → (
  ((x18 = 0) → (
  ∃ (x34 : Int), ∃ (x35 : Int), ∃ (x36 : Int), ∃ (x37 : Int), (∀ w' : World, Below w.heap.size w w' → Calls Tryz.prog 18 #[.int .i64 94, .int .i64 (-1), .int .i64 102, .int .i64 6] w' (Vc.Ret (.agg #[.int .i64 x34, .int .i64 x35, .int .i64 x36, .int .i64 x37]) w')) ∧
  (.bool ((x25 == x34) && ((x26 == x35) && ((x27 == x36) && (x28 == x37)))) : Value) = v)) ∧ (¬ (x18 = 0) → (
  (.bool false : Value) = v)))) ∧ (¬ (x17 = 8) → (
  (.bool false : Value) = v)))) ∧ (¬ ((x8 = x30) ∧ ((x9 = x31) ∧ ((x10 = x32) ∧ (x11 = x33)))) → (
  (.bool false : Value) = v)))) ∧ (¬ (x12 = 0) → (
  (.bool false : Value) = v)))))) ∧ (¬ (b0 = true) → (
  (.bool false : Value) = v)))) ∧ (¬ (x4 = (-1)) → (
  (.bool false : Value) = v)))) ∧ (¬ (x2 = 0) → (
  (.bool false : Value) = v)))) ∧ (¬ (x0 = 1) → (
  (.bool false : Value) = v)))) ∧ (¬ (x29 = 0) → (
  ((x0 = 1) → (
  ((x2 = 0) → (
  ((x4 = (-1)) → (
  ((b0 = true) → (
  ((b1 = true) → (
  (.bool false : Value) = v)) ∧ (¬ (b1 = true) → (
  ((x12 = 0) → (
  ∃ (x30 : Int), ∃ (x31 : Int), ∃ (x32 : Int), ∃ (x33 : Int), (∀ w' : World, Below w.heap.size w w' → Calls Tryz.prog 18 #[.int .i64 2000, .int .i64 0, .int .i64 2000, .int .i64 0] w' (Vc.Ret (.agg #[.int .i64 x30, .int .i64 x31, .int .i64 x32, .int .i64 x33]) w')) ∧
  (((x8 = x30) ∧ ((x9 = x31) ∧ ((x10 = x32) ∧ (x11 = x33)))) → (
  ((x17 = 8) → (
  ((x18 = 0) → (
  ∃ (x34 : Int), ∃ (x35 : Int), ∃ (x36 : Int), ∃ (x37 : Int), (∀ w' : World, Below w.heap.size w w' → Calls Tryz.prog 18 #[.int .i64 94, .int .i64 (-1), .int .i64 102, .int .i64 6] w' (Vc.Ret (.agg #[.int .i64 x34, .int .i64 x35, .int .i64 x36, .int .i64 x37]) w')) ∧
  (.bool false : Value) = v)) ∧ (¬ (x18 = 0) → (
  (.bool false : Value) = v)))) ∧ (¬ (x17 = 8) → (
  (.bool false : Value) = v)))) ∧ (¬ ((x8 = x30) ∧ ((x9 = x31) ∧ ((x10 = x32) ∧ (x11 = x33)))) → (
  (.bool false : Value) = v)))) ∧ (¬ (x12 = 0) → (
  (.bool false : Value) = v)))))) ∧ (¬ (b0 = true) → (
  (.bool false : Value) = v)))) ∧ (¬ (x4 = (-1)) → (
  (.bool false : Value) = v)))) ∧ (¬ (x2 = 0) → (
  (.bool false : Value) = v)))) ∧ (¬ (x0 = 1) → (
  (.bool false : Value) = v)))))))) ∧ (¬ (x20 = 0) → (
  ((x0 = 1) → (
  ((x2 = 0) → (
  ((x4 = (-1)) → (
  ((b0 = true) → (
  ((b1 = true) → (
  (.bool false : Value) = v)) ∧ (¬ (b1 = true) → (
  ((x12 = 0) → (
  ∃ (x21 : Int), ∃ (x22 : Int), ∃ (x23 : Int), ∃ (x24 : Int), (∀ w' : World, Below w.heap.size w w' → Calls Tryz.prog 18 #[.int .i64 2000, .int .i64 0, .int .i64 2000, .int .i64 0] w' (Vc.Ret (.agg #[.int .i64 x21, .int .i64 x22, .int .i64 x23, .int .i64 x24]) w')) ∧
  (((x8 = x21) ∧ ((x9 = x22) ∧ ((x10 = x23) ∧ (x11 = x24)))) → (
  ((x17 = 8) → (
  ((x18 = 0) → (
  (.bool false : Value) = v)) ∧ (¬ (x18 = 0) → (
  (.bool false : Value) = v)))) ∧ (¬ (x17 = 8) → (
  (.bool false : Value) = v)))) ∧ (¬ ((x8 = x21) ∧ ((x9 = x22) ∧ ((x10 = x23) ∧ (x11 = x24)))) → (
  (.bool false : Value) = v)))) ∧ (¬ (x12 = 0) → (
  (.bool false : Value) = v)))))) ∧ (¬ (b0 = true) → (
  (.bool false : Value) = v)))) ∧ (¬ (x4 = (-1)) → (
  (.bool false : Value) = v)))) ∧ (¬ (x2 = 0) → (
  (.bool false : Value) = v)))) ∧ (¬ (x0 = 1) → (
  (.bool false : Value) = v)))))))) ∧ (¬ (b4 = true) → (
  ∃ (x20 : Int), ∃ (x21 : Int), ∃ (x22 : Int), ∃ (x23 : Int), (∀ w' : World, Below w.heap.size w w' → Calls Tryz.prog 53 #[.agg #[.int .i64 10, .int .i64 10, .int .i64 20, .int .i64 20], .int .i64 1] w' (Vc.Ret (.agg #[.int .i64 x20, .int .i64 x21, .int .i64 x22, .int .i64 x23]) w')) ∧
  ∃ (x24 : Int), ∃ (x25 : Int), (∀ w' : World, Below w.heap.size w w' → Calls Tryz.prog 68 #[.agg #[.int .i64 x20, .int .i64 x21]] w' (Vc.Ret (.agg #[.int .i64 x24, .int .i64 x25]) w')) ∧
  ∃ (x26 : Int), ∃ (x27 : Int), (∀ w' : World, Below w.heap.size w w' → Calls Tryz.prog 68 #[.agg #[.int .i64 x22, .int .i64 x23]] w' (Vc.Ret (.agg #[.int .i64 x26, .int .i64 x27]) w')) ∧
  ∃ (x28 : Int), (∀ (β : Nat → Nat) (w' : World), Below w.heap.size w w' → (Vc.RowOk w.heap.size (β 32) (β 33) (β 34) (β 35) (([.int .i64 0, .int .i64 0, .int .i64 100, .int .i64 0, .int .i64 100, .int .i64 100, .int .i64 0, .int .i64 100] : List Value)) 2 26 w' ∧ True) → Calls Tryz.prog 35 #[.agg #[.string ⟨(([113] : List UInt8)).toArray⟩, Vc.ownV (β 32) (β 33) (β 34) (β 35)], .agg #[.int .i64 x24, .int .i64 x25, .int .i64 x26, .int .i64 x27]] w' (Vc.Ret (.int .i64 x28) w')) ∧
  ((x28 = 1) → (
  ((x0 = 1) → (
  ((x2 = 0) → (
  ((x4 = (-1)) → (
  ((b0 = true) → (
  ((b1 = true) → (
  (.bool false : Value) = v)) ∧ (¬ (b1 = true) → (
  ((x12 = 0) → (
  ∃ (x29 : Int), ∃ (x30 : Int), ∃ (x31 : Int), ∃ (x32 : Int), (∀ w' : World, Below w.heap.size w w' → Calls Tryz.prog 18 #[.int .i64 2000, .int .i64 0, .int .i64 2000, .int .i64 0] w' (Vc.Ret (.agg #[.int .i64 x29, .int .i64 x30, .int .i64 x31, .int .i64 x32]) w')) ∧
  (((x8 = x29) ∧ ((x9 = x30) ∧ ((x10 = x31) ∧ (x11 = x32)))) → (
  ((x17 = 8) → (
  ((x18 = 0) → (
  ∃ (x33 : Int), ∃ (x34 : Int), ∃ (x35 : Int), ∃ (x36 : Int), (∀ w' : World, Below w.heap.size w w' → Calls Tryz.prog 18 #[.int .i64 94, .int .i64 (-1), .int .i64 102, .int .i64 6] w' (Vc.Ret (.agg #[.int .i64 x33, .int .i64 x34, .int .i64 x35, .int .i64 x36]) w')) ∧
  (.bool false : Value) = v)) ∧ (¬ (x18 = 0) → (
  (.bool false : Value) = v)))) ∧ (¬ (x17 = 8) → (
  (.bool false : Value) = v)))) ∧ (¬ ((x8 = x29) ∧ ((x9 = x30) ∧ ((x10 = x31) ∧ (x11 = x32)))) → (
  (.bool false : Value) = v)))) ∧ (¬ (x12 = 0) → (
  (.bool false : Value) = v)))))) ∧ (¬ (b0 = true) → (
  (.bool false : Value) = v)))) ∧ (¬ (x4 = (-1)) → (
  (.bool false : Value) = v)))) ∧ (¬ (x2 = 0) → (
  (.bool false : Value) = v)))) ∧ (¬ (x0 = 1) → (
  (.bool false : Value) = v)))) ∧ (¬ (x28 = 1) → (
  ((x28 = 0) → (
  ((x0 = 1) → (
  ((x2 = 0) → (
  ((x4 = (-1)) → (
  ((b0 = true) → (
  ((b1 = true) → (
  (.bool false : Value) = v)) ∧ (¬ (b1 = true) → (
  ((x12 = 0) → (
  ∃ (x29 : Int), ∃ (x30 : Int), ∃ (x31 : Int), ∃ (x32 : Int), (∀ w' : World, Below w.heap.size w w' → Calls Tryz.prog 18 #[.int .i64 2000, .int .i64 0, .int .i64 2000, .int .i64 0] w' (Vc.Ret (.agg #[.int .i64 x29, .int .i64 x30, .int .i64 x31, .int .i64 x32]) w')) ∧
  (((x8 = x29) ∧ ((x9 = x30) ∧ ((x10 = x31) ∧ (x11 = x32)))) → (
  ((x17 = 8) → (
  ((x18 = 0) → (
  ∃ (x33 : Int), ∃ (x34 : Int), ∃ (x35 : Int), ∃ (x36 : Int), (∀ w' : World, Below w.heap.size w w' → Calls Tryz.prog 18 #[.int .i64 94, .int .i64 (-1), .int .i64 102, .int .i64 6] w' (Vc.Ret (.agg #[.int .i64 x33, .int .i64 x34, .int .i64 x35, .int .i64 x36]) w')) ∧
  (.bool false : Value) = v)) ∧ (¬ (x18 = 0) → (
  (.bool false : Value) = v)))) ∧ (¬ (x17 = 8) → (
  (.bool false : Value) = v)))) ∧ (¬ ((x8 = x29) ∧ ((x9 = x30) ∧ ((x10 = x31) ∧ (x11 = x32)))) → (
  (.bool false : Value) = v)))) ∧ (¬ (x12 = 0) → (
  (.bool false : Value) = v)))))) ∧ (¬ (b0 = true) → (
  (.bool false : Value) = v)))) ∧ (¬ (x4 = (-1)) → (
  (.bool false : Value) = v)))) ∧ (¬ (x2 = 0) → (
  (.bool false : Value) = v)))) ∧ (¬ (x0 = 1) → (
  (.bool false : Value) = v)))) ∧ (¬ (x28 = 0) → (
  ((x0 = 1) → (
  ((x2 = 0) → (
  ((x4 = (-1)) → (
  ((b0 = true) → (
  ((b1 = true) → (
  (.bool false : Value) = v)) ∧ (¬ (b1 = true) → (
  ((x12 = 0) → (
  ∃ (x29 : Int), ∃ (x30 : Int), ∃ (x31 : Int), ∃ (x32 : Int), (∀ w' : World, Below w.heap.size w w' → Calls Tryz.prog 18 #[.int .i64 2000, .int .i64 0, .int .i64 2000, .int .i64 0] w' (Vc.Ret (.agg #[.int .i64 x29, .int .i64 x30, .int .i64 x31, .int .i64 x32]) w')) ∧
  (((x8 = x29) ∧ ((x9 = x30) ∧ ((x10 = x31) ∧ (x11 = x32)))) → (
  ((x17 = 8) → (
  ((x18 = 0) → (
  ∃ (x33 : Int), ∃ (x34 : Int), ∃ (x35 : Int), ∃ (x36 : Int), (∀ w' : World, Below w.heap.size w w' → Calls Tryz.prog 18 #[.int .i64 94, .int .i64 (-1), .int .i64 102, .int .i64 6] w' (Vc.Ret (.agg #[.int .i64 x33, .int .i64 x34, .int .i64 x35, .int .i64 x36]) w')) ∧
  (.bool false : Value) = v)) ∧ (¬ (x18 = 0) → (
  (.bool false : Value) = v)))) ∧ (¬ (x17 = 8) → (
  (.bool false : Value) = v)))) ∧ (¬ ((x8 = x29) ∧ ((x9 = x30) ∧ ((x10 = x31) ∧ (x11 = x32)))) → (
  (.bool false : Value) = v)))) ∧ (¬ (x12 = 0) → (
  (.bool false : Value) = v)))))) ∧ (¬ (b0 = true) → (
  (.bool false : Value) = v)))) ∧ (¬ (x4 = (-1)) → (
  (.bool false : Value) = v)))) ∧ (¬ (x2 = 0) → (
  (.bool false : Value) = v)))) ∧ (¬ (x0 = 1) → (
  (.bool false : Value) = v)))))))))) ∧ (¬ (x19 = 1) → (
  ((x19 = 0) → (
  ∃ (b4 : Bool), (∀ w' : World, Below w.heap.size w w' → Calls Tryz.prog 34 #[.agg #[.int .i64 95, .int .i64 0, .int .i64 101, .int .i64 5]] w' (Vc.Ret (.bool b4) w')) ∧
  ((b4 = true) → (
  ∃ (x20 : Int), (∀ (β : Nat → Nat) (w' : World), Below w.heap.size w w' → (Vc.RowOk w.heap.size (β 32) (β 33) (β 34) (β 35) (([.int .i64 0, .int .i64 0, .int .i64 100, .int .i64 0, .int .i64 100, .int .i64 100, .int .i64 0, .int .i64 100] : List Value)) 2 26 w' ∧ True) → Calls Tryz.prog 35 #[.agg #[.string ⟨(([113] : List UInt8)).toArray⟩, Vc.ownV (β 32) (β 33) (β 34) (β 35)], .agg #[.int .i64 95, .int .i64 0, .int .i64 101, .int .i64 5]] w' (Vc.Ret (.int .i64 x20) w')) ∧
  ((x20 = 1) → (
  ∃ (x21 : Int), ∃ (x22 : Int), ∃ (x23 : Int), ∃ (x24 : Int), (∀ w' : World, Below w.heap.size w w' → Calls Tryz.prog 53 #[.agg #[.int .i64 95, .int .i64 0, .int .i64 101, .int .i64 5], .int .i64 1] w' (Vc.Ret (.agg #[.int .i64 x21, .int .i64 x22, .int .i64 x23, .int .i64 x24]) w')) ∧
  ∃ (x25 : Int), ∃ (x26 : Int), (∀ w' : World, Below w.heap.size w w' → Calls Tryz.prog 68 #[.agg #[.int .i64 x21, .int .i64 x22]] w' (Vc.Ret (.agg #[.int .i64 x25, .int .i64 x26]) w')) ∧
  ∃ (x27 : Int), ∃ (x28 : Int), (∀ w' : World, Below w.heap.size w w' → Calls Tryz.prog 68 #[.agg #[.int .i64 x23, .int .i64 x24]] w' (Vc.Ret (.agg #[.int .i64 x27, .int .i64 x28]) w')) ∧
  ∃ (x29 : Int), (∀ (β : Nat → Nat) (w' : World), Below w.heap.size w w' → (Vc.RowOk w.heap.size (β 32) (β 33) (β 34) (β 35) (([.int .i64 0, .int .i64 0, .int .i64 100, .int .i64 0, .int .i64 100, .int .i64 100, .int .i64 0, .int .i64 100] : List Value)) 2 26 w' ∧ True) → Calls Tryz.prog 35 #[.agg #[.string ⟨(([113] : List UInt8)).toArray⟩, Vc.ownV (β 32) (β 33) (β 34) (β 35)], .agg #[.int .i64 x25, .int .i64 x26, .int .i64 x27, .int .i64 x28]] w' (Vc.Ret (.int .i64 x29) w')) ∧
  ((x29 = 1) → (
  ((x0 = 1) → (
  ((x2 = 0) → (
  ((x4 = (-1)) → (
  ((b0 = true) → (
  ((b1 = true) → (
  (.bool false : Value) = v)) ∧ (¬ (b1 = true) → (
  ((x12 = 0) → (
  ∃ (x30 : Int), ∃ (x31 : Int), ∃ (x32 : Int), ∃ (x33 : Int), (∀ w' : World, Below w.heap.size w w' → Calls Tryz.prog 18 #[.int .i64 2000, .int .i64 0, .int .i64 2000, .int .i64 0] w' (Vc.Ret (.agg #[.int .i64 x30, .int .i64 x31, .int .i64 x32, .int .i64 x33]) w')) ∧
  (((x8 = x30) ∧ ((x9 = x31) ∧ ((x10 = x32) ∧ (x11 = x33)))) → (
  ((x17 = 8) → (
  ((x18 = 0) → (
  ∃ (x34 : Int), ∃ (x35 : Int), ∃ (x36 : Int), ∃ (x37 : Int), (∀ w' : World, Below w.heap.size w w' → Calls Tryz.prog 18 #[.int .i64 94, .int .i64 (-1), .int .i64 102, .int .i64 6] w' (Vc.Ret (.agg #[.int .i64 x34, .int .i64 x35, .int .i64 x36, .int .i64 x37]) w')) ∧
  (.bool false : Value) = v)) ∧ (¬ (x18 = 0) → (
  (.bool false : Value) = v)))) ∧ (¬ (x17 = 8) → (
  (.bool false : Value) = v)))) ∧ (¬ ((x8 = x30) ∧ ((x9 = x31) ∧ ((x10 = x32) ∧ (x11 = x33)))) → (
  (.bool false : Value) = v)))) ∧ (¬ (x12 = 0) → (
  (.bool false : Value) = v)))))) ∧ (¬ (b0 = true) → (
  (.bool false : Value) = v)))) ∧ (¬ (x4 = (-1)) → (
  (.bool false : Value) = v)))) ∧ (¬ (x2 = 0) → (
  (.bool false : Value) = v)))) ∧ (¬ (x0 = 1) → (
  (.bool false : Value) = v)))) ∧ (¬ (x29 = 1) → (
  ((x29 = 0) → (
  ((x0 = 1) → (
  ((x2 = 0) → (
  ((x4 = (-1)) → (
  ((b0 = true) → (
  ((b1 = true) → (
  (.bool false : Value) = v)) ∧ (¬ (b1 = true) → (
  ((x12 = 0) → (
  ∃ (x30 : Int), ∃ (x31 : Int), ∃ (x32 : Int), ∃ (x33 : Int), (∀ w' : World, Below w.heap.size w w' → Calls Tryz.prog 18 #[.int .i64 2000, .int .i64 0, .int .i64 2000, .int .i64 0] w' (Vc.Ret (.agg #[.int .i64 x30, .int .i64 x31, .int .i64 x32, .int .i64 x33]) w')) ∧
  (((x8 = x30) ∧ ((x9 = x31) ∧ ((x10 = x32) ∧ (x11 = x33)))) → (
  ((x17 = 8) → (
  ((x18 = 0) → (
  ∃ (x34 : Int), ∃ (x35 : Int), ∃ (x36 : Int), ∃ (x37 : Int), (∀ w' : World, Below w.heap.size w w' → Calls Tryz.prog 18 #[.int .i64 94, .int .i64 (-1), .int .i64 102, .int .i64 6] w' (Vc.Ret (.agg #[.int .i64 x34, .int .i64 x35, .int .i64 x36, .int .i64 x37]) w')) ∧
  (.bool false : Value) = v)) ∧ (¬ (x18 = 0) → (
  (.bool false : Value) = v)))) ∧ (¬ (x17 = 8) → (
  (.bool false : Value) = v)))) ∧ (¬ ((x8 = x30) ∧ ((x9 = x31) ∧ ((x10 = x32) ∧ (x11 = x33)))) → (
  (.bool false : Value) = v)))) ∧ (¬ (x12 = 0) → (
  (.bool false : Value) = v)))))) ∧ (¬ (b0 = true) → (
  (.bool false : Value) = v)))) ∧ (¬ (x4 = (-1)) → (
  (.bool false : Value) = v)))) ∧ (¬ (x2 = 0) → (
  (.bool false : Value) = v)))) ∧ (¬ (x0 = 1) → (
  (.bool false : Value) = v)))) ∧ (¬ (x29 = 0) → (
  ((x0 = 1) → (
  ((x2 = 0) → (
  ((x4 = (-1)) → (
  ((b0 = true) → (
  ((b1 = true) → (
  (.bool false : Value) = v)) ∧ (¬ (b1 = true) → (
  ((x12 = 0) → (
  ∃ (x30 : Int), ∃ (x31 : Int), ∃ (x32 : Int), ∃ (x33 : Int), (∀ w' : World, Below w.heap.size w w' → Calls Tryz.prog 18 #[.int .i64 2000, .int .i64 0, .int .i64 2000, .int .i64 0] w' (Vc.Ret (.agg #[.int .i64 x30, .int .i64 x31, .int .i64 x32, .int .i64 x33]) w')) ∧
  (((x8 = x30) ∧ ((x9 = x31) ∧ ((x10 = x32) ∧ (x11 = x33)))) → (
  ((x17 = 8) → (
  ((x18 = 0) → (
  ∃ (x34 : Int), ∃ (x35 : Int), ∃ (x36 : Int), ∃ (x37 : Int), (∀ w' : World, Below w.heap.size w w' → Calls Tryz.prog 18 #[.int .i64 94, .int .i64 (-1), .int .i64 102, .int .i64 6] w' (Vc.Ret (.agg #[.int .i64 x34, .int .i64 x35, .int .i64 x36, .int .i64 x37]) w')) ∧
  (.bool false : Value) = v)) ∧ (¬ (x18 = 0) → (
  (.bool false : Value) = v)))) ∧ (¬ (x17 = 8) → (
  (.bool false : Value) = v)))) ∧ (¬ ((x8 = x30) ∧ ((x9 = x31) ∧ ((x10 = x32) ∧ (x11 = x33)))) → (
  (.bool false : Value) = v)))) ∧ (¬ (x12 = 0) → (
  (.bool false : Value) = v)))))) ∧ (¬ (b0 = true) → (
  (.bool false : Value) = v)))) ∧ (¬ (x4 = (-1)) → (
  (.bool false : Value) = v)))) ∧ (¬ (x2 = 0) → (
  (.bool false : Value) = v)))) ∧ (¬ (x0 = 1) → (
  (.bool false : Value) = v)))))))) ∧ (¬ (x20 = 1) → (
  ((x20 = 0) → (
  ((x0 = 1) → (
  ((x2 = 0) → (
  ((x4 = (-1)) → (
  ((b0 = true) → (
  ((b1 = true) → (
  (.bool false : Value) = v)) ∧ (¬ (b1 = true) → (
  ((x12 = 0) → (
  ∃ (x21 : Int), ∃ (x22 : Int), ∃ (x23 : Int), ∃ (x24 : Int), (∀ w' : World, Below w.heap.size w w' → Calls Tryz.prog 18 #[.int .i64 2000, .int .i64 0, .int .i64 2000, .int .i64 0] w' (Vc.Ret (.agg #[.int .i64 x21, .int .i64 x22, .int .i64 x23, .int .i64 x24]) w')) ∧
  (((x8 = x21) ∧ ((x9 = x22) ∧ ((x10 = x23) ∧ (x11 = x24)))) → (
  ((x17 = 8) → (
  ((x18 = 0) → (
  (.bool false : Value) = v)) ∧ (¬ (x18 = 0) → (
  (.bool false : Value) = v)))) ∧ (¬ (x17 = 8) → (
  (.bool false : Value) = v)))) ∧ (¬ ((x8 = x21) ∧ ((x9 = x22) ∧ ((x10 = x23) ∧ (x11 = x24)))) → (
  (.bool false : Value) = v)))) ∧ (¬ (x12 = 0) → (
  (.bool false : Value) = v)))))) ∧ (¬ (b0 = true) → (
  (.bool false : Value) = v)))) ∧ (¬ (x4 = (-1)) → (
  (.bool false : Value) = v)))) ∧ (¬ (x2 = 0) → (
  (.bool false : Value) = v)))) ∧ (¬ (x0 = 1) → (
  (.bool false : Value) = v)))) ∧ (¬ (x20 = 0) → (
  ((x0 = 1) → (
  ((x2 = 0) → (
  ((x4 = (-1)) → (
  ((b0 = true) → (
  ((b1 = true) → (
  (.bool false : Value) = v)) ∧ (¬ (b1 = true) → (
  ((x12 = 0) → (
  ∃ (x21 : Int), ∃ (x22 : Int), ∃ (x23 : Int), ∃ (x24 : Int), (∀ w' : World, Below w.heap.size w w' → Calls Tryz.prog 18 #[.int .i64 2000, .int .i64 0, .int .i64 2000, .int .i64 0] w' (Vc.Ret (.agg #[.int .i64 x21, .int .i64 x22, .int .i64 x23, .int .i64 x24]) w')) ∧
  (((x8 = x21) ∧ ((x9 = x22) ∧ ((x10 = x23) ∧ (x11 = x24)))) → (
  ((x17 = 8) → (
  ((x18 = 0) → (
  (.bool false : Value) = v)) ∧ (¬ (x18 = 0) → (
  (.bool false : Value) = v)))) ∧ (¬ (x17 = 8) → (
  (.bool false : Value) = v)))) ∧ (¬ ((x8 = x21) ∧ ((x9 = x22) ∧ ((x10 = x23) ∧ (x11 = x24)))) → (
  (.bool false : Value) = v)))) ∧ (¬ (x12 = 0) → (
  (.bool false : Value) = v)))))) ∧ (¬ (b0 = true) → (
  (.bool false : Value) = v)))) ∧ (¬ (x4 = (-1)) → (
  (.bool false : Value) = v)))) ∧ (¬ (x2 = 0) → (
  (.bool false : Value) = v)))) ∧ (¬ (x0 = 1) → (
  (.bool false : Value) = v)))))))) ∧ (¬ (b4 = true) → (
  ∃ (x20 : Int), ∃ (x21 : Int), ∃ (x22 : Int), ∃ (x23 : Int), (∀ w' : World, Below w.heap.size w w' → Calls Tryz.prog 53 #[.agg #[.int .i64 10, .int .i64 10, .int .i64 20, .int .i64 20], .int .i64 1] w' (Vc.Ret (.agg #[.int .i64 x20, .int .i64 x21, .int .i64 x22, .int .i64 x23]) w')) ∧
  ∃ (x24 : Int), ∃ (x25 : Int), (∀ w' : World, Below w.heap.size w w' → Calls Tryz.prog 68 #[.agg #[.int .i64 x20, .int .i64 x21]] w' (Vc.Ret (.agg #[.int .i64 x24, .int .i64 x25]) w')) ∧
  ∃ (x26 : Int), ∃ (x27 : Int), (∀ w' : World, Below w.heap.size w w' → Calls Tryz.prog 68 #[.agg #[.int .i64 x22, .int .i64 x23]] w' (Vc.Ret (.agg #[.int .i64 x26, .int .i64 x27]) w')) ∧
  ∃ (x28 : Int), (∀ (β : Nat → Nat) (w' : World), Below w.heap.size w w' → (Vc.RowOk w.heap.size (β 32) (β 33) (β 34) (β 35) (([.int .i64 0, .int .i64 0, .int .i64 100, .int .i64 0, .int .i64 100, .int .i64 100, .int .i64 0, .int .i64 100] : List Value)) 2 26 w' ∧ True) → Calls Tryz.prog 35 #[.agg #[.string ⟨(([113] : List UInt8)).toArray⟩, Vc.ownV (β 32) (β 33) (β 34) (β 35)], .agg #[.int .i64 x24, .int .i64 x25, .int .i64 x26, .int .i64 x27]] w' (Vc.Ret (.int .i64 x28) w')) ∧
  ((x28 = 1) → (
  ((x0 = 1) → (
  ((x2 = 0) → (
  ((x4 = (-1)) → (
  ((b0 = true) → (
  ((b1 = true) → (
  (.bool false : Value) = v)) ∧ (¬ (b1 = true) → (
  ((x12 = 0) → (
  ∃ (x29 : Int), ∃ (x30 : Int), ∃ (x31 : Int), ∃ (x32 : Int), (∀ w' : World, Below w.heap.size w w' → Calls Tryz.prog 18 #[.int .i64 2000, .int .i64 0, .int .i64 2000, .int .i64 0] w' (Vc.Ret (.agg #[.int .i64 x29, .int .i64 x30, .int .i64 x31, .int .i64 x32]) w')) ∧
  (((x8 = x29) ∧ ((x9 = x30) ∧ ((x10 = x31) ∧ (x11 = x32)))) → (
  ((x17 = 8) → (
  ((x18 = 0) → (
  ∃ (x33 : Int), ∃ (x34 : Int), ∃ (x35 : Int), ∃ (x36 : Int), (∀ w' : World, Below w.heap.size w w' → Calls Tryz.prog 18 #[.int .i64 94, .int .i64 (-1), .int .i64 102, .int .i64 6] w' (Vc.Ret (.agg #[.int .i64 x33, .int .i64 x34, .int .i64 x35, .int .i64 x36]) w')) ∧
  (.bool false : Value) = v)) ∧ (¬ (x18 = 0) → (
  (.bool false : Value) = v)))) ∧ (¬ (x17 = 8) → (
  (.bool false : Value) = v)))) ∧ (¬ ((x8 = x29) ∧ ((x9 = x30) ∧ ((x10 = x31) ∧ (x11 = x32)))) → (
  (.bool false : Value) = v)))) ∧ (¬ (x12 = 0) → (
  (.bool false : Value) = v)))))) ∧ (¬ (b0 = true) → (
  (.bool false : Value) = v)))) ∧ (¬ (x4 = (-1)) → (
  (.bool false : Value) = v)))) ∧ (¬ (x2 = 0) → (
  (.bool false : Value) = v)))) ∧ (¬ (x0 = 1) → (
  (.bool false : Value) = v)))) ∧ (¬ (x28 = 1) → (
  ((x28 = 0) → (
  ((x0 = 1) → (
  ((x2 = 0) → (
  ((x4 = (-1)) → (
  ((b0 = true) → (
  ((b1 = true) → (
  (.bool false : Value) = v)) ∧ (¬ (b1 = true) → (
  ((x12 = 0) → (
  ∃ (x29 : Int), ∃ (x30 : Int), ∃ (x31 : Int), ∃ (x32 : Int), (∀ w' : World, Below w.heap.size w w' → Calls Tryz.prog 18 #[.int .i64 2000, .int .i64 0, .int .i64 2000, .int .i64 0] w' (Vc.Ret (.agg #[.int .i64 x29, .int .i64 x30, .int .i64 x31, .int .i64 x32]) w')) ∧
  (((x8 = x29) ∧ ((x9 = x30) ∧ ((x10 = x31) ∧ (x11 = x32)))) → (
  ((x17 = 8) → (
  ((x18 = 0) → (
  ∃ (x33 : Int), ∃ (x34 : Int), ∃ (x35 : Int), ∃ (x36 : Int), (∀ w' : World, Below w.heap.size w w' → Calls Tryz.prog 18 #[.int .i64 94, .int .i64 (-1), .int .i64 102, .int .i64 6] w' (Vc.Ret (.agg #[.int .i64 x33, .int .i64 x34, .int .i64 x35, .int .i64 x36]) w')) ∧
  (.bool ((x24 == x33) && ((x25 == x34) && ((x26 == x35) && (x27 == x36)))) : Value) = v)) ∧ (¬ (x18 = 0) → (
  (.bool false : Value) = v)))) ∧ (¬ (x17 = 8) → (
  (.bool false : Value) = v)))) ∧ (¬ ((x8 = x29) ∧ ((x9 = x30) ∧ ((x10 = x31) ∧ (x11 = x32)))) → (
  (.bool false : Value) = v)))) ∧ (¬ (x12 = 0) → (
  (.bool false : Value) = v)))))) ∧ (¬ (b0 = true) → (
  (.bool false : Value) = v)))) ∧ (¬ (x4 = (-1)) → (
  (.bool false : Value) = v)))) ∧ (¬ (x2 = 0) → (
  (.bool false : Value) = v)))) ∧ (¬ (x0 = 1) → (
  (.bool false : Value) = v)))) ∧ (¬ (x28 = 0) → (
  ((x0 = 1) → (
  ((x2 = 0) → (
  ((x4 = (-1)) → (
  ((b0 = true) → (
  ((b1 = true) → (
  (.bool false : Value) = v)) ∧ (¬ (b1 = true) → (
  ((x12 = 0) → (
  ∃ (x29 : Int), ∃ (x30 : Int), ∃ (x31 : Int), ∃ (x32 : Int), (∀ w' : World, Below w.heap.size w w' → Calls Tryz.prog 18 #[.int .i64 2000, .int .i64 0, .int .i64 2000, .int .i64 0] w' (Vc.Ret (.agg #[.int .i64 x29, .int .i64 x30, .int .i64 x31, .int .i64 x32]) w')) ∧
  (((x8 = x29) ∧ ((x9 = x30) ∧ ((x10 = x31) ∧ (x11 = x32)))) → (
  ((x17 = 8) → (
  ((x18 = 0) → (
  ∃ (x33 : Int), ∃ (x34 : Int), ∃ (x35 : Int), ∃ (x36 : Int), (∀ w' : World, Below w.heap.size w w' → Calls Tryz.prog 18 #[.int .i64 94, .int .i64 (-1), .int .i64 102, .int .i64 6] w' (Vc.Ret (.agg #[.int .i64 x33, .int .i64 x34, .int .i64 x35, .int .i64 x36]) w')) ∧
  (.bool false : Value) = v)) ∧ (¬ (x18 = 0) → (
  (.bool false : Value) = v)))) ∧ (¬ (x17 = 8) → (
  (.bool false : Value) = v)))) ∧ (¬ ((x8 = x29) ∧ ((x9 = x30) ∧ ((x10 = x31) ∧ (x11 = x32)))) → (
  (.bool false : Value) = v)))) ∧ (¬ (x12 = 0) → (
  (.bool false : Value) = v)))))) ∧ (¬ (b0 = true) → (
  (.bool false : Value) = v)))) ∧ (¬ (x4 = (-1)) → (
  (.bool false : Value) = v)))) ∧ (¬ (x2 = 0) → (
  (.bool false : Value) = v)))) ∧ (¬ (x0 = 1) → (
  (.bool false : Value) = v)))))))))) ∧ (¬ (x19 = 0) → (
  ((x0 = 1) → (
  ((x2 = 0) → (
  ((x4 = (-1)) → (
  ((b0 = true) → (
  ((b1 = true) → (
  (.bool false : Value) = v)) ∧ (¬ (b1 = true) → (
  ((x12 = 0) → (
  ∃ (x20 : Int), ∃ (x21 : Int), ∃ (x22 : Int), ∃ (x23 : Int), (∀ w' : World, Below w.heap.size w w' → Calls Tryz.prog 18 #[.int .i64 2000, .int .i64 0, .int .i64 2000, .int .i64 0] w' (Vc.Ret (.agg #[.int .i64 x20, .int .i64 x21, .int .i64 x22, .int .i64 x23]) w')) ∧
  (((x8 = x20) ∧ ((x9 = x21) ∧ ((x10 = x22) ∧ (x11 = x23)))) → (
  ((x17 = 8) → (
  ((x18 = 0) → (
  ∃ (x24 : Int), ∃ (x25 : Int), ∃ (x26 : Int), ∃ (x27 : Int), (∀ w' : World, Below w.heap.size w w' → Calls Tryz.prog 18 #[.int .i64 94, .int .i64 (-1), .int .i64 102, .int .i64 6] w' (Vc.Ret (.agg #[.int .i64 x24, .int .i64 x25, .int .i64 x26, .int .i64 x27]) w')) ∧
  (.bool false : Value) = v)) ∧ (¬ (x18 = 0) → (
  (.bool false : Value) = v)))) ∧ (¬ (x17 = 8) → (
  (.bool false : Value) = v)))) ∧ (¬ ((x8 = x20) ∧ ((x9 = x21) ∧ ((x10 = x22) ∧ (x11 = x23)))) → (
  (.bool false : Value) = v)))) ∧ (¬ (x12 = 0) → (
  (.bool false : Value) = v)))))) ∧ (¬ (b0 = true) → (
  (.bool false : Value) = v)))) ∧ (¬ (x4 = (-1)) → (
  (.bool false : Value) = v)))) ∧ (¬ (x2 = 0) → (
  (.bool false : Value) = v)))) ∧ (¬ (x0 = 1) → (
  (.bool false : Value) = v)))))))) ∧ (¬ (b3 = true) → (
  ∃ (b4 : Bool), (∀ w' : World, Below w.heap.size w w' → Calls Tryz.prog 34 #[.agg #[.int .i64 95, .int .i64 0, .int .i64 101, .int .i64 5]] w' (Vc.Ret (.bool b4) w')) ∧
  ((b4 = true) → (
  ∃ (x19 : Int), (∀ (β : Nat → Nat) (w' : World), Below w.heap.size w w' → (Vc.RowOk w.heap.size (β 32) (β 33) (β 34) (β 35) (([.int .i64 0, .int .i64 0, .int .i64 100, .int .i64 0, .int .i64 100, .int .i64 100, .int .i64 0, .int .i64 100] : List Value)) 2 26 w' ∧ True) → Calls Tryz.prog 35 #[.agg #[.string ⟨(([113] : List UInt8)).toArray⟩, Vc.ownV (β 32) (β 33) (β 34) (β 35)], .agg #[.int .i64 95, .int .i64 0, .int .i64 101, .int .i64 5]] w' (Vc.Ret (.int .i64 x19) w')) ∧
  ((x19 = 1) → (
  ∃ (x20 : Int), ∃ (x21 : Int), ∃ (x22 : Int), ∃ (x23 : Int), (∀ w' : World, Below w.heap.size w w' → Calls Tryz.prog 53 #[.agg #[.int .i64 95, .int .i64 0, .int .i64 101, .int .i64 5], .int .i64 1] w' (Vc.Ret (.agg #[.int .i64 x20, .int .i64 x21, .int .i64 x22, .int .i64 x23]) w')) ∧
  ∃ (x24 : Int), ∃ (x25 : Int), (∀ w' : World, Below w.heap.size w w' → Calls Tryz.prog 68 #[.agg #[.int .i64 x20, .int .i64 x21]] w' (Vc.Ret (.agg #[.int .i64 x24, .int .i64 x25]) w')) ∧
  ∃ (x26 : Int), ∃ (x27 : Int), (∀ w' : World, Below w.heap.size w w' → Calls Tryz.prog 68 #[.agg #[.int .i64 x22, .int .i64 x23]] w' (Vc.Ret (.agg #[.int .i64 x26, .int .i64 x27]) w')) ∧
  ∃ (x28 : Int), (∀ (β : Nat → Nat) (w' : World), Below w.heap.size w w' → (Vc.RowOk w.heap.size (β 32) (β 33) (β 34) (β 35) (([.int .i64 0, .int .i64 0, .int .i64 100, .int .i64 0, .int .i64 100, .int .i64 100, .int .i64 0, .int .i64 100] : List Value)) 2 26 w' ∧ True) → Calls Tryz.prog 35 #[.agg #[.string ⟨(([113] : List UInt8)).toArray⟩, Vc.ownV (β 32) (β 33) (β 34) (β 35)], .agg #[.int .i64 x24, .int .i64 x25, .int .i64 x26, .int .i64 x27]] w' (Vc.Ret (.int .i64 x28) w')) ∧
  ((x28 = 1) → (
  ((x0 = 1) → (
  ((x2 = 0) → (
  ((x4 = (-1)) → (
  ((b0 = true) → (
  ((b1 = true) → (
  (.bool false : Value) = v)) ∧ (¬ (b1 = true) → (
  ((x12 = 0) → (
  ∃ (x29 : Int), ∃ (x30 : Int), ∃ (x31 : Int), ∃ (x32 : Int), (∀ w' : World, Below w.heap.size w w' → Calls Tryz.prog 18 #[.int .i64 2000, .int .i64 0, .int .i64 2000, .int .i64 0] w' (Vc.Ret (.agg #[.int .i64 x29, .int .i64 x30, .int .i64 x31, .int .i64 x32]) w')) ∧
  (((x8 = x29) ∧ ((x9 = x30) ∧ ((x10 = x31) ∧ (x11 = x32)))) → (
  ((x17 = 8) → (
  ((x18 = 0) → (
  ∃ (x33 : Int), ∃ (x34 : Int), ∃ (x35 : Int), ∃ (x36 : Int), (∀ w' : World, Below w.heap.size w w' → Calls Tryz.prog 18 #[.int .i64 94, .int .i64 (-1), .int .i64 102, .int .i64 6] w' (Vc.Ret (.agg #[.int .i64 x33, .int .i64 x34, .int .i64 x35, .int .i64 x36]) w')) ∧
  (.bool false : Value) = v)) ∧ (¬ (x18 = 0) → (
  (.bool false : Value) = v)))) ∧ (¬ (x17 = 8) → (
  (.bool false : Value) = v)))) ∧ (¬ ((x8 = x29) ∧ ((x9 = x30) ∧ ((x10 = x31) ∧ (x11 = x32)))) → (
  (.bool false : Value) = v)))) ∧ (¬ (x12 = 0) → (
  (.bool false : Value) = v)))))) ∧ (¬ (b0 = true) → (
  (.bool false : Value) = v)))) ∧ (¬ (x4 = (-1)) → (
  (.bool false : Value) = v)))) ∧ (¬ (x2 = 0) → (
  (.bool false : Value) = v)))) ∧ (¬ (x0 = 1) → (
  (.bool false : Value) = v)))) ∧ (¬ (x28 = 1) → (
  ((x28 = 0) → (
  ((x0 = 1) → (
  ((x2 = 0) → (
  ((x4 = (-1)) → (
  ((b0 = true) → (
  ((b1 = true) → (
  (.bool false : Value) = v)) ∧ (¬ (b1 = true) → (
  ((x12 = 0) → (
  ∃ (x29 : Int), ∃ (x30 : Int), ∃ (x31 : Int), ∃ (x32 : Int), (∀ w' : World, Below w.heap.size w w' → Calls Tryz.prog 18 #[.int .i64 2000, .int .i64 0, .int .i64 2000, .int .i64 0] w' (Vc.Ret (.agg #[.int .i64 x29, .int .i64 x30, .int .i64 x31, .int .i64 x32]) w')) ∧
  (((x8 = x29) ∧ ((x9 = x30) ∧ ((x10 = x31) ∧ (x11 = x32)))) → (
  ((x17 = 8) → (
  ((x18 = 0) → (
  ∃ (x33 : Int), ∃ (x34 : Int), ∃ (x35 : Int), ∃ (x36 : Int), (∀ w' : World, Below w.heap.size w w' → Calls Tryz.prog 18 #[.int .i64 94, .int .i64 (-1), .int .i64 102, .int .i64 6] w' (Vc.Ret (.agg #[.int .i64 x33, .int .i64 x34, .int .i64 x35, .int .i64 x36]) w')) ∧
  (.bool false : Value) = v)) ∧ (¬ (x18 = 0) → (
  (.bool false : Value) = v)))) ∧ (¬ (x17 = 8) → (
  (.bool false : Value) = v)))) ∧ (¬ ((x8 = x29) ∧ ((x9 = x30) ∧ ((x10 = x31) ∧ (x11 = x32)))) → (
  (.bool false : Value) = v)))) ∧ (¬ (x12 = 0) → (
  (.bool false : Value) = v)))))) ∧ (¬ (b0 = true) → (
  (.bool false : Value) = v)))) ∧ (¬ (x4 = (-1)) → (
  (.bool false : Value) = v)))) ∧ (¬ (x2 = 0) → (
  (.bool false : Value) = v)))) ∧ (¬ (x0 = 1) → (
  (.bool false : Value) = v)))) ∧ (¬ (x28 = 0) → (
  ((x0 = 1) → (
  ((x2 = 0) → (
  ((x4 = (-1)) → (
  ((b0 = true) → (
  ((b1 = true) → (
  (.bool false : Value) = v)) ∧ (¬ (b1 = true) → (
  ((x12 = 0) → (
  ∃ (x29 : Int), ∃ (x30 : Int), ∃ (x31 : Int), ∃ (x32 : Int), (∀ w' : World, Below w.heap.size w w' → Calls Tryz.prog 18 #[.int .i64 2000, .int .i64 0, .int .i64 2000, .int .i64 0] w' (Vc.Ret (.agg #[.int .i64 x29, .int .i64 x30, .int .i64 x31, .int .i64 x32]) w')) ∧
  (((x8 = x29) ∧ ((x9 = x30) ∧ ((x10 = x31) ∧ (x11 = x32)))) → (
  ((x17 = 8) → (
  ((x18 = 0) → (
  ∃ (x33 : Int), ∃ (x34 : Int), ∃ (x35 : Int), ∃ (x36 : Int), (∀ w' : World, Below w.heap.size w w' → Calls Tryz.prog 18 #[.int .i64 94, .int .i64 (-1), .int .i64 102, .int .i64 6] w' (Vc.Ret (.agg #[.int .i64 x33, .int .i64 x34, .int .i64 x35, .int .i64 x36]) w')) ∧
  (.bool false : Value) = v)) ∧ (¬ (x18 = 0) → (
  (.bool false : Value) = v)))) ∧ (¬ (x17 = 8) → (
  (.bool false : Value) = v)))) ∧ (¬ ((x8 = x29) ∧ ((x9 = x30) ∧ ((x10 = x31) ∧ (x11 = x32)))) → (
  (.bool false : Value) = v)))) ∧ (¬ (x12 = 0) → (
  (.bool false : Value) = v)))))) ∧ (¬ (b0 = true) → (
  (.bool false : Value) = v)))) ∧ (¬ (x4 = (-1)) → (
  (.bool false : Value) = v)))) ∧ (¬ (x2 = 0) → (
  (.bool false : Value) = v)))) ∧ (¬ (x0 = 1) → (
  (.bool false : Value) = v)))))))) ∧ (¬ (x19 = 1) → (
  ((x19 = 0) → (
  ∃ (x20 : Int), ∃ (x21 : Int), ∃ (x22 : Int), ∃ (x23 : Int), (∀ w' : World, Below w.heap.size w w' → Calls Tryz.prog 53 #[.agg #[.int .i64 95, .int .i64 0, .int .i64 101, .int .i64 5], .int .i64 1] w' (Vc.Ret (.agg #[.int .i64 x20, .int .i64 x21, .int .i64 x22, .int .i64 x23]) w')) ∧
  ∃ (x24 : Int), ∃ (x25 : Int), (∀ w' : World, Below w.heap.size w w' → Calls Tryz.prog 68 #[.agg #[.int .i64 x20, .int .i64 x21]] w' (Vc.Ret (.agg #[.int .i64 x24, .int .i64 x25]) w')) ∧
  ∃ (x26 : Int), ∃ (x27 : Int), (∀ w' : World, Below w.heap.size w w' → Calls Tryz.prog 68 #[.agg #[.int .i64 x22, .int .i64 x23]] w' (Vc.Ret (.agg #[.int .i64 x26, .int .i64 x27]) w')) ∧
  ∃ (x28 : Int), (∀ (β : Nat → Nat) (w' : World), Below w.heap.size w w' → (Vc.RowOk w.heap.size (β 32) (β 33) (β 34) (β 35) (([.int .i64 0, .int .i64 0, .int .i64 100, .int .i64 0, .int .i64 100, .int .i64 100, .int .i64 0, .int .i64 100] : List Value)) 2 26 w' ∧ True) → Calls Tryz.prog 35 #[.agg #[.string ⟨(([113] : List UInt8)).toArray⟩, Vc.ownV (β 32) (β 33) (β 34) (β 35)], .agg #[.int .i64 x24, .int .i64 x25, .int .i64 x26, .int .i64 x27]] w' (Vc.Ret (.int .i64 x28) w')) ∧
  ((x28 = 1) → (
  ((x0 = 1) → (
  ((x2 = 0) → (
  ((x4 = (-1)) → (
  ((b0 = true) → (
  ((b1 = true) → (
  (.bool false : Value) = v)) ∧ (¬ (b1 = true) → (
  ((x12 = 0) → (
  ∃ (x29 : Int), ∃ (x30 : Int), ∃ (x31 : Int), ∃ (x32 : Int), (∀ w' : World, Below w.heap.size w w' → Calls Tryz.prog 18 #[.int .i64 2000, .int .i64 0, .int .i64 2000, .int .i64 0] w' (Vc.Ret (.agg #[.int .i64 x29, .int .i64 x30, .int .i64 x31, .int .i64 x32]) w')) ∧
  (((x8 = x29) ∧ ((x9 = x30) ∧ ((x10 = x31) ∧ (x11 = x32)))) → (
  ((x17 = 8) → (
  ((x18 = 0) → (
  ∃ (x33 : Int), ∃ (x34 : Int), ∃ (x35 : Int), ∃ (x36 : Int), (∀ w' : World, Below w.heap.size w w' → Calls Tryz.prog 18 #[.int .i64 94, .int .i64 (-1), .int .i64 102, .int .i64 6] w' (Vc.Ret (.agg #[.int .i64 x33, .int .i64 x34, .int .i64 x35, .int .i64 x36]) w')) ∧
  (.bool false : Value) = v)) ∧ (¬ (x18 = 0) → (
  (.bool false : Value) = v)))) ∧ (¬ (x17 = 8) → (
  (.bool false : Value) = v)))) ∧ (¬ ((x8 = x29) ∧ ((x9 = x30) ∧ ((x10 = x31) ∧ (x11 = x32)))) → (
  (.bool false : Value) = v)))) ∧ (¬ (x12 = 0) → (
  (.bool false : Value) = v)))))) ∧ (¬ (b0 = true) → (
  (.bool false : Value) = v)))) ∧ (¬ (x4 = (-1)) → (
  (.bool false : Value) = v)))) ∧ (¬ (x2 = 0) → (
  (.bool false : Value) = v)))) ∧ (¬ (x0 = 1) → (
  (.bool false : Value) = v)))) ∧ (¬ (x28 = 1) → (
  ((x28 = 0) → (
  ((x0 = 1) → (
  ((x2 = 0) → (
  ((x4 = (-1)) → (
  ((b0 = true) → (
  ((b1 = true) → (
  (.bool false : Value) = v)) ∧ (¬ (b1 = true) → (
  ((x12 = 0) → (
  ∃ (x29 : Int), ∃ (x30 : Int), ∃ (x31 : Int), ∃ (x32 : Int), (∀ w' : World, Below w.heap.size w w' → Calls Tryz.prog 18 #[.int .i64 2000, .int .i64 0, .int .i64 2000, .int .i64 0] w' (Vc.Ret (.agg #[.int .i64 x29, .int .i64 x30, .int .i64 x31, .int .i64 x32]) w')) ∧
  (((x8 = x29) ∧ ((x9 = x30) ∧ ((x10 = x31) ∧ (x11 = x32)))) → (
  ((x17 = 8) → (
  ((x18 = 0) → (
  ∃ (x33 : Int), ∃ (x34 : Int), ∃ (x35 : Int), ∃ (x36 : Int), (∀ w' : World, Below w.heap.size w w' → Calls Tryz.prog 18 #[.int .i64 94, .int .i64 (-1), .int .i64 102, .int .i64 6] w' (Vc.Ret (.agg #[.int .i64 x33, .int .i64 x34, .int .i64 x35, .int .i64 x36]) w')) ∧
  (.bool ((x24 == x33) && ((x25 == x34) && ((x26 == x35) && (x27 == x36)))) : Value) = v)) ∧ (¬ (x18 = 0) → (
  (.bool false : Value) = v)))) ∧ (¬ (x17 = 8) → (
  (.bool false : Value) = v)))) ∧ (¬ ((x8 = x29) ∧ ((x9 = x30) ∧ ((x10 = x31) ∧ (x11 = x32)))) → (
  (.bool false : Value) = v)))) ∧ (¬ (x12 = 0) → (
  (.bool false : Value) = v)))))) ∧ (¬ (b0 = true) → (
  (.bool false : Value) = v)))) ∧ (¬ (x4 = (-1)) → (
  (.bool false : Value) = v)))) ∧ (¬ (x2 = 0) → (
  (.bool false : Value) = v)))) ∧ (¬ (x0 = 1) → (
  (.bool false : Value) = v)))) ∧ (¬ (x28 = 0) → (
  ((x0 = 1) → (
  ((x2 = 0) → (
  ((x4 = (-1)) → (
  ((b0 = true) → (
  ((b1 = true) → (
  (.bool false : Value) = v)) ∧ (¬ (b1 = true) → (
  ((x12 = 0) → (
  ∃ (x29 : Int), ∃ (x30 : Int), ∃ (x31 : Int), ∃ (x32 : Int), (∀ w' : World, Below w.heap.size w w' → Calls Tryz.prog 18 #[.int .i64 2000, .int .i64 0, .int .i64 2000, .int .i64 0] w' (Vc.Ret (.agg #[.int .i64 x29, .int .i64 x30, .int .i64 x31, .int .i64 x32]) w')) ∧
  (((x8 = x29) ∧ ((x9 = x30) ∧ ((x10 = x31) ∧ (x11 = x32)))) → (
  ((x17 = 8) → (
  ((x18 = 0) → (
  ∃ (x33 : Int), ∃ (x34 : Int), ∃ (x35 : Int), ∃ (x36 : Int), (∀ w' : World, Below w.heap.size w w' → Calls Tryz.prog 18 #[.int .i64 94, .int .i64 (-1), .int .i64 102, .int .i64 6] w' (Vc.Ret (.agg #[.int .i64 x33, .int .i64 x34, .int .i64 x35, .int .i64 x36]) w')) ∧
  (.bool false : Value) = v)) ∧ (¬ (x18 = 0) → (
  (.bool false : Value) = v)))) ∧ (¬ (x17 = 8) → (
  (.bool false : Value) = v)))) ∧ (¬ ((x8 = x29) ∧ ((x9 = x30) ∧ ((x10 = x31) ∧ (x11 = x32)))) → (
  (.bool false : Value) = v)))) ∧ (¬ (x12 = 0) → (
  (.bool false : Value) = v)))))) ∧ (¬ (b0 = true) → (
  (.bool false : Value) = v)))) ∧ (¬ (x4 = (-1)) → (
  (.bool false : Value) = v)))) ∧ (¬ (x2 = 0) → (
  (.bool false : Value) = v)))) ∧ (¬ (x0 = 1) → (
  (.bool false : Value) = v)))))))) ∧ (¬ (x19 = 0) → (
  ((x0 = 1) → (
  ((x2 = 0) → (
  ((x4 = (-1)) → (
  ((b0 = true) → (
  ((b1 = true) → (
  (.bool false : Value) = v)) ∧ (¬ (b1 = true) → (
  ((x12 = 0) → (
  ∃ (x20 : Int), ∃ (x21 : Int), ∃ (x22 : Int), ∃ (x23 : Int), (∀ w' : World, Below w.heap.size w w' → Calls Tryz.prog 18 #[.int .i64 2000, .int .i64 0, .int .i64 2000, .int .i64 0] w' (Vc.Ret (.agg #[.int .i64 x20, .int .i64 x21, .int .i64 x22, .int .i64 x23]) w')) ∧
  (((x8 = x20) ∧ ((x9 = x21) ∧ ((x10 = x22) ∧ (x11 = x23)))) → (
  ((x17 = 8) → (
  ((x18 = 0) → (
  (.bool false : Value) = v)) ∧ (¬ (x18 = 0) → (
  (.bool false : Value) = v)))) ∧ (¬ (x17 = 8) → (
  (.bool false : Value) = v)))) ∧ (¬ ((x8 = x20) ∧ ((x9 = x21) ∧ ((x10 = x22) ∧ (x11 = x23)))) → (
  (.bool false : Value) = v)))) ∧ (¬ (x12 = 0) → (
  (.bool false : Value) = v)))))) ∧ (¬ (b0 = true) → (
  (.bool false : Value) = v)))) ∧ (¬ (x4 = (-1)) → (
  (.bool false : Value) = v)))) ∧ (¬ (x2 = 0) → (
  (.bool false : Value) = v)))) ∧ (¬ (x0 = 1) → (
  (.bool false : Value) = v)))))))) ∧ (¬ (b4 = true) → (
  ((x0 = 1) → (
  ((x2 = 0) → (
  ((x4 = (-1)) → (
  ((b0 = true) → (
  ((b1 = true) → (
  (.bool false : Value) = v)) ∧ (¬ (b1 = true) → (
  ((x12 = 0) → (
  ∃ (x19 : Int), ∃ (x20 : Int), ∃ (x21 : Int), ∃ (x22 : Int), (∀ w' : World, Below w.heap.size w w' → Calls Tryz.prog 18 #[.int .i64 2000, .int .i64 0, .int .i64 2000, .int .i64 0] w' (Vc.Ret (.agg #[.int .i64 x19, .int .i64 x20, .int .i64 x21, .int .i64 x22]) w')) ∧
  (((x8 = x19) ∧ ((x9 = x20) ∧ ((x10 = x21) ∧ (x11 = x22)))) → (
  ((x17 = 8) → (
  ((x18 = 0) → (
  ∃ (x23 : Int), ∃ (x24 : Int), ∃ (x25 : Int), ∃ (x26 : Int), (∀ w' : World, Below w.heap.size w w' → Calls Tryz.prog 18 #[.int .i64 94, .int .i64 (-1), .int .i64 102, .int .i64 6] w' (Vc.Ret (.agg #[.int .i64 x23, .int .i64 x24, .int .i64 x25, .int .i64 x26]) w')) ∧
  (.bool false : Value) = v)) ∧ (¬ (x18 = 0) → (
  (.bool false : Value) = v)))) ∧ (¬ (x17 = 8) → (
  (.bool false : Value) = v)))) ∧ (¬ ((x8 = x19) ∧ ((x9 = x20) ∧ ((x10 = x21) ∧ (x11 = x22)))) → (
  (.bool false : Value) = v)))) ∧ (¬ (x12 = 0) → (
  (.bool false : Value) = v)))))) ∧ (¬ (b0 = true) → (
  (.bool false : Value) = v)))) ∧ (¬ (x4 = (-1)) → (
  (.bool false : Value) = v)))) ∧ (¬ (x2 = 0) → (
  (.bool false : Value) = v)))) ∧ (¬ (x0 = 1) → (
  (.bool false : Value) = v)))))))) ∧ (¬ (b2 = true) → (
  (.bool false : Value) = v))) : Calls Tryz.prog 10 #[] w (Vc.Ret v w) :=
  Vc.pure_of (base_inl [25, 27, 67, 66, 31, 32, 18] (by kernel_rfl)) [] 200 Tryz.func10 (b := (Tryz.f10.body).getD .skip) (by kernel_rfl) [] ⟨0, 0, 0, 0, 0, 0, 0⟩ (Vc.envOf [] [] [] []) (by kernel_rfl) (by kernel_rfl) (by kernel_rfl) h

theorem vc_safety_near_1 (x0 : Int) (w : World) (v : Value) (h : 
  ∀ x1 : Int, x1 = (if 536870912 < x0 then 536870912 else x0) →
  ∀ x2 : Int, x2 = (if x1 > (-536870912) then x1 else (-536870912)) →
  (.int .i64 x2 : Value) = v) : Calls Tryz.prog 112 #[.int .i64 x0] w (Vc.Ret v w) :=
  Vc.pure_of base [] 200 Tryz.func112 (b := (Tryz.f112.body).getD .skip) (by kernel_rfl) [.cv (.one (.int .i64 (.var 0)))] ⟨1, 0, 0, 0, 0, 0, 0⟩ (Vc.envOf [x0] [] [] []) (by kernel_rfl) (by kernel_rfl) (by kernel_rfl) h

end Go.Proofs.YtbpcdmjjdnjmbaaGreat
