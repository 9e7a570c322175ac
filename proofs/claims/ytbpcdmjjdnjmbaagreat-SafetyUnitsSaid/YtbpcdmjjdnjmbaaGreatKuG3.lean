/- What the walks of functions come to (written by program). -/
import Derived.Test.YtbpcdmjjdnjmbaaGreatKuG1
set_option linter.unusedVariables false
set_option maxRecDepth 100000
namespace Go.Proofs.YtbpcdmjjdnjmbaaGreat
open Go Go.RowKit
theorem vc_ullageref09_Tick (p0 p1 p2 : Nat × Nat) (x0 x1 x2 x3 x4 x5 x6 x7 x8 x9 x10 x11 x12 x13 x14 x15 x16 x17 x18 : Int) (b0 b1 b2 b3 b4 b5 : Bool) (s0 : List UInt8) (w : World) (v : Value) (h : 
  ((b3 = true) → (
  (.tuple #[.agg #[.string ⟨s0.toArray⟩, (if b0 = true then .slice none 0 0 else .slice (some (Vc.qad p0 (Int.toNat x0) (Int.toNat x1))) (Int.toNat x0) (Int.toNat x1) : Value), (if b1 = true then .slice none 0 0 else .slice (some (Vc.qad p1 (Int.toNat x2) (Int.toNat x3))) (Int.toNat x2) (Int.toNat x3) : Value), (if b2 = true then .slice none 0 0 else .slice (some (Vc.qad p2 (Int.toNat x4) (Int.toNat x5))) (Int.toNat x4) (Int.toNat x5) : Value), .int .i64 x6, .int .i64 x7, .int .i64 x8, .int .i64 x9, .bool b3, .bool b4, .int .i64 x10, .int .i64 x11, .int .i64 x12, .int .i64 x13, .int .i64 x14], .agg #[.bool false, .int .i64 0, .bool false, .int .i64 0, .int .i64 0, .int .i64 0, .int .i64 0], .int .i64 9] : Value) = v)) ∧ (¬ (b3 = true) → (
  ((b5 = true) → (
  ∃ (b6 : Bool), (∀ w' : World, Below w.heap.size w w' → Calls Tryz.prog 37 #[.agg #[.int .i64 x15, .int .i64 x16, .int .i64 x17, .int .i64 x18]] w' (Vc.Ret (.bool b6) w')) ∧
  ((b6 = true) → (
  ((b5 = true) → (
  ∃ (x19 : Int), (∀ w' : World, Below w.heap.size w w' → Calls Tryz.prog 38 #[.agg #[.string ⟨s0.toArray⟩, (if b0 = true then .slice none 0 0 else .slice (some (Vc.qad p0 (Int.toNat x0) (Int.toNat x1))) (Int.toNat x0) (Int.toNat x1) : Value)], .agg #[.int .i64 x15, .int .i64 x16, .int .i64 x17, .int .i64 x18]] w' (Vc.Ret (.int .i64 x19) w')) ∧
  ((x19 = 1) → (
  ((x19 = 0) → (
  ((x19 = (-1)) → (
  (.tuple #[.agg #[.string ⟨s0.toArray⟩, (if b0 = true then .slice none 0 0 else .slice (some (Vc.qad p0 (Int.toNat x0) (Int.toNat x1))) (Int.toNat x0) (Int.toNat x1) : Value), (if b1 = true then .slice none 0 0 else .slice (some (Vc.qad p1 (Int.toNat x2) (Int.toNat x3))) (Int.toNat x2) (Int.toNat x3) : Value), (if b2 = true then .slice none 0 0 else .slice (some (Vc.qad p2 (Int.toNat x4) (Int.toNat x5))) (Int.toNat x4) (Int.toNat x5) : Value), .int .i64 x6, .int .i64 x7, .int .i64 x8, .int .i64 x9, .bool true, .bool true, .int .i64 x15, .int .i64 x16, .int .i64 x17, .int .i64 x18, .int .i64 1], .agg #[.bool true, .int .i64 1, .bool true, .int .i64 x15, .int .i64 x16, .int .i64 x17, .int .i64 x18], .int .i64 0] : Value) = v)) ∧ (¬ (x19 = (-1)) → (
  ((x7 < 1) → (
  (.tuple #[.agg #[.string ⟨s0.toArray⟩, (if b0 = true then .slice none 0 0 else .slice (some (Vc.qad p0 (Int.toNat x0) (Int.toNat x1))) (Int.toNat x0) (Int.toNat x1) : Value), (if b1 = true then .slice none 0 0 else .slice (some (Vc.qad p1 (Int.toNat x2) (Int.toNat x3))) (Int.toNat x2) (Int.toNat x3) : Value), (if b2 = true then .slice none 0 0 else .slice (some (Vc.qad p2 (Int.toNat x4) (Int.toNat x5))) (Int.toNat x4) (Int.toNat x5) : Value), .int .i64 x6, .int .i64 x7, .int .i64 x8, .int .i64 x9, .bool true, .bool true, .int .i64 x15, .int .i64 x16, .int .i64 x17, .int .i64 x18, .int .i64 1], .agg #[.bool true, .int .i64 2, .bool true, .int .i64 x15, .int .i64 x16, .int .i64 x17, .int .i64 x18], .int .i64 0] : Value) = v)) ∧ (¬ (x7 < 1) → (
  (.tuple #[.agg #[.string ⟨s0.toArray⟩, (if b0 = true then .slice none 0 0 else .slice (some (Vc.qad p0 (Int.toNat x0) (Int.toNat x1))) (Int.toNat x0) (Int.toNat x1) : Value), (if b1 = true then .slice none 0 0 else .slice (some (Vc.qad p1 (Int.toNat x2) (Int.toNat x3))) (Int.toNat x2) (Int.toNat x3) : Value), (if b2 = true then .slice none 0 0 else .slice (some (Vc.qad p2 (Int.toNat x4) (Int.toNat x5))) (Int.toNat x4) (Int.toNat x5) : Value), .int .i64 x6, .int .i64 x7, .int .i64 x8, .int .i64 x9, .bool false, .bool true, .int .i64 x15, .int .i64 x16, .int .i64 x17, .int .i64 x18, .int .i64 1], .agg #[.bool false, .int .i64 0, .bool true, .int .i64 x15, .int .i64 x16, .int .i64 x17, .int .i64 x18], .int .i64 0] : Value) = v)))))) ∧ (¬ (x19 = 0) → (
  ((x19 = (-1)) → (
  (.tuple #[.agg #[.string ⟨s0.toArray⟩, (if b0 = true then .slice none 0 0 else .slice (some (Vc.qad p0 (Int.toNat x0) (Int.toNat x1))) (Int.toNat x0) (Int.toNat x1) : Value), (if b1 = true then .slice none 0 0 else .slice (some (Vc.qad p1 (Int.toNat x2) (Int.toNat x3))) (Int.toNat x2) (Int.toNat x3) : Value), (if b2 = true then .slice none 0 0 else .slice (some (Vc.qad p2 (Int.toNat x4) (Int.toNat x5))) (Int.toNat x4) (Int.toNat x5) : Value), .int .i64 x6, .int .i64 x7, .int .i64 x8, .int .i64 x9, .bool true, .bool true, .int .i64 x15, .int .i64 x16, .int .i64 x17, .int .i64 x18, .int .i64 0], .agg #[.bool true, .int .i64 1, .bool true, .int .i64 x15, .int .i64 x16, .int .i64 x17, .int .i64 x18], .int .i64 0] : Value) = v)) ∧ (¬ (x19 = (-1)) → (
  ((x7 < 0) → (
  (.tuple #[.agg #[.string ⟨s0.toArray⟩, (if b0 = true then .slice none 0 0 else .slice (some (Vc.qad p0 (Int.toNat x0) (Int.toNat x1))) (Int.toNat x0) (Int.toNat x1) : Value), (if b1 = true then .slice none 0 0 else .slice (some (Vc.qad p1 (Int.toNat x2) (Int.toNat x3))) (Int.toNat x2) (Int.toNat x3) : Value), (if b2 = true then .slice none 0 0 else .slice (some (Vc.qad p2 (Int.toNat x4) (Int.toNat x5))) (Int.toNat x4) (Int.toNat x5) : Value), .int .i64 x6, .int .i64 x7, .int .i64 x8, .int .i64 x9, .bool true, .bool true, .int .i64 x15, .int .i64 x16, .int .i64 x17, .int .i64 x18, .int .i64 0], .agg #[.bool true, .int .i64 2, .bool true, .int .i64 x15, .int .i64 x16, .int .i64 x17, .int .i64 x18], .int .i64 0] : Value) = v)) ∧ (¬ (x7 < 0) → (
  (.tuple #[.agg #[.string ⟨s0.toArray⟩, (if b0 = true then .slice none 0 0 else .slice (some (Vc.qad p0 (Int.toNat x0) (Int.toNat x1))) (Int.toNat x0) (Int.toNat x1) : Value), (if b1 = true then .slice none 0 0 else .slice (some (Vc.qad p1 (Int.toNat x2) (Int.toNat x3))) (Int.toNat x2) (Int.toNat x3) : Value), (if b2 = true then .slice none 0 0 else .slice (some (Vc.qad p2 (Int.toNat x4) (Int.toNat x5))) (Int.toNat x4) (Int.toNat x5) : Value), .int .i64 x6, .int .i64 x7, .int .i64 x8, .int .i64 x9, .bool false, .bool true, .int .i64 x15, .int .i64 x16, .int .i64 x17, .int .i64 x18, .int .i64 0], .agg #[.bool false, .int .i64 0, .bool true, .int .i64 x15, .int .i64 x16, .int .i64 x17, .int .i64 x18], .int .i64 0] : Value) = v)))))))) ∧ (¬ (x19 = 1) → (
  ((x19 = 0) → (
  ∀ x20 : Int, x20 = IntKind.i64.wrap (x14 + 1) →
  ((x19 = (-1)) → (
  (.tuple #[.agg #[.string ⟨s0.toArray⟩, (if b0 = true then .slice none 0 0 else .slice (some (Vc.qad p0 (Int.toNat x0) (Int.toNat x1))) (Int.toNat x0) (Int.toNat x1) : Value), (if b1 = true then .slice none 0 0 else .slice (some (Vc.qad p1 (Int.toNat x2) (Int.toNat x3))) (Int.toNat x2) (Int.toNat x3) : Value), (if b2 = true then .slice none 0 0 else .slice (some (Vc.qad p2 (Int.toNat x4) (Int.toNat x5))) (Int.toNat x4) (Int.toNat x5) : Value), .int .i64 x6, .int .i64 x7, .int .i64 x8, .int .i64 x9, .bool true, .bool true, .int .i64 x15, .int .i64 x16, .int .i64 x17, .int .i64 x18, .int .i64 x20], .agg #[.bool true, .int .i64 1, .bool true, .int .i64 x15, .int .i64 x16, .int .i64 x17, .int .i64 x18], .int .i64 0] : Value) = v)) ∧ (¬ (x19 = (-1)) → (
  ((x7 < x20) → (
  (.tuple #[.agg #[.string ⟨s0.toArray⟩, (if b0 = true then .slice none 0 0 else .slice (some (Vc.qad p0 (Int.toNat x0) (Int.toNat x1))) (Int.toNat x0) (Int.toNat x1) : Value), (if b1 = true then .slice none 0 0 else .slice (some (Vc.qad p1 (Int.toNat x2) (Int.toNat x3))) (Int.toNat x2) (Int.toNat x3) : Value), (if b2 = true then .slice none 0 0 else .slice (some (Vc.qad p2 (Int.toNat x4) (Int.toNat x5))) (Int.toNat x4) (Int.toNat x5) : Value), .int .i64 x6, .int .i64 x7, .int .i64 x8, .int .i64 x9, .bool true, .bool true, .int .i64 x15, .int .i64 x16, .int .i64 x17, .int .i64 x18, .int .i64 x20], .agg #[.bool true, .int .i64 2, .bool true, .int .i64 x15, .int .i64 x16, .int .i64 x17, .int .i64 x18], .int .i64 0] : Value) = v)) ∧ (¬ (x7 < x20) → (
  (.tuple #[.agg #[.string ⟨s0.toArray⟩, (if b0 = true then .slice none 0 0 else .slice (some (Vc.qad p0 (Int.toNat x0) (Int.toNat x1))) (Int.toNat x0) (Int.toNat x1) : Value), (if b1 = true then .slice none 0 0 else .slice (some (Vc.qad p1 (Int.toNat x2) (Int.toNat x3))) (Int.toNat x2) (Int.toNat x3) : Value), (if b2 = true then .slice none 0 0 else .slice (some (Vc.qad p2 (Int.toNat x4) (Int.toNat x5))) (Int.toNat x4) (Int.toNat x5) : Value), .int .i64 x6, .int .i64 x7, .int .i64 x8, .int .i64 x9, .bool false, .bool true, .int .i64 x15, .int .i64 x16, .int .i64 x17, .int .i64 x18, .int .i64 x20], .agg #[.bool false, .int .i64 0, .bool true, .int .i64 x15, .int .i64 x16, .int .i64 x17, .int .i64 x18], .int .i64 0] : Value) = v)))))) ∧ (¬ (x19 = 0) → (
  ((x19 = (-1)) → (
  (.tuple #[.agg #[.string ⟨s0.toArray⟩, (if b0 = true then .slice none 0 0 else .slice (some (Vc.qad p0 (Int.toNat x0) (Int.toNat x1))) (Int.toNat x0) (Int.toNat x1) : Value), (if b1 = true then .slice none 0 0 else .slice (some (Vc.qad p1 (Int.toNat x2) (Int.toNat x3))) (Int.toNat x2) (Int.toNat x3) : Value), (if b2 = true then .slice none 0 0 else .slice (some (Vc.qad p2 (Int.toNat x4) (Int.toNat x5))) (Int.toNat x4) (Int.toNat x5) : Value), .int .i64 x6, .int .i64 x7, .int .i64 x8, .int .i64 x9, .bool true, .bool true, .int .i64 x15, .int .i64 x16, .int .i64 x17, .int .i64 x18, .int .i64 x14], .agg #[.bool true, .int .i64 1, .bool true, .int .i64 x15, .int .i64 x16, .int .i64 x17, .int .i64 x18], .int .i64 0] : Value) = v)) ∧ (¬ (x19 = (-1)) → (
  ((x7 < x14) → (
  (.tuple #[.agg #[.string ⟨s0.toArray⟩, (if b0 = true then .slice none 0 0 else .slice (some (Vc.qad p0 (Int.toNat x0) (Int.toNat x1))) (Int.toNat x0) (Int.toNat x1) : Value), (if b1 = true then .slice none 0 0 else .slice (some (Vc.qad p1 (Int.toNat x2) (Int.toNat x3))) (Int.toNat x2) (Int.toNat x3) : Value), (if b2 = true then .slice none 0 0 else .slice (some (Vc.qad p2 (Int.toNat x4) (Int.toNat x5))) (Int.toNat x4) (Int.toNat x5) : Value), .int .i64 x6, .int .i64 x7, .int .i64 x8, .int .i64 x9, .bool true, .bool true, .int .i64 x15, .int .i64 x16, .int .i64 x17, .int .i64 x18, .int .i64 x14], .agg #[.bool true, .int .i64 2, .bool true, .int .i64 x15, .int .i64 x16, .int .i64 x17, .int .i64 x18], .int .i64 0] : Value) = v)) ∧ (¬ (x7 < x14) → (
  (.tuple #[.agg #[.string ⟨s0.toArray⟩, (if b0 = true then .slice none 0 0 else .slice (some (Vc.qad p0 (Int.toNat x0) (Int.toNat x1))) (Int.toNat x0) (Int.toNat x1) : Value), (if b1 = true then .slice none 0 0 else .slice (some (Vc.qad p1 (Int.toNat x2) (Int.toNat x3))) (Int.toNat x2) (Int.toNat x3) : Value), (if b2 = true then .slice none 0 0 else .slice (some (Vc.qad p2 (Int.toNat x4) (Int.toNat x5))) (Int.toNat x4) (Int.toNat x5) : Value), .int .i64 x6, .int .i64 x7, .int .i64 x8, .int .i64 x9, .bool false, .bool true, .int .i64 x15, .int .i64 x16, .int .i64 x17, .int .i64 x18, .int .i64 x14], .agg #[.bool false, .int .i64 0, .bool true, .int .i64 x15, .int .i64 x16, .int .i64 x17, .int .i64 x18], .int .i64 0] : Value) = v)))))))))) ∧ (¬ (b5 = true) → (
  ((b4 = true) → (
  ∃ (x19 : Int), ∃ (x20 : Int), ∃ (x21 : Int), ∃ (x22 : Int), (∀ w' : World, Below w.heap.size w w' → Calls Tryz.prog 54 #[.agg #[.int .i64 x10, .int .i64 x11, .int .i64 x12, .int .i64 x13], .int .i64 x6] w' (Vc.Ret (.agg #[.int .i64 x19, .int .i64 x20, .int .i64 x21, .int .i64 x22]) w')) ∧
  ∃ (x23 : Int), (∀ w' : World, Below w.heap.size w w' → Calls Tryz.prog 69 #[.int .i64 x19] w' (Vc.Ret (.int .i64 x23) w')) ∧
  ∃ (x24 : Int), (∀ w' : World, Below w.heap.size w w' → Calls Tryz.prog 69 #[.int .i64 x20] w' (Vc.Ret (.int .i64 x24) w')) ∧
  ∃ (x25 : Int), (∀ w' : World, Below w.heap.size w w' → Calls Tryz.prog 69 #[.int .i64 x21] w' (Vc.Ret (.int .i64 x25) w')) ∧
  ∃ (x26 : Int), (∀ w' : World, Below w.heap.size w w' → Calls Tryz.prog 69 #[.int .i64 x22] w' (Vc.Ret (.int .i64 x26) w')) ∧
  ((b4 = true) → (
  ∃ (x27 : Int), (∀ w' : World, Below w.heap.size w w' → Calls Tryz.prog 38 #[.agg #[.string ⟨s0.toArray⟩, (if b0 = true then .slice none 0 0 else .slice (some (Vc.qad p0 (Int.toNat x0) (Int.toNat x1))) (Int.toNat x0) (Int.toNat x1) : Value)], .agg #[.int .i64 x23, .int .i64 x24, .int .i64 x25, .int .i64 x26]] w' (Vc.Ret (.int .i64 x27) w')) ∧
  ((x27 = 1) → (
  ((x27 = 0) → (
  ((x27 = (-1)) → (
  (.tuple #[.agg #[.string ⟨s0.toArray⟩, (if b0 = true then .slice none 0 0 else .slice (some (Vc.qad p0 (Int.toNat x0) (Int.toNat x1))) (Int.toNat x0) (Int.toNat x1) : Value), (if b1 = true then .slice none 0 0 else .slice (some (Vc.qad p1 (Int.toNat x2) (Int.toNat x3))) (Int.toNat x2) (Int.toNat x3) : Value), (if b2 = true then .slice none 0 0 else .slice (some (Vc.qad p2 (Int.toNat x4) (Int.toNat x5))) (Int.toNat x4) (Int.toNat x5) : Value), .int .i64 x6, .int .i64 x7, .int .i64 x8, .int .i64 x9, .bool true, .bool b4, .int .i64 x23, .int .i64 x24, .int .i64 x25, .int .i64 x26, .int .i64 1], .agg #[.bool true, .int .i64 1, .bool b4, .int .i64 x23, .int .i64 x24, .int .i64 x25, .int .i64 x26], .int .i64 0] : Value) = v)) ∧ (¬ (x27 = (-1)) → (
  ((x7 < 1) → (
  (.tuple #[.agg #[.string ⟨s0.toArray⟩, (if b0 = true then .slice none 0 0 else .slice (some (Vc.qad p0 (Int.toNat x0) (Int.toNat x1))) (Int.toNat x0) (Int.toNat x1) : Value), (if b1 = true then .slice none 0 0 else .slice (some (Vc.qad p1 (Int.toNat x2) (Int.toNat x3))) (Int.toNat x2) (Int.toNat x3) : Value), (if b2 = true then .slice none 0 0 else .slice (some (Vc.qad p2 (Int.toNat x4) (Int.toNat x5))) (Int.toNat x4) (Int.toNat x5) : Value), .int .i64 x6, .int .i64 x7, .int .i64 x8, .int .i64 x9, .bool true, .bool b4, .int .i64 x23, .int .i64 x24, .int .i64 x25, .int .i64 x26, .int .i64 1], .agg #[.bool true, .int .i64 2, .bool b4, .int .i64 x23, .int .i64 x24, .int .i64 x25, .int .i64 x26], .int .i64 0] : Value) = v)) ∧ (¬ (x7 < 1) → (
  (.tuple #[.agg #[.string ⟨s0.toArray⟩, (if b0 = true then .slice none 0 0 else .slice (some (Vc.qad p0 (Int.toNat x0) (Int.toNat x1))) (Int.toNat x0) (Int.toNat x1) : Value), (if b1 = true then .slice none 0 0 else .slice (some (Vc.qad p1 (Int.toNat x2) (Int.toNat x3))) (Int.toNat x2) (Int.toNat x3) : Value), (if b2 = true then .slice none 0 0 else .slice (some (Vc.qad p2 (Int.toNat x4) (Int.toNat x5))) (Int.toNat x4) (Int.toNat x5) : Value), .int .i64 x6, .int .i64 x7, .int .i64 x8, .int .i64 x9, .bool false, .bool b4, .int .i64 x23, .int .i64 x24, .int .i64 x25, .int .i64 x26, .int .i64 1], .agg #[.bool false, .int .i64 0, .bool b4, .int .i64 x23, .int .i64 x24, .int .i64 x25, .int .i64 x26], .int .i64 0] : Value) = v)))))) ∧ (¬ (x27 = 0) → (
  ((x27 = (-1)) → (
  (.tuple #[.agg #[.string ⟨s0.toArray⟩, (if b0 = true then .slice none 0 0 else .slice (some (Vc.qad p0 (Int.toNat x0) (Int.toNat x1))) (Int.toNat x0) (Int.toNat x1) : Value), (if b1 = true then .slice none 0 0 else .slice (some (Vc.qad p1 (Int.toNat x2) (Int.toNat x3))) (Int.toNat x2) (Int.toNat x3) : Value), (if b2 = true then .slice none 0 0 else .slice (some (Vc.qad p2 (Int.toNat x4) (Int.toNat x5))) (Int.toNat x4) (Int.toNat x5) : Value), .int .i64 x6, .int .i64 x7, .int .i64 x8, .int .i64 x9, .bool true, .bool b4, .int .i64 x23, .int .i64 x24, .int .i64 x25, .int .i64 x26, .int .i64 0], .agg #[.bool true, .int .i64 1, .bool b4, .int .i64 x23, .int .i64 x24, .int .i64 x25, .int .i64 x26], .int .i64 0] : Value) = v)) ∧ (¬ (x27 = (-1)) → (
  ((x7 < 0) → (
  (.tuple #[.agg #[.string ⟨s0.toArray⟩, (if b0 = true then .slice none 0 0 else .slice (some (Vc.qad p0 (Int.toNat x0) (Int.toNat x1))) (Int.toNat x0) (Int.toNat x1) : Value), (if b1 = true then .slice none 0 0 else .slice (some (Vc.qad p1 (Int.toNat x2) (Int.toNat x3))) (Int.toNat x2) (Int.toNat x3) : Value), (if b2 = true then .slice none 0 0 else .slice (some (Vc.qad p2 (Int.toNat x4) (Int.toNat x5))) (Int.toNat x4) (Int.toNat x5) : Value), .int .i64 x6, .int .i64 x7, .int .i64 x8, .int .i64 x9, .bool true, .bool b4, .int .i64 x23, .int .i64 x24, .int .i64 x25, .int .i64 x26, .int .i64 0], .agg #[.bool true, .int .i64 2, .bool b4, .int .i64 x23, .int .i64 x24, .int .i64 x25, .int .i64 x26], .int .i64 0] : Value) = v)) ∧ (¬ (x7 < 0) → (
  (.tuple #[.agg #[.string ⟨s0.toArray⟩, (if b0 = true then .slice none 0 0 else .slice (some (Vc.qad p0 (Int.toNat x0) (Int.toNat x1))) (Int.toNat x0) (Int.toNat x1) : Value), (if b1 = true then .slice none 0 0 else .slice (some (Vc.qad p1 (Int.toNat x2) (Int.toNat x3))) (Int.toNat x2) (Int.toNat x3) : Value), (if b2 = true then .slice none 0 0 else .slice (some (Vc.qad p2 (Int.toNat x4) (Int.toNat x5))) (Int.toNat x4) (Int.toNat x5) : Value), .int .i64 x6, .int .i64 x7, .int .i64 x8, .int .i64 x9, .bool false, .bool b4, .int .i64 x23, .int .i64 x24, .int .i64 x25, .int .i64 x26, .int .i64 0], .agg #[.bool false, .int .i64 0, .bool b4, .int .i64 x23, .int .i64 x24, .int .i64 x25, .int .i64 x26], .int .i64 0] : Value) = v)))))))) ∧ (¬ (x27 = 1) → (
  ((x27 = 0) → (
  ∀ x28 : Int, x28 = IntKind.i64.wrap (x14 + 1) →
  ((x27 = (-1)) → (
  (.tuple #[.agg #[.string ⟨s0.toArray⟩, (if b0 = true then .slice none 0 0 else .slice (some (Vc.qad p0 (Int.toNat x0) (Int.toNat x1))) (Int.toNat x0) (Int.toNat x1) : Value), (if b1 = true then .slice none 0 0 else .slice (some (Vc.qad p1 (Int.toNat x2) (Int.toNat x3))) (Int.toNat x2) (Int.toNat x3) : Value), (if b2 = true then .slice none 0 0 else .slice (some (Vc.qad p2 (Int.toNat x4) (Int.toNat x5))) (Int.toNat x4) (Int.toNat x5) : Value), .int .i64 x6, .int .i64 x7, .int .i64 x8, .int .i64 x9, .bool true, .bool b4, .int .i64 x23, .int .i64 x24, .int .i64 x25, .int .i64 x26, .int .i64 x28], .agg #[.bool true, .int .i64 1, .bool b4, .int .i64 x23, .int .i64 x24, .int .i64 x25, .int .i64 x26], .int .i64 0] : Value) = v)) ∧ (¬ (x27 = (-1)) → (
  ((x7 < x28) → (
  (.tuple #[.agg #[.string ⟨s0.toArray⟩, (if b0 = true then .slice none 0 0 else .slice (some (Vc.qad p0 (Int.toNat x0) (Int.toNat x1))) (Int.toNat x0) (Int.toNat x1) : Value), (if b1 = true then .slice none 0 0 else .slice (some (Vc.qad p1 (Int.toNat x2) (Int.toNat x3))) (Int.toNat x2) (Int.toNat x3) : Value), (if b2 = true then .slice none 0 0 else .slice (some (Vc.qad p2 (Int.toNat x4) (Int.toNat x5))) (Int.toNat x4) (Int.toNat x5) : Value), .int .i64 x6, .int .i64 x7, .int .i64 x8, .int .i64 x9, .bool true, .bool b4, .int .i64 x23, .int .i64 x24, .int .i64 x25, .int .i64 x26, .int .i64 x28], .agg #[.bool true, .int .i64 2, .bool b4, .int .i64 x23, .int .i64 x24, .int .i64 x25, .int .i64 x26], .int .i64 0] : Value) = v)) ∧ (¬ (x7 < x28) → (
  (.tuple #[.agg #[.string ⟨s0.toArray⟩, (if b0 = true then .slice none 0 0 else .slice (some (Vc.qad p0 (Int.toNat x0) (Int.toNat x1))) (Int.toNat x0) (Int.toNat x1) : Value), (if b1 = true then .slice none 0 0 else .slice (some (Vc.qad p1 (Int.toNat x2) (Int.toNat x3))) (Int.toNat x2) (Int.toNat x3) : Value), (if b2 = true then .slice none 0 0 else .slice (some (Vc.qad p2 (Int.toNat x4) (Int.toNat x5))) (Int.toNat x4) (Int.toNat x5) : Value), .int .i64 x6, .int .i64 x7, .int .i64 x8, .int .i64 x9, .bool false, .bool b4, .int .i64 x23, .int .i64 x24, .int .i64 x25, .int .i64 x26, .int .i64 x28], .agg #[.bool false, .int .i64 0, .bool b4, .int .i64 x23, .int .i64 x24, .int .i64 x25, .int .i64 x26], .int .i64 0] : Value) = v)))))) ∧ (¬ (x27 = 0) → (
  ((x27 = (-1)) → (
  (.tuple #[.agg #[.string ⟨s0.toArray⟩, (if b0 = true then .slice none 0 0 else .slice (some (Vc.qad p0 (Int.toNat x0) (Int.toNat x1))) (Int.toNat x0) (Int.toNat x1) : Value), (if b1 = true then .slice none 0 0 else .slice (some (Vc.qad p1 (Int.toNat x2) (Int.toNat x3))) (Int.toNat x2) (Int.toNat x3) : Value), (if b2 = true then .slice none 0 0 else .slice (some (Vc.qad p2 (Int.toNat x4) (Int.toNat x5))) (Int.toNat x4) (Int.toNat x5) : Value), .int .i64 x6, .int .i64 x7, .int .i64 x8, .int .i64 x9, .bool true, .bool b4, .int .i64 x23, .int .i64 x24, .int .i64 x25, .int .i64 x26, .int .i64 x14], .agg #[.bool true, .int .i64 1, .bool b4, .int .i64 x23, .int .i64 x24, .int .i64 x25, .int .i64 x26], .int .i64 0] : Value) = v)) ∧ (¬ (x27 = (-1)) → (
  ((x7 < x14) → (
  (.tuple #[.agg #[.string ⟨s0.toArray⟩, (if b0 = true then .slice none 0 0 else .slice (some (Vc.qad p0 (Int.toNat x0) (Int.toNat x1))) (Int.toNat x0) (Int.toNat x1) : Value), (if b1 = true then .slice none 0 0 else .slice (some (Vc.qad p1 (Int.toNat x2) (Int.toNat x3))) (Int.toNat x2) (Int.toNat x3) : Value), (if b2 = true then .slice none 0 0 else .slice (some (Vc.qad p2 (Int.toNat x4) (Int.toNat x5))) (Int.toNat x4) (Int.toNat x5) : Value), .int .i64 x6, .int .i64 x7, .int .i64 x8, .int .i64 x9, .bool true, .bool b4, .int .i64 x23, .int .i64 x24, .int .i64 x25, .int .i64 x26, .int .i64 x14], .agg #[.bool true, .int .i64 2, .bool b4, .int .i64 x23, .int .i64 x24, .int .i64 x25, .int .i64 x26], .int .i64 0] : Value) = v)) ∧ (¬ (x7 < x14) → (
  (.tuple #[.agg #[.string ⟨s0.toArray⟩, (if b0 = true then .slice none 0 0 else .slice (some (Vc.qad p0 (Int.toNat x0) (Int.toNat x1))) (Int.toNat x0) (Int.toNat x1) : Value), (if b1 = true then .slice none 0 0 else .slice (some (Vc.qad p1 (Int.toNat x2) (Int.toNat x3))) (Int.toNat x2) (Int.toNat x3) : Value), (if b2 = true then .slice none 0 0 else .slice (some (Vc.qad p2 (Int.toNat x4) (Int.toNat x5))) (Int.toNat x4) (Int.toNat x5) : Value), .int .i64 x6, .int .i64 x7, .int .i64 x8, .int .i64 x9, .bool false, .bool b4, .int .i64 x23, .int .i64 x24, .int .i64 x25, .int .i64 x26, .int .i64 x14], .agg #[.bool false, .int .i64 0, .bool b4, .int .i64 x23, .int .i64 x24, .int .i64 x25, .int .i64 x26], .int .i64 0] : Value) = v)))))))))) ∧ (¬ (b4 = true) → (
  ∀ x27 : Int, x27 = IntKind.i64.wrap (x14 + 1) →
  ((x7 < x27) → (
  (.tuple #[.agg #[.string ⟨s0.toArray⟩, (if b0 = true then .slice none 0 0 else .slice (some (Vc.qad p0 (Int.toNat x0) (Int.toNat x1))) (Int.toNat x0) (Int.toNat x1) : Value), (if b1 = true then .slice none 0 0 else .slice (some (Vc.qad p1 (Int.toNat x2) (Int.toNat x3))) (Int.toNat x2) (Int.toNat x3) : Value), (if b2 = true then .slice none 0 0 else .slice (some (Vc.qad p2 (Int.toNat x4) (Int.toNat x5))) (Int.toNat x4) (Int.toNat x5) : Value), .int .i64 x6, .int .i64 x7, .int .i64 x8, .int .i64 x9, .bool true, .bool b4, .int .i64 x23, .int .i64 x24, .int .i64 x25, .int .i64 x26, .int .i64 x27], .agg #[.bool true, .int .i64 2, .bool b4, .int .i64 x23, .int .i64 x24, .int .i64 x25, .int .i64 x26], .int .i64 0] : Value) = v)) ∧ (¬ (x7 < x27) → (
  (.tuple #[.agg #[.string ⟨s0.toArray⟩, (if b0 = true then .slice none 0 0 else .slice (some (Vc.qad p0 (Int.toNat x0) (Int.toNat x1))) (Int.toNat x0) (Int.toNat x1) : Value), (if b1 = true then .slice none 0 0 else .slice (some (Vc.qad p1 (Int.toNat x2) (Int.toNat x3))) (Int.toNat x2) (Int.toNat x3) : Value), (if b2 = true then .slice none 0 0 else .slice (some (Vc.qad p2 (Int.toNat x4) (Int.toNat x5))) (Int.toNat x4) (Int.toNat x5) : Value), .int .i64 x6, .int .i64 x7, .int .i64 x8, .int .i64 x9, .bool false, .bool b4, .int .i64 x23, .int .i64 x24, .int .i64 x25, .int .i64 x26, .int .i64 x27], .agg #[.bool false, .int .i64 0, .bool b4, .int .i64 x23, .int .i64 x24, .int .i64 x25, .int .i64 x26], .int .i64 0] : Value) = v)))))) ∧ (¬ (b4 = true) → (
  ((b4 = true) → (
  ∃ (x19 : Int), (∀ w' : World, Below w.heap.size w w' → Calls Tryz.prog 38 #[.agg #[.string ⟨s0.toArray⟩, (if b0 = true then .slice none 0 0 else .slice (some (Vc.qad p0 (Int.toNat x0) (Int.toNat x1))) (Int.toNat x0) (Int.toNat x1) : Value)], .agg #[.int .i64 x10, .int .i64 x11, .int .i64 x12, .int .i64 x13]] w' (Vc.Ret (.int .i64 x19) w')) ∧
  ((x19 = 1) → (
  ((x19 = 0) → (
  ((x19 = (-1)) → (
  (.tuple #[.agg #[.string ⟨s0.toArray⟩, (if b0 = true then .slice none 0 0 else .slice (some (Vc.qad p0 (Int.toNat x0) (Int.toNat x1))) (Int.toNat x0) (Int.toNat x1) : Value), (if b1 = true then .slice none 0 0 else .slice (some (Vc.qad p1 (Int.toNat x2) (Int.toNat x3))) (Int.toNat x2) (Int.toNat x3) : Value), (if b2 = true then .slice none 0 0 else .slice (some (Vc.qad p2 (Int.toNat x4) (Int.toNat x5))) (Int.toNat x4) (Int.toNat x5) : Value), .int .i64 x6, .int .i64 x7, .int .i64 x8, .int .i64 x9, .bool true, .bool b4, .int .i64 x10, .int .i64 x11, .int .i64 x12, .int .i64 x13, .int .i64 1], .agg #[.bool true, .int .i64 1, .bool b4, .int .i64 x10, .int .i64 x11, .int .i64 x12, .int .i64 x13], .int .i64 0] : Value) = v)) ∧ (¬ (x19 = (-1)) → (
  ((x7 < 1) → (
  (.tuple #[.agg #[.string ⟨s0.toArray⟩, (if b0 = true then .slice none 0 0 else .slice (some (Vc.qad p0 (Int.toNat x0) (Int.toNat x1))) (Int.toNat x0) (Int.toNat x1) : Value), (if b1 = true then .slice none 0 0 else .slice (some (Vc.qad p1 (Int.toNat x2) (Int.toNat x3))) (Int.toNat x2) (Int.toNat x3) : Value), (if b2 = true then .slice none 0 0 else .slice (some (Vc.qad p2 (Int.toNat x4) (Int.toNat x5))) (Int.toNat x4) (Int.toNat x5) : Value), .int .i64 x6, .int .i64 x7, .int .i64 x8, .int .i64 x9, .bool true, .bool b4, .int .i64 x10, .int .i64 x11, .int .i64 x12, .int .i64 x13, .int .i64 1], .agg #[.bool true, .int .i64 2, .bool b4, .int .i64 x10, .int .i64 x11, .int .i64 x12, .int .i64 x13], .int .i64 0] : Value) = v)) ∧ (¬ (x7 < 1) → (
  (.tuple #[.agg #[.string ⟨s0.toArray⟩, (if b0 = true then .slice none 0 0 else .slice (some (Vc.qad p0 (Int.toNat x0) (Int.toNat x1))) (Int.toNat x0) (Int.toNat x1) : Value), (if b1 = true then .slice none 0 0 else .slice (some (Vc.qad p1 (Int.toNat x2) (Int.toNat x3))) (Int.toNat x2) (Int.toNat x3) : Value), (if b2 = true then .slice none 0 0 else .slice (some (Vc.qad p2 (Int.toNat x4) (Int.toNat x5))) (Int.toNat x4) (Int.toNat x5) : Value), .int .i64 x6, .int .i64 x7, .int .i64 x8, .int .i64 x9, .bool false, .bool b4, .int .i64 x10, .int .i64 x11, .int .i64 x12, .int .i64 x13, .int .i64 1], .agg #[.bool false, .int .i64 0, .bool b4, .int .i64 x10, .int .i64 x11, .int .i64 x12, .int .i64 x13], .int .i64 0] : Value) = v)))))) ∧ (¬ (x19 = 0) → (
  ((x19 = (-1)) → (
  (.tuple #[.agg #[.string ⟨s0.toArray⟩, (if b0 = true then .slice none 0 0 else .slice (some (Vc.qad p0 (Int.toNat x0) (Int.toNat x1))) (Int.toNat x0) (Int.toNat x1) : Value), (if b1 = true then .slice none 0 0 else .slice (some (Vc.qad p1 (Int.toNat x2) (Int.toNat x3))) (Int.toNat x2) (Int.toNat x3) : Value), (if b2 = true then .slice none 0 0 else .slice (some (Vc.qad p2 (Int.toNat x4) (Int.toNat x5))) (Int.toNat x4) (Int.toNat x5) : Value), .int .i64 x6, .int .i64 x7, .int .i64 x8, .int .i64 x9, .bool true, .bool b4, .int .i64 x10, .int .i64 x11, .int .i64 x12, .int .i64 x13, .int .i64 0], .agg #[.bool true, .int .i64 1, .bool b4, .int .i64 x10, .int .i64 x11, .int .i64 x12, .int .i64 x13], .int .i64 0] : Value) = v)) ∧ (¬ (x19 = (-1)) → (
  ((x7 < 0) → (
  (.tuple #[.agg #[.string ⟨s0.toArray⟩, (if b0 = true then .slice none 0 0 else .slice (some (Vc.qad p0 (Int.toNat x0) (Int.toNat x1))) (Int.toNat x0) (Int.toNat x1) : Value), (if b1 = true then .slice none 0 0 else .slice (some (Vc.qad p1 (Int.toNat x2) (Int.toNat x3))) (Int.toNat x2) (Int.toNat x3) : Value), (if b2 = true then .slice none 0 0 else .slice (some (Vc.qad p2 (Int.toNat x4) (Int.toNat x5))) (Int.toNat x4) (Int.toNat x5) : Value), .int .i64 x6, .int .i64 x7, .int .i64 x8, .int .i64 x9, .bool true, .bool b4, .int .i64 x10, .int .i64 x11, .int .i64 x12, .int .i64 x13, .int .i64 0], .agg #[.bool true, .int .i64 2, .bool b4, .int .i64 x10, .int .i64 x11, .int .i64 x12, .int .i64 x13], .int .i64 0] : Value) = v)) ∧ (¬ (x7 < 0) → (
  (.tuple #[.agg #[.string ⟨s0.toArray⟩, (if b0 = true then .slice none 0 0 else .slice (some (Vc.qad p0 (Int.toNat x0) (Int.toNat x1))) (Int.toNat x0) (Int.toNat x1) : Value), (if b1 = true then .slice none 0 0 else .slice (some (Vc.qad p1 (Int.toNat x2) (Int.toNat x3))) (Int.toNat x2) (Int.toNat x3) : Value), (if b2 = true then .slice none 0 0 else .slice (some (Vc.qad p2 (Int.toNat x4) (Int.toNat x5))) (Int.toNat x4) (Int.toNat x5) : Value), .int .i64 x6, .int .i64 x7, .int .i64 x8, .int .i64 x9, .bool false, .bool b4, .int .i64 x10, .int .i64 x11, .int .i64 x12, .int .i64 x13, .int .i64 0], .agg #[.bool false, .int .i64 0, .bool b4, .int .i64 x10, .int .i64 x11, .int .i64 x12, .int .i64 x13], .int .i64 0] : Value) = v)))))))) ∧ (¬ (x19 = 1) → (
  ((x19 = 0) → (
  ∀ x20 : Int, x20 = IntKind.i64.wrap (x14 + 1) →
  ((x19 = (-1)) → (
  (.tuple #[.agg #[.string ⟨s0.toArray⟩, (if b0 = true then .slice none 0 0 else .slice (some (Vc.qad p0 (Int.toNat x0) (Int.toNat x1))) (Int.toNat x0) (Int.toNat x1) : Value), (if b1 = true then .slice none 0 0 else .slice (some (Vc.qad p1 (Int.toNat x2) (Int.toNat x3))) (Int.toNat x2) (Int.toNat x3) : Value), (if b2 = true then .slice none 0 0 else .slice (some (Vc.qad p2 (Int.toNat x4) (Int.toNat x5))) (Int.toNat x4) (Int.toNat x5) : Value), .int .i64 x6, .int .i64 x7, .int .i64 x8, .int .i64 x9, .bool true, .bool b4, .int .i64 x10, .int .i64 x11, .int .i64 x12, .int .i64 x13, .int .i64 x20], .agg #[.bool true, .int .i64 1, .bool b4, .int .i64 x10, .int .i64 x11, .int .i64 x12, .int .i64 x13], .int .i64 0] : Value) = v)) ∧ (¬ (x19 = (-1)) → (
  ((x7 < x20) → (
  (.tuple #[.agg #[.string ⟨s0.toArray⟩, (if b0 = true then .slice none 0 0 else .slice (some (Vc.qad p0 (Int.toNat x0) (Int.toNat x1))) (Int.toNat x0) (Int.toNat x1) : Value), (if b1 = true then .slice none 0 0 else .slice (some (Vc.qad p1 (Int.toNat x2) (Int.toNat x3))) (Int.toNat x2) (Int.toNat x3) : Value), (if b2 = true then .slice none 0 0 else .slice (some (Vc.qad p2 (Int.toNat x4) (Int.toNat x5))) (Int.toNat x4) (Int.toNat x5) : Value), .int .i64 x6, .int .i64 x7, .int .i64 x8, .int .i64 x9, .bool true, .bool b4, .int .i64 x10, .int .i64 x11, .int .i64 x12, .int .i64 x13, .int .i64 x20], .agg #[.bool true, .int .i64 2, .bool b4, .int .i64 x10, .int .i64 x11, .int .i64 x12, .int .i64 x13], .int .i64 0] : Value) = v)) ∧ (¬ (x7 < x20) → (
  (.tuple #[.agg #[.string ⟨s0.toArray⟩, (if b0 = true then .slice none 0 0 else .slice (some (Vc.qad p0 (Int.toNat x0) (Int.toNat x1))) (Int.toNat x0) (Int.toNat x1) : Value), (if b1 = true then .slice none 0 0 else .slice (some (Vc.qad p1 (Int.toNat x2) (Int.toNat x3))) (Int.toNat x2) (Int.toNat x3) : Value), (if b2 = true then .slice none 0 0 else .slice (some (Vc.qad p2 (Int.toNat x4) (Int.toNat x5))) (Int.toNat x4) (Int.toNat x5) : Value), .int .i64 x6, .int .i64 x7, .int .i64 x8, .int .i64 x9, .bool false, .bool b4, .int .i64 x10, .int .i64 x11, .int .i64 x12, .int .i64 x13, .int .i64 x20], .agg #[.bool false, .int .i64 0, .bool b4, .int .i64 x10, .int .i64 x11, .int .i64 x12, .int .i64 x13], .int .i64 0] : Value) = v)))))) ∧ (¬ (x19 = 0) → (
  ((x19 = (-1)) → (
  (.tuple #[.agg #[.string ⟨s0.toArray⟩, (if b0 = true then .slice none 0 0 else .slice (some (Vc.qad p0 (Int.toNat x0) (Int.toNat x1))) (Int.toNat x0) (Int.toNat x1) : Value), (if b1 = true then .slice none 0 0 else .slice (some (Vc.qad p1 (Int.toNat x2) (Int.toNat x3))) (Int.toNat x2) (Int.toNat x3) : Value), (if b2 = true then .slice none 0 0 else .slice (some (Vc.qad p2 (Int.toNat x4) (Int.toNat x5))) (Int.toNat x4) (Int.toNat x5) : Value), .int .i64 x6, .int .i64 x7, .int .i64 x8, .int .i64 x9, .bool true, .bool b4, .int .i64 x10, .int .i64 x11, .int .i64 x12, .int .i64 x13, .int .i64 x14], .agg #[.bool true, .int .i64 1, .bool b4, .int .i64 x10, .int .i64 x11, .int .i64 x12, .int .i64 x13], .int .i64 0] : Value) = v)) ∧ (¬ (x19 = (-1)) → (
  ((x7 < x14) → (
  (.tuple #[.agg #[.string ⟨s0.toArray⟩, (if b0 = true then .slice none 0 0 else .slice (some (Vc.qad p0 (Int.toNat x0) (Int.toNat x1))) (Int.toNat x0) (Int.toNat x1) : Value), (if b1 = true then .slice none 0 0 else .slice (some (Vc.qad p1 (Int.toNat x2) (Int.toNat x3))) (Int.toNat x2) (Int.toNat x3) : Value), (if b2 = true then .slice none 0 0 else .slice (some (Vc.qad p2 (Int.toNat x4) (Int.toNat x5))) (Int.toNat x4) (Int.toNat x5) : Value), .int .i64 x6, .int .i64 x7, .int .i64 x8, .int .i64 x9, .bool true, .bool b4, .int .i64 x10, .int .i64 x11, .int .i64 x12, .int .i64 x13, .int .i64 x14], .agg #[.bool true, .int .i64 2, .bool b4, .int .i64 x10, .int .i64 x11, .int .i64 x12, .int .i64 x13], .int .i64 0] : Value) = v)) ∧ (¬ (x7 < x14) → (
  (.tuple #[.agg #[.string ⟨s0.toArray⟩, (if b0 = true then .slice none 0 0 else .slice (some (Vc.qad p0 (Int.toNat x0) (Int.toNat x1))) (Int.toNat x0) (Int.toNat x1) : Value), (if b1 = true then .slice none 0 0 else .slice (some (Vc.qad p1 (Int.toNat x2) (Int.toNat x3))) (Int.toNat x2) (Int.toNat x3) : Value), (if b2 = true then .slice none 0 0 else .slice (some (Vc.qad p2 (Int.toNat x4) (Int.toNat x5))) (Int.toNat x4) (Int.toNat x5) : Value), .int .i64 x6, .int .i64 x7, .int .i64 x8, .int .i64 x9, .bool false, .bool b4, .int .i64 x10, .int .i64 x11, .int .i64 x12, .int .i64 x13, .int .i64 x14], .agg #[.bool false, .int .i64 0, .bool b4, .int .i64 x10, .int .i64 x11, .int .i64 x12, .int .i64 x13], .int .i64 0] : Value) = v)))))))))) ∧ (¬ (b4 = true) → (
  ∀ x19 : Int, x19 = IntKind.i64.wrap (x14 + 1) →
  ((x7 < x19) → (
  (.tuple #[.agg #[.string ⟨s0.toArray⟩, (if b0 = true then .slice none 0 0 else .slice (some (Vc.qad p0 (Int.toNat x0) (Int.toNat x1))) (Int.toNat x0) (Int.toNat x1) : Value), (if b1 = true then .slice none 0 0 else .slice (some (Vc.qad p1 (Int.toNat x2) (Int.toNat x3))) (Int.toNat x2) (Int.toNat x3) : Value), (if b2 = true then .slice none 0 0 else .slice (some (Vc.qad p2 (Int.toNat x4) (Int.toNat x5))) (Int.toNat x4) (Int.toNat x5) : Value), .int .i64 x6, .int .i64 x7, .int .i64 x8, .int .i64 x9, .bool true, .bool b4, .int .i64 x10, .int .i64 x11, .int .i64 x12, .int .i64 x13, .int .i64 x19], .agg #[.bool true, .int .i64 2, .bool b4, .int .i64 x10, .int .i64 x11, .int .i64 x12, .int .i64 x13], .int .i64 0] : Value) = v)) ∧ (¬ (x7 < x19) → (
  (.tuple #[.agg #[.string ⟨s0.toArray⟩, (if b0 = true then .slice none 0 0 else .slice (some (Vc.qad p0 (Int.toNat x0) (Int.toNat x1))) (Int.toNat x0) (Int.toNat x1) : Value), (if b1 = true then .slice none 0 0 else .slice (some (Vc.qad p1 (Int.toNat x2) (Int.toNat x3))) (Int.toNat x2) (Int.toNat x3) : Value), (if b2 = true then .slice none 0 0 else .slice (some (Vc.qad p2 (Int.toNat x4) (Int.toNat x5))) (Int.toNat x4) (Int.toNat x5) : Value), .int .i64 x6, .int .i64 x7, .int .i64 x8, .int .i64 x9, .bool false, .bool b4, .int .i64 x10, .int .i64 x11, .int .i64 x12, .int .i64 x13, .int .i64 x19], .agg #[.bool false, .int .i64 0, .bool b4, .int .i64 x10, .int .i64 x11, .int .i64 x12, .int .i64 x13], .int .i64 0] : Value) = v)))))))))) ∧ (¬ (b6 = true) → (
  (.tuple #[.agg #[.string ⟨s0.toArray⟩, (if b0 = true then .slice none 0 0 else .slice (some (Vc.qad p0 (Int.toNat x0) (Int.toNat x1))) (Int.toNat x0) (Int.toNat x1) : Value), (if b1 = true then .slice none 0 0 else .slice (some (Vc.qad p1 (Int.toNat x2) (Int.toNat x3))) (Int.toNat x2) (Int.toNat x3) : Value), (if b2 = true then .slice none 0 0 else .slice (some (Vc.qad p2 (Int.toNat x4) (Int.toNat x5))) (Int.toNat x4) (Int.toNat x5) : Value), .int .i64 x6, .int .i64 x7, .int .i64 x8, .int .i64 x9, .bool b3, .bool b4, .int .i64 x10, .int .i64 x11, .int .i64 x12, .int .i64 x13, .int .i64 x14], .agg #[.bool false, .int .i64 0, .bool false, .int .i64 0, .int .i64 0, .int .i64 0, .int .i64 0], .int .i64 2] : Value) = v)))) ∧ (¬ (b5 = true) → (
  ((b5 = true) → (
  ∃ (x19 : Int), (∀ w' : World, Below w.heap.size w w' → Calls Tryz.prog 38 #[.agg #[.string ⟨s0.toArray⟩, (if b0 = true then .slice none 0 0 else .slice (some (Vc.qad p0 (Int.toNat x0) (Int.toNat x1))) (Int.toNat x0) (Int.toNat x1) : Value)], .agg #[.int .i64 x15, .int .i64 x16, .int .i64 x17, .int .i64 x18]] w' (Vc.Ret (.int .i64 x19) w')) ∧
  ((x19 = 1) → (
  ((x19 = 0) → (
  ((x19 = (-1)) → (
  (.tuple #[.agg #[.string ⟨s0.toArray⟩, (if b0 = true then .slice none 0 0 else .slice (some (Vc.qad p0 (Int.toNat x0) (Int.toNat x1))) (Int.toNat x0) (Int.toNat x1) : Value), (if b1 = true then .slice none 0 0 else .slice (some (Vc.qad p1 (Int.toNat x2) (Int.toNat x3))) (Int.toNat x2) (Int.toNat x3) : Value), (if b2 = true then .slice none 0 0 else .slice (some (Vc.qad p2 (Int.toNat x4) (Int.toNat x5))) (Int.toNat x4) (Int.toNat x5) : Value), .int .i64 x6, .int .i64 x7, .int .i64 x8, .int .i64 x9, .bool true, .bool true, .int .i64 x15, .int .i64 x16, .int .i64 x17, .int .i64 x18, .int .i64 1], .agg #[.bool true, .int .i64 1, .bool true, .int .i64 x15, .int .i64 x16, .int .i64 x17, .int .i64 x18], .int .i64 0] : Value) = v)) ∧ (¬ (x19 = (-1)) → (
  ((x7 < 1) → (
  (.tuple #[.agg #[.string ⟨s0.toArray⟩, (if b0 = true then .slice none 0 0 else .slice (some (Vc.qad p0 (Int.toNat x0) (Int.toNat x1))) (Int.toNat x0) (Int.toNat x1) : Value), (if b1 = true then .slice none 0 0 else .slice (some (Vc.qad p1 (Int.toNat x2) (Int.toNat x3))) (Int.toNat x2) (Int.toNat x3) : Value), (if b2 = true then .slice none 0 0 else .slice (some (Vc.qad p2 (Int.toNat x4) (Int.toNat x5))) (Int.toNat x4) (Int.toNat x5) : Value), .int .i64 x6, .int .i64 x7, .int .i64 x8, .int .i64 x9, .bool true, .bool true, .int .i64 x15, .int .i64 x16, .int .i64 x17, .int .i64 x18, .int .i64 1], .agg #[.bool true, .int .i64 2, .bool true, .int .i64 x15, .int .i64 x16, .int .i64 x17, .int .i64 x18], .int .i64 0] : Value) = v)) ∧ (¬ (x7 < 1) → (
  (.tuple #[.agg #[.string ⟨s0.toArray⟩, (if b0 = true then .slice none 0 0 else .slice (some (Vc.qad p0 (Int.toNat x0) (Int.toNat x1))) (Int.toNat x0) (Int.toNat x1) : Value), (if b1 = true then .slice none 0 0 else .slice (some (Vc.qad p1 (Int.toNat x2) (Int.toNat x3))) (Int.toNat x2) (Int.toNat x3) : Value), (if b2 = true then .slice none 0 0 else .slice (some (Vc.qad p2 (Int.toNat x4) (Int.toNat x5))) (Int.toNat x4) (Int.toNat x5) : Value), .int .i64 x6, .int .i64 x7, .int .i64 x8, .int .i64 x9, .bool false, .bool true, .int .i64 x15, .int .i64 x16, .int .i64 x17, .int .i64 x18, .int .i64 1], .agg #[.bool false, .int .i64 0, .bool true, .int .i64 x15, .int .i64 x16, .int .i64 x17, .int .i64 x18], .int .i64 0] : Value) = v)))))) ∧ (¬ (x19 = 0) → (
  ((x19 = (-1)) → (
  (.tuple #[.agg #[.string ⟨s0.toArray⟩, (if b0 = true then .slice none 0 0 else .slice (some (Vc.qad p0 (Int.toNat x0) (Int.toNat x1))) (Int.toNat x0) (Int.toNat x1) : Value), (if b1 = true then .slice none 0 0 else .slice (some (Vc.qad p1 (Int.toNat x2) (Int.toNat x3))) (Int.toNat x2) (Int.toNat x3) : Value), (if b2 = true then .slice none 0 0 else .slice (some (Vc.qad p2 (Int.toNat x4) (Int.toNat x5))) (Int.toNat x4) (Int.toNat x5) : Value), .int .i64 x6, .int .i64 x7, .int .i64 x8, .int .i64 x9, .bool true, .bool true, .int .i64 x15, .int .i64 x16, .int .i64 x17, .int .i64 x18, .int .i64 0], .agg #[.bool true, .int .i64 1, .bool true, .int .i64 x15, .int .i64 x16, .int .i64 x17, .int .i64 x18], .int .i64 0] : Value) = v)) ∧ (¬ (x19 = (-1)) → (
  ((x7 < 0) → (
  (.tuple #[.agg #[.string ⟨s0.toArray⟩, (if b0 = true then .slice none 0 0 else .slice (some (Vc.qad p0 (Int.toNat x0) (Int.toNat x1))) (Int.toNat x0) (Int.toNat x1) : Value), (if b1 = true then .slice none 0 0 else .slice (some (Vc.qad p1 (Int.toNat x2) (Int.toNat x3))) (Int.toNat x2) (Int.toNat x3) : Value), (if b2 = true then .slice none 0 0 else .slice (some (Vc.qad p2 (Int.toNat x4) (Int.toNat x5))) (Int.toNat x4) (Int.toNat x5) : Value), .int .i64 x6, .int .i64 x7, .int .i64 x8, .int .i64 x9, .bool true, .bool true, .int .i64 x15, .int .i64 x16, .int .i64 x17, .int .i64 x18, .int .i64 0], .agg #[.bool true, .int .i64 2, .bool true, .int .i64 x15, .int .i64 x16, .int .i64 x17, .int .i64 x18], .int .i64 0] : Value) = v)) ∧ (¬ (x7 < 0) → (
  (.tuple #[.agg #[.string ⟨s0.toArray⟩, (if b0 = true then .slice none 0 0 else .slice (some (Vc.qad p0 (Int.toNat x0) (Int.toNat x1))) (Int.toNat x0) (Int.toNat x1) : Value), (if b1 = true then .slice none 0 0 else .slice (some (Vc.qad p1 (Int.toNat x2) (Int.toNat x3))) (Int.toNat x2) (Int.toNat x3) : Value), (if b2 = true then .slice none 0 0 else .slice (some (Vc.qad p2 (Int.toNat x4) (Int.toNat x5))) (Int.toNat x4) (Int.toNat x5) : Value), .int .i64 x6, .int .i64 x7, .int .i64 x8, .int .i64 x9, .bool false, .bool true, .int .i64 x15, .int .i64 x16, .int .i64 x17, .int .i64 x18, .int .i64 0], .agg #[.bool false, .int .i64 0, .bool true, .int .i64 x15, .int .i64 x16, .int .i64 x17, .int .i64 x18], .int .i64 0] : Value) = v)))))))) ∧ (¬ (x19 = 1) → (
  ((x19 = 0) → (
  ∀ x20 : Int, x20 = IntKind.i64.wrap (x14 + 1) →
  ((x19 = (-1)) → (
  (.tuple #[.agg #[.string ⟨s0.toArray⟩, (if b0 = true then .slice none 0 0 else .slice (some (Vc.qad p0 (Int.toNat x0) (Int.toNat x1))) (Int.toNat x0) (Int.toNat x1) : Value), (if b1 = true then .slice none 0 0 else .slice (some (Vc.qad p1 (Int.toNat x2) (Int.toNat x3))) (Int.toNat x2) (Int.toNat x3) : Value), (if b2 = true then .slice none 0 0 else .slice (some (Vc.qad p2 (Int.toNat x4) (Int.toNat x5))) (Int.toNat x4) (Int.toNat x5) : Value), .int .i64 x6, .int .i64 x7, .int .i64 x8, .int .i64 x9, .bool true, .bool true, .int .i64 x15, .int .i64 x16, .int .i64 x17, .int .i64 x18, .int .i64 x20], .agg #[.bool true, .int .i64 1, .bool true, .int .i64 x15, .int .i64 x16, .int .i64 x17, .int .i64 x18], .int .i64 0] : Value) = v)) ∧ (¬ (x19 = (-1)) → (
  ((x7 < x20) → (
  (.tuple #[.agg #[.string ⟨s0.toArray⟩, (if b0 = true then .slice none 0 0 else .slice (some (Vc.qad p0 (Int.toNat x0) (Int.toNat x1))) (Int.toNat x0) (Int.toNat x1) : Value), (if b1 = true then .slice none 0 0 else .slice (some (Vc.qad p1 (Int.toNat x2) (Int.toNat x3))) (Int.toNat x2) (Int.toNat x3) : Value), (if b2 = true then .slice none 0 0 else .slice (some (Vc.qad p2 (Int.toNat x4) (Int.toNat x5))) (Int.toNat x4) (Int.toNat x5) : Value), .int .i64 x6, .int .i64 x7, .int .i64 x8, .int .i64 x9, .bool true, .bool true, .int .i64 x15, .int .i64 x16, .int .i64 x17, .int .i64 x18, .int .i64 x20], .agg #[.bool true, .int .i64 2, .bool true, .int .i64 x15, .int .i64 x16, .int .i64 x17, .int .i64 x18], .int .i64 0] : Value) = v)) ∧ (¬ (x7 < x20) → (
  (.tuple #[.agg #[.string ⟨s0.toArray⟩, (if b0 = true then .slice none 0 0 else .slice (some (Vc.qad p0 (Int.toNat x0) (Int.toNat x1))) (Int.toNat x0) (Int.toNat x1) : Value), (if b1 = true then .slice none 0 0 else .slice (some (Vc.qad p1 (Int.toNat x2) (Int.toNat x3))) (Int.toNat x2) (Int.toNat x3) : Value), (if b2 = true then .slice none 0 0 else .slice (some (Vc.qad p2 (Int.toNat x4) (Int.toNat x5))) (Int.toNat x4) (Int.toNat x5) : Value), .int .i64 x6, .int .i64 x7, .int .i64 x8, .int .i64 x9, .bool false, .bool true, .int .i64 x15, .int .i64 x16, .int .i64 x17, .int .i64 x18, .int .i64 x20], .agg #[.bool false, .int .i64 0, .bool true, .int .i64 x15, .int .i64 x16, .int .i64 x17, .int .i64 x18], .int .i64 0] : Value) = v)))))) ∧ (¬ (x19 = 0) → (
  ((x19 = (-1)) → (
  (.tuple #[.agg #[.string ⟨s0.toArray⟩, (if b0 = true then .slice none 0 0 else .slice (some (Vc.qad p0 (Int.toNat x0) (Int.toNat x1))) (Int.toNat x0) (Int.toNat x1) : Value), (if b1 = true then .slice none 0 0 else .slice (some (Vc.qad p1 (Int.toNat x2) (Int.toNat x3))) (Int.toNat x2) (Int.toNat x3) : Value), (if b2 = true then .slice none 0 0 else .slice (some (Vc.qad p2 (Int.toNat x4) (Int.toNat x5))) (Int.toNat x4) (Int.toNat x5) : Value), .int .i64 x6, .int .i64 x7, .int .i64 x8, .int .i64 x9, .bool true, .bool true, .int .i64 x15, .int .i64 x16, .int .i64 x17, .int .i64 x18, .int .i64 x14], .agg #[.bool true, .int .i64 1, .bool true, .int .i64 x15, .int .i64 x16, .int .i64 x17, .int .i64 x18], .int .i64 0] : Value) = v)) ∧ (¬ (x19 = (-1)) → (
  ((x7 < x14) → (
  (.tuple #[.agg #[.string ⟨s0.toArray⟩, (if b0 = true then .slice none 0 0 else .slice (some (Vc.qad p0 (Int.toNat x0) (Int.toNat x1))) (Int.toNat x0) (Int.toNat x1) : Value), (if b1 = true then .slice none 0 0 else .slice (some (Vc.qad p1 (Int.toNat x2) (Int.toNat x3))) (Int.toNat x2) (Int.toNat x3) : Value), (if b2 = true then .slice none 0 0 else .slice (some (Vc.qad p2 (Int.toNat x4) (Int.toNat x5))) (Int.toNat x4) (Int.toNat x5) : Value), .int .i64 x6, .int .i64 x7, .int .i64 x8, .int .i64 x9, .bool true, .bool true, .int .i64 x15, .int .i64 x16, .int .i64 x17, .int .i64 x18, .int .i64 x14], .agg #[.bool true, .int .i64 2, .bool true, .int .i64 x15, .int .i64 x16, .int .i64 x17, .int .i64 x18], .int .i64 0] : Value) = v)) ∧ (¬ (x7 < x14) → (
  (.tuple #[.agg #[.string ⟨s0.toArray⟩, (if b0 = true then .slice none 0 0 else .slice (some (Vc.qad p0 (Int.toNat x0) (Int.toNat x1))) (Int.toNat x0) (Int.toNat x1) : Value), (if b1 = true then .slice none 0 0 else .slice (some (Vc.qad p1 (Int.toNat x2) (Int.toNat x3))) (Int.toNat x2) (Int.toNat x3) : Value), (if b2 = true then .slice none 0 0 else .slice (some (Vc.qad p2 (Int.toNat x4) (Int.toNat x5))) (Int.toNat x4) (Int.toNat x5) : Value), .int .i64 x6, .int .i64 x7, .int .i64 x8, .int .i64 x9, .bool false, .bool true, .int .i64 x15, .int .i64 x16, .int .i64 x17, .int .i64 x18, .int .i64 x14], .agg #[.bool false, .int .i64 0, .bool true, .int .i64 x15, .int .i64 x16, .int .i64 x17, .int .i64 x18], .int .i64 0] : Value) = v)))))))))) ∧ (¬ (b5 = true) → (
  ((b4 = true) → (
  ∃ (x19 : Int), ∃ (x20 : Int), ∃ (x21 : Int), ∃ (x22 : Int), (∀ w' : World, Below w.heap.size w w' → Calls Tryz.prog 54 #[.agg #[.int .i64 x10, .int .i64 x11, .int .i64 x12, .int .i64 x13], .int .i64 x6] w' (Vc.Ret (.agg #[.int .i64 x19, .int .i64 x20, .int .i64 x21, .int .i64 x22]) w')) ∧
  ∃ (x23 : Int), (∀ w' : World, Below w.heap.size w w' → Calls Tryz.prog 69 #[.int .i64 x19] w' (Vc.Ret (.int .i64 x23) w')) ∧
  ∃ (x24 : Int), (∀ w' : World, Below w.heap.size w w' → Calls Tryz.prog 69 #[.int .i64 x20] w' (Vc.Ret (.int .i64 x24) w')) ∧
  ∃ (x25 : Int), (∀ w' : World, Below w.heap.size w w' → Calls Tryz.prog 69 #[.int .i64 x21] w' (Vc.Ret (.int .i64 x25) w')) ∧
  ∃ (x26 : Int), (∀ w' : World, Below w.heap.size w w' → Calls Tryz.prog 69 #[.int .i64 x22] w' (Vc.Ret (.int .i64 x26) w')) ∧
  ((b4 = true) → (
  ∃ (x27 : Int), (∀ w' : World, Below w.heap.size w w' → Calls Tryz.prog 38 #[.agg #[.string ⟨s0.toArray⟩, (if b0 = true then .slice none 0 0 else .slice (some (Vc.qad p0 (Int.toNat x0) (Int.toNat x1))) (Int.toNat x0) (Int.toNat x1) : Value)], .agg #[.int .i64 x23, .int .i64 x24, .int .i64 x25, .int .i64 x26]] w' (Vc.Ret (.int .i64 x27) w')) ∧
  ((x27 = 1) → (
  ((x27 = 0) → (
  ((x27 = (-1)) → (
  (.tuple #[.agg #[.string ⟨s0.toArray⟩, (if b0 = true then .slice none 0 0 else .slice (some (Vc.qad p0 (Int.toNat x0) (Int.toNat x1))) (Int.toNat x0) (Int.toNat x1) : Value), (if b1 = true then .slice none 0 0 else .slice (some (Vc.qad p1 (Int.toNat x2) (Int.toNat x3))) (Int.toNat x2) (Int.toNat x3) : Value), (if b2 = true then .slice none 0 0 else .slice (some (Vc.qad p2 (Int.toNat x4) (Int.toNat x5))) (Int.toNat x4) (Int.toNat x5) : Value), .int .i64 x6, .int .i64 x7, .int .i64 x8, .int .i64 x9, .bool true, .bool b4, .int .i64 x23, .int .i64 x24, .int .i64 x25, .int .i64 x26, .int .i64 1], .agg #[.bool true, .int .i64 1, .bool b4, .int .i64 x23, .int .i64 x24, .int .i64 x25, .int .i64 x26], .int .i64 0] : Value) = v)) ∧ (¬ (x27 = (-1)) → (
  ((x7 < 1) → (
  (.tuple #[.agg #[.string ⟨s0.toArray⟩, (if b0 = true then .slice none 0 0 else .slice (some (Vc.qad p0 (Int.toNat x0) (Int.toNat x1))) (Int.toNat x0) (Int.toNat x1) : Value), (if b1 = true then .slice none 0 0 else .slice (some (Vc.qad p1 (Int.toNat x2) (Int.toNat x3))) (Int.toNat x2) (Int.toNat x3) : Value), (if b2 = true then .slice none 0 0 else .slice (some (Vc.qad p2 (Int.toNat x4) (Int.toNat x5))) (Int.toNat x4) (Int.toNat x5) : Value), .int .i64 x6, .int .i64 x7, .int .i64 x8, .int .i64 x9, .bool true, .bool b4, .int .i64 x23, .int .i64 x24, .int .i64 x25, .int .i64 x26, .int .i64 1], .agg #[.bool true, .int .i64 2, .bool b4, .int .i64 x23, .int .i64 x24, .int .i64 x25, .int .i64 x26], .int .i64 0] : Value) = v)) ∧ (¬ (x7 < 1) → (
  (.tuple #[.agg #[.string ⟨s0.toArray⟩, (if b0 = true then .slice none 0 0 else .slice (some (Vc.qad p0 (Int.toNat x0) (Int.toNat x1))) (Int.toNat x0) (Int.toNat x1) : Value), (if b1 = true then .slice none 0 0 else .slice (some (Vc.qad p1 (Int.toNat x2) (Int.toNat x3))) (Int.toNat x2) (Int.toNat x3) : Value), (if b2 = true then .slice none 0 0 else .slice (some (Vc.qad p2 (Int.toNat x4) (Int.toNat x5))) (Int.toNat x4) (Int.toNat x5) : Value), .int .i64 x6, .int .i64 x7, .int .i64 x8, .int .i64 x9, .bool false, .bool b4, .int .i64 x23, .int .i64 x24, .int .i64 x25, .int .i64 x26, .int .i64 1], .agg #[.bool false, .int .i64 0, .bool b4, .int .i64 x23, .int .i64 x24, .int .i64 x25, .int .i64 x26], .int .i64 0] : Value) = v)))))) ∧ (¬ (x27 = 0) → (
  ((x27 = (-1)) → (
  (.tuple #[.agg #[.string ⟨s0.toArray⟩, (if b0 = true then .slice none 0 0 else .slice (some (Vc.qad p0 (Int.toNat x0) (Int.toNat x1))) (Int.toNat x0) (Int.toNat x1) : Value), (if b1 = true then .slice none 0 0 else .slice (some (Vc.qad p1 (Int.toNat x2) (Int.toNat x3))) (Int.toNat x2) (Int.toNat x3) : Value), (if b2 = true then .slice none 0 0 else .slice (some (Vc.qad p2 (Int.toNat x4) (Int.toNat x5))) (Int.toNat x4) (Int.toNat x5) : Value), .int .i64 x6, .int .i64 x7, .int .i64 x8, .int .i64 x9, .bool true, .bool b4, .int .i64 x23, .int .i64 x24, .int .i64 x25, .int .i64 x26, .int .i64 0], .agg #[.bool true, .int .i64 1, .bool b4, .int .i64 x23, .int .i64 x24, .int .i64 x25, .int .i64 x26], .int .i64 0] : Value) = v)) ∧ (¬ (x27 = (-1)) → (
  ((x7 < 0) → (
  (.tuple #[.agg #[.string ⟨s0.toArray⟩, (if b0 = true then .slice none 0 0 else .slice (some (Vc.qad p0 (Int.toNat x0) (Int.toNat x1))) (Int.toNat x0) (Int.toNat x1) : Value), (if b1 = true then .slice none 0 0 else .slice (some (Vc.qad p1 (Int.toNat x2) (Int.toNat x3))) (Int.toNat x2) (Int.toNat x3) : Value), (if b2 = true then .slice none 0 0 else .slice (some (Vc.qad p2 (Int.toNat x4) (Int.toNat x5))) (Int.toNat x4) (Int.toNat x5) : Value), .int .i64 x6, .int .i64 x7, .int .i64 x8, .int .i64 x9, .bool true, .bool b4, .int .i64 x23, .int .i64 x24, .int .i64 x25, .int .i64 x26, .int .i64 0], .agg #[.bool true, .int .i64 2, .bool b4, .int .i64 x23, .int .i64 x24, .int .i64 x25, .int .i64 x26], .int .i64 0] : Value) = v)) ∧ (¬ (x7 < 0) → (
  (.tuple #[.agg #[.string ⟨s0.toArray⟩, (if b0 = true then .slice none 0 0 else .slice (some (Vc.qad p0 (Int.toNat x0) (Int.toNat x1))) (Int.toNat x0) (Int.toNat x1) : Value), (if b1 = true then .slice none 0 0 else .slice (some (Vc.qad p1 (Int.toNat x2) (Int.toNat x3))) (Int.toNat x2) (Int.toNat x3) : Value), (if b2 = true then .slice none 0 0 else .slice (some (Vc.qad p2 (Int.toNat x4) (Int.toNat x5))) (Int.toNat x4) (Int.toNat x5) : Value), .int .i64 x6, .int .i64 x7, .int .i64 x8, .int .i64 x9, .bool false, .bool b4, .int .i64 x23, .int .i64 x24, .int .i64 x25, .int .i64 x26, .int .i64 0], .agg #[.bool false, .int .i64 0, .bool b4, .int .i64 x23, .int .i64 x24, .int .i64 x25, .int .i64 x26], .int .i64 0] : Value) = v)))))))) ∧ (¬ (x27 = 1) → (
  ((x27 = 0) → (
  ∀ x28 : Int, x28 = IntKind.i64.wrap (x14 + 1) →
  ((x27 = (-1)) → (
  (.tuple #[.agg #[.string ⟨s0.toArray⟩, (if b0 = true then .slice none 0 0 else .slice (some (Vc.qad p0 (Int.toNat x0) (Int.toNat x1))) (Int.toNat x0) (Int.toNat x1) : Value), (if b1 = true then .slice none 0 0 else .slice (some (Vc.qad p1 (Int.toNat x2) (Int.toNat x3))) (Int.toNat x2) (Int.toNat x3) : Value), (if b2 = true then .slice none 0 0 else .slice (some (Vc.qad p2 (Int.toNat x4) (Int.toNat x5))) (Int.toNat x4) (Int.toNat x5) : Value), .int .i64 x6, .int .i64 x7, .int .i64 x8, .int .i64 x9, .bool true, .bool b4, .int .i64 x23, .int .i64 x24, .int .i64 x25, .int .i64 x26, .int .i64 x28], .agg #[.bool true, .int .i64 1, .bool b4, .int .i64 x23, .int .i64 x24, .int .i64 x25, .int .i64 x26], .int .i64 0] : Value) = v)) ∧ (¬ (x27 = (-1)) → (
  ((x7 < x28) → (
  (.tuple #[.agg #[.string ⟨s0.toArray⟩, (if b0 = true then .slice none 0 0 else .slice (some (Vc.qad p0 (Int.toNat x0) (Int.toNat x1))) (Int.toNat x0) (Int.toNat x1) : Value), (if b1 = true then .slice none 0 0 else .slice (some (Vc.qad p1 (Int.toNat x2) (Int.toNat x3))) (Int.toNat x2) (Int.toNat x3) : Value), (if b2 = true then .slice none 0 0 else .slice (some (Vc.qad p2 (Int.toNat x4) (Int.toNat x5))) (Int.toNat x4) (Int.toNat x5) : Value), .int .i64 x6, .int .i64 x7, .int .i64 x8, .int .i64 x9, .bool true, .bool b4, .int .i64 x23, .int .i64 x24, .int .i64 x25, .int .i64 x26, .int .i64 x28], .agg #[.bool true, .int .i64 2, .bool b4, .int .i64 x23, .int .i64 x24, .int .i64 x25, .int .i64 x26], .int .i64 0] : Value) = v)) ∧ (¬ (x7 < x28) → (
  (.tuple #[.agg #[.string ⟨s0.toArray⟩, (if b0 = true then .slice none 0 0 else .slice (some (Vc.qad p0 (Int.toNat x0) (Int.toNat x1))) (Int.toNat x0) (Int.toNat x1) : Value), (if b1 = true then .slice none 0 0 else .slice (some (Vc.qad p1 (Int.toNat x2) (Int.toNat x3))) (Int.toNat x2) (Int.toNat x3) : Value), (if b2 = true then .slice none 0 0 else .slice (some (Vc.qad p2 (Int.toNat x4) (Int.toNat x5))) (Int.toNat x4) (Int.toNat x5) : Value), .int .i64 x6, .int .i64 x7, .int .i64 x8, .int .i64 x9, .bool false, .bool b4, .int .i64 x23, .int .i64 x24, .int .i64 x25, .int .i64 x26, .int .i64 x28], .agg #[.bool false, .int .i64 0, .bool b4, .int .i64 x23, .int .i64 x24, .int .i64 x25, .int .i64 x26], .int .i64 0] : Value) = v)))))) ∧ (¬ (x27 = 0) → (
  ((x27 = (-1)) → (
  (.tuple #[.agg #[.string ⟨s0.toArray⟩, (if b0 = true then .slice none 0 0 else .slice (some (Vc.qad p0 (Int.toNat x0) (Int.toNat x1))) (Int.toNat x0) (Int.toNat x1) : Value), (if b1 = true then .slice none 0 0 else .slice (some (Vc.qad p1 (Int.toNat x2) (Int.toNat x3))) (Int.toNat x2) (Int.toNat x3) : Value), (if b2 = true then .slice none 0 0 else .slice (some (Vc.qad p2 (Int.toNat x4) (Int.toNat x5))) (Int.toNat x4) (Int.toNat x5) : Value), .int .i64 x6, .int .i64 x7, .int .i64 x8, .int .i64 x9, .bool true, .bool b4, .int .i64 x23, .int .i64 x24, .int .i64 x25, .int .i64 x26, .int .i64 x14], .agg #[.bool true, .int .i64 1, .bool b4, .int .i64 x23, .int .i64 x24, .int .i64 x25, .int .i64 x26], .int .i64 0] : Value) = v)) ∧ (¬ (x27 = (-1)) → (
  ((x7 < x14) → (
  (.tuple #[.agg #[.string ⟨s0.toArray⟩, (if b0 = true then .slice none 0 0 else .slice (some (Vc.qad p0 (Int.toNat x0) (Int.toNat x1))) (Int.toNat x0) (Int.toNat x1) : Value), (if b1 = true then .slice none 0 0 else .slice (some (Vc.qad p1 (Int.toNat x2) (Int.toNat x3))) (Int.toNat x2) (Int.toNat x3) : Value), (if b2 = true then .slice none 0 0 else .slice (some (Vc.qad p2 (Int.toNat x4) (Int.toNat x5))) (Int.toNat x4) (Int.toNat x5) : Value), .int .i64 x6, .int .i64 x7, .int .i64 x8, .int .i64 x9, .bool true, .bool b4, .int .i64 x23, .int .i64 x24, .int .i64 x25, .int .i64 x26, .int .i64 x14], .agg #[.bool true, .int .i64 2, .bool b4, .int .i64 x23, .int .i64 x24, .int .i64 x25, .int .i64 x26], .int .i64 0] : Value) = v)) ∧ (¬ (x7 < x14) → (
  (.tuple #[.agg #[.string ⟨s0.toArray⟩, (if b0 = true then .slice none 0 0 else .slice (some (Vc.qad p0 (Int.toNat x0) (Int.toNat x1))) (Int.toNat x0) (Int.toNat x1) : Value), (if b1 = true then .slice none 0 0 else .slice (some (Vc.qad p1 (Int.toNat x2) (Int.toNat x3))) (Int.toNat x2) (Int.toNat x3) : Value), (if b2 = true then .slice none 0 0 else .slice (some (Vc.qad p2 (Int.toNat x4) (Int.toNat x5))) (Int.toNat x4) (Int.toNat x5) : Value), .int .i64 x6, .int .i64 x7, .int .i64 x8, .int .i64 x9, .bool false, .bool b4, .int .i64 x23, .int .i64 x24, .int .i64 x25, .int .i64 x26, .int .i64 x14], .agg #[.bool false, .int .i64 0, .bool b4, .int .i64 x23, .int .i64 x24, .int .i64 x25, .int .i64 x26], .int .i64 0] : Value) = v)))))))))) ∧ (¬ (b4 = true) → (
  ∀ x27 : Int, x27 = IntKind.i64.wrap (x14 + 1) →
  ((x7 < x27) → (
  (.tuple #[.agg #[.string ⟨s0.toArray⟩, (if b0 = true then .slice none 0 0 else .slice (some (Vc.qad p0 (Int.toNat x0) (Int.toNat x1))) (Int.toNat x0) (Int.toNat x1) : Value), (if b1 = true then .slice none 0 0 else .slice (some (Vc.qad p1 (Int.toNat x2) (Int.toNat x3))) (Int.toNat x2) (Int.toNat x3) : Value), (if b2 = true then .slice none 0 0 else .slice (some (Vc.qad p2 (Int.toNat x4) (Int.toNat x5))) (Int.toNat x4) (Int.toNat x5) : Value), .int .i64 x6, .int .i64 x7, .int .i64 x8, .int .i64 x9, .bool true, .bool b4, .int .i64 x23, .int .i64 x24, .int .i64 x25, .int .i64 x26, .int .i64 x27], .agg #[.bool true, .int .i64 2, .bool b4, .int .i64 x23, .int .i64 x24, .int .i64 x25, .int .i64 x26], .int .i64 0] : Value) = v)) ∧ (¬ (x7 < x27) → (
  (.tuple #[.agg #[.string ⟨s0.toArray⟩, (if b0 = true then .slice none 0 0 else .slice (some (Vc.qad p0 (Int.toNat x0) (Int.toNat x1))) (Int.toNat x0) (Int.toNat x1) : Value), (if b1 = true then .slice none 0 0 else .slice (some (Vc.qad p1 (Int.toNat x2) (Int.toNat x3))) (Int.toNat x2) (Int.toNat x3) : Value), (if b2 = true then .slice none 0 0 else .slice (some (Vc.qad p2 (Int.toNat x4) (Int.toNat x5))) (Int.toNat x4) (Int.toNat x5) : Value), .int .i64 x6, .int .i64 x7, .int .i64 x8, .int .i64 x9, .bool false, .bool b4, .int .i64 x23, .int .i64 x24, .int .i64 x25, .int .i64 x26, .int .i64 x27], .agg #[.bool false, .int .i64 0, .bool b4, .int .i64 x23, .int .i64 x24, .int .i64 x25, .int .i64 x26], .int .i64 0] : Value) = v)))))) ∧ (¬ (b4 = true) → (
  ((b4 = true) → (
  ∃ (x19 : Int), (∀ w' : World, Below w.heap.size w w' → Calls Tryz.prog 38 #[.agg #[.string ⟨s0.toArray⟩, (if b0 = true then .slice none 0 0 else .slice (some (Vc.qad p0 (Int.toNat x0) (Int.toNat x1))) (Int.toNat x0) (Int.toNat x1) : Value)], .agg #[.int .i64 x10, .int .i64 x11, .int .i64 x12, .int .i64 x13]] w' (Vc.Ret (.int .i64 x19) w')) ∧
  ((x19 = 1) → (
  ((x19 = 0) → (
  ((x19 = (-1)) → (
  (.tuple #[.agg #[.string ⟨s0.toArray⟩, (if b0 = true then .slice none 0 0 else .slice (some (Vc.qad p0 (Int.toNat x0) (Int.toNat x1))) (Int.toNat x0) (Int.toNat x1) : Value), (if b1 = true then .slice none 0 0 else .slice (some (Vc.qad p1 (Int.toNat x2) (Int.toNat x3))) (Int.toNat x2) (Int.toNat x3) : Value), (if b2 = true then .slice none 0 0 else .slice (some (Vc.qad p2 (Int.toNat x4) (Int.toNat x5))) (Int.toNat x4) (Int.toNat x5) : Value), .int .i64 x6, .int .i64 x7, .int .i64 x8, .int .i64 x9, .bool true, .bool b4, .int .i64 x10, .int .i64 x11, .int .i64 x12, .int .i64 x13, .int .i64 1], .agg #[.bool true, .int .i64 1, .bool b4, .int .i64 x10, .int .i64 x11, .int .i64 x12, .int .i64 x13], .int .i64 0] : Value) = v)) ∧ (¬ (x19 = (-1)) → (
  ((x7 < 1) → (
  (.tuple #[.agg #[.string ⟨s0.toArray⟩, (if b0 = true then .slice none 0 0 else .slice (some (Vc.qad p0 (Int.toNat x0) (Int.toNat x1))) (Int.toNat x0) (Int.toNat x1) : Value), (if b1 = true then .slice none 0 0 else .slice (some (Vc.qad p1 (Int.toNat x2) (Int.toNat x3))) (Int.toNat x2) (Int.toNat x3) : Value), (if b2 = true then .slice none 0 0 else .slice (some (Vc.qad p2 (Int.toNat x4) (Int.toNat x5))) (Int.toNat x4) (Int.toNat x5) : Value), .int .i64 x6, .int .i64 x7, .int .i64 x8, .int .i64 x9, .bool true, .bool b4, .int .i64 x10, .int .i64 x11, .int .i64 x12, .int .i64 x13, .int .i64 1], .agg #[.bool true, .int .i64 2, .bool b4, .int .i64 x10, .int .i64 x11, .int .i64 x12, .int .i64 x13], .int .i64 0] : Value) = v)) ∧ (¬ (x7 < 1) → (
  (.tuple #[.agg #[.string ⟨s0.toArray⟩, (if b0 = true then .slice none 0 0 else .slice (some (Vc.qad p0 (Int.toNat x0) (Int.toNat x1))) (Int.toNat x0) (Int.toNat x1) : Value), (if b1 = true then .slice none 0 0 else .slice (some (Vc.qad p1 (Int.toNat x2) (Int.toNat x3))) (Int.toNat x2) (Int.toNat x3) : Value), (if b2 = true then .slice none 0 0 else .slice (some (Vc.qad p2 (Int.toNat x4) (Int.toNat x5))) (Int.toNat x4) (Int.toNat x5) : Value), .int .i64 x6, .int .i64 x7, .int .i64 x8, .int .i64 x9, .bool false, .bool b4, .int .i64 x10, .int .i64 x11, .int .i64 x12, .int .i64 x13, .int .i64 1], .agg #[.bool false, .int .i64 0, .bool b4, .int .i64 x10, .int .i64 x11, .int .i64 x12, .int .i64 x13], .int .i64 0] : Value) = v)))))) ∧ (¬ (x19 = 0) → (
  ((x19 = (-1)) → (
  (.tuple #[.agg #[.string ⟨s0.toArray⟩, (if b0 = true then .slice none 0 0 else .slice (some (Vc.qad p0 (Int.toNat x0) (Int.toNat x1))) (Int.toNat x0) (Int.toNat x1) : Value), (if b1 = true then .slice none 0 0 else .slice (some (Vc.qad p1 (Int.toNat x2) (Int.toNat x3))) (Int.toNat x2) (Int.toNat x3) : Value), (if b2 = true then .slice none 0 0 else .slice (some (Vc.qad p2 (Int.toNat x4) (Int.toNat x5))) (Int.toNat x4) (Int.toNat x5) : Value), .int .i64 x6, .int .i64 x7, .int .i64 x8, .int .i64 x9, .bool true, .bool b4, .int .i64 x10, .int .i64 x11, .int .i64 x12, .int .i64 x13, .int .i64 0], .agg #[.bool true, .int .i64 1, .bool b4, .int .i64 x10, .int .i64 x11, .int .i64 x12, .int .i64 x13], .int .i64 0] : Value) = v)) ∧ (¬ (x19 = (-1)) → (
  ((x7 < 0) → (
  (.tuple #[.agg #[.string ⟨s0.toArray⟩, (if b0 = true then .slice none 0 0 else .slice (some (Vc.qad p0 (Int.toNat x0) (Int.toNat x1))) (Int.toNat x0) (Int.toNat x1) : Value), (if b1 = true then .slice none 0 0 else .slice (some (Vc.qad p1 (Int.toNat x2) (Int.toNat x3))) (Int.toNat x2) (Int.toNat x3) : Value), (if b2 = true then .slice none 0 0 else .slice (some (Vc.qad p2 (Int.toNat x4) (Int.toNat x5))) (Int.toNat x4) (Int.toNat x5) : Value), .int .i64 x6, .int .i64 x7, .int .i64 x8, .int .i64 x9, .bool true, .bool b4, .int .i64 x10, .int .i64 x11, .int .i64 x12, .int .i64 x13, .int .i64 0], .agg #[.bool true, .int .i64 2, .bool b4, .int .i64 x10, .int .i64 x11, .int .i64 x12, .int .i64 x13], .int .i64 0] : Value) = v)) ∧ (¬ (x7 < 0) → (
  (.tuple #[.agg #[.string ⟨s0.toArray⟩, (if b0 = true then .slice none 0 0 else .slice (some (Vc.qad p0 (Int.toNat x0) (Int.toNat x1))) (Int.toNat x0) (Int.toNat x1) : Value), (if b1 = true then .slice none 0 0 else .slice (some (Vc.qad p1 (Int.toNat x2) (Int.toNat x3))) (Int.toNat x2) (Int.toNat x3) : Value), (if b2 = true then .slice none 0 0 else .slice (some (Vc.qad p2 (Int.toNat x4) (Int.toNat x5))) (Int.toNat x4) (Int.toNat x5) : Value), .int .i64 x6, .int .i64 x7, .int .i64 x8, .int .i64 x9, .bool false, .bool b4, .int .i64 x10, .int .i64 x11, .int .i64 x12, .int .i64 x13, .int .i64 0], .agg #[.bool false, .int .i64 0, .bool b4, .int .i64 x10, .int .i64 x11, .int .i64 x12, .int .i64 x13], .int .i64 0] : Value) = v)))))))) ∧ (¬ (x19 = 1) → (
  ((x19 = 0) → (
  ∀ x20 : Int, x20 = IntKind.i64.wrap (x14 + 1) →
  ((x19 = (-1)) → (
  (.tuple #[.agg #[.string ⟨s0.toArray⟩, (if b0 = true then .slice none 0 0 else .slice (some (Vc.qad p0 (Int.toNat x0) (Int.toNat x1))) (Int.toNat x0) (Int.toNat x1) : Value), (if b1 = true then .slice none 0 0 else .slice (some (Vc.qad p1 (Int.toNat x2) (Int.toNat x3))) (Int.toNat x2) (Int.toNat x3) : Value), (if b2 = true then .slice none 0 0 else .slice (some (Vc.qad p2 (Int.toNat x4) (Int.toNat x5))) (Int.toNat x4) (Int.toNat x5) : Value), .int .i64 x6, .int .i64 x7, .int .i64 x8, .int .i64 x9, .bool true, .bool b4, .int .i64 x10, .int .i64 x11, .int .i64 x12, .int .i64 x13, .int .i64 x20], .agg #[.bool true, .int .i64 1, .bool b4, .int .i64 x10, .int .i64 x11, .int .i64 x12, .int .i64 x13], .int .i64 0] : Value) = v)) ∧ (¬ (x19 = (-1)) → (
  ((x7 < x20) → (
  (.tuple #[.agg #[.string ⟨s0.toArray⟩, (if b0 = true then .slice none 0 0 else .slice (some (Vc.qad p0 (Int.toNat x0) (Int.toNat x1))) (Int.toNat x0) (Int.toNat x1) : Value), (if b1 = true then .slice none 0 0 else .slice (some (Vc.qad p1 (Int.toNat x2) (Int.toNat x3))) (Int.toNat x2) (Int.toNat x3) : Value), (if b2 = true then .slice none 0 0 else .slice (some (Vc.qad p2 (Int.toNat x4) (Int.toNat x5))) (Int.toNat x4) (Int.toNat x5) : Value), .int .i64 x6, .int .i64 x7, .int .i64 x8, .int .i64 x9, .bool true, .bool b4, .int .i64 x10, .int .i64 x11, .int .i64 x12, .int .i64 x13, .int .i64 x20], .agg #[.bool true, .int .i64 2, .bool b4, .int .i64 x10, .int .i64 x11, .int .i64 x12, .int .i64 x13], .int .i64 0] : Value) = v)) ∧ (¬ (x7 < x20) → (
  (.tuple #[.agg #[.string ⟨s0.toArray⟩, (if b0 = true then .slice none 0 0 else .slice (some (Vc.qad p0 (Int.toNat x0) (Int.toNat x1))) (Int.toNat x0) (Int.toNat x1) : Value), (if b1 = true then .slice none 0 0 else .slice (some (Vc.qad p1 (Int.toNat x2) (Int.toNat x3))) (Int.toNat x2) (Int.toNat x3) : Value), (if b2 = true then .slice none 0 0 else .slice (some (Vc.qad p2 (Int.toNat x4) (Int.toNat x5))) (Int.toNat x4) (Int.toNat x5) : Value), .int .i64 x6, .int .i64 x7, .int .i64 x8, .int .i64 x9, .bool false, .bool b4, .int .i64 x10, .int .i64 x11, .int .i64 x12, .int .i64 x13, .int .i64 x20], .agg #[.bool false, .int .i64 0, .bool b4, .int .i64 x10, .int .i64 x11, .int .i64 x12, .int .i64 x13], .int .i64 0] : Value) = v)))))) ∧ (¬ (x19 = 0) → (
  ((x19 = (-1)) → (
  (.tuple #[.agg #[.string ⟨s0.toArray⟩, (if b0 = true then .slice none 0 0 else .slice (some (Vc.qad p0 (Int.toNat x0) (Int.toNat x1))) (Int.toNat x0) (Int.toNat x1) : Value), (if b1 = true then .slice none 0 0 else .slice (some (Vc.qad p1 (Int.toNat x2) (Int.toNat x3))) (Int.toNat x2) (Int.toNat x3) : Value), (if b2 = true then .slice none 0 0 else .slice (some (Vc.qad p2 (Int.toNat x4) (Int.toNat x5))) (Int.toNat x4) (Int.toNat x5) : Value), .int .i64 x6, .int .i64 x7, .int .i64 x8, .int .i64 x9, .bool true, .bool b4, .int .i64 x10, .int .i64 x11, .int .i64 x12, .int .i64 x13, .int .i64 x14], .agg #[.bool true, .int .i64 1, .bool b4, .int .i64 x10, .int .i64 x11, .int .i64 x12, .int .i64 x13], .int .i64 0] : Value) = v)) ∧ (¬ (x19 = (-1)) → (
  ((x7 < x14) → (
  (.tuple #[.agg #[.string ⟨s0.toArray⟩, (if b0 = true then .slice none 0 0 else .slice (some (Vc.qad p0 (Int.toNat x0) (Int.toNat x1))) (Int.toNat x0) (Int.toNat x1) : Value), (if b1 = true then .slice none 0 0 else .slice (some (Vc.qad p1 (Int.toNat x2) (Int.toNat x3))) (Int.toNat x2) (Int.toNat x3) : Value), (if b2 = true then .slice none 0 0 else .slice (some (Vc.qad p2 (Int.toNat x4) (Int.toNat x5))) (Int.toNat x4) (Int.toNat x5) : Value), .int .i64 x6, .int .i64 x7, .int .i64 x8, .int .i64 x9, .bool true, .bool b4, .int .i64 x10, .int .i64 x11, .int .i64 x12, .int .i64 x13, .int .i64 x14], .agg #[.bool true, .int .i64 2, .bool b4, .int .i64 x10, .int .i64 x11, .int .i64 x12, .int .i64 x13], .int .i64 0] : Value) = v)) ∧ (¬ (x7 < x14) → (
  (.tuple #[.agg #[.string ⟨s0.toArray⟩, (if b0 = true then .slice none 0 0 else .slice (some (Vc.qad p0 (Int.toNat x0) (Int.toNat x1))) (Int.toNat x0) (Int.toNat x1) : Value), (if b1 = true then .slice none 0 0 else .slice (some (Vc.qad p1 (Int.toNat x2) (Int.toNat x3))) (Int.toNat x2) (Int.toNat x3) : Value), (if b2 = true then .slice none 0 0 else .slice (some (Vc.qad p2 (Int.toNat x4) (Int.toNat x5))) (Int.toNat x4) (Int.toNat x5) : Value), .int .i64 x6, .int .i64 x7, .int .i64 x8, .int .i64 x9, .bool false, .bool b4, .int .i64 x10, .int .i64 x11, .int .i64 x12, .int .i64 x13, .int .i64 x14], .agg #[.bool false, .int .i64 0, .bool b4, .int .i64 x10, .int .i64 x11, .int .i64 x12, .int .i64 x13], .int .i64 0] : Value) = v)))))))))) ∧ (¬ (b4 = true) → (
  ∀ x19 : Int, x19 = IntKind.i64.wrap (x14 + 1) →
  ((x7 < x19) → (
  (.tuple #[.agg #[.string ⟨s0.toArray⟩, (if b0 = true then .slice none 0 0 else .slice (some (Vc.qad p0 (Int.toNat x0) (Int.toNat x1))) (Int.toNat x0) (Int.toNat x1) : Value), (if b1 = true then .slice none 0 0 else .slice (some (Vc.qad p1 (Int.toNat x2) (Int.toNat x3))) (Int.toNat x2) (Int.toNat x3) : Value), (if b2 = true then .slice none 0 0 else .slice (some (Vc.qad p2 (Int.toNat x4) (Int.toNat x5))) (Int.toNat x4) (Int.toNat x5) : Value), .int .i64 x6, .int .i64 x7, .int .i64 x8, .int .i64 x9, .bool true, .bool b4, .int .i64 x10, .int .i64 x11, .int .i64 x12, .int .i64 x13, .int .i64 x19], .agg #[.bool true, .int .i64 2, .bool b4, .int .i64 x10, .int .i64 x11, .int .i64 x12, .int .i64 x13], .int .i64 0] : Value) = v)) ∧ (¬ (x7 < x19) → (
  (.tuple #[.agg #[.string ⟨s0.toArray⟩, (if b0 = true then .slice none 0 0 else .slice (some (Vc.qad p0 (Int.toNat x0) (Int.toNat x1))) (Int.toNat x0) (Int.toNat x1) : Value), (if b1 = true then .slice none 0 0 else .slice (some (Vc.qad p1 (Int.toNat x2) (Int.toNat x3))) (Int.toNat x2) (Int.toNat x3) : Value), (if b2 = true then .slice none 0 0 else .slice (some (Vc.qad p2 (Int.toNat x4) (Int.toNat x5))) (Int.toNat x4) (Int.toNat x5) : Value), .int .i64 x6, .int .i64 x7, .int .i64 x8, .int .i64 x9, .bool false, .bool b4, .int .i64 x10, .int .i64 x11, .int .i64 x12, .int .i64 x13, .int .i64 x19], .agg #[.bool false, .int .i64 0, .bool b4, .int .i64 x10, .int .i64 x11, .int .i64 x12, .int .i64 x13], .int .i64 0] : Value) = v))))))))))))) : Calls Tryz.prog 28 #[.agg #[.string ⟨s0.toArray⟩, (if b0 = true then .slice none 0 0 else .slice (some (Vc.qad p0 (Int.toNat x0) (Int.toNat x1))) (Int.toNat x0) (Int.toNat x1) : Value), (if b1 = true then .slice none 0 0 else .slice (some (Vc.qad p1 (Int.toNat x2) (Int.toNat x3))) (Int.toNat x2) (Int.toNat x3) : Value), (if b2 = true then .slice none 0 0 else .slice (some (Vc.qad p2 (Int.toNat x4) (Int.toNat x5))) (Int.toNat x4) (Int.toNat x5) : Value), .int .i64 x6, .int .i64 x7, .int .i64 x8, .int .i64 x9, .bool b3, .bool b4, .int .i64 x10, .int .i64 x11, .int .i64 x12, .int .i64 x13, .int .i64 x14], .agg #[.int .i64 x15, .int .i64 x16, .int .i64 x17, .int .i64 x18], .bool b5] w (Vc.Ret v w) :=
  Vc.pure_of base [] 200 Tryz.func28 (b := (Tryz.f28.body).getD .skip) (by kernel_rfl) [.cv (.agg [.sv 0, .qsl 0 0 2 (.var 0) (.var 1), .qsl 1 1 2 (.var 2) (.var 3), .qsl 2 2 4 (.var 4) (.var 5), .int .i64 (.var 6), .int .i64 (.var 7), .int .i64 (.var 8), .int .i64 (.var 9), .bool (.var 3), .bool (.var 4), .int .i64 (.var 10), .int .i64 (.var 11), .int .i64 (.var 12), .int .i64 (.var 13), .int .i64 (.var 14)]), .cv (.agg [.int .i64 (.var 15), .int .i64 (.var 16), .int .i64 (.var 17), .int .i64 (.var 18)]), .cv (.one (.bool (.var 5)))] ⟨19, 6, 0, 3, 0, 1, 0⟩ (Vc.envOf [x0, x1, x2, x3, x4, x5, x6, x7, x8, x9, x10, x11, x12, x13, x14, x15, x16, x17, x18] [b0, b1, b2, b3, b4, b5] [] [p0, p1, p2] [s0]) (by kernel_rfl) (by kernel_rfl) (by kernel_rfl) h

theorem vc_ullageref09_many (p0 : Nat × Nat) (x0 x1 : Int) (b0 : Bool) (s0 : List UInt8) (w : World) (v : Value) (h : 
  (0 ≤ x0) ∧
  ((¬ (b0 = true)) ∨ (x0 = 0)) ∧
  ∀ x2 : Int, x2 = ((s0.length : Nat) : Int) →
  ∀ x3 : Int, x3 = IntKind.i64.wrap (x0 + x2) →
  (.int .i64 x3 : Value) = v) : Calls Tryz.prog 30 #[.agg #[.string ⟨s0.toArray⟩, (if b0 = true then .slice none 0 0 else .slice (some (Vc.qad p0 (Int.toNat x0) (Int.toNat x1))) (Int.toNat x0) (Int.toNat x1) : Value)]] w (Vc.Ret v w) :=
  Vc.pure_of base [] 200 Tryz.func30 (b := (Tryz.f30.body).getD .skip) (by kernel_rfl) [.cv (.agg [.sv 0, .qsl 0 0 2 (.var 0) (.var 1)])] ⟨2, 1, 0, 1, 0, 1, 0⟩ (Vc.envOf [x0, x1] [b0] [] [p0] [s0]) (by kernel_rfl) (by kernel_rfl) (by kernel_rfl) h

theorem vc_ullageref09_Great (p0 p1 p2 : Nat × Nat) (x0 x1 x2 x3 x4 x5 x6 x7 x8 x9 : Int) (b0 b1 b2 : Bool) (s0 : List UInt8) (w : World) (v : Value) (h : 
  ∃ (x10 : Int), (∀ w' : World, Below w.heap.size w w' → Calls Tryz.prog 30 #[.agg #[.string ⟨s0.toArray⟩, (if b0 = true then .slice none 0 0 else .slice (some (Vc.qad p0 (Int.toNat x0) (Int.toNat x1))) (Int.toNat x0) (Int.toNat x1) : Value)]] w' (Vc.Ret (.int .i64 x10) w')) ∧
  ∃ (Ix11 : List Vc.Vl → Prop) (mx11 : List Vc.Vl → Nat), Ix11 [.i x10, .i 0] ∧ ∀ (x11 : Int) (x12 : Int), Ix11 [.i x11, .i x12] → (
  (0 ≤ x2) ∧
  ((¬ (b1 = true)) ∨ (x2 = 0)) ∧
  ((x12 < x2) → (
  ((x12 < 20) → (
  (¬ (b1 = true)) ∧
  (0 ≤ x12) ∧
  (x12 < x2) ∧
  ∃ (s1 : List UInt8), w.cell? ⟨p1.1, p1.2 + (Int.toNat x12) * 2 + 0, none⟩ = some (.string ⟨s1.toArray⟩) ∧
  ∃ (b3 : Bool) (p3 : Nat × Nat) (x13 x14 : Int), w.cell? ⟨p1.1, p1.2 + (Int.toNat x12) * 2 + 1, none⟩ = some ((if b3 = true then .slice none 0 0 else .slice (some (Vc.qad p3 (Int.toNat x13) (Int.toNat x14))) (Int.toNat x13) (Int.toNat x14) : Value)) ∧
  ∃ (x15 : Int), (∀ w' : World, Below w.heap.size w w' → Calls Tryz.prog 30 #[.agg #[.string ⟨s1.toArray⟩, (if b3 = true then .slice none 0 0 else .slice (some (Vc.qad p3 (Int.toNat x13) (Int.toNat x14))) (Int.toNat x13) (Int.toNat x14) : Value)]] w' (Vc.Ret (.int .i64 x15) w')) ∧
  ∀ x16 : Int, x16 = IntKind.i64.wrap (x11 + x15) →
  ∀ x17 : Int, x17 = IntKind.i64.wrap (x12 + 1) →
  Ix11 [.i x16, .i x17] ∧ mx11 [.i x16, .i x17] < mx11 [.i x11, .i x12])) ∧ (¬ (x12 < 20) → (
  ∃ (Ix13 : List Vc.Vl → Prop) (mx13 : List Vc.Vl → Nat), Ix13 [.i x11, .i 0] ∧ ∀ (x13 : Int) (x14 : Int), Ix13 [.i x13, .i x14] → (
  (0 ≤ x4) ∧
  ((¬ (b2 = true)) ∨ (x4 = 0)) ∧
  ((x14 < x4) → (
  ((x14 < 20) → (
  (¬ (b2 = true)) ∧
  (0 ≤ x14) ∧
  (x14 < x4) ∧
  ∃ (s1 : List UInt8), w.cell? ⟨p2.1, p2.2 + (Int.toNat x14) * 4 + 0, none⟩ = some (.string ⟨s1.toArray⟩) ∧
  ∃ (b3 : Bool) (p3 : Nat × Nat) (x15 x16 : Int), w.cell? ⟨p2.1, p2.2 + (Int.toNat x14) * 4 + 1, none⟩ = some ((if b3 = true then .slice none 0 0 else .slice (some (Vc.qad p3 (Int.toNat x15) (Int.toNat x16))) (Int.toNat x15) (Int.toNat x16) : Value)) ∧
  ∃ (x17 : Int), (∀ w' : World, Below w.heap.size w w' → Calls Tryz.prog 30 #[.agg #[.string ⟨s1.toArray⟩, (if b3 = true then .slice none 0 0 else .slice (some (Vc.qad p3 (Int.toNat x15) (Int.toNat x16))) (Int.toNat x15) (Int.toNat x16) : Value)]] w' (Vc.Ret (.int .i64 x17) w')) ∧
  ∀ x18 : Int, x18 = IntKind.i64.wrap (x13 + x17) →
  ∀ x19 : Int, x19 = IntKind.i64.wrap (x14 + 1) →
  Ix13 [.i x18, .i x19] ∧ mx13 [.i x18, .i x19] < mx13 [.i x13, .i x14])) ∧ (¬ (x14 < 20) → (
  (0 ≤ x2) ∧
  ((¬ (b1 = true)) ∨ (x2 = 0)) ∧
  ((20 < x2) → (
  (.bool true : Value) = v)) ∧ (¬ (20 < x2) → (
  (0 ≤ x4) ∧
  ((¬ (b2 = true)) ∨ (x4 = 0)) ∧
  ((20 < x4) → (
  (.bool true : Value) = v)) ∧ (¬ (20 < x4) → (
  (.bool (decide (x13 > 2000)) : Value) = v)))))))) ∧ (¬ (x14 < x4) → (
  (0 ≤ x2) ∧
  ((¬ (b1 = true)) ∨ (x2 = 0)) ∧
  ((20 < x2) → (
  (.bool true : Value) = v)) ∧ (¬ (20 < x2) → (
  (0 ≤ x4) ∧
  ((¬ (b2 = true)) ∨ (x4 = 0)) ∧
  ((20 < x4) → (
  (.bool true : Value) = v)) ∧ (¬ (20 < x4) → (
  (.bool (decide (x13 > 2000)) : Value) = v))))))))))) ∧ (¬ (x12 < x2) → (
  ∃ (Ix13 : List Vc.Vl → Prop) (mx13 : List Vc.Vl → Nat), Ix13 [.i x11, .i 0] ∧ ∀ (x13 : Int) (x14 : Int), Ix13 [.i x13, .i x14] → (
  (0 ≤ x4) ∧
  ((¬ (b2 = true)) ∨ (x4 = 0)) ∧
  ((x14 < x4) → (
  ((x14 < 20) → (
  (¬ (b2 = true)) ∧
  (0 ≤ x14) ∧
  (x14 < x4) ∧
  ∃ (s1 : List UInt8), w.cell? ⟨p2.1, p2.2 + (Int.toNat x14) * 4 + 0, none⟩ = some (.string ⟨s1.toArray⟩) ∧
  ∃ (b3 : Bool) (p3 : Nat × Nat) (x15 x16 : Int), w.cell? ⟨p2.1, p2.2 + (Int.toNat x14) * 4 + 1, none⟩ = some ((if b3 = true then .slice none 0 0 else .slice (some (Vc.qad p3 (Int.toNat x15) (Int.toNat x16))) (Int.toNat x15) (Int.toNat x16) : Value)) ∧
  ∃ (x17 : Int), (∀ w' : World, Below w.heap.size w w' → Calls Tryz.prog 30 #[.agg #[.string ⟨s1.toArray⟩, (if b3 = true then .slice none 0 0 else .slice (some (Vc.qad p3 (Int.toNat x15) (Int.toNat x16))) (Int.toNat x15) (Int.toNat x16) : Value)]] w' (Vc.Ret (.int .i64 x17) w')) ∧
  ∀ x18 : Int, x18 = IntKind.i64.wrap (x13 + x17) →
  ∀ x19 : Int, x19 = IntKind.i64.wrap (x14 + 1) →
  Ix13 [.i x18, .i x19] ∧ mx13 [.i x18, .i x19] < mx13 [.i x13, .i x14])) ∧ (¬ (x14 < 20) → (
  (0 ≤ x2) ∧
  ((¬ (b1 = true)) ∨ (x2 = 0)) ∧
  ((20 < x2) → (
  (.bool true : Value) = v)) ∧ (¬ (20 < x2) → (
  (0 ≤ x4) ∧
  ((¬ (b2 = true)) ∨ (x4 = 0)) ∧
  ((20 < x4) → (
  (.bool true : Value) = v)) ∧ (¬ (20 < x4) → (
  (.bool (decide (x13 > 2000)) : Value) = v)))))))) ∧ (¬ (x14 < x4) → (
  (0 ≤ x2) ∧
  ((¬ (b1 = true)) ∨ (x2 = 0)) ∧
  ((20 < x2) → (
  (.bool true : Value) = v)) ∧ (¬ (20 < x2) → (
  (0 ≤ x4) ∧
  ((¬ (b2 = true)) ∨ (x4 = 0)) ∧
  ((20 < x4) → (
  (.bool true : Value) = v)) ∧ (¬ (20 < x4) → (
  (.bool (decide (x13 > 2000)) : Value) = v))))))))))) : Calls Tryz.prog 15 #[.agg #[.string ⟨s0.toArray⟩, (if b0 = true then .slice none 0 0 else .slice (some (Vc.qad p0 (Int.toNat x0) (Int.toNat x1))) (Int.toNat x0) (Int.toNat x1) : Value), (if b1 = true then .slice none 0 0 else .slice (some (Vc.qad p1 (Int.toNat x2) (Int.toNat x3))) (Int.toNat x2) (Int.toNat x3) : Value), (if b2 = true then .slice none 0 0 else .slice (some (Vc.qad p2 (Int.toNat x4) (Int.toNat x5))) (Int.toNat x4) (Int.toNat x5) : Value), .int .i64 x6, .int .i64 x7, .int .i64 x8, .int .i64 x9]] w (Vc.Ret v w) :=
  Vc.pure_of base [(3, .inv [] [3, 4] [9, 10, 11, 12, 13, 14, 15, 16, 17, 20, 21, 22, 23, 24, 25, 26, 27, 18, 19]), (7, .inv [] [3, 5] [28, 29, 30, 31, 32, 33, 34, 35, 36, 39, 40, 41, 42, 43, 44, 45, 46, 47, 37, 38])] 200 Tryz.func15 (b := (Tryz.f15.body).getD .skip) (by kernel_rfl) [.cv (.agg [.sv 0, .qsl 0 0 2 (.var 0) (.var 1), .qsl 1 1 2 (.var 2) (.var 3), .qsl 2 2 4 (.var 4) (.var 5), .int .i64 (.var 6), .int .i64 (.var 7), .int .i64 (.var 8), .int .i64 (.var 9)])] ⟨10, 3, 0, 3, 0, 1, 0⟩ (Vc.envOf [x0, x1, x2, x3, x4, x5, x6, x7, x8, x9] [b0, b1, b2] [] [p0, p1, p2] [s0]) (by kernel_rfl) (by kernel_rfl) (by kernel_rfl) h

theorem vc_ullagelaw09_rect (x0 x1 x2 x3 : Int) (w : World) (v : Value) (h : 
  (.agg #[.int .i64 x0, .int .i64 x1, .int .i64 x2, .int .i64 x3] : Value) = v) : Calls Tryz.prog 18 #[.int .i64 x0, .int .i64 x1, .int .i64 x2, .int .i64 x3] w (Vc.Ret v w) :=
  Vc.pure_of base [] 200 Tryz.func18 (b := (Tryz.f18.body).getD .skip) (by kernel_rfl) [.cv (.one (.int .i64 (.var 0))), .cv (.one (.int .i64 (.var 1))), .cv (.one (.int .i64 (.var 2))), .cv (.one (.int .i64 (.var 3)))] ⟨4, 0, 0, 0, 0, 0, 0⟩ (Vc.envOf [x0, x1, x2, x3] [] [] []) (by kernel_rfl) (by kernel_rfl) (by kernel_rfl) h

theorem vc___safety_Unit__Tick (p0 : Nat × Nat) (x0 x1 x2 x3 x4 x5 x6 x7 x8 x9 x10 x11 x12 : Int) (b0 b1 b2 b3 b4 : Bool) (s0 : List UInt8) (xl : Nat) (w : World) (v : Value) (new : Array Value) (hx : w.heap[xl]? = some (.cells #[.string ⟨s0.toArray⟩, (if b0 = true then .slice none 0 0 else .slice (some (Vc.qad p0 (Int.toNat x0) (Int.toNat x1))) (Int.toNat x0) (Int.toNat x1) : Value), .int .i64 x2, .int .i64 x3, .bool b1, .bool b2, .bool b3, .int .i64 x4, .int .i64 x5, .int .i64 x6, .int .i64 x7, .int .i64 x8] 76)) (h : 
  ((b1 = true) → (
  ((b2 = true) → (
  (.agg #[.tuple #[.agg #[.bool false, .int .i64 0, .bool false, .int .i64 0, .int .i64 0, .int .i64 0, .int .i64 0], .int .i64 9], .agg #[.string ⟨s0.toArray⟩, (if b0 = true then .slice none 0 0 else .slice (some (Vc.qad p0 (Int.toNat x0) (Int.toNat x1))) (Int.toNat x0) (Int.toNat x1) : Value), .int .i64 x2, .int .i64 x3, .bool b1, .bool b2, .bool b3, .int .i64 x4, .int .i64 x5, .int .i64 x6, .int .i64 x7, .int .i64 x8]] : Value) = .agg #[v, .agg new])) ∧ (¬ (b2 = true) → (
  ((b4 = true) → (
  ∃ (b5 : Bool), (∀ w' : World, Vc.BelX xl w w' → Calls Tryz.prog 34 #[.agg #[.int .i64 x9, .int .i64 x10, .int .i64 x11, .int .i64 x12]] w' (Vc.Ret (.bool b5) w')) ∧
  ((b5 = true) → (
  ((b4 = true) → (
  ∃ (x13 : Int), (∀ w' : World, Vc.BelX xl w w' → Calls Tryz.prog 35 #[.agg #[.string ⟨s0.toArray⟩, (if b0 = true then .slice none 0 0 else .slice (some (Vc.qad p0 (Int.toNat x0) (Int.toNat x1))) (Int.toNat x0) (Int.toNat x1) : Value)], .agg #[.int .i64 x9, .int .i64 x10, .int .i64 x11, .int .i64 x12]] w' (Vc.Ret (.int .i64 x13) w')) ∧
  ((x13 = 1) → (
  (.agg #[.tuple #[.agg #[.bool false, .int .i64 0, .bool true, .int .i64 x9, .int .i64 x10, .int .i64 x11, .int .i64 x12], .int .i64 0], .agg #[.string ⟨s0.toArray⟩, (if b0 = true then .slice none 0 0 else .slice (some (Vc.qad p0 (Int.toNat x0) (Int.toNat x1))) (Int.toNat x0) (Int.toNat x1) : Value), .int .i64 x2, .int .i64 x3, .bool b1, .bool false, .bool true, .int .i64 x9, .int .i64 x10, .int .i64 x11, .int .i64 x12, .int .i64 0]] : Value) = .agg #[v, .agg new])) ∧ (¬ (x13 = 1) → (
  ((x13 = 0) → (
  ∀ x14 : Int, x14 = IntKind.i64.wrap (x8 + 1) →
  ((x3 < x14) → (
  (.agg #[.tuple #[.agg #[.bool true, .int .i64 2, .bool true, .int .i64 x9, .int .i64 x10, .int .i64 x11, .int .i64 x12], .int .i64 0], .agg #[.string ⟨s0.toArray⟩, (if b0 = true then .slice none 0 0 else .slice (some (Vc.qad p0 (Int.toNat x0) (Int.toNat x1))) (Int.toNat x0) (Int.toNat x1) : Value), .int .i64 x2, .int .i64 x3, .bool b1, .bool true, .bool true, .int .i64 x9, .int .i64 x10, .int .i64 x11, .int .i64 x12, .int .i64 x14]] : Value) = .agg #[v, .agg new])) ∧ (¬ (x3 < x14) → (
  (.agg #[.tuple #[.agg #[.bool false, .int .i64 0, .bool true, .int .i64 x9, .int .i64 x10, .int .i64 x11, .int .i64 x12], .int .i64 0], .agg #[.string ⟨s0.toArray⟩, (if b0 = true then .slice none 0 0 else .slice (some (Vc.qad p0 (Int.toNat x0) (Int.toNat x1))) (Int.toNat x0) (Int.toNat x1) : Value), .int .i64 x2, .int .i64 x3, .bool b1, .bool false, .bool true, .int .i64 x9, .int .i64 x10, .int .i64 x11, .int .i64 x12, .int .i64 x14]] : Value) = .agg #[v, .agg new])))) ∧ (¬ (x13 = 0) → (
  (.agg #[.tuple #[.agg #[.bool true, .int .i64 1, .bool true, .int .i64 x9, .int .i64 x10, .int .i64 x11, .int .i64 x12], .int .i64 0], .agg #[.string ⟨s0.toArray⟩, (if b0 = true then .slice none 0 0 else .slice (some (Vc.qad p0 (Int.toNat x0) (Int.toNat x1))) (Int.toNat x0) (Int.toNat x1) : Value), .int .i64 x2, .int .i64 x3, .bool b1, .bool true, .bool true, .int .i64 x9, .int .i64 x10, .int .i64 x11, .int .i64 x12, .int .i64 x8]] : Value) = .agg #[v, .agg new])))))) ∧ (¬ (b4 = true) → (
  ((b3 = true) → (
  ∃ (x13 : Int), ∃ (x14 : Int), ∃ (x15 : Int), ∃ (x16 : Int), (∀ w' : World, Vc.BelX xl w w' → Calls Tryz.prog 53 #[.agg #[.int .i64 x4, .int .i64 x5, .int .i64 x6, .int .i64 x7], .int .i64 x2] w' (Vc.Ret (.agg #[.int .i64 x13, .int .i64 x14, .int .i64 x15, .int .i64 x16]) w')) ∧
  ∃ (x17 : Int), ∃ (x18 : Int), (∀ w' : World, Vc.BelX xl w w' → Calls Tryz.prog 68 #[.agg #[.int .i64 x13, .int .i64 x14]] w' (Vc.Ret (.agg #[.int .i64 x17, .int .i64 x18]) w')) ∧
  ∃ (x19 : Int), ∃ (x20 : Int), (∀ w' : World, Vc.BelX xl w w' → Calls Tryz.prog 68 #[.agg #[.int .i64 x15, .int .i64 x16]] w' (Vc.Ret (.agg #[.int .i64 x19, .int .i64 x20]) w')) ∧
  ((b3 = true) → (
  ∃ (x21 : Int), (∀ w' : World, Vc.BelX xl w w' → Calls Tryz.prog 35 #[.agg #[.string ⟨s0.toArray⟩, (if b0 = true then .slice none 0 0 else .slice (some (Vc.qad p0 (Int.toNat x0) (Int.toNat x1))) (Int.toNat x0) (Int.toNat x1) : Value)], .agg #[.int .i64 x17, .int .i64 x18, .int .i64 x19, .int .i64 x20]] w' (Vc.Ret (.int .i64 x21) w')) ∧
  ((x21 = 1) → (
  (.agg #[.tuple #[.agg #[.bool false, .int .i64 0, .bool b3, .int .i64 x17, .int .i64 x18, .int .i64 x19, .int .i64 x20], .int .i64 0], .agg #[.string ⟨s0.toArray⟩, (if b0 = true then .slice none 0 0 else .slice (some (Vc.qad p0 (Int.toNat x0) (Int.toNat x1))) (Int.toNat x0) (Int.toNat x1) : Value), .int .i64 x2, .int .i64 x3, .bool b1, .bool false, .bool b3, .int .i64 x17, .int .i64 x18, .int .i64 x19, .int .i64 x20, .int .i64 0]] : Value) = .agg #[v, .agg new])) ∧ (¬ (x21 = 1) → (
  ((x21 = 0) → (
  ∀ x22 : Int, x22 = IntKind.i64.wrap (x8 + 1) →
  ((x3 < x22) → (
  (.agg #[.tuple #[.agg #[.bool true, .int .i64 2, .bool b3, .int .i64 x17, .int .i64 x18, .int .i64 x19, .int .i64 x20], .int .i64 0], .agg #[.string ⟨s0.toArray⟩, (if b0 = true then .slice none 0 0 else .slice (some (Vc.qad p0 (Int.toNat x0) (Int.toNat x1))) (Int.toNat x0) (Int.toNat x1) : Value), .int .i64 x2, .int .i64 x3, .bool b1, .bool true, .bool b3, .int .i64 x17, .int .i64 x18, .int .i64 x19, .int .i64 x20, .int .i64 x22]] : Value) = .agg #[v, .agg new])) ∧ (¬ (x3 < x22) → (
  (.agg #[.tuple #[.agg #[.bool false, .int .i64 0, .bool b3, .int .i64 x17, .int .i64 x18, .int .i64 x19, .int .i64 x20], .int .i64 0], .agg #[.string ⟨s0.toArray⟩, (if b0 = true then .slice none 0 0 else .slice (some (Vc.qad p0 (Int.toNat x0) (Int.toNat x1))) (Int.toNat x0) (Int.toNat x1) : Value), .int .i64 x2, .int .i64 x3, .bool b1, .bool false, .bool b3, .int .i64 x17, .int .i64 x18, .int .i64 x19, .int .i64 x20, .int .i64 x22]] : Value) = .agg #[v, .agg new])))) ∧ (¬ (x21 = 0) → (
  (.agg #[.tuple #[.agg #[.bool true, .int .i64 1, .bool b3, .int .i64 x17, .int .i64 x18, .int .i64 x19, .int .i64 x20], .int .i64 0], .agg #[.string ⟨s0.toArray⟩, (if b0 = true then .slice none 0 0 else .slice (some (Vc.qad p0 (Int.toNat x0) (Int.toNat x1))) (Int.toNat x0) (Int.toNat x1) : Value), .int .i64 x2, .int .i64 x3, .bool b1, .bool true, .bool b3, .int .i64 x17, .int .i64 x18, .int .i64 x19, .int .i64 x20, .int .i64 x8]] : Value) = .agg #[v, .agg new])))))) ∧ (¬ (b3 = true) → (
  ∀ x21 : Int, x21 = IntKind.i64.wrap (x8 + 1) →
  ((x3 < x21) → (
  (.agg #[.tuple #[.agg #[.bool true, .int .i64 2, .bool b3, .int .i64 x17, .int .i64 x18, .int .i64 x19, .int .i64 x20], .int .i64 0], .agg #[.string ⟨s0.toArray⟩, (if b0 = true then .slice none 0 0 else .slice (some (Vc.qad p0 (Int.toNat x0) (Int.toNat x1))) (Int.toNat x0) (Int.toNat x1) : Value), .int .i64 x2, .int .i64 x3, .bool b1, .bool true, .bool b3, .int .i64 x17, .int .i64 x18, .int .i64 x19, .int .i64 x20, .int .i64 x21]] : Value) = .agg #[v, .agg new])) ∧ (¬ (x3 < x21) → (
  (.agg #[.tuple #[.agg #[.bool false, .int .i64 0, .bool b3, .int .i64 x17, .int .i64 x18, .int .i64 x19, .int .i64 x20], .int .i64 0], .agg #[.string ⟨s0.toArray⟩, (if b0 = true then .slice none 0 0 else .slice (some (Vc.qad p0 (Int.toNat x0) (Int.toNat x1))) (Int.toNat x0) (Int.toNat x1) : Value), .int .i64 x2, .int .i64 x3, .bool b1, .bool false, .bool b3, .int .i64 x17, .int .i64 x18, .int .i64 x19, .int .i64 x20, .int .i64 x21]] : Value) = .agg #[v, .agg new])))))) ∧ (¬ (b3 = true) → (
  ((b3 = true) → (
  ∃ (x13 : Int), (∀ w' : World, Vc.BelX xl w w' → Calls Tryz.prog 35 #[.agg #[.string ⟨s0.toArray⟩, (if b0 = true then .slice none 0 0 else .slice (some (Vc.qad p0 (Int.toNat x0) (Int.toNat x1))) (Int.toNat x0) (Int.toNat x1) : Value)], .agg #[.int .i64 x4, .int .i64 x5, .int .i64 x6, .int .i64 x7]] w' (Vc.Ret (.int .i64 x13) w')) ∧
  ((x13 = 1) → (
  (.agg #[.tuple #[.agg #[.bool false, .int .i64 0, .bool b3, .int .i64 x4, .int .i64 x5, .int .i64 x6, .int .i64 x7], .int .i64 0], .agg #[.string ⟨s0.toArray⟩, (if b0 = true then .slice none 0 0 else .slice (some (Vc.qad p0 (Int.toNat x0) (Int.toNat x1))) (Int.toNat x0) (Int.toNat x1) : Value), .int .i64 x2, .int .i64 x3, .bool b1, .bool false, .bool b3, .int .i64 x4, .int .i64 x5, .int .i64 x6, .int .i64 x7, .int .i64 0]] : Value) = .agg #[v, .agg new])) ∧ (¬ (x13 = 1) → (
  ((x13 = 0) → (
  ∀ x14 : Int, x14 = IntKind.i64.wrap (x8 + 1) →
  ((x3 < x14) → (
  (.agg #[.tuple #[.agg #[.bool true, .int .i64 2, .bool b3, .int .i64 x4, .int .i64 x5, .int .i64 x6, .int .i64 x7], .int .i64 0], .agg #[.string ⟨s0.toArray⟩, (if b0 = true then .slice none 0 0 else .slice (some (Vc.qad p0 (Int.toNat x0) (Int.toNat x1))) (Int.toNat x0) (Int.toNat x1) : Value), .int .i64 x2, .int .i64 x3, .bool b1, .bool true, .bool b3, .int .i64 x4, .int .i64 x5, .int .i64 x6, .int .i64 x7, .int .i64 x14]] : Value) = .agg #[v, .agg new])) ∧ (¬ (x3 < x14) → (
  (.agg #[.tuple #[.agg #[.bool false, .int .i64 0, .bool b3, .int .i64 x4, .int .i64 x5, .int .i64 x6, .int .i64 x7], .int .i64 0], .agg #[.string ⟨s0.toArray⟩, (if b0 = true then .slice none 0 0 else .slice (some (Vc.qad p0 (Int.toNat x0) (Int.toNat x1))) (Int.toNat x0) (Int.toNat x1) : Value), .int .i64 x2, .int .i64 x3, .bool b1, .bool false, .bool b3, .int .i64 x4, .int .i64 x5, .int .i64 x6, .int .i64 x7, .int .i64 x14]] : Value) = .agg #[v, .agg new])))) ∧ (¬ (x13 = 0) → (
  (.agg #[.tuple #[.agg #[.bool true, .int .i64 1, .bool b3, .int .i64 x4, .int .i64 x5, .int .i64 x6, .int .i64 x7], .int .i64 0], .agg #[.string ⟨s0.toArray⟩, (if b0 = true then .slice none 0 0 else .slice (some (Vc.qad p0 (Int.toNat x0) (Int.toNat x1))) (Int.toNat x0) (Int.toNat x1) : Value), .int .i64 x2, .int .i64 x3, .bool b1, .bool true, .bool b3, .int .i64 x4, .int .i64 x5, .int .i64 x6, .int .i64 x7, .int .i64 x8]] : Value) = .agg #[v, .agg new])))))) ∧ (¬ (b3 = true) → (
  ∀ x13 : Int, x13 = IntKind.i64.wrap (x8 + 1) →
  ((x3 < x13) → (
  (.agg #[.tuple #[.agg #[.bool true, .int .i64 2, .bool b3, .int .i64 x4, .int .i64 x5, .int .i64 x6, .int .i64 x7], .int .i64 0], .agg #[.string ⟨s0.toArray⟩, (if b0 = true then .slice none 0 0 else .slice (some (Vc.qad p0 (Int.toNat x0) (Int.toNat x1))) (Int.toNat x0) (Int.toNat x1) : Value), .int .i64 x2, .int .i64 x3, .bool b1, .bool true, .bool b3, .int .i64 x4, .int .i64 x5, .int .i64 x6, .int .i64 x7, .int .i64 x13]] : Value) = .agg #[v, .agg new])) ∧ (¬ (x3 < x13) → (
  (.agg #[.tuple #[.agg #[.bool false, .int .i64 0, .bool b3, .int .i64 x4, .int .i64 x5, .int .i64 x6, .int .i64 x7], .int .i64 0], .agg #[.string ⟨s0.toArray⟩, (if b0 = true then .slice none 0 0 else .slice (some (Vc.qad p0 (Int.toNat x0) (Int.toNat x1))) (Int.toNat x0) (Int.toNat x1) : Value), .int .i64 x2, .int .i64 x3, .bool b1, .bool false, .bool b3, .int .i64 x4, .int .i64 x5, .int .i64 x6, .int .i64 x7, .int .i64 x13]] : Value) = .agg #[v, .agg new])))))))))) ∧ (¬ (b5 = true) → (
  (.agg #[.tuple #[.agg #[.bool false, .int .i64 0, .bool false, .int .i64 0, .int .i64 0, .int .i64 0, .int .i64 0], .int .i64 2], .agg #[.string ⟨s0.toArray⟩, (if b0 = true then .slice none 0 0 else .slice (some (Vc.qad p0 (Int.toNat x0) (Int.toNat x1))) (Int.toNat x0) (Int.toNat x1) : Value), .int .i64 x2, .int .i64 x3, .bool b1, .bool b2, .bool b3, .int .i64 x4, .int .i64 x5, .int .i64 x6, .int .i64 x7, .int .i64 x8]] : Value) = .agg #[v, .agg new])))) ∧ (¬ (b4 = true) → (
  ((b4 = true) → (
  ∃ (x13 : Int), (∀ w' : World, Vc.BelX xl w w' → Calls Tryz.prog 35 #[.agg #[.string ⟨s0.toArray⟩, (if b0 = true then .slice none 0 0 else .slice (some (Vc.qad p0 (Int.toNat x0) (Int.toNat x1))) (Int.toNat x0) (Int.toNat x1) : Value)], .agg #[.int .i64 x9, .int .i64 x10, .int .i64 x11, .int .i64 x12]] w' (Vc.Ret (.int .i64 x13) w')) ∧
  ((x13 = 1) → (
  (.agg #[.tuple #[.agg #[.bool false, .int .i64 0, .bool true, .int .i64 x9, .int .i64 x10, .int .i64 x11, .int .i64 x12], .int .i64 0], .agg #[.string ⟨s0.toArray⟩, (if b0 = true then .slice none 0 0 else .slice (some (Vc.qad p0 (Int.toNat x0) (Int.toNat x1))) (Int.toNat x0) (Int.toNat x1) : Value), .int .i64 x2, .int .i64 x3, .bool b1, .bool false, .bool true, .int .i64 x9, .int .i64 x10, .int .i64 x11, .int .i64 x12, .int .i64 0]] : Value) = .agg #[v, .agg new])) ∧ (¬ (x13 = 1) → (
  ((x13 = 0) → (
  ∀ x14 : Int, x14 = IntKind.i64.wrap (x8 + 1) →
  ((x3 < x14) → (
  (.agg #[.tuple #[.agg #[.bool true, .int .i64 2, .bool true, .int .i64 x9, .int .i64 x10, .int .i64 x11, .int .i64 x12], .int .i64 0], .agg #[.string ⟨s0.toArray⟩, (if b0 = true then .slice none 0 0 else .slice (some (Vc.qad p0 (Int.toNat x0) (Int.toNat x1))) (Int.toNat x0) (Int.toNat x1) : Value), .int .i64 x2, .int .i64 x3, .bool b1, .bool true, .bool true, .int .i64 x9, .int .i64 x10, .int .i64 x11, .int .i64 x12, .int .i64 x14]] : Value) = .agg #[v, .agg new])) ∧ (¬ (x3 < x14) → (
  (.agg #[.tuple #[.agg #[.bool false, .int .i64 0, .bool true, .int .i64 x9, .int .i64 x10, .int .i64 x11, .int .i64 x12], .int .i64 0], .agg #[.string ⟨s0.toArray⟩, (if b0 = true then .slice none 0 0 else .slice (some (Vc.qad p0 (Int.toNat x0) (Int.toNat x1))) (Int.toNat x0) (Int.toNat x1) : Value), .int .i64 x2, .int .i64 x3, .bool b1, .bool false, .bool true, .int .i64 x9, .int .i64 x10, .int .i64 x11, .int .i64 x12, .int .i64 x14]] : Value) = .agg #[v, .agg new])))) ∧ (¬ (x13 = 0) → (
  (.agg #[.tuple #[.agg #[.bool true, .int .i64 1, .bool true, .int .i64 x9, .int .i64 x10, .int .i64 x11, .int .i64 x12], .int .i64 0], .agg #[.string ⟨s0.toArray⟩, (if b0 = true then .slice none 0 0 else .slice (some (Vc.qad p0 (Int.toNat x0) (Int.toNat x1))) (Int.toNat x0) (Int.toNat x1) : Value), .int .i64 x2, .int .i64 x3, .bool b1, .bool true, .bool true, .int .i64 x9, .int .i64 x10, .int .i64 x11, .int .i64 x12, .int .i64 x8]] : Value) = .agg #[v, .agg new])))))) ∧ (¬ (b4 = true) → (
  ((b3 = true) → (
  ∃ (x13 : Int), ∃ (x14 : Int), ∃ (x15 : Int), ∃ (x16 : Int), (∀ w' : World, Vc.BelX xl w w' → Calls Tryz.prog 53 #[.agg #[.int .i64 x4, .int .i64 x5, .int .i64 x6, .int .i64 x7], .int .i64 x2] w' (Vc.Ret (.agg #[.int .i64 x13, .int .i64 x14, .int .i64 x15, .int .i64 x16]) w')) ∧
  ∃ (x17 : Int), ∃ (x18 : Int), (∀ w' : World, Vc.BelX xl w w' → Calls Tryz.prog 68 #[.agg #[.int .i64 x13, .int .i64 x14]] w' (Vc.Ret (.agg #[.int .i64 x17, .int .i64 x18]) w')) ∧
  ∃ (x19 : Int), ∃ (x20 : Int), (∀ w' : World, Vc.BelX xl w w' → Calls Tryz.prog 68 #[.agg #[.int .i64 x15, .int .i64 x16]] w' (Vc.Ret (.agg #[.int .i64 x19, .int .i64 x20]) w')) ∧
  ((b3 = true) → (
  ∃ (x21 : Int), (∀ w' : World, Vc.BelX xl w w' → Calls Tryz.prog 35 #[.agg #[.string ⟨s0.toArray⟩, (if b0 = true then .slice none 0 0 else .slice (some (Vc.qad p0 (Int.toNat x0) (Int.toNat x1))) (Int.toNat x0) (Int.toNat x1) : Value)], .agg #[.int .i64 x17, .int .i64 x18, .int .i64 x19, .int .i64 x20]] w' (Vc.Ret (.int .i64 x21) w')) ∧
  ((x21 = 1) → (
  (.agg #[.tuple #[.agg #[.bool false, .int .i64 0, .bool b3, .int .i64 x17, .int .i64 x18, .int .i64 x19, .int .i64 x20], .int .i64 0], .agg #[.string ⟨s0.toArray⟩, (if b0 = true then .slice none 0 0 else .slice (some (Vc.qad p0 (Int.toNat x0) (Int.toNat x1))) (Int.toNat x0) (Int.toNat x1) : Value), .int .i64 x2, .int .i64 x3, .bool b1, .bool false, .bool b3, .int .i64 x17, .int .i64 x18, .int .i64 x19, .int .i64 x20, .int .i64 0]] : Value) = .agg #[v, .agg new])) ∧ (¬ (x21 = 1) → (
  ((x21 = 0) → (
  ∀ x22 : Int, x22 = IntKind.i64.wrap (x8 + 1) →
  ((x3 < x22) → (
  (.agg #[.tuple #[.agg #[.bool true, .int .i64 2, .bool b3, .int .i64 x17, .int .i64 x18, .int .i64 x19, .int .i64 x20], .int .i64 0], .agg #[.string ⟨s0.toArray⟩, (if b0 = true then .slice none 0 0 else .slice (some (Vc.qad p0 (Int.toNat x0) (Int.toNat x1))) (Int.toNat x0) (Int.toNat x1) : Value), .int .i64 x2, .int .i64 x3, .bool b1, .bool true, .bool b3, .int .i64 x17, .int .i64 x18, .int .i64 x19, .int .i64 x20, .int .i64 x22]] : Value) = .agg #[v, .agg new])) ∧ (¬ (x3 < x22) → (
  (.agg #[.tuple #[.agg #[.bool false, .int .i64 0, .bool b3, .int .i64 x17, .int .i64 x18, .int .i64 x19, .int .i64 x20], .int .i64 0], .agg #[.string ⟨s0.toArray⟩, (if b0 = true then .slice none 0 0 else .slice (some (Vc.qad p0 (Int.toNat x0) (Int.toNat x1))) (Int.toNat x0) (Int.toNat x1) : Value), .int .i64 x2, .int .i64 x3, .bool b1, .bool false, .bool b3, .int .i64 x17, .int .i64 x18, .int .i64 x19, .int .i64 x20, .int .i64 x22]] : Value) = .agg #[v, .agg new])))) ∧ (¬ (x21 = 0) → (
  (.agg #[.tuple #[.agg #[.bool true, .int .i64 1, .bool b3, .int .i64 x17, .int .i64 x18, .int .i64 x19, .int .i64 x20], .int .i64 0], .agg #[.string ⟨s0.toArray⟩, (if b0 = true then .slice none 0 0 else .slice (some (Vc.qad p0 (Int.toNat x0) (Int.toNat x1))) (Int.toNat x0) (Int.toNat x1) : Value), .int .i64 x2, .int .i64 x3, .bool b1, .bool true, .bool b3, .int .i64 x17, .int .i64 x18, .int .i64 x19, .int .i64 x20, .int .i64 x8]] : Value) = .agg #[v, .agg new])))))) ∧ (¬ (b3 = true) → (
  ∀ x21 : Int, x21 = IntKind.i64.wrap (x8 + 1) →
  ((x3 < x21) → (
  (.agg #[.tuple #[.agg #[.bool true, .int .i64 2, .bool b3, .int .i64 x17, .int .i64 x18, .int .i64 x19, .int .i64 x20], .int .i64 0], .agg #[.string ⟨s0.toArray⟩, (if b0 = true then .slice none 0 0 else .slice (some (Vc.qad p0 (Int.toNat x0) (Int.toNat x1))) (Int.toNat x0) (Int.toNat x1) : Value), .int .i64 x2, .int .i64 x3, .bool b1, .bool true, .bool b3, .int .i64 x17, .int .i64 x18, .int .i64 x19, .int .i64 x20, .int .i64 x21]] : Value) = .agg #[v, .agg new])) ∧ (¬ (x3 < x21) → (
  (.agg #[.tuple #[.agg #[.bool false, .int .i64 0, .bool b3, .int .i64 x17, .int .i64 x18, .int .i64 x19, .int .i64 x20], .int .i64 0], .agg #[.string ⟨s0.toArray⟩, (if b0 = true then .slice none 0 0 else .slice (some (Vc.qad p0 (Int.toNat x0) (Int.toNat x1))) (Int.toNat x0) (Int.toNat x1) : Value), .int .i64 x2, .int .i64 x3, .bool b1, .bool false, .bool b3, .int .i64 x17, .int .i64 x18, .int .i64 x19, .int .i64 x20, .int .i64 x21]] : Value) = .agg #[v, .agg new])))))) ∧ (¬ (b3 = true) → (
  ((b3 = true) → (
  ∃ (x13 : Int), (∀ w' : World, Vc.BelX xl w w' → Calls Tryz.prog 35 #[.agg #[.string ⟨s0.toArray⟩, (if b0 = true then .slice none 0 0 else .slice (some (Vc.qad p0 (Int.toNat x0) (Int.toNat x1))) (Int.toNat x0) (Int.toNat x1) : Value)], .agg #[.int .i64 x4, .int .i64 x5, .int .i64 x6, .int .i64 x7]] w' (Vc.Ret (.int .i64 x13) w')) ∧
  ((x13 = 1) → (
  (.agg #[.tuple #[.agg #[.bool false, .int .i64 0, .bool b3, .int .i64 x4, .int .i64 x5, .int .i64 x6, .int .i64 x7], .int .i64 0], .agg #[.string ⟨s0.toArray⟩, (if b0 = true then .slice none 0 0 else .slice (some (Vc.qad p0 (Int.toNat x0) (Int.toNat x1))) (Int.toNat x0) (Int.toNat x1) : Value), .int .i64 x2, .int .i64 x3, .bool b1, .bool false, .bool b3, .int .i64 x4, .int .i64 x5, .int .i64 x6, .int .i64 x7, .int .i64 0]] : Value) = .agg #[v, .agg new])) ∧ (¬ (x13 = 1) → (
  ((x13 = 0) → (
  ∀ x14 : Int, x14 = IntKind.i64.wrap (x8 + 1) →
  ((x3 < x14) → (
  (.agg #[.tuple #[.agg #[.bool true, .int .i64 2, .bool b3, .int .i64 x4, .int .i64 x5, .int .i64 x6, .int .i64 x7], .int .i64 0], .agg #[.string ⟨s0.toArray⟩, (if b0 = true then .slice none 0 0 else .slice (some (Vc.qad p0 (Int.toNat x0) (Int.toNat x1))) (Int.toNat x0) (Int.toNat x1) : Value), .int .i64 x2, .int .i64 x3, .bool b1, .bool true, .bool b3, .int .i64 x4, .int .i64 x5, .int .i64 x6, .int .i64 x7, .int .i64 x14]] : Value) = .agg #[v, .agg new])) ∧ (¬ (x3 < x14) → (
  (.agg #[.tuple #[.agg #[.bool false, .int .i64 0, .bool b3, .int .i64 x4, .int .i64 x5, .int .i64 x6, .int .i64 x7], .int .i64 0], .agg #[.string ⟨s0.toArray⟩, (if b0 = true then .slice none 0 0 else .slice (some (Vc.qad p0 (Int.toNat x0) (Int.toNat x1))) (Int.toNat x0) (Int.toNat x1) : Value), .int .i64 x2, .int .i64 x3, .bool b1, .bool false, .bool b3, .int .i64 x4, .int .i64 x5, .int .i64 x6, .int .i64 x7, .int .i64 x14]] : Value) = .agg #[v, .agg new])))) ∧ (¬ (x13 = 0) → (
  (.agg #[.tuple #[.agg #[.bool true, .int .i64 1, .bool b3, .int .i64 x4, .int .i64 x5, .int .i64 x6, .int .i64 x7], .int .i64 0], .agg #[.string ⟨s0.toArray⟩, (if b0 = true then .slice none 0 0 else .slice (some (Vc.qad p0 (Int.toNat x0) (Int.toNat x1))) (Int.toNat x0) (Int.toNat x1) : Value), .int .i64 x2, .int .i64 x3, .bool b1, .bool true, .bool b3, .int .i64 x4, .int .i64 x5, .int .i64 x6, .int .i64 x7, .int .i64 x8]] : Value) = .agg #[v, .agg new])))))) ∧ (¬ (b3 = true) → (
  ∀ x13 : Int, x13 = IntKind.i64.wrap (x8 + 1) →
  ((x3 < x13) → (
  (.agg #[.tuple #[.agg #[.bool true, .int .i64 2, .bool b3, .int .i64 x4, .int .i64 x5, .int .i64 x6, .int .i64 x7], .int .i64 0], .agg #[.string ⟨s0.toArray⟩, (if b0 = true then .slice none 0 0 else .slice (some (Vc.qad p0 (Int.toNat x0) (Int.toNat x1))) (Int.toNat x0) (Int.toNat x1) : Value), .int .i64 x2, .int .i64 x3, .bool b1, .bool true, .bool b3, .int .i64 x4, .int .i64 x5, .int .i64 x6, .int .i64 x7, .int .i64 x13]] : Value) = .agg #[v, .agg new])) ∧ (¬ (x3 < x13) → (
  (.agg #[.tuple #[.agg #[.bool false, .int .i64 0, .bool b3, .int .i64 x4, .int .i64 x5, .int .i64 x6, .int .i64 x7], .int .i64 0], .agg #[.string ⟨s0.toArray⟩, (if b0 = true then .slice none 0 0 else .slice (some (Vc.qad p0 (Int.toNat x0) (Int.toNat x1))) (Int.toNat x0) (Int.toNat x1) : Value), .int .i64 x2, .int .i64 x3, .bool b1, .bool false, .bool b3, .int .i64 x4, .int .i64 x5, .int .i64 x6, .int .i64 x7, .int .i64 x13]] : Value) = .agg #[v, .agg new])))))))))))))) ∧ (¬ (b1 = true) → (
  (.agg #[.tuple #[.agg #[.bool false, .int .i64 0, .bool false, .int .i64 0, .int .i64 0, .int .i64 0, .int .i64 0], .int .i64 1], .agg #[.string ⟨s0.toArray⟩, (if b0 = true then .slice none 0 0 else .slice (some (Vc.qad p0 (Int.toNat x0) (Int.toNat x1))) (Int.toNat x0) (Int.toNat x1) : Value), .int .i64 x2, .int .i64 x3, .bool b1, .bool b2, .bool b3, .int .i64 x4, .int .i64 x5, .int .i64 x6, .int .i64 x7, .int .i64 x8]] : Value) = .agg #[v, .agg new]))) : Calls Tryz.prog 27 #[Vc.ptr xl 0, .agg #[.int .i64 x9, .int .i64 x10, .int .i64 x11, .int .i64 x12], .bool b4] w (Vc.Eff v xl new 76 w) :=
  Vc.eff_of (base_inl [67] (by kernel_rfl)) [] 200 Tryz.func27 (b := (Tryz.f27.body).getD .skip) (by kernel_rfl) [.cv (.one (.loc 0 0)), .cv (.agg [.int .i64 (.var 9), .int .i64 (.var 10), .int .i64 (.var 11), .int .i64 (.var 12)]), .cv (.one (.bool (.var 4)))] [.sv 0, .qsl 0 0 2 (.var 0) (.var 1), .int .i64 (.var 2), .int .i64 (.var 3), .bool (.var 1), .bool (.var 2), .bool (.var 3), .int .i64 (.var 4), .int .i64 (.var 5), .int .i64 (.var 6), .int .i64 (.var 7), .int .i64 (.var 8)] 76 ⟨13, 5, 0, 1, 1, 1, 0⟩ (Vc.envOf [x0, x1, x2, x3, x4, x5, x6, x7, x8, x9, x10, x11, x12] [b0, b1, b2, b3, b4] [] [p0] [s0]) (by kernel_rfl) (by kernel_rfl) (by kernel_rfl) (by kernel_rfl) (by decide) (by kernel_rfl) hx h

theorem vc___safety_Unit__Safe (p0 : Nat × Nat) (x0 x1 x2 x3 x4 x5 x6 x7 x8 : Int) (b0 b1 b2 b3 : Bool) (s0 : List UInt8) (xl : Nat) (w : World) (v : Value) (new : Array Value) (hx : w.heap[xl]? = some (.cells #[.string ⟨s0.toArray⟩, (if b0 = true then .slice none 0 0 else .slice (some (Vc.qad p0 (Int.toNat x0) (Int.toNat x1))) (Int.toNat x0) (Int.toNat x1) : Value), .int .i64 x2, .int .i64 x3, .bool b1, .bool b2, .bool b3, .int .i64 x4, .int .i64 x5, .int .i64 x6, .int .i64 x7, .int .i64 x8] 76)) (h : 
  ((b1 = true) → (
  ((b2 = true) → (
  (.agg #[.int .i64 9, .agg #[.string ⟨s0.toArray⟩, (if b0 = true then .slice none 0 0 else .slice (some (Vc.qad p0 (Int.toNat x0) (Int.toNat x1))) (Int.toNat x0) (Int.toNat x1) : Value), .int .i64 x2, .int .i64 x3, .bool b1, .bool b2, .bool b3, .int .i64 x4, .int .i64 x5, .int .i64 x6, .int .i64 x7, .int .i64 x8]] : Value) = .agg #[v, .agg new])) ∧ (¬ (b2 = true) → (
  (.agg #[.int .i64 0, .agg #[.string ⟨s0.toArray⟩, (if b0 = true then .slice none 0 0 else .slice (some (Vc.qad p0 (Int.toNat x0) (Int.toNat x1))) (Int.toNat x0) (Int.toNat x1) : Value), .int .i64 x2, .int .i64 x3, .bool b1, .bool true, .bool b3, .int .i64 x4, .int .i64 x5, .int .i64 x6, .int .i64 x7, .int .i64 x8]] : Value) = .agg #[v, .agg new])))) ∧ (¬ (b1 = true) → (
  (.agg #[.int .i64 1, .agg #[.string ⟨s0.toArray⟩, (if b0 = true then .slice none 0 0 else .slice (some (Vc.qad p0 (Int.toNat x0) (Int.toNat x1))) (Int.toNat x0) (Int.toNat x1) : Value), .int .i64 x2, .int .i64 x3, .bool b1, .bool b2, .bool b3, .int .i64 x4, .int .i64 x5, .int .i64 x6, .int .i64 x7, .int .i64 x8]] : Value) = .agg #[v, .agg new]))) : Calls Tryz.prog 26 #[Vc.ptr xl 0] w (Vc.Eff v xl new 76 w) :=
  Vc.eff_of (base_inl [67] (by kernel_rfl)) [] 200 Tryz.func26 (b := (Tryz.f26.body).getD .skip) (by kernel_rfl) [.cv (.one (.loc 0 0))] [.sv 0, .qsl 0 0 2 (.var 0) (.var 1), .int .i64 (.var 2), .int .i64 (.var 3), .bool (.var 1), .bool (.var 2), .bool (.var 3), .int .i64 (.var 4), .int .i64 (.var 5), .int .i64 (.var 6), .int .i64 (.var 7), .int .i64 (.var 8)] 76 ⟨9, 4, 0, 1, 1, 1, 0⟩ (Vc.envOf [x0, x1, x2, x3, x4, x5, x6, x7, x8] [b0, b1, b2, b3] [] [p0] [s0]) (by kernel_rfl) (by kernel_rfl) (by kernel_rfl) (by kernel_rfl) (by decide) (by kernel_rfl) hx h

theorem vc_ullagelaw09_awake (w : World) (v : Value) (h : 
  ∃ (x0 : Int), ∃ (x1 : Int), (∀ (β : Nat → Nat) (w' : World), Below w.heap.size w w' → ((w.heap.size ≤ β 1 ∧ w'.heap[β 1]? = some (.cells #[.int .i64 0, .int .i64 0, .int .i64 100, .int .i64 0, .int .i64 100, .int .i64 100, .int .i64 0, .int .i64 100] 26)) ∧ True) → Calls Tryz.prog 11 #[.agg #[.string ⟨(([113] : List UInt8)).toArray⟩, .slice (some ⟨β 1, 0, none⟩) 4 4], .agg #[.int .i64 10, .int .i64 10, .int .i64 90, .int .i64 100]] w' (Vc.Ret (.tuple #[.int .i64 x0, .int .i64 x1]) w')) ∧
  ∃ (x2 : Int), ∃ (x3 : Int), (∀ (β : Nat → Nat) (w' : World), Below w.heap.size w w' → ((w.heap.size ≤ β 4 ∧ w'.heap[β 4]? = some (.cells #[.int .i64 0, .int .i64 0, .int .i64 100, .int .i64 0, .int .i64 100, .int .i64 100, .int .i64 0, .int .i64 100] 26)) ∧ True) → Calls Tryz.prog 11 #[.agg #[.string ⟨(([113] : List UInt8)).toArray⟩, .slice (some ⟨β 4, 0, none⟩) 4 4], .agg #[.int .i64 10, .int .i64 10, .int .i64 90, .int .i64 101]] w' (Vc.Ret (.tuple #[.int .i64 x2, .int .i64 x3]) w')) ∧
  ∃ (x4 : Int), ∃ (x5 : Int), (∀ (β : Nat → Nat) (w' : World), Below w.heap.size w w' → ((w.heap.size ≤ β 6 ∧ w'.heap[β 6]? = some (.cells #[.int .i64 0, .int .i64 0, .int .i64 10, .int .i64 0, .int .i64 0, .int .i64 10] 26)) ∧ True) → Calls Tryz.prog 11 #[.agg #[.string ⟨(([116] : List UInt8)).toArray⟩, .slice (some ⟨β 6, 0, none⟩) 3 3], .agg #[.int .i64 6, .int .i64 6, .int .i64 9, .int .i64 9]] w' (Vc.Ret (.tuple #[.int .i64 x4, .int .i64 x5]) w')) ∧
  ∃ (b0 : Bool), ∃ (x6 : Int), (∀ (β : Nat → Nat) (w' : World), Below w.heap.size w w' → ((w.heap.size ≤ β 9 ∧ w'.heap[β 9]? = some (.cells #[.int .i64 0, .int .i64 0, .int .i64 100, .int .i64 0, .int .i64 100, .int .i64 100, .int .i64 0, .int .i64 100] 26)) ∧ (w.heap.size ≤ β 11 ∧ w'.heap[β 11]? = some (.cells #[.int .i64 0, .int .i64 110, .int .i64 100, .int .i64 110, .int .i64 100, .int .i64 210, .int .i64 0, .int .i64 210] 26)) ∧ True) → Calls Tryz.prog 19 #[.agg #[.string ⟨(([113] : List UInt8)).toArray⟩, .slice (some ⟨β 9, 0, none⟩) 4 4], .agg #[.string ⟨(([113] : List UInt8)).toArray⟩, .slice (some ⟨β 11, 0, none⟩) 4 4], .int .i64 9] w' (Vc.Ret (.tuple #[.bool b0, .int .i64 x6]) w')) ∧
  ∃ (b1 : Bool), ∃ (x7 : Int), (∀ (β : Nat → Nat) (w' : World), Below w.heap.size w w' → ((w.heap.size ≤ β 13 ∧ w'.heap[β 13]? = some (.cells #[.int .i64 0, .int .i64 0, .int .i64 100, .int .i64 0, .int .i64 100, .int .i64 100, .int .i64 0, .int .i64 100] 26)) ∧ (w.heap.size ≤ β 15 ∧ w'.heap[β 15]? = some (.cells #[.int .i64 0, .int .i64 110, .int .i64 100, .int .i64 110, .int .i64 100, .int .i64 210, .int .i64 0, .int .i64 210] 26)) ∧ True) → Calls Tryz.prog 19 #[.agg #[.string ⟨(([113] : List UInt8)).toArray⟩, .slice (some ⟨β 13, 0, none⟩) 4 4], .agg #[.string ⟨(([113] : List UInt8)).toArray⟩, .slice (some ⟨β 15, 0, none⟩) 4 4], .int .i64 10] w' (Vc.Ret (.tuple #[.bool b1, .int .i64 x7]) w')) ∧
  ∃ (x8 : Int), ∃ (x9 : Int), ∃ (x10 : Int), ∃ (x11 : Int), ∃ (x12 : Int), (∀ w' : World, Below w.heap.size w w' → Calls Tryz.prog 13 #[.agg #[.int .i64 4294967296, .int .i64 4294967296, .int .i64 0, .int .i64 0, .int .i64 0, .int .i64 0, .int .i64 4294967296, .int .i64 4294967296, .int .i64 0, .int .i64 0, .int .i64 21474836480, .int .i64 21474836480, .int .i64 42949672960, .int .i64 42949672960, .int .i64 0, .int .i64 0, .int .i64 0, .int .i64 0]] w' (Vc.Ret (.tuple #[.agg #[.int .i64 x8, .int .i64 x9, .int .i64 x10, .int .i64 x11], .int .i64 x12]) w')) ∧
  ∃ (x13 : Int), ∃ (x14 : Int), ∃ (x15 : Int), ∃ (x16 : Int), (∀ w' : World, Below w.heap.size w w' → Calls Tryz.prog 18 #[.int .i64 0, .int .i64 0, .int .i64 1, .int .i64 1] w' (Vc.Ret (.agg #[.int .i64 x13, .int .i64 x14, .int .i64 x15, .int .i64 x16]) w')) ∧
  ∃ (x17 : Int), ∃ (x18 : Int), (∀ (β : Nat → Nat) (w' : World), Below w.heap.size w w' → ((w.heap.size ≤ β 22 ∧ w'.heap[β 22]? = some (.cells #[.int .i64 0, .int .i64 0, .int .i64 100, .int .i64 0, .int .i64 100, .int .i64 100, .int .i64 0, .int .i64 100] 26)) ∧ (w.heap.size ≤ β 25 ∧ w'.heap[β 25]? = some (.cells #[.string ⟨(([113] : List UInt8)).toArray⟩, .slice (some ⟨β 24, 0, none⟩) 4 4, .int .i64 1000, .int .i64 400] 82)) ∧ (w.heap.size ≤ β 24 ∧ w'.heap[β 24]? = some (.cells #[.int .i64 0, .int .i64 0, .int .i64 100, .int .i64 0, .int .i64 100, .int .i64 100, .int .i64 0, .int .i64 100] 26)) ∧ True) → Calls Tryz.prog 16 #[.agg #[.string ⟨(([113] : List UInt8)).toArray⟩, .slice (some ⟨β 22, 0, none⟩) 4 4, .slice none 0 0, .slice (some ⟨β 25, 0, none⟩) 1 1, .int .i64 1, .int .i64 1, .int .i64 5, .int .i64 3], .agg #[.int .i64 x13, .int .i64 x14, .int .i64 x15, .int .i64 x16]] w' (Vc.Ret (.tuple #[.int .i64 x17, .int .i64 x18]) w')) ∧
  ∃ (b2 : Bool), (∀ (β : Nat → Nat) (w' : World), Below w.heap.size w w' → ((w.heap.size ≤ β 22 ∧ w'.heap[β 22]? = some (.cells #[.int .i64 0, .int .i64 0, .int .i64 100, .int .i64 0, .int .i64 100, .int .i64 100, .int .i64 0, .int .i64 100] 26)) ∧ (w.heap.size ≤ β 25 ∧ w'.heap[β 25]? = some (.cells #[.string ⟨(([113] : List UInt8)).toArray⟩, .slice (some ⟨β 24, 0, none⟩) 4 4, .int .i64 1000, .int .i64 400] 82)) ∧ (w.heap.size ≤ β 24 ∧ w'.heap[β 24]? = some (.cells #[.int .i64 0, .int .i64 0, .int .i64 100, .int .i64 0, .int .i64 100, .int .i64 100, .int .i64 0, .int .i64 100] 26)) ∧ True) → Calls Tryz.prog 23 #[.agg #[.string ⟨(([113] : List UInt8)).toArray⟩, .slice (some ⟨β 22, 0, none⟩) 4 4, .slice none 0 0, .slice (some ⟨β 25, 0, none⟩) 1 1, .int .i64 1, .int .i64 1, .int .i64 5, .int .i64 3]] w' (Vc.Ret (.bool b2) w')) ∧
  ((b2 = true) → (
  ∃ (b3 : Bool), (∀ w' : World, Below w.heap.size w w' → Calls Tryz.prog 34 #[.agg #[.int .i64 10, .int .i64 10, .int .i64 20, .int .i64 20]] w' (Vc.Ret (.bool b3) w')) ∧
  ((b3 = true) → (
  ∃ (x19 : Int), (∀ (β : Nat → Nat) (w' : World), Below w.heap.size w w' → (Vc.RowOk w.heap.size (β 32) (β 33) (β 34) (β 35) (([.int .i64 0, .int .i64 0, .int .i64 100, .int .i64 0, .int .i64 100, .int .i64 100, .int .i64 0, .int .i64 100] : List Value)) 2 26 w' ∧ True) → Calls Tryz.prog 35 #[.agg #[.string ⟨(([113] : List UInt8)).toArray⟩, Vc.ownV (β 32) (β 33) (β 34) (β 35)], .agg #[.int .i64 10, .int .i64 10, .int .i64 20, .int .i64 20]] w' (Vc.Ret (.int .i64 x19) w')) ∧
  ((x19 = 1) → (
  ∃ (b4 : Bool), (∀ w' : World, Below w.heap.size w w' → Calls Tryz.prog 34 #[.agg #[.int .i64 95, .int .i64 0, .int .i64 101, .int .i64 5]] w' (Vc.Ret (.bool b4) w')) ∧
  ((b4 = true) → (
  ∃ (x20 : Int), (∀ (β : Nat → Nat) (w' : World), Below w.heap.size w w' → (Vc.RowOk w.heap.size (β 32) (β 33) (β 34) (β 35) (([.int .i64 0, .int .i64 0, .int .i64 100, .int .i64 0, .int .i64 100, .int .i64 100, .int .i64 0, .int .i64 100] : List Value)) 2 26 w' ∧ True) → Calls Tryz.prog 35 #[.agg #[.string ⟨(([113] : List UInt8)).toArray⟩, Vc.ownV (β 32) (β 33) (β 34) (β 35)], .agg #[.int .i64 95, .int .i64 0, .int .i64 101, .int .i64 5]] w' (Vc.Ret (.int .i64 x20) w')) ∧
  ((x20 = 1) → (
  ∃ (x21 : Int), ∃ (x22 : Int), ∃ (x23 : Int), ∃ (x24 : Int), (∀ w' : World, Below w.heap.size w w' → Calls Tryz.prog 53 #[.agg #[.int .i64 95, .int .i64 0, .int .i64 101, .int .i64 5], .int .i64 1] w' (Vc.Ret (.agg #[.int .i64 x21, .int .i64 x22, .int .i64 x23, .int .i64 x24]) w')) ∧
  ∃ (x25 : Int), ∃ (x26 : Int), (∀ w' : World, Below w.heap.size w w' → Calls Tryz.prog 68 #[.agg #[.int .i64 x21, .int .i64 x22]] w' (Vc.Ret (.agg #[.int .i64 x25, .int .i64 x26]) w')) ∧
  ∃ (x27 : Int), ∃ (x28 : Int), (∀ w' : World, Below w.heap.size w w' → Calls Tryz.prog 68 #[.agg #[.int .i64 x23, .int .i64 x24]] w' (Vc.Ret (.agg #[.int .i64 x27, .int .i64 x28]) w')) ∧
  ∃ (x29 : Int), (∀ (β : Nat → Nat) (w' : World), Below w.heap.size w w' → (Vc.RowOk w.heap.size (β 32) (β 33) (β 34) (β 35) (([.int .i64 0, .int .i64 0, .int .i64 100, .int .i64 0, .int .i64 100, .int .i64 100, .int .i64 0, .int .i64 100] : List Value)) 2 26 w' ∧ True) → Calls Tryz.prog 35 #[.agg #[.string ⟨(([113] : List UInt8)).toArray⟩, Vc.ownV (β 32) (β 33) (β 34) (β 35)], .agg #[.int .i64 x25, .int .i64 x26, .int .i64 x27, .int .i64 x28]] w' (Vc.Ret (.int .i64 x29) w')) ∧
  ((x29 = 1) → (
  ((x0 = 1) → (
  ((x2 = 0) → (
  ((x4 = (-1)) → (
  ((b0 = true) → (
  ((b1 = true) → (
  (.bool false : Value) = v)) ∧ (¬ (b1 = true) → (
  ((x12 = 0) → (
  ∃ (x30 : Int), ∃ (x31 : Int), ∃ (x32 : Int), ∃ (x33 : Int), (∀ w' : World, Below w.heap.size w w' → Calls Tryz.prog 18 #[.int .i64 2000, .int .i64 0, .int .i64 2000, .int .i64 0] w' (Vc.Ret (.agg #[.int .i64 x30, .int .i64 x31, .int .i64 x32, .int .i64 x33]) w')) ∧
  (((x8 = x30) ∧ ((x9 = x31) ∧ ((x10 = x32) ∧ (x11 = x33)))) → (
  ((x17 = 8) → (
  ((x18 = 0) → (
  ∃ (x34 : Int), ∃ (x35 : Int), ∃ (x36 : Int), ∃ (x37 : Int), (∀ w' : World, Below w.heap.size w w' → Calls Tryz.prog 18 #[.int .i64 94, .int .i64 (-1), .int .i64 102, .int .i64 6] w' (Vc.Ret (.agg #[.int .i64 x34, .int .i64 x35, .int .i64 x36, .int .i64 x37]) w')) ∧
  (.bool false : Value) = v)) ∧ (¬ (x18 = 0) → (
  (.bool false : Value) = v)))) ∧ (¬ (x17 = 8) → (
  (.bool false : Value) = v)))) ∧ (¬ ((x8 = x30) ∧ ((x9 = x31) ∧ ((x10 = x32) ∧ (x11 = x33)))) → (
  (.bool false : Value) = v)))) ∧ (¬ (x12 = 0) → (
  (.bool false : Value) = v)))))) ∧ (¬ (b0 = true) → (
  (.bool false : Value) = v)))) ∧ (¬ (x4 = (-1)) → (
  (.bool false : Value) = v)))) ∧ (¬ (x2 = 0) → (
  (.bool false : Value) = v)))) ∧ (¬ (x0 = 1) → (
  (.bool false : Value) = v)))) ∧ (¬ (x29 = 1) → (
  ((x29 = 0) → (
  ((x0 = 1) → (
  ((x2 = 0) → (
  ((x4 = (-1)) → (
  ((b0 = true) → (
  ((b1 = true) → (
  (.bool false : Value) = v)) ∧ (¬ (b1 = true) → (
  ((x12 = 0) → (
  ∃ (x30 : Int), ∃ (x31 : Int), ∃ (x32 : Int), ∃ (x33 : Int), (∀ w' : World, Below w.heap.size w w' → Calls Tryz.prog 18 #[.int .i64 2000, .int .i64 0, .int .i64 2000, .int .i64 0] w' (Vc.Ret (.agg #[.int .i64 x30, .int .i64 x31, .int .i64 x32, .int .i64 x33]) w')) ∧
  (((x8 = x30) ∧ ((x9 = x31) ∧ ((x10 = x32) ∧ (x11 = x33)))) → (
  ((x17 = 8) → (
  ((x18 = 0) → (
  ∃ (x34 : Int), ∃ (x35 : Int), ∃ (x36 : Int), ∃ (x37 : Int), (∀ w' : World, Below w.heap.size w w' → Calls Tryz.prog 18 #[.int .i64 94, .int .i64 (-1), .int .i64 102, .int .i64 6] w' (Vc.Ret (.agg #[.int .i64 x34, .int .i64 x35, .int .i64 x36, .int .i64 x37]) w')) ∧
  (.bool false : Value) = v)) ∧ (¬ (x18 = 0) → (
  (.bool false : Value) = v)))) ∧ (¬ (x17 = 8) → (
  (.bool false : Value) = v)))) ∧ (¬ ((x8 = x30) ∧ ((x9 = x31) ∧ ((x10 = x32) ∧ (x11 = x33)))) → (
  (.bool false : Value) = v)))) ∧ (¬ (x12 = 0) → (
  (.bool false : Value) = v)))))) ∧ (¬ (b0 = true) → (
  (.bool false : Value) = v)))) ∧ (¬ (x4 = (-1)) → (
  (.bool false : Value) = v)))) ∧ (¬ (x2 = 0) → (
  (.bool false : Value) = v)))) ∧ (¬ (x0 = 1) → (
  (.bool false : Value) = v)))) ∧ (¬ (x29 = 0) → (
  ((x0 = 1) → (
  ((x2 = 0) → (
  ((x4 = (-1)) → (
  ((b0 = true) → (
  ((b1 = true) → (
  (.bool false : Value) = v)) ∧ (¬ (b1 = true) → (
  ((x12 = 0) → (
  ∃ (x30 : Int), ∃ (x31 : Int), ∃ (x32 : Int), ∃ (x33 : Int), (∀ w' : World, Below w.heap.size w w' → Calls Tryz.prog 18 #[.int .i64 2000, .int .i64 0, .int .i64 2000, .int .i64 0] w' (Vc.Ret (.agg #[.int .i64 x30, .int .i64 x31, .int .i64 x32, .int .i64 x33]) w')) ∧
  (((x8 = x30) ∧ ((x9 = x31) ∧ ((x10 = x32) ∧ (x11 = x33)))) → (
  ((x17 = 8) → (
  ((x18 = 0) → (
  ∃ (x34 : Int), ∃ (x35 : Int), ∃ (x36 : Int), ∃ (x37 : Int), (∀ w' : World, Below w.heap.size w w' → Calls Tryz.prog 18 #[.int .i64 94, .int .i64 (-1), .int .i64 102, .int .i64 6] w' (Vc.Ret (.agg #[.int .i64 x34, .int .i64 x35, .int .i64 x36, .int .i64 x37]) w')) ∧
  (.bool false : Value) = v)) ∧ (¬ (x18 = 0) → (
  (.bool false : Value) = v)))) ∧ (¬ (x17 = 8) → (
  (.bool false : Value) = v)))) ∧ (¬ ((x8 = x30) ∧ ((x9 = x31) ∧ ((x10 = x32) ∧ (x11 = x33)))) → (
  (.bool false : Value) = v)))) ∧ (¬ (x12 = 0) → (
  (.bool false : Value) = v)))))) ∧ (¬ (b0 = true) → (
  (.bool false : Value) = v)))) ∧ (¬ (x4 = (-1)) → (
  (.bool false : Value) = v)))) ∧ (¬ (x2 = 0) → (
  (.bool false : Value) = v)))) ∧ (¬ (x0 = 1) → (
  (.bool false : Value) = v)))))))) ∧ (¬ (x20 = 1) → (
  ((x20 = 0) → (
  ∃ (x21 : Int), ∃ (x22 : Int), ∃ (x23 : Int), ∃ (x24 : Int), (∀ w' : World, Below w.heap.size w w' → Calls Tryz.prog 53 #[.agg #[.int .i64 95, .int .i64 0, .int .i64 101, .int .i64 5], .int .i64 1] w' (Vc.Ret (.agg #[.int .i64 x21, .int .i64 x22, .int .i64 x23, .int .i64 x24]) w')) ∧
  ∃ (x25 : Int), ∃ (x26 : Int), (∀ w' : World, Below w.heap.size w w' → Calls Tryz.prog 68 #[.agg #[.int .i64 x21, .int .i64 x22]] w' (Vc.Ret (.agg #[.int .i64 x25, .int .i64 x26]) w')) ∧
  ∃ (x27 : Int), ∃ (x28 : Int), (∀ w' : World, Below w.heap.size w w' → Calls Tryz.prog 68 #[.agg #[.int .i64 x23, .int .i64 x24]] w' (Vc.Ret (.agg #[.int .i64 x27, .int .i64 x28]) w')) ∧
  ∃ (x29 : Int), (∀ (β : Nat → Nat) (w' : World), Below w.heap.size w w' → (Vc.RowOk w.heap.size (β 32) (β 33) (β 34) (β 35) (([.int .i64 0, .int .i64 0, .int .i64 100, .int .i64 0, .int .i64 100, .int .i64 100, .int .i64 0, .int .i64 100] : List Value)) 2 26 w' ∧ True) → Calls Tryz.prog 35 #[.agg #[.string ⟨(([113] : List UInt8)).toArray⟩, Vc.ownV (β 32) (β 33) (β 34) (β 35)], .agg #[.int .i64 x25, .int .i64 x26, .int .i64 x27, .int .i64 x28]] w' (Vc.Ret (.int .i64 x29) w')) ∧
  ((x29 = 1) → (
  ((x0 = 1) → (
  ((x2 = 0) → (
  ((x4 = (-1)) → (
  ((b0 = true) → (
  ((b1 = true) → (
  (.bool false : Value) = v)) ∧ (¬ (b1 = true) → (
  ((x12 = 0) → (
  ∃ (x30 : Int), ∃ (x31 : Int), ∃ (x32 : Int), ∃ (x33 : Int), (∀ w' : World, Below w.heap.size w w' → Calls Tryz.prog 18 #[.int .i64 2000, .int .i64 0, .int .i64 2000, .int .i64 0] w' (Vc.Ret (.agg #[.int .i64 x30, .int .i64 x31, .int .i64 x32, .int .i64 x33]) w')) ∧
  (((x8 = x30) ∧ ((x9 = x31) ∧ ((x10 = x32) ∧ (x11 = x33)))) → (
  ((x17 = 8) → (
  ((x18 = 0) → (
  ∃ (x34 : Int), ∃ (x35 : Int), ∃ (x36 : Int), ∃ (x37 : Int), (∀ w' : World, Below w.heap.size w w' → Calls Tryz.prog 18 #[.int .i64 94, .int .i64 (-1), .int .i64 102, .int .i64 6] w' (Vc.Ret (.agg #[.int .i64 x34, .int .i64 x35, .int .i64 x36, .int .i64 x37]) w')) ∧
  (.bool false : Value) = v)) ∧ (¬ (x18 = 0) → (
  (.bool false : Value) = v)))) ∧ (¬ (x17 = 8) → (
  (.bool false : Value) = v)))) ∧ (¬ ((x8 = x30) ∧ ((x9 = x31) ∧ ((x10 = x32) ∧ (x11 = x33)))) → (
  (.bool false : Value) = v)))) ∧ (¬ (x12 = 0) → (
  (.bool false : Value) = v)))))) ∧ (¬ (b0 = true) → (
  (.bool false : Value) = v)))) ∧ (¬ (x4 = (-1)) → (
  (.bool false : Value) = v)))) ∧ (¬ (x2 = 0) → (
  (.bool false : Value) = v)))) ∧ (¬ (x0 = 1) → (
  (.bool false : Value) = v)))) ∧ (¬ (x29 = 1) → (
  ((x29 = 0) → (
  ((x0 = 1) → (
  ((x2 = 0) → (
  ((x4 = (-1)) → (
  ((b0 = true) → (
  ((b1 = true) → (
  (.bool false : Value) = v)) ∧ (¬ (b1 = true) → (
  ((x12 = 0) → (
  ∃ (x30 : Int), ∃ (x31 : Int), ∃ (x32 : Int), ∃ (x33 : Int), (∀ w' : World, Below w.heap.size w w' → Calls Tryz.prog 18 #[.int .i64 2000, .int .i64 0, .int .i64 2000, .int .i64 0] w' (Vc.Ret (.agg #[.int .i64 x30, .int .i64 x31, .int .i64 x32, .int .i64 x33]) w')) ∧
  (((x8 = x30) ∧ ((x9 = x31) ∧ ((x10 = x32) ∧ (x11 = x33)))) → (
  ((x17 = 8) → (
  ((x18 = 0) → (
  ∃ (x34 : Int), ∃ (x35 : Int), ∃ (x36 : Int), ∃ (x37 : Int), (∀ w' : World, Below w.heap.size w w' → Calls Tryz.prog 18 #[.int .i64 94, .int .i64 (-1), .int .i64 102, .int .i64 6] w' (Vc.Ret (.agg #[.int .i64 x34, .int .i64 x35, .int .i64 x36, .int .i64 x37]) w')) ∧
  (.bool ((x25 == x34) && ((x26 == x35) && ((x27 == x36) && (x28 == x37)))) : Value) = v)) ∧ (¬ (x18 = 0) → (
  (.bool false : Value) = v)))) ∧ (¬ (x17 = 8) → (
  (.bool false : Value) = v)))) ∧ (¬ ((x8 = x30) ∧ ((x9 = x31) ∧ ((x10 = x32) ∧ (x11 = x33)))) → (
  (.bool false : Value) = v)))) ∧ (¬ (x12 = 0) → (
  (.bool false : Value) = v)))))) ∧ (¬ (b0 = true) → (
  (.bool false : Value) = v)))) ∧ (¬ (x4 = (-1)) → (
  (.bool false : Value) = v)))) ∧ (¬ (x2 = 0) → (
  (.bool false : Value) = v)))) ∧ (¬ (x0 = 1) → (
  (.bool false : Value) = v)))) ∧ (¬ (x29 = 0) → (
  ((x0 = 1) → (
  ((x2 = 0) → (
  ((x4 = (-1)) → (
  ((b0 = true) → (
  ((b1 = true) → (
  (.bool false : Value) = v)) ∧ (¬ (b1 = true) → (
  ((x12 = 0) → (
  ∃ (x30 : Int), ∃ (x31 : Int), ∃ (x32 : Int), ∃ (x33 : Int), (∀ w' : World, Below w.heap.size w w' → Calls Tryz.prog 18 #[.int .i64 2000, .int .i64 0, .int .i64 2000, .int .i64 0] w' (Vc.Ret (.agg #[.int .i64 x30, .int .i64 x31, .int .i64 x32, .int .i64 x33]) w')) ∧
  (((x8 = x30) ∧ ((x9 = x31) ∧ ((x10 = x32) ∧ (x11 = x33)))) → (
  ((x17 = 8) → (
  ((x18 = 0) → (
  ∃ (x34 : Int), ∃ (x35 : Int), ∃ (x36 : Int), ∃ (x37 : Int), (∀ w' : World, Below w.heap.size w w' → Calls Tryz.prog 18 #[.int .i64 94, .int .i64 (-1), .int .i64 102, .int .i64 6] w' (Vc.Ret (.agg #[.int .i64 x34, .int .i64 x35, .int .i64 x36, .int .i64 x37]) w')) ∧
  (.bool false : Value) = v)) ∧ (¬ (x18 = 0) → (
  (.bool false : Value) = v)))) ∧ (¬ (x17 = 8) → (
  (.bool false : Value) = v)))) ∧ (¬ ((x8 = x30) ∧ ((x9 = x31) ∧ ((x10 = x32) ∧ (x11 = x33)))) → (
  (.bool false : Value) = v)))) ∧ (¬ (x12 = 0) → (
  (.bool false : Value) = v)))))) ∧ (¬ (b0 = true) → (
  (.bool false : Value) = v)))) ∧ (¬ (x4 = (-1)) → (
  (.bool false : Value) = v)))) ∧ (¬ (x2 = 0) → (
  (.bool false : Value) = v)))) ∧ (¬ (x0 = 1) → (
  (.bool false : Value) = v)))))))) ∧ (¬ (x20 = 0) → (
  ((x0 = 1) → (
  ((x2 = 0) → (
  ((x4 = (-1)) → (
  ((b0 = true) → (
  ((b1 = true) → (
  (.bool false : Value) = v)) ∧ (¬ (b1 = true) → (
  ((x12 = 0) → (
  ∃ (x21 : Int), ∃ (x22 : Int), ∃ (x23 : Int), ∃ (x24 : Int), (∀ w' : World, Below w.heap.size w w' → Calls Tryz.prog 18 #[.int .i64 2000, .int .i64 0, .int .i64 2000, .int .i64 0] w' (Vc.Ret (.agg #[.int .i64 x21, .int .i64 x22, .int .i64 x23, .int .i64 x24]) w')) ∧
  (((x8 = x21) ∧ ((x9 = x22) ∧ ((x10 = x23) ∧ (x11 = x24)))) → (
  ((x17 = 8) → (
  ((x18 = 0) → (
  (.bool false : Value) = v)) ∧ (¬ (x18 = 0) → (
  (.bool false : Value) = v)))) ∧ (¬ (x17 = 8) → (
  (.bool false : Value) = v)))) ∧ (¬ ((x8 = x21) ∧ ((x9 = x22) ∧ ((x10 = x23) ∧ (x11 = x24)))) → (
  (.bool false : Value) = v)))) ∧ (¬ (x12 = 0) → (
  (.bool false : Value) = v)))))) ∧ (¬ (b0 = true) → (
  (.bool false : Value) = v)))) ∧ (¬ (x4 = (-1)) → (
  (.bool false : Value) = v)))) ∧ (¬ (x2 = 0) → (
  (.bool false : Value) = v)))) ∧ (¬ (x0 = 1) → (
  (.bool false : Value) = v)))))))) ∧ (¬ (b4 = true) → (
  ∃ (x20 : Int), ∃ (x21 : Int), ∃ (x22 : Int), ∃ (x23 : Int), (∀ w' : World, Below w.heap.size w w' → Calls Tryz.prog 53 #[.agg #[.int .i64 10, .int .i64 10, .int .i64 20, .int .i64 20], .int .i64 1] w' (Vc.Ret (.agg #[.int .i64 x20, .int .i64 x21, .int .i64 x22, .int .i64 x23]) w')) ∧
  ∃ (x24 : Int), ∃ (x25 : Int), (∀ w' : World, Below w.heap.size w w' → Calls Tryz.prog 68 #[.agg #[.int .i64 x20, .int .i64 x21]] w' (Vc.Ret (.agg #[.int .i64 x24, .int .i64 x25]) w')) ∧
  ∃ (x26 : Int), ∃ (x27 : Int), (∀ w' : World, Below w.heap.size w w' → Calls Tryz.prog 68 #[.agg #[.int .i64 x22, .int .i64 x23]] w' (Vc.Ret (.agg #[.int .i64 x26, .int .i64 x27]) w')) ∧
  ∃ (x28 : Int), (∀ (β : Nat → Nat) (w' : World), Below w.heap.size w w' → (Vc.RowOk w.heap.size (β 32) (β 33) (β 34) (β 35) (([.int .i64 0, .int .i64 0, .int .i64 100, .int .i64 0, .int .i64 100, .int .i64 100, .int .i64 0, .int .i64 100] : List Value)) 2 26 w' ∧ True) → Calls Tryz.prog 35 #[.agg #[.string ⟨(([113] : List UInt8)).toArray⟩, Vc.ownV (β 32) (β 33) (β 34) (β 35)], .agg #[.int .i64 x24, .int .i64 x25, .int .i64 x26, .int .i64 x27]] w' (Vc.Ret (.int .i64 x28) w')) ∧
  ((x28 = 1) → (
  ((x0 = 1) → (
  ((x2 = 0) → (
  ((x4 = (-1)) → (
  ((b0 = true) → (
  ((b1 = true) → (
  (.bool false : Value) = v)) ∧ (¬ (b1 = true) → (
  ((x12 = 0) → (
  ∃ (x29 : Int), ∃ (x30 : Int), ∃ (x31 : Int), ∃ (x32 : Int), (∀ w' : World, Below w.heap.size w w' → Calls Tryz.prog 18 #[.int .i64 2000, .int .i64 0, .int .i64 2000, .int .i64 0] w' (Vc.Ret (.agg #[.int .i64 x29, .int .i64 x30, .int .i64 x31, .int .i64 x32]) w')) ∧
  (((x8 = x29) ∧ ((x9 = x30) ∧ ((x10 = x31) ∧ (x11 = x32)))) → (
  ((x17 = 8) → (
  ((x18 = 0) → (
  ∃ (x33 : Int), ∃ (x34 : Int), ∃ (x35 : Int), ∃ (x36 : Int), (∀ w' : World, Below w.heap.size w w' → Calls Tryz.prog 18 #[.int .i64 94, .int .i64 (-1), .int .i64 102, .int .i64 6] w' (Vc.Ret (.agg #[.int .i64 x33, .int .i64 x34, .int .i64 x35, .int .i64 x36]) w')) ∧
  (.bool false : Value) = v)) ∧ (¬ (x18 = 0) → (
  (.bool false : Value) = v)))) ∧ (¬ (x17 = 8) → (
  (.bool false : Value) = v)))) ∧ (¬ ((x8 = x29) ∧ ((x9 = x30) ∧ ((x10 = x31) ∧ (x11 = x32)))) → (
  (.bool false : Value) = v)))) ∧ (¬ (x12 = 0) → (
  (.bool false : Value) = v)))))) ∧ (¬ (b0 = true) → (
  (.bool false : Value) = v)))) ∧ (¬ (x4 = (-1)) → (
  (.bool false : Value) = v)))) ∧ (¬ (x2 = 0) → (
  (.bool false : Value) = v)))) ∧ (¬ (x0 = 1) → (
  (.bool false : Value) = v)))) ∧ (¬ (x28 = 1) → (
  ((x28 = 0) → (
  ((x0 = 1) → (
  ((x2 = 0) → (
  ((x4 = (-1)) → (
  ((b0 = true) → (
  ((b1 = true) → (
  (.bool false : Value) = v)) ∧ (¬ (b1 = true) → (
  ((x12 = 0) → (
  ∃ (x29 : Int), ∃ (x30 : Int), ∃ (x31 : Int), ∃ (x32 : Int), (∀ w' : World, Below w.heap.size w w' → Calls Tryz.prog 18 #[.int .i64 2000, .int .i64 0, .int .i64 2000, .int .i64 0] w' (Vc.Ret (.agg #[.int .i64 x29, .int .i64 x30, .int .i64 x31, .int .i64 x32]) w')) ∧
  (((x8 = x29) ∧ ((x9 = x30) ∧ ((x10 = x31) ∧ (x11 = x32)))) → (
  ((x17 = 8) → (
  ((x18 = 0) → (
  ∃ (x33 : Int), ∃ (x34 : Int), ∃ (x35 : Int), ∃ (x36 : Int), (∀ w' : World, Below w.heap.size w w' → Calls Tryz.prog 18 #[.int .i64 94, .int .i64 (-1), .int .i64 102, .int .i64 6] w' (Vc.Ret (.agg #[.int .i64 x33, .int .i64 x34, .int .i64 x35, .int .i64 x36]) w')) ∧
  (.bool false : Value) = v)) ∧ (¬ (x18 = 0) → (
  (.bool false : Value) = v)))) ∧ (¬ (x17 = 8) → (
  (.bool false : Value) = v)))) ∧ (¬ ((x8 = x29) ∧ ((x9 = x30) ∧ ((x10 = x31) ∧ (x11 = x32)))) → (
  (.bool false : Value) = v)))) ∧ (¬ (x12 = 0) → (
  (.bool false : Value) = v)))))) ∧ (¬ (b0 = true) → (
  (.bool false : Value) = v)))) ∧ (¬ (x4 = (-1)) → (
  (.bool false : Value) = v)))) ∧ (¬ (x2 = 0) → (
  (.bool false : Value) = v)))) ∧ (¬ (x0 = 1) → (
  (.bool false : Value) = v)))) ∧ (¬ (x28 = 0) → (
  ((x0 = 1) → (
  ((x2 = 0) → (
  ((x4 = (-1)) → (
  ((b0 = true) → (
  ((b1 = true) → (
  (.bool false : Value) = v)) ∧ (¬ (b1 = true) → (
  ((x12 = 0) → (
  ∃ (x29 : Int), ∃ (x30 : Int), ∃ (x31 : Int), ∃ (x32 : Int), (∀ w' : World, Below w.heap.size w w' → Calls Tryz.prog 18 #[.int .i64 2000, .int .i64 0, .int .i64 2000, .int .i64 0] w' (Vc.Ret (.agg #[.int .i64 x29, .int .i64 x30, .int .i64 x31, .int .i64 x32]) w')) ∧
  (((x8 = x29) ∧ ((x9 = x30) ∧ ((x10 = x31) ∧ (x11 = x32)))) → (
  ((x17 = 8) → (
  ((x18 = 0) → (
  ∃ (x33 : Int), ∃ (x34 : Int), ∃ (x35 : Int), ∃ (x36 : Int), (∀ w' : World, Below w.heap.size w w' → Calls Tryz.prog 18 #[.int .i64 94, .int .i64 (-1), .int .i64 102, .int .i64 6] w' (Vc.Ret (.agg #[.int .i64 x33, .int .i64 x34, .int .i64 x35, .int .i64 x36]) w')) ∧
  (.bool false : Value) = v)) ∧ (¬ (x18 = 0) → (
  (.bool false : Value) = v)))) ∧ (¬ (x17 = 8) → (
  (.bool false : Value) = v)))) ∧ (¬ ((x8 = x29) ∧ ((x9 = x30) ∧ ((x10 = x31) ∧ (x11 = x32)))) → (
  (.bool false : Value) = v)))) ∧ (¬ (x12 = 0) → (
  (.bool false : Value) = v)))))) ∧ (¬ (b0 = true) → (
  (.bool false : Value) = v)))) ∧ (¬ (x4 = (-1)) → (
  (.bool false : Value) = v)))) ∧ (¬ (x2 = 0) → (
  (.bool false : Value) = v)))) ∧ (¬ (x0 = 1) → (
  (.bool false : Value) = v)))))))))) ∧ (¬ (x19 = 1) → (
  ((x19 = 0) → (
  ∃ (b4 : Bool), (∀ w' : World, Below w.heap.size w w' → Calls Tryz.prog 34 #[.agg #[.int .i64 95, .int .i64 0, .int .i64 101, .int .i64 5]] w' (Vc.Ret (.bool b4) w')) ∧
  ((b4 = true) → (
  ∃ (x20 : Int), (∀ (β : Nat → Nat) (w' : World), Below w.heap.size w w' → (Vc.RowOk w.heap.size (β 32) (β 33) (β 34) (β 35) (([.int .i64 0, .int .i64 0, .int .i64 100, .int .i64 0, .int .i64 100, .int .i64 100, .int .i64 0, .int .i64 100] : List Value)) 2 26 w' ∧ True) → Calls Tryz.prog 35 #[.agg #[.string ⟨(([113] : List UInt8)).toArray⟩, Vc.ownV (β 32) (β 33) (β 34) (β 35)], .agg #[.int .i64 95, .int .i64 0, .int .i64 101, .int .i64 5]] w' (Vc.Ret (.int .i64 x20) w')) ∧
  ((x20 = 1) → (
  ∃ (x21 : Int), ∃ (x22 : Int), ∃ (x23 : Int), ∃ (x24 : Int), (∀ w' : World, Below w.heap.size w w' → Calls Tryz.prog 53 #[.agg #[.int .i64 95, .int .i64 0, .int .i64 101, .int .i64 5], .int .i64 1] w' (Vc.Ret (.agg #[.int .i64 x21, .int .i64 x22, .int .i64 x23, .int .i64 x24]) w')) ∧
  ∃ (x25 : Int), ∃ (x26 : Int), (∀ w' : World, Below w.heap.size w w' → Calls Tryz.prog 68 #[.agg #[.int .i64 x21, .int .i64 x22]] w' (Vc.Ret (.agg #[.int .i64 x25, .int .i64 x26]) w')) ∧
  ∃ (x27 : Int), ∃ (x28 : Int), (∀ w' : World, Below w.heap.size w w' → Calls Tryz.prog 68 #[.agg #[.int .i64 x23, .int .i64 x24]] w' (Vc.Ret (.agg #[.int .i64 x27, .int .i64 x28]) w')) ∧
  ∃ (x29 : Int), (∀ (β : Nat → Nat) (w' : World), Below w.heap.size w w' → (Vc.RowOk w.heap.size (β 32) (β 33) (β 34) (β 35) (([.int .i64 0, .int .i64 0, .int .i64 100, .int .i64 0, .int .i64 100, .int .i64 100, .int .i64 0, .int .i64 100] : List Value)) 2 26 w' ∧ True) → Calls Tryz.prog 35 #[.agg #[.string ⟨(([113] : List UInt8)).toArray⟩, Vc.ownV (β 32) (β 33) (β 34) (β 35)], .agg #[.int .i64 x25, .int .i64 x26, .int .i64 x27, .int .i64 x28]] w' (Vc.Ret (.int .i64 x29) w')) ∧
  ((x29 = 1) → (
  ((x0 = 1) → (
  ((x2 = 0) → (
  ((x4 = (-1)) → (
  ((b0 = true) → (
  ((b1 = true) → (
  (.bool false : Value) = v)) ∧ (¬ (b1 = true) → (
  ((x12 = 0) → (
  ∃ (x30 : Int), ∃ (x31 : Int), ∃ (x32 : Int), ∃ (x33 : Int), (∀ w' : World, Below w.heap.size w w' → Calls Tryz.prog 18 #[.int .i64 2000, .int .i64 0, .int .i64 2000, .int .i64 0] w' (Vc.Ret (.agg #[.int .i64 x30, .int .i64 x31, .int .i64 x32, .int .i64 x33]) w')) ∧
  (((x8 = x30) ∧ ((x9 = x31) ∧ ((x10 = x32) ∧ (x11 = x33)))) → (
  ((x17 = 8) → (
  ((x18 = 0) → (
  ∃ (x34 : Int), ∃ (x35 : Int), ∃ (x36 : Int), ∃ (x37 : Int), (∀ w' : World, Below w.heap.size w w' → Calls Tryz.prog 18 #[.int .i64 94, .int .i64 (-1), .int .i64 102, .int .i64 6] w' (Vc.Ret (.agg #[.int .i64 x34, .int .i64 x35, .int .i64 x36, .int .i64 x37]) w')) ∧
  (.bool false : Value) = v)) ∧ (¬ (x18 = 0) → (
  (.bool false : Value) = v)))) ∧ (¬ (x17 = 8) → (
  (.bool false : Value) = v)))) ∧ (¬ ((x8 = x30) ∧ ((x9 = x31) ∧ ((x10 = x32) ∧ (x11 = x33)))) → (
  (.bool false : Value) = v)))) ∧ (¬ (x12 = 0) → (
  (.bool false : Value) = v)))))) ∧ (¬ (b0 = true) → (
  (.bool false : Value) = v)))) ∧ (¬ (x4 = (-1)) → (
  (.bool false : Value) = v)))) ∧ (¬ (x2 = 0) → (
  (.bool false : Value) = v)))) ∧ (¬ (x0 = 1) → (
  (.bool false : Value) = v)))) ∧ (¬ (x29 = 1) → (
  ((x29 = 0) → (
  ((x0 = 1) → (
  ((x2 = 0) → (
  ((x4 = (-1)) → (
  ((b0 = true) → (
  ((b1 = true) → (
  (.bool false : Value) = v)) ∧ (¬ (b1 = true) → (
  ((x12 = 0) → (
  ∃ (x30 : Int), ∃ (x31 : Int), ∃ (x32 : Int), ∃ (x33 : Int), (∀ w' : World, Below w.heap.size w w' → Calls Tryz.prog 18 #[.int .i64 2000, .int .i64 0, .int .i64 2000, .int .i64 0] w' (Vc.Ret (.agg #[.int .i64 x30, .int .i64 x31, .int .i64 x32, .int .i64 x33]) w')) ∧
  (((x8 = x30) ∧ ((x9 = x31) ∧ ((x10 = x32) ∧ (x11 = x33)))) → (
  ((x17 = 8) → (
  ((x18 = 0) → (
  ∃ (x34 : Int), ∃ (x35 : Int), ∃ (x36 : Int), ∃ (x37 : Int), (∀ w' : World, Below w.heap.size w w' → Calls Tryz.prog 18 #[.int .i64 94, .int .i64 (-1), .int .i64 102, .int .i64 6] w' (Vc.Ret (.agg #[.int .i64 x34, .int .i64 x35, .int .i64 x36, .int .i64 x37]) w')) ∧
  (.bool false : Value) = v)) ∧ (¬ (x18 = 0) → (
  (.bool false : Value) = v)))) ∧ (¬ (x17 = 8) → (
  (.bool false : Value) = v)))) ∧ (¬ ((x8 = x30) ∧ ((x9 = x31) ∧ ((x10 = x32) ∧ (x11 = x33)))) → (
  (.bool false : Value) = v)))) ∧ (¬ (x12 = 0) → (
  (.bool false : Value) = v)))))) ∧ (¬ (b0 = true) → (
  (.bool false : Value) = v)))) ∧ (¬ (x4 = (-1)) → (
  (.bool false : Value) = v)))) ∧ (¬ (x2 = 0) → (
  (.bool false : Value) = v)))) ∧ (¬ (x0 = 1) → (
  (.bool false : Value) = v)))) ∧ (¬ (x29 = 0) → (
  ((x0 = 1) → (
  ((x2 = 0) → (
  ((x4 = (-1)) → (
  ((b0 = true) → (
  ((b1 = true) → (
  (.bool false : Value) = v)) ∧ (¬ (b1 = true) → (
  ((x12 = 0) → (
  ∃ (x30 : Int), ∃ (x31 : Int), ∃ (x32 : Int), ∃ (x33 : Int), (∀ w' : World, Below w.heap.size w w' → Calls Tryz.prog 18 #[.int .i64 2000, .int .i64 0, .int .i64 2000, .int .i64 0] w' (Vc.Ret (.agg #[.int .i64 x30, .int .i64 x31, .int .i64 x32, .int .i64 x33]) w')) ∧
  (((x8 = x30) ∧ ((x9 = x31) ∧ ((x10 = x32) ∧ (x11 = x33)))) → (
  ((x17 = 8) → (
  ((x18 = 0) → (
  ∃ (x34 : Int), ∃ (x35 : Int), ∃ (x36 : Int), ∃ (x37 : Int), (∀ w' : World, Below w.heap.size w w' → Calls Tryz.prog 18 #[.int .i64 94, .int .i64 (-1), .int .i64 102, .int .i64 6] w' (Vc.Ret (.agg #[.int .i64 x34, .int .i64 x35, .int .i64 x36, .int .i64 x37]) w')) ∧
  (.bool false : Value) = v)) ∧ (¬ (x18 = 0) → (
  (.bool false : Value) = v)))) ∧ (¬ (x17 = 8) → (
  (.bool false : Value) = v)))) ∧ (¬ ((x8 = x30) ∧ ((x9 = x31) ∧ ((x10 = x32) ∧ (x11 = x33)))) → (
  (.bool false : Value) = v)))) ∧ (¬ (x12 = 0) → (
  (.bool false : Value) = v)))))) ∧ (¬ (b0 = true) → (
  (.bool false : Value) = v)))) ∧ (¬ (x4 = (-1)) → (
  (.bool false : Value) = v)))) ∧ (¬ (x2 = 0) → (
  (.bool false : Value) = v)))) ∧ (¬ (x0 = 1) → (
  (.bool false : Value) = v)))))))) ∧ (¬ (x20 = 1) → (
  ((x20 = 0) → (
  ((x0 = 1) → (
  ((x2 = 0) → (
  ((x4 = (-1)) → (
  ((b0 = true) → (
  ((b1 = true) → (
  (.bool false : Value) = v)) ∧ (¬ (b1 = true) → (
  ((x12 = 0) → (
  ∃ (x21 : Int), ∃ (x22 : Int), ∃ (x23 : Int), ∃ (x24 : Int), (∀ w' : World, Below w.heap.size w w' → Calls Tryz.prog 18 #[.int .i64 2000, .int .i64 0, .int .i64 2000, .int .i64 0] w' (Vc.Ret (.agg #[.int .i64 x21, .int .i64 x22, .int .i64 x23, .int .i64 x24]) w')) ∧
  (((x8 = x21) ∧ ((x9 = x22) ∧ ((x10 = x23) ∧ (x11 = x24)))) → (
  ((x17 = 8) → (
  ((x18 = 0) → (
  (.bool false : Value) = v)) ∧ (¬ (x18 = 0) → (
  (.bool false : Value) = v)))) ∧ (¬ (x17 = 8) → (
  (.bool false : Value) = v)))) ∧ (¬ ((x8 = x21) ∧ ((x9 = x22) ∧ ((x10 = x23) ∧ (x11 = x24)))) → (
  (.bool false : Value) = v)))) ∧ (¬ (x12 = 0) → (
  (.bool false : Value) = v)))))) ∧ (¬ (b0 = true) → (
  (.bool false : Value) = v)))) ∧ (¬ (x4 = (-1)) → (
  (.bool false : Value) = v)))) ∧ (¬ (x2 = 0) → (
  (.bool false : Value) = v)))) ∧ (¬ (x0 = 1) → (
  (.bool false : Value) = v)))) ∧ (¬ (x20 = 0) → (
  ((x0 = 1) → (
  ((x2 = 0) → (
  ((x4 = (-1)) → (
  ((b0 = true) → (
  ((b1 = true) → (
  (.bool false : Value) = v)) ∧ (¬ (b1 = true) → (
  ((x12 = 0) → (
  ∃ (x21 : Int), ∃ (x22 : Int), ∃ (x23 : Int), ∃ (x24 : Int), (∀ w' : World, Below w.heap.size w w' → Calls Tryz.prog 18 #[.int .i64 2000, .int .i64 0, .int .i64 2000, .int .i64 0] w' (Vc.Ret (.agg #[.int .i64 x21, .int .i64 x22, .int .i64 x23, .int .i64 x24]) w')) ∧
  (((x8 = x21) ∧ ((x9 = x22) ∧ ((x10 = x23) ∧ (x11 = x24)))) → (
  ((x17 = 8) → (
  ((x18 = 0) → (
  (.bool false : Value) = v)) ∧ (¬ (x18 = 0) → (
  (.bool false : Value) = v)))) ∧ (¬ (x17 = 8) → (
  (.bool false : Value) = v)))) ∧ (¬ ((x8 = x21) ∧ ((x9 = x22) ∧ ((x10 = x23) ∧ (x11 = x24)))) → (
  (.bool false : Value) = v)))) ∧ (¬ (x12 = 0) → (
  (.bool false : Value) = v)))))) ∧ (¬ (b0 = true) → (
  (.bool false : Value) = v)))) ∧ (¬ (x4 = (-1)) → (
  (.bool false : Value) = v)))) ∧ (¬ (x2 = 0) → (
  (.bool false : Value) = v)))) ∧ (¬ (x0 = 1) → (
  (.bool false : Value) = v)))))))) ∧ (¬ (b4 = true) → (
  ∃ (x20 : Int), ∃ (x21 : Int), ∃ (x22 : Int), ∃ (x23 : Int), (∀ w' : World, Below w.heap.size w w' → Calls Tryz.prog 53 #[.agg #[.int .i64 10, .int .i64 10, .int .i64 20, .int .i64 20], .int .i64 1] w' (Vc.Ret (.agg #[.int .i64 x20, .int .i64 x21, .int .i64 x22, .int .i64 x23]) w')) ∧
  ∃ (x24 : Int), ∃ (x25 : Int), (∀ w' : World, Below w.heap.size w w' → Calls Tryz.prog 68 #[.agg #[.int .i64 x20, .int .i64 x21]] w' (Vc.Ret (.agg #[.int .i64 x24, .int .i64 x25]) w')) ∧
  ∃ (x26 : Int), ∃ (x27 : Int), (∀ w' : World, Below w.heap.size w w' → Calls Tryz.prog 68 #[.agg #[.int .i64 x22, .int .i64 x23]] w' (Vc.Ret (.agg #[.int .i64 x26, .int .i64 x27]) w')) ∧
  ∃ (x28 : Int), (∀ (β : Nat → Nat) (w' : World), Below w.heap.size w w' → (Vc.RowOk w.heap.size (β 32) (β 33) (β 34) (β 35) (([.int .i64 0, .int .i64 0, .int .i64 100, .int .i64 0, .int .i64 100, .int .i64 100, .int .i64 0, .int .i64 100] : List Value)) 2 26 w' ∧ True) → Calls Tryz.prog 35 #[.agg #[.string ⟨(([113] : List UInt8)).toArray⟩, Vc.ownV (β 32) (β 33) (β 34) (β 35)], .agg #[.int .i64 x24, .int .i64 x25, .int .i64 x26, .int .i64 x27]] w' (Vc.Ret (.int .i64 x28) w')) ∧
  ((x28 = 1) → (
  ((x0 = 1) → (
  ((x2 = 0) → (
  ((x4 = (-1)) → (
  ((b0 = true) → (
  ((b1 = true) → (
  (.bool false : Value) = v)) ∧ (¬ (b1 = true) → (
  ((x12 = 0) → (
  ∃ (x29 : Int), ∃ (x30 : Int), ∃ (x31 : Int), ∃ (x32 : Int), (∀ w' : World, Below w.heap.size w w' → Calls Tryz.prog 18 #[.int .i64 2000, .int .i64 0, .int .i64 2000, .int .i64 0] w' (Vc.Ret (.agg #[.int .i64 x29, .int .i64 x30, .int .i64 x31, .int .i64 x32]) w')) ∧
  (((x8 = x29) ∧ ((x9 = x30) ∧ ((x10 = x31) ∧ (x11 = x32)))) → (
  ((x17 = 8) → (
  ((x18 = 0) → (
  ∃ (x33 : Int), ∃ (x34 : Int), ∃ (x35 : Int), ∃ (x36 : Int), (∀ w' : World, Below w.heap.size w w' → Calls Tryz.prog 18 #[.int .i64 94, .int .i64 (-1), .int .i64 102, .int .i64 6] w' (Vc.Ret (.agg #[.int .i64 x33, .int .i64 x34, .int .i64 x35, .int .i64 x36]) w')) ∧
  (.bool false : Value) = v)) ∧ (¬ (x18 = 0) → (
  (.bool false : Value) = v)))) ∧ (¬ (x17 = 8) → (
  (.bool false : Value) = v)))) ∧ (¬ ((x8 = x29) ∧ ((x9 = x30) ∧ ((x10 = x31) ∧ (x11 = x32)))) → (
  (.bool false : Value) = v)))) ∧ (¬ (x12 = 0) → (
  (.bool false : Value) = v)))))) ∧ (¬ (b0 = true) → (
  (.bool false : Value) = v)))) ∧ (¬ (x4 = (-1)) → (
  (.bool false : Value) = v)))) ∧ (¬ (x2 = 0) → (
  (.bool false : Value) = v)))) ∧ (¬ (x0 = 1) → (
  (.bool false : Value) = v)))) ∧ (¬ (x28 = 1) → (
  ((x28 = 0) → (
  ((x0 = 1) → (
  ((x2 = 0) → (
  ((x4 = (-1)) → (
  ((b0 = true) → (
  ((b1 = true) → (
  (.bool false : Value) = v)) ∧ (¬ (b1 = true) → (
  ((x12 = 0) → (
  ∃ (x29 : Int), ∃ (x30 : Int), ∃ (x31 : Int), ∃ (x32 : Int), (∀ w' : World, Below w.heap.size w w' → Calls Tryz.prog 18 #[.int .i64 2000, .int .i64 0, .int .i64 2000, .int .i64 0] w' (Vc.Ret (.agg #[.int .i64 x29, .int .i64 x30, .int .i64 x31, .int .i64 x32]) w')) ∧
  (((x8 = x29) ∧ ((x9 = x30) ∧ ((x10 = x31) ∧ (x11 = x32)))) → (
  ((x17 = 8) → (
  ((x18 = 0) → (
  ∃ (x33 : Int), ∃ (x34 : Int), ∃ (x35 : Int), ∃ (x36 : Int), (∀ w' : World, Below w.heap.size w w' → Calls Tryz.prog 18 #[.int .i64 94, .int .i64 (-1), .int .i64 102, .int .i64 6] w' (Vc.Ret (.agg #[.int .i64 x33, .int .i64 x34, .int .i64 x35, .int .i64 x36]) w')) ∧
  (.bool ((x24 == x33) && ((x25 == x34) && ((x26 == x35) && (x27 == x36)))) : Value) = v)) ∧ (¬ (x18 = 0) → (
  (.bool false : Value) = v)))) ∧ (¬ (x17 = 8) → (
  (.bool false : Value) = v)))) ∧ (¬ ((x8 = x29) ∧ ((x9 = x30) ∧ ((x10 = x31) ∧ (x11 = x32)))) → (
  (.bool false : Value) = v)))) ∧ (¬ (x12 = 0) → (
  (.bool false : Value) = v)))))) ∧ (¬ (b0 = true) → (
  (.bool false : Value) = v)))) ∧ (¬ (x4 = (-1)) → (
  (.bool false : Value) = v)))) ∧ (¬ (x2 = 0) → (
  (.bool false : Value) = v)))) ∧ (¬ (x0 = 1) → (
  (.bool false : Value) = v)))) ∧ (¬ (x28 = 0) → (
  ((x0 = 1) → (
  ((x2 = 0) → (
  ((x4 = (-1)) → (
  ((b0 = true) → (
  ((b1 = true) → (
  (.bool false : Value) = v)) ∧ (¬ (b1 = true) → (
  ((x12 = 0) → (
  ∃ (x29 : Int), ∃ (x30 : Int), ∃ (x31 : Int), ∃ (x32 : Int), (∀ w' : World, Below w.heap.size w w' → Calls Tryz.prog 18 #[.int .i64 2000, .int .i64 0, .int .i64 2000, .int .i64 0] w' (Vc.Ret (.agg #[.int .i64 x29, .int .i64 x30, .int .i64 x31, .int .i64 x32]) w')) ∧
  (((x8 = x29) ∧ ((x9 = x30) ∧ ((x10 = x31) ∧ (x11 = x32)))) → (
  ((x17 = 8) → (
  ((x18 = 0) → (
  ∃ (x33 : Int), ∃ (x34 : Int), ∃ (x35 : Int), ∃ (x36 : Int), (∀ w' : World, Below w.heap.size w w' → Calls Tryz.prog 18 #[.int .i64 94, .int .i64 (-1), .int .i64 102, .int .i64 6] w' (Vc.Ret (.agg #[.int .i64 x33, .int .i64 x34, .int .i64 x35, .int .i64 x36]) w')) ∧
  (.bool false : Value) = v)) ∧ (¬ (x18 = 0) → (
  (.bool false : Value) = v)))) ∧ (¬ (x17 = 8) → (
  (.bool false : Value) = v)))) ∧ (¬ ((x8 = x29) ∧ ((x9 = x30) ∧ ((x10 = x31) ∧ (x11 = x32)))) → (
  (.bool false : Value) = v)))) ∧ (¬ (x12 = 0) → (
  (.bool false : Value) = v)))))) ∧ (¬ (b0 = true) → (
  (.bool false : Value) = v)))) ∧ (¬ (x4 = (-1)) → (
  (.bool false : Value) = v)))) ∧ (¬ (x2 = 0) → (
  (.bool false : Value) = v)))) ∧ (¬ (x0 = 1) → (
  (.bool false : Value) = v)))))))))) ∧ (¬ (x19 = 0) → (
  ((x0 = 1) → (
  ((x2 = 0) → (
  ((x4 = (-1)) → (
  ((b0 = true) → (
  ((b1 = true) → (
  (.bool false : Value) = v)) ∧ (¬ (b1 = true) → (
  ((x12 = 0) → (
  ∃ (x20 : Int), ∃ (x21 : Int), ∃ (x22 : Int), ∃ (x23 : Int), (∀ w' : World, Below w.heap.size w w' → Calls Tryz.prog 18 #[.int .i64 2000, .int .i64 0, .int .i64 2000, .int .i64 0] w' (Vc.Ret (.agg #[.int .i64 x20, .int .i64 x21, .int .i64 x22, .int .i64 x23]) w')) ∧
  (((x8 = x20) ∧ ((x9 = x21) ∧ ((x10 = x22) ∧ (x11 = x23)))) → (
  ((x17 = 8) → (
  ((x18 = 0) → (
  ∃ (x24 : Int), ∃ (x25 : Int), ∃ (x26 : Int), ∃ (x27 : Int), (∀ w' : World, Below w.heap.size w w' → Calls Tryz.prog 18 #[.int .i64 94, .int .i64 (-1), .int .i64 102, .int .i64 6] w' (Vc.Ret (.agg #[.int .i64 x24, .int .i64 x25, .int .i64 x26, .int .i64 x27]) w')) ∧
  (.bool false : Value) = v)) ∧ (¬ (x18 = 0) → (
  (.bool false : Value) = v)))) ∧ (¬ (x17 = 8) → (
  (.bool false : Value) = v)))) ∧ (¬ ((x8 = x20) ∧ ((x9 = x21) ∧ ((x10 = x22) ∧ (x11 = x23)))) → (
  (.bool false : Value) = v)))) ∧ (¬ (x12 = 0) → (
  (.bool false : Value) = v)))))) ∧ (¬ (b0 = true) → (
  (.bool false : Value) = v)))) ∧ (¬ (x4 = (-1)) → (
  (.bool false : Value) = v)))) ∧ (¬ (x2 = 0) → (
  (.bool false : Value) = v)))) ∧ (¬ (x0 = 1) → (
  (.bool false : Value) = v)))))))) ∧ (¬ (b3 = true) → (
  ∃ (b4 : Bool), (∀ w' : World, Below w.heap.size w w' → Calls Tryz.prog 34 #[.agg #[.int .i64 95, .int .i64 0, .int .i64 101, .int .i64 5]] w' (Vc.Ret (.bool b4) w')) ∧
  ((b4 = true) → (
  ∃ (x19 : Int), (∀ (β : Nat → Nat) (w' : World), Below w.heap.size w w' → (Vc.RowOk w.heap.size (β 32) (β 33) (β 34) (β 35) (([.int .i64 0, .int .i64 0, .int .i64 100, .int .i64 0, .int .i64 100, .int .i64 100, .int .i64 0, .int .i64 100] : List Value)) 2 26 w' ∧ True) → Calls Tryz.prog 35 #[.agg #[.string ⟨(([113] : List UInt8)).toArray⟩, Vc.ownV (β 32) (β 33) (β 34) (β 35)], .agg #[.int .i64 95, .int .i64 0, .int .i64 101, .int .i64 5]] w' (Vc.Ret (.int .i64 x19) w')) ∧
  ((x19 = 1) → (
  ∃ (x20 : Int), ∃ (x21 : Int), ∃ (x22 : Int), ∃ (x23 : Int), (∀ w' : World, Below w.heap.size w w' → Calls Tryz.prog 53 #[.agg #[.int .i64 95, .int .i64 0, .int .i64 101, .int .i64 5], .int .i64 1] w' (Vc.Ret (.agg #[.int .i64 x20, .int .i64 x21, .int .i64 x22, .int .i64 x23]) w')) ∧
  ∃ (x24 : Int), ∃ (x25 : Int), (∀ w' : World, Below w.heap.size w w' → Calls Tryz.prog 68 #[.agg #[.int .i64 x20, .int .i64 x21]] w' (Vc.Ret (.agg #[.int .i64 x24, .int .i64 x25]) w')) ∧
  ∃ (x26 : Int), ∃ (x27 : Int), (∀ w' : World, Below w.heap.size w w' → Calls Tryz.prog 68 #[.agg #[.int .i64 x22, .int .i64 x23]] w' (Vc.Ret (.agg #[.int .i64 x26, .int .i64 x27]) w')) ∧
  ∃ (x28 : Int), (∀ (β : Nat → Nat) (w' : World), Below w.heap.size w w' → (Vc.RowOk w.heap.size (β 32) (β 33) (β 34) (β 35) (([.int .i64 0, .int .i64 0, .int .i64 100, .int .i64 0, .int .i64 100, .int .i64 100, .int .i64 0, .int .i64 100] : List Value)) 2 26 w' ∧ True) → Calls Tryz.prog 35 #[.agg #[.string ⟨(([113] : List UInt8)).toArray⟩, Vc.ownV (β 32) (β 33) (β 34) (β 35)], .agg #[.int .i64 x24, .int .i64 x25, .int .i64 x26, .int .i64 x27]] w' (Vc.Ret (.int .i64 x28) w')) ∧
  ((x28 = 1) → (
  ((x0 = 1) → (
  ((x2 = 0) → (
  ((x4 = (-1)) → (
  ((b0 = true) → (
  ((b1 = true) → (
  (.bool false : Value) = v)) ∧ (¬ (b1 = true) → (
  ((x12 = 0) → (
  ∃ (x29 : Int), ∃ (x30 : Int), ∃ (x31 : Int), ∃ (x32 : Int), (∀ w' : World, Below w.heap.size w w' → Calls Tryz.prog 18 #[.int .i64 2000, .int .i64 0, .int .i64 2000, .int .i64 0] w' (Vc.Ret (.agg #[.int .i64 x29, .int .i64 x30, .int .i64 x31, .int .i64 x32]) w')) ∧
  (((x8 = x29) ∧ ((x9 = x30) ∧ ((x10 = x31) ∧ (x11 = x32)))) → (
  ((x17 = 8) → (
  ((x18 = 0) → (
  ∃ (x33 : Int), ∃ (x34 : Int), ∃ (x35 : Int), ∃ (x36 : Int), (∀ w' : World, Below w.heap.size w w' → Calls Tryz.prog 18 #[.int .i64 94, .int .i64 (-1), .int .i64 102, .int .i64 6] w' (Vc.Ret (.agg #[.int .i64 x33, .int .i64 x34, .int .i64 x35, .int .i64 x36]) w')) ∧
  (.bool false : Value) = v)) ∧ (¬ (x18 = 0) → (
  (.bool false : Value) = v)))) ∧ (¬ (x17 = 8) → (
  (.bool false : Value) = v)))) ∧ (¬ ((x8 = x29) ∧ ((x9 = x30) ∧ ((x10 = x31) ∧ (x11 = x32)))) → (
  (.bool false : Value) = v)))) ∧ (¬ (x12 = 0) → (
  (.bool false : Value) = v)))))) ∧ (¬ (b0 = true) → (
  (.bool false : Value) = v)))) ∧ (¬ (x4 = (-1)) → (
  (.bool false : Value) = v)))) ∧ (¬ (x2 = 0) → (
  (.bool false : Value) = v)))) ∧ (¬ (x0 = 1) → (
  (.bool false : Value) = v)))) ∧ (¬ (x28 = 1) → (
  ((x28 = 0) → (
  ((x0 = 1) → (
  ((x2 = 0) → (
  ((x4 = (-1)) → (
  ((b0 = true) → (
  ((b1 = true) → (
  (.bool false : Value) = v)) ∧ (¬ (b1 = true) → (
  ((x12 = 0) → (
  ∃ (x29 : Int), ∃ (x30 : Int), ∃ (x31 : Int), ∃ (x32 : Int), (∀ w' : World, Below w.heap.size w w' → Calls Tryz.prog 18 #[.int .i64 2000, .int .i64 0, .int .i64 2000, .int .i64 0] w' (Vc.Ret (.agg #[.int .i64 x29, .int .i64 x30, .int .i64 x31, .int .i64 x32]) w')) ∧
  (((x8 = x29) ∧ ((x9 = x30) ∧ ((x10 = x31) ∧ (x11 = x32)))) → (
  ((x17 = 8) → (
  ((x18 = 0) → (
  ∃ (x33 : Int), ∃ (x34 : Int), ∃ (x35 : Int), ∃ (x36 : Int), (∀ w' : World, Below w.heap.size w w' → Calls Tryz.prog 18 #[.int .i64 94, .int .i64 (-1), .int .i64 102, .int .i64 6] w' (Vc.Ret (.agg #[.int .i64 x33, .int .i64 x34, .int .i64 x35, .int .i64 x36]) w')) ∧
  (.bool false : Value) = v)) ∧ (¬ (x18 = 0) → (
  (.bool false : Value) = v)))) ∧ (¬ (x17 = 8) → (
  (.bool false : Value) = v)))) ∧ (¬ ((x8 = x29) ∧ ((x9 = x30) ∧ ((x10 = x31) ∧ (x11 = x32)))) → (
  (.bool false : Value) = v)))) ∧ (¬ (x12 = 0) → (
  (.bool false : Value) = v)))))) ∧ (¬ (b0 = true) → (
  (.bool false : Value) = v)))) ∧ (¬ (x4 = (-1)) → (
  (.bool false : Value) = v)))) ∧ (¬ (x2 = 0) → (
  (.bool false : Value) = v)))) ∧ (¬ (x0 = 1) → (
  (.bool false : Value) = v)))) ∧ (¬ (x28 = 0) → (
  ((x0 = 1) → (
  ((x2 = 0) → (
  ((x4 = (-1)) → (
  ((b0 = true) → (
  ((b1 = true) → (
  (.bool false : Value) = v)) ∧ (¬ (b1 = true) → (
  ((x12 = 0) → (
  ∃ (x29 : Int), ∃ (x30 : Int), ∃ (x31 : Int), ∃ (x32 : Int), (∀ w' : World, Below w.heap.size w w' → Calls Tryz.prog 18 #[.int .i64 2000, .int .i64 0, .int .i64 2000, .int .i64 0] w' (Vc.Ret (.agg #[.int .i64 x29, .int .i64 x30, .int .i64 x31, .int .i64 x32]) w')) ∧
  (((x8 = x29) ∧ ((x9 = x30) ∧ ((x10 = x31) ∧ (x11 = x32)))) → (
  ((x17 = 8) → (
  ((x18 = 0) → (
  ∃ (x33 : Int), ∃ (x34 : Int), ∃ (x35 : Int), ∃ (x36 : Int), (∀ w' : World, Below w.heap.size w w' → Calls Tryz.prog 18 #[.int .i64 94, .int .i64 (-1), .int .i64 102, .int .i64 6] w' (Vc.Ret (.agg #[.int .i64 x33, .int .i64 x34, .int .i64 x35, .int .i64 x36]) w')) ∧
  (.bool false : Value) = v)) ∧ (¬ (x18 = 0) → (
  (.bool false : Value) = v)))) ∧ (¬ (x17 = 8) → (
  (.bool false : Value) = v)))) ∧ (¬ ((x8 = x29) ∧ ((x9 = x30) ∧ ((x10 = x31) ∧ (x11 = x32)))) → (
  (.bool false : Value) = v)))) ∧ (¬ (x12 = 0) → (
  (.bool false : Value) = v)))))) ∧ (¬ (b0 = true) → (
  (.bool false : Value) = v)))) ∧ (¬ (x4 = (-1)) → (
  (.bool false : Value) = v)))) ∧ (¬ (x2 = 0) → (
  (.bool false : Value) = v)))) ∧ (¬ (x0 = 1) → (
  (.bool false : Value) = v)))))))) ∧ (¬ (x19 = 1) → (
  ((x19 = 0) → (
  ∃ (x20 : Int), ∃ (x21 : Int), ∃ (x22 : Int), ∃ (x23 : Int), (∀ w' : World, Below w.heap.size w w' → Calls Tryz.prog 53 #[.agg #[.int .i64 95, .int .i64 0, .int .i64 101, .int .i64 5], .int .i64 1] w' (Vc.Ret (.agg #[.int .i64 x20, .int .i64 x21, .int .i64 x22, .int .i64 x23]) w')) ∧
  ∃ (x24 : Int), ∃ (x25 : Int), (∀ w' : World, Below w.heap.size w w' → Calls Tryz.prog 68 #[.agg #[.int .i64 x20, .int .i64 x21]] w' (Vc.Ret (.agg #[.int .i64 x24, .int .i64 x25]) w')) ∧
  ∃ (x26 : Int), ∃ (x27 : Int), (∀ w' : World, Below w.heap.size w w' → Calls Tryz.prog 68 #[.agg #[.int .i64 x22, .int .i64 x23]] w' (Vc.Ret (.agg #[.int .i64 x26, .int .i64 x27]) w')) ∧
  ∃ (x28 : Int), (∀ (β : Nat → Nat) (w' : World), Below w.heap.size w w' → (Vc.RowOk w.heap.size (β 32) (β 33) (β 34) (β 35) (([.int .i64 0, .int .i64 0, .int .i64 100, .int .i64 0, .int .i64 100, .int .i64 100, .int .i64 0, .int .i64 100] : List Value)) 2 26 w' ∧ True) → Calls Tryz.prog 35 #[.agg #[.string ⟨(([113] : List UInt8)).toArray⟩, Vc.ownV (β 32) (β 33) (β 34) (β 35)], .agg #[.int .i64 x24, .int .i64 x25, .int .i64 x26, .int .i64 x27]] w' (Vc.Ret (.int .i64 x28) w')) ∧
  ((x28 = 1) → (
  ((x0 = 1) → (
  ((x2 = 0) → (
  ((x4 = (-1)) → (
  ((b0 = true) → (
  ((b1 = true) → (
  (.bool false : Value) = v)) ∧ (¬ (b1 = true) → (
  ((x12 = 0) → (
  ∃ (x29 : Int), ∃ (x30 : Int), ∃ (x31 : Int), ∃ (x32 : Int), (∀ w' : World, Below w.heap.size w w' → Calls Tryz.prog 18 #[.int .i64 2000, .int .i64 0, .int .i64 2000, .int .i64 0] w' (Vc.Ret (.agg #[.int .i64 x29, .int .i64 x30, .int .i64 x31, .int .i64 x32]) w')) ∧
  (((x8 = x29) ∧ ((x9 = x30) ∧ ((x10 = x31) ∧ (x11 = x32)))) → (
  ((x17 = 8) → (
  ((x18 = 0) → (
  ∃ (x33 : Int), ∃ (x34 : Int), ∃ (x35 : Int), ∃ (x36 : Int), (∀ w' : World, Below w.heap.size w w' → Calls Tryz.prog 18 #[.int .i64 94, .int .i64 (-1), .int .i64 102, .int .i64 6] w' (Vc.Ret (.agg #[.int .i64 x33, .int .i64 x34, .int .i64 x35, .int .i64 x36]) w')) ∧
  (.bool false : Value) = v)) ∧ (¬ (x18 = 0) → (
  (.bool false : Value) = v)))) ∧ (¬ (x17 = 8) → (
  (.bool false : Value) = v)))) ∧ (¬ ((x8 = x29) ∧ ((x9 = x30) ∧ ((x10 = x31) ∧ (x11 = x32)))) → (
  (.bool false : Value) = v)))) ∧ (¬ (x12 = 0) → (
  (.bool false : Value) = v)))))) ∧ (¬ (b0 = true) → (
  (.bool false : Value) = v)))) ∧ (¬ (x4 = (-1)) → (
  (.bool false : Value) = v)))) ∧ (¬ (x2 = 0) → (
  (.bool false : Value) = v)))) ∧ (¬ (x0 = 1) → (
  (.bool false : Value) = v)))) ∧ (¬ (x28 = 1) → (
  ((x28 = 0) → (
  ((x0 = 1) → (
  ((x2 = 0) → (
  ((x4 = (-1)) → (
  ((b0 = true) → (
  ((b1 = true) → (
  (.bool false : Value) = v)) ∧ (¬ (b1 = true) → (
  ((x12 = 0) → (
  ∃ (x29 : Int), ∃ (x30 : Int), ∃ (x31 : Int), ∃ (x32 : Int), (∀ w' : World, Below w.heap.size w w' → Calls Tryz.prog 18 #[.int .i64 2000, .int .i64 0, .int .i64 2000, .int .i64 0] w' (Vc.Ret (.agg #[.int .i64 x29, .int .i64 x30, .int .i64 x31, .int .i64 x32]) w')) ∧
  (((x8 = x29) ∧ ((x9 = x30) ∧ ((x10 = x31) ∧ (x11 = x32)))) → (
  ((x17 = 8) → (
  ((x18 = 0) → (
  ∃ (x33 : Int), ∃ (x34 : Int), ∃ (x35 : Int), ∃ (x36 : Int), (∀ w' : World, Below w.heap.size w w' → Calls Tryz.prog 18 #[.int .i64 94, .int .i64 (-1), .int .i64 102, .int .i64 6] w' (Vc.Ret (.agg #[.int .i64 x33, .int .i64 x34, .int .i64 x35, .int .i64 x36]) w')) ∧
  (.bool ((x24 == x33) && ((x25 == x34) && ((x26 == x35) && (x27 == x36)))) : Value) = v)) ∧ (¬ (x18 = 0) → (
  (.bool false : Value) = v)))) ∧ (¬ (x17 = 8) → (
  (.bool false : Value) = v)))) ∧ (¬ ((x8 = x29) ∧ ((x9 = x30) ∧ ((x10 = x31) ∧ (x11 = x32)))) → (
  (.bool false : Value) = v)))) ∧ (¬ (x12 = 0) → (
  (.bool false : Value) = v)))))) ∧ (¬ (b0 = true) → (
  (.bool false : Value) = v)))) ∧ (¬ (x4 = (-1)) → (
  (.bool false : Value) = v)))) ∧ (¬ (x2 = 0) → (
  (.bool false : Value) = v)))) ∧ (¬ (x0 = 1) → (
  (.bool false : Value) = v)))) ∧ (¬ (x28 = 0) → (
  ((x0 = 1) → (
  ((x2 = 0) → (
  ((x4 = (-1)) → (
  ((b0 = true) → (
  ((b1 = true) → (
  (.bool false : Value) = v)) ∧ (¬ (b1 = true) → (
  ((x12 = 0) → (
  ∃ (x29 : Int), ∃ (x30 : Int), ∃ (x31 : Int), ∃ (x32 : Int), (∀ w' : World, Below w.heap.size w w' → Calls Tryz.prog 18 #[.int .i64 2000, .int .i64 0, .int .i64 2000, .int .i64 0] w' (Vc.Ret (.agg #[.int .i64 x29, .int .i64 x30, .int .i64 x31, .int .i64 x32]) w')) ∧
  (((x8 = x29) ∧ ((x9 = x30) ∧ ((x10 = x31) ∧ (x11 = x32)))) → (
  ((x17 = 8) → (
  ((x18 = 0) → (
  ∃ (x33 : Int), ∃ (x34 : Int), ∃ (x35 : Int), ∃ (x36 : Int), (∀ w' : World, Below w.heap.size w w' → Calls Tryz.prog 18 #[.int .i64 94, .int .i64 (-1), .int .i64 102, .int .i64 6] w' (Vc.Ret (.agg #[.int .i64 x33, .int .i64 x34, .int .i64 x35, .int .i64 x36]) w')) ∧
  (.bool false : Value) = v)) ∧ (¬ (x18 = 0) → (
  (.bool false : Value) = v)))) ∧ (¬ (x17 = 8) → (
  (.bool false : Value) = v)))) ∧ (¬ ((x8 = x29) ∧ ((x9 = x30) ∧ ((x10 = x31) ∧ (x11 = x32)))) → (
  (.bool false : Value) = v)))) ∧ (¬ (x12 = 0) → (
  (.bool false : Value) = v)))))) ∧ (¬ (b0 = true) → (
  (.bool false : Value) = v)))) ∧ (¬ (x4 = (-1)) → (
  (.bool false : Value) = v)))) ∧ (¬ (x2 = 0) → (
  (.bool false : Value) = v)))) ∧ (¬ (x0 = 1) → (
  (.bool false : Value) = v)))))))) ∧ (¬ (x19 = 0) → (
  ((x0 = 1) → (
  ((x2 = 0) → (
  ((x4 = (-1)) → (
  ((b0 = true) → (
  ((b1 = true) → (
  (.bool false : Value) = v)) ∧ (¬ (b1 = true) → (
  ((x12 = 0) → (
  ∃ (x20 : Int), ∃ (x21 : Int), ∃ (x22 : Int), ∃ (x23 : Int), (∀ w' : World, Below w.heap.size w w' → Calls Tryz.prog 18 #[.int .i64 2000, .int .i64 0, .int .i64 2000, .int .i64 0] w' (Vc.Ret (.agg #[.int .i64 x20, .int .i64 x21, .int .i64 x22, .int .i64 x23]) w')) ∧
  (((x8 = x20) ∧ ((x9 = x21) ∧ ((x10 = x22) ∧ (x11 = x23)))) → (
  ((x17 = 8) → (
  ((x18 = 0) → (
  (.bool false : Value) = v)) ∧ (¬ (x18 = 0) → (
  (.bool false : Value) = v)))) ∧ (¬ (x17 = 8) → (
  (.bool false : Value) = v)))) ∧ (¬ ((x8 = x20) ∧ ((x9 = x21) ∧ ((x10 = x22) ∧ (x11 = x23)))) → (
  (.bool false : Value) = v)))) ∧ (¬ (x12 = 0) → (
  (.bool false : Value) = v)))))) ∧ (¬ (b0 = true) → (
  (.bool false : Value) = v)))) ∧ (¬ (x4 = (-1)) → (
  (.bool false : Value) = v)))) ∧ (¬ (x2 = 0) → (
  (.bool false : Value) = v)))) ∧ (¬ (x0 = 1) → (
  (.bool false : Value) = v)))))))) ∧ (¬ (b4 = true) → (
  ((x0 = 1) → (
  ((x2 = 0) → (
  ((x4 = (-1)) → (
  ((b0 = true) → (
  ((b1 = true) → (
  (.bool false : Value) = v)) ∧ (¬ (b1 = true) → (
  ((x12 = 0) → (
  ∃ (x19 : Int), ∃ (x20 : Int), ∃ (x21 : Int), ∃ (x22 : Int), (∀ w' : World, Below w.heap.size w w' → Calls Tryz.prog 18 #[.int .i64 2000, .int .i64 0, .int .i64 2000, .int .i64 0] w' (Vc.Ret (.agg #[.int .i64 x19, .int .i64 x20, .int .i64 x21, .int .i64 x22]) w')) ∧
  (((x8 = x19) ∧ ((x9 = x20) ∧ ((x10 = x21) ∧ (x11 = x22)))) → (
  ((x17 = 8) → (
  ((x18 = 0) → (
  ∃ (x23 : Int), ∃ (x24 : Int), ∃ (x25 : Int), ∃ (x26 : Int), (∀ w' : World, Below w.heap.size w w' → Calls Tryz.prog 18 #[.int .i64 94, .int .i64 (-1), .int .i64 102, .int .i64 6] w' (Vc.Ret (.agg #[.int .i64 x23, .int .i64 x24, .int .i64 x25, .int .i64 x26]) w')) ∧
  (.bool false : Value) = v)) ∧ (¬ (x18 = 0) → (
  (.bool false : Value) = v)))) ∧ (¬ (x17 = 8) → (
  (.bool false : Value) = v)))) ∧ (¬ ((x8 = x19) ∧ ((x9 = x20) ∧ ((x10 = x21) ∧ (x11 = x22)))) → (
  (.bool false : Value) = v)))) ∧ (¬ (x12 = 0) → (
  (.bool false : Value) = v)))))) ∧ (¬ (b0 = true) → (
  (.bool false : Value) = v)))) ∧ (¬ (x4 = (-1)) → (
  (.bool false : Value) = v)))) ∧ (¬ (x2 = 0) → (
  (.bool false : Value) = v)))) ∧ (¬ (x0 = 1) → (
  (.bool false : Value) = v)))))))) ∧ (¬ (b2 = true) → (
  (.bool false : Value) = v))) : Calls Tryz.prog 10 #[] w (Vc.Ret v w) :=
  Vc.pure_of (base_inl [25, 27, 67, 66, 31, 32, 18] (by kernel_rfl)) [] 200 Tryz.func10 (b := (Tryz.f10.body).getD .skip) (by kernel_rfl) [] ⟨0, 0, 0, 0, 0, 0, 0⟩ (Vc.envOf [] [] [] []) (by kernel_rfl) (by kernel_rfl) (by kernel_rfl) h

theorem vc_safety_near_1 (x0 : Int) (w : World) (v : Value) (h : 
  ∀ x1 : Int, x1 = (if 536870912 < x0 then 536870912 else x0) →
  ∀ x2 : Int, x2 = (if x1 > (-536870912) then x1 else (-536870912)) →
  (.int .i64 x2 : Value) = v) : Calls Tryz.prog 112 #[.int .i64 x0] w (Vc.Ret v w) :=
  Vc.pure_of base [] 200 Tryz.func112 (b := (Tryz.f112.body).getD .skip) (by kernel_rfl) [.cv (.one (.int .i64 (.var 0)))] ⟨1, 0, 0, 0, 0, 0, 0⟩ (Vc.envOf [x0] [] [] []) (by kernel_rfl) (by kernel_rfl) (by kernel_rfl) h

end Go.Proofs.YtbpcdmjjdnjmbaaGreat
