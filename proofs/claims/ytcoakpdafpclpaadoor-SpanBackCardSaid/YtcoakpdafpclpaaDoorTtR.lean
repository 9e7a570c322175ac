/- What the walks of functions come to (written by program). -/
import Derived.Test.YtcoakpdafpclpaaDoorTtG2
set_option linter.unusedVariables false
set_option maxRecDepth 100000
namespace Go.Proofs.YtcoakpdafpclpaaDoor
open Go Go.RowKit
theorem vc_ullageref01_digits (x0 : Int) (w : World) (v : Value) (h : 
  ∃ (Is0 : List Vc.Vl → Prop) (ms0 : List Vc.Vl → Nat), Is0 [.s [], .i x0, .s []] ∧ ∀ (s0 : List UInt8) (x1 : Int) (s1 : List UInt8), Is0 [.s s0, .i x1, .s s1] → (
  ∀ x2 : Int, x2 = Int.tmod x1 10 →
  ∀ x3 : Int, x3 = IntKind.u64.wrap (48 + x2) →
  ∀ x4 : Int, x4 = IntKind.u8.wrap (x3) →
  (∀ v ∈ ([.int .u8 x4] : List Value), ∃ n : Int, v = Value.int .u8 n) ∧ ∀ s2 : List UInt8, s2 = List.map Vc.byteV ([.int .u8 x4] : List Value) →
  (List.length s2 + List.length s0 ≤ 9223372036854775807) ∧ ∀ s3 : List UInt8, s3 = s2 ++ s0 →
  ∀ x5 : Int, x5 = IntKind.u64.wrap (Int.tdiv x1 10) →
  ((x5 = 0) → (
  (.string ⟨s3.toArray⟩ : Value) = v)) ∧ (¬ (x5 = 0) → (
  Is0 [.s s3, .i x5, .s s1] ∧ ms0 [.s s3, .i x5, .s s1] < ms0 [.s s0, .i x1, .s s1])))) : Calls Tryd.prog 38 #[.int .u64 x0] w (Vc.Ret v w) :=
  Vc.pure_of base [(9000000000002, .inv [] [3, 0, 2] [4, 5, 6, 7, 8, 9, 10, 11, 12, 13, 14, 15, 16])] 200 Tryd.func38 (b := (Tryd.f38.body).getD .skip) (by kernel_rfl) [.cv (.one (.int .u64 (.var 0)))] ⟨1, 0, 0, 0, 0, 0, 0⟩ (Vc.envOf [x0] [] [] []) (by kernel_rfl) (by kernel_rfl) (by kernel_rfl) h

theorem vc_ullageref01_Text (x0 : Int) (w : World) (v : Value) (h : 
  ∃ (b0 : Bool), (∀ w' : World, Below w.heap.size w w' → Calls Tryd.prog 37 #[.int .i64 x0] w' (Vc.Ret (.bool b0) w')) ∧
  ((b0 = true) → (
  ∀ x1 : Int, x1 = IntKind.u64.wrap (x0) →
  ((x0 < 0) → (
  ∀ x2 : Int, x2 = IntKind.i64.wrap (0 - x0) →
  ∀ x3 : Int, x3 = IntKind.u64.wrap (x2) →
  ∀ x4 : Int, x4 = IntKind.u64.wrap (Int.tdiv x3 4294967296) →
  ∃ (s0 : List UInt8), (∀ w' : World, Below w.heap.size w w' → Calls Tryd.prog 38 #[.int .u64 x4] w' (Vc.Ret (.string ⟨s0.toArray⟩) w')) ∧
  (List.length ([45] : List UInt8) + List.length s0 ≤ 9223372036854775807) ∧ ∀ s1 : List UInt8, s1 = ([45] : List UInt8) ++ s0 →
  ∀ x5 : Int, x5 = Int.tmod x3 4294967296 →
  ((x5 = 0) → (
  (.string ⟨s1.toArray⟩ : Value) = v)) ∧ (¬ (x5 = 0) → (
  (List.length s1 + List.length ([46] : List UInt8) ≤ 9223372036854775807) ∧ ∀ s2 : List UInt8, s2 = s1 ++ ([46] : List UInt8) →
  ∃ (Ix6 : List Vc.Vl → Prop) (mx6 : List Vc.Vl → Nat), Ix6 [.i x5, .s s2] ∧ ∀ (x6 : Int) (s3 : List UInt8), Ix6 [.i x6, .s s3] → (
  ((0 < x6) → (
  ∀ x7 : Int, x7 = IntKind.u64.wrap (x6 * 10) →
  ∀ x8 : Int, x8 = IntKind.u64.wrap (Int.tdiv x7 4294967296) →
  ∀ x9 : Int, x9 = IntKind.u64.wrap (48 + x8) →
  ∀ x10 : Int, x10 = IntKind.u8.wrap (x9) →
  (∀ v ∈ ([.int .u8 x10] : List Value), ∃ n : Int, v = Value.int .u8 n) ∧ ∀ s4 : List UInt8, s4 = List.map Vc.byteV ([.int .u8 x10] : List Value) →
  (List.length s3 + List.length s4 ≤ 9223372036854775807) ∧ ∀ s5 : List UInt8, s5 = s3 ++ s4 →
  ∀ x11 : Int, x11 = Int.tmod x7 4294967296 →
  Ix6 [.i x11, .s s5] ∧ mx6 [.i x11, .s s5] < mx6 [.i x6, .s s3])) ∧ (¬ (0 < x6) → (
  (.string ⟨s3.toArray⟩ : Value) = v))))))) ∧ (¬ (x0 < 0) → (
  ∀ x2 : Int, x2 = IntKind.u64.wrap (Int.tdiv x1 4294967296) →
  ∃ (s0 : List UInt8), (∀ w' : World, Below w.heap.size w w' → Calls Tryd.prog 38 #[.int .u64 x2] w' (Vc.Ret (.string ⟨s0.toArray⟩) w')) ∧
  (List.length ([] : List UInt8) + List.length s0 ≤ 9223372036854775807) ∧ ∀ s1 : List UInt8, s1 = ([] : List UInt8) ++ s0 →
  ∀ x3 : Int, x3 = Int.tmod x1 4294967296 →
  ((x3 = 0) → (
  (.string ⟨s1.toArray⟩ : Value) = v)) ∧ (¬ (x3 = 0) → (
  (List.length s1 + List.length ([46] : List UInt8) ≤ 9223372036854775807) ∧ ∀ s2 : List UInt8, s2 = s1 ++ ([46] : List UInt8) →
  ∃ (Ix4 : List Vc.Vl → Prop) (mx4 : List Vc.Vl → Nat), Ix4 [.i x3, .s s2] ∧ ∀ (x4 : Int) (s3 : List UInt8), Ix4 [.i x4, .s s3] → (
  ((0 < x4) → (
  ∀ x5 : Int, x5 = IntKind.u64.wrap (x4 * 10) →
  ∀ x6 : Int, x6 = IntKind.u64.wrap (Int.tdiv x5 4294967296) →
  ∀ x7 : Int, x7 = IntKind.u64.wrap (48 + x6) →
  ∀ x8 : Int, x8 = IntKind.u8.wrap (x7) →
  (∀ v ∈ ([.int .u8 x8] : List Value), ∃ n : Int, v = Value.int .u8 n) ∧ ∀ s4 : List UInt8, s4 = List.map Vc.byteV ([.int .u8 x8] : List Value) →
  (List.length s3 + List.length s4 ≤ 9223372036854775807) ∧ ∀ s5 : List UInt8, s5 = s3 ++ s4 →
  ∀ x9 : Int, x9 = Int.tmod x5 4294967296 →
  Ix4 [.i x9, .s s5] ∧ mx4 [.i x9, .s s5] < mx4 [.i x4, .s s3])) ∧ (¬ (0 < x4) → (
  (.string ⟨s3.toArray⟩ : Value) = v))))))))) ∧ (¬ (b0 = true) → (
  (.string ⟨(([] : List UInt8)).toArray⟩ : Value) = v))) : Calls Tryd.prog 8 #[.int .i64 x0] w (Vc.Ret v w) :=
  Vc.pure_of base [(2000000000014, .inv [] [6, 4] [30, 31, 32, 33, 34, 35, 36, 37, 38, 39, 40, 41, 42, 43])] 200 Tryd.func8 (b := (Tryd.f8.body).getD .skip) (by kernel_rfl) [.cv (.one (.int .i64 (.var 0)))] ⟨1, 0, 0, 0, 0, 0, 0⟩ (Vc.envOf [x0] [] [] []) (by kernel_rfl) (by kernel_rfl) (by kernel_rfl) h

theorem vc_ullageref01_form (s0 : List UInt8) (w : World) (v : Value) (h : 
  ∀ x0 : Int, x0 = ((s0.length : Nat) : Int) →
  ∃ (Ix1 : List Vc.Vl → Prop) (mx1 : List Vc.Vl → Nat), Ix1 [.i x0, .b false, .i 0, .b false, .b false, .i 0] ∧ ∀ (x1 : Int) (b0 : Bool) (x2 : Int) (b1 : Bool) (b2 : Bool) (x3 : Int), Ix1 [.i x1, .b b0, .i x2, .b b1, .b b2, .i x3] → (
  ∀ x4 : Int, x4 = ((s0.length : Nat) : Int) →
  ((x3 < x4) → (
  ∀ x5 : Int, x5 = ((s0.length : Nat) : Int) →
  (0 ≤ x3) ∧
  (x3 < x5) ∧
  ∀ x6 : Int, x6 = (((s0.getD (Int.toNat x3) 0).toNat : Nat) : Int) →
  ((x6 = 46) → (
  ∀ x7 : Int, x7 = ((s0.length : Nat) : Int) →
  ((x1 = x7) → (
  ((0 < x3) → (
  ∀ x8 : Int, x8 = ((s0.length : Nat) : Int) →
  ∀ x9 : Int, x9 = IntKind.i64.wrap (x8 - 1) →
  ((x3 < x9) → (
  ((b2 = true) → (
  ∀ x10 : Int, x10 = IntKind.i64.wrap (x3 + 1) →
  Ix1 [.i x3, .b b0, .i x2, .b b1, .b true, .i x10] ∧ mx1 [.i x3, .b b0, .i x2, .b b1, .b true, .i x10] < mx1 [.i x1, .b b0, .i x2, .b b1, .b b2, .i x3])) ∧ (¬ (b2 = true) → (
  ∀ x10 : Int, x10 = ((s0.length : Nat) : Int) →
  (0 ≤ x3) ∧
  (x3 < x10) ∧
  ∀ x11 : Int, x11 = (((s0.getD (Int.toNat x3) 0).toNat : Nat) : Int) →
  ∀ x12 : Int, x12 = IntKind.i64.wrap (x3 + 1) →
  Ix1 [.i x3, .b b0, .i x2, .b b1, .b (decide (x11 > 48)), .i x12] ∧ mx1 [.i x3, .b b0, .i x2, .b b1, .b (decide (x11 > 48)), .i x12] < mx1 [.i x1, .b b0, .i x2, .b b1, .b b2, .i x3])))) ∧ (¬ (x3 < x9) → (
  ∀ x10 : Int, x10 = ((s0.length : Nat) : Int) →
  (0 ≤ x3) ∧
  (x3 < x10) ∧
  ∀ x11 : Int, x11 = (((s0.getD (Int.toNat x3) 0).toNat : Nat) : Int) →
  ((x11 < 48) → (
  (.tuple #[.bool false, .int .i64 0, .bool false] : Value) = v)) ∧ (¬ (x11 < 48) → (
  ∀ x12 : Int, x12 = ((s0.length : Nat) : Int) →
  (0 ≤ x3) ∧
  (x3 < x12) ∧
  ∀ x13 : Int, x13 = (((s0.getD (Int.toNat x3) 0).toNat : Nat) : Int) →
  ((57 < x13) → (
  (.tuple #[.bool false, .int .i64 0, .bool false] : Value) = v)) ∧ (¬ (57 < x13) → (
  ((b2 = true) → (
  ∀ x14 : Int, x14 = IntKind.i64.wrap (x3 + 1) →
  Ix1 [.i x1, .b b0, .i x2, .b b1, .b true, .i x14] ∧ mx1 [.i x1, .b b0, .i x2, .b b1, .b true, .i x14] < mx1 [.i x1, .b b0, .i x2, .b b1, .b b2, .i x3])) ∧ (¬ (b2 = true) → (
  ∀ x14 : Int, x14 = ((s0.length : Nat) : Int) →
  (0 ≤ x3) ∧
  (x3 < x14) ∧
  ∀ x15 : Int, x15 = (((s0.getD (Int.toNat x3) 0).toNat : Nat) : Int) →
  ∀ x16 : Int, x16 = IntKind.i64.wrap (x3 + 1) →
  Ix1 [.i x1, .b b0, .i x2, .b b1, .b (decide (x15 > 48)), .i x16] ∧ mx1 [.i x1, .b b0, .i x2, .b b1, .b (decide (x15 > 48)), .i x16] < mx1 [.i x1, .b b0, .i x2, .b b1, .b b2, .i x3])))))))))) ∧ (¬ (0 < x3) → (
  ∀ x8 : Int, x8 = ((s0.length : Nat) : Int) →
  (0 ≤ x3) ∧
  (x3 < x8) ∧
  ∀ x9 : Int, x9 = (((s0.getD (Int.toNat x3) 0).toNat : Nat) : Int) →
  ((x9 < 48) → (
  (.tuple #[.bool false, .int .i64 0, .bool false] : Value) = v)) ∧ (¬ (x9 < 48) → (
  ∀ x10 : Int, x10 = ((s0.length : Nat) : Int) →
  (0 ≤ x3) ∧
  (x3 < x10) ∧
  ∀ x11 : Int, x11 = (((s0.getD (Int.toNat x3) 0).toNat : Nat) : Int) →
  ((57 < x11) → (
  (.tuple #[.bool false, .int .i64 0, .bool false] : Value) = v)) ∧ (¬ (57 < x11) → (
  ((b2 = true) → (
  ∀ x12 : Int, x12 = IntKind.i64.wrap (x3 + 1) →
  Ix1 [.i x1, .b b0, .i x2, .b b1, .b true, .i x12] ∧ mx1 [.i x1, .b b0, .i x2, .b b1, .b true, .i x12] < mx1 [.i x1, .b b0, .i x2, .b b1, .b b2, .i x3])) ∧ (¬ (b2 = true) → (
  ∀ x12 : Int, x12 = ((s0.length : Nat) : Int) →
  (0 ≤ x3) ∧
  (x3 < x12) ∧
  ∀ x13 : Int, x13 = (((s0.getD (Int.toNat x3) 0).toNat : Nat) : Int) →
  ∀ x14 : Int, x14 = IntKind.i64.wrap (x3 + 1) →
  Ix1 [.i x1, .b b0, .i x2, .b b1, .b (decide (x13 > 48)), .i x14] ∧ mx1 [.i x1, .b b0, .i x2, .b b1, .b (decide (x13 > 48)), .i x14] < mx1 [.i x1, .b b0, .i x2, .b b1, .b b2, .i x3])))))))))) ∧ (¬ (x1 = x7) → (
  ∀ x8 : Int, x8 = ((s0.length : Nat) : Int) →
  (0 ≤ x3) ∧
  (x3 < x8) ∧
  ∀ x9 : Int, x9 = (((s0.getD (Int.toNat x3) 0).toNat : Nat) : Int) →
  ((x9 < 48) → (
  (.tuple #[.bool false, .int .i64 0, .bool false] : Value) = v)) ∧ (¬ (x9 < 48) → (
  ∀ x10 : Int, x10 = ((s0.length : Nat) : Int) →
  (0 ≤ x3) ∧
  (x3 < x10) ∧
  ∀ x11 : Int, x11 = (((s0.getD (Int.toNat x3) 0).toNat : Nat) : Int) →
  ((57 < x11) → (
  (.tuple #[.bool false, .int .i64 0, .bool false] : Value) = v)) ∧ (¬ (57 < x11) → (
  ((b2 = true) → (
  ∀ x12 : Int, x12 = IntKind.i64.wrap (x3 + 1) →
  Ix1 [.i x1, .b b0, .i x2, .b b1, .b true, .i x12] ∧ mx1 [.i x1, .b b0, .i x2, .b b1, .b true, .i x12] < mx1 [.i x1, .b b0, .i x2, .b b1, .b b2, .i x3])) ∧ (¬ (b2 = true) → (
  ∀ x12 : Int, x12 = ((s0.length : Nat) : Int) →
  (0 ≤ x3) ∧
  (x3 < x12) ∧
  ∀ x13 : Int, x13 = (((s0.getD (Int.toNat x3) 0).toNat : Nat) : Int) →
  ∀ x14 : Int, x14 = IntKind.i64.wrap (x3 + 1) →
  Ix1 [.i x1, .b b0, .i x2, .b b1, .b (decide (x13 > 48)), .i x14] ∧ mx1 [.i x1, .b b0, .i x2, .b b1, .b (decide (x13 > 48)), .i x14] < mx1 [.i x1, .b b0, .i x2, .b b1, .b b2, .i x3])))))))))) ∧ (¬ (x6 = 46) → (
  ∀ x7 : Int, x7 = ((s0.length : Nat) : Int) →
  (0 ≤ x3) ∧
  (x3 < x7) ∧
  ∀ x8 : Int, x8 = (((s0.getD (Int.toNat x3) 0).toNat : Nat) : Int) →
  ((x8 < 48) → (
  (.tuple #[.bool false, .int .i64 0, .bool false] : Value) = v)) ∧ (¬ (x8 < 48) → (
  ∀ x9 : Int, x9 = ((s0.length : Nat) : Int) →
  (0 ≤ x3) ∧
  (x3 < x9) ∧
  ∀ x10 : Int, x10 = (((s0.getD (Int.toNat x3) 0).toNat : Nat) : Int) →
  ((57 < x10) → (
  (.tuple #[.bool false, .int .i64 0, .bool false] : Value) = v)) ∧ (¬ (57 < x10) → (
  ((b2 = true) → (
  ∀ x11 : Int, x11 = IntKind.i64.wrap (x3 + 1) →
  Ix1 [.i x1, .b b0, .i x2, .b b1, .b true, .i x11] ∧ mx1 [.i x1, .b b0, .i x2, .b b1, .b true, .i x11] < mx1 [.i x1, .b b0, .i x2, .b b1, .b b2, .i x3])) ∧ (¬ (b2 = true) → (
  ∀ x11 : Int, x11 = ((s0.length : Nat) : Int) →
  (0 ≤ x3) ∧
  (x3 < x11) ∧
  ∀ x12 : Int, x12 = (((s0.getD (Int.toNat x3) 0).toNat : Nat) : Int) →
  ∀ x13 : Int, x13 = IntKind.i64.wrap (x3 + 1) →
  Ix1 [.i x1, .b b0, .i x2, .b b1, .b (decide (x12 > 48)), .i x13] ∧ mx1 [.i x1, .b b0, .i x2, .b b1, .b (decide (x12 > 48)), .i x13] < mx1 [.i x1, .b b0, .i x2, .b b1, .b b2, .i x3])))))))))) ∧ (¬ (x3 < x4) → (
  ∀ x5 : Int, x5 = ((s0.length : Nat) : Int) →
  ((0 < x5) → (
  ((x1 = 1) → (
  (.tuple #[.bool true, .int .i64 x1, .bool b2] : Value) = v)) ∧ (¬ (x1 = 1) → (
  ∀ x6 : Int, x6 = ((s0.length : Nat) : Int) →
  (0 < x6) ∧
  ∀ x7 : Int, x7 = (((s0.getD (Int.toNat 0) 0).toNat : Nat) : Int) →
  (.tuple #[.bool (x7 != 48), .int .i64 x1, .bool b2] : Value) = v)))) ∧ (¬ (0 < x5) → (
  (.tuple #[.bool false, .int .i64 x1, .bool b2] : Value) = v)))))) : Calls Tryd.prog 23 #[.string ⟨s0.toArray⟩] w (Vc.Ret v w) :=
  Vc.pure_of base [(4000000000004, .inv [] [5, 2, 3, 4, 6, 7] [10, 11, 12, 13, 16, 17, 18, 19, 20, 21, 22, 23, 24, 25, 26, 27, 28, 29, 30, 31, 32, 33, 34, 35, 36, 37, 38, 39, 40, 41, 42, 43, 44, 45, 46, 47, 48, 49, 50, 51, 52, 53, 54, 14, 15])] 200 Tryd.func23 (b := (Tryd.f23.body).getD .skip) (by kernel_rfl) [.cv (.one (.sv 0))] ⟨0, 0, 0, 0, 0, 1, 0⟩ (Vc.envOf [] [] [] [] [s0]) (by kernel_rfl) (by kernel_rfl) (by kernel_rfl) h

theorem vc_ullageref01_Up_3 (x0 x1 : Int) (w : World) (v : Value) (h : 
  ∀ x2 : Int, x2 = IntKind.i64.wrap (x0 * 8) →
  ∀ x3 : Int, x3 = x1 / 2305843009213693952 →
  ∀ x4 : Int, x4 = IntKind.i64.wrap (x3) →
  ∀ x5 : Int, x5 = IntKind.i64.wrap (x2 + x4) →
  ∀ x6 : Int, x6 = IntKind.u64.wrap (x1 * 8) →
  (.agg #[.int .i64 x5, .int .u64 x6] : Value) = v) : Calls Tryd.prog 25 #[.agg #[.int .i64 x0, .int .u64 x1], .int .i64 3] w (Vc.Ret v w) :=
  Vc.pure_of base [] 200 Tryd.func25 (b := (Tryd.f25.body).getD .skip) (by kernel_rfl) [.cv (.agg [.int .i64 (.var 0), .int .u64 (.var 1)]), .cv (.one (.int .i64 (.lit (3))))] ⟨2, 0, 0, 0, 0, 0, 0⟩ (Vc.envOf [x0, x1] [] [] []) (by kernel_rfl) (by kernel_rfl) (by kernel_rfl) h

def Vj_ullageref01_Read_T4 (w : World) (x5 : Int) (x6 : Int) (s0 : List UInt8) (x4 : Int) (v : Value) (Ix3 : List Vc.Vl → Prop) (x3 : Int) (x7 : Int) (x8 : Int) (mx3 : List Vc.Vl → Nat) : Prop :=
  ∃ (x9 : Int), ∃ (x10 : Int), (∀ w' : World, Below w.heap.size w w' → Calls Tryd.prog 25 #[.agg #[.int .i64 x5, .int .u64 x6], .int .i64 3] w' (Vc.Ret (.agg #[.int .i64 x9, .int .u64 x10]) w')) ∧
  ∃ (x11 : Int), ∃ (x12 : Int), (∀ w' : World, Below w.heap.size w w' → Calls Tryd.prog 26 #[.agg #[.int .i64 x5, .int .u64 x6]] w' (Vc.Ret (.agg #[.int .i64 x11, .int .u64 x12]) w')) ∧
  ∃ (x13 : Int), ∃ (x14 : Int), (∀ w' : World, Below w.heap.size w w' → Calls Tryd.prog 24 #[.agg #[.int .i64 x9, .int .u64 x10], .agg #[.int .i64 x11, .int .u64 x12]] w' (Vc.Ret (.agg #[.int .i64 x13, .int .u64 x14]) w')) ∧
  ∀ x15 : Int, x15 = ((s0.length : Nat) : Int) →
  (0 ≤ x4) ∧
  (x4 < x15) ∧
  ∀ x16 : Int, x16 = (((s0.getD (Int.toNat x4) 0).toNat : Nat) : Int) →
  ∀ x17 : Int, x17 = IntKind.u8.wrap (x16 - 48) →
  ∀ x18 : Int, x18 = IntKind.i64.wrap (x17) →
  ∃ (x19 : Int), ∃ (x20 : Int), (∀ w' : World, Below w.heap.size w w' → Calls Tryd.prog 27 #[.int .i64 x18] w' (Vc.Ret (.agg #[.int .i64 x19, .int .u64 x20]) w')) ∧
  ∃ (x21 : Int), ∃ (x22 : Int), (∀ w' : World, Below w.heap.size w w' → Calls Tryd.prog 24 #[.agg #[.int .i64 x13, .int .u64 x14], .agg #[.int .i64 x19, .int .u64 x20]] w' (Vc.Ret (.agg #[.int .i64 x21, .int .u64 x22]) w')) ∧
  ∃ (x23 : Int), ∃ (x24 : Int), (∀ w' : World, Below w.heap.size w w' → Calls Tryd.prog 27 #[.int .i64 1099511627776] w' (Vc.Ret (.agg #[.int .i64 x23, .int .u64 x24]) w')) ∧
  ∃ (b2 : Bool), (∀ w' : World, Below w.heap.size w w' → Calls Tryd.prog 28 #[.agg #[.int .i64 x23, .int .u64 x24], .agg #[.int .i64 x21, .int .u64 x22]] w' (Vc.Ret (.bool b2) w')) ∧
  ((b2 = true) → (
  (.tuple #[.agg #[.int .i64 0, .int .i64 0], .int .i64 4] : Value) = v)) ∧ (¬ (b2 = true) → (
  ∀ x25 : Int, x25 = IntKind.i64.wrap (x4 + 1) →
  Ix3 [.i x3, .i x25, .i x21, .i x22, .i x7, .i x8] ∧ mx3 [.i x3, .i x25, .i x21, .i x22, .i x7, .i x8] < mx3 [.i x3, .i x4, .i x5, .i x6, .i x7, .i x8]))
def Vj_ullageref01_Read_T3 (l1 : List Vc.OV) (w : World) (x13 : Int) (x14 : Int) (x12 : Int) (Ix12 : List Vc.Vl → Prop) (mx12 : List Vc.Vl → Nat) : Prop :=
  ∀ x15 : Int, x15 = (((0 + (l1.length + 0)) / 1 : Nat) : Int) →
  ∀ x16 : Int, x16 = IntKind.i64.wrap (x15 - 1) →
  ∃ (Ix17 : List Vc.Vl → Prop) (mx17 : List Vc.Vl → Nat), Ix17 [.i 0, .i x16, .l ((l1.map (·.1) ++ (([] : List Value))))] ∧ ∀ (x17 : Int) (x18 : Int) (l2 : List Vc.OV), Ix17 [.i x17, .i x18, .l ((l2.map (·.1) ++ (([] : List Value))))] → (
  ((0 ≤ x18) → (
  ∀ x19 : Int, x19 = (((0 + (l2.length + 0)) / 1 : Nat) : Int) →
  (0 ≤ x18) ∧
  (x18 < x19) ∧
  ∃ (x20 : Int), ((l2.map (·.1) ++ (([] : List Value))))[(Int.toNat x18) * 1 + 0]? = some (.int .i64 x20) ∧
  ∀ x21 : Int, x21 = IntKind.i64.wrap (2 * x20) →
  ∀ x22 : Int, x22 = IntKind.i64.wrap (x21 + x17) →
  ∀ x23 : Int, x23 = Int.tmod x22 10 →
  ∀ x24 : Int, x24 = (((0 + (l2.length + 0)) / 1 : Nat) : Int) →
  (0 ≤ x18) ∧
  (x18 < x24) ∧
  ∀ x25 : Int, x25 = (((0 + (l2.length + 0)) / 1 : Nat) : Int) →
  (0 ≤ x18) ∧
  (x18 < x25) ∧
  ∀ l3 : List Vc.OV, l3.map (·.1) = ((l2.map (·.1) ++ (([] : List Value)))).take ((Int.toNat x18) * 1 + 0) ++ ([.int .i64 x23] : List Value) ++ ((l2.map (·.1) ++ (([] : List Value)))).drop ((Int.toNat x18) * 1 + 0 + 1) →
  ∀ x26 : Int, x26 = IntKind.i64.wrap (Int.tdiv x22 10) →
  ∀ x27 : Int, x27 = IntKind.i64.wrap (x18 - 1) →
  Ix17 [.i x26, .i x27, .l ((l3.map (·.1) ++ (([] : List Value))))] ∧ mx17 [.i x26, .i x27, .l ((l3.map (·.1) ++ (([] : List Value))))] < mx17 [.i x17, .i x18, .l ((l2.map (·.1) ++ (([] : List Value))))])) ∧ (¬ (0 ≤ x18) → (
  ∃ (x19 : Int), ∃ (x20 : Int), (∀ w' : World, Below w.heap.size w w' → Calls Tryd.prog 26 #[.agg #[.int .i64 x13, .int .u64 x14]] w' (Vc.Ret (.agg #[.int .i64 x19, .int .u64 x20]) w')) ∧
  ∃ (x21 : Int), ∃ (x22 : Int), (∀ w' : World, Below w.heap.size w w' → Calls Tryd.prog 27 #[.int .i64 x17] w' (Vc.Ret (.agg #[.int .i64 x21, .int .u64 x22]) w')) ∧
  ∃ (x23 : Int), ∃ (x24 : Int), (∀ w' : World, Below w.heap.size w w' → Calls Tryd.prog 24 #[.agg #[.int .i64 x19, .int .u64 x20], .agg #[.int .i64 x21, .int .u64 x22]] w' (Vc.Ret (.agg #[.int .i64 x23, .int .u64 x24]) w')) ∧
  ∀ x25 : Int, x25 = IntKind.i64.wrap (x12 + 1) →
  Ix12 [.i x25, .l ((l2.map (·.1) ++ (([] : List Value)))), .i x23, .i x24] ∧ mx12 [.i x25, .l ((l2.map (·.1) ++ (([] : List Value)))), .i x23, .i x24] < mx12 [.i x12, .l ((l1.map (·.1) ++ (([] : List Value)))), .i x13, .i x14])))
def Vj_ullageref01_Read_T2 (x5 : Int) (w : World) (s1 : List UInt8) (v : Value) (x3 : Int) : Prop :=
  ∃ (Ix6 : List Vc.Vl → Prop) (mx6 : List Vc.Vl → Nat), Ix6 [.i 0, .i 0, .i 0, .i 0, .i 0, .i 0] ∧ ∀ (x6 : Int) (x7 : Int) (x8 : Int) (x9 : Int) (x10 : Int) (x11 : Int), Ix6 [.i x6, .i x7, .i x8, .i x9, .i x10, .i x11] → (
  ((x7 < x5) → ( Vj_ullageref01_Read_T4 w x8 x9 s1 x7 v Ix6 x6 x10 x11 mx6)) ∧ (¬ (x7 < x5) → (
  ∀ x12 : Int, x12 = IntKind.i64.wrap (x5 + 1) →
  ∃ (Io6 : List Vc.Vl → Prop) (mo6 : List Vc.Vl → Nat), Io6 [.l (([] : List Value)), .i x12] ∧ ∀ (l0 : List Vc.OV) (x13 : Int), Io6 [.l ((l0.map (·.1) ++ (([] : List Value)))), .i x13] → (
  ∀ x14 : Int, x14 = ((s1.length : Nat) : Int) →
  ((x13 < x14) → (
  ∀ x15 : Int, x15 = ((s1.length : Nat) : Int) →
  (0 ≤ x13) ∧
  (x13 < x15) ∧
  ∀ x16 : Int, x16 = (((s1.getD (Int.toNat x13) 0).toNat : Nat) : Int) →
  ∀ x17 : Int, x17 = IntKind.u8.wrap (x16 - 48) →
  ∀ x18 : Int, x18 = IntKind.i64.wrap (x17) →
  ∀ x19 : Int, x19 = (((1 + (l0.length + 0)) / 1 : Nat) : Int) →
  (x19 ≤ 1073741824) ∧
  ∀ x20 : Int, x20 = IntKind.i64.wrap (x13 + 1) →
  Io6 [.l ((l0.map (·.1) ++ (([.int .i64 x18] : List Value)))), .i x20] ∧ mo6 [.l ((l0.map (·.1) ++ (([.int .i64 x18] : List Value)))), .i x20] < mo6 [.l ((l0.map (·.1) ++ (([] : List Value)))), .i x13])) ∧ (¬ (x13 < x14) → (
  ∃ (Ix15 : List Vc.Vl → Prop) (mx15 : List Vc.Vl → Nat), Ix15 [.i 0, .l ((l0.map (·.1) ++ (([] : List Value)))), .i x8, .i x9] ∧ ∀ (x15 : Int) (l1 : List Vc.OV) (x16 : Int) (x17 : Int), Ix15 [.i x15, .l ((l1.map (·.1) ++ (([] : List Value)))), .i x16, .i x17] → (
  ((x15 < 32) → ( Vj_ullageref01_Read_T3 l1 w x16 x17 x15 Ix15 mx15)) ∧ (¬ (x15 < 32) → (
  ∃ (Ix18 : List Vc.Vl → Prop) (mx18 : List Vc.Vl → Nat), Ix18 [.i 0, .i x16, .i x17] ∧ ∀ (x18 : Int) (x19 : Int) (x20 : Int), Ix18 [.i x18, .i x19, .i x20] → (
  ∀ x21 : Int, x21 = (((0 + (l1.length + 0)) / 1 : Nat) : Int) →
  ((x18 < x21) → (
  ∀ x22 : Int, x22 = (((0 + (l1.length + 0)) / 1 : Nat) : Int) →
  (0 ≤ x18) ∧
  (x18 < x22) ∧
  ∃ (x23 : Int), ((l1.map (·.1) ++ (([] : List Value))))[(Int.toNat x18) * 1 + 0]? = some (.int .i64 x23) ∧
  ((0 < x23) → (
  ∃ (x24 : Int), ∃ (x25 : Int), (∀ w' : World, Below w.heap.size w w' → Calls Tryd.prog 27 #[.int .i64 1] w' (Vc.Ret (.agg #[.int .i64 x24, .int .u64 x25]) w')) ∧
  ∃ (x26 : Int), ∃ (x27 : Int), (∀ w' : World, Below w.heap.size w w' → Calls Tryd.prog 24 #[.agg #[.int .i64 x16, .int .u64 x17], .agg #[.int .i64 x24, .int .u64 x25]] w' (Vc.Ret (.agg #[.int .i64 x26, .int .u64 x27]) w')) ∧
  ∀ x28 : Int, x28 = IntKind.i64.wrap (x18 + 1) →
  Ix18 [.i x28, .i x26, .i x27] ∧ mx18 [.i x28, .i x26, .i x27] < mx18 [.i x18, .i x19, .i x20])) ∧ (¬ (0 < x23) → (
  ∀ x24 : Int, x24 = IntKind.i64.wrap (x18 + 1) →
  Ix18 [.i x24, .i x19, .i x20] ∧ mx18 [.i x24, .i x19, .i x20] < mx18 [.i x18, .i x19, .i x20])))) ∧ (¬ (x18 < x21) → (
  ((x3 = 45) → (
  ∃ (x22 : Int), ∃ (x23 : Int), (∀ w' : World, Below w.heap.size w w' → Calls Tryd.prog 30 #[.agg #[.int .i64 x19, .int .u64 x20]] w' (Vc.Ret (.agg #[.int .i64 x22, .int .u64 x23]) w')) ∧
  ∃ (x24 : Int), ∃ (x25 : Int), (∀ w' : World, Below w.heap.size w w' → Calls Tryd.prog 30 #[.agg #[.int .i64 x16, .int .u64 x17]] w' (Vc.Ret (.agg #[.int .i64 x24, .int .u64 x25]) w')) ∧
  ∃ (x26 : Int), ∃ (x27 : Int), ∃ (x28 : Int), (∀ w' : World, Below w.heap.size w w' → Calls Tryd.prog 29 #[.agg #[.int .i64 x22, .int .u64 x23], .agg #[.int .i64 x24, .int .u64 x25]] w' (Vc.Ret (.tuple #[.agg #[.int .i64 x26, .int .i64 x27], .int .i64 x28]) w')) ∧
  (.tuple #[.agg #[.int .i64 x26, .int .i64 x27], .int .i64 x28] : Value) = v)) ∧ (¬ (x3 = 45) → (
  ∃ (x22 : Int), ∃ (x23 : Int), ∃ (x24 : Int), (∀ w' : World, Below w.heap.size w w' → Calls Tryd.prog 29 #[.agg #[.int .i64 x16, .int .u64 x17], .agg #[.int .i64 x19, .int .u64 x20]] w' (Vc.Ret (.tuple #[.agg #[.int .i64 x22, .int .i64 x23], .int .i64 x24]) w')) ∧
  (.tuple #[.agg #[.int .i64 x22, .int .i64 x23], .int .i64 x24] : Value) = v))))))))))))))
def Vj_ullageref01_Read_T1 (x3 : Int) (b1 : Bool) (x5 : Int) (w : World) (s1 : List UInt8) (v : Value) : Prop :=
  ((x3 = 45) → (
  ((b1 = true) → ( Vj_ullageref01_Read_T2 x5 w s1 v x3)) ∧ (¬ (b1 = true) → (
  (.tuple #[.agg #[.int .i64 0, .int .i64 0], .int .i64 5] : Value) = v)))) ∧ (¬ (x3 = 45) → ( Vj_ullageref01_Read_T2 x5 w s1 v x3))
theorem vc_ullageref01_Read (s0 : List UInt8) (w : World) (v : Value) (h : 
  ∀ x0 : Int, x0 = ((s0.length : Nat) : Int) →
  ((80 < x0) → (
  (.tuple #[.agg #[.int .i64 0, .int .i64 0], .int .i64 3] : Value) = v)) ∧ (¬ (80 < x0) → (
  ∀ x1 : Int, x1 = ((s0.length : Nat) : Int) →
  ((0 < x1) → (
  ∀ x2 : Int, x2 = ((s0.length : Nat) : Int) →
  (0 < x2) ∧
  ∀ x3 : Int, x3 = (((s0.getD (Int.toNat 0) 0).toNat : Nat) : Int) →
  ((x3 = 45) → (
  ∀ x4 : Int, x4 = ((s0.length : Nat) : Int) →
  ((0 : Int) ≤ 1 ∧ 1 ≤ x4 ∧ x4 ≤ (List.length s0 : Int)) ∧ ∀ s1 : List UInt8, s1 = List.take (Int.toNat x4 - Int.toNat 1) (List.drop (Int.toNat 1) s0) →
  ∃ (b0 : Bool), ∃ (x5 : Int), ∃ (b1 : Bool), (∀ w' : World, Below w.heap.size w w' → Calls Tryd.prog 23 #[.string ⟨s1.toArray⟩] w' (Vc.Ret (.tuple #[.bool b0, .int .i64 x5, .bool b1]) w')) ∧
  ((b0 = true) → ( Vj_ullageref01_Read_T1 x3 b1 x5 w s1 v)) ∧ (¬ (b0 = true) → (
  (.tuple #[.agg #[.int .i64 0, .int .i64 0], .int .i64 5] : Value) = v)))) ∧ (¬ (x3 = 45) → (
  ∃ (b0 : Bool), ∃ (x4 : Int), ∃ (b1 : Bool), (∀ w' : World, Below w.heap.size w w' → Calls Tryd.prog 23 #[.string ⟨s0.toArray⟩] w' (Vc.Ret (.tuple #[.bool b0, .int .i64 x4, .bool b1]) w')) ∧
  ((b0 = true) → ( Vj_ullageref01_Read_T1 x3 b1 x4 w s0 v)) ∧ (¬ (b0 = true) → (
  (.tuple #[.agg #[.int .i64 0, .int .i64 0], .int .i64 5] : Value) = v)))))) ∧ (¬ (0 < x1) → (
  ∃ (b0 : Bool), ∃ (x2 : Int), ∃ (b1 : Bool), (∀ w' : World, Below w.heap.size w w' → Calls Tryd.prog 23 #[.string ⟨s0.toArray⟩] w' (Vc.Ret (.tuple #[.bool b0, .int .i64 x2, .bool b1]) w')) ∧
  ((b0 = true) → (
  ∃ (Ix3 : List Vc.Vl → Prop) (mx3 : List Vc.Vl → Nat), Ix3 [.i 0, .i 0, .i 0, .i 0, .i 0, .i 0] ∧ ∀ (x3 : Int) (x4 : Int) (x5 : Int) (x6 : Int) (x7 : Int) (x8 : Int), Ix3 [.i x3, .i x4, .i x5, .i x6, .i x7, .i x8] → (
  ((x4 < x2) → ( Vj_ullageref01_Read_T4 w x5 x6 s0 x4 v Ix3 x3 x7 x8 mx3)) ∧ (¬ (x4 < x2) → (
  ∀ x9 : Int, x9 = IntKind.i64.wrap (x2 + 1) →
  ∃ (Io6 : List Vc.Vl → Prop) (mo6 : List Vc.Vl → Nat), Io6 [.l (([] : List Value)), .i x9] ∧ ∀ (l0 : List Vc.OV) (x10 : Int), Io6 [.l ((l0.map (·.1) ++ (([] : List Value)))), .i x10] → (
  ∀ x11 : Int, x11 = ((s0.length : Nat) : Int) →
  ((x10 < x11) → (
  ∀ x12 : Int, x12 = ((s0.length : Nat) : Int) →
  (0 ≤ x10) ∧
  (x10 < x12) ∧
  ∀ x13 : Int, x13 = (((s0.getD (Int.toNat x10) 0).toNat : Nat) : Int) →
  ∀ x14 : Int, x14 = IntKind.u8.wrap (x13 - 48) →
  ∀ x15 : Int, x15 = IntKind.i64.wrap (x14) →
  ∀ x16 : Int, x16 = (((1 + (l0.length + 0)) / 1 : Nat) : Int) →
  (x16 ≤ 1073741824) ∧
  ∀ x17 : Int, x17 = IntKind.i64.wrap (x10 + 1) →
  Io6 [.l ((l0.map (·.1) ++ (([.int .i64 x15] : List Value)))), .i x17] ∧ mo6 [.l ((l0.map (·.1) ++ (([.int .i64 x15] : List Value)))), .i x17] < mo6 [.l ((l0.map (·.1) ++ (([] : List Value)))), .i x10])) ∧ (¬ (x10 < x11) → (
  ∃ (Ix12 : List Vc.Vl → Prop) (mx12 : List Vc.Vl → Nat), Ix12 [.i 0, .l ((l0.map (·.1) ++ (([] : List Value)))), .i x5, .i x6] ∧ ∀ (x12 : Int) (l1 : List Vc.OV) (x13 : Int) (x14 : Int), Ix12 [.i x12, .l ((l1.map (·.1) ++ (([] : List Value)))), .i x13, .i x14] → (
  ((x12 < 32) → ( Vj_ullageref01_Read_T3 l1 w x13 x14 x12 Ix12 mx12)) ∧ (¬ (x12 < 32) → (
  ∃ (Ix15 : List Vc.Vl → Prop) (mx15 : List Vc.Vl → Nat), Ix15 [.i 0, .i x13, .i x14] ∧ ∀ (x15 : Int) (x16 : Int) (x17 : Int), Ix15 [.i x15, .i x16, .i x17] → (
  ∀ x18 : Int, x18 = (((0 + (l1.length + 0)) / 1 : Nat) : Int) →
  ((x15 < x18) → (
  ∀ x19 : Int, x19 = (((0 + (l1.length + 0)) / 1 : Nat) : Int) →
  (0 ≤ x15) ∧
  (x15 < x19) ∧
  ∃ (x20 : Int), ((l1.map (·.1) ++ (([] : List Value))))[(Int.toNat x15) * 1 + 0]? = some (.int .i64 x20) ∧
  ((0 < x20) → (
  ∃ (x21 : Int), ∃ (x22 : Int), (∀ w' : World, Below w.heap.size w w' → Calls Tryd.prog 27 #[.int .i64 1] w' (Vc.Ret (.agg #[.int .i64 x21, .int .u64 x22]) w')) ∧
  ∃ (x23 : Int), ∃ (x24 : Int), (∀ w' : World, Below w.heap.size w w' → Calls Tryd.prog 24 #[.agg #[.int .i64 x13, .int .u64 x14], .agg #[.int .i64 x21, .int .u64 x22]] w' (Vc.Ret (.agg #[.int .i64 x23, .int .u64 x24]) w')) ∧
  ∀ x25 : Int, x25 = IntKind.i64.wrap (x15 + 1) →
  Ix15 [.i x25, .i x23, .i x24] ∧ mx15 [.i x25, .i x23, .i x24] < mx15 [.i x15, .i x16, .i x17])) ∧ (¬ (0 < x20) → (
  ∀ x21 : Int, x21 = IntKind.i64.wrap (x15 + 1) →
  Ix15 [.i x21, .i x16, .i x17] ∧ mx15 [.i x21, .i x16, .i x17] < mx15 [.i x15, .i x16, .i x17])))) ∧ (¬ (x15 < x18) → (
  ∃ (x19 : Int), ∃ (x20 : Int), ∃ (x21 : Int), (∀ w' : World, Below w.heap.size w w' → Calls Tryd.prog 29 #[.agg #[.int .i64 x13, .int .u64 x14], .agg #[.int .i64 x16, .int .u64 x17]] w' (Vc.Ret (.tuple #[.agg #[.int .i64 x19, .int .i64 x20], .int .i64 x21]) w')) ∧
  (.tuple #[.agg #[.int .i64 x19, .int .i64 x20], .int .i64 x21] : Value) = v)))))))))))))) ∧ (¬ (b0 = true) → (
  (.tuple #[.agg #[.int .i64 0, .int .i64 0], .int .i64 5] : Value) = v))))))) : Calls Tryd.prog 6 #[.string ⟨s0.toArray⟩] w (Vc.Ret v w) :=
  Vc.pure_of base [(3000000000011, .inv [(8, 0), (8, 1), (2, 0), (2, 1)] [3, 9] [50, 51, 52, 55, 56, 57, 58, 59, 60, 61, 62, 63, 64, 65, 66, 67, 68, 69, 70, 71, 53, 54]), (4000000000019, .inv [] [10, 11] [74, 75, 76, 77, 80, 81, 82, 83, 84, 85, 86, 87, 78, 79]), (2000000000023, .inv [(8, 0), (8, 1)] [12, 10] [88, 89, 13, 92, 93, 94, 14, 95, 96, 99, 100, 101, 102, 103, 104, 105, 15, 106, 107, 108, 109, 110, 111, 112, 97, 98, 113, 114, 115, 116, 117, 90, 91]), (2000000000027, .inv [] [13, 14, 10] [95, 96, 99, 100, 101, 102, 103, 104, 105, 15, 106, 107, 108, 109, 110, 111, 112, 97, 98]), (4000000000035, .inv [(16, 0), (16, 1)] [17] [119, 120, 121, 122, 125, 126, 127, 128, 129, 130, 131, 132, 123, 124]), (900000010, .inv [] [3] [])] 200 Tryd.func6 (b := (Tryd.f6.body).getD .skip) (by kernel_rfl) [.cv (.one (.sv 0))] ⟨0, 0, 0, 0, 0, 1, 0⟩ (Vc.envOf [] [] [] [] [s0]) (by kernel_rfl) (by kernel_rfl) (by kernel_rfl) h

end Go.Proofs.YtcoakpdafpclpaaDoor
