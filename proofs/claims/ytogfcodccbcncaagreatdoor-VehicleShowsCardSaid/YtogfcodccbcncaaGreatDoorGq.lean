/- What the walks of functions come to (written by program). -/
import Derived.Test.YtogfcodccbcncaaGreatDoorG0
set_option linter.unusedVariables false
set_option maxRecDepth 100000
namespace Go.Proofs.YtogfcodccbcncaaGreatDoor
open Go Go.RowKit
theorem vc_vehicle_gcd (x0 x1 : Int) (w : World) (v : Value) (h : 
  ∃ (Ix2 : List Vc.Vl → Prop) (mx2 : List Vc.Vl → Nat), Ix2 [.i x0, .i x1] ∧ ∀ (x2 : Int) (x3 : Int), Ix2 [.i x2, .i x3] → (
  ((x3 = 0) → (
  ∀ x4 : Int, x4 = IntKind.i64.wrap (0 - x2) →
  ∀ x5 : Int, x5 = (if x4 > x2 then x4 else x2) →
  (.int .i64 x5 : Value) = v)) ∧ (¬ (x3 = 0) → (
  (x3 ≠ 0) ∧
  ∀ x4 : Int, x4 = Int.tmod x2 x3 →
  Ix2 [.i x3, .i x4] ∧ mx2 [.i x3, .i x4] < mx2 [.i x2, .i x3])))) : Calls Tryz.prog 64 #[.int .i64 x0, .int .i64 x1] w (Vc.Ret v w) :=
  Vc.pure_of base [(2000000000001, .inv [] [0, 1] [5, 6, 7, 8, 9, 10])] [] 200 Tryz.func64 (b := (Tryz.f64.body).getD .skip) (by kernel_rfl) [.cv (.one (.int .i64 (.var 0))), .cv (.one (.int .i64 (.var 1)))] ⟨2, 0, 0, 0, 0, 0, 0⟩ [] (Vc.envOf [x0, x1] [] [] []) (by kernel_rfl) Vc.kn_nil (by kernel_rfl) (by kernel_rfl) h

theorem vc_vehicle_CheckQuantity (x0 x1 x2 x3 x4 : Int) (w : World) (v : Value) (h : 
  (((-9) ≤ x2) → (
  ((x2 ≤ 9) → (
  (((-9) ≤ x3) → (
  ((x3 ≤ 9) → (
  (((-9) ≤ x4) → (
  ((x4 ≤ 9) → (
  (((-4611686018427387904) ≤ x0) → (
  ((x0 ≤ 4611686018427387904) → (
  ((1 ≤ x1) → (
  ((x1 ≤ 4611686018427387904) → (
  ∃ (x5 : Int), (∀ w' : World, Below w.heap.size w w' → Calls Tryz.prog 64 #[.int .i64 x0, .int .i64 x1] w' (Vc.Ret (.int .i64 x5) w')) ∧
  (.bool (x5 == 1) : Value) = v)) ∧ (¬ (x1 ≤ 4611686018427387904) → (
  (.bool false : Value) = v)))) ∧ (¬ (1 ≤ x1) → (
  (.bool false : Value) = v)))) ∧ (¬ (x0 ≤ 4611686018427387904) → (
  (.bool false : Value) = v)))) ∧ (¬ ((-4611686018427387904) ≤ x0) → (
  (.bool false : Value) = v)))) ∧ (¬ (x4 ≤ 9) → (
  (.bool false : Value) = v)))) ∧ (¬ ((-9) ≤ x4) → (
  (.bool false : Value) = v)))) ∧ (¬ (x3 ≤ 9) → (
  (.bool false : Value) = v)))) ∧ (¬ ((-9) ≤ x3) → (
  (.bool false : Value) = v)))) ∧ (¬ (x2 ≤ 9) → (
  (.bool false : Value) = v)))) ∧ (¬ ((-9) ≤ x2) → (
  (.bool false : Value) = v))) : Calls Tryz.prog 40 #[.agg #[.int .i64 x0, .int .i64 x1, .int .i64 x2, .int .i64 x3, .int .i64 x4]] w (Vc.Ret v w) :=
  Vc.pure_of (base_inl [63, 66] (by kernel_rfl)) [] [] 200 Tryz.func40 (b := (Tryz.f40.body).getD .skip) (by kernel_rfl) [.cv (.agg [.int .i64 (.var 0), .int .i64 (.var 1), .int .i64 (.var 2), .int .i64 (.var 3), .int .i64 (.var 4)])] ⟨5, 0, 0, 0, 0, 0, 0⟩ [] (Vc.envOf [x0, x1, x2, x3, x4] [] [] []) (by kernel_rfl) Vc.kn_nil (by kernel_rfl) (by kernel_rfl) h

theorem vc_ullageref02_gcd (x0 x1 : Int) (w : World) (v : Value) (h : 
  ∃ (Ix2 : List Vc.Vl → Prop) (mx2 : List Vc.Vl → Nat), Ix2 [.i x0, .i x1] ∧ ∀ (x2 : Int) (x3 : Int), Ix2 [.i x2, .i x3] → (
  ((x3 = 0) → (
  ∀ x4 : Int, x4 = IntKind.i64.wrap (0 - x2) →
  ∀ x5 : Int, x5 = (if x4 > x2 then x4 else x2) →
  (.int .i64 x5 : Value) = v)) ∧ (¬ (x3 = 0) → (
  (x3 ≠ 0) ∧
  ∀ x4 : Int, x4 = Int.tmod x2 x3 →
  Ix2 [.i x3, .i x4] ∧ mx2 [.i x3, .i x4] < mx2 [.i x2, .i x3])))) : Calls Tryz.prog 106 #[.int .i64 x0, .int .i64 x1] w (Vc.Ret v w) :=
  Vc.pure_of base [(2000000000001, .inv [] [0, 1] [6, 7, 8, 9, 10, 5, 11, 12])] [] 200 Tryz.func106 (b := (Tryz.f106.body).getD .skip) (by kernel_rfl) [.cv (.one (.int .i64 (.var 0))), .cv (.one (.int .i64 (.var 1)))] ⟨2, 0, 0, 0, 0, 0, 0⟩ [] (Vc.envOf [x0, x1] [] [] []) (by kernel_rfl) Vc.kn_nil (by kernel_rfl) (by kernel_rfl) h

theorem vc_ullageref02_CheckQuantity (x0 x1 x2 x3 x4 : Int) (w : World) (v : Value) (h : 
  (((-4611686018427387904) ≤ x0) → (
  ((x0 ≤ 4611686018427387904) → (
  ((1 ≤ x1) → (
  ((x1 ≤ 4611686018427387904) → (
  ∃ (x5 : Int), (∀ w' : World, Below w.heap.size w w' → Calls Tryz.prog 106 #[.int .i64 x0, .int .i64 x1] w' (Vc.Ret (.int .i64 x5) w')) ∧
  ((x5 = 1) → (
  (((-9) ≤ x2) → (
  ((x2 ≤ 9) → (
  (((-9) ≤ x3) → (
  ((x3 ≤ 9) → (
  (((-9) ≤ x4) → (
  (.bool (decide (x4 ≤ 9)) : Value) = v)) ∧ (¬ ((-9) ≤ x4) → (
  (.bool false : Value) = v)))) ∧ (¬ (x3 ≤ 9) → (
  (.bool false : Value) = v)))) ∧ (¬ ((-9) ≤ x3) → (
  (.bool false : Value) = v)))) ∧ (¬ (x2 ≤ 9) → (
  (.bool false : Value) = v)))) ∧ (¬ ((-9) ≤ x2) → (
  (.bool false : Value) = v)))) ∧ (¬ (x5 = 1) → (
  (.bool false : Value) = v)))) ∧ (¬ (x1 ≤ 4611686018427387904) → (
  (.bool false : Value) = v)))) ∧ (¬ (1 ≤ x1) → (
  (.bool false : Value) = v)))) ∧ (¬ (x0 ≤ 4611686018427387904) → (
  (.bool false : Value) = v)))) ∧ (¬ ((-4611686018427387904) ≤ x0) → (
  (.bool false : Value) = v))) : Calls Tryz.prog 41 #[.agg #[.int .i64 x0, .int .i64 x1, .int .i64 x2, .int .i64 x3, .int .i64 x4]] w (Vc.Ret v w) :=
  Vc.pure_of (base_inl [69] (by kernel_rfl)) [] [] 200 Tryz.func41 (b := (Tryz.f41.body).getD .skip) (by kernel_rfl) [.cv (.agg [.int .i64 (.var 0), .int .i64 (.var 1), .int .i64 (.var 2), .int .i64 (.var 3), .int .i64 (.var 4)])] ⟨5, 0, 0, 0, 0, 0, 0⟩ [] (Vc.envOf [x0, x1, x2, x3, x4] [] [] []) (by kernel_rfl) Vc.kn_nil (by kernel_rfl) (by kernel_rfl) h

def Vj_vehicle_Show_T5 (x4 : Int) (s2 : List UInt8) (v : Value) (w : World) : Prop :=
  ((x4 = 1) → (
  (List.length s2 + List.length ([32, 116] : List UInt8) ≤ 9223372036854775807) ∧ ∀ s3 : List UInt8, s3 = s2 ++ ([32, 116] : List UInt8) →
  (.string ⟨s3.toArray⟩ : Value) = v)) ∧ (¬ (x4 = 1) → (
  ∃ (s3 : List UInt8), (∀ w' : World, Below w.heap.size w w' → Calls Tryz.prog 78 #[.int .i64 x4] w' (Vc.Ret (.string ⟨s3.toArray⟩) w')) ∧
  (List.length ([32, 116, 94] : List UInt8) + List.length s3 ≤ 9223372036854775807) ∧ ∀ s4 : List UInt8, s4 = ([32, 116, 94] : List UInt8) ++ s3 →
  (List.length s2 + List.length s4 ≤ 9223372036854775807) ∧ ∀ s5 : List UInt8, s5 = s2 ++ s4 →
  (.string ⟨s5.toArray⟩ : Value) = v))
def Vj_vehicle_Show_T4 (x4 : Int) (s1 : List UInt8) (v : Value) (w : World) : Prop :=
  ((x4 = 0) → (
  (.string ⟨s1.toArray⟩ : Value) = v)) ∧ (¬ (x4 = 0) → ( Vj_vehicle_Show_T5 x4 s1 v w))
def Vj_vehicle_Show_T3 (x3 : Int) (s1 : List UInt8) (x4 : Int) (v : Value) (w : World) : Prop :=
  ((x3 = 1) → (
  (List.length s1 + List.length ([32, 115] : List UInt8) ≤ 9223372036854775807) ∧ ∀ s2 : List UInt8, s2 = s1 ++ ([32, 115] : List UInt8) →
  ((x4 = 0) → (
  (.string ⟨s2.toArray⟩ : Value) = v)) ∧ (¬ (x4 = 0) → ( Vj_vehicle_Show_T5 x4 s2 v w)))) ∧ (¬ (x3 = 1) → (
  ∃ (s2 : List UInt8), (∀ w' : World, Below w.heap.size w w' → Calls Tryz.prog 78 #[.int .i64 x3] w' (Vc.Ret (.string ⟨s2.toArray⟩) w')) ∧
  (List.length ([32, 115, 94] : List UInt8) + List.length s2 ≤ 9223372036854775807) ∧ ∀ s3 : List UInt8, s3 = ([32, 115, 94] : List UInt8) ++ s2 →
  (List.length s1 + List.length s3 ≤ 9223372036854775807) ∧ ∀ s4 : List UInt8, s4 = s1 ++ s3 →
  ((x4 = 0) → (
  (.string ⟨s4.toArray⟩ : Value) = v)) ∧ (¬ (x4 = 0) → ( Vj_vehicle_Show_T5 x4 s4 v w))))
def Vj_vehicle_Show_T2 (x3 : Int) (x4 : Int) (s0 : List UInt8) (v : Value) (w : World) : Prop :=
  ((x3 = 0) → ( Vj_vehicle_Show_T4 x4 s0 v w)) ∧ (¬ (x3 = 0) → ( Vj_vehicle_Show_T3 x3 s0 x4 v w))
def Vj_vehicle_Show_T1 (x2 : Int) (s0 : List UInt8) (x3 : Int) (x4 : Int) (v : Value) (w : World) : Prop :=
  ((x2 = 1) → (
  (List.length s0 + List.length ([32, 107, 109] : List UInt8) ≤ 9223372036854775807) ∧ ∀ s1 : List UInt8, s1 = s0 ++ ([32, 107, 109] : List UInt8) →
  ((x3 = 0) → ( Vj_vehicle_Show_T4 x4 s1 v w)) ∧ (¬ (x3 = 0) → ( Vj_vehicle_Show_T3 x3 s1 x4 v w)))) ∧ (¬ (x2 = 1) → (
  ∃ (s1 : List UInt8), (∀ w' : World, Below w.heap.size w w' → Calls Tryz.prog 78 #[.int .i64 x2] w' (Vc.Ret (.string ⟨s1.toArray⟩) w')) ∧
  (List.length ([32, 107, 109, 94] : List UInt8) + List.length s1 ≤ 9223372036854775807) ∧ ∀ s2 : List UInt8, s2 = ([32, 107, 109, 94] : List UInt8) ++ s1 →
  (List.length s0 + List.length s2 ≤ 9223372036854775807) ∧ ∀ s3 : List UInt8, s3 = s0 ++ s2 →
  ((x3 = 0) → ( Vj_vehicle_Show_T4 x4 s3 v w)) ∧ (¬ (x3 = 0) → ( Vj_vehicle_Show_T3 x3 s3 x4 v w))))
theorem vc_vehicle_Show (x0 x1 x2 x3 x4 : Int) (w : World) (v : Value) (h : 
  ∃ (b0 : Bool), (∀ w' : World, Below w.heap.size w w' → Calls Tryz.prog 40 #[.agg #[.int .i64 x0, .int .i64 x1, .int .i64 x2, .int .i64 x3, .int .i64 x4]] w' (Vc.Ret (.bool b0) w')) ∧
  ((b0 = true) → (
  ∃ (s0 : List UInt8), (∀ w' : World, Below w.heap.size w w' → Calls Tryz.prog 78 #[.int .i64 x0] w' (Vc.Ret (.string ⟨s0.toArray⟩) w')) ∧
  ((x1 = 1) → (
  ((x2 = 0) → ( Vj_vehicle_Show_T2 x3 x4 s0 v w)) ∧ (¬ (x2 = 0) → ( Vj_vehicle_Show_T1 x2 s0 x3 x4 v w)))) ∧ (¬ (x1 = 1) → (
  ∃ (s1 : List UInt8), (∀ w' : World, Below w.heap.size w w' → Calls Tryz.prog 78 #[.int .i64 x1] w' (Vc.Ret (.string ⟨s1.toArray⟩) w')) ∧
  (List.length ([47] : List UInt8) + List.length s1 ≤ 9223372036854775807) ∧ ∀ s2 : List UInt8, s2 = ([47] : List UInt8) ++ s1 →
  (List.length s0 + List.length s2 ≤ 9223372036854775807) ∧ ∀ s3 : List UInt8, s3 = s0 ++ s2 →
  ((x2 = 0) → ( Vj_vehicle_Show_T2 x3 x4 s3 v w)) ∧ (¬ (x2 = 0) → ( Vj_vehicle_Show_T1 x2 s3 x3 x4 v w)))))) ∧ (¬ (b0 = true) → (
  (.string ⟨(([] : List UInt8)).toArray⟩ : Value) = v))) : Calls Tryz.prog 26 #[.agg #[.int .i64 x0, .int .i64 x1, .int .i64 x2, .int .i64 x3, .int .i64 x4]] w (Vc.Ret v w) :=
  Vc.pure_of (base_inl [63] (by kernel_rfl)) [] [] 200 Tryz.func26 (b := (Tryz.f26.body).getD .skip) (by kernel_rfl) [.cv (.agg [.int .i64 (.var 0), .int .i64 (.var 1), .int .i64 (.var 2), .int .i64 (.var 3), .int .i64 (.var 4)])] ⟨5, 0, 0, 0, 0, 0, 0⟩ [] (Vc.envOf [x0, x1, x2, x3, x4] [] [] []) (by kernel_rfl) Vc.kn_nil (by kernel_rfl) (by kernel_rfl) h

def Vj_ullageref02_Show_T6 (s2 : List UInt8) (v : Value) : Prop :=
  (List.length s2 + List.length ([] : List UInt8) ≤ 9223372036854775807) ∧ ∀ s3 : List UInt8, s3 = s2 ++ ([] : List UInt8) →
  (.string ⟨s3.toArray⟩ : Value) = v
def Vj_ullageref02_Show_T5 (x4 : Int) (s2 : List UInt8) (v : Value) (w : World) : Prop :=
  ((x4 = 1) → (
  (List.length s2 + List.length ([32, 116] : List UInt8) ≤ 9223372036854775807) ∧ ∀ s3 : List UInt8, s3 = s2 ++ ([32, 116] : List UInt8) →
  (.string ⟨s3.toArray⟩ : Value) = v)) ∧ (¬ (x4 = 1) → (
  ∃ (s3 : List UInt8), (∀ w' : World, Below w.heap.size w w' → Calls Tryz.prog 79 #[.int .i64 x4] w' (Vc.Ret (.string ⟨s3.toArray⟩) w')) ∧
  (List.length ([32, 116, 94] : List UInt8) + List.length s3 ≤ 9223372036854775807) ∧ ∀ s4 : List UInt8, s4 = ([32, 116, 94] : List UInt8) ++ s3 →
  (List.length s2 + List.length s4 ≤ 9223372036854775807) ∧ ∀ s5 : List UInt8, s5 = s2 ++ s4 →
  (.string ⟨s5.toArray⟩ : Value) = v))
def Vj_ullageref02_Show_T4 (s1 : List UInt8) (x4 : Int) (v : Value) (w : World) : Prop :=
  (List.length s1 + List.length ([] : List UInt8) ≤ 9223372036854775807) ∧ ∀ s2 : List UInt8, s2 = s1 ++ ([] : List UInt8) →
  ((x4 = 0) → ( Vj_ullageref02_Show_T6 s2 v)) ∧ (¬ (x4 = 0) → ( Vj_ullageref02_Show_T5 x4 s2 v w))
def Vj_ullageref02_Show_T3 (x3 : Int) (s1 : List UInt8) (x4 : Int) (v : Value) (w : World) : Prop :=
  ((x3 = 1) → (
  (List.length s1 + List.length ([32, 115] : List UInt8) ≤ 9223372036854775807) ∧ ∀ s2 : List UInt8, s2 = s1 ++ ([32, 115] : List UInt8) →
  ((x4 = 0) → ( Vj_ullageref02_Show_T6 s2 v)) ∧ (¬ (x4 = 0) → ( Vj_ullageref02_Show_T5 x4 s2 v w)))) ∧ (¬ (x3 = 1) → (
  ∃ (s2 : List UInt8), (∀ w' : World, Below w.heap.size w w' → Calls Tryz.prog 79 #[.int .i64 x3] w' (Vc.Ret (.string ⟨s2.toArray⟩) w')) ∧
  (List.length ([32, 115, 94] : List UInt8) + List.length s2 ≤ 9223372036854775807) ∧ ∀ s3 : List UInt8, s3 = ([32, 115, 94] : List UInt8) ++ s2 →
  (List.length s1 + List.length s3 ≤ 9223372036854775807) ∧ ∀ s4 : List UInt8, s4 = s1 ++ s3 →
  ((x4 = 0) → ( Vj_ullageref02_Show_T6 s4 v)) ∧ (¬ (x4 = 0) → ( Vj_ullageref02_Show_T5 x4 s4 v w))))
def Vj_ullageref02_Show_T2 (s0 : List UInt8) (x3 : Int) (x4 : Int) (v : Value) (w : World) : Prop :=
  (List.length s0 + List.length ([] : List UInt8) ≤ 9223372036854775807) ∧ ∀ s1 : List UInt8, s1 = s0 ++ ([] : List UInt8) →
  ((x3 = 0) → ( Vj_ullageref02_Show_T4 s1 x4 v w)) ∧ (¬ (x3 = 0) → ( Vj_ullageref02_Show_T3 x3 s1 x4 v w))
def Vj_ullageref02_Show_T1 (x2 : Int) (s0 : List UInt8) (x3 : Int) (x4 : Int) (v : Value) (w : World) : Prop :=
  ((x2 = 1) → (
  (List.length s0 + List.length ([32, 107, 109] : List UInt8) ≤ 9223372036854775807) ∧ ∀ s1 : List UInt8, s1 = s0 ++ ([32, 107, 109] : List UInt8) →
  ((x3 = 0) → ( Vj_ullageref02_Show_T4 s1 x4 v w)) ∧ (¬ (x3 = 0) → ( Vj_ullageref02_Show_T3 x3 s1 x4 v w)))) ∧ (¬ (x2 = 1) → (
  ∃ (s1 : List UInt8), (∀ w' : World, Below w.heap.size w w' → Calls Tryz.prog 79 #[.int .i64 x2] w' (Vc.Ret (.string ⟨s1.toArray⟩) w')) ∧
  (List.length ([32, 107, 109, 94] : List UInt8) + List.length s1 ≤ 9223372036854775807) ∧ ∀ s2 : List UInt8, s2 = ([32, 107, 109, 94] : List UInt8) ++ s1 →
  (List.length s0 + List.length s2 ≤ 9223372036854775807) ∧ ∀ s3 : List UInt8, s3 = s0 ++ s2 →
  ((x3 = 0) → ( Vj_ullageref02_Show_T4 s3 x4 v w)) ∧ (¬ (x3 = 0) → ( Vj_ullageref02_Show_T3 x3 s3 x4 v w))))
theorem vc_ullageref02_Show (x0 x1 x2 x3 x4 : Int) (w : World) (v : Value) (h : 
  ∃ (b0 : Bool), (∀ w' : World, Below w.heap.size w w' → Calls Tryz.prog 41 #[.agg #[.int .i64 x0, .int .i64 x1, .int .i64 x2, .int .i64 x3, .int .i64 x4]] w' (Vc.Ret (.bool b0) w')) ∧
  ((b0 = true) → (
  ∃ (s0 : List UInt8), (∀ w' : World, Below w.heap.size w w' → Calls Tryz.prog 79 #[.int .i64 x0] w' (Vc.Ret (.string ⟨s0.toArray⟩) w')) ∧
  ((x1 = 1) → (
  ((x2 = 0) → ( Vj_ullageref02_Show_T2 s0 x3 x4 v w)) ∧ (¬ (x2 = 0) → ( Vj_ullageref02_Show_T1 x2 s0 x3 x4 v w)))) ∧ (¬ (x1 = 1) → (
  (List.length s0 + List.length ([47] : List UInt8) ≤ 9223372036854775807) ∧ ∀ s1 : List UInt8, s1 = s0 ++ ([47] : List UInt8) →
  ∃ (s2 : List UInt8), (∀ w' : World, Below w.heap.size w w' → Calls Tryz.prog 79 #[.int .i64 x1] w' (Vc.Ret (.string ⟨s2.toArray⟩) w')) ∧
  (List.length s1 + List.length s2 ≤ 9223372036854775807) ∧ ∀ s3 : List UInt8, s3 = s1 ++ s2 →
  ((x2 = 0) → ( Vj_ullageref02_Show_T2 s3 x3 x4 v w)) ∧ (¬ (x2 = 0) → ( Vj_ullageref02_Show_T1 x2 s3 x3 x4 v w)))))) ∧ (¬ (b0 = true) → (
  (.string ⟨(([] : List UInt8)).toArray⟩ : Value) = v))) : Calls Tryz.prog 27 #[.agg #[.int .i64 x0, .int .i64 x1, .int .i64 x2, .int .i64 x3, .int .i64 x4]] w (Vc.Ret v w) :=
  Vc.pure_of (base_inl [80] (by kernel_rfl)) [] [] 200 Tryz.func27 (b := (Tryz.f27.body).getD .skip) (by kernel_rfl) [.cv (.agg [.int .i64 (.var 0), .int .i64 (.var 1), .int .i64 (.var 2), .int .i64 (.var 3), .int .i64 (.var 4)])] ⟨5, 0, 0, 0, 0, 0, 0⟩ [] (Vc.envOf [x0, x1, x2, x3, x4] [] [] []) (by kernel_rfl) Vc.kn_nil (by kernel_rfl) (by kernel_rfl) h

theorem vc_ullageref02_Number (x0 : Int) (w : World) (v : Value) (h : 
  ((x0 < 0) → (
  ∃ (Is0 : List Vc.Vl → Prop) (ms0 : List Vc.Vl → Nat), Is0 [.s [], .i x0, .s []] ∧ ∀ (s0 : List UInt8) (x1 : Int) (s1 : List UInt8), Is0 [.s s0, .i x1, .s s1] → (
  ∀ x2 : Int, x2 = Int.tmod x1 10 →
  ∀ x3 : Int, x3 = Int.tmod x1 10 →
  ∀ x4 : Int, x4 = IntKind.i64.wrap (0 - x3) →
  ∀ x5 : Int, x5 = (if x4 > x2 then x4 else x2) →
  ∀ x6 : Int, x6 = IntKind.i64.wrap (48 + x5) →
  ∀ x7 : Int, x7 = IntKind.u8.wrap (x6) →
  (∀ v ∈ ([.int .u8 x7] : List Value), ∃ n : Int, v = Value.int .u8 n) ∧ ∀ s2 : List UInt8, s2 = List.map Vc.byteV ([.int .u8 x7] : List Value) →
  (List.length s2 + List.length s0 ≤ 9223372036854775807) ∧ ∀ s3 : List UInt8, s3 = s2 ++ s0 →
  ∀ x8 : Int, x8 = IntKind.i64.wrap (Int.tdiv x1 10) →
  ((x8 = 0) → (
  (List.length ([45] : List UInt8) + List.length s3 ≤ 9223372036854775807) ∧ ∀ s4 : List UInt8, s4 = ([45] : List UInt8) ++ s3 →
  (.string ⟨s4.toArray⟩ : Value) = v)) ∧ (¬ (x8 = 0) → (
  Is0 [.s s3, .i x8, .s s1] ∧ ms0 [.s s3, .i x8, .s s1] < ms0 [.s s0, .i x1, .s s1]))))) ∧ (¬ (x0 < 0) → (
  ∃ (Is0 : List Vc.Vl → Prop) (ms0 : List Vc.Vl → Nat), Is0 [.s [], .i x0, .s []] ∧ ∀ (s0 : List UInt8) (x1 : Int) (s1 : List UInt8), Is0 [.s s0, .i x1, .s s1] → (
  ∀ x2 : Int, x2 = Int.tmod x1 10 →
  ∀ x3 : Int, x3 = Int.tmod x1 10 →
  ∀ x4 : Int, x4 = IntKind.i64.wrap (0 - x3) →
  ∀ x5 : Int, x5 = (if x4 > x2 then x4 else x2) →
  ∀ x6 : Int, x6 = IntKind.i64.wrap (48 + x5) →
  ∀ x7 : Int, x7 = IntKind.u8.wrap (x6) →
  (∀ v ∈ ([.int .u8 x7] : List Value), ∃ n : Int, v = Value.int .u8 n) ∧ ∀ s2 : List UInt8, s2 = List.map Vc.byteV ([.int .u8 x7] : List Value) →
  (List.length s2 + List.length s0 ≤ 9223372036854775807) ∧ ∀ s3 : List UInt8, s3 = s2 ++ s0 →
  ∀ x8 : Int, x8 = IntKind.i64.wrap (Int.tdiv x1 10) →
  ((x8 = 0) → (
  (List.length ([] : List UInt8) + List.length s3 ≤ 9223372036854775807) ∧ ∀ s4 : List UInt8, s4 = ([] : List UInt8) ++ s3 →
  (.string ⟨s4.toArray⟩ : Value) = v)) ∧ (¬ (x8 = 0) → (
  Is0 [.s s3, .i x8, .s s1] ∧ ms0 [.s s3, .i x8, .s s1] < ms0 [.s s0, .i x1, .s s1])))))) : Calls Tryz.prog 79 #[.int .i64 x0] w (Vc.Ret v w) :=
  Vc.pure_of base [(13000000000004, .inv [] [3, 0, 2] [7, 8, 9, 10, 11, 12, 13, 14, 15, 16, 17, 18, 19, 20, 21, 22, 23, 24, 25])] [] 200 Tryz.func79 (b := (Tryz.f79.body).getD .skip) (by kernel_rfl) [.cv (.one (.int .i64 (.var 0)))] ⟨1, 0, 0, 0, 0, 0, 0⟩ [] (Vc.envOf [x0] [] [] []) (by kernel_rfl) Vc.kn_nil (by kernel_rfl) (by kernel_rfl) h

theorem vc_ullagelaw02_VehicleShows (x0 x1 x2 x3 x4 : Int) (w : World) (v : Value) (h : 
  ∃ (s0 : List UInt8), (∀ w' : World, Below w.heap.size w w' → Calls Tryz.prog 26 #[.agg #[.int .i64 x0, .int .i64 x1, .int .i64 x2, .int .i64 x3, .int .i64 x4]] w' (Vc.Ret (.string ⟨s0.toArray⟩) w')) ∧
  ∃ (s1 : List UInt8), (∀ w' : World, Below w.heap.size w w' → Calls Tryz.prog 27 #[.agg #[.int .i64 x0, .int .i64 x1, .int .i64 x2, .int .i64 x3, .int .i64 x4]] w' (Vc.Ret (.string ⟨s1.toArray⟩) w')) ∧
  ((s0 = s1) → (
  ∃ (b0 : Bool), (∀ w' : World, Below w.heap.size w w' → Calls Tryz.prog 19 #[] w' (Vc.Ret (.bool b0) w')) ∧
  (.bool b0 : Value) = v)) ∧ (¬ (s0 = s1) → (
  (.bool false : Value) = v))) : Calls Tryz.prog 6 #[.agg #[.int .i64 x0, .int .i64 x1, .int .i64 x2, .int .i64 x3, .int .i64 x4]] w (Vc.Ret v w) :=
  Vc.pure_of base [] [] 200 Tryz.func6 (b := (Tryz.f6.body).getD .skip) (by kernel_rfl) [.cv (.agg [.int .i64 (.var 0), .int .i64 (.var 1), .int .i64 (.var 2), .int .i64 (.var 3), .int .i64 (.var 4)])] ⟨5, 0, 0, 0, 0, 0, 0⟩ [] (Vc.envOf [x0, x1, x2, x3, x4] [] [] []) (by kernel_rfl) Vc.kn_nil (by kernel_rfl) (by kernel_rfl) h

end Go.Proofs.YtogfcodccbcncaaGreatDoor
