/- What the walks of functions come to (written by program). -/
import Derived.Test.YtcoakpdafpclpaaGreatDoorTtG1
set_option linter.unusedVariables false
set_option maxRecDepth 100000
namespace Go.Proofs.YtcoakpdafpclpaaGreatDoor
open Go Go.RowKit
theorem vc_span_nonzero (p0 : Nat × Nat) (x0 x1 : Int) (b0 : Bool) (w : World) (v : Value) (h : 
  ∃ l0 : List Vc.OV, Vc.SlAt w ((if b0 = true then .slice none 0 0 else .slice (some (Vc.qad p0 (Int.toNat x0) (Int.toNat x1))) (Int.toNat x0) (Int.toNat x1) : Value)) 1 (l0.map (·.1)) ∧
  (∀ v ∈ (l0.map (·.1) ++ (([] : List Value))), ∃ n : Int, v = Value.int .u8 n) ∧ ∀ s0 : List UInt8, s0 = List.map Vc.byteV (l0.map (·.1) ++ (([] : List Value))) →
  ∃ (s1 : List UInt8), (∀ w' : World, Below w.heap.size w w' → Calls Tryz.prog 61 #[.string ⟨s0.toArray⟩, .string ⟨(([0] : List UInt8)).toArray⟩] w' (Vc.Ret (.string ⟨s1.toArray⟩) w')) ∧
  (.bool (!(decide (s1 = ([] : List UInt8)))) : Value) = v) : Calls Tryz.prog 25 #[(if b0 = true then .slice none 0 0 else .slice (some (Vc.qad p0 (Int.toNat x0) (Int.toNat x1))) (Int.toNat x0) (Int.toNat x1) : Value)] w (Vc.Ret v w) :=
  Vc.pure_of base [] 200 Tryz.func25 (b := (Tryz.f25.body).getD .skip) (by kernel_rfl) [.cv (.one (.qsl 0 0 1 (.var 0) (.var 1)))] ⟨2, 1, 0, 1, 0, 0, 0⟩ (Vc.envOf [x0, x1] [b0] [] [p0]) (by kernel_rfl) (by kernel_rfl) (by kernel_rfl) h

theorem vc_span_doubled (l0 : List Vc.OV) (rb rc rn ro : Nat) (w : World) (v : Value) (new : List Value) {own : Nat → Prop} (hx : Vc.RowOkP own rb rc rn ro (l0.map (·.1)) 1 5 w) (hlt : 2 ≤ rc → rb < w.heap.size) (h : ∀ xl : Nat, 
  ∀ x0 : Int, x0 = (((0 + (l0.length + 0)) / 1 : Nat) : Int) →
  ∀ x1 : Int, x1 = IntKind.i64.wrap (x0 - 1) →
  ∃ (Ix2 : List Vc.Vl → Prop) (mx2 : List Vc.Vl → Nat), Ix2 [.i 0, .i x1, .l ((l0.map (·.1) ++ (([] : List Value))))] ∧ ∀ (x2 : Int) (x3 : Int) (l1 : List Vc.OV), Ix2 [.i x2, .i x3, .l ((l1.map (·.1) ++ (([] : List Value))))] → (
  ((0 ≤ x3) → (
  ∀ x4 : Int, x4 = (((0 + (l1.length + 0)) / 1 : Nat) : Int) →
  (0 ≤ x3) ∧
  (x3 < x4) ∧
  ∃ (x5 : Int), ((l1.map (·.1) ++ (([] : List Value))))[(Int.toNat x3) * 1 + 0]? = some (.int .u8 x5) ∧
  ∀ x6 : Int, x6 = IntKind.u8.wrap (2 * x5) →
  ∀ x7 : Int, x7 = IntKind.u8.wrap (x6 + x2) →
  ∀ x8 : Int, x8 = Int.tmod x7 10 →
  ∀ x9 : Int, x9 = IntKind.u8.wrap (Int.tdiv x7 10) →
  ∀ x10 : Int, x10 = (((0 + (l1.length + 0)) / 1 : Nat) : Int) →
  (0 ≤ x3) ∧
  (x3 < x10) ∧
  ∀ x11 : Int, x11 = (((0 + (l1.length + 0)) / 1 : Nat) : Int) →
  (0 ≤ x3) ∧
  (x3 < x11) ∧
  ∀ l2 : List Vc.OV, l2.map (·.1) = ((l1.map (·.1) ++ (([] : List Value)))).take ((Int.toNat x3) * 1 + 0) ++ ([.int .u8 x8] : List Value) ++ ((l1.map (·.1) ++ (([] : List Value)))).drop ((Int.toNat x3) * 1 + 0 + 1) →
  ∀ x12 : Int, x12 = IntKind.i64.wrap (x3 - 1) →
  Ix2 [.i x9, .i x12, .l ((l2.map (·.1) ++ (([] : List Value))))] ∧ mx2 [.i x9, .i x12, .l ((l2.map (·.1) ++ (([] : List Value))))] < mx2 [.i x2, .i x3, .l ((l1.map (·.1) ++ (([] : List Value))))])) ∧ (¬ (0 ≤ x3) → (
  ∀ x4 : Int, x4 = IntKind.u64.wrap (x2) →
  (.agg #[.int .u64 x4, .agg ((l1.map (·.1) ++ (([] : List Value)))).toArray] : Value) = .agg #[v, .agg new.toArray])))) : Calls Tryz.prog 26 #[Vc.ownV rb rc rn ro] w (Vc.EffRow v rb rc rn ro new 1 5 w) :=
  Vc.effR_of base [(2000000000003, .inv [] [3, 4, 0] [9, 10, 13, 14, 15, 16, 17, 18, 19, 5, 20, 21, 22, 23, 24, 25, 26, 11, 12]), (500002000000000003, .inv [] [0] [])] 200 Tryz.func26 (b := (Tryz.f26.body).getD .skip) (by kernel_rfl) [.cv (.one (.own 0))] 1 5 ⟨0, 0, 0, 0, 4, 0, 1⟩ (Vc.envOf [] [] [] [] [] [l0]) (by kernel_rfl) (by kernel_rfl) (by kernel_rfl) (by decide) (by decide) (fun xl => by kernel_rfl) hx hlt h

def Vj_span_Read_T5 (x14 : Int) (v : Value) (w : World) (b0 : Bool) : Prop :=
  ((2147483647 < x14) → (
  (.tuple #[.agg #[.int .i64 0, .int .i64 0], .int .i64 4] : Value) = v)) ∧ (¬ (2147483647 < x14) → (
  ∃ (l1 : List Vc.OV), ∃ (x15 : Int), (∀ (β : Nat → Nat) (w' : World), Below w.heap.size w w' → (Vc.RowOk w.heap.size (β 1) (β 2) (β 3) (β 4) (([] : List Value)) 1 5 w' ∧ True) → Calls Tryz.prog 26 #[Vc.ownV (β 1) (β 2) (β 3) (β 4)] w' (Vc.EffRow (.int .u64 x15) (β 1) (β 2) (β 3) (β 4) (l1.map (·.1)) 1 5 w')) ∧
  ∃ (l2 : List Vc.OV), ∃ (x16 : Int), (∀ (β : Nat → Nat) (w' : World), Below w.heap.size w w' → (Vc.RowOk w.heap.size (β 1) (β 2) (β 3) (β 4) ((l1.map (·.1) ++ (([] : List Value)))) 1 5 w' ∧ True) → Calls Tryz.prog 26 #[Vc.ownV (β 1) (β 2) (β 3) (β 4)] w' (Vc.EffRow (.int .u64 x16) (β 1) (β 2) (β 3) (β 4) (l2.map (·.1)) 1 5 w')) ∧
  ∃ (l3 : List Vc.OV), ∃ (x17 : Int), (∀ (β : Nat → Nat) (w' : World), Below w.heap.size w w' → (Vc.RowOk w.heap.size (β 1) (β 2) (β 3) (β 4) ((l2.map (·.1) ++ (([] : List Value)))) 1 5 w' ∧ True) → Calls Tryz.prog 26 #[Vc.ownV (β 1) (β 2) (β 3) (β 4)] w' (Vc.EffRow (.int .u64 x17) (β 1) (β 2) (β 3) (β 4) (l3.map (·.1)) 1 5 w')) ∧
  ∃ (l4 : List Vc.OV), ∃ (x18 : Int), (∀ (β : Nat → Nat) (w' : World), Below w.heap.size w w' → (Vc.RowOk w.heap.size (β 1) (β 2) (β 3) (β 4) ((l3.map (·.1) ++ (([] : List Value)))) 1 5 w' ∧ True) → Calls Tryz.prog 26 #[Vc.ownV (β 1) (β 2) (β 3) (β 4)] w' (Vc.EffRow (.int .u64 x18) (β 1) (β 2) (β 3) (β 4) (l4.map (·.1)) 1 5 w')) ∧
  ∃ (l5 : List Vc.OV), ∃ (x19 : Int), (∀ (β : Nat → Nat) (w' : World), Below w.heap.size w w' → (Vc.RowOk w.heap.size (β 1) (β 2) (β 3) (β 4) ((l4.map (·.1) ++ (([] : List Value)))) 1 5 w' ∧ True) → Calls Tryz.prog 26 #[Vc.ownV (β 1) (β 2) (β 3) (β 4)] w' (Vc.EffRow (.int .u64 x19) (β 1) (β 2) (β 3) (β 4) (l5.map (·.1)) 1 5 w')) ∧
  ∃ (l6 : List Vc.OV), ∃ (x20 : Int), (∀ (β : Nat → Nat) (w' : World), Below w.heap.size w w' → (Vc.RowOk w.heap.size (β 1) (β 2) (β 3) (β 4) ((l5.map (·.1) ++ (([] : List Value)))) 1 5 w' ∧ True) → Calls Tryz.prog 26 #[Vc.ownV (β 1) (β 2) (β 3) (β 4)] w' (Vc.EffRow (.int .u64 x20) (β 1) (β 2) (β 3) (β 4) (l6.map (·.1)) 1 5 w')) ∧
  ∃ (l7 : List Vc.OV), ∃ (x21 : Int), (∀ (β : Nat → Nat) (w' : World), Below w.heap.size w w' → (Vc.RowOk w.heap.size (β 1) (β 2) (β 3) (β 4) ((l6.map (·.1) ++ (([] : List Value)))) 1 5 w' ∧ True) → Calls Tryz.prog 26 #[Vc.ownV (β 1) (β 2) (β 3) (β 4)] w' (Vc.EffRow (.int .u64 x21) (β 1) (β 2) (β 3) (β 4) (l7.map (·.1)) 1 5 w')) ∧
  ∃ (l8 : List Vc.OV), ∃ (x22 : Int), (∀ (β : Nat → Nat) (w' : World), Below w.heap.size w w' → (Vc.RowOk w.heap.size (β 1) (β 2) (β 3) (β 4) ((l7.map (·.1) ++ (([] : List Value)))) 1 5 w' ∧ True) → Calls Tryz.prog 26 #[Vc.ownV (β 1) (β 2) (β 3) (β 4)] w' (Vc.EffRow (.int .u64 x22) (β 1) (β 2) (β 3) (β 4) (l8.map (·.1)) 1 5 w')) ∧
  ∃ (l9 : List Vc.OV), ∃ (x23 : Int), (∀ (β : Nat → Nat) (w' : World), Below w.heap.size w w' → (Vc.RowOk w.heap.size (β 1) (β 2) (β 3) (β 4) ((l8.map (·.1) ++ (([] : List Value)))) 1 5 w' ∧ True) → Calls Tryz.prog 26 #[Vc.ownV (β 1) (β 2) (β 3) (β 4)] w' (Vc.EffRow (.int .u64 x23) (β 1) (β 2) (β 3) (β 4) (l9.map (·.1)) 1 5 w')) ∧
  ∃ (l10 : List Vc.OV), ∃ (x24 : Int), (∀ (β : Nat → Nat) (w' : World), Below w.heap.size w w' → (Vc.RowOk w.heap.size (β 1) (β 2) (β 3) (β 4) ((l9.map (·.1) ++ (([] : List Value)))) 1 5 w' ∧ True) → Calls Tryz.prog 26 #[Vc.ownV (β 1) (β 2) (β 3) (β 4)] w' (Vc.EffRow (.int .u64 x24) (β 1) (β 2) (β 3) (β 4) (l10.map (·.1)) 1 5 w')) ∧
  ∃ (l11 : List Vc.OV), ∃ (x25 : Int), (∀ (β : Nat → Nat) (w' : World), Below w.heap.size w w' → (Vc.RowOk w.heap.size (β 1) (β 2) (β 3) (β 4) ((l10.map (·.1) ++ (([] : List Value)))) 1 5 w' ∧ True) → Calls Tryz.prog 26 #[Vc.ownV (β 1) (β 2) (β 3) (β 4)] w' (Vc.EffRow (.int .u64 x25) (β 1) (β 2) (β 3) (β 4) (l11.map (·.1)) 1 5 w')) ∧
  ∃ (l12 : List Vc.OV), ∃ (x26 : Int), (∀ (β : Nat → Nat) (w' : World), Below w.heap.size w w' → (Vc.RowOk w.heap.size (β 1) (β 2) (β 3) (β 4) ((l11.map (·.1) ++ (([] : List Value)))) 1 5 w' ∧ True) → Calls Tryz.prog 26 #[Vc.ownV (β 1) (β 2) (β 3) (β 4)] w' (Vc.EffRow (.int .u64 x26) (β 1) (β 2) (β 3) (β 4) (l12.map (·.1)) 1 5 w')) ∧
  ∃ (l13 : List Vc.OV), ∃ (x27 : Int), (∀ (β : Nat → Nat) (w' : World), Below w.heap.size w w' → (Vc.RowOk w.heap.size (β 1) (β 2) (β 3) (β 4) ((l12.map (·.1) ++ (([] : List Value)))) 1 5 w' ∧ True) → Calls Tryz.prog 26 #[Vc.ownV (β 1) (β 2) (β 3) (β 4)] w' (Vc.EffRow (.int .u64 x27) (β 1) (β 2) (β 3) (β 4) (l13.map (·.1)) 1 5 w')) ∧
  ∃ (l14 : List Vc.OV), ∃ (x28 : Int), (∀ (β : Nat → Nat) (w' : World), Below w.heap.size w w' → (Vc.RowOk w.heap.size (β 1) (β 2) (β 3) (β 4) ((l13.map (·.1) ++ (([] : List Value)))) 1 5 w' ∧ True) → Calls Tryz.prog 26 #[Vc.ownV (β 1) (β 2) (β 3) (β 4)] w' (Vc.EffRow (.int .u64 x28) (β 1) (β 2) (β 3) (β 4) (l14.map (·.1)) 1 5 w')) ∧
  ∃ (l15 : List Vc.OV), ∃ (x29 : Int), (∀ (β : Nat → Nat) (w' : World), Below w.heap.size w w' → (Vc.RowOk w.heap.size (β 1) (β 2) (β 3) (β 4) ((l14.map (·.1) ++ (([] : List Value)))) 1 5 w' ∧ True) → Calls Tryz.prog 26 #[Vc.ownV (β 1) (β 2) (β 3) (β 4)] w' (Vc.EffRow (.int .u64 x29) (β 1) (β 2) (β 3) (β 4) (l15.map (·.1)) 1 5 w')) ∧
  ∃ (l16 : List Vc.OV), ∃ (x30 : Int), (∀ (β : Nat → Nat) (w' : World), Below w.heap.size w w' → (Vc.RowOk w.heap.size (β 1) (β 2) (β 3) (β 4) ((l15.map (·.1) ++ (([] : List Value)))) 1 5 w' ∧ True) → Calls Tryz.prog 26 #[Vc.ownV (β 1) (β 2) (β 3) (β 4)] w' (Vc.EffRow (.int .u64 x30) (β 1) (β 2) (β 3) (β 4) (l16.map (·.1)) 1 5 w')) ∧
  ∃ (l17 : List Vc.OV), ∃ (x31 : Int), (∀ (β : Nat → Nat) (w' : World), Below w.heap.size w w' → (Vc.RowOk w.heap.size (β 1) (β 2) (β 3) (β 4) ((l16.map (·.1) ++ (([] : List Value)))) 1 5 w' ∧ True) → Calls Tryz.prog 26 #[Vc.ownV (β 1) (β 2) (β 3) (β 4)] w' (Vc.EffRow (.int .u64 x31) (β 1) (β 2) (β 3) (β 4) (l17.map (·.1)) 1 5 w')) ∧
  ∃ (l18 : List Vc.OV), ∃ (x32 : Int), (∀ (β : Nat → Nat) (w' : World), Below w.heap.size w w' → (Vc.RowOk w.heap.size (β 1) (β 2) (β 3) (β 4) ((l17.map (·.1) ++ (([] : List Value)))) 1 5 w' ∧ True) → Calls Tryz.prog 26 #[Vc.ownV (β 1) (β 2) (β 3) (β 4)] w' (Vc.EffRow (.int .u64 x32) (β 1) (β 2) (β 3) (β 4) (l18.map (·.1)) 1 5 w')) ∧
  ∃ (l19 : List Vc.OV), ∃ (x33 : Int), (∀ (β : Nat → Nat) (w' : World), Below w.heap.size w w' → (Vc.RowOk w.heap.size (β 1) (β 2) (β 3) (β 4) ((l18.map (·.1) ++ (([] : List Value)))) 1 5 w' ∧ True) → Calls Tryz.prog 26 #[Vc.ownV (β 1) (β 2) (β 3) (β 4)] w' (Vc.EffRow (.int .u64 x33) (β 1) (β 2) (β 3) (β 4) (l19.map (·.1)) 1 5 w')) ∧
  ∃ (l20 : List Vc.OV), ∃ (x34 : Int), (∀ (β : Nat → Nat) (w' : World), Below w.heap.size w w' → (Vc.RowOk w.heap.size (β 1) (β 2) (β 3) (β 4) ((l19.map (·.1) ++ (([] : List Value)))) 1 5 w' ∧ True) → Calls Tryz.prog 26 #[Vc.ownV (β 1) (β 2) (β 3) (β 4)] w' (Vc.EffRow (.int .u64 x34) (β 1) (β 2) (β 3) (β 4) (l20.map (·.1)) 1 5 w')) ∧
  ∃ (l21 : List Vc.OV), ∃ (x35 : Int), (∀ (β : Nat → Nat) (w' : World), Below w.heap.size w w' → (Vc.RowOk w.heap.size (β 1) (β 2) (β 3) (β 4) ((l20.map (·.1) ++ (([] : List Value)))) 1 5 w' ∧ True) → Calls Tryz.prog 26 #[Vc.ownV (β 1) (β 2) (β 3) (β 4)] w' (Vc.EffRow (.int .u64 x35) (β 1) (β 2) (β 3) (β 4) (l21.map (·.1)) 1 5 w')) ∧
  ∃ (l22 : List Vc.OV), ∃ (x36 : Int), (∀ (β : Nat → Nat) (w' : World), Below w.heap.size w w' → (Vc.RowOk w.heap.size (β 1) (β 2) (β 3) (β 4) ((l21.map (·.1) ++ (([] : List Value)))) 1 5 w' ∧ True) → Calls Tryz.prog 26 #[Vc.ownV (β 1) (β 2) (β 3) (β 4)] w' (Vc.EffRow (.int .u64 x36) (β 1) (β 2) (β 3) (β 4) (l22.map (·.1)) 1 5 w')) ∧
  ∃ (l23 : List Vc.OV), ∃ (x37 : Int), (∀ (β : Nat → Nat) (w' : World), Below w.heap.size w w' → (Vc.RowOk w.heap.size (β 1) (β 2) (β 3) (β 4) ((l22.map (·.1) ++ (([] : List Value)))) 1 5 w' ∧ True) → Calls Tryz.prog 26 #[Vc.ownV (β 1) (β 2) (β 3) (β 4)] w' (Vc.EffRow (.int .u64 x37) (β 1) (β 2) (β 3) (β 4) (l23.map (·.1)) 1 5 w')) ∧
  ∃ (l24 : List Vc.OV), ∃ (x38 : Int), (∀ (β : Nat → Nat) (w' : World), Below w.heap.size w w' → (Vc.RowOk w.heap.size (β 1) (β 2) (β 3) (β 4) ((l23.map (·.1) ++ (([] : List Value)))) 1 5 w' ∧ True) → Calls Tryz.prog 26 #[Vc.ownV (β 1) (β 2) (β 3) (β 4)] w' (Vc.EffRow (.int .u64 x38) (β 1) (β 2) (β 3) (β 4) (l24.map (·.1)) 1 5 w')) ∧
  ∃ (l25 : List Vc.OV), ∃ (x39 : Int), (∀ (β : Nat → Nat) (w' : World), Below w.heap.size w w' → (Vc.RowOk w.heap.size (β 1) (β 2) (β 3) (β 4) ((l24.map (·.1) ++ (([] : List Value)))) 1 5 w' ∧ True) → Calls Tryz.prog 26 #[Vc.ownV (β 1) (β 2) (β 3) (β 4)] w' (Vc.EffRow (.int .u64 x39) (β 1) (β 2) (β 3) (β 4) (l25.map (·.1)) 1 5 w')) ∧
  ∃ (l26 : List Vc.OV), ∃ (x40 : Int), (∀ (β : Nat → Nat) (w' : World), Below w.heap.size w w' → (Vc.RowOk w.heap.size (β 1) (β 2) (β 3) (β 4) ((l25.map (·.1) ++ (([] : List Value)))) 1 5 w' ∧ True) → Calls Tryz.prog 26 #[Vc.ownV (β 1) (β 2) (β 3) (β 4)] w' (Vc.EffRow (.int .u64 x40) (β 1) (β 2) (β 3) (β 4) (l26.map (·.1)) 1 5 w')) ∧
  ∃ (l27 : List Vc.OV), ∃ (x41 : Int), (∀ (β : Nat → Nat) (w' : World), Below w.heap.size w w' → (Vc.RowOk w.heap.size (β 1) (β 2) (β 3) (β 4) ((l26.map (·.1) ++ (([] : List Value)))) 1 5 w' ∧ True) → Calls Tryz.prog 26 #[Vc.ownV (β 1) (β 2) (β 3) (β 4)] w' (Vc.EffRow (.int .u64 x41) (β 1) (β 2) (β 3) (β 4) (l27.map (·.1)) 1 5 w')) ∧
  ∃ (l28 : List Vc.OV), ∃ (x42 : Int), (∀ (β : Nat → Nat) (w' : World), Below w.heap.size w w' → (Vc.RowOk w.heap.size (β 1) (β 2) (β 3) (β 4) ((l27.map (·.1) ++ (([] : List Value)))) 1 5 w' ∧ True) → Calls Tryz.prog 26 #[Vc.ownV (β 1) (β 2) (β 3) (β 4)] w' (Vc.EffRow (.int .u64 x42) (β 1) (β 2) (β 3) (β 4) (l28.map (·.1)) 1 5 w')) ∧
  ∃ (l29 : List Vc.OV), ∃ (x43 : Int), (∀ (β : Nat → Nat) (w' : World), Below w.heap.size w w' → (Vc.RowOk w.heap.size (β 1) (β 2) (β 3) (β 4) ((l28.map (·.1) ++ (([] : List Value)))) 1 5 w' ∧ True) → Calls Tryz.prog 26 #[Vc.ownV (β 1) (β 2) (β 3) (β 4)] w' (Vc.EffRow (.int .u64 x43) (β 1) (β 2) (β 3) (β 4) (l29.map (·.1)) 1 5 w')) ∧
  ∃ (l30 : List Vc.OV), ∃ (x44 : Int), (∀ (β : Nat → Nat) (w' : World), Below w.heap.size w w' → (Vc.RowOk w.heap.size (β 1) (β 2) (β 3) (β 4) ((l29.map (·.1) ++ (([] : List Value)))) 1 5 w' ∧ True) → Calls Tryz.prog 26 #[Vc.ownV (β 1) (β 2) (β 3) (β 4)] w' (Vc.EffRow (.int .u64 x44) (β 1) (β 2) (β 3) (β 4) (l30.map (·.1)) 1 5 w')) ∧
  ∃ (l31 : List Vc.OV), ∃ (x45 : Int), (∀ (β : Nat → Nat) (w' : World), Below w.heap.size w w' → (Vc.RowOk w.heap.size (β 1) (β 2) (β 3) (β 4) ((l30.map (·.1) ++ (([] : List Value)))) 1 5 w' ∧ True) → Calls Tryz.prog 26 #[Vc.ownV (β 1) (β 2) (β 3) (β 4)] w' (Vc.EffRow (.int .u64 x45) (β 1) (β 2) (β 3) (β 4) (l31.map (·.1)) 1 5 w')) ∧
  ∃ (l32 : List Vc.OV), ∃ (x46 : Int), (∀ (β : Nat → Nat) (w' : World), Below w.heap.size w w' → (Vc.RowOk w.heap.size (β 1) (β 2) (β 3) (β 4) ((l31.map (·.1) ++ (([] : List Value)))) 1 5 w' ∧ True) → Calls Tryz.prog 26 #[Vc.ownV (β 1) (β 2) (β 3) (β 4)] w' (Vc.EffRow (.int .u64 x46) (β 1) (β 2) (β 3) (β 4) (l32.map (·.1)) 1 5 w')) ∧
  ∀ x47 : Int, x47 = IntKind.u64.wrap (x14 * 2) →
  ∀ x48 : Int, x48 = bits .or .u64 x47 x15 →
  ∀ x49 : Int, x49 = IntKind.u64.wrap (x48 * 2) →
  ∀ x50 : Int, x50 = bits .or .u64 x49 x16 →
  ∀ x51 : Int, x51 = IntKind.u64.wrap (x50 * 2) →
  ∀ x52 : Int, x52 = bits .or .u64 x51 x17 →
  ∀ x53 : Int, x53 = IntKind.u64.wrap (x52 * 2) →
  ∀ x54 : Int, x54 = bits .or .u64 x53 x18 →
  ∀ x55 : Int, x55 = IntKind.u64.wrap (x54 * 2) →
  ∀ x56 : Int, x56 = bits .or .u64 x55 x19 →
  ∀ x57 : Int, x57 = IntKind.u64.wrap (x56 * 2) →
  ∀ x58 : Int, x58 = bits .or .u64 x57 x20 →
  ∀ x59 : Int, x59 = IntKind.u64.wrap (x58 * 2) →
  ∀ x60 : Int, x60 = bits .or .u64 x59 x21 →
  ∀ x61 : Int, x61 = IntKind.u64.wrap (x60 * 2) →
  ∀ x62 : Int, x62 = bits .or .u64 x61 x22 →
  ∀ x63 : Int, x63 = IntKind.u64.wrap (x62 * 2) →
  ∀ x64 : Int, x64 = bits .or .u64 x63 x23 →
  ∀ x65 : Int, x65 = IntKind.u64.wrap (x64 * 2) →
  ∀ x66 : Int, x66 = bits .or .u64 x65 x24 →
  ∀ x67 : Int, x67 = IntKind.u64.wrap (x66 * 2) →
  ∀ x68 : Int, x68 = bits .or .u64 x67 x25 →
  ∀ x69 : Int, x69 = IntKind.u64.wrap (x68 * 2) →
  ∀ x70 : Int, x70 = bits .or .u64 x69 x26 →
  ∀ x71 : Int, x71 = IntKind.u64.wrap (x70 * 2) →
  ∀ x72 : Int, x72 = bits .or .u64 x71 x27 →
  ∀ x73 : Int, x73 = IntKind.u64.wrap (x72 * 2) →
  ∀ x74 : Int, x74 = bits .or .u64 x73 x28 →
  ∀ x75 : Int, x75 = IntKind.u64.wrap (x74 * 2) →
  ∀ x76 : Int, x76 = bits .or .u64 x75 x29 →
  ∀ x77 : Int, x77 = IntKind.u64.wrap (x76 * 2) →
  ∀ x78 : Int, x78 = bits .or .u64 x77 x30 →
  ∀ x79 : Int, x79 = IntKind.u64.wrap (x78 * 2) →
  ∀ x80 : Int, x80 = bits .or .u64 x79 x31 →
  ∀ x81 : Int, x81 = IntKind.u64.wrap (x80 * 2) →
  ∀ x82 : Int, x82 = bits .or .u64 x81 x32 →
  ∀ x83 : Int, x83 = IntKind.u64.wrap (x82 * 2) →
  ∀ x84 : Int, x84 = bits .or .u64 x83 x33 →
  ∀ x85 : Int, x85 = IntKind.u64.wrap (x84 * 2) →
  ∀ x86 : Int, x86 = bits .or .u64 x85 x34 →
  ∀ x87 : Int, x87 = IntKind.u64.wrap (x86 * 2) →
  ∀ x88 : Int, x88 = bits .or .u64 x87 x35 →
  ∀ x89 : Int, x89 = IntKind.u64.wrap (x88 * 2) →
  ∀ x90 : Int, x90 = bits .or .u64 x89 x36 →
  ∀ x91 : Int, x91 = IntKind.u64.wrap (x90 * 2) →
  ∀ x92 : Int, x92 = bits .or .u64 x91 x37 →
  ∀ x93 : Int, x93 = IntKind.u64.wrap (x92 * 2) →
  ∀ x94 : Int, x94 = bits .or .u64 x93 x38 →
  ∀ x95 : Int, x95 = IntKind.u64.wrap (x94 * 2) →
  ∀ x96 : Int, x96 = bits .or .u64 x95 x39 →
  ∀ x97 : Int, x97 = IntKind.u64.wrap (x96 * 2) →
  ∀ x98 : Int, x98 = bits .or .u64 x97 x40 →
  ∀ x99 : Int, x99 = IntKind.u64.wrap (x98 * 2) →
  ∀ x100 : Int, x100 = bits .or .u64 x99 x41 →
  ∀ x101 : Int, x101 = IntKind.u64.wrap (x100 * 2) →
  ∀ x102 : Int, x102 = bits .or .u64 x101 x42 →
  ∀ x103 : Int, x103 = IntKind.u64.wrap (x102 * 2) →
  ∀ x104 : Int, x104 = bits .or .u64 x103 x43 →
  ∀ x105 : Int, x105 = IntKind.u64.wrap (x104 * 2) →
  ∀ x106 : Int, x106 = bits .or .u64 x105 x44 →
  ∀ x107 : Int, x107 = IntKind.u64.wrap (x106 * 2) →
  ∀ x108 : Int, x108 = bits .or .u64 x107 x45 →
  ∀ x109 : Int, x109 = IntKind.u64.wrap (x108 * 2) →
  ∀ x110 : Int, x110 = bits .or .u64 x109 x46 →
  ∃ (b3 : Bool), (∀ (β : Nat → Nat) (w' : World), Below w.heap.size w w' → (Vc.RowOk w.heap.size (β 1) (β 2) (β 3) (β 4) ((l32.map (·.1) ++ (([] : List Value)))) 1 5 w' ∧ True) → Calls Tryz.prog 25 #[Vc.ownV (β 1) (β 2) (β 3) (β 4)] w' (Vc.Ret (.bool b3) w')) ∧
  ((b3 = true) → (
  ∃ (b4 : Bool), ∃ (x111 : Int), ∃ (x112 : Int), (∀ w' : World, Below w.heap.size w w' → Calls Tryz.prog 27 #[.agg #[.bool false, .int .u64 0, .int .u64 x110], .agg #[.bool false, .int .u64 0, .int .u64 1]] w' (Vc.Ret (.agg #[.bool b4, .int .u64 x111, .int .u64 x112]) w')) ∧
  ((b0 = true) → (
  ∃ (x113 : Int), ∃ (x114 : Int), ∃ (x115 : Int), (∀ w' : World, Below w.heap.size w w' → Calls Tryz.prog 22 #[.agg #[.bool true, .int .u64 x111, .int .u64 x112], .agg #[.bool true, .int .u64 0, .int .u64 x110]] w' (Vc.Ret (.tuple #[.agg #[.int .i64 x113, .int .i64 x114], .int .i64 x115]) w')) ∧
  (.tuple #[.agg #[.int .i64 x113, .int .i64 x114], .int .i64 x115] : Value) = v)) ∧ (¬ (b0 = true) → (
  ∃ (x113 : Int), ∃ (x114 : Int), ∃ (x115 : Int), (∀ w' : World, Below w.heap.size w w' → Calls Tryz.prog 22 #[.agg #[.bool false, .int .u64 0, .int .u64 x110], .agg #[.bool b4, .int .u64 x111, .int .u64 x112]] w' (Vc.Ret (.tuple #[.agg #[.int .i64 x113, .int .i64 x114], .int .i64 x115]) w')) ∧
  (.tuple #[.agg #[.int .i64 x113, .int .i64 x114], .int .i64 x115] : Value) = v)))) ∧ (¬ (b3 = true) → (
  ((b0 = true) → (
  ∃ (x111 : Int), ∃ (x112 : Int), ∃ (x113 : Int), (∀ w' : World, Below w.heap.size w w' → Calls Tryz.prog 22 #[.agg #[.bool true, .int .u64 0, .int .u64 x110], .agg #[.bool true, .int .u64 0, .int .u64 x110]] w' (Vc.Ret (.tuple #[.agg #[.int .i64 x111, .int .i64 x112], .int .i64 x113]) w')) ∧
  (.tuple #[.agg #[.int .i64 x111, .int .i64 x112], .int .i64 x113] : Value) = v)) ∧ (¬ (b0 = true) → (
  ∃ (x111 : Int), ∃ (x112 : Int), ∃ (x113 : Int), (∀ w' : World, Below w.heap.size w w' → Calls Tryz.prog 22 #[.agg #[.bool false, .int .u64 0, .int .u64 x110], .agg #[.bool false, .int .u64 0, .int .u64 x110]] w' (Vc.Ret (.tuple #[.agg #[.int .i64 x111, .int .i64 x112], .int .i64 x113]) w')) ∧
  (.tuple #[.agg #[.int .i64 x111, .int .i64 x112], .int .i64 x113] : Value) = v))))))
def Vj_span_Read_T4 (x17 : Int) (v : Value) (w : World) (l1 : List Vc.OV) (b0 : Bool) : Prop :=
  ((2147483647 < x17) → (
  (.tuple #[.agg #[.int .i64 0, .int .i64 0], .int .i64 4] : Value) = v)) ∧ (¬ (2147483647 < x17) → (
  ∃ (l2 : List Vc.OV), ∃ (x18 : Int), (∀ (β : Nat → Nat) (w' : World), Below w.heap.size w w' → (Vc.RowOk w.heap.size (β 17) (β 18) (β 19) (β 20) ((l1.map (·.1) ++ (([] : List Value)))) 1 5 w' ∧ True) → Calls Tryz.prog 26 #[Vc.ownV (β 17) (β 18) (β 19) (β 20)] w' (Vc.EffRow (.int .u64 x18) (β 17) (β 18) (β 19) (β 20) (l2.map (·.1)) 1 5 w')) ∧
  ∃ (l3 : List Vc.OV), ∃ (x19 : Int), (∀ (β : Nat → Nat) (w' : World), Below w.heap.size w w' → (Vc.RowOk w.heap.size (β 17) (β 18) (β 19) (β 20) ((l2.map (·.1) ++ (([] : List Value)))) 1 5 w' ∧ True) → Calls Tryz.prog 26 #[Vc.ownV (β 17) (β 18) (β 19) (β 20)] w' (Vc.EffRow (.int .u64 x19) (β 17) (β 18) (β 19) (β 20) (l3.map (·.1)) 1 5 w')) ∧
  ∃ (l4 : List Vc.OV), ∃ (x20 : Int), (∀ (β : Nat → Nat) (w' : World), Below w.heap.size w w' → (Vc.RowOk w.heap.size (β 17) (β 18) (β 19) (β 20) ((l3.map (·.1) ++ (([] : List Value)))) 1 5 w' ∧ True) → Calls Tryz.prog 26 #[Vc.ownV (β 17) (β 18) (β 19) (β 20)] w' (Vc.EffRow (.int .u64 x20) (β 17) (β 18) (β 19) (β 20) (l4.map (·.1)) 1 5 w')) ∧
  ∃ (l5 : List Vc.OV), ∃ (x21 : Int), (∀ (β : Nat → Nat) (w' : World), Below w.heap.size w w' → (Vc.RowOk w.heap.size (β 17) (β 18) (β 19) (β 20) ((l4.map (·.1) ++ (([] : List Value)))) 1 5 w' ∧ True) → Calls Tryz.prog 26 #[Vc.ownV (β 17) (β 18) (β 19) (β 20)] w' (Vc.EffRow (.int .u64 x21) (β 17) (β 18) (β 19) (β 20) (l5.map (·.1)) 1 5 w')) ∧
  ∃ (l6 : List Vc.OV), ∃ (x22 : Int), (∀ (β : Nat → Nat) (w' : World), Below w.heap.size w w' → (Vc.RowOk w.heap.size (β 17) (β 18) (β 19) (β 20) ((l5.map (·.1) ++ (([] : List Value)))) 1 5 w' ∧ True) → Calls Tryz.prog 26 #[Vc.ownV (β 17) (β 18) (β 19) (β 20)] w' (Vc.EffRow (.int .u64 x22) (β 17) (β 18) (β 19) (β 20) (l6.map (·.1)) 1 5 w')) ∧
  ∃ (l7 : List Vc.OV), ∃ (x23 : Int), (∀ (β : Nat → Nat) (w' : World), Below w.heap.size w w' → (Vc.RowOk w.heap.size (β 17) (β 18) (β 19) (β 20) ((l6.map (·.1) ++ (([] : List Value)))) 1 5 w' ∧ True) → Calls Tryz.prog 26 #[Vc.ownV (β 17) (β 18) (β 19) (β 20)] w' (Vc.EffRow (.int .u64 x23) (β 17) (β 18) (β 19) (β 20) (l7.map (·.1)) 1 5 w')) ∧
  ∃ (l8 : List Vc.OV), ∃ (x24 : Int), (∀ (β : Nat → Nat) (w' : World), Below w.heap.size w w' → (Vc.RowOk w.heap.size (β 17) (β 18) (β 19) (β 20) ((l7.map (·.1) ++ (([] : List Value)))) 1 5 w' ∧ True) → Calls Tryz.prog 26 #[Vc.ownV (β 17) (β 18) (β 19) (β 20)] w' (Vc.EffRow (.int .u64 x24) (β 17) (β 18) (β 19) (β 20) (l8.map (·.1)) 1 5 w')) ∧
  ∃ (l9 : List Vc.OV), ∃ (x25 : Int), (∀ (β : Nat → Nat) (w' : World), Below w.heap.size w w' → (Vc.RowOk w.heap.size (β 17) (β 18) (β 19) (β 20) ((l8.map (·.1) ++ (([] : List Value)))) 1 5 w' ∧ True) → Calls Tryz.prog 26 #[Vc.ownV (β 17) (β 18) (β 19) (β 20)] w' (Vc.EffRow (.int .u64 x25) (β 17) (β 18) (β 19) (β 20) (l9.map (·.1)) 1 5 w')) ∧
  ∃ (l10 : List Vc.OV), ∃ (x26 : Int), (∀ (β : Nat → Nat) (w' : World), Below w.heap.size w w' → (Vc.RowOk w.heap.size (β 17) (β 18) (β 19) (β 20) ((l9.map (·.1) ++ (([] : List Value)))) 1 5 w' ∧ True) → Calls Tryz.prog 26 #[Vc.ownV (β 17) (β 18) (β 19) (β 20)] w' (Vc.EffRow (.int .u64 x26) (β 17) (β 18) (β 19) (β 20) (l10.map (·.1)) 1 5 w')) ∧
  ∃ (l11 : List Vc.OV), ∃ (x27 : Int), (∀ (β : Nat → Nat) (w' : World), Below w.heap.size w w' → (Vc.RowOk w.heap.size (β 17) (β 18) (β 19) (β 20) ((l10.map (·.1) ++ (([] : List Value)))) 1 5 w' ∧ True) → Calls Tryz.prog 26 #[Vc.ownV (β 17) (β 18) (β 19) (β 20)] w' (Vc.EffRow (.int .u64 x27) (β 17) (β 18) (β 19) (β 20) (l11.map (·.1)) 1 5 w')) ∧
  ∃ (l12 : List Vc.OV), ∃ (x28 : Int), (∀ (β : Nat → Nat) (w' : World), Below w.heap.size w w' → (Vc.RowOk w.heap.size (β 17) (β 18) (β 19) (β 20) ((l11.map (·.1) ++ (([] : List Value)))) 1 5 w' ∧ True) → Calls Tryz.prog 26 #[Vc.ownV (β 17) (β 18) (β 19) (β 20)] w' (Vc.EffRow (.int .u64 x28) (β 17) (β 18) (β 19) (β 20) (l12.map (·.1)) 1 5 w')) ∧
  ∃ (l13 : List Vc.OV), ∃ (x29 : Int), (∀ (β : Nat → Nat) (w' : World), Below w.heap.size w w' → (Vc.RowOk w.heap.size (β 17) (β 18) (β 19) (β 20) ((l12.map (·.1) ++ (([] : List Value)))) 1 5 w' ∧ True) → Calls Tryz.prog 26 #[Vc.ownV (β 17) (β 18) (β 19) (β 20)] w' (Vc.EffRow (.int .u64 x29) (β 17) (β 18) (β 19) (β 20) (l13.map (·.1)) 1 5 w')) ∧
  ∃ (l14 : List Vc.OV), ∃ (x30 : Int), (∀ (β : Nat → Nat) (w' : World), Below w.heap.size w w' → (Vc.RowOk w.heap.size (β 17) (β 18) (β 19) (β 20) ((l13.map (·.1) ++ (([] : List Value)))) 1 5 w' ∧ True) → Calls Tryz.prog 26 #[Vc.ownV (β 17) (β 18) (β 19) (β 20)] w' (Vc.EffRow (.int .u64 x30) (β 17) (β 18) (β 19) (β 20) (l14.map (·.1)) 1 5 w')) ∧
  ∃ (l15 : List Vc.OV), ∃ (x31 : Int), (∀ (β : Nat → Nat) (w' : World), Below w.heap.size w w' → (Vc.RowOk w.heap.size (β 17) (β 18) (β 19) (β 20) ((l14.map (·.1) ++ (([] : List Value)))) 1 5 w' ∧ True) → Calls Tryz.prog 26 #[Vc.ownV (β 17) (β 18) (β 19) (β 20)] w' (Vc.EffRow (.int .u64 x31) (β 17) (β 18) (β 19) (β 20) (l15.map (·.1)) 1 5 w')) ∧
  ∃ (l16 : List Vc.OV), ∃ (x32 : Int), (∀ (β : Nat → Nat) (w' : World), Below w.heap.size w w' → (Vc.RowOk w.heap.size (β 17) (β 18) (β 19) (β 20) ((l15.map (·.1) ++ (([] : List Value)))) 1 5 w' ∧ True) → Calls Tryz.prog 26 #[Vc.ownV (β 17) (β 18) (β 19) (β 20)] w' (Vc.EffRow (.int .u64 x32) (β 17) (β 18) (β 19) (β 20) (l16.map (·.1)) 1 5 w')) ∧
  ∃ (l17 : List Vc.OV), ∃ (x33 : Int), (∀ (β : Nat → Nat) (w' : World), Below w.heap.size w w' → (Vc.RowOk w.heap.size (β 17) (β 18) (β 19) (β 20) ((l16.map (·.1) ++ (([] : List Value)))) 1 5 w' ∧ True) → Calls Tryz.prog 26 #[Vc.ownV (β 17) (β 18) (β 19) (β 20)] w' (Vc.EffRow (.int .u64 x33) (β 17) (β 18) (β 19) (β 20) (l17.map (·.1)) 1 5 w')) ∧
  ∃ (l18 : List Vc.OV), ∃ (x34 : Int), (∀ (β : Nat → Nat) (w' : World), Below w.heap.size w w' → (Vc.RowOk w.heap.size (β 17) (β 18) (β 19) (β 20) ((l17.map (·.1) ++ (([] : List Value)))) 1 5 w' ∧ True) → Calls Tryz.prog 26 #[Vc.ownV (β 17) (β 18) (β 19) (β 20)] w' (Vc.EffRow (.int .u64 x34) (β 17) (β 18) (β 19) (β 20) (l18.map (·.1)) 1 5 w')) ∧
  ∃ (l19 : List Vc.OV), ∃ (x35 : Int), (∀ (β : Nat → Nat) (w' : World), Below w.heap.size w w' → (Vc.RowOk w.heap.size (β 17) (β 18) (β 19) (β 20) ((l18.map (·.1) ++ (([] : List Value)))) 1 5 w' ∧ True) → Calls Tryz.prog 26 #[Vc.ownV (β 17) (β 18) (β 19) (β 20)] w' (Vc.EffRow (.int .u64 x35) (β 17) (β 18) (β 19) (β 20) (l19.map (·.1)) 1 5 w')) ∧
  ∃ (l20 : List Vc.OV), ∃ (x36 : Int), (∀ (β : Nat → Nat) (w' : World), Below w.heap.size w w' → (Vc.RowOk w.heap.size (β 17) (β 18) (β 19) (β 20) ((l19.map (·.1) ++ (([] : List Value)))) 1 5 w' ∧ True) → Calls Tryz.prog 26 #[Vc.ownV (β 17) (β 18) (β 19) (β 20)] w' (Vc.EffRow (.int .u64 x36) (β 17) (β 18) (β 19) (β 20) (l20.map (·.1)) 1 5 w')) ∧
  ∃ (l21 : List Vc.OV), ∃ (x37 : Int), (∀ (β : Nat → Nat) (w' : World), Below w.heap.size w w' → (Vc.RowOk w.heap.size (β 17) (β 18) (β 19) (β 20) ((l20.map (·.1) ++ (([] : List Value)))) 1 5 w' ∧ True) → Calls Tryz.prog 26 #[Vc.ownV (β 17) (β 18) (β 19) (β 20)] w' (Vc.EffRow (.int .u64 x37) (β 17) (β 18) (β 19) (β 20) (l21.map (·.1)) 1 5 w')) ∧
  ∃ (l22 : List Vc.OV), ∃ (x38 : Int), (∀ (β : Nat → Nat) (w' : World), Below w.heap.size w w' → (Vc.RowOk w.heap.size (β 17) (β 18) (β 19) (β 20) ((l21.map (·.1) ++ (([] : List Value)))) 1 5 w' ∧ True) → Calls Tryz.prog 26 #[Vc.ownV (β 17) (β 18) (β 19) (β 20)] w' (Vc.EffRow (.int .u64 x38) (β 17) (β 18) (β 19) (β 20) (l22.map (·.1)) 1 5 w')) ∧
  ∃ (l23 : List Vc.OV), ∃ (x39 : Int), (∀ (β : Nat → Nat) (w' : World), Below w.heap.size w w' → (Vc.RowOk w.heap.size (β 17) (β 18) (β 19) (β 20) ((l22.map (·.1) ++ (([] : List Value)))) 1 5 w' ∧ True) → Calls Tryz.prog 26 #[Vc.ownV (β 17) (β 18) (β 19) (β 20)] w' (Vc.EffRow (.int .u64 x39) (β 17) (β 18) (β 19) (β 20) (l23.map (·.1)) 1 5 w')) ∧
  ∃ (l24 : List Vc.OV), ∃ (x40 : Int), (∀ (β : Nat → Nat) (w' : World), Below w.heap.size w w' → (Vc.RowOk w.heap.size (β 17) (β 18) (β 19) (β 20) ((l23.map (·.1) ++ (([] : List Value)))) 1 5 w' ∧ True) → Calls Tryz.prog 26 #[Vc.ownV (β 17) (β 18) (β 19) (β 20)] w' (Vc.EffRow (.int .u64 x40) (β 17) (β 18) (β 19) (β 20) (l24.map (·.1)) 1 5 w')) ∧
  ∃ (l25 : List Vc.OV), ∃ (x41 : Int), (∀ (β : Nat → Nat) (w' : World), Below w.heap.size w w' → (Vc.RowOk w.heap.size (β 17) (β 18) (β 19) (β 20) ((l24.map (·.1) ++ (([] : List Value)))) 1 5 w' ∧ True) → Calls Tryz.prog 26 #[Vc.ownV (β 17) (β 18) (β 19) (β 20)] w' (Vc.EffRow (.int .u64 x41) (β 17) (β 18) (β 19) (β 20) (l25.map (·.1)) 1 5 w')) ∧
  ∃ (l26 : List Vc.OV), ∃ (x42 : Int), (∀ (β : Nat → Nat) (w' : World), Below w.heap.size w w' → (Vc.RowOk w.heap.size (β 17) (β 18) (β 19) (β 20) ((l25.map (·.1) ++ (([] : List Value)))) 1 5 w' ∧ True) → Calls Tryz.prog 26 #[Vc.ownV (β 17) (β 18) (β 19) (β 20)] w' (Vc.EffRow (.int .u64 x42) (β 17) (β 18) (β 19) (β 20) (l26.map (·.1)) 1 5 w')) ∧
  ∃ (l27 : List Vc.OV), ∃ (x43 : Int), (∀ (β : Nat → Nat) (w' : World), Below w.heap.size w w' → (Vc.RowOk w.heap.size (β 17) (β 18) (β 19) (β 20) ((l26.map (·.1) ++ (([] : List Value)))) 1 5 w' ∧ True) → Calls Tryz.prog 26 #[Vc.ownV (β 17) (β 18) (β 19) (β 20)] w' (Vc.EffRow (.int .u64 x43) (β 17) (β 18) (β 19) (β 20) (l27.map (·.1)) 1 5 w')) ∧
  ∃ (l28 : List Vc.OV), ∃ (x44 : Int), (∀ (β : Nat → Nat) (w' : World), Below w.heap.size w w' → (Vc.RowOk w.heap.size (β 17) (β 18) (β 19) (β 20) ((l27.map (·.1) ++ (([] : List Value)))) 1 5 w' ∧ True) → Calls Tryz.prog 26 #[Vc.ownV (β 17) (β 18) (β 19) (β 20)] w' (Vc.EffRow (.int .u64 x44) (β 17) (β 18) (β 19) (β 20) (l28.map (·.1)) 1 5 w')) ∧
  ∃ (l29 : List Vc.OV), ∃ (x45 : Int), (∀ (β : Nat → Nat) (w' : World), Below w.heap.size w w' → (Vc.RowOk w.heap.size (β 17) (β 18) (β 19) (β 20) ((l28.map (·.1) ++ (([] : List Value)))) 1 5 w' ∧ True) → Calls Tryz.prog 26 #[Vc.ownV (β 17) (β 18) (β 19) (β 20)] w' (Vc.EffRow (.int .u64 x45) (β 17) (β 18) (β 19) (β 20) (l29.map (·.1)) 1 5 w')) ∧
  ∃ (l30 : List Vc.OV), ∃ (x46 : Int), (∀ (β : Nat → Nat) (w' : World), Below w.heap.size w w' → (Vc.RowOk w.heap.size (β 17) (β 18) (β 19) (β 20) ((l29.map (·.1) ++ (([] : List Value)))) 1 5 w' ∧ True) → Calls Tryz.prog 26 #[Vc.ownV (β 17) (β 18) (β 19) (β 20)] w' (Vc.EffRow (.int .u64 x46) (β 17) (β 18) (β 19) (β 20) (l30.map (·.1)) 1 5 w')) ∧
  ∃ (l31 : List Vc.OV), ∃ (x47 : Int), (∀ (β : Nat → Nat) (w' : World), Below w.heap.size w w' → (Vc.RowOk w.heap.size (β 17) (β 18) (β 19) (β 20) ((l30.map (·.1) ++ (([] : List Value)))) 1 5 w' ∧ True) → Calls Tryz.prog 26 #[Vc.ownV (β 17) (β 18) (β 19) (β 20)] w' (Vc.EffRow (.int .u64 x47) (β 17) (β 18) (β 19) (β 20) (l31.map (·.1)) 1 5 w')) ∧
  ∃ (l32 : List Vc.OV), ∃ (x48 : Int), (∀ (β : Nat → Nat) (w' : World), Below w.heap.size w w' → (Vc.RowOk w.heap.size (β 17) (β 18) (β 19) (β 20) ((l31.map (·.1) ++ (([] : List Value)))) 1 5 w' ∧ True) → Calls Tryz.prog 26 #[Vc.ownV (β 17) (β 18) (β 19) (β 20)] w' (Vc.EffRow (.int .u64 x48) (β 17) (β 18) (β 19) (β 20) (l32.map (·.1)) 1 5 w')) ∧
  ∃ (l33 : List Vc.OV), ∃ (x49 : Int), (∀ (β : Nat → Nat) (w' : World), Below w.heap.size w w' → (Vc.RowOk w.heap.size (β 17) (β 18) (β 19) (β 20) ((l32.map (·.1) ++ (([] : List Value)))) 1 5 w' ∧ True) → Calls Tryz.prog 26 #[Vc.ownV (β 17) (β 18) (β 19) (β 20)] w' (Vc.EffRow (.int .u64 x49) (β 17) (β 18) (β 19) (β 20) (l33.map (·.1)) 1 5 w')) ∧
  ∀ x50 : Int, x50 = IntKind.u64.wrap (x17 * 2) →
  ∀ x51 : Int, x51 = bits .or .u64 x50 x18 →
  ∀ x52 : Int, x52 = IntKind.u64.wrap (x51 * 2) →
  ∀ x53 : Int, x53 = bits .or .u64 x52 x19 →
  ∀ x54 : Int, x54 = IntKind.u64.wrap (x53 * 2) →
  ∀ x55 : Int, x55 = bits .or .u64 x54 x20 →
  ∀ x56 : Int, x56 = IntKind.u64.wrap (x55 * 2) →
  ∀ x57 : Int, x57 = bits .or .u64 x56 x21 →
  ∀ x58 : Int, x58 = IntKind.u64.wrap (x57 * 2) →
  ∀ x59 : Int, x59 = bits .or .u64 x58 x22 →
  ∀ x60 : Int, x60 = IntKind.u64.wrap (x59 * 2) →
  ∀ x61 : Int, x61 = bits .or .u64 x60 x23 →
  ∀ x62 : Int, x62 = IntKind.u64.wrap (x61 * 2) →
  ∀ x63 : Int, x63 = bits .or .u64 x62 x24 →
  ∀ x64 : Int, x64 = IntKind.u64.wrap (x63 * 2) →
  ∀ x65 : Int, x65 = bits .or .u64 x64 x25 →
  ∀ x66 : Int, x66 = IntKind.u64.wrap (x65 * 2) →
  ∀ x67 : Int, x67 = bits .or .u64 x66 x26 →
  ∀ x68 : Int, x68 = IntKind.u64.wrap (x67 * 2) →
  ∀ x69 : Int, x69 = bits .or .u64 x68 x27 →
  ∀ x70 : Int, x70 = IntKind.u64.wrap (x69 * 2) →
  ∀ x71 : Int, x71 = bits .or .u64 x70 x28 →
  ∀ x72 : Int, x72 = IntKind.u64.wrap (x71 * 2) →
  ∀ x73 : Int, x73 = bits .or .u64 x72 x29 →
  ∀ x74 : Int, x74 = IntKind.u64.wrap (x73 * 2) →
  ∀ x75 : Int, x75 = bits .or .u64 x74 x30 →
  ∀ x76 : Int, x76 = IntKind.u64.wrap (x75 * 2) →
  ∀ x77 : Int, x77 = bits .or .u64 x76 x31 →
  ∀ x78 : Int, x78 = IntKind.u64.wrap (x77 * 2) →
  ∀ x79 : Int, x79 = bits .or .u64 x78 x32 →
  ∀ x80 : Int, x80 = IntKind.u64.wrap (x79 * 2) →
  ∀ x81 : Int, x81 = bits .or .u64 x80 x33 →
  ∀ x82 : Int, x82 = IntKind.u64.wrap (x81 * 2) →
  ∀ x83 : Int, x83 = bits .or .u64 x82 x34 →
  ∀ x84 : Int, x84 = IntKind.u64.wrap (x83 * 2) →
  ∀ x85 : Int, x85 = bits .or .u64 x84 x35 →
  ∀ x86 : Int, x86 = IntKind.u64.wrap (x85 * 2) →
  ∀ x87 : Int, x87 = bits .or .u64 x86 x36 →
  ∀ x88 : Int, x88 = IntKind.u64.wrap (x87 * 2) →
  ∀ x89 : Int, x89 = bits .or .u64 x88 x37 →
  ∀ x90 : Int, x90 = IntKind.u64.wrap (x89 * 2) →
  ∀ x91 : Int, x91 = bits .or .u64 x90 x38 →
  ∀ x92 : Int, x92 = IntKind.u64.wrap (x91 * 2) →
  ∀ x93 : Int, x93 = bits .or .u64 x92 x39 →
  ∀ x94 : Int, x94 = IntKind.u64.wrap (x93 * 2) →
  ∀ x95 : Int, x95 = bits .or .u64 x94 x40 →
  ∀ x96 : Int, x96 = IntKind.u64.wrap (x95 * 2) →
  ∀ x97 : Int, x97 = bits .or .u64 x96 x41 →
  ∀ x98 : Int, x98 = IntKind.u64.wrap (x97 * 2) →
  ∀ x99 : Int, x99 = bits .or .u64 x98 x42 →
  ∀ x100 : Int, x100 = IntKind.u64.wrap (x99 * 2) →
  ∀ x101 : Int, x101 = bits .or .u64 x100 x43 →
  ∀ x102 : Int, x102 = IntKind.u64.wrap (x101 * 2) →
  ∀ x103 : Int, x103 = bits .or .u64 x102 x44 →
  ∀ x104 : Int, x104 = IntKind.u64.wrap (x103 * 2) →
  ∀ x105 : Int, x105 = bits .or .u64 x104 x45 →
  ∀ x106 : Int, x106 = IntKind.u64.wrap (x105 * 2) →
  ∀ x107 : Int, x107 = bits .or .u64 x106 x46 →
  ∀ x108 : Int, x108 = IntKind.u64.wrap (x107 * 2) →
  ∀ x109 : Int, x109 = bits .or .u64 x108 x47 →
  ∀ x110 : Int, x110 = IntKind.u64.wrap (x109 * 2) →
  ∀ x111 : Int, x111 = bits .or .u64 x110 x48 →
  ∀ x112 : Int, x112 = IntKind.u64.wrap (x111 * 2) →
  ∀ x113 : Int, x113 = bits .or .u64 x112 x49 →
  ∃ (b3 : Bool), (∀ (β : Nat → Nat) (w' : World), Below w.heap.size w w' → (Vc.RowOk w.heap.size (β 17) (β 18) (β 19) (β 20) ((l33.map (·.1) ++ (([] : List Value)))) 1 5 w' ∧ True) → Calls Tryz.prog 25 #[Vc.ownV (β 17) (β 18) (β 19) (β 20)] w' (Vc.Ret (.bool b3) w')) ∧
  ((b3 = true) → (
  ∃ (b4 : Bool), ∃ (x114 : Int), ∃ (x115 : Int), (∀ w' : World, Below w.heap.size w w' → Calls Tryz.prog 27 #[.agg #[.bool false, .int .u64 0, .int .u64 x113], .agg #[.bool false, .int .u64 0, .int .u64 1]] w' (Vc.Ret (.agg #[.bool b4, .int .u64 x114, .int .u64 x115]) w')) ∧
  ((b0 = true) → (
  ∃ (x116 : Int), ∃ (x117 : Int), ∃ (x118 : Int), (∀ w' : World, Below w.heap.size w w' → Calls Tryz.prog 22 #[.agg #[.bool true, .int .u64 x114, .int .u64 x115], .agg #[.bool true, .int .u64 0, .int .u64 x113]] w' (Vc.Ret (.tuple #[.agg #[.int .i64 x116, .int .i64 x117], .int .i64 x118]) w')) ∧
  (.tuple #[.agg #[.int .i64 x116, .int .i64 x117], .int .i64 x118] : Value) = v)) ∧ (¬ (b0 = true) → (
  ∃ (x116 : Int), ∃ (x117 : Int), ∃ (x118 : Int), (∀ w' : World, Below w.heap.size w w' → Calls Tryz.prog 22 #[.agg #[.bool false, .int .u64 0, .int .u64 x113], .agg #[.bool b4, .int .u64 x114, .int .u64 x115]] w' (Vc.Ret (.tuple #[.agg #[.int .i64 x116, .int .i64 x117], .int .i64 x118]) w')) ∧
  (.tuple #[.agg #[.int .i64 x116, .int .i64 x117], .int .i64 x118] : Value) = v)))) ∧ (¬ (b3 = true) → (
  ((b0 = true) → (
  ∃ (x114 : Int), ∃ (x115 : Int), ∃ (x116 : Int), (∀ w' : World, Below w.heap.size w w' → Calls Tryz.prog 22 #[.agg #[.bool true, .int .u64 0, .int .u64 x113], .agg #[.bool true, .int .u64 0, .int .u64 x113]] w' (Vc.Ret (.tuple #[.agg #[.int .i64 x114, .int .i64 x115], .int .i64 x116]) w')) ∧
  (.tuple #[.agg #[.int .i64 x114, .int .i64 x115], .int .i64 x116] : Value) = v)) ∧ (¬ (b0 = true) → (
  ∃ (x114 : Int), ∃ (x115 : Int), ∃ (x116 : Int), (∀ w' : World, Below w.heap.size w w' → Calls Tryz.prog 22 #[.agg #[.bool false, .int .u64 0, .int .u64 x113], .agg #[.bool false, .int .u64 0, .int .u64 x113]] w' (Vc.Ret (.tuple #[.agg #[.int .i64 x114, .int .i64 x115], .int .i64 x116]) w')) ∧
  (.tuple #[.agg #[.int .i64 x114, .int .i64 x115], .int .i64 x116] : Value) = v))))))
def Vj_span_Read_T3 (l0 : List Vc.OV) (v : Value) (w : World) (b0 : Bool) : Prop :=
  ∀ x7 : Int, x7 = (((0 + (l0.length + 0)) / 1 : Nat) : Int) →
  ∃ (Ix8 : List Vc.Vl → Prop) (mx8 : List Vc.Vl → Nat), Ix8 [.i 0, .i 0] ∧ ∀ (x8 : Int) (x9 : Int), Ix8 [.i x8, .i x9] → (
  ((x9 < x7) → (
  ∀ x10 : Int, x10 = (((0 + (l0.length + 0)) / 1 : Nat) : Int) →
  (0 ≤ x9) ∧
  (x9 < x10) ∧
  ∃ (x11 : Int), ((l0.map (·.1) ++ (([] : List Value))))[(Int.toNat x9) * 1 + 0]? = some (.int .u8 x11) ∧
  ∀ x12 : Int, x12 = IntKind.u64.wrap (10 * x8) →
  ∀ x13 : Int, x13 = IntKind.u64.wrap (x11) →
  ∀ x14 : Int, x14 = IntKind.u64.wrap (x12 + x13) →
  ((2147483647 < x14) → ( Vj_span_Read_T5 x14 v w b0)) ∧ (¬ (2147483647 < x14) → (
  ∀ x15 : Int, x15 = IntKind.i64.wrap (x9 + 1) →
  Ix8 [.i x14, .i x15] ∧ mx8 [.i x14, .i x15] < mx8 [.i x8, .i x9])))) ∧ (¬ (x9 < x7) → ( Vj_span_Read_T5 x8 v w b0)))
def Vj_span_Read_T2 (l0 : List Vc.OV) (v : Value) (w : World) (l1 : List Vc.OV) (b0 : Bool) : Prop :=
  ∀ x10 : Int, x10 = (((0 + (l0.length + 0)) / 1 : Nat) : Int) →
  ∃ (Ix11 : List Vc.Vl → Prop) (mx11 : List Vc.Vl → Nat), Ix11 [.i 0, .i 0] ∧ ∀ (x11 : Int) (x12 : Int), Ix11 [.i x11, .i x12] → (
  ((x12 < x10) → (
  ∀ x13 : Int, x13 = (((0 + (l0.length + 0)) / 1 : Nat) : Int) →
  (0 ≤ x12) ∧
  (x12 < x13) ∧
  ∃ (x14 : Int), ((l0.map (·.1) ++ (([] : List Value))))[(Int.toNat x12) * 1 + 0]? = some (.int .u8 x14) ∧
  ∀ x15 : Int, x15 = IntKind.u64.wrap (10 * x11) →
  ∀ x16 : Int, x16 = IntKind.u64.wrap (x14) →
  ∀ x17 : Int, x17 = IntKind.u64.wrap (x15 + x16) →
  ((2147483647 < x17) → ( Vj_span_Read_T4 x17 v w l1 b0)) ∧ (¬ (2147483647 < x17) → (
  ∀ x18 : Int, x18 = IntKind.i64.wrap (x12 + 1) →
  Ix11 [.i x17, .i x18] ∧ mx11 [.i x17, .i x18] < mx11 [.i x11, .i x12])))) ∧ (¬ (x12 < x10) → ( Vj_span_Read_T4 x11 v w l1 b0)))
def Vj_span_Read_T1 (b1 : Bool) (s3 : List UInt8) (v : Value) (b0 : Bool) (w : World) (l0 : List Vc.OV) (x3 : Int) : Prop :=
  ((b1 = true) → (
  ∀ x7 : Int, x7 = ((s3.length : Nat) : Int) →
  ∃ (Io17 : List Vc.Vl → Prop) (mo17 : List Vc.Vl → Nat), Io17 [.l (([] : List Value)), .i 0] ∧ ∀ (l1 : List Vc.OV) (x8 : Int), Io17 [.l ((l1.map (·.1) ++ (([] : List Value)))), .i x8] → (
  ((x8 < x7) → (
  ∀ x9 : Int, x9 = ((s3.length : Nat) : Int) →
  (0 ≤ x8) ∧
  (x8 < x9) ∧
  ∀ x10 : Int, x10 = (((s3.getD (Int.toNat x8) 0).toNat : Nat) : Int) →
  ((x10 < 48) → (
  (.tuple #[.agg #[.int .i64 0, .int .i64 0], .int .i64 5] : Value) = v)) ∧ (¬ (x10 < 48) → (
  ∀ x11 : Int, x11 = ((s3.length : Nat) : Int) →
  (0 ≤ x8) ∧
  (x8 < x11) ∧
  ∀ x12 : Int, x12 = (((s3.getD (Int.toNat x8) 0).toNat : Nat) : Int) →
  ((57 < x12) → (
  (.tuple #[.agg #[.int .i64 0, .int .i64 0], .int .i64 5] : Value) = v)) ∧ (¬ (57 < x12) → (
  ∀ x13 : Int, x13 = ((s3.length : Nat) : Int) →
  (0 ≤ x8) ∧
  (x8 < x13) ∧
  ∀ x14 : Int, x14 = (((s3.getD (Int.toNat x8) 0).toNat : Nat) : Int) →
  ∀ x15 : Int, x15 = IntKind.u8.wrap (x14 - 48) →
  ∀ x16 : Int, x16 = (((1 + (l1.length + 0)) / 1 : Nat) : Int) →
  (x16 ≤ 1073741824) ∧
  ∀ x17 : Int, x17 = IntKind.i64.wrap (x8 + 1) →
  Io17 [.l ((l1.map (·.1) ++ (([.int .u8 x15] : List Value)))), .i x17] ∧ mo17 [.l ((l1.map (·.1) ++ (([.int .u8 x15] : List Value)))), .i x17] < mo17 [.l ((l1.map (·.1) ++ (([] : List Value)))), .i x8])))))) ∧ (¬ (x8 < x7) → (
  ∀ x9 : Int, x9 = (((0 + (l1.length + 0)) / 1 : Nat) : Int) →
  ((0 < x9) → (
  ((b0 = true) → (
  ∃ (b2 : Bool), (∀ (β : Nat → Nat) (w' : World), Below w.heap.size w w' → (Vc.RowOk w.heap.size (β 9) (β 10) (β 11) (β 12) ((l0.map (·.1) ++ (([] : List Value)))) 1 5 w' ∧ True) → Calls Tryz.prog 25 #[Vc.ownV (β 9) (β 10) (β 11) (β 12)] w' (Vc.Ret (.bool b2) w')) ∧
  ((b2 = true) → ( Vj_span_Read_T2 l0 v w l1 b0)) ∧ (¬ (b2 = true) → (
  ∃ (b3 : Bool), (∀ (β : Nat → Nat) (w' : World), Below w.heap.size w w' → (Vc.RowOk w.heap.size (β 17) (β 18) (β 19) (β 20) ((l1.map (·.1) ++ (([] : List Value)))) 1 5 w' ∧ True) → Calls Tryz.prog 25 #[Vc.ownV (β 17) (β 18) (β 19) (β 20)] w' (Vc.Ret (.bool b3) w')) ∧
  ((b3 = true) → ( Vj_span_Read_T2 l0 v w l1 b0)) ∧ (¬ (b3 = true) → (
  (.tuple #[.agg #[.int .i64 0, .int .i64 0], .int .i64 5] : Value) = v)))))) ∧ (¬ (b0 = true) → ( Vj_span_Read_T2 l0 v w l1 b0)))) ∧ (¬ (0 < x9) → (
  (.tuple #[.agg #[.int .i64 0, .int .i64 0], .int .i64 5] : Value) = v))))))) ∧ (¬ (b1 = true) → (
  ((0 < x3) → (
  ((b0 = true) → (
  ∃ (b2 : Bool), (∀ (β : Nat → Nat) (w' : World), Below w.heap.size w w' → (Vc.RowOk w.heap.size (β 9) (β 10) (β 11) (β 12) ((l0.map (·.1) ++ (([] : List Value)))) 1 5 w' ∧ True) → Calls Tryz.prog 25 #[Vc.ownV (β 9) (β 10) (β 11) (β 12)] w' (Vc.Ret (.bool b2) w')) ∧
  ((b2 = true) → ( Vj_span_Read_T3 l0 v w b0)) ∧ (¬ (b2 = true) → (
  ∃ (b3 : Bool), (∀ (β : Nat → Nat) (w' : World), Below w.heap.size w w' → (Vc.RowOk w.heap.size (β 1) (β 2) (β 3) (β 4) (([] : List Value)) 1 5 w' ∧ True) → Calls Tryz.prog 25 #[Vc.ownV (β 1) (β 2) (β 3) (β 4)] w' (Vc.Ret (.bool b3) w')) ∧
  ((b3 = true) → ( Vj_span_Read_T3 l0 v w b0)) ∧ (¬ (b3 = true) → (
  (.tuple #[.agg #[.int .i64 0, .int .i64 0], .int .i64 5] : Value) = v)))))) ∧ (¬ (b0 = true) → ( Vj_span_Read_T3 l0 v w b0)))) ∧ (¬ (0 < x3) → (
  (.tuple #[.agg #[.int .i64 0, .int .i64 0], .int .i64 5] : Value) = v))))
theorem vc_span_Read (s0 : List UInt8) (w : World) (v : Value) (h : 
  ∀ x0 : Int, x0 = ((s0.length : Nat) : Int) →
  ((80 < x0) → (
  (.tuple #[.agg #[.int .i64 0, .int .i64 0], .int .i64 3] : Value) = v)) ∧ (¬ (80 < x0) → (
  ∃ (s1 : List UInt8), ∃ (b0 : Bool), (∀ w' : World, Below w.heap.size w w' → Calls Tryz.prog 23 #[.string ⟨s0.toArray⟩, .string ⟨(([45] : List UInt8)).toArray⟩] w' (Vc.Ret (.tuple #[.string ⟨s1.toArray⟩, .bool b0]) w')) ∧
  ∃ (s2 : List UInt8), ∃ (s3 : List UInt8), ∃ (b1 : Bool), (∀ w' : World, Below w.heap.size w w' → Calls Tryz.prog 59 #[.string ⟨s1.toArray⟩, .string ⟨(([46] : List UInt8)).toArray⟩] w' (Vc.Ret (.tuple #[.string ⟨s2.toArray⟩, .string ⟨s3.toArray⟩, .bool b1]) w')) ∧
  ∀ x1 : Int, x1 = ((s2.length : Nat) : Int) →
  ∃ (Io9 : List Vc.Vl → Prop) (mo9 : List Vc.Vl → Nat), Io9 [.l (([] : List Value)), .i 0] ∧ ∀ (l0 : List Vc.OV) (x2 : Int), Io9 [.l ((l0.map (·.1) ++ (([] : List Value)))), .i x2] → (
  ((x2 < x1) → (
  ∀ x3 : Int, x3 = ((s2.length : Nat) : Int) →
  (0 ≤ x2) ∧
  (x2 < x3) ∧
  ∀ x4 : Int, x4 = (((s2.getD (Int.toNat x2) 0).toNat : Nat) : Int) →
  ((x4 < 48) → (
  (.tuple #[.agg #[.int .i64 0, .int .i64 0], .int .i64 5] : Value) = v)) ∧ (¬ (x4 < 48) → (
  ∀ x5 : Int, x5 = ((s2.length : Nat) : Int) →
  (0 ≤ x2) ∧
  (x2 < x5) ∧
  ∀ x6 : Int, x6 = (((s2.getD (Int.toNat x2) 0).toNat : Nat) : Int) →
  ((57 < x6) → (
  (.tuple #[.agg #[.int .i64 0, .int .i64 0], .int .i64 5] : Value) = v)) ∧ (¬ (57 < x6) → (
  ∀ x7 : Int, x7 = ((s2.length : Nat) : Int) →
  (0 ≤ x2) ∧
  (x2 < x7) ∧
  ∀ x8 : Int, x8 = (((s2.getD (Int.toNat x2) 0).toNat : Nat) : Int) →
  ∀ x9 : Int, x9 = IntKind.u8.wrap (x8 - 48) →
  ∀ x10 : Int, x10 = (((1 + (l0.length + 0)) / 1 : Nat) : Int) →
  (x10 ≤ 1073741824) ∧
  ∀ x11 : Int, x11 = IntKind.i64.wrap (x2 + 1) →
  Io9 [.l ((l0.map (·.1) ++ (([.int .u8 x9] : List Value)))), .i x11] ∧ mo9 [.l ((l0.map (·.1) ++ (([.int .u8 x9] : List Value)))), .i x11] < mo9 [.l ((l0.map (·.1) ++ (([] : List Value)))), .i x2])))))) ∧ (¬ (x2 < x1) → (
  ∀ x3 : Int, x3 = (((0 + (l0.length + 0)) / 1 : Nat) : Int) →
  ((0 < x3) → (
  ∀ x4 : Int, x4 = ((s2.length : Nat) : Int) →
  ((1 < x4) → (
  ∀ x5 : Int, x5 = ((s2.length : Nat) : Int) →
  (0 < x5) ∧
  ∀ x6 : Int, x6 = (((s2.getD (Int.toNat 0) 0).toNat : Nat) : Int) →
  ((x6 = 48) → (
  (.tuple #[.agg #[.int .i64 0, .int .i64 0], .int .i64 5] : Value) = v)) ∧ (¬ (x6 = 48) → ( Vj_span_Read_T1 b1 s3 v b0 w l0 x3)))) ∧ (¬ (1 < x4) → ( Vj_span_Read_T1 b1 s3 v b0 w l0 x3)))) ∧ (¬ (0 < x3) → (
  (.tuple #[.agg #[.int .i64 0, .int .i64 0], .int .i64 5] : Value) = v)))))))) : Calls Tryz.prog 5 #[.string ⟨s0.toArray⟩] w (Vc.Ret v w) :=
  Vc.pure_of (base_inl [24, 60] (by kernel_rfl)) [(1000000000010, .inv [] [9, 51] [52, 53, 54, 12, 55, 56, 57, 58, 59, 60, 61, 62]), (1000000000018, .unroll), (1000000000023, .unroll), (1000000000003, .inv [] [4, 8] [9, 10, 5, 11, 28]), (900000004, .inv [] [5] []), (900000003, .inv [] [5] []), (600000000000000026, .inv [] [0] [])] 200 Tryz.func5 (b := (Tryz.f5.body).getD .skip) (by kernel_rfl) [.cv (.one (.sv 0))] ⟨0, 0, 0, 0, 0, 1, 0⟩ (Vc.envOf [] [] [] [] [s0]) (by kernel_rfl) (by kernel_rfl) (by kernel_rfl) h

end Go.Proofs.YtcoakpdafpclpaaGreatDoor
