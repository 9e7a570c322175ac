/- What the walks of functions come to (written by program). -/
import Derived.Test.YtcoakpdafpclpaaGreatDoorTtG1
set_option linter.unusedVariables false
set_option maxRecDepth 100000
namespace Go.Proofs.YtcoakpdafpclpaaGreatDoor
open Go Go.RowKit
theorem vc_strings_Cut (s0 s1 : List UInt8) (w : World) (v : Value) (h : 
  ∃ (s2 : List UInt8), ∃ (s3 : List UInt8), ∃ (b0 : Bool), (∀ w' : World, Below w.heap.size w w' → Calls Tryz.prog 75 #[.string ⟨s0.toArray⟩, .string ⟨s1.toArray⟩] w' (Vc.Ret (.tuple #[.string ⟨s2.toArray⟩, .string ⟨s3.toArray⟩, .bool b0]) w')) ∧
  (.tuple #[.string ⟨s2.toArray⟩, .string ⟨s3.toArray⟩, .bool b0] : Value) = v) : Calls Tryz.prog 59 #[.string ⟨s0.toArray⟩, .string ⟨s1.toArray⟩] w (Vc.Ret v w) :=
  Vc.pure_of base [] 200 Tryz.func59 (b := (Tryz.f59.body).getD .skip) (by kernel_rfl) [.cv (.one (.sv 0)), .cv (.one (.sv 1))] ⟨0, 0, 0, 0, 0, 2, 0⟩ (Vc.envOf [] [] [] [] [s0, s1]) (by kernel_rfl) (by kernel_rfl) (by kernel_rfl) h

theorem vc_internal_stringslite_Cut (s0 s1 : List UInt8) (w : World) (v : Value) (h : 
  ∃ (x0 : Int), (∀ w' : World, Below w.heap.size w w' → Calls Tryz.prog 92 #[.string ⟨s0.toArray⟩, .string ⟨s1.toArray⟩] w' (Vc.Ret (.int .i64 x0) w')) ∧
  ((0 ≤ x0) → (
  ((0 : Int) ≤ 0 ∧ 0 ≤ x0 ∧ x0 ≤ (List.length s0 : Int)) ∧ ∀ s2 : List UInt8, s2 = List.take (Int.toNat x0 - Int.toNat 0) (List.drop (Int.toNat 0) s0) →
  ∀ x1 : Int, x1 = ((s1.length : Nat) : Int) →
  ∀ x2 : Int, x2 = IntKind.i64.wrap (x0 + x1) →
  ∀ x3 : Int, x3 = ((s0.length : Nat) : Int) →
  ((0 : Int) ≤ x2 ∧ x2 ≤ x3 ∧ x3 ≤ (List.length s0 : Int)) ∧ ∀ s3 : List UInt8, s3 = List.take (Int.toNat x3 - Int.toNat x2) (List.drop (Int.toNat x2) s0) →
  (.tuple #[.string ⟨s2.toArray⟩, .string ⟨s3.toArray⟩, .bool true] : Value) = v)) ∧ (¬ (0 ≤ x0) → (
  (.tuple #[.string ⟨s0.toArray⟩, .string ⟨(([] : List UInt8)).toArray⟩, .bool false] : Value) = v))) : Calls Tryz.prog 75 #[.string ⟨s0.toArray⟩, .string ⟨s1.toArray⟩] w (Vc.Ret v w) :=
  Vc.pure_of base [] 200 Tryz.func75 (b := (Tryz.f75.body).getD .skip) (by kernel_rfl) [.cv (.one (.sv 0)), .cv (.one (.sv 1))] ⟨0, 0, 0, 0, 0, 2, 0⟩ (Vc.envOf [] [] [] [] [s0, s1]) (by kernel_rfl) (by kernel_rfl) (by kernel_rfl) h

end Go.Proofs.YtcoakpdafpclpaaGreatDoor
