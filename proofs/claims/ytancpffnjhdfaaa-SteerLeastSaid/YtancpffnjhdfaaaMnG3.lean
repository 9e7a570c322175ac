/- What the walks of functions come to (written by program). -/
import Derived.Test.YtancpffnjhdfaaaMnG1
set_option linter.unusedVariables false
set_option maxRecDepth 100000
namespace Go.Proofs.Ytancpffnjhdfaaa
open Go Go.RowKit
theorem vc_steer_Mix_1 (p0 : Nat × Nat) (x0 x1 x2 x3 x4 x5 x6 x7 x8 x9 x10 x11 x12 x13 x14 : Int) (b0 : Bool) (xl0 xl1 xl2 xl3 xl4 xl5 xl6 : Nat) (w : World) (v : Value) (new : List (Array Value)) (hnd : [xl0, xl1, xl2, xl3, xl4, xl5, xl6].Nodup) (hx : Vc.LentH [xl0, xl1, xl2, xl3, xl4, xl5, xl6] [(#[.int .i64 x0], 3), (#[.int .i64 x1], 3), (#[.int .i64 x2], 3), (#[.int .i64 x3, .int .i64 x4, .int .i64 x5], 48), (#[.func (.func 14) #[] #[Vc.ptr xl0 0, Vc.ptr xl1 0, Vc.ptr xl2 0, Vc.ptr xl3 0, Vc.ptr xl4 0, Vc.ptr xl5 0, Vc.ptr xl6 0]], 50), (#[.int .i64 x6], 3), (#[(if b0 = true then .slice none 0 0 else .slice (some (Vc.qad p0 (Int.toNat x7) (Int.toNat x8))) (Int.toNat x7) (Int.toNat x8) : Value)], 22)] w) (h : 
  ((x9 < 0) → (
  ∃ (x15 : Int), (∀ w' : World, Vc.BelL [xl0, xl1, xl2, xl3, xl4, xl5, xl6] w w' → Calls Try.prog 13 #[.agg #[.int .i64 x12, .int .i64 x13, .int .i64 x14], .agg #[.int .i64 x12, .int .i64 x13, .int .i64 x14]] w' (Vc.Ret (.int .i64 x15) w')) ∧
  ((x15 < x0) → (
  (.agg #[.tuple #[], .agg #[.int .i64 x15], .agg #[.int .i64 x11], .agg #[.int .i64 x10], .agg #[.int .i64 x12, .int .i64 x13, .int .i64 x14], .agg #[.func (.func 14) #[] #[Vc.ptr xl0 0, Vc.ptr xl1 0, Vc.ptr xl2 0, Vc.ptr xl3 0, Vc.ptr xl4 0, Vc.ptr xl5 0, Vc.ptr xl6 0]], .agg #[.int .i64 x6], .agg #[(if b0 = true then .slice none 0 0 else .slice (some (Vc.qad p0 (Int.toNat x7) (Int.toNat x8))) (Int.toNat x7) (Int.toNat x8) : Value)]] : Value) = .agg (v :: new.map .agg).toArray)) ∧ (¬ (x15 < x0) → (
  ((x15 = x0) → (
  ((x11 < x1) → (
  (.agg #[.tuple #[], .agg #[.int .i64 x15], .agg #[.int .i64 x11], .agg #[.int .i64 x10], .agg #[.int .i64 x12, .int .i64 x13, .int .i64 x14], .agg #[.func (.func 14) #[] #[Vc.ptr xl0 0, Vc.ptr xl1 0, Vc.ptr xl2 0, Vc.ptr xl3 0, Vc.ptr xl4 0, Vc.ptr xl5 0, Vc.ptr xl6 0]], .agg #[.int .i64 x6], .agg #[(if b0 = true then .slice none 0 0 else .slice (some (Vc.qad p0 (Int.toNat x7) (Int.toNat x8))) (Int.toNat x7) (Int.toNat x8) : Value)]] : Value) = .agg (v :: new.map .agg).toArray)) ∧ (¬ (x11 < x1) → (
  ((x11 = x1) → (
  ((x10 < x2) → (
  (.agg #[.tuple #[], .agg #[.int .i64 x15], .agg #[.int .i64 x11], .agg #[.int .i64 x10], .agg #[.int .i64 x12, .int .i64 x13, .int .i64 x14], .agg #[.func (.func 14) #[] #[Vc.ptr xl0 0, Vc.ptr xl1 0, Vc.ptr xl2 0, Vc.ptr xl3 0, Vc.ptr xl4 0, Vc.ptr xl5 0, Vc.ptr xl6 0]], .agg #[.int .i64 x6], .agg #[(if b0 = true then .slice none 0 0 else .slice (some (Vc.qad p0 (Int.toNat x7) (Int.toNat x8))) (Int.toNat x7) (Int.toNat x8) : Value)]] : Value) = .agg (v :: new.map .agg).toArray)) ∧ (¬ (x10 < x2) → (
  (.agg #[.tuple #[], .agg #[.int .i64 x0], .agg #[.int .i64 x1], .agg #[.int .i64 x2], .agg #[.int .i64 x3, .int .i64 x4, .int .i64 x5], .agg #[.func (.func 14) #[] #[Vc.ptr xl0 0, Vc.ptr xl1 0, Vc.ptr xl2 0, Vc.ptr xl3 0, Vc.ptr xl4 0, Vc.ptr xl5 0, Vc.ptr xl6 0]], .agg #[.int .i64 x6], .agg #[(if b0 = true then .slice none 0 0 else .slice (some (Vc.qad p0 (Int.toNat x7) (Int.toNat x8))) (Int.toNat x7) (Int.toNat x8) : Value)]] : Value) = .agg (v :: new.map .agg).toArray)))) ∧ (¬ (x11 = x1) → (
  (.agg #[.tuple #[], .agg #[.int .i64 x0], .agg #[.int .i64 x1], .agg #[.int .i64 x2], .agg #[.int .i64 x3, .int .i64 x4, .int .i64 x5], .agg #[.func (.func 14) #[] #[Vc.ptr xl0 0, Vc.ptr xl1 0, Vc.ptr xl2 0, Vc.ptr xl3 0, Vc.ptr xl4 0, Vc.ptr xl5 0, Vc.ptr xl6 0]], .agg #[.int .i64 x6], .agg #[(if b0 = true then .slice none 0 0 else .slice (some (Vc.qad p0 (Int.toNat x7) (Int.toNat x8))) (Int.toNat x7) (Int.toNat x8) : Value)]] : Value) = .agg (v :: new.map .agg).toArray)))))) ∧ (¬ (x15 = x0) → (
  (.agg #[.tuple #[], .agg #[.int .i64 x0], .agg #[.int .i64 x1], .agg #[.int .i64 x2], .agg #[.int .i64 x3, .int .i64 x4, .int .i64 x5], .agg #[.func (.func 14) #[] #[Vc.ptr xl0 0, Vc.ptr xl1 0, Vc.ptr xl2 0, Vc.ptr xl3 0, Vc.ptr xl4 0, Vc.ptr xl5 0, Vc.ptr xl6 0]], .agg #[.int .i64 x6], .agg #[(if b0 = true then .slice none 0 0 else .slice (some (Vc.qad p0 (Int.toNat x7) (Int.toNat x8))) (Int.toNat x7) (Int.toNat x8) : Value)]] : Value) = .agg (v :: new.map .agg).toArray)))))) ∧ (¬ (x9 < 0) → (
  ∀ x15 : Int, x15 = IntKind.i64.wrap (x9 - 1) →
  ∃ (x16 : Int), ∃ (x17 : Int), ∃ (x18 : Int), ∃ (x19 : Int), ∃ (x20 : Int), ∃ (x21 : Int), (∀ (β : Nat → Nat) (w' : World), Vc.BelL [xl0, xl1, xl2, xl3, xl4, xl5, xl6] w w' → (((β 0 ∈ [xl0, xl1, xl2, xl3, xl4, xl5, xl6] ∨ w.heap.size ≤ β 0) ∧ w'.heap[β 0]? = some (.cells #[.int .i64 x0] 3)) ∧ ((β 1 ∈ [xl0, xl1, xl2, xl3, xl4, xl5, xl6] ∨ w.heap.size ≤ β 1) ∧ w'.heap[β 1]? = some (.cells #[.int .i64 x1] 3)) ∧ ((β 2 ∈ [xl0, xl1, xl2, xl3, xl4, xl5, xl6] ∨ w.heap.size ≤ β 2) ∧ w'.heap[β 2]? = some (.cells #[.int .i64 x2] 3)) ∧ ((β 3 ∈ [xl0, xl1, xl2, xl3, xl4, xl5, xl6] ∨ w.heap.size ≤ β 3) ∧ w'.heap[β 3]? = some (.cells #[.int .i64 x3, .int .i64 x4, .int .i64 x5] 48)) ∧ ((β 4 ∈ [xl0, xl1, xl2, xl3, xl4, xl5, xl6] ∨ w.heap.size ≤ β 4) ∧ w'.heap[β 4]? = some (.cells #[.func (.func 14) #[] #[Vc.ptr (β 0) 0, Vc.ptr (β 1) 0, Vc.ptr (β 2) 0, Vc.ptr (β 3) 0, Vc.ptr (β 4) 0, Vc.ptr (β 5) 0, Vc.ptr (β 6) 0]] 50)) ∧ ((β 5 ∈ [xl0, xl1, xl2, xl3, xl4, xl5, xl6] ∨ w.heap.size ≤ β 5) ∧ w'.heap[β 5]? = some (.cells #[.int .i64 x6] 3)) ∧ ((β 6 ∈ [xl0, xl1, xl2, xl3, xl4, xl5, xl6] ∨ w.heap.size ≤ β 6) ∧ w'.heap[β 6]? = some (.cells #[(if b0 = true then .slice none 0 0 else .slice (some (Vc.qad p0 (Int.toNat x7) (Int.toNat x8))) (Int.toNat x7) (Int.toNat x8) : Value)] 22)) ∧ True) → [β 0, β 1, β 2, β 3, β 4, β 5, β 6].Nodup → Calls Try.prog 14 #[.int .i64 x15, .int .i64 x10, .int .i64 x11, .agg #[.int .i64 x12, .int .i64 x13, .int .i64 x14], Vc.ptr (β 0) 0, Vc.ptr (β 1) 0, Vc.ptr (β 2) 0, Vc.ptr (β 3) 0, Vc.ptr (β 4) 0, Vc.ptr (β 5) 0, Vc.ptr (β 6) 0] w' (Vc.EffL (.tuple #[]) [(β 0, #[.int .i64 x16], 3), (β 1, #[.int .i64 x17], 3), (β 2, #[.int .i64 x18], 3), (β 3, #[.int .i64 x19, .int .i64 x20, .int .i64 x21], 48), (β 4, #[.func (.func 14) #[] #[Vc.ptr (β 0) 0, Vc.ptr (β 1) 0, Vc.ptr (β 2) 0, Vc.ptr (β 3) 0, Vc.ptr (β 4) 0, Vc.ptr (β 5) 0, Vc.ptr (β 6) 0]], 50), (β 5, #[.int .i64 x6], 3), (β 6, #[(if b0 = true then .slice none 0 0 else .slice (some (Vc.qad p0 (Int.toNat x7) (Int.toNat x8))) (Int.toNat x7) (Int.toNat x8) : Value)], 22)] w')) ∧
  (0 ≤ x9) ∧
  ∀ x22 : Int, x22 = Int.fdiv x6 (2 ^ (Nat.min (Int.toNat x9) 64)) →
  ∀ x23 : Int, x23 = bits .and .i64 x22 1 →
  ((x23 = 0) → (
  ∀ x24 : Int, x24 = IntKind.i64.wrap (x9 - 1) →
  (0 ≤ x9) ∧
  ∀ x25 : Int, x25 = IntKind.i64.wrap (1 * 2 ^ (Nat.min (Int.toNat x9) 64)) →
  ∀ x26 : Int, x26 = bits .or .i64 x10 x25 →
  ∀ x27 : Int, x27 = IntKind.i64.wrap (x11 + 1) →
  (¬ (b0 = true)) ∧
  (0 ≤ x9) ∧
  (x9 < x7) ∧
  ∃ (x28 : Int), (Vc.hideL [xl0, xl1, xl2, xl3, xl4, xl5, xl6] w).cell? ⟨p0.1, p0.2 + (Int.toNat x9) * 3 + 0, none⟩ = some (.int .i64 x28) ∧
  ∃ (x29 : Int), (Vc.hideL [xl0, xl1, xl2, xl3, xl4, xl5, xl6] w).cell? ⟨p0.1, p0.2 + (Int.toNat x9) * 3 + 1, none⟩ = some (.int .i64 x29) ∧
  ∃ (x30 : Int), (Vc.hideL [xl0, xl1, xl2, xl3, xl4, xl5, xl6] w).cell? ⟨p0.1, p0.2 + (Int.toNat x9) * 3 + 2, none⟩ = some (.int .i64 x30) ∧
  ∃ (x31 : Int), ∃ (x32 : Int), ∃ (x33 : Int), (∀ w' : World, Vc.BelL [xl0, xl1, xl2, xl3, xl4, xl5, xl6] w w' → Calls Try.prog 15 #[.agg #[.int .i64 x12, .int .i64 x13, .int .i64 x14], .agg #[.int .i64 x28, .int .i64 x29, .int .i64 x30]] w' (Vc.Ret (.agg #[.int .i64 x31, .int .i64 x32, .int .i64 x33]) w')) ∧
  ∃ (x34 : Int), ∃ (x35 : Int), ∃ (x36 : Int), ∃ (x37 : Int), ∃ (x38 : Int), ∃ (x39 : Int), (∀ (β : Nat → Nat) (w' : World), Vc.BelL [xl0, xl1, xl2, xl3, xl4, xl5, xl6] w w' → (((β 0 ∈ [xl0, xl1, xl2, xl3, xl4, xl5, xl6] ∨ w.heap.size ≤ β 0) ∧ w'.heap[β 0]? = some (.cells #[.int .i64 x16] 3)) ∧ ((β 1 ∈ [xl0, xl1, xl2, xl3, xl4, xl5, xl6] ∨ w.heap.size ≤ β 1) ∧ w'.heap[β 1]? = some (.cells #[.int .i64 x17] 3)) ∧ ((β 2 ∈ [xl0, xl1, xl2, xl3, xl4, xl5, xl6] ∨ w.heap.size ≤ β 2) ∧ w'.heap[β 2]? = some (.cells #[.int .i64 x18] 3)) ∧ ((β 3 ∈ [xl0, xl1, xl2, xl3, xl4, xl5, xl6] ∨ w.heap.size ≤ β 3) ∧ w'.heap[β 3]? = some (.cells #[.int .i64 x19, .int .i64 x20, .int .i64 x21] 48)) ∧ ((β 4 ∈ [xl0, xl1, xl2, xl3, xl4, xl5, xl6] ∨ w.heap.size ≤ β 4) ∧ w'.heap[β 4]? = some (.cells #[.func (.func 14) #[] #[Vc.ptr (β 0) 0, Vc.ptr (β 1) 0, Vc.ptr (β 2) 0, Vc.ptr (β 3) 0, Vc.ptr (β 4) 0, Vc.ptr (β 5) 0, Vc.ptr (β 6) 0]] 50)) ∧ ((β 5 ∈ [xl0, xl1, xl2, xl3, xl4, xl5, xl6] ∨ w.heap.size ≤ β 5) ∧ w'.heap[β 5]? = some (.cells #[.int .i64 x6] 3)) ∧ ((β 6 ∈ [xl0, xl1, xl2, xl3, xl4, xl5, xl6] ∨ w.heap.size ≤ β 6) ∧ w'.heap[β 6]? = some (.cells #[(if b0 = true then .slice none 0 0 else .slice (some (Vc.qad p0 (Int.toNat x7) (Int.toNat x8))) (Int.toNat x7) (Int.toNat x8) : Value)] 22)) ∧ True) → [β 0, β 1, β 2, β 3, β 4, β 5, β 6].Nodup → Calls Try.prog 14 #[.int .i64 x24, .int .i64 x26, .int .i64 x27, .agg #[.int .i64 x31, .int .i64 x32, .int .i64 x33], Vc.ptr (β 0) 0, Vc.ptr (β 1) 0, Vc.ptr (β 2) 0, Vc.ptr (β 3) 0, Vc.ptr (β 4) 0, Vc.ptr (β 5) 0, Vc.ptr (β 6) 0] w' (Vc.EffL (.tuple #[]) [(β 0, #[.int .i64 x34], 3), (β 1, #[.int .i64 x35], 3), (β 2, #[.int .i64 x36], 3), (β 3, #[.int .i64 x37, .int .i64 x38, .int .i64 x39], 48), (β 4, #[.func (.func 14) #[] #[Vc.ptr (β 0) 0, Vc.ptr (β 1) 0, Vc.ptr (β 2) 0, Vc.ptr (β 3) 0, Vc.ptr (β 4) 0, Vc.ptr (β 5) 0, Vc.ptr (β 6) 0]], 50), (β 5, #[.int .i64 x6], 3), (β 6, #[(if b0 = true then .slice none 0 0 else .slice (some (Vc.qad p0 (Int.toNat x7) (Int.toNat x8))) (Int.toNat x7) (Int.toNat x8) : Value)], 22)] w')) ∧
  (.agg #[.tuple #[], .agg #[.int .i64 x34], .agg #[.int .i64 x35], .agg #[.int .i64 x36], .agg #[.int .i64 x37, .int .i64 x38, .int .i64 x39], .agg #[.func (.func 14) #[] #[Vc.ptr xl0 0, Vc.ptr xl1 0, Vc.ptr xl2 0, Vc.ptr xl3 0, Vc.ptr xl4 0, Vc.ptr xl5 0, Vc.ptr xl6 0]], .agg #[.int .i64 x6], .agg #[(if b0 = true then .slice none 0 0 else .slice (some (Vc.qad p0 (Int.toNat x7) (Int.toNat x8))) (Int.toNat x7) (Int.toNat x8) : Value)]] : Value) = .agg (v :: new.map .agg).toArray)) ∧ (¬ (x23 = 0) → (
  (.agg #[.tuple #[], .agg #[.int .i64 x16], .agg #[.int .i64 x17], .agg #[.int .i64 x18], .agg #[.int .i64 x19, .int .i64 x20, .int .i64 x21], .agg #[.func (.func 14) #[] #[Vc.ptr xl0 0, Vc.ptr xl1 0, Vc.ptr xl2 0, Vc.ptr xl3 0, Vc.ptr xl4 0, Vc.ptr xl5 0, Vc.ptr xl6 0]], .agg #[.int .i64 x6], .agg #[(if b0 = true then .slice none 0 0 else .slice (some (Vc.qad p0 (Int.toNat x7) (Int.toNat x8))) (Int.toNat x7) (Int.toNat x8) : Value)]] : Value) = .agg (v :: new.map .agg).toArray))))) : Calls Try.prog 14 #[.int .i64 x9, .int .i64 x10, .int .i64 x11, .agg #[.int .i64 x12, .int .i64 x13, .int .i64 x14], Vc.ptr xl0 0, Vc.ptr xl1 0, Vc.ptr xl2 0, Vc.ptr xl3 0, Vc.ptr xl4 0, Vc.ptr xl5 0, Vc.ptr xl6 0] w (fun e w' => e = .returned v ∧ Vc.BelL [xl0, xl1, xl2, xl3, xl4, xl5, xl6] w w' ∧ Vc.LentH [xl0, xl1, xl2, xl3, xl4, xl5, xl6] (new.zip [3, 3, 3, 48, 50, 3, 22]) w') :=
  Vc.effL_of base [(3000014, .inv [(4, 0), (5, 0), (6, 0), (7, 0), (7, 1), (7, 2)] [4, 5, 6, 7, 8, 9, 10] [])] 200 Try.func14 (b := (Try.f14.body).getD .skip) (by kernel_rfl) [.cv (.one (.int .i64 (.var 9))), .cv (.one (.int .i64 (.var 10))), .cv (.one (.int .i64 (.var 11))), .cv (.agg [.int .i64 (.var 12), .int .i64 (.var 13), .int .i64 (.var 14)]), .cv (.one (.loc 0 0)), .cv (.one (.loc 1 0)), .cv (.one (.loc 2 0)), .cv (.one (.loc 3 0)), .cv (.one (.loc 4 0)), .cv (.one (.loc 5 0)), .cv (.one (.loc 6 0))] [([.int .i64 (.var 0)], 3), ([.int .i64 (.var 1)], 3), ([.int .i64 (.var 2)], 3), ([.int .i64 (.var 3), .int .i64 (.var 4), .int .i64 (.var 5)], 48), ([.fn 14 [(0, 0), (1, 0), (2, 0), (3, 0), (4, 0), (5, 0), (6, 0)]], 50), ([.int .i64 (.var 6)], 3), ([.qsl 0 0 3 (.var 7) (.var 8)], 22)] ⟨15, 1, 0, 1, 7, 0, 0⟩ (Vc.envOf [x0, x1, x2, x3, x4, x5, x6, x7, x8, x9, x10, x11, x12, x13, x14] [b0] [] [p0]) (by kernel_rfl) (by kernel_rfl) (by kernel_rfl) (by kernel_rfl) (by decide) (by kernel_rfl) hnd hx h

theorem vc_steer_Mix (p0 : Nat × Nat) (x0 x1 x2 x3 x4 x5 : Int) (b0 : Bool) (w : World) (v : Value) (h : 
  ∃ (x6 : Int), (∀ w' : World, Below w.heap.size w w' → Calls Try.prog 12 #[(if b0 = true then .slice none 0 0 else .slice (some (Vc.qad p0 (Int.toNat x0) (Int.toNat x1))) (Int.toNat x0) (Int.toNat x1) : Value), .int .i64 x2] w' (Vc.Ret (.int .i64 x6) w')) ∧
  ((x6 = 0) → (
  ((x3 < (-16777216)) → (
  (.tuple #[.int .i64 0, .agg #[.int .i64 0, .int .i64 0, .int .i64 0], .int .i64 2] : Value) = v)) ∧ (¬ (x3 < (-16777216)) → (
  ((16777216 < x3) → (
  (.tuple #[.int .i64 0, .agg #[.int .i64 0, .int .i64 0, .int .i64 0], .int .i64 2] : Value) = v)) ∧ (¬ (16777216 < x3) → (
  ((x4 < (-16777216)) → (
  (.tuple #[.int .i64 0, .agg #[.int .i64 0, .int .i64 0, .int .i64 0], .int .i64 2] : Value) = v)) ∧ (¬ (x4 < (-16777216)) → (
  ((16777216 < x4) → (
  (.tuple #[.int .i64 0, .agg #[.int .i64 0, .int .i64 0, .int .i64 0], .int .i64 2] : Value) = v)) ∧ (¬ (16777216 < x4) → (
  ((x5 < (-16777216)) → (
  (.tuple #[.int .i64 0, .agg #[.int .i64 0, .int .i64 0, .int .i64 0], .int .i64 2] : Value) = v)) ∧ (¬ (x5 < (-16777216)) → (
  ((16777216 < x5) → (
  (.tuple #[.int .i64 0, .agg #[.int .i64 0, .int .i64 0, .int .i64 0], .int .i64 2] : Value) = v)) ∧ (¬ (16777216 < x5) → (
  ∃ (x7 : Int), (∀ w' : World, Below w.heap.size w w' → Calls Try.prog 13 #[.agg #[.int .i64 x3, .int .i64 x4, .int .i64 x5], .agg #[.int .i64 x3, .int .i64 x4, .int .i64 x5]] w' (Vc.Ret (.int .i64 x7) w')) ∧
  (0 ≤ x0) ∧
  ((¬ (b0 = true)) ∨ (x0 = 0)) ∧
  ∀ x8 : Int, x8 = IntKind.i64.wrap (x0 - 1) →
  ∃ (x9 : Int), ∃ (x10 : Int), ∃ (x11 : Int), ∃ (x12 : Int), ∃ (x13 : Int), ∃ (x14 : Int), (∀ (β : Nat → Nat) (w' : World), Below w.heap.size w w' → ((w.heap.size ≤ β 6 ∧ w'.heap[β 6]? = some (.cells #[.int .i64 x7] 3)) ∧ (w.heap.size ≤ β 7 ∧ w'.heap[β 7]? = some (.cells #[.int .i64 0] 3)) ∧ (w.heap.size ≤ β 3 ∧ w'.heap[β 3]? = some (.cells #[.int .i64 0] 3)) ∧ (w.heap.size ≤ β 5 ∧ w'.heap[β 5]? = some (.cells #[.int .i64 x3, .int .i64 x4, .int .i64 x5] 48)) ∧ (w.heap.size ≤ β 8 ∧ w'.heap[β 8]? = some (.cells #[.func (.func 14) #[] #[Vc.ptr (β 6) 0, Vc.ptr (β 7) 0, Vc.ptr (β 3) 0, Vc.ptr (β 5) 0, Vc.ptr (β 8) 0, Vc.ptr (β 1) 0, Vc.ptr (β 0) 0]] 50)) ∧ (w.heap.size ≤ β 1 ∧ w'.heap[β 1]? = some (.cells #[.int .i64 x2] 3)) ∧ (w.heap.size ≤ β 0 ∧ w'.heap[β 0]? = some (.cells #[(if b0 = true then .slice none 0 0 else .slice (some (Vc.qad p0 (Int.toNat x0) (Int.toNat x1))) (Int.toNat x0) (Int.toNat x1) : Value)] 22)) ∧ True) → [β 6, β 7, β 3, β 5, β 8, β 1, β 0].Nodup → Calls Try.prog 14 #[.int .i64 x8, .int .i64 0, .int .i64 0, .agg #[.int .i64 x3, .int .i64 x4, .int .i64 x5], Vc.ptr (β 6) 0, Vc.ptr (β 7) 0, Vc.ptr (β 3) 0, Vc.ptr (β 5) 0, Vc.ptr (β 8) 0, Vc.ptr (β 1) 0, Vc.ptr (β 0) 0] w' (Vc.EffL (.tuple #[]) [(β 6, #[.int .i64 x9], 3), (β 7, #[.int .i64 x10], 3), (β 3, #[.int .i64 x11], 3), (β 5, #[.int .i64 x12, .int .i64 x13, .int .i64 x14], 48), (β 8, #[.func (.func 14) #[] #[Vc.ptr (β 6) 0, Vc.ptr (β 7) 0, Vc.ptr (β 3) 0, Vc.ptr (β 5) 0, Vc.ptr (β 8) 0, Vc.ptr (β 1) 0, Vc.ptr (β 0) 0]], 50), (β 1, #[.int .i64 x2], 3), (β 0, #[(if b0 = true then .slice none 0 0 else .slice (some (Vc.qad p0 (Int.toNat x0) (Int.toNat x1))) (Int.toNat x0) (Int.toNat x1) : Value)], 22)] w')) ∧
  (.tuple #[.int .i64 x11, .agg #[.int .i64 x12, .int .i64 x13, .int .i64 x14], .int .i64 0] : Value) = v)))))))))))))) ∧ (¬ (x6 = 0) → (
  (.tuple #[.int .i64 0, .agg #[.int .i64 0, .int .i64 0, .int .i64 0], .int .i64 x6] : Value) = v))) : Calls Try.prog 5 #[(if b0 = true then .slice none 0 0 else .slice (some (Vc.qad p0 (Int.toNat x0) (Int.toNat x1))) (Int.toNat x0) (Int.toNat x1) : Value), .int .i64 x2, .agg #[.int .i64 x3, .int .i64 x4, .int .i64 x5]] w (Vc.Ret v w) :=
  Vc.pure_of base [(1000000000005, .unroll), (3000014, .inv [(4, 0), (5, 0), (6, 0), (7, 0), (7, 1), (7, 2)] [4, 5, 6, 7, 8, 9, 10] [])] 200 Try.func5 (b := (Try.f5.body).getD .skip) (by kernel_rfl) [.cv (.one (.qsl 0 0 3 (.var 0) (.var 1))), .cv (.one (.int .i64 (.var 2))), .cv (.agg [.int .i64 (.var 3), .int .i64 (.var 4), .int .i64 (.var 5)])] ⟨6, 1, 0, 1, 0, 0, 0⟩ (Vc.envOf [x0, x1, x2, x3, x4, x5] [b0] [] [p0]) (by kernel_rfl) (by kernel_rfl) (by kernel_rfl) h

theorem vc_ullagelaw05_over (p0 : Nat × Nat) (x0 x1 x2 x3 x4 x5 : Int) (b0 : Bool) (w : World) (v : Value) (h : 
  (0 ≤ x0) ∧
  ((¬ (b0 = true)) ∨ (x0 = 0)) ∧
  ∃ (Ix6 : List Vc.Vl → Prop) (mx6 : List Vc.Vl → Nat), Ix6 [.i 0, .i x3, .i x4, .i x5] ∧ ∀ (x6 : Int) (x7 : Int) (x8 : Int) (x9 : Int), Ix6 [.i x6, .i x7, .i x8, .i x9] → (
  ((x6 < x0) → (
  ∀ x10 : Int, x10 = IntKind.u64.wrap (x6) →
  (0 ≤ x10) ∧
  ∀ x11 : Int, x11 = Int.fdiv x2 (2 ^ (Nat.min (Int.toNat x10) 64)) →
  ∀ x12 : Int, x12 = bits .and .i64 x11 1 →
  ((x12 = 1) → (
  (¬ (b0 = true)) ∧
  (0 ≤ x6) ∧
  (x6 < x0) ∧
  ∃ (x13 : Int), w.cell? ⟨p0.1, p0.2 + (Int.toNat x6) * 3 + 0, none⟩ = some (.int .i64 x13) ∧
  ∀ x14 : Int, x14 = IntKind.i64.wrap (x7 - x13) →
  (¬ (b0 = true)) ∧
  (0 ≤ x6) ∧
  (x6 < x0) ∧
  ∃ (x15 : Int), w.cell? ⟨p0.1, p0.2 + (Int.toNat x6) * 3 + 1, none⟩ = some (.int .i64 x15) ∧
  ∀ x16 : Int, x16 = IntKind.i64.wrap (x8 - x15) →
  (¬ (b0 = true)) ∧
  (0 ≤ x6) ∧
  (x6 < x0) ∧
  ∃ (x17 : Int), w.cell? ⟨p0.1, p0.2 + (Int.toNat x6) * 3 + 2, none⟩ = some (.int .i64 x17) ∧
  ∀ x18 : Int, x18 = IntKind.i64.wrap (x9 - x17) →
  ∀ x19 : Int, x19 = IntKind.i64.wrap (x6 + 1) →
  Ix6 [.i x19, .i x14, .i x16, .i x18] ∧ mx6 [.i x19, .i x14, .i x16, .i x18] < mx6 [.i x6, .i x7, .i x8, .i x9])) ∧ (¬ (x12 = 1) → (
  ∀ x13 : Int, x13 = IntKind.i64.wrap (x6 + 1) →
  Ix6 [.i x13, .i x7, .i x8, .i x9] ∧ mx6 [.i x13, .i x7, .i x8, .i x9] < mx6 [.i x6, .i x7, .i x8, .i x9])))) ∧ (¬ (x6 < x0) → (
  (.agg #[.int .i64 x7, .int .i64 x8, .int .i64 x9] : Value) = v)))) : Calls Try.prog 6 #[(if b0 = true then .slice none 0 0 else .slice (some (Vc.qad p0 (Int.toNat x0) (Int.toNat x1))) (Int.toNat x0) (Int.toNat x1) : Value), .int .i64 x2, .agg #[.int .i64 x3, .int .i64 x4, .int .i64 x5]] w (Vc.Ret v w) :=
  Vc.pure_of base [(1000000000002, .inv [(5, 0), (5, 1), (5, 2)] [11] [12, 13, 7, 14, 15, 16, 17, 18, 19, 20, 21, 22, 8, 23, 24, 25, 26, 27, 28, 29, 30, 31, 32, 33, 34, 35, 36]), (1000000000006, .unroll)] 200 Try.func6 (b := (Try.f6.body).getD .skip) (by kernel_rfl) [.cv (.one (.qsl 0 0 3 (.var 0) (.var 1))), .cv (.one (.int .i64 (.var 2))), .cv (.agg [.int .i64 (.var 3), .int .i64 (.var 4), .int .i64 (.var 5)])] ⟨6, 1, 0, 1, 0, 0, 0⟩ (Vc.envOf [x0, x1, x2, x3, x4, x5] [b0] [] [p0]) (by kernel_rfl) (by kernel_rfl) (by kernel_rfl) h

theorem vc_ullagelaw05_square (x0 x1 x2 : Int) (w : World) (v : Value) (h : 
  ∀ x3 : Int, x3 = IntKind.i64.wrap (x0 * x0) →
  ∀ x4 : Int, x4 = IntKind.i64.wrap (x1 * x1) →
  ∀ x5 : Int, x5 = IntKind.i64.wrap (x3 + x4) →
  ∀ x6 : Int, x6 = IntKind.i64.wrap (x2 * x2) →
  ∀ x7 : Int, x7 = IntKind.i64.wrap (x5 + x6) →
  (.int .i64 x7 : Value) = v) : Calls Try.prog 7 #[.agg #[.int .i64 x0, .int .i64 x1, .int .i64 x2]] w (Vc.Ret v w) :=
  Vc.pure_of base [] 200 Try.func7 (b := (Try.f7.body).getD .skip) (by kernel_rfl) [.cv (.agg [.int .i64 (.var 0), .int .i64 (.var 1), .int .i64 (.var 2)])] ⟨3, 0, 0, 0, 0, 0, 0⟩ (Vc.envOf [x0, x1, x2] [] [] []) (by kernel_rfl) (by kernel_rfl) (by kernel_rfl) h

theorem vc_ullagelaw05_SteerLeast (p0 : Nat × Nat) (x0 x1 x2 x3 x4 x5 x6 x7 : Int) (b0 : Bool) (w : World) (v : Value) (h : 
  ∃ (b1 : Bool), (∀ w' : World, Below w.heap.size w w' → Calls Try.prog 4 #[] w' (Vc.Ret (.bool b1) w')) ∧
  (0 ≤ x0) ∧
  ((¬ (b0 = true)) ∨ (x0 = 0)) ∧
  ((8 < x0) → (
  (.bool b1 : Value) = v)) ∧ (¬ (8 < x0) → (
  ((b1 = true) → (
  ∃ (x8 : Int), ∃ (x9 : Int), ∃ (x10 : Int), ∃ (x11 : Int), ∃ (x12 : Int), (∀ w' : World, Below w.heap.size w w' → Calls Try.prog 5 #[(if b0 = true then .slice none 0 0 else .slice (some (Vc.qad p0 (Int.toNat x0) (Int.toNat x1))) (Int.toNat x0) (Int.toNat x1) : Value), .int .i64 x2, .agg #[.int .i64 x3, .int .i64 x4, .int .i64 x5]] w' (Vc.Ret (.tuple #[.int .i64 x8, .agg #[.int .i64 x9, .int .i64 x10, .int .i64 x11], .int .i64 x12]) w')) ∧
  ((x12 = 0) → (
  ((x8 < 0) → (
  (.bool false : Value) = v)) ∧ (¬ (x8 < 0) → (
  ∀ x13 : Int, x13 = bits .and .i64 x8 x2 →
  ((x13 = 0) → (
  (0 ≤ x0) ∧
  ((¬ (b0 = true)) ∨ (x0 = 0)) ∧
  ∀ x14 : Int, x14 = IntKind.u64.wrap (x0) →
  (0 ≤ x14) ∧
  ∀ x15 : Int, x15 = Int.fdiv x8 (2 ^ (Nat.min (Int.toNat x14) 64)) →
  ((x15 = 0) → (
  ∃ (x16 : Int), ∃ (x17 : Int), ∃ (x18 : Int), (∀ w' : World, Below w.heap.size w w' → Calls Try.prog 6 #[(if b0 = true then .slice none 0 0 else .slice (some (Vc.qad p0 (Int.toNat x0) (Int.toNat x1))) (Int.toNat x0) (Int.toNat x1) : Value), .int .i64 x8, .agg #[.int .i64 x3, .int .i64 x4, .int .i64 x5]] w' (Vc.Ret (.agg #[.int .i64 x16, .int .i64 x17, .int .i64 x18]) w')) ∧
  (((x16 = x9) ∧ ((x17 = x10) ∧ (x18 = x11))) → (
  ∀ x19 : Int, x19 = IntKind.i64.wrap (x6) →
  (0 ≤ x0) ∧
  ((¬ (b0 = true)) ∨ (x0 = 0)) ∧
  ∀ x20 : Int, x20 = IntKind.u64.wrap (x0) →
  (0 ≤ x20) ∧
  ∀ x21 : Int, x21 = IntKind.i64.wrap (1 * 2 ^ (Nat.min (Int.toNat x20) 64)) →
  ∀ x22 : Int, x22 = IntKind.i64.wrap (x21 - 1) →
  ∀ x23 : Int, x23 = bits .and .i64 x19 x22 →
  ∀ x24 : Int, x24 = bits .andNot .i64 x23 x2 →
  ∃ (x25 : Int), ∃ (x26 : Int), ∃ (x27 : Int), (∀ w' : World, Below w.heap.size w w' → Calls Try.prog 6 #[(if b0 = true then .slice none 0 0 else .slice (some (Vc.qad p0 (Int.toNat x0) (Int.toNat x1))) (Int.toNat x0) (Int.toNat x1) : Value), .int .i64 x24, .agg #[.int .i64 x3, .int .i64 x4, .int .i64 x5]] w' (Vc.Ret (.agg #[.int .i64 x25, .int .i64 x26, .int .i64 x27]) w')) ∧
  ∃ (x28 : Int), (∀ w' : World, Below w.heap.size w w' → Calls Try.prog 7 #[.agg #[.int .i64 x25, .int .i64 x26, .int .i64 x27]] w' (Vc.Ret (.int .i64 x28) w')) ∧
  ∃ (x29 : Int), (∀ w' : World, Below w.heap.size w w' → Calls Try.prog 7 #[.agg #[.int .i64 x9, .int .i64 x10, .int .i64 x11]] w' (Vc.Ret (.int .i64 x29) w')) ∧
  ((x28 < x29) → (
  (.bool false : Value) = v)) ∧ (¬ (x28 < x29) → (
  (0 ≤ x0) ∧
  ((¬ (b0 = true)) ∨ (x0 = 0)) ∧
  ((x0 = 0) → (
  (.bool b1 : Value) = v)) ∧ (¬ (x0 = 0) → (
  ∀ x30 : Int, x30 = IntKind.i64.wrap (x7) →
  (0 ≤ x0) ∧
  ((¬ (b0 = true)) ∨ (x0 = 0)) ∧
  (x0 ≠ 0) ∧
  ∀ x31 : Int, x31 = Int.tmod x30 x0 →
  ∀ x32 : Int, x32 = IntKind.u64.wrap (x31) →
  (0 ≤ x32) ∧
  ∀ x33 : Int, x33 = IntKind.i64.wrap (1 * 2 ^ (Nat.min (Int.toNat x32) 64)) →
  ∀ x34 : Int, x34 = bits .or .i64 x2 x33 →
  ∃ (x35 : Int), ∃ (x36 : Int), ∃ (x37 : Int), ∃ (x38 : Int), ∃ (x39 : Int), (∀ w' : World, Below w.heap.size w w' → Calls Try.prog 5 #[(if b0 = true then .slice none 0 0 else .slice (some (Vc.qad p0 (Int.toNat x0) (Int.toNat x1))) (Int.toNat x0) (Int.toNat x1) : Value), .int .i64 x34, .agg #[.int .i64 x3, .int .i64 x4, .int .i64 x5]] w' (Vc.Ret (.tuple #[.int .i64 x35, .agg #[.int .i64 x36, .int .i64 x37, .int .i64 x38], .int .i64 x39]) w')) ∧
  ((b1 = true) → (
  ((x39 = 0) → (
  ∃ (x40 : Int), (∀ w' : World, Below w.heap.size w w' → Calls Try.prog 7 #[.agg #[.int .i64 x36, .int .i64 x37, .int .i64 x38]] w' (Vc.Ret (.int .i64 x40) w')) ∧
  ∃ (x41 : Int), (∀ w' : World, Below w.heap.size w w' → Calls Try.prog 7 #[.agg #[.int .i64 x9, .int .i64 x10, .int .i64 x11]] w' (Vc.Ret (.int .i64 x41) w')) ∧
  ((x41 ≤ x40) → (
  ∀ x42 : Int, x42 = bits .and .i64 x35 x2 →
  (.bool (x42 == 0) : Value) = v)) ∧ (¬ (x41 ≤ x40) → (
  (.bool false : Value) = v)))) ∧ (¬ (x39 = 0) → (
  (.bool false : Value) = v)))) ∧ (¬ (b1 = true) → (
  (.bool false : Value) = v)))))))) ∧ (¬ ((x16 = x9) ∧ ((x17 = x10) ∧ (x18 = x11))) → (
  (.bool false : Value) = v)))) ∧ (¬ (x15 = 0) → (
  (.bool false : Value) = v)))) ∧ (¬ (x13 = 0) → (
  (.bool false : Value) = v)))))) ∧ (¬ (x12 = 0) → (
  ((b1 = true) → (
  ((x8 = 0) → (
  (.bool ((x9 == 0) && ((x10 == 0) && (x11 == 0))) : Value) = v)) ∧ (¬ (x8 = 0) → (
  (.bool false : Value) = v)))) ∧ (¬ (b1 = true) → (
  (.bool false : Value) = v)))))) ∧ (¬ (b1 = true) → (
  (.bool b1 : Value) = v))))) : Calls Try.prog 3 #[(if b0 = true then .slice none 0 0 else .slice (some (Vc.qad p0 (Int.toNat x0) (Int.toNat x1))) (Int.toNat x0) (Int.toNat x1) : Value), .int .i64 x2, .agg #[.int .i64 x3, .int .i64 x4, .int .i64 x5], .int .u8 x6, .int .u8 x7] w (Vc.Ret v w) :=
  Vc.pure_of base [] 200 Try.func3 (b := (Try.f3.body).getD .skip) (by kernel_rfl) [.cv (.one (.qsl 0 0 3 (.var 0) (.var 1))), .cv (.one (.int .i64 (.var 2))), .cv (.agg [.int .i64 (.var 3), .int .i64 (.var 4), .int .i64 (.var 5)]), .cv (.one (.int .u8 (.var 6))), .cv (.one (.int .u8 (.var 7)))] ⟨8, 1, 0, 1, 0, 0, 0⟩ (Vc.envOf [x0, x1, x2, x3, x4, x5, x6, x7] [b0] [] [p0]) (by kernel_rfl) (by kernel_rfl) (by kernel_rfl) h

theorem vc_steer_valid (x0 : Int) (w : World) (v : Value) (h : 
  (.bool (decide (x0 ≥ (-9223372036854775807))) : Value) = v) : Calls Try.prog 19 #[.int .i64 x0] w (Vc.Ret v w) :=
  Vc.pure_of base [] 200 Try.func19 (b := (Try.f19.body).getD .skip) (by kernel_rfl) [.cv (.one (.int .i64 (.var 0)))] ⟨1, 0, 0, 0, 0, 0, 0⟩ (Vc.envOf [x0] [] [] []) (by kernel_rfl) (by kernel_rfl) (by kernel_rfl) h

theorem vc_steer_all_1 (x0 x1 : Int) (w : World) (v : Value) (h : 
  ∃ (x2 : Int), (∀ w' : World, Below w.heap.size w w' → Calls Try.prog 39 #[.agg #[.int .i64 x0, .int .i64 x1]] w' (Vc.Ret (.int .i64 x2) w')) ∧
  (.bool (x2 != 0) : Value) = v) : Calls Try.prog 38 #[.agg #[.int .i64 x0, .int .i64 x1]] w (Vc.Ret v w) :=
  Vc.pure_of base [] 200 Try.func38 (b := (Try.f38.body).getD .skip) (by kernel_rfl) [.cv (.agg [.int .i64 (.var 0), .int .i64 (.var 1)])] ⟨2, 0, 0, 0, 0, 0, 0⟩ (Vc.envOf [x0, x1] [] [] []) (by kernel_rfl) (by kernel_rfl) (by kernel_rfl) h

theorem vc_steer_all (p0 : Nat × Nat) (x0 x1 : Int) (b0 : Bool) (w : World) (v : Value) (h : 
  (0 ≤ x0) ∧
  ((¬ (b0 = true)) ∨ (x0 = 0)) ∧
  ∃ (Ix2 : List Vc.Vl → Prop) (mx2 : List Vc.Vl → Nat), Ix2 [.i 0, .i 0] ∧ ∀ (x2 : Int) (x3 : Int), Ix2 [.i x2, .i x3] → (
  ((x3 < x0) → (
  (¬ (b0 = true)) ∧
  (0 ≤ x3) ∧
  (x3 < x0) ∧
  ∃ (x4 : Int), w.cell? ⟨p0.1, p0.2 + (Int.toNat x3) * 2 + 0, none⟩ = some (.int .i64 x4) ∧
  ∃ (x5 : Int), w.cell? ⟨p0.1, p0.2 + (Int.toNat x3) * 2 + 1, none⟩ = some (.int .i64 x5) ∧
  ∃ (b1 : Bool), (∀ w' : World, Below w.heap.size w w' → Calls Try.prog 38 #[.agg #[.int .i64 x4, .int .i64 x5]] w' (Vc.Ret (.bool b1) w')) ∧
  ((b1 = true) → (
  (.bool (!(decide (x3 ≥ 0))) : Value) = v)) ∧ (¬ (b1 = true) → (
  ∀ x6 : Int, x6 = IntKind.i64.wrap (x3 + 1) →
  Ix2 [.i x2, .i x6] ∧ mx2 [.i x2, .i x6] < mx2 [.i x2, .i x3])))) ∧ (¬ (x3 < x0) → (
  (.bool true : Value) = v)))) : Calls Try.prog 29 #[(if b0 = true then .slice none 0 0 else .slice (some (Vc.qad p0 (Int.toNat x0) (Int.toNat x1))) (Int.toNat x0) (Int.toNat x1) : Value)] w (Vc.Ret v w) :=
  Vc.pure_of (base_inl [37, 46] (by kernel_rfl)) [(1000000000002, .inv [] [4, 8] [9, 10, 5, 11, 12, 13, 14, 15, 16, 17, 18])] 200 Try.func29 (b := (Try.f29.body).getD .skip) (by kernel_rfl) [.cv (.one (.qsl 0 0 2 (.var 0) (.var 1)))] ⟨2, 1, 0, 1, 0, 0, 0⟩ (Vc.envOf [x0, x1] [b0] [] [p0]) (by kernel_rfl) (by kernel_rfl) (by kernel_rfl) h

theorem vc___steer_calc__sub (x0 x1 x2 x3 x4 : Int) (xl : Nat) (w : World) (v : Value) (new : Array Value) (hx : w.heap[xl]? = some (.cells #[.int .i64 x0] 95)) (h : 
  ((x0 = 0) → (
  ∃ (x5 : Int), ∃ (x6 : Int), ∃ (x7 : Int), (∀ w' : World, Vc.BelX xl w w' → Calls Try.prog 50 #[.agg #[.int .i64 x1, .int .i64 x2], .agg #[.int .i64 x3, .int .i64 x4]] w' (Vc.Ret (.tuple #[.agg #[.int .i64 x5, .int .i64 x6], .int .i64 x7]) w')) ∧
  (.agg #[.agg #[.int .i64 x5, .int .i64 x6], .agg #[.int .i64 x7]] : Value) = .agg #[v, .agg new])) ∧ (¬ (x0 = 0) → (
  (.agg #[.agg #[.int .i64 0, .int .i64 0], .agg #[.int .i64 x0]] : Value) = .agg #[v, .agg new]))) : Calls Try.prog 42 #[Vc.ptr xl 0, .agg #[.int .i64 x1, .int .i64 x2], .agg #[.int .i64 x3, .int .i64 x4]] w (Vc.Eff v xl new 95 w) :=
  Vc.eff_of (base_inl [49] (by kernel_rfl)) [] 200 Try.func42 (b := (Try.f42.body).getD .skip) (by kernel_rfl) [.cv (.one (.loc 0 0)), .cv (.agg [.int .i64 (.var 1), .int .i64 (.var 2)]), .cv (.agg [.int .i64 (.var 3), .int .i64 (.var 4)])] [.int .i64 (.var 0)] 95 ⟨5, 0, 0, 0, 1, 0, 0⟩ (Vc.envOf [x0, x1, x2, x3, x4] [] [] []) (by kernel_rfl) (by kernel_rfl) (by kernel_rfl) (by kernel_rfl) (by decide) (by kernel_rfl) hx h

theorem vc___steer_calc__mul (x0 x1 x2 x3 x4 : Int) (xl : Nat) (w : World) (v : Value) (new : Array Value) (hx : w.heap[xl]? = some (.cells #[.int .i64 x0] 95)) (h : 
  ((x0 = 0) → (
  ∃ (x5 : Int), ∃ (x6 : Int), ∃ (x7 : Int), (∀ w' : World, Vc.BelX xl w w' → Calls Try.prog 51 #[.agg #[.int .i64 x1, .int .i64 x2], .agg #[.int .i64 x3, .int .i64 x4]] w' (Vc.Ret (.tuple #[.agg #[.int .i64 x5, .int .i64 x6], .int .i64 x7]) w')) ∧
  (.agg #[.agg #[.int .i64 x5, .int .i64 x6], .agg #[.int .i64 x7]] : Value) = .agg #[v, .agg new])) ∧ (¬ (x0 = 0) → (
  (.agg #[.agg #[.int .i64 0, .int .i64 0], .agg #[.int .i64 x0]] : Value) = .agg #[v, .agg new]))) : Calls Try.prog 43 #[Vc.ptr xl 0, .agg #[.int .i64 x1, .int .i64 x2], .agg #[.int .i64 x3, .int .i64 x4]] w (Vc.Eff v xl new 95 w) :=
  Vc.eff_of (base_inl [49] (by kernel_rfl)) [] 200 Try.func43 (b := (Try.f43.body).getD .skip) (by kernel_rfl) [.cv (.one (.loc 0 0)), .cv (.agg [.int .i64 (.var 1), .int .i64 (.var 2)]), .cv (.agg [.int .i64 (.var 3), .int .i64 (.var 4)])] [.int .i64 (.var 0)] 95 ⟨5, 0, 0, 0, 1, 0, 0⟩ (Vc.envOf [x0, x1, x2, x3, x4] [] [] []) (by kernel_rfl) (by kernel_rfl) (by kernel_rfl) (by kernel_rfl) (by decide) (by kernel_rfl) hx h

theorem vc___steer_calc__div (x0 x1 x2 x3 x4 : Int) (xl : Nat) (w : World) (v : Value) (new : Array Value) (hx : w.heap[xl]? = some (.cells #[.int .i64 x0] 95)) (h : 
  ((x0 = 0) → (
  ∃ (x5 : Int), ∃ (x6 : Int), ∃ (x7 : Int), (∀ w' : World, Vc.BelX xl w w' → Calls Try.prog 52 #[.agg #[.int .i64 x1, .int .i64 x2], .agg #[.int .i64 x3, .int .i64 x4]] w' (Vc.Ret (.tuple #[.agg #[.int .i64 x5, .int .i64 x6], .int .i64 x7]) w')) ∧
  (.agg #[.agg #[.int .i64 x5, .int .i64 x6], .agg #[.int .i64 x7]] : Value) = .agg #[v, .agg new])) ∧ (¬ (x0 = 0) → (
  (.agg #[.agg #[.int .i64 0, .int .i64 0], .agg #[.int .i64 x0]] : Value) = .agg #[v, .agg new]))) : Calls Try.prog 45 #[Vc.ptr xl 0, .agg #[.int .i64 x1, .int .i64 x2], .agg #[.int .i64 x3, .int .i64 x4]] w (Vc.Eff v xl new 95 w) :=
  Vc.eff_of (base_inl [49] (by kernel_rfl)) [] 200 Try.func45 (b := (Try.f45.body).getD .skip) (by kernel_rfl) [.cv (.one (.loc 0 0)), .cv (.agg [.int .i64 (.var 1), .int .i64 (.var 2)]), .cv (.agg [.int .i64 (.var 3), .int .i64 (.var 4)])] [.int .i64 (.var 0)] 95 ⟨5, 0, 0, 0, 1, 0, 0⟩ (Vc.envOf [x0, x1, x2, x3, x4] [] [] []) (by kernel_rfl) (by kernel_rfl) (by kernel_rfl) (by kernel_rfl) (by decide) (by kernel_rfl) hx h

theorem vc_steer_element (p0 : Nat × Nat) (x0 x1 x2 : Int) (b0 : Bool) (w : World) (v : Value) (h : 
  (0 ≤ x0) ∧
  ((¬ (b0 = true)) ∨ (x0 = 0)) ∧
  ((x0 ≤ x2) → (
  (.agg #[.int .i64 0, .int .i64 0] : Value) = v)) ∧ (¬ (x0 ≤ x2) → (
  (¬ (b0 = true)) ∧
  (0 ≤ x2) ∧
  (x2 < x0) ∧
  ∃ (x3 : Int), w.cell? ⟨p0.1, p0.2 + (Int.toNat x2) * 2 + 0, none⟩ = some (.int .i64 x3) ∧
  ∃ (x4 : Int), w.cell? ⟨p0.1, p0.2 + (Int.toNat x2) * 2 + 1, none⟩ = some (.int .i64 x4) ∧
  (.agg #[.int .i64 x3, .int .i64 x4] : Value) = v))) : Calls Try.prog 44 #[(if b0 = true then .slice none 0 0 else .slice (some (Vc.qad p0 (Int.toNat x0) (Int.toNat x1))) (Int.toNat x0) (Int.toNat x1) : Value), .int .i64 x2] w (Vc.Ret v w) :=
  Vc.pure_of base [] 200 Try.func44 (b := (Try.f44.body).getD .skip) (by kernel_rfl) [.cv (.one (.qsl 0 0 2 (.var 0) (.var 1))), .cv (.one (.int .i64 (.var 2)))] ⟨3, 1, 0, 1, 0, 0, 0⟩ (Vc.envOf [x0, x1, x2] [b0] [] [p0]) (by kernel_rfl) (by kernel_rfl) (by kernel_rfl) h

theorem vc_steer_polynomial (p0 : Nat × Nat) (x0 x1 : Int) (b0 : Bool) (w : World) (v : Value) (h : 
  (0 ≤ x0) ∧
  ((¬ (b0 = true)) ∨ (x0 = 0)) ∧
  ((2 ≤ x0) → (
  (0 ≤ x0) ∧
  ((¬ (b0 = true)) ∨ (x0 = 0)) ∧
  ((x0 ≤ 9) → (
  ∃ (b1 : Bool), (∀ w' : World, Below w.heap.size w w' → Calls Try.prog 29 #[(if b0 = true then .slice none 0 0 else .slice (some (Vc.qad p0 (Int.toNat x0) (Int.toNat x1))) (Int.toNat x0) (Int.toNat x1) : Value)] w' (Vc.Ret (.bool b1) w')) ∧
  ((b1 = true) → (
  (¬ (b0 = true)) ∧
  (0 < x0) ∧
  ∃ (x2 : Int), w.cell? ⟨p0.1, p0.2 + (Int.toNat 0) * 2 + 0, none⟩ = some (.int .i64 x2) ∧
  ∃ (x3 : Int), w.cell? ⟨p0.1, p0.2 + (Int.toNat 0) * 2 + 1, none⟩ = some (.int .i64 x3) ∧
  ∃ (x4 : Int), (∀ w' : World, Below w.heap.size w w' → Calls Try.prog 30 #[.agg #[.int .i64 x2, .int .i64 x3]] w' (Vc.Ret (.int .i64 x4) w')) ∧
  (.bool (decide (x4 > 0)) : Value) = v)) ∧ (¬ (b1 = true) → (
  (.bool false : Value) = v)))) ∧ (¬ (x0 ≤ 9) → (
  (.bool false : Value) = v)))) ∧ (¬ (2 ≤ x0) → (
  (.bool false : Value) = v))) : Calls Try.prog 21 #[(if b0 = true then .slice none 0 0 else .slice (some (Vc.qad p0 (Int.toNat x0) (Int.toNat x1))) (Int.toNat x0) (Int.toNat x1) : Value)] w (Vc.Ret v w) :=
  Vc.pure_of base [] 200 Try.func21 (b := (Try.f21.body).getD .skip) (by kernel_rfl) [.cv (.one (.qsl 0 0 2 (.var 0) (.var 1)))] ⟨2, 1, 0, 1, 0, 0, 0⟩ (Vc.envOf [x0, x1] [b0] [] [p0]) (by kernel_rfl) (by kernel_rfl) (by kernel_rfl) h

theorem vc__steer_wide__plus (x0 x1 x2 x3 : Int) (b0 : Bool) (w : World) (v : Value) (h : 
  ∀ x4 : Int, x4 = IntKind.u64.wrap (x2) →
  ∀ x5 : Int, x5 = IntKind.u64.wrap (x3) →
  ∃ (x6 : Int), ∃ (x7 : Int), (∀ w' : World, Below w.heap.size w w' → Calls Try.prog 34 #[.int .u64 x4, .int .u64 x5] w' (Vc.Ret (.tuple #[.int .u64 x6, .int .u64 x7]) w')) ∧
  ((x2 < 0) → (
  ∀ x8 : Int, x8 = IntKind.u64.wrap (x3) →
  ∀ x9 : Int, x9 = IntKind.u64.wrap (x6 - x8) →
  ((x3 < 0) → (
  ∀ x10 : Int, x10 = IntKind.u64.wrap (x2) →
  ∀ x11 : Int, x11 = IntKind.u64.wrap (x9 - x10) →
  ((b0 = true) → (
  ∃ (x12 : Int), ∃ (x13 : Int), (true = true ∧ ∀ w' : World, (callFunc 35 #[.int .u64 x1, .int .u64 x7, .int .u64 0]).run Try.prog w' = .ok (.value (.tuple #[.int .u64 x12, .int .u64 x13])) w') ∧
  ∀ x14 : Int, x14 = IntKind.i64.wrap (x11) →
  ∀ x15 : Int, x15 = IntKind.i64.wrap (x13) →
  ∀ x16 : Int, x16 = IntKind.i64.wrap (x14 + x15) →
  ∀ x17 : Int, x17 = IntKind.i64.wrap (x0 - x16) →
  (.agg #[.int .i64 x17, .int .u64 x12] : Value) = v)) ∧ (¬ (b0 = true) → (
  ∃ (x12 : Int), ∃ (x13 : Int), (true = true ∧ ∀ w' : World, (callFunc 36 #[.int .u64 x1, .int .u64 x7, .int .u64 0]).run Try.prog w' = .ok (.value (.tuple #[.int .u64 x12, .int .u64 x13])) w') ∧
  ∀ x14 : Int, x14 = IntKind.i64.wrap (x11) →
  ∀ x15 : Int, x15 = IntKind.i64.wrap (x13) →
  ∀ x16 : Int, x16 = IntKind.i64.wrap (x14 + x15) →
  ∀ x17 : Int, x17 = IntKind.i64.wrap (x0 + x16) →
  (.agg #[.int .i64 x17, .int .u64 x12] : Value) = v)))) ∧ (¬ (x3 < 0) → (
  ((b0 = true) → (
  ∃ (x10 : Int), ∃ (x11 : Int), (true = true ∧ ∀ w' : World, (callFunc 35 #[.int .u64 x1, .int .u64 x7, .int .u64 0]).run Try.prog w' = .ok (.value (.tuple #[.int .u64 x10, .int .u64 x11])) w') ∧
  ∀ x12 : Int, x12 = IntKind.i64.wrap (x9) →
  ∀ x13 : Int, x13 = IntKind.i64.wrap (x11) →
  ∀ x14 : Int, x14 = IntKind.i64.wrap (x12 + x13) →
  ∀ x15 : Int, x15 = IntKind.i64.wrap (x0 - x14) →
  (.agg #[.int .i64 x15, .int .u64 x10] : Value) = v)) ∧ (¬ (b0 = true) → (
  ∃ (x10 : Int), ∃ (x11 : Int), (true = true ∧ ∀ w' : World, (callFunc 36 #[.int .u64 x1, .int .u64 x7, .int .u64 0]).run Try.prog w' = .ok (.value (.tuple #[.int .u64 x10, .int .u64 x11])) w') ∧
  ∀ x12 : Int, x12 = IntKind.i64.wrap (x9) →
  ∀ x13 : Int, x13 = IntKind.i64.wrap (x11) →
  ∀ x14 : Int, x14 = IntKind.i64.wrap (x12 + x13) →
  ∀ x15 : Int, x15 = IntKind.i64.wrap (x0 + x14) →
  (.agg #[.int .i64 x15, .int .u64 x10] : Value) = v)))))) ∧ (¬ (x2 < 0) → (
  ((x3 < 0) → (
  ∀ x8 : Int, x8 = IntKind.u64.wrap (x2) →
  ∀ x9 : Int, x9 = IntKind.u64.wrap (x6 - x8) →
  ((b0 = true) → (
  ∃ (x10 : Int), ∃ (x11 : Int), (true = true ∧ ∀ w' : World, (callFunc 35 #[.int .u64 x1, .int .u64 x7, .int .u64 0]).run Try.prog w' = .ok (.value (.tuple #[.int .u64 x10, .int .u64 x11])) w') ∧
  ∀ x12 : Int, x12 = IntKind.i64.wrap (x9) →
  ∀ x13 : Int, x13 = IntKind.i64.wrap (x11) →
  ∀ x14 : Int, x14 = IntKind.i64.wrap (x12 + x13) →
  ∀ x15 : Int, x15 = IntKind.i64.wrap (x0 - x14) →
  (.agg #[.int .i64 x15, .int .u64 x10] : Value) = v)) ∧ (¬ (b0 = true) → (
  ∃ (x10 : Int), ∃ (x11 : Int), (true = true ∧ ∀ w' : World, (callFunc 36 #[.int .u64 x1, .int .u64 x7, .int .u64 0]).run Try.prog w' = .ok (.value (.tuple #[.int .u64 x10, .int .u64 x11])) w') ∧
  ∀ x12 : Int, x12 = IntKind.i64.wrap (x9) →
  ∀ x13 : Int, x13 = IntKind.i64.wrap (x11) →
  ∀ x14 : Int, x14 = IntKind.i64.wrap (x12 + x13) →
  ∀ x15 : Int, x15 = IntKind.i64.wrap (x0 + x14) →
  (.agg #[.int .i64 x15, .int .u64 x10] : Value) = v)))) ∧ (¬ (x3 < 0) → (
  ((b0 = true) → (
  ∃ (x8 : Int), ∃ (x9 : Int), (true = true ∧ ∀ w' : World, (callFunc 35 #[.int .u64 x1, .int .u64 x7, .int .u64 0]).run Try.prog w' = .ok (.value (.tuple #[.int .u64 x8, .int .u64 x9])) w') ∧
  ∀ x10 : Int, x10 = IntKind.i64.wrap (x6) →
  ∀ x11 : Int, x11 = IntKind.i64.wrap (x9) →
  ∀ x12 : Int, x12 = IntKind.i64.wrap (x10 + x11) →
  ∀ x13 : Int, x13 = IntKind.i64.wrap (x0 - x12) →
  (.agg #[.int .i64 x13, .int .u64 x8] : Value) = v)) ∧ (¬ (b0 = true) → (
  ∃ (x8 : Int), ∃ (x9 : Int), (true = true ∧ ∀ w' : World, (callFunc 36 #[.int .u64 x1, .int .u64 x7, .int .u64 0]).run Try.prog w' = .ok (.value (.tuple #[.int .u64 x8, .int .u64 x9])) w') ∧
  ∀ x10 : Int, x10 = IntKind.i64.wrap (x6) →
  ∀ x11 : Int, x11 = IntKind.i64.wrap (x9) →
  ∀ x12 : Int, x12 = IntKind.i64.wrap (x10 + x11) →
  ∀ x13 : Int, x13 = IntKind.i64.wrap (x0 + x12) →
  (.agg #[.int .i64 x13, .int .u64 x8] : Value) = v))))))) : Calls Try.prog 27 #[.agg #[.int .i64 x0, .int .u64 x1], .int .i64 x2, .int .i64 x3, .bool b0] w (Vc.Ret v w) :=
  Vc.pure_of base [] 200 Try.func27 (b := (Try.f27.body).getD .skip) (by kernel_rfl) [.cv (.agg [.int .i64 (.var 0), .int .u64 (.var 1)]), .cv (.one (.int .i64 (.var 2))), .cv (.one (.int .i64 (.var 3))), .cv (.one (.bool (.var 0)))] ⟨4, 1, 0, 0, 0, 0, 0⟩ (Vc.envOf [x0, x1, x2, x3] [b0] [] []) (by kernel_rfl) (by kernel_rfl) (by kernel_rfl) h

theorem vc__steer_wide__down (x0 x1 : Int) (w : World) (v : Value) (h : 
  ∀ x2 : Int, x2 = IntKind.i64.wrap (x0 * 4294967296) →
  ∀ x3 : Int, x3 = x1 / 4294967296 →
  ∀ x4 : Int, x4 = IntKind.i64.wrap (x3) →
  ∀ x5 : Int, x5 = bits .or .i64 x2 x4 →
  ∀ x6 : Int, x6 = x0 / 2147483648 →
  ∀ x7 : Int, x7 = x5 / 9223372036854775808 →
  ((x6 = x7) → (
  ∃ (b0 : Bool), (∀ w' : World, Below w.heap.size w w' → Calls Try.prog 19 #[.int .i64 x5] w' (Vc.Ret (.bool b0) w')) ∧
  (.tuple #[.int .i64 x5, .bool b0] : Value) = v)) ∧ (¬ (x6 = x7) → (
  (.tuple #[.int .i64 x5, .bool false] : Value) = v))) : Calls Try.prog 28 #[.agg #[.int .i64 x0, .int .u64 x1]] w (Vc.Ret v w) :=
  Vc.pure_of base [] 200 Try.func28 (b := (Try.f28.body).getD .skip) (by kernel_rfl) [.cv (.agg [.int .i64 (.var 0), .int .u64 (.var 1)])] ⟨2, 0, 0, 0, 0, 0, 0⟩ (Vc.envOf [x0, x1] [] [] []) (by kernel_rfl) (by kernel_rfl) (by kernel_rfl) h

theorem vc_steer_Routh (p0 : Nat × Nat) (x0 : Int) (w : World) (v : Value) (h : 
  ∃ (b0 : Bool), (∀ w' : World, Below w.heap.size w w' → Calls Try.prog 21 #[.slice (some ⟨p0.1, p0.2, none⟩) 3 (Int.toNat x0)] w' (Vc.Ret (.bool b0) w')) ∧
  ((b0 = true) → (
  ∃ (x1 : Int), w.cell? ⟨p0.1, p0.2 + (Int.toNat 0) * 2 + 0, none⟩ = some (.int .i64 x1) ∧
  ∃ (x2 : Int), w.cell? ⟨p0.1, p0.2 + (Int.toNat 0) * 2 + 1, none⟩ = some (.int .i64 x2) ∧
  ∃ (x3 : Int), w.cell? ⟨p0.1, p0.2 + (Int.toNat 1) * 2 + 0, none⟩ = some (.int .i64 x3) ∧
  ∃ (x4 : Int), w.cell? ⟨p0.1, p0.2 + (Int.toNat 1) * 2 + 1, none⟩ = some (.int .i64 x4) ∧
  ∃ (x5 : Int), w.cell? ⟨p0.1, p0.2 + (Int.toNat 2) * 2 + 0, none⟩ = some (.int .i64 x5) ∧
  ∃ (x6 : Int), w.cell? ⟨p0.1, p0.2 + (Int.toNat 2) * 2 + 1, none⟩ = some (.int .i64 x6) ∧
  ∃ (x7 : Int), (∀ w' : World, Below w.heap.size w w' → Calls Try.prog 30 #[.agg #[.int .i64 x3, .int .i64 x4]] w' (Vc.Ret (.int .i64 x7) w')) ∧
  ((x7 = 1) → (
  ∃ (x8 : Int), ∃ (x9 : Int), ∃ (x10 : Int), (∀ (β : Nat → Nat) (w' : World), Below w.heap.size w w' → ((w.heap.size ≤ β 25 ∧ w'.heap[β 25]? = some (.cells #[.int .i64 0] 95)) ∧ True) → Calls Try.prog 43 #[Vc.ptr (β 25) 0, .agg #[.int .i64 x3, .int .i64 x4], .agg #[.int .i64 x5, .int .i64 x6]] w' (Vc.Eff (.agg #[.int .i64 x8, .int .i64 x9]) (β 25) #[.int .i64 x10] 95 w')) ∧
  ∃ (x11 : Int), ∃ (x12 : Int), (∀ (β : Nat → Nat) (w' : World), Below w.heap.size w w' → (Vc.RowOk w.heap.size (β 15) (β 16) (β 17) (β 18) (([.int .i64 x3, .int .i64 x4] : List Value)) 2 66 w' ∧ True) → Calls Try.prog 44 #[Vc.ownV (β 15) (β 16) (β 17) (β 18), .int .i64 1] w' (Vc.Ret (.agg #[.int .i64 x11, .int .i64 x12]) w')) ∧
  ∃ (x13 : Int), ∃ (x14 : Int), ∃ (x15 : Int), (∀ (β : Nat → Nat) (w' : World), Below w.heap.size w w' → ((w.heap.size ≤ β 25 ∧ w'.heap[β 25]? = some (.cells #[.int .i64 x10] 95)) ∧ True) → Calls Try.prog 43 #[Vc.ptr (β 25) 0, .agg #[.int .i64 x1, .int .i64 x2], .agg #[.int .i64 x11, .int .i64 x12]] w' (Vc.Eff (.agg #[.int .i64 x13, .int .i64 x14]) (β 25) #[.int .i64 x15] 95 w')) ∧
  ∃ (x16 : Int), ∃ (x17 : Int), ∃ (x18 : Int), (∀ (β : Nat → Nat) (w' : World), Below w.heap.size w w' → ((w.heap.size ≤ β 25 ∧ w'.heap[β 25]? = some (.cells #[.int .i64 x15] 95)) ∧ True) → Calls Try.prog 42 #[Vc.ptr (β 25) 0, .agg #[.int .i64 x8, .int .i64 x9], .agg #[.int .i64 x13, .int .i64 x14]] w' (Vc.Eff (.agg #[.int .i64 x16, .int .i64 x17]) (β 25) #[.int .i64 x18] 95 w')) ∧
  ∃ (x19 : Int), ∃ (x20 : Int), ∃ (x21 : Int), (∀ (β : Nat → Nat) (w' : World), Below w.heap.size w w' → ((w.heap.size ≤ β 25 ∧ w'.heap[β 25]? = some (.cells #[.int .i64 x18] 95)) ∧ True) → Calls Try.prog 45 #[Vc.ptr (β 25) 0, .agg #[.int .i64 x16, .int .i64 x17], .agg #[.int .i64 x3, .int .i64 x4]] w' (Vc.Eff (.agg #[.int .i64 x19, .int .i64 x20]) (β 25) #[.int .i64 x21] 95 w')) ∧
  ((x21 = 0) → (
  ∃ (x22 : Int), (∀ w' : World, Below w.heap.size w w' → Calls Try.prog 30 #[.agg #[.int .i64 x19, .int .i64 x20]] w' (Vc.Ret (.int .i64 x22) w')) ∧
  ((x22 = 1) → (
  (.tuple #[.int .i64 1, .int .i64 0] : Value) = v)) ∧ (¬ (x22 = 1) → (
  (.tuple #[.int .i64 x22, .int .i64 0] : Value) = v)))) ∧ (¬ (x21 = 0) → (
  (.tuple #[.int .i64 0, .int .i64 0] : Value) = v)))) ∧ (¬ (x7 = 1) → (
  (.tuple #[.int .i64 x7, .int .i64 0] : Value) = v)))) ∧ (¬ (b0 = true) → (
  (.tuple #[.int .i64 0, .int .i64 2] : Value) = v))) : Calls Try.prog 9 #[.slice (some ⟨p0.1, p0.2, none⟩) 3 (Int.toNat x0)] w (Vc.Ret v w) :=
  Vc.pure_of (base_inl [22, 31, 41] (by kernel_rfl)) [(1000000000002, .unroll), (1000000000009, .unroll), (1000000000014, .unroll), (3000042, .inv [(0, 0)] [0] []), (3000043, .inv [(0, 0)] [0] []), (3000045, .inv [(0, 0)] [0] []), (3000089, .inv [(0, 0)] [0] [])] 200 Try.func9 (b := (Try.f9.body).getD .skip) (by kernel_rfl) [.cv (.one (.xsl 0 (.lit (0)) 2 (.lit (3)) (.var 0)))] ⟨1, 0, 0, 1, 0, 0, 0⟩ (Vc.envOf [x0] [] [] [p0]) (by kernel_rfl) (by kernel_rfl) (by kernel_rfl) h

theorem vc_steer_check (p0 : Nat × Nat) (x0 x1 x2 : Int) (b0 : Bool) (w : World) (v : Value) (h : 
  (0 ≤ x0) ∧
  ((¬ (b0 = true)) ∨ (x0 = 0)) ∧
  ((12 < x0) → (
  (.int .i64 3 : Value) = v)) ∧ (¬ (12 < x0) → (
  (0 ≤ x0) ∧
  ((¬ (b0 = true)) ∨ (x0 = 0)) ∧
  ∃ (Ix3 : List Vc.Vl → Prop) (mx3 : List Vc.Vl → Nat), Ix3 [.i 0, .i 0] ∧ ∀ (x3 : Int) (x4 : Int), Ix3 [.i x3, .i x4] → (
  ((x4 < x0) → (
  (¬ (b0 = true)) ∧
  (0 ≤ x4) ∧
  (x4 < x0) ∧
  ∃ (x5 : Int), w.cell? ⟨p0.1, p0.2 + (Int.toNat x4) * 3 + 0, none⟩ = some (.int .i64 x5) ∧
  ∃ (x6 : Int), w.cell? ⟨p0.1, p0.2 + (Int.toNat x4) * 3 + 1, none⟩ = some (.int .i64 x6) ∧
  ∃ (x7 : Int), w.cell? ⟨p0.1, p0.2 + (Int.toNat x4) * 3 + 2, none⟩ = some (.int .i64 x7) ∧
  ((x5 < (-1048576)) → (
  (.int .i64 2 : Value) = v)) ∧ (¬ (x5 < (-1048576)) → (
  ((1048576 < x5) → (
  (.int .i64 2 : Value) = v)) ∧ (¬ (1048576 < x5) → (
  ((x6 < (-1048576)) → (
  (.int .i64 2 : Value) = v)) ∧ (¬ (x6 < (-1048576)) → (
  ((1048576 < x6) → (
  (.int .i64 2 : Value) = v)) ∧ (¬ (1048576 < x6) → (
  ((x7 < (-1048576)) → (
  (.int .i64 2 : Value) = v)) ∧ (¬ (x7 < (-1048576)) → (
  ((1048576 < x7) → (
  (.int .i64 2 : Value) = v)) ∧ (¬ (1048576 < x7) → (
  ∀ x8 : Int, x8 = IntKind.i64.wrap (x4 + 1) →
  Ix3 [.i x3, .i x8] ∧ mx3 [.i x3, .i x8] < mx3 [.i x3, .i x4])))))))))))))) ∧ (¬ (x4 < x0) → (
  ((x2 < 0) → (
  (.int .i64 2 : Value) = v)) ∧ (¬ (x2 < 0) → (
  (0 ≤ x0) ∧
  ((¬ (b0 = true)) ∨ (x0 = 0)) ∧
  (0 ≤ x0) ∧
  ∀ x5 : Int, x5 = IntKind.i64.wrap (1 * 2 ^ (Nat.min (Int.toNat x0) 64)) →
  ((x5 ≤ x2) → (
  (.int .i64 2 : Value) = v)) ∧ (¬ (x5 ≤ x2) → (
  (.int .i64 0 : Value) = v)))))))))) : Calls Try.prog 12 #[(if b0 = true then .slice none 0 0 else .slice (some (Vc.qad p0 (Int.toNat x0) (Int.toNat x1))) (Int.toNat x0) (Int.toNat x1) : Value), .int .i64 x2] w (Vc.Ret v w) :=
  Vc.pure_of base [(1000000000004, .inv [] [4, 14] [15, 16, 17, 6, 18, 19, 20, 21, 22, 8, 23, 24, 25, 26, 27, 28, 29, 30]), (1000000000007, .unroll)] 200 Try.func12 (b := (Try.f12.body).getD .skip) (by kernel_rfl) [.cv (.one (.qsl 0 0 3 (.var 0) (.var 1))), .cv (.one (.int .i64 (.var 2)))] ⟨3, 1, 0, 1, 0, 0, 0⟩ (Vc.envOf [x0, x1, x2] [b0] [] [p0]) (by kernel_rfl) (by kernel_rfl) (by kernel_rfl) h

theorem vc__steer_vector__dot (x0 x1 x2 x3 x4 x5 : Int) (w : World) (v : Value) (h : 
  ∀ x6 : Int, x6 = IntKind.i64.wrap (x0 * x3) →
  ∀ x7 : Int, x7 = IntKind.i64.wrap (x1 * x4) →
  ∀ x8 : Int, x8 = IntKind.i64.wrap (x6 + x7) →
  ∀ x9 : Int, x9 = IntKind.i64.wrap (x2 * x5) →
  ∀ x10 : Int, x10 = IntKind.i64.wrap (x8 + x9) →
  (.int .i64 x10 : Value) = v) : Calls Try.prog 13 #[.agg #[.int .i64 x0, .int .i64 x1, .int .i64 x2], .agg #[.int .i64 x3, .int .i64 x4, .int .i64 x5]] w (Vc.Ret v w) :=
  Vc.pure_of base [] 200 Try.func13 (b := (Try.f13.body).getD .skip) (by kernel_rfl) [.cv (.agg [.int .i64 (.var 0), .int .i64 (.var 1), .int .i64 (.var 2)]), .cv (.agg [.int .i64 (.var 3), .int .i64 (.var 4), .int .i64 (.var 5)])] ⟨6, 0, 0, 0, 0, 0, 0⟩ (Vc.envOf [x0, x1, x2, x3, x4, x5] [] [] []) (by kernel_rfl) (by kernel_rfl) (by kernel_rfl) h

theorem vc__steer_vector__cross (x0 x1 x2 x3 x4 x5 : Int) (w : World) (v : Value) (h : 
  ∀ x6 : Int, x6 = IntKind.i64.wrap (x1 * x5) →
  ∀ x7 : Int, x7 = IntKind.i64.wrap (x2 * x4) →
  ∀ x8 : Int, x8 = IntKind.i64.wrap (x6 - x7) →
  ∀ x9 : Int, x9 = IntKind.i64.wrap (x2 * x3) →
  ∀ x10 : Int, x10 = IntKind.i64.wrap (x0 * x5) →
  ∀ x11 : Int, x11 = IntKind.i64.wrap (x9 - x10) →
  ∀ x12 : Int, x12 = IntKind.i64.wrap (x0 * x4) →
  ∀ x13 : Int, x13 = IntKind.i64.wrap (x1 * x3) →
  ∀ x14 : Int, x14 = IntKind.i64.wrap (x12 - x13) →
  (.agg #[.int .i64 x8, .int .i64 x11, .int .i64 x14] : Value) = v) : Calls Try.prog 32 #[.agg #[.int .i64 x0, .int .i64 x1, .int .i64 x2], .agg #[.int .i64 x3, .int .i64 x4, .int .i64 x5]] w (Vc.Ret v w) :=
  Vc.pure_of base [] 200 Try.func32 (b := (Try.f32.body).getD .skip) (by kernel_rfl) [.cv (.agg [.int .i64 (.var 0), .int .i64 (.var 1), .int .i64 (.var 2)]), .cv (.agg [.int .i64 (.var 3), .int .i64 (.var 4), .int .i64 (.var 5)])] ⟨6, 0, 0, 0, 0, 0, 0⟩ (Vc.envOf [x0, x1, x2, x3, x4, x5] [] [] []) (by kernel_rfl) (by kernel_rfl) (by kernel_rfl) h

theorem vc__steer_vector__minus (x0 x1 x2 x3 x4 x5 : Int) (w : World) (v : Value) (h : 
  ∀ x6 : Int, x6 = IntKind.i64.wrap (x0 - x3) →
  ∀ x7 : Int, x7 = IntKind.i64.wrap (x1 - x4) →
  ∀ x8 : Int, x8 = IntKind.i64.wrap (x2 - x5) →
  (.agg #[.int .i64 x6, .int .i64 x7, .int .i64 x8] : Value) = v) : Calls Try.prog 15 #[.agg #[.int .i64 x0, .int .i64 x1, .int .i64 x2], .agg #[.int .i64 x3, .int .i64 x4, .int .i64 x5]] w (Vc.Ret v w) :=
  Vc.pure_of base [] 200 Try.func15 (b := (Try.f15.body).getD .skip) (by kernel_rfl) [.cv (.agg [.int .i64 (.var 0), .int .i64 (.var 1), .int .i64 (.var 2)]), .cv (.agg [.int .i64 (.var 3), .int .i64 (.var 4), .int .i64 (.var 5)])] ⟨6, 0, 0, 0, 0, 0, 0⟩ (Vc.envOf [x0, x1, x2, x3, x4, x5] [] [] []) (by kernel_rfl) (by kernel_rfl) (by kernel_rfl) h

theorem vc_steer_sides (p0 : Nat × Nat) (x0 x1 x2 x3 x4 : Int) (b0 : Bool) (w : World) (v : Value) (h : 
  (0 ≤ x0) ∧
  ((¬ (b0 = true)) ∨ (x0 = 0)) ∧
  ∃ (Ib1 : List Vc.Vl → Prop) (mb1 : List Vc.Vl → Nat), Ib1 [.b false, .b false, .i 0] ∧ ∀ (b1 : Bool) (b2 : Bool) (x5 : Int), Ib1 [.b b1, .b b2, .i x5] → (
  ((x5 < x0) → (
  (¬ (b0 = true)) ∧
  (0 ≤ x5) ∧
  (x5 < x0) ∧
  ∃ (x6 : Int), w.cell? ⟨p0.1, p0.2 + (Int.toNat x5) * 3 + 0, none⟩ = some (.int .i64 x6) ∧
  ∃ (x7 : Int), w.cell? ⟨p0.1, p0.2 + (Int.toNat x5) * 3 + 1, none⟩ = some (.int .i64 x7) ∧
  ∃ (x8 : Int), w.cell? ⟨p0.1, p0.2 + (Int.toNat x5) * 3 + 2, none⟩ = some (.int .i64 x8) ∧
  ∃ (x9 : Int), (∀ w' : World, Below w.heap.size w w' → Calls Try.prog 13 #[.agg #[.int .i64 x6, .int .i64 x7, .int .i64 x8], .agg #[.int .i64 x2, .int .i64 x3, .int .i64 x4]] w' (Vc.Ret (.int .i64 x9) w')) ∧
  ((b1 = true) → (
  ((b2 = true) → (
  ∀ x10 : Int, x10 = IntKind.i64.wrap (x5 + 1) →
  Ib1 [.b true, .b true, .i x10] ∧ mb1 [.b true, .b true, .i x10] < mb1 [.b b1, .b b2, .i x5])) ∧ (¬ (b2 = true) → (
  ∀ x10 : Int, x10 = IntKind.i64.wrap (x5 + 1) →
  Ib1 [.b true, .b (decide (x9 < 0)), .i x10] ∧ mb1 [.b true, .b (decide (x9 < 0)), .i x10] < mb1 [.b b1, .b b2, .i x5])))) ∧ (¬ (b1 = true) → (
  ((b2 = true) → (
  ∀ x10 : Int, x10 = IntKind.i64.wrap (x5 + 1) →
  Ib1 [.b (decide (x9 > 0)), .b true, .i x10] ∧ mb1 [.b (decide (x9 > 0)), .b true, .i x10] < mb1 [.b b1, .b b2, .i x5])) ∧ (¬ (b2 = true) → (
  ∀ x10 : Int, x10 = IntKind.i64.wrap (x5 + 1) →
  Ib1 [.b (decide (x9 > 0)), .b (decide (x9 < 0)), .i x10] ∧ mb1 [.b (decide (x9 > 0)), .b (decide (x9 < 0)), .i x10] < mb1 [.b b1, .b b2, .i x5])))))) ∧ (¬ (x5 < x0) → (
  (.tuple #[.bool b1, .bool b2] : Value) = v)))) : Calls Try.prog 33 #[(if b0 = true then .slice none 0 0 else .slice (some (Vc.qad p0 (Int.toNat x0) (Int.toNat x1))) (Int.toNat x0) (Int.toNat x1) : Value), .agg #[.int .i64 x2, .int .i64 x3, .int .i64 x4]] w (Vc.Ret v w) :=
  Vc.pure_of base [(1000000000002, .inv [] [4, 5, 11] [12, 13, 14, 7, 15, 16, 17, 8, 18, 19, 20, 21, 22, 23, 24, 25, 26, 27, 28])] 200 Try.func33 (b := (Try.f33.body).getD .skip) (by kernel_rfl) [.cv (.one (.qsl 0 0 3 (.var 0) (.var 1))), .cv (.agg [.int .i64 (.var 2), .int .i64 (.var 3), .int .i64 (.var 4)])] ⟨5, 1, 0, 1, 0, 0, 0⟩ (Vc.envOf [x0, x1, x2, x3, x4] [b0] [] [p0]) (by kernel_rfl) (by kernel_rfl) (by kernel_rfl) h

theorem vc_steer_span3 (p0 : Nat × Nat) (x0 x1 : Int) (b0 : Bool) (w : World) (v : Value) (h : 
  (0 ≤ x0) ∧
  ((¬ (b0 = true)) ∨ (x0 = 0)) ∧
  ∃ (Ix2 : List Vc.Vl → Prop) (mx2 : List Vc.Vl → Nat), Ix2 [.i 0, .b false, .i 0] ∧ ∀ (x2 : Int) (b1 : Bool) (x3 : Int), Ix2 [.i x2, .b b1, .i x3] → (
  ((x3 < x0) → (
  (¬ (b0 = true)) ∧
  (0 ≤ x3) ∧
  (x3 < x0) ∧
  ∃ (x4 : Int), w.cell? ⟨p0.1, p0.2 + (Int.toNat x3) * 3 + 0, none⟩ = some (.int .i64 x4) ∧
  ∃ (x5 : Int), w.cell? ⟨p0.1, p0.2 + (Int.toNat x3) * 3 + 1, none⟩ = some (.int .i64 x5) ∧
  ∃ (x6 : Int), w.cell? ⟨p0.1, p0.2 + (Int.toNat x3) * 3 + 2, none⟩ = some (.int .i64 x6) ∧
  (¬ (b0 = true)) ∧
  (0 < x1) ∧
  (0 ≤ x0) ∧
  (x0 ≤ x1) ∧
  (0 ≤ x3) ∧
  (x3 ≤ x1) ∧
  (0 ≤ x3) ∧
  ∃ (Ix7 : List Vc.Vl → Prop) (mx7 : List Vc.Vl → Nat), Ix7 [.i x2, .b b1, .i 0] ∧ ∀ (x7 : Int) (b2 : Bool) (x8 : Int), Ix7 [.i x7, .b b2, .i x8] → (
  ((x8 < x3) → (
  (0 ≤ x8) ∧
  (x8 < x3) ∧
  ∃ (x9 : Int), w.cell? ⟨p0.1, p0.2 + (Int.toNat x8) * 3 + 0, none⟩ = some (.int .i64 x9) ∧
  ∃ (x10 : Int), w.cell? ⟨p0.1, p0.2 + (Int.toNat x8) * 3 + 1, none⟩ = some (.int .i64 x10) ∧
  ∃ (x11 : Int), w.cell? ⟨p0.1, p0.2 + (Int.toNat x8) * 3 + 2, none⟩ = some (.int .i64 x11) ∧
  ∃ (x12 : Int), ∃ (x13 : Int), ∃ (x14 : Int), (∀ w' : World, Below w.heap.size w w' → Calls Try.prog 32 #[.agg #[.int .i64 x4, .int .i64 x5, .int .i64 x6], .agg #[.int .i64 x9, .int .i64 x10, .int .i64 x11]] w' (Vc.Ret (.agg #[.int .i64 x12, .int .i64 x13, .int .i64 x14]) w')) ∧
  (((x12 = 0) ∧ ((x13 = 0) ∧ (x14 = 0))) → (
  ∀ x15 : Int, x15 = IntKind.i64.wrap (x8 + 1) →
  Ix7 [.i x7, .b b2, .i x15] ∧ mx7 [.i x7, .b b2, .i x15] < mx7 [.i x7, .b b2, .i x8])) ∧ (¬ ((x12 = 0) ∧ ((x13 = 0) ∧ (x14 = 0))) → (
  ∀ x15 : Int, x15 = IntKind.i64.wrap (x7 + 1) →
  ∃ (b3 : Bool), ∃ (b4 : Bool), (∀ w' : World, Below w.heap.size w w' → Calls Try.prog 33 #[(if b0 = true then .slice none 0 0 else .slice (some (Vc.qad p0 (Int.toNat x0) (Int.toNat x1))) (Int.toNat x0) (Int.toNat x1) : Value), .agg #[.int .i64 x12, .int .i64 x13, .int .i64 x14]] w' (Vc.Ret (.tuple #[.bool b3, .bool b4]) w')) ∧
  ((b3 = true) → (
  ((b4 = true) → (
  ∀ x16 : Int, x16 = IntKind.i64.wrap (x8 + 1) →
  Ix7 [.i x15, .b b2, .i x16] ∧ mx7 [.i x15, .b b2, .i x16] < mx7 [.i x7, .b b2, .i x8])) ∧ (¬ (b4 = true) → (
  (.bool false : Value) = v)))) ∧ (¬ (b3 = true) → (
  (.bool false : Value) = v)))))) ∧ (¬ (x8 < x3) → (
  ∀ x9 : Int, x9 = IntKind.i64.wrap (x3 + 1) →
  Ix2 [.i x7, .b b2, .i x9] ∧ mx2 [.i x7, .b b2, .i x9] < mx2 [.i x2, .b b1, .i x3]))))) ∧ (¬ (x3 < x0) → (
  (.bool (decide (x2 > 0)) : Value) = v)))) : Calls Try.prog 24 #[(if b0 = true then .slice none 0 0 else .slice (some (Vc.qad p0 (Int.toNat x0) (Int.toNat x1))) (Int.toNat x0) (Int.toNat x1) : Value)] w (Vc.Ret v w) :=
  Vc.pure_of base [(1000000000003, .inv [] [3, 2, 13] [14, 15, 16, 17, 5, 4, 18, 19, 20, 21, 22, 23, 24, 25, 7, 26, 27, 28, 8, 29, 30, 31, 32, 33, 35, 36, 37, 34, 38, 39, 9, 10, 40, 41, 42, 43, 44, 45, 46, 47]), (1000000000006, .inv [] [3, 2, 22] [23, 24, 25, 7, 26, 27, 28, 8, 29, 30, 31, 32, 33, 35, 36, 37, 34, 38, 39, 9, 10, 40, 41, 42, 43, 44, 45, 46])] 200 Try.func24 (b := (Try.f24.body).getD .skip) (by kernel_rfl) [.cv (.one (.qsl 0 0 3 (.var 0) (.var 1)))] ⟨2, 1, 0, 1, 0, 0, 0⟩ (Vc.envOf [x0, x1] [b0] [] [p0]) (by kernel_rfl) (by kernel_rfl) (by kernel_rfl) h

theorem vc_steer_Spans (p0 : Nat × Nat) (x0 x1 x2 : Int) (b0 : Bool) (w : World) (v : Value) (h : 
  ∃ (x3 : Int), (∀ w' : World, Below w.heap.size w w' → Calls Try.prog 12 #[(if b0 = true then .slice none 0 0 else .slice (some (Vc.qad p0 (Int.toNat x0) (Int.toNat x1))) (Int.toNat x0) (Int.toNat x1) : Value), .int .i64 x2] w' (Vc.Ret (.int .i64 x3) w')) ∧
  ((x3 = 0) → (
  (0 ≤ x0) ∧
  ((¬ (b0 = true)) ∨ (x0 = 0)) ∧
  ∃ (Io4 : List Vc.Vl → Prop) (mo4 : List Vc.Vl → Nat), Io4 [.l (([] : List Value)), .i 0] ∧ ∀ (l0 : List Vc.OV) (x4 : Int), Io4 [.l ((l0.map (·.1) ++ (([] : List Value)))), .i x4] → (
  ((x4 < x0) → (
  (¬ (b0 = true)) ∧
  (0 ≤ x4) ∧
  (x4 < x0) ∧
  ∃ (x5 : Int), w.cell? ⟨p0.1, p0.2 + (Int.toNat x4) * 3 + 0, none⟩ = some (.int .i64 x5) ∧
  ∃ (x6 : Int), w.cell? ⟨p0.1, p0.2 + (Int.toNat x4) * 3 + 1, none⟩ = some (.int .i64 x6) ∧
  ∃ (x7 : Int), w.cell? ⟨p0.1, p0.2 + (Int.toNat x4) * 3 + 2, none⟩ = some (.int .i64 x7) ∧
  (0 ≤ x4) ∧
  ∀ x8 : Int, x8 = Int.fdiv x2 (2 ^ (Nat.min (Int.toNat x4) 64)) →
  ∀ x9 : Int, x9 = bits .and .i64 x8 1 →
  ((x9 = 0) → (
  ∀ x10 : Int, x10 = (((3 + (l0.length + 0)) / 3 : Nat) : Int) →
  (x10 ≤ 1073741824) ∧
  ∀ x11 : Int, x11 = IntKind.i64.wrap (x4 + 1) →
  Io4 [.l ((l0.map (·.1) ++ (([.int .i64 x5, .int .i64 x6, .int .i64 x7] : List Value)))), .i x11] ∧ mo4 [.l ((l0.map (·.1) ++ (([.int .i64 x5, .int .i64 x6, .int .i64 x7] : List Value)))), .i x11] < mo4 [.l ((l0.map (·.1) ++ (([] : List Value)))), .i x4])) ∧ (¬ (x9 = 0) → (
  ∀ x10 : Int, x10 = IntKind.i64.wrap (x4 + 1) →
  Io4 [.l ((l0.map (·.1) ++ (([] : List Value)))), .i x10] ∧ mo4 [.l ((l0.map (·.1) ++ (([] : List Value)))), .i x10] < mo4 [.l ((l0.map (·.1) ++ (([] : List Value)))), .i x4])))) ∧ (¬ (x4 < x0) → (
  ∃ (b1 : Bool), (∀ (β : Nat → Nat) (w' : World), Below w.heap.size w w' → (Vc.RowOk w.heap.size (β 4) (β 5) (β 6) (β 7) ((l0.map (·.1) ++ (([] : List Value)))) 3 48 w' ∧ True) → Calls Try.prog 24 #[Vc.ownV (β 4) (β 5) (β 6) (β 7)] w' (Vc.Ret (.bool b1) w')) ∧
  (.tuple #[.bool b1, .int .i64 0] : Value) = v))))) ∧ (¬ (x3 = 0) → (
  (.tuple #[.bool false, .int .i64 x3] : Value) = v))) : Calls Try.prog 11 #[(if b0 = true then .slice none 0 0 else .slice (some (Vc.qad p0 (Int.toNat x0) (Int.toNat x1))) (Int.toNat x0) (Int.toNat x1) : Value), .int .i64 x2] w (Vc.Ret v w) :=
  Vc.pure_of (base_inl [25] (by kernel_rfl)) [(1000000000003, .inv [] [5, 10] [11, 12, 13, 14, 7, 6, 15, 16, 17, 18, 19, 20, 21, 22, 23, 24, 25]), (900000005, .inv [] [48] [])] 200 Try.func11 (b := (Try.f11.body).getD .skip) (by kernel_rfl) [.cv (.one (.qsl 0 0 3 (.var 0) (.var 1))), .cv (.one (.int .i64 (.var 2)))] ⟨3, 1, 0, 1, 0, 0, 0⟩ (Vc.envOf [x0, x1, x2] [b0] [] [p0]) (by kernel_rfl) (by kernel_rfl) (by kernel_rfl) h

theorem vc_ullagelaw05_alive (w : World) (v : Value) (h : 
  ∃ (x0 : Int), ∃ (x1 : Int), (∀ w' : World, Below w.heap.size w w' → Calls Try.prog 27 #[.agg #[.int .i64 0, .int .u64 0], .int .i64 2147483648, .int .i64 4294967296, .bool false] w' (Vc.Ret (.agg #[.int .i64 x0, .int .u64 x1]) w')) ∧
  ∃ (x2 : Int), ∃ (x3 : Int), (∀ w' : World, Below w.heap.size w w' → Calls Try.prog 27 #[.agg #[.int .i64 x0, .int .u64 x1], .int .i64 0, .int .i64 0, .bool false] w' (Vc.Ret (.agg #[.int .i64 x2, .int .u64 x3]) w')) ∧
  ∃ (x4 : Int), ∃ (x5 : Int), (∀ w' : World, Below w.heap.size w w' → Calls Try.prog 27 #[.agg #[.int .i64 x2, .int .u64 x3], .int .i64 0, .int .i64 0, .bool false] w' (Vc.Ret (.agg #[.int .i64 x4, .int .u64 x5]) w')) ∧
  ∃ (x6 : Int), ∃ (x7 : Int), (∀ w' : World, Below w.heap.size w w' → Calls Try.prog 27 #[.agg #[.int .i64 x4, .int .u64 x5], .int .i64 (-2147483648), .int .i64 0, .bool true] w' (Vc.Ret (.agg #[.int .i64 x6, .int .u64 x7]) w')) ∧
  ∃ (x8 : Int), ∃ (x9 : Int), (∀ w' : World, Below w.heap.size w w' → Calls Try.prog 27 #[.agg #[.int .i64 x6, .int .u64 x7], .int .i64 0, .int .i64 0, .bool true] w' (Vc.Ret (.agg #[.int .i64 x8, .int .u64 x9]) w')) ∧
  ∃ (x10 : Int), ∃ (b0 : Bool), (∀ w' : World, Below w.heap.size w w' → Calls Try.prog 28 #[.agg #[.int .i64 x8, .int .u64 x9]] w' (Vc.Ret (.tuple #[.int .i64 x10, .bool b0]) w')) ∧
  ((b0 = true) → (
  ∃ (x11 : Int), ∃ (x12 : Int), (∀ w' : World, Below w.heap.size w w' → Calls Try.prog 27 #[.agg #[.int .i64 0, .int .u64 0], .int .i64 2147483648, .int .i64 4294967296, .bool false] w' (Vc.Ret (.agg #[.int .i64 x11, .int .u64 x12]) w')) ∧
  ∃ (x13 : Int), ∃ (x14 : Int), (∀ w' : World, Below w.heap.size w w' → Calls Try.prog 27 #[.agg #[.int .i64 x11, .int .u64 x12], .int .i64 0, .int .i64 4294967296, .bool false] w' (Vc.Ret (.agg #[.int .i64 x13, .int .u64 x14]) w')) ∧
  ∃ (x15 : Int), ∃ (x16 : Int), (∀ w' : World, Below w.heap.size w w' → Calls Try.prog 27 #[.agg #[.int .i64 x13, .int .u64 x14], .int .i64 0, .int .i64 0, .bool false] w' (Vc.Ret (.agg #[.int .i64 x15, .int .u64 x16]) w')) ∧
  ∃ (x17 : Int), ∃ (x18 : Int), (∀ w' : World, Below w.heap.size w w' → Calls Try.prog 27 #[.agg #[.int .i64 x15, .int .u64 x16], .int .i64 (-2147483648), .int .i64 x10, .bool true] w' (Vc.Ret (.agg #[.int .i64 x17, .int .u64 x18]) w')) ∧
  ∃ (x19 : Int), ∃ (x20 : Int), (∀ w' : World, Below w.heap.size w w' → Calls Try.prog 27 #[.agg #[.int .i64 x17, .int .u64 x18], .int .i64 0, .int .i64 0, .bool true] w' (Vc.Ret (.agg #[.int .i64 x19, .int .u64 x20]) w')) ∧
  ∃ (x21 : Int), ∃ (b1 : Bool), (∀ w' : World, Below w.heap.size w w' → Calls Try.prog 28 #[.agg #[.int .i64 x19, .int .u64 x20]] w' (Vc.Ret (.tuple #[.int .i64 x21, .bool b1]) w')) ∧
  ((b1 = true) → (
  ∃ (x22 : Int), ∃ (x23 : Int), (∀ w' : World, Below w.heap.size w w' → Calls Try.prog 27 #[.agg #[.int .i64 0, .int .u64 0], .int .i64 2147483648, .int .i64 4294967296, .bool false] w' (Vc.Ret (.agg #[.int .i64 x22, .int .u64 x23]) w')) ∧
  ∃ (x24 : Int), ∃ (x25 : Int), (∀ w' : World, Below w.heap.size w w' → Calls Try.prog 27 #[.agg #[.int .i64 x22, .int .u64 x23], .int .i64 0, .int .i64 4294967296, .bool false] w' (Vc.Ret (.agg #[.int .i64 x24, .int .u64 x25]) w')) ∧
  ∃ (x26 : Int), ∃ (x27 : Int), (∀ w' : World, Below w.heap.size w w' → Calls Try.prog 27 #[.agg #[.int .i64 x24, .int .u64 x25], .int .i64 0, .int .i64 4294967296, .bool false] w' (Vc.Ret (.agg #[.int .i64 x26, .int .u64 x27]) w')) ∧
  ∃ (x28 : Int), ∃ (x29 : Int), (∀ w' : World, Below w.heap.size w w' → Calls Try.prog 27 #[.agg #[.int .i64 x26, .int .u64 x27], .int .i64 (-2147483648), .int .i64 x21, .bool true] w' (Vc.Ret (.agg #[.int .i64 x28, .int .u64 x29]) w')) ∧
  ∃ (x30 : Int), ∃ (x31 : Int), (∀ w' : World, Below w.heap.size w w' → Calls Try.prog 27 #[.agg #[.int .i64 x28, .int .u64 x29], .int .i64 0, .int .i64 x10, .bool true] w' (Vc.Ret (.agg #[.int .i64 x30, .int .u64 x31]) w')) ∧
  ∃ (x32 : Int), ∃ (b2 : Bool), (∀ w' : World, Below w.heap.size w w' → Calls Try.prog 28 #[.agg #[.int .i64 x30, .int .u64 x31]] w' (Vc.Ret (.tuple #[.int .i64 x32, .bool b2]) w')) ∧
  ((b2 = true) → (
  ∃ (x33 : Int), ∃ (x34 : Int), (∀ (β : Nat → Nat) (w' : World), Below w.heap.size w w' → (Vc.RowOk w.heap.size (β 33) (β 34) (β 35) (β 36) (([.int .i64 4294967296, .int .i64 4294967296, .int .i64 12884901888, .int .i64 12884901888, .int .i64 8589934592, .int .i64 8589934592] : List Value)) 2 66 w' ∧ True) → Calls Try.prog 9 #[Vc.ownV (β 33) (β 34) (β 35) (β 36)] w' (Vc.Ret (.tuple #[.int .i64 x33, .int .i64 x34]) w')) ∧
  ∃ (x35 : Int), ∃ (x36 : Int), (∀ (β : Nat → Nat) (w' : World), Below w.heap.size w w' → (Vc.RowOk w.heap.size (β 52) (β 53) (β 54) (β 55) (([.int .i64 4294967296, .int .i64 4294967296, .int .i64 (-12884901888), .int .i64 (-12884901888), .int .i64 8589934592, .int .i64 8589934592] : List Value)) 2 66 w' ∧ True) → Calls Try.prog 9 #[Vc.ownV (β 52) (β 53) (β 54) (β 55)] w' (Vc.Ret (.tuple #[.int .i64 x35, .int .i64 x36]) w')) ∧
  ∃ (b3 : Bool), ∃ (x37 : Int), (∀ (β : Nat → Nat) (w' : World), Below w.heap.size w w' → ((w.heap.size ≤ β 56 ∧ w'.heap[β 56]? = some (.cells #[.int .i64 1, .int .i64 0, .int .i64 0, .int .i64 (-1), .int .i64 0, .int .i64 0, .int .i64 0, .int .i64 1, .int .i64 0, .int .i64 0, .int .i64 (-1), .int .i64 0, .int .i64 0, .int .i64 0, .int .i64 1, .int .i64 0, .int .i64 0, .int .i64 (-1)] 44)) ∧ True) → Calls Try.prog 11 #[.slice (some ⟨β 56, 0, none⟩) 6 6, .int .i64 0] w' (Vc.Ret (.tuple #[.bool b3, .int .i64 x37]) w')) ∧
  ((x10 = 2147483648) → (
  ((x32 = 3758096384) → (
  ((x34 = 0) → (
  ((x33 = 1) → (
  ((x36 = 0) → (
  ((x35 = (-1)) → (
  ((x37 = 0) → (
  (.bool b3 : Value) = v)) ∧ (¬ (x37 = 0) → (
  (.bool false : Value) = v)))) ∧ (¬ (x35 = (-1)) → (
  (.bool false : Value) = v)))) ∧ (¬ (x36 = 0) → (
  (.bool false : Value) = v)))) ∧ (¬ (x33 = 1) → (
  (.bool false : Value) = v)))) ∧ (¬ (x34 = 0) → (
  (.bool false : Value) = v)))) ∧ (¬ (x32 = 3758096384) → (
  (.bool false : Value) = v)))) ∧ (¬ (x10 = 2147483648) → (
  (.bool false : Value) = v)))) ∧ (¬ (b2 = true) → (
  ∃ (x33 : Int), ∃ (x34 : Int), (∀ (β : Nat → Nat) (w' : World), Below w.heap.size w w' → (Vc.RowOk w.heap.size (β 33) (β 34) (β 35) (β 36) (([.int .i64 4294967296, .int .i64 4294967296, .int .i64 12884901888, .int .i64 12884901888, .int .i64 8589934592, .int .i64 8589934592] : List Value)) 2 66 w' ∧ True) → Calls Try.prog 9 #[Vc.ownV (β 33) (β 34) (β 35) (β 36)] w' (Vc.Ret (.tuple #[.int .i64 x33, .int .i64 x34]) w')) ∧
  ∃ (x35 : Int), ∃ (x36 : Int), (∀ (β : Nat → Nat) (w' : World), Below w.heap.size w w' → (Vc.RowOk w.heap.size (β 52) (β 53) (β 54) (β 55) (([.int .i64 4294967296, .int .i64 4294967296, .int .i64 (-12884901888), .int .i64 (-12884901888), .int .i64 8589934592, .int .i64 8589934592] : List Value)) 2 66 w' ∧ True) → Calls Try.prog 9 #[Vc.ownV (β 52) (β 53) (β 54) (β 55)] w' (Vc.Ret (.tuple #[.int .i64 x35, .int .i64 x36]) w')) ∧
  ∃ (b3 : Bool), ∃ (x37 : Int), (∀ (β : Nat → Nat) (w' : World), Below w.heap.size w w' → ((w.heap.size ≤ β 56 ∧ w'.heap[β 56]? = some (.cells #[.int .i64 1, .int .i64 0, .int .i64 0, .int .i64 (-1), .int .i64 0, .int .i64 0, .int .i64 0, .int .i64 1, .int .i64 0, .int .i64 0, .int .i64 (-1), .int .i64 0, .int .i64 0, .int .i64 0, .int .i64 1, .int .i64 0, .int .i64 0, .int .i64 (-1)] 44)) ∧ True) → Calls Try.prog 11 #[.slice (some ⟨β 56, 0, none⟩) 6 6, .int .i64 0] w' (Vc.Ret (.tuple #[.bool b3, .int .i64 x37]) w')) ∧
  (.bool false : Value) = v)))) ∧ (¬ (b1 = true) → (
  ∃ (x22 : Int), ∃ (x23 : Int), (∀ (β : Nat → Nat) (w' : World), Below w.heap.size w w' → (Vc.RowOk w.heap.size (β 32) (β 33) (β 34) (β 35) (([.int .i64 4294967296, .int .i64 4294967296, .int .i64 12884901888, .int .i64 12884901888, .int .i64 8589934592, .int .i64 8589934592] : List Value)) 2 66 w' ∧ True) → Calls Try.prog 9 #[Vc.ownV (β 32) (β 33) (β 34) (β 35)] w' (Vc.Ret (.tuple #[.int .i64 x22, .int .i64 x23]) w')) ∧
  ∃ (x24 : Int), ∃ (x25 : Int), (∀ (β : Nat → Nat) (w' : World), Below w.heap.size w w' → (Vc.RowOk w.heap.size (β 51) (β 52) (β 53) (β 54) (([.int .i64 4294967296, .int .i64 4294967296, .int .i64 (-12884901888), .int .i64 (-12884901888), .int .i64 8589934592, .int .i64 8589934592] : List Value)) 2 66 w' ∧ True) → Calls Try.prog 9 #[Vc.ownV (β 51) (β 52) (β 53) (β 54)] w' (Vc.Ret (.tuple #[.int .i64 x24, .int .i64 x25]) w')) ∧
  ∃ (b2 : Bool), ∃ (x26 : Int), (∀ (β : Nat → Nat) (w' : World), Below w.heap.size w w' → ((w.heap.size ≤ β 55 ∧ w'.heap[β 55]? = some (.cells #[.int .i64 1, .int .i64 0, .int .i64 0, .int .i64 (-1), .int .i64 0, .int .i64 0, .int .i64 0, .int .i64 1, .int .i64 0, .int .i64 0, .int .i64 (-1), .int .i64 0, .int .i64 0, .int .i64 0, .int .i64 1, .int .i64 0, .int .i64 0, .int .i64 (-1)] 44)) ∧ True) → Calls Try.prog 11 #[.slice (some ⟨β 55, 0, none⟩) 6 6, .int .i64 0] w' (Vc.Ret (.tuple #[.bool b2, .int .i64 x26]) w')) ∧
  (.bool false : Value) = v)))) ∧ (¬ (b0 = true) → (
  ∃ (x11 : Int), ∃ (x12 : Int), (∀ (β : Nat → Nat) (w' : World), Below w.heap.size w w' → (Vc.RowOk w.heap.size (β 31) (β 32) (β 33) (β 34) (([.int .i64 4294967296, .int .i64 4294967296, .int .i64 12884901888, .int .i64 12884901888, .int .i64 8589934592, .int .i64 8589934592] : List Value)) 2 66 w' ∧ True) → Calls Try.prog 9 #[Vc.ownV (β 31) (β 32) (β 33) (β 34)] w' (Vc.Ret (.tuple #[.int .i64 x11, .int .i64 x12]) w')) ∧
  ∃ (x13 : Int), ∃ (x14 : Int), (∀ (β : Nat → Nat) (w' : World), Below w.heap.size w w' → (Vc.RowOk w.heap.size (β 50) (β 51) (β 52) (β 53) (([.int .i64 4294967296, .int .i64 4294967296, .int .i64 (-12884901888), .int .i64 (-12884901888), .int .i64 8589934592, .int .i64 8589934592] : List Value)) 2 66 w' ∧ True) → Calls Try.prog 9 #[Vc.ownV (β 50) (β 51) (β 52) (β 53)] w' (Vc.Ret (.tuple #[.int .i64 x13, .int .i64 x14]) w')) ∧
  ∃ (b1 : Bool), ∃ (x15 : Int), (∀ (β : Nat → Nat) (w' : World), Below w.heap.size w w' → ((w.heap.size ≤ β 54 ∧ w'.heap[β 54]? = some (.cells #[.int .i64 1, .int .i64 0, .int .i64 0, .int .i64 (-1), .int .i64 0, .int .i64 0, .int .i64 0, .int .i64 1, .int .i64 0, .int .i64 0, .int .i64 (-1), .int .i64 0, .int .i64 0, .int .i64 0, .int .i64 1, .int .i64 0, .int .i64 0, .int .i64 (-1)] 44)) ∧ True) → Calls Try.prog 11 #[.slice (some ⟨β 54, 0, none⟩) 6 6, .int .i64 0] w' (Vc.Ret (.tuple #[.bool b1, .int .i64 x15]) w')) ∧
  (.bool false : Value) = v))) : Calls Try.prog 4 #[] w (Vc.Ret v w) :=
  Vc.pure_of (base_inl [8, 16, 17, 26, 18, 19, 20, 10, 23] (by kernel_rfl)) [(1000000000010, .unroll), (1000000000017, .unroll), (1000000000020, .unroll), (1000000000004, .unroll), (1000000000007, .unroll), (1000000000002, .unroll), (1000000000003, .unroll)] 200 Try.func4 (b := (Try.f4.body).getD .skip) (by kernel_rfl) [] ⟨0, 0, 0, 0, 0, 0, 0⟩ (Vc.envOf [] [] [] []) (by kernel_rfl) (by kernel_rfl) (by kernel_rfl) h

end Go.Proofs.Ytancpffnjhdfaaa
