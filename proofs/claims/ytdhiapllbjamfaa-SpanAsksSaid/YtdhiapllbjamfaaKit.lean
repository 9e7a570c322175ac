/- Words for contracts of functions that compute a value and leave what was there as it was, and for what a walk knows of the blocks that the call itself laid. No program in sight. -/
import Derived.WalkKit
import Derived.WalkSpells
import Derived.WalkLawsBesides
import Derived.Handy
import Derived.Deep.RegionHeld3
import Derived.Deep.LoopGhost
import Derived.Deep.DeepCutAuto
set_option linter.unusedVariables false
namespace Ul
open Go Go.RowKit

theorem hid {p : Prop} (h : p) : Hid p := h

/-- A call returns v; whatever was there is as it was. -/
def Ret (v : Value) (W : World) (e : Ending) (w' : World) : Prop := e = .returned v ∧ Below W.heap.size W w'

/-- What the walk knows: w is w0 and more; it holds these blocks whole. -/
structure Kn (w0 w : World) (L : List (Nat × Array Value × TypeId)) : Prop where
  below : Below w0.heap.size w0 w
  all : ∀ p ∈ L, w.heap[p.1]? = some (.cells p.2.1 p.2.2)

/-- What the walk reads off them. -/
def Opened (w : World) : List (Nat × Array Value × TypeId) → Prop
  | [] => True
  | (b, C, _) :: L => (∀ o, w.cell? ⟨b, o, none⟩ = C[o]?) ∧ (∀ o, w.frozen? ⟨b, o, none⟩ = false) ∧ b < w.heap.size ∧ (∀ m, b < w.heap.size + m) ∧ Opened w L

theorem heap_lt {w : World} {b : Nat} {o : Obj} (h : w.heap[b]? = some o) : b < w.heap.size := (Array.getElem?_eq_some_iff.1 h).1

theorem Kn.start (w : World) : Kn w w [] := ⟨Below.refl _ _, fun _ h => by cases h⟩
theorem Kn.skip {w0 w : World} {L} (h : Kn w0 w L) (o : Obj) : Kn w0 (w.alloc o) L :=
  ⟨h.below.alloc h.below.size o, fun p hp => by rw [Below.heap_alloc _ _ _ (heap_lt (h.all p hp))]; exact h.all p hp⟩
theorem Kn.push {w0 w : World} {L} (h : Kn w0 w L) (C : Array Value) (T : TypeId) : Kn w0 (w.alloc (.cells C T)) ((w.heap.size, C, T) :: L) := by
  refine ⟨h.below.alloc h.below.size _, fun p hp => ?_⟩
  rcases List.mem_cons.1 hp with rfl | hp
  · show (w.heap.push _)[w.heap.size]? = _; simp
  · exact (h.skip _).all p hp
theorem Kn.drew {w0 w : World} {L} (h : Kn w0 w L) : Kn w0 w.drew L := ⟨h.below.drew, h.all⟩
/-- A store into a block that the call laid, of which nothing is held any more (or never was). -/
theorem Kn.put {w0 w : World} {L} (h : Kn w0 w L) (b o : Nat) (v : Value) (hb : w0.heap.size ≤ b) (hL : ∀ p ∈ L, p.1 ≠ b) : Kn w0 (w.setCell ⟨b, o, none⟩ v) L :=
  ⟨h.below.setCell (p := ⟨b, o, none⟩) hb v, fun p hp => by rw [Below.heap_setCell _ _ _ _ (hL p hp)]; exact h.all p hp⟩
theorem Kn.next {w0 w w1 : World} {L} (h : Kn w0 w L) (hb : Below w.heap.size w w1) : Kn w0 w1 L :=
  ⟨h.below.trans (hb.mono h.below.size), fun p hp => by rw [hb.block _ (heap_lt (h.all p hp))]; exact h.all p hp⟩
theorem Kn.opened_of {w : World} : ∀ {L : List (Nat × Array Value × TypeId)}, (∀ p ∈ L, w.heap[p.1]? = some (.cells p.2.1 p.2.2)) → Opened w L
  | [], _ => trivial
  | (b, C, T) :: L, h => by
    have hb := h (b, C, T) (by simp)
    have hlt : b < w.heap.size := heap_lt hb
    refine ⟨fun o => ?_, fun o => ?_, hlt, fun m => by omega, Kn.opened_of (fun p hp => h p (List.mem_cons_of_mem _ hp))⟩
    · simp only at hb; simp [World.cell?, hb]
    · simp only at hb; simp [World.frozen?, hb]
theorem Kn.opened {w0 w : World} {L} (h : Kn w0 w L) : Opened w ((w0.heap.size, #[], 0) :: L).tail := Kn.opened_of h.all

/-- A call in the middle of a walk, by its contract. -/
theorem via {P : Program} {f : FuncId} {args : Array Value} {w0 W : World} {v : Value} {Q : Ending → World → Prop} {L : List (Nat × Array Value × TypeId)} (hL : Kn w0 W L)
    (h : Calls P f args W (Ret v W)) (k : ∀ w1, Kn w0 w1 L → Opened w1 L → Q (.returned v) w1) : Calls P f args W Q :=
  h.mono fun e w1 ⟨he, hb⟩ => by subst he; exact k w1 (hL.next hb) (Kn.opened_of (hL.next hb).all)

theorem Kn.trans' {w w0 w1 : World} {L} (hb : Below w.heap.size w w0) (h : Kn w0 w1 L) : Kn w w1 L := ⟨hb.trans (h.below.mono hb.size), h.all⟩

/-- The end of a walk. -/
theorem Kn.ret {w0 w : World} {L} {v : Value} (h : Kn w0 w L) : Ret v w0 (.returned v) w := ⟨rfl, h.below⟩
theorem Kn.ret' {w0 w : World} {L} {v u : Value} (h : Kn w0 w L) (e : u = v) : Ret v w0 (.returned u) w := e ▸ h.ret
end Ul
