import Derived.Test.YtdjgnbkclcjiiaaGreatDoorProg
import Derived.Test.YtdjgnbkclcjiiaaGreatDoorVcU
import Derived.WalkKit
import Derived.WalkSpells
import Derived.WalkLawsBesides
import Derived.Handy
import Derived.Deep.RegionHeld3
import Derived.Deep.LoopGhost
import Derived.Deep.DeepCutAuto
set_option linter.unusedVariables false
set_option linter.unusedSimpArgs false
namespace Wk
open Go Go.RowKit
open Vc (Ret)
structure Kn(w0 w:World)(L:List (Nat × Array Value × TypeId)):Prop where
 below:Below w0.heap.size w0 w
 all:∀ p∈L,w.heap[p.1]? = some (.cells p.2.1 p.2.2)
def Opened(w:World):List (Nat × Array Value × TypeId)→Prop
 | []=>True
 | (b,C,T)::L=>w.heap[b]? = some (.cells C T)∧(∀ o,w.cell? ⟨b,o,none⟩=C[o]?)∧(∀ o,w.frozen? ⟨b,o,none⟩=false)∧b < w.heap.size∧(∀ m,b < w.heap.size + m)∧Opened w L
theorem heap_lt{w:World}{b:Nat}{o:Obj}(h:w.heap[b]? = some o):b < w.heap.size:=(Array.getElem?_eq_some_iff.1 h).1
theorem Kn.start(w:World):Kn w w []:=⟨Below.refl _ _,fun _ h=>by cases h⟩
theorem Kn.skip{w0 w:World}{L}(h:Kn w0 w L)(o:Obj):Kn w0 (w.alloc o) L :=
 ⟨h.below.alloc h.below.size o,fun p hp=>by rw [Below.heap_alloc _ _ _ (heap_lt (h.all p hp))];exact h.all p hp⟩
theorem Kn.push{w0 w:World}{L}(h:Kn w0 w L)(C:Array Value)(T:TypeId):Kn w0 (w.alloc (.cells C T)) ((w.heap.size,C,T)::L):=by
 refine⟨h.below.alloc h.below.size _,fun p hp => ?_⟩;rcases List.mem_cons.1 hp with rfl | hp
 ·show (w.heap.push _)[w.heap.size]? = _;simp
 ·exact (h.skip _).all p hp
theorem Kn.drew{w0 w:World}{L}(h:Kn w0 w L):Kn w0 w.drew L:=⟨h.below.drew,h.all⟩
theorem Kn.put{w0 w:World}{L}(h:Kn w0 w L)(b o:Nat)(v:Value)(hb:w0.heap.size≤b)(hL:∀ p∈L,p.1≠b):Kn w0 (w.setCell ⟨b,o,none⟩ v) L :=
 ⟨h.below.setCell (p:=⟨b,o,none⟩) hb v,fun p hp=>by rw [Below.heap_setCell _ _ _ _ (hL p hp)];exact h.all p hp⟩
theorem Kn.next{w0 w w1:World}{L}(h:Kn w0 w L)(hb:Below w.heap.size w w1):Kn w0 w1 L :=
 ⟨h.below.trans (hb.mono h.below.size),fun p hp=>by rw [hb.block _ (heap_lt (h.all p hp))];exact h.all p hp⟩
theorem Kn.opened_of{w:World}:∀ {L:List (Nat × Array Value × TypeId)},(∀ p∈L,w.heap[p.1]? = some (.cells p.2.1 p.2.2))→Opened w L
  | [],_=>trivial
  | (b,C,T)::L,h=>by
    have hb:=h (b,C,T) (by simp);have hlt:b < w.heap.size:=heap_lt hb;refine⟨hb,fun o => ?_,fun o => ?_,hlt,fun m=>by omega,Kn.opened_of (fun p hp=>h p (List.mem_cons_of_mem _ hp))⟩
    · simp only at hb;simp [World.cell?,hb]
    · simp only at hb;simp [World.frozen?,hb]
theorem via{P:Program}{f:FuncId}{args:Array Value}{w0 W:World}{v:Value}{Q:Ending→World→Prop}{L:List (Nat × Array Value × TypeId)}(hL:Kn w0 W L)
  (h:Calls P f args W (Ret v W)) (k:∀ w1,Kn w0 w1 L→Opened w1 L→Q (.returned v) w1):Calls P f args W Q :=
 h.mono fun e w1 ⟨he,hb⟩=>by subst he;exact k w1 (hL.next hb) (Kn.opened_of (hL.next hb).all)
theorem Kn.trans'{w w0 w1:World}{L}(hb:Below w.heap.size w w0)(h:Kn w0 w1 L):Kn w w1 L:=⟨hb.trans (h.below.mono hb.size),h.all⟩
def setObj(o:Nat)(v:Value):Obj→Obj
 | .cells C T fr=>.cells (C.setIfInBounds o v) T fr
 | x=>x
theorem heap_alloc(w:World)(o:Obj)(b:Nat):(w.alloc o).heap[b]? = if b=w.heap.size then some o else w.heap[b]? := by
 show (w.heap.push o)[b]? = _;rw [Array.getElem?_push]
theorem zgp(w:World)(b:Nat):w.drew.heap[b]? = w.heap[b]? := rfl
theorem zti(w:World)(b o b':Nat)(v:Value):(w.setCell ⟨b,o,none⟩ v).heap[b']? = if b=b' then (w.heap[b']?).map (setObj o v)else w.heap[b']? := by
 simp only [World.setCell,Array.getElem?_modify];split
 ·subst_vars;congr 1
 ·rfl
theorem Kn.ret{w0 w:World}{L}{v:Value}(h:Kn w0 w L):Ret v w0 (.returned v) w:=⟨rfl,h.below⟩
def Held(w:World):List (Nat × Array Value × TypeId)→Prop
 | []=>True
 | (b,C,T)::L=>w.heap[b]? = some (.cells C T)∧Held w L
theorem Kn.of{w0 w:World}:∀ {L:List (Nat × Array Value × TypeId)},Below w0.heap.size w0 w→Held w L→Kn w0 w L
 | [],hb,_=>⟨hb,fun _ h=>by cases h⟩
 | (b,C,T)::L,hb,h=>⟨hb,fun p hp=>by
   rcases List.mem_cons.1 hp with rfl | hp
   ·exact h.1
   ·exact (Kn.of hb h.2).all p hp⟩
end Wk
