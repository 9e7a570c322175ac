import Derived.Test.YtocleppbcngcjaaGreatDoorProg
import Derived.Test.YtocleppbcngcjaaGreatDoorVcU
import Derived.WalkKit
import Derived.WalkSpells
import Derived.WalkLawsBesides
import Derived.Handy
import Derived.Deep.RegionHeld3
import Derived.Deep.LoopGhost
import Derived.Deep.DeepCutAuto
import Derived.Test.YtocleppbcngcjaaGreatDoorTy
import Derived.Lib.Walk
import Derived.Shelf.Strings.MapGrows
section
set_option linter.unusedVariables false
set_option linter.unusedSimpArgs false
namespace Wk
open Go Go.RowKit
open Vc (Ret)
structure Kn(w0 w:World)(L:List (Nat × Array Value × TypeId)):Prop where
 below:Below w0.heap.size w0 w
 all:∀p∈L,w.heap[p.1]? = some (.cells p.2.1 p.2.2)
def aN(w:World):List (Nat × Array Value × TypeId)->Prop
 | []=>True
 | (b,C,T)::L=>w.heap[b]? = some (.cells C T)/\(∀o,w.cell? ⟨b,o,none⟩=C[o]?)/\(∀o,w.frozen? ⟨b,o,none⟩=false)/\b<w.heap.size/\(∀m,b<w.heap.size+m)/\aN w L
theorem bM{w:World}{b:Nat}{o:Obj}(h:w.heap[b]? = some o):b<w.heap.size:=(Array.getElem?_eq_some_iff.1 h).1
theorem Kn.start(w:World):Kn w w []:=⟨Below.refl _ _,λ_ h=>by cases h⟩
theorem Kn.skip{w0 w:World}{L}(h:Kn w0 w L)(o:Obj):Kn w0 (w.alloc o) L :=
 ⟨h.below.alloc h.below.size o,λp hp=>by rw [Below.heap_alloc _ _ _ (bM (h.all p hp))];exact h.all p hp⟩
theorem Kn.push{w0 w:World}{L}(h:Kn w0 w L)(C:Array Value)(T:TypeId):Kn w0 (w.alloc (.cells C T)) ((w.heap.size,C,T)::L):=by
 refine⟨h.below.alloc h.below.size _,λp hp => ?_⟩;rcases List.mem_cons.1 hp with rfl|hp
 ·show (w.heap.push _)[w.heap.size]? = _;simp
 ·exact (h.skip _).all p hp
theorem Kn.drew{w0 w:World}{L}(h:Kn w0 w L):Kn w0 w.drew L:=⟨h.below.drew,h.all⟩
theorem Kn.put{w0 w:World}{L}(h:Kn w0 w L)(b o:Nat)(v:Value)(hb:w0.heap.size<=b)(hL:∀p∈L,p.1≠b):Kn w0 (w.setCell ⟨b,o,none⟩ v) L :=
 ⟨h.below.setCell (p:=⟨b,o,none⟩) hb v,λp hp=>by rw [Below.heap_setCell _ _ _ _ (hL p hp)];exact h.all p hp⟩
theorem Kn.next{w0 w w1:World}{L}(h:Kn w0 w L)(hb:Below w.heap.size w w1):Kn w0 w1 L :=
 ⟨h.below.trans (hb.mono h.below.size),λp hp=>by rw [hb.block _ (bM (h.all p hp))];exact h.all p hp⟩
theorem Kn.aK{w:World}:∀{L:List (Nat × Array Value × TypeId)},(∀p∈L,w.heap[p.1]? = some (.cells p.2.1 p.2.2))->aN w L
  | [],_=>trivial
  | (b,C,T)::L,h=>by
    have hb:=h (b,C,T) (by simp);have cn:b<w.heap.size:=bM hb;refine⟨hb,λo => ?_,λo => ?_,cn,λm=>by omega,Kn.aK (λp hp=>h p (List.mem_cons_of_mem _ hp))⟩
    · simp only at hb;simp [World.cell?,hb]
    · simp only at hb;simp [World.frozen?,hb]
theorem via{P:Program}{f:FuncId}{args:Array Value}{w0 W:World}{v:Value}{Q:Ending->World->Prop}{L:List (Nat × Array Value × TypeId)}(hL:Kn w0 W L)
  (h:Calls P f args W (Ret v W)) (k:∀w1,Kn w0 w1 L->aN w1 L->Q (.returned v) w1):Calls P f args W Q :=
 h.mono λe w1 ⟨he,hb⟩=>by subst he;exact k w1 (hL.next hb) (Kn.aK (hL.next hb).all)
theorem Kn.trans'{w w0 w1:World}{L}(hb:Below w.heap.size w w0)(h:Kn w0 w1 L):Kn w w1 L:=⟨hb.trans (h.below.mono hb.size),h.all⟩
def setObj(o:Nat)(v:Value):Obj->Obj
 | .cells C T fr=>.cells (C.setIfInBounds o v) T fr
 |x=>x
theorem heap_alloc(w:World)(o:Obj)(b:Nat):(w.alloc o).heap[b]? = if b=w.heap.size then some o else w.heap[b]? := by
 show (w.heap.push o)[b]? = _;rw [Array.getElem?_push]
theorem Sj(w:World)(b:Nat):w.drew.heap[b]? = w.heap[b]? := rfl
theorem yp(w:World)(b o b':Nat)(v:Value):(w.setCell ⟨b,o,none⟩ v).heap[b']? = if b=b' then (w.heap[b']?).map (setObj o v)else w.heap[b']? := by
 simp only [World.setCell,Array.getElem?_modify];split
 ·subst_vars;congr 1
 ·rfl
theorem Kn.ret{w0 w:World}{L}{v:Value}(h:Kn w0 w L):Ret v w0 (.returned v) w:=⟨rfl,h.below⟩
def wI(w:World):List (Nat × Array Value × TypeId)->Prop
 | []=>True
 | (b,C,T)::L=>w.heap[b]? = some (.cells C T)/\wI w L
theorem Kn.of{w0 w:World}:∀{L:List (Nat × Array Value × TypeId)},Below w0.heap.size w0 w->wI w L->Kn w0 w L
 | [],hb,_=>⟨hb,λ_ h=>by cases h⟩
 | (b,C,T)::L,hb,h=>⟨hb,λp hp=>by
   rcases List.mem_cons.1 hp with rfl|hp
   ·exact h.1
   ·exact (Kn.of hb h.2).all p hp⟩
end Wk
end
section
set_option linter.unusedVariables false
set_option linter.unusedSimpArgs false
set_option linter.unusedSimpArgs false
namespace Go.Proofs.YtocleppbcngcjaaGreatDoor
open Go Go.RowKit Go.Proofs Wk
def qF(l:List (List UInt8)):List Value:=l.map λs=>.string ⟨s.toArray⟩
theorem Wl(s:List UInt8):Lib.strCells ⟨s.toArray⟩=Lib.byteCells s:=rfl
theorem Wm(a b:List UInt8):Lib.byteCells (a++b)=Lib.byteCells a++Lib.byteCells b:=by simp [Lib.byteCells]
set_option maxHeartbeats 2000000 in
set_option maxRecDepth 100000 in
theorem Ld(B b g n:Nat)(bs:List UInt8)(l:List (List UInt8))(w:World)(h:ux B b (Lib.byteCells bs) w)(Cx:B<=w.heap.size)(hg:w.heap[g]? = some (.cells (qF l).toArray 9))(Ke:g≠b)(hn:l.length=n)(CY:n<=100)(hlen:bs.length+l.flatten.length<=1000000000) :
  Calls Tryz.prog 25 #[.slice (some ⟨g,0,none⟩) n n,.pointer (some ⟨b,0,none⟩)] w λe w'=>e=.returned (.tuple #[])/\ux B b (Lib.byteCells (bs++l.flatten)) w'/\Below B w w'/\Lib.OthersKept 5 (some b) w w':=by
 have mixed:Tryz.prog.follows Departure.mixedOrders=true:=by kernel_rfl
 go_enter Tryz.func25,Tryz.ntmps25
 go_wp2
 go_loopw [7] (λi wr=>∃k:Nat,k<=n/\i=.int .i64 (k:Int)/\ux B b (Lib.byteCells (bs++(l.take k).flatten)) wr/\Below B w wr/\Lib.OthersKept 5 (some b) w wr/\B<=wr.heap.size) (λi _=>n-(intOf i).toNat)
 case atStart=>exact⟨0,Nat.zero_le _,rfl,by simpa using h,Below.refl _ _,Lib.OthersKept.refl _ _ _,Cx⟩
 case round =>
  obtain⟨k,hk,rfl,hB,hb,ho,hs⟩:=hrel;by_cases eR:k<n
  ·have qG:k<l.length:=by omega
   obtain⟨s,xD⟩:∃s,l[k]? = some s:=⟨_,List.getElem?_eq_getElem qG⟩;have pQ:wr.heap[g]? = some (.cells (qF l).toArray 9):=ho g _ hg (by simpa using Ke) (λc fz e=>by injection e with _ e _;exact absurd e (by decide))
   have c1:wr.cell? ⟨g,k,none⟩=some (.string ⟨s.toArray⟩):=by
    simp only [World.cell?,pQ];simp [qF,xD]
   have g8:(k:Int)<(n:Int):=by omega
   have k0:(0:Int)<=(k:Int):=by omega
   have kT:(l.take (k+1)).flatten=(l.take k).flatten++s:=by rw [List.take_add_one,xD];simp
   have hle:(l.take (k+1)).flatten.length<=l.flatten.length:=by
    conv=>rhs;rw [<-List.take_append_drop (k+1) l,List.flatten_append,List.length_append]
    omega
   rw [kT,List.length_append]at hle
   have K6:(Lib.byteCells (bs++(l.take k).flatten)).length+(⟨s.toArray⟩:ByteArray).size<=140737488355328:=by
    rw [Lib.byteCells_length,List.length_append];show _+s.toArray.size<=_;rw [List.size_toArray];omega
   have hw:=T6 B b _ ⟨s.toArray⟩ wr hB K6 hs
   go_wp2_with (go_at_call 26;refine hw.mono ?_)
   rintro e w1 ⟨rfl,h1,b1,k1⟩
   go_wp2
   go_roundw
   case rel =>
    refine⟨k+1,by omega, ?_,.inr ?_,hb.trans b1,ho.trans k1,by have:=b1.size;omega⟩
    ·simp
    ·rw [kT,<-List.append_assoc,Wm,<-Wl];exact h1
   case measure=>simp only [intOf];omega
  ·obtain rfl:k=n:=by omega
   have g8:¬((k:Int)<(k:Int)):=by omega
   go_wp2
   go_end0
   refine⟨rfl, ?_,hb,ho⟩;rw [List.take_of_length_le (by omega)]at hB;exact hB
end Go.Proofs.YtocleppbcngcjaaGreatDoor
end
