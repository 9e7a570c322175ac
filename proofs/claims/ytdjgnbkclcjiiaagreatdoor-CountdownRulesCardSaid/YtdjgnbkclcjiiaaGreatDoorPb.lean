import Derived.Test.YtdjgnbkclcjiiaaGreatDoorProg
import Derived.Test.YtdjgnbkclcjiiaaGreatDoorVcU
import Derived.WalkKit
import Derived.WalkSpells
import Derived.WalkLawsBesides
import Derived.Handy
import Derived.Deep.RegionHeld3
import Derived.Deep.LoopGhost
import Derived.Deep.DeepCutAuto
import Derived.Test.YtdjgnbkclcjiiaaGreatDoorG0
import Derived.Test.YtdjgnbkclcjiiaaGreatDoorM12
section
set_option linter.unusedVariables false
set_option linter.unusedSimpArgs false
namespace Wk
open Go Go.RowKit
open Vc (Ret)
structure Kn(w0 w:World)(L:List (Nat × Array Value × TypeId)):Prop where
 below:Below w0.heap.size w0 w
 all:∀ p∈L,w.heap[p.1]? = some (.cells p.2.1 p.2.2)
def Opened(w:World):List (Nat × Array Value × TypeId)→Prop
 | []=>True
 | (b,C,T)::L=>w.heap[b]? = some (.cells C T)∧(∀ o,w.cell? ⟨b,o,none⟩=C[o]?)∧(∀ o,w.frozen? ⟨b,o,none⟩=false)∧b < w.heap.size∧(∀ m,b < w.heap.size + m)∧Opened w L
theorem heap_lt{w:World}{b:Nat}{o:Obj}(h:w.heap[b]? = some o):b < w.heap.size:=(Array.getElem?_eq_some_iff.1 h).1
theorem Kn.start(w:World):Kn w w []:=⟨Below.refl _ _,fun _ h=>by cases h⟩
theorem Kn.skip{w0 w:World}{L}(h:Kn w0 w L)(o:Obj):Kn w0 (w.alloc o) L :=
 ⟨h.below.alloc h.below.size o,fun p hp=>by rw [Below.heap_alloc _ _ _ (heap_lt (h.all p hp))];exact h.all p hp⟩
theorem Kn.push{w0 w:World}{L}(h:Kn w0 w L)(C:Array Value)(T:TypeId):Kn w0 (w.alloc (.cells C T)) ((w.heap.size,C,T)::L):=by
 refine⟨h.below.alloc h.below.size _,fun p hp => ?_⟩;rcases List.mem_cons.1 hp with rfl | hp
 ·show (w.heap.push _)[w.heap.size]? = _;simp
 ·exact (h.skip _).all p hp
theorem Kn.drew{w0 w:World}{L}(h:Kn w0 w L):Kn w0 w.drew L:=⟨h.below.drew,h.all⟩
theorem Kn.put{w0 w:World}{L}(h:Kn w0 w L)(b o:Nat)(v:Value)(hb:w0.heap.size≤b)(hL:∀ p∈L,p.1≠b):Kn w0 (w.setCell ⟨b,o,none⟩ v) L :=
 ⟨h.below.setCell (p:=⟨b,o,none⟩) hb v,fun p hp=>by rw [Below.heap_setCell _ _ _ _ (hL p hp)];exact h.all p hp⟩
theorem Kn.next{w0 w w1:World}{L}(h:Kn w0 w L)(hb:Below w.heap.size w w1):Kn w0 w1 L :=
 ⟨h.below.trans (hb.mono h.below.size),fun p hp=>by rw [hb.block _ (heap_lt (h.all p hp))];exact h.all p hp⟩
theorem Kn.opened_of{w:World}:∀ {L:List (Nat × Array Value × TypeId)},(∀ p∈L,w.heap[p.1]? = some (.cells p.2.1 p.2.2))→Opened w L
  | [],_=>trivial
  | (b,C,T)::L,h=>by
    have hb:=h (b,C,T) (by simp);have hlt:b < w.heap.size:=heap_lt hb;refine⟨hb,fun o => ?_,fun o => ?_,hlt,fun m=>by omega,Kn.opened_of (fun p hp=>h p (List.mem_cons_of_mem _ hp))⟩
    · simp only at hb;simp [World.cell?,hb]
    · simp only at hb;simp [World.frozen?,hb]
theorem via{P:Program}{f:FuncId}{args:Array Value}{w0 W:World}{v:Value}{Q:Ending→World→Prop}{L:List (Nat × Array Value × TypeId)}(hL:Kn w0 W L)
  (h:Calls P f args W (Ret v W)) (k:∀ w1,Kn w0 w1 L→Opened w1 L→Q (.returned v) w1):Calls P f args W Q :=
 h.mono fun e w1 ⟨he,hb⟩=>by subst he;exact k w1 (hL.next hb) (Kn.opened_of (hL.next hb).all)
def setObj(o:Nat)(v:Value):Obj→Obj
 | .cells C T fr=>.cells (C.setIfInBounds o v) T fr
 | x=>x
theorem heap_alloc(w:World)(o:Obj)(b:Nat):(w.alloc o).heap[b]? = if b=w.heap.size then some o else w.heap[b]? := by
 show (w.heap.push o)[b]? = _;rw [Array.getElem?_push]
theorem zna(w:World)(b:Nat):w.drew.heap[b]? = w.heap[b]? := rfl
theorem zya(w:World)(b o b':Nat)(v:Value):(w.setCell ⟨b,o,none⟩ v).heap[b']? = if b=b' then (w.heap[b']?).map (setObj o v)else w.heap[b']? := by
 simp only [World.setCell,Array.getElem?_modify];split
 ·subst_vars;congr 1
 ·rfl
theorem Kn.ret{w0 w:World}{L}{v:Value}(h:Kn w0 w L):Ret v w0 (.returned v) w:=⟨rfl,h.below⟩
def Held(w:World):List (Nat × Array Value × TypeId)→Prop
 | []=>True
 | (b,C,T)::L=>w.heap[b]? = some (.cells C T)∧Held w L
theorem Kn.of{w0 w:World}:∀ {L:List (Nat × Array Value × TypeId)},Below w0.heap.size w0 w→Held w L→Kn w0 w L
 | [],hb,_=>⟨hb,fun _ h=>by cases h⟩
 | (b,C,T)::L,hb,h=>⟨hb,fun p hp=>by
   rcases List.mem_cons.1 hp with rfl | hp
   ·exact h.1
   ·exact (Kn.of hb h.2).all p hp⟩
end Wk
end
section
set_option linter.unusedVariables false
set_option linter.unusedSimpArgs false
set_option maxRecDepth 100000
namespace Go.Proofs.YtdjgnbkclcjiiaaGreatDoor
open Go Go.RowKit Go.Proofs Wk
open Vc (SlAt OV iteI Vl zwa ze)
attribute [local irreducible] Go.Calls
theorem zxo(x l:List UInt8):decide (l.take x.length=x)=x.isPrefixOf l:=by
 rw [Bool.eq_iff_iff,decide_eq_true_eq,List.isPrefixOf_iff_prefix,List.prefix_iff_eq_take];exact eq_comm
theorem phas(s x:List UInt8)(w:World):Calls Tryz.prog 150 #[.string ⟨s.toArray⟩,.string ⟨x.toArray⟩] w (Vc.Ret (.bool (x.isPrefixOf s)) w):=by
 refine zfc s x w _ ?_;rintro x0 rfl x1 rfl;refine iteI (fun h => ?_) (fun h => ?_)
 ·rintro x2 rfl;refine⟨by omega, ?_⟩;rintro s2 rfl;rw [← zxo];simp
 ·have e:x.isPrefixOf s=false:=Bool.eq_false_iff.2 fun hp=>h (by have:=(List.isPrefixOf_iff_prefix.1 hp).length_le;omega);rw [e]
def tkV(t:Tk):Value := .agg #[.int .i64 (t.a:Nat),.int .i64 (t.t:Nat),.string ⟨t.x.toArray⟩,.bool t.num,.bool t.bad]
theorem zeg{s:List UInt8}{k:Nat}(h:k < s.length):s.getD k 0=s[k]:=by simp [List.getD,h]
theorem ztaa{p:UInt8→Bool}{s:List UInt8}{k:Nat}(h:k < s.length):runB p (s.drop k)=if p (s.getD k 0)=true then runB p (s.drop (k + 1)) + 1 else 0:=by
 rw [List.drop_eq_getElem_cons h,runB,zeg h]
theorem ztm{p:UInt8→Bool}{s:List UInt8}{k:Nat}(h:¬ k < s.length):runB p (s.drop k)=0:=by
 rw [List.drop_of_length_le (by omega)];rfl
theorem zao{p:UInt8→Bool}{s:List UInt8}{k:Nat}(h:k < s.length)(hp:p (s.getD k 0)=false):runB p (s.drop k)=0:=by
 rw [ztaa h,hp];rfl
theorem zbk{p:UInt8→Bool}{s:List UInt8}{k:Nat}(h:k < s.length)(hp:p (s.getD k 0)=true):runB p (s.drop k)=runB p (s.drop (k + 1)) + 1:=by
 rw [ztaa h,hp];rfl
def msKp(n:Nat):List Vl→Nat
 | [.i i]=>n - i.toNat
 | _=>0
theorem zcr{s:List UInt8}{k n:Nat}(a b:Int)(ha:a=(k:Nat))(hb:b=((k + n:Nat):Int)):List.take (Int.toNat b - Int.toNat a) (List.drop (Int.toNat a) s)=(s.drop k).take n:=by
 rw [show b.toNat - a.toNat=n by omega,show a.toNat=k by omega]
theorem t6{s:List UInt8}{k n:Nat}(hl:s.length < 4611686018427387904)(hn:k + n≤s.length):Vj_countdown_scan_T6 ((k + n:Nat):Int) (k:Nat) s (tkV ⟨k,k + n,(s.drop k).take n,false,decide (32 < n)⟩):=by
 rintro x10 rfl;refine⟨by omega, ?_⟩;rintro s1 rfl;rw [zcr (k:=k) (n:=n) _ _ rfl rfl,show IntKind.i64.wrap (((k + n:Nat):Int) - (k:Nat))=(n:Nat) by rw [ze (by omega)];omega];simp [tkV];omega
theorem t7{s:List UInt8}{k n:Nat}(hl:s.length < 4611686018427387904)(hn:k + n≤s.length):Vj_countdown_scan_T7 ((k + n:Nat):Int) (k:Nat) s (tkV ⟨k,k + n,(s.drop k).take n,true,decide (10 < n)⟩):=by
 rintro x10 rfl;refine⟨by omega, ?_⟩;rintro s1 rfl;rw [zcr (k:=k) (n:=n) _ _ rfl rfl,show IntKind.i64.wrap (((k + n:Nat):Int) - (k:Nat))=(n:Nat) by rw [ze (by omega)];omega];simp [tkV];omega
theorem t8{w:World}{s x:List UInt8}{k:Nat}(hV:Vg_2 w)(hl:s.length < 4611686018427387904)(hk:k≤s.length)(hx:x.length=2)(hp:x.isPrefixOf (s.drop k)=true):Vj_countdown_scan_T8 w (k:Nat) s (tkV ⟨k,k + x.length,x,false,false⟩):=by
 have h1:=List.isPrefixOf_iff_prefix.1 hp;have h2:=h1.length_le;rw [List.length_drop]at h2;refine⟨hV, ?_⟩;intro x15 h15;have e:x15=((k + 2:Nat):Int):=by rw [h15,ze (by omega)];rfl
 clear h15;subst e;refine⟨by omega, ?_⟩;rintro s3 rfl;rw [zcr (k:=k) (n:=2) _ _ rfl rfl,← hx,← List.prefix_iff_eq_take.1 h1];rfl
theorem t9{w:World}{s x:List UInt8}{k:Nat}(hV:Vg_2 w)(hl:s.length < 4611686018427387904)(hk:k≤s.length)(hx:x.length=1)(hp:x.isPrefixOf (s.drop k)=true):Vj_countdown_scan_T9 w (k:Nat) s (tkV ⟨k,k + x.length,x,false,false⟩):=by
 have h1:=List.isPrefixOf_iff_prefix.1 hp;have h2:=h1.length_le;rw [List.length_drop]at h2;refine⟨hV, ?_⟩;intro x15 h15;have e:x15=((k + 1:Nat):Int):=by rw [h15,ze (by omega)];rfl
 clear h15;subst e;refine⟨by omega, ?_⟩;rintro s3 rfl;rw [zcr (k:=k) (n:=1) _ _ rfl rfl,← hx,← List.prefix_iff_eq_take.1 h1];rfl
set_option maxHeartbeats 1000000 in
theorem t3{w:World}{s:List UInt8}{k:Nat}{c:UInt8}{l:List UInt8}(hV:Vg_2 w)(hl:s.length < 4611686018427387904)(hk:k≤s.length)(hd:s.drop k=c::l)(h1:¬ letB c=true)(h2:¬ digB c=true):Vj_countdown_scan_T3 w s (k:Nat) (tkV (tokAt k (s.drop k))):=by
 have hs:List.take (Int.toNat ((s.length:Nat):Int) - Int.toNat ((k:Nat):Int)) (List.drop (Int.toNat ((k:Nat):Int)) s)=s.drop k:=by
  simp only [Int.toNat_natCast];rw [List.take_of_length_le (by simp)]
 have hT:tokAt k (s.drop k)=match signsB.find? (fun x=>x.isPrefixOf (s.drop k))with
   | some x=>⟨k,k + x.length,x,false,false⟩
   | none=>⟨k,k,[],false,true⟩:=by
  rw [hd,zu,if_neg h1,if_neg h2];cases signsB.find? (fun x=>x.isPrefixOf (c::l)) <;> rfl
 rw [hT];clear hT;refine⟨hV, ?_⟩;rintro _ rfl;refine⟨by omega, ?_⟩;rintro _ rfl;refine⟨([60,61]:List UInt8).isPrefixOf (s.drop k),fun w' hb=>by rw [hs];exact phas _ _ _,iteI (fun g => ?_) (fun g => ?_)⟩
 ·have e:signsB.find? (fun x=>x.isPrefixOf (s.drop k))=some [60,61]:=by simp only [signsB,List.find?_cons,g]
  rw [e];exact t8 hV hl hk rfl g
 have g0:=Bool.eq_false_iff.2 g;clear g;refine⟨hV, ?_⟩;rintro _ rfl;refine⟨by omega, ?_⟩;rintro _ rfl;refine⟨([62,61]:List UInt8).isPrefixOf (s.drop k),fun w' hb=>by rw [hs];exact phas _ _ _,iteI (fun g => ?_) (fun g => ?_)⟩
 ·have e:signsB.find? (fun x=>x.isPrefixOf (s.drop k))=some [62,61]:=by simp only [signsB,List.find?_cons,g0,g]
  rw [e];exact t8 hV hl hk rfl g
 have g1:=Bool.eq_false_iff.2 g;clear g;refine⟨hV, ?_⟩;rintro _ rfl;refine⟨by omega, ?_⟩;rintro _ rfl;refine⟨([61,61]:List UInt8).isPrefixOf (s.drop k),fun w' hb=>by rw [hs];exact phas _ _ _,iteI (fun g => ?_) (fun g => ?_)⟩
 ·have e:signsB.find? (fun x=>x.isPrefixOf (s.drop k))=some [61,61]:=by simp only [signsB,List.find?_cons,g0,g1,g]
  rw [e];exact t8 hV hl hk rfl g
 have g2:=Bool.eq_false_iff.2 g;clear g;refine⟨hV, ?_⟩;rintro _ rfl;refine⟨by omega, ?_⟩;rintro _ rfl;refine⟨([33,61]:List UInt8).isPrefixOf (s.drop k),fun w' hb=>by rw [hs];exact phas _ _ _,iteI (fun g => ?_) (fun g => ?_)⟩
 ·have e:signsB.find? (fun x=>x.isPrefixOf (s.drop k))=some [33,61]:=by simp only [signsB,List.find?_cons,g0,g1,g2,g]
  rw [e];exact t8 hV hl hk rfl g
 have g3:=Bool.eq_false_iff.2 g;clear g;refine⟨hV, ?_⟩;rintro _ rfl;refine⟨by omega, ?_⟩;rintro _ rfl;refine⟨([60]:List UInt8).isPrefixOf (s.drop k),fun w' hb=>by rw [hs];exact phas _ _ _,iteI (fun g => ?_) (fun g => ?_)⟩
 ·have e:signsB.find? (fun x=>x.isPrefixOf (s.drop k))=some [60]:=by simp only [signsB,List.find?_cons,g0,g1,g2,g3,g]
  rw [e];exact t9 hV hl hk rfl g
 have g4:=Bool.eq_false_iff.2 g;clear g;refine⟨hV, ?_⟩;rintro _ rfl;refine⟨by omega, ?_⟩;rintro _ rfl;refine⟨([62]:List UInt8).isPrefixOf (s.drop k),fun w' hb=>by rw [hs];exact phas _ _ _,iteI (fun g => ?_) (fun g => ?_)⟩
 ·have e:signsB.find? (fun x=>x.isPrefixOf (s.drop k))=some [62]:=by simp only [signsB,List.find?_cons,g0,g1,g2,g3,g4,g]
  rw [e];exact t9 hV hl hk rfl g
 have g5:=Bool.eq_false_iff.2 g;clear g;refine⟨hV, ?_⟩;rintro _ rfl;refine⟨by omega, ?_⟩;rintro _ rfl;refine⟨([124]:List UInt8).isPrefixOf (s.drop k),fun w' hb=>by rw [hs];exact phas _ _ _,iteI (fun g => ?_) (fun g => ?_)⟩
 ·have e:signsB.find? (fun x=>x.isPrefixOf (s.drop k))=some [124]:=by simp only [signsB,List.find?_cons,g0,g1,g2,g3,g4,g5,g]
  rw [e];exact t9 hV hl hk rfl g
 have g6:=Bool.eq_false_iff.2 g;clear g;refine⟨hV, ?_⟩;rintro _ rfl;refine⟨by omega, ?_⟩;rintro _ rfl;refine⟨([38]:List UInt8).isPrefixOf (s.drop k),fun w' hb=>by rw [hs];exact phas _ _ _,iteI (fun g => ?_) (fun g => ?_)⟩
 ·have e:signsB.find? (fun x=>x.isPrefixOf (s.drop k))=some [38]:=by simp only [signsB,List.find?_cons,g0,g1,g2,g3,g4,g5,g6,g]
  rw [e];exact t9 hV hl hk rfl g
 have g7:=Bool.eq_false_iff.2 g;clear g;refine⟨hV, ?_⟩;rintro _ rfl;refine⟨by omega, ?_⟩;rintro _ rfl;refine⟨([33]:List UInt8).isPrefixOf (s.drop k),fun w' hb=>by rw [hs];exact phas _ _ _,iteI (fun g => ?_) (fun g => ?_)⟩
 ·have e:signsB.find? (fun x=>x.isPrefixOf (s.drop k))=some [33]:=by simp only [signsB,List.find?_cons,g0,g1,g2,g3,g4,g5,g6,g7,g]
  rw [e];exact t9 hV hl hk rfl g
 have g8:=Bool.eq_false_iff.2 g;clear g;refine⟨hV, ?_⟩;rintro _ rfl;refine⟨by omega, ?_⟩;rintro _ rfl;refine⟨([40]:List UInt8).isPrefixOf (s.drop k),fun w' hb=>by rw [hs];exact phas _ _ _,iteI (fun g => ?_) (fun g => ?_)⟩
 ·have e:signsB.find? (fun x=>x.isPrefixOf (s.drop k))=some [40]:=by simp only [signsB,List.find?_cons,g0,g1,g2,g3,g4,g5,g6,g7,g8,g]
  rw [e];exact t9 hV hl hk rfl g
 have g9:=Bool.eq_false_iff.2 g;clear g;refine⟨hV, ?_⟩;rintro _ rfl;refine⟨by omega, ?_⟩;rintro _ rfl;refine⟨([41]:List UInt8).isPrefixOf (s.drop k),fun w' hb=>by rw [hs];exact phas _ _ _,iteI (fun g => ?_) (fun g => ?_)⟩
 ·have e:signsB.find? (fun x=>x.isPrefixOf (s.drop k))=some [41]:=by simp only [signsB,List.find?_cons,g0,g1,g2,g3,g4,g5,g6,g7,g8,g9,g]
  rw [e];exact t9 hV hl hk rfl g
 have g10:=Bool.eq_false_iff.2 g;clear g;refine⟨hV, ?_⟩;rintro _ rfl;refine⟨by omega, ?_⟩;rintro _ rfl;refine⟨([44]:List UInt8).isPrefixOf (s.drop k),fun w' hb=>by rw [hs];exact phas _ _ _,iteI (fun g => ?_) (fun g => ?_)⟩
 ·have e:signsB.find? (fun x=>x.isPrefixOf (s.drop k))=some [44]:=by simp only [signsB,List.find?_cons,g0,g1,g2,g3,g4,g5,g6,g7,g8,g9,g10,g]
  rw [e];exact t9 hV hl hk rfl g
 have g11:=Bool.eq_false_iff.2 g;clear g;refine⟨hV, ?_⟩;rintro _ rfl;refine⟨by omega, ?_⟩;rintro _ rfl;refine⟨([45]:List UInt8).isPrefixOf (s.drop k),fun w' hb=>by rw [hs];exact phas _ _ _,iteI (fun g => ?_) (fun g => ?_)⟩
 ·have e:signsB.find? (fun x=>x.isPrefixOf (s.drop k))=some [45]:=by simp only [signsB,List.find?_cons,g0,g1,g2,g3,g4,g5,g6,g7,g8,g9,g10,g11,g]
  rw [e];exact t9 hV hl hk rfl g
 have g12:=Bool.eq_false_iff.2 g;clear g;have e:signsB.find? (fun x=>x.isPrefixOf (s.drop k))=none:=by simp only [signsB,List.find?_cons,List.find?_nil,g0,g1,g2,g3,g4,g5,g6,g7,g8,g9,g10,g11,g12]
 rw [e];rfl
theorem zyk{p:UInt8→Bool}{s:List UInt8}{k:Nat}(hk:k≤s.length):k + runB p (s.drop k)≤s.length:=by
 have:=zzj p (s.drop k)
 rw [List.length_drop]at this;omega
set_option maxHeartbeats 1000000 in
theorem zaca{w:World}{s:List UInt8}{i:Nat}(hV:Vg_2 w)(hl:s.length < 4611686018427387904)(hi:i≤s.length):Calls Tryz.prog 60 #[.string ⟨s.toArray⟩,.int .i64 (i:Nat)] w (Vc.Ret (tkV (tokS s i)) w):=by
 refine zak (i:Nat) s w _ ⟨fun L=>∃ k:Nat,L=[.i (k:Nat)]∧k≤s.length∧i + runB spB (s.drop i)=k + runB spB (s.drop k),msKp s.length,⟨i,rfl,hi,rfl⟩, ?_⟩;rintro x1 ⟨k,hy,hk,hr⟩;simp only [List.cons.injEq,Vl.i.injEq,and_true]at hy;subst hy;rintro x2 rfl
 have out:runB spB (s.drop k)=0→Vj_countdown_scan_T1 s (k:Nat) (tkV (tokS s i)) w:=by
  intro h0;rw [h0,Nat.add_zero]at hr;unfold tokS;rw [hr];clear hr h0;rintro x5 rfl;refine iteI (fun he => ?_) (fun he => ?_)
  ·have:k=s.length:=by omega
   rw [List.drop_of_length_le (by omega)];rfl
  have hlt:k < s.length:=by omega
  have hd:=List.drop_eq_getElem_cons hlt;have hg:s.getD k 0=s[k]:=zeg hlt;rintro x6 rfl;refine⟨by omega,by omega, ?_⟩;rintro x7 rfl;rw [Int.toNat_natCast]
  have T2:¬ letB s[k]=true→Vj_countdown_scan_T2 s (k:Nat) (tkV (tokAt k (s.drop k))) w:=by
   intro hle;rintro x8 rfl;refine⟨by omega,by omega, ?_⟩;rintro x9 rfl;rw [Int.toNat_natCast];have T3:¬ digB s[k]=true→Vj_countdown_scan_T3 w s (k:Nat) (tkV (tokAt k (s.drop k))):=fun hdi=>t3 hV hl hk hd hle hdi;rw [hg]at *;refine iteI (fun h3=>iteI (fun h4 => ?_) (fun h4=>T3 (by simp only [digB,Bool.and_eq_true,decide_eq_true_eq];omega))) (fun h3=>T3 (by simp only [digB,Bool.and_eq_true,decide_eq_true_eq];omega));have hdig:digB s[k]=true:=by simp only [digB,Bool.and_eq_true,decide_eq_true_eq];omega
   have hTok:tokAt k (s.drop k)=⟨k,k + runB digB (s.drop k),(s.drop k).take (runB digB (s.drop k)),true,decide (10 < runB digB (s.drop k))⟩:=by
    rw [hd,zu,if_neg hle,if_pos hdig]
   rw [hTok];have hend:=zyk (p:=digB) hk;refine⟨fun L=>∃ j:Nat,L=[.i (j:Nat)]∧j≤s.length∧k + runB digB (s.drop k)=j + runB digB (s.drop j),msKp s.length,⟨k,rfl,hk,rfl⟩, ?_⟩;rintro x10 ⟨j,hy,hj,hrj⟩;simp only [List.cons.injEq,Vl.i.injEq,and_true]at hy;subst hy
   have fin:runB digB (s.drop j)=0→Vj_countdown_scan_T7 (j:Nat) (k:Nat) s (tkV ⟨k,k + runB digB (s.drop k),(s.drop k).take (runB digB (s.drop k)),true,decide (10 < runB digB (s.drop k))⟩):=fun h0=>by
    rw [show j=k + runB digB (s.drop k) by omega];exact t7 hl hend
   rintro x11 rfl;refine iteI (fun h5 => ?_) (fun h5=>fin (ztm (by omega)));have hjl:j < s.length:=by omega
   rintro x12 rfl;refine⟨by omega,by omega, ?_⟩;rintro x13 rfl;rw [Int.toNat_natCast];refine iteI (fun h6=>iteI (fun h7 => ?_) (fun h7=>fin (zao hjl (Bool.eq_false_iff.2 (by simp only [digB,ne_eq,Bool.and_eq_true,decide_eq_true_eq];omega))))) (fun h6=>fin (zao hjl (Bool.eq_false_iff.2 (by simp only [digB,ne_eq,Bool.and_eq_true,decide_eq_true_eq];omega))));intro x14 h14;have e:x14=((j + 1:Nat):Int):=by rw [h14,ze (by omega)];rfl
   clear h14;subst e;exact⟨⟨j + 1,rfl,by omega,by rw [hrj,zbk hjl (by simp only [digB,Bool.and_eq_true,decide_eq_true_eq];omega)];omega⟩,by simp only [msKp];omega⟩
  rw [hg];refine iteI (fun h3=>iteI (fun h4 => ?_) (fun h4=>T2 (by simp only [letB,Bool.and_eq_true,decide_eq_true_eq];omega))) (fun h3=>T2 (by simp only [letB,Bool.and_eq_true,decide_eq_true_eq];omega));have hlet:letB s[k]=true:=by simp only [letB,Bool.and_eq_true,decide_eq_true_eq];omega
  have hTok:tokAt k (s.drop k)=⟨k,k + runB markB (s.drop k),(s.drop k).take (runB markB (s.drop k)),false,decide (32 < runB markB (s.drop k))⟩:=by
   rw [hd,zu,if_pos hlet]
  rw [hTok];clear T2;have hend:=zyk (p:=markB) hk;refine⟨fun L=>∃ j:Nat,L=[.i (j:Nat)]∧j≤s.length∧k + runB markB (s.drop k)=j + runB markB (s.drop j),msKp s.length,⟨k,rfl,hk,rfl⟩, ?_⟩;rintro x8 ⟨j,hy,hj,hrj⟩;simp only [List.cons.injEq,Vl.i.injEq,and_true]at hy;subst hy
  have fin:runB markB (s.drop j)=0→Vj_countdown_scan_T6 (j:Nat) (k:Nat) s (tkV ⟨k,k + runB markB (s.drop k),(s.drop k).take (runB markB (s.drop k)),false,decide (32 < runB markB (s.drop k))⟩):=fun h0=>by
   rw [show j=k + runB markB (s.drop k) by omega];exact t6 hl hend
  rintro x9 rfl;refine iteI (fun h5 => ?_) (fun h5=>fin (ztm (by omega)));have hjl:j < s.length:=by omega
  rintro x10 rfl;refine⟨by omega,by omega, ?_⟩;rintro x11 rfl;rw [Int.toNat_natCast]
  have go:markB (s.getD j 0)=true→∀ x12:Int,x12=IntKind.i64.wrap ((j:Nat) + 1)→(∃ j:Nat,[Vl.i x12]=[.i (j:Nat)]∧j≤s.length∧k + runB markB (s.drop k)=j + runB markB (s.drop j))∧msKp s.length [.i x12] < msKp s.length [.i (j:Nat)]:=by
   intro hm x12 h12;have e:x12=((j + 1:Nat):Int):=by rw [h12,ze (by omega)];rfl
   clear h12;subst e;exact⟨⟨j + 1,rfl,by omega,by rw [hrj,zbk hjl hm];omega⟩,by simp only [msKp];omega⟩
  have M:∀ {P:Prop},(markB (s.getD j 0)=true→P)→((97≤(s.getD j 0).toNat∧(s.getD j 0).toNat≤122)∨(48≤(s.getD j 0).toNat∧(s.getD j 0).toNat≤57)∨(s.getD j 0).toNat=45)→P:=fun hP h=>hP (by simp only [markB,letB,digB,Bool.or_eq_true,Bool.and_eq_true,decide_eq_true_eq];omega)
  have T5:¬ (97≤(s.getD j 0).toNat∧(s.getD j 0).toNat≤122)→¬ (48≤(s.getD j 0).toNat∧(s.getD j 0).toNat≤57)→Vj_countdown_scan_T5 (((s.getD j 0).toNat:Nat):Int) (j:Nat) (fun L=>∃ j:Nat,L=[.i (j:Nat)]∧j≤s.length∧k + runB markB (s.drop k)=j + runB markB (s.drop j)) (msKp s.length) (k:Nat) s (tkV ⟨k,k + runB markB (s.drop k),(s.drop k).take (runB markB (s.drop k)),false,decide (32 < runB markB (s.drop k))⟩):=fun n1 n2 =>
   iteI (fun h=>M go (by omega)) (fun h=>fin (zao hjl (Bool.eq_false_iff.2 (by simp only [markB,letB,digB,ne_eq,Bool.or_eq_true,Bool.and_eq_true,decide_eq_true_eq];omega))))
  have T4:¬ (97≤(s.getD j 0).toNat∧(s.getD j 0).toNat≤122)→Vj_countdown_scan_T4 (((s.getD j 0).toNat:Nat):Int) (j:Nat) (fun L=>∃ j:Nat,L=[.i (j:Nat)]∧j≤s.length∧k + runB markB (s.drop k)=j + runB markB (s.drop j)) (msKp s.length) (k:Nat) s (tkV ⟨k,k + runB markB (s.drop k),(s.drop k).take (runB markB (s.drop k)),false,decide (32 < runB markB (s.drop k))⟩):=fun n1 =>
   iteI (fun h=>iteI (fun h'=>M go (by omega)) (fun h'=>T5 n1 (by omega))) (fun h=>T5 n1 (by omega))
  exact iteI (fun h6=>iteI (fun h7=>M go (by omega)) (fun h7=>T4 (by omega))) (fun h6=>T4 (by omega))
 refine iteI (fun h1 => ?_) (fun h1=>out (ztm (by omega)));have hlt:k < s.length:=by omega
 rintro x3 rfl;refine⟨by omega,by omega, ?_⟩;rintro x4 rfl;rw [Int.toNat_natCast];refine iteI (fun h2 => ?_) (fun h2=>out (zao hlt (Bool.eq_false_iff.2 (by simp only [spB,ne_eq,decide_eq_true_eq];omega))));intro x5 h5;have e:x5=((k + 1:Nat):Int):=by rw [h5,ze (by omega)];rfl
 clear h5;subst e;exact⟨⟨k + 1,rfl,by omega,by rw [hr,zbk hlt (by simp only [spB,decide_eq_true_eq];omega)];omega⟩,by simp only [msKp];omega⟩
end Go.Proofs.YtdjgnbkclcjiiaaGreatDoor
end
