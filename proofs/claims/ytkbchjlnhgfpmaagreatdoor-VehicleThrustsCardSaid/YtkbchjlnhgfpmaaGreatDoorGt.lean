import Derived.Test.YtkbchjlnhgfpmaaGreatDoorGw
import Derived.Test.YtkbchjlnhgfpmaaGreatDoorCe
set_option linter.unusedVariables false
set_option linter.unusedSimpArgs false
set_option maxRecDepth 4000
namespace Go.Proofs.YtkbchjlnhgfpmaaGreatDoor
open Go Go.RowKit Vc
attribute [local irreducible] Go.Calls
def gI(n:Int)(es:List En):Int:=es.foldl (λn e=>IntKind.i64.wrap (n+(e.nm.length:Nat))) n
def gO(n:Int)(ss:List f_):Int:=ss.foldl (λn s=>gI (IntKind.i64.wrap (n+(s.nm.length:Nat))) (s.es.take 20)) n
def iJ(v:Vh):Bool:=(v.ss.take 12).any (λs=>decide (20<s.es.length)) || (decide (12<v.ss.length) || (decide (70<v.dr.length) || decide (gO (v.nm.length:Nat) (v.ss.take 12) > 2000)))
theorem Q7(n:Int){es:List En}{k:Nat}{e:En}(h:es[k]? = some e):gI n (es.take (k+1))=IntKind.i64.wrap (gI n (es.take k)+(e.nm.length:Nat)):=by
 unfold gI;rw [List.take_add_one,h];simp
theorem Q8(n:Int){ss:List f_}{k:Nat}{s:f_}(h:ss[k]? = some s):gO n (ss.take (k+1))=gI (IntKind.i64.wrap (gO n (ss.take k)+(s.nm.length:Nat))) (s.es.take 20):=by
 unfold gO;rw [List.take_add_one,h];simp
def H3(n:Int)(es:List En)(L:List Vl):Prop:=∃k:Nat,L=[.i (gI n (es.take k)),.i k]/\k<=es.length/\k<=20
def BJ(n:Int)(ss:List f_)(L:List Vl):Prop:=∃(b:Bool) (i:Nat),L=[.i (gO n (ss.take i)),.b b,.i i]/\i<=ss.length/\i<=12/\∀s∈ss.take i,s.es.length<=20
def Au(n:Nat)(L:List Vl):Nat:=match L with
 | [_,_,.i i]=>n-i.toNat
 |_=>0
theorem Q9{w:World}{v:Vh}(h:iH w v)(hz:j9 v):Calls Tryz.prog 4 #[gY v] w (Vc.aI (.bool (iJ v)) w):=by
 obtain⟨b0,p0,c0,e0,f0,g0⟩:=rP h.st;obtain⟨b1,p1,c1,e1,f1,g1⟩:=rO h.dr;have gR:=zu f0;have Am:=zu f1;unfold gY;rw [e0,e1];refine zwh p0 p1 (v.ss.length:Nat) c0 v.yl v.yh (v.dr.length:Nat) c1 v.ax v.be b0 b1 v.nm w _ ?_;rintro x8 rfl;refine⟨BJ (v.nm.length:Nat) v.ss,Au v.ss.length,⟨false,0,rfl,Nat.zero_le _,by omega,λs hs=>by simp at hs⟩, ?_⟩;rintro x9 b2 az ⟨b,i,hy,hi,aaf,hA⟩;simp only [List.cons.injEq,Vl.i.injEq,Vl.b.injEq,and_true]at hy;obtain⟨rfl,rfl,rfl⟩:=hy;have mY:=hz.sn
 have fin:(i=v.ss.length\/i=12)->(0<=((v.ss.length:Nat):Int))/\((¬(b0=true))\/(((v.ss.length:Nat):Int)=0)) /\
   ((12<((v.ss.length:Nat):Int))->((.bool true:Value)=.bool (iJ v)))/\(¬(12<((v.ss.length:Nat):Int))->((0<=((v.dr.length:Nat):Int))/\((¬(b1=true))\/(((v.dr.length:Nat):Int)=0)) /\
   ((70<((v.dr.length:Nat):Int))->((.bool true:Value)=.bool (iJ v)))/\(¬(70<((v.dr.length:Nat):Int))->((.bool (decide (gO (v.nm.length:Nat) (v.ss.take i) > 2000)):Value)=.bool (iJ v))))):=λDv=>by
  refine⟨by omega,gR,ae (λxJ => ?_) (λxJ=>⟨by omega,Am,ae (λh70 => ?_) (λh70 => ?_)⟩)⟩
  ·refine nV ?_;unfold iJ
   rw [decide_eq_true (show 12<v.ss.length by omega)];simp
  ·refine nV ?_;unfold iJ
   rw [decide_eq_true (show 70<v.dr.length by omega)];simp
  ·refine nV ?_
   have ht:v.ss.take 12=v.ss.take i:=by
    rcases Dv with h|h
    ·rw [h,List.take_length,List.take_of_length_le (by omega)]
    ·rw [h]
   unfold iJ
   rw [decide_eq_false (show ¬12<v.ss.length by omega),decide_eq_false (show ¬70<v.dr.length by omega),ht]
   have:(v.ss.take i).any (λs=>decide (20<s.es.length))=false:=by
    rw [List.any_eq_false];intro s hs
    have:=hA s hs
    simp;omega
   rw [this];simp
 refine⟨by omega,gR,ae (λct=>ae (λV3 => ?_) (λkq=>fin (.inr (by omega)))) (λkq=>fin (.inl (by omega)))⟩;have od:i<v.ss.length:=by omega
 have hs:v.ss[i]? = some v.ss[i]:=List.getElem?_eq_getElem od;have hm:v.ss[i]∈v.ss:=List.getElem_mem od;generalize v.ss[i]=s at hs hm;obtain⟨k0,_,_,_,_,k5⟩:=g0 i s hs;obtain⟨z1,z2,z3⟩:=hz.st s hm;obtain⟨b3,p2,c3,e3,f3,g3⟩:=tD (h.es s hm);have xX:=zu f3;have cI:¬b0=true:=λhb=>by have:=f0 hb;omega
 have dB:w.cell? ⟨p0.1,p0.2+i*6+5,none⟩=some ((if b3=true then .slice none 0 0 else .slice (some (Vc.iK p2 (Int.toNat ((s.es.length:Nat):Int)) c3.toNat)) (Int.toNat ((s.es.length:Nat):Int)) c3.toNat:Value)):=by (try unfold Vc.rd);rw [k5,e3]
 simp only [Int.toNat_natCast]at dB ⊢;refine⟨cI,by omega,by omega,s.nm,k0, ?_⟩;rintro aA rfl aH Q_;refine⟨H3 aH s.es,uD 21,⟨0,rfl,by omega,by omega⟩, ?_⟩;rintro aP aL ⟨k,r9,hk,aag⟩;simp only [List.cons.injEq,Vl.i.injEq,and_true]at r9;obtain⟨rfl,rfl⟩:=r9
 have H4:(k=s.es.length\/k=20)->(¬(b0=true))/\(0<=((i:Nat):Int))/\(((i:Nat):Int)<((v.ss.length:Nat):Int)) /\
   ∃(b4:Bool) (p3:Nat × Nat) (aZ aX:Int),w.cell? ⟨p0.1,p0.2+i*6+5,none⟩=some ((if b4=true then .slice none 0 0 else .slice (some (Vc.iK p3 aZ.toNat aX.toNat)) aZ.toNat aX.toNat:Value)) /\
   (0<=aZ)/\((¬(b4=true))\/(aZ=0))/\((20<aZ)->((.bool true:Value)=.bool (iJ v)))/\(¬(20<aZ)->(
   ∀bc:Int,bc=IntKind.i64.wrap (((i:Nat):Int)+1) ->
   BJ (v.nm.length:Nat) v.ss [.i (gI aH (s.es.take k)),.b b2,.i bc]/\Au v.ss.length [.i (gI aH (s.es.take k)),.b b2,.i bc]<Au v.ss.length [.i (gO (v.nm.length:Nat) (v.ss.take i)),.b b2,.i ((i:Nat):Int)])):=λDv=>by
  refine⟨cI,by omega,by omega,b3,p2,(s.es.length:Nat),c3,dB,by omega,xX,ae (λh20 => ?_) (λh20 => ?_)⟩
  ·refine nV ?_;unfold iJ
   have:(v.ss.take 12).any (λs=>decide (20<s.es.length))=true:=by
    rw [List.any_eq_true];exact⟨s,List.mem_of_getElem? (show (v.ss.take 12)[i]? = some s by rw [List.getElem?_take_of_lt (by omega),hs]),by simp;omega⟩
   rw [this];rfl
  ·rintro bc rfl;rw [zb (by omega)];refine⟨⟨b2,i+1, ?_,by omega,by omega,λs' jv => ?_⟩,by simp only [Au];omega⟩
   ·rw [Q8 _ hs,<-Q_]
    have:s.es.take k=s.es.take 20:=by
     rcases Dv with h|h
     ·rw [h,List.take_length,List.take_of_length_le (by omega)]
     ·rw [h]
    rw [this];rfl
   ·rw [List.take_add_one,hs]at jv;rcases List.mem_append.1 jv with jv|jv
    ·exact hA s' jv
    ·simp only [Option.toList_some,List.mem_singleton]at jv;subst jv;omega
 simp only [Int.toNat_natCast];refine⟨cI,by omega,by omega,b3,p2,(s.es.length:Nat),c3,dB,by omega,xX,ae (λj8=>ae (λjW => ?_) (λjW=>H4 (.inr (by omega)))) (λj8=>H4 (.inl (by omega)))⟩;have Di:k<s.es.length:=by omega
 have he:s.es[k]? = some s.es[k]:=List.getElem?_eq_getElem Di;generalize s.es[k]=e at he;obtain⟨q0,_⟩:=g3 k e he;have uE:¬b3=true:=λhb=>by have:=f3 hb;omega
 refine⟨cI,by omega,by omega,b3,p2,(s.es.length:Nat),c3,dB,uE,by omega,by omega,e.nm,q0, ?_⟩;rintro bc rfl bn rfl bz rfl;rw [<-Q7 aH he,zb (by omega)];exact⟨⟨k+1,rfl,by omega,by omega⟩,by simp only [uD];omega⟩
end Go.Proofs.YtkbchjlnhgfpmaaGreatDoor
