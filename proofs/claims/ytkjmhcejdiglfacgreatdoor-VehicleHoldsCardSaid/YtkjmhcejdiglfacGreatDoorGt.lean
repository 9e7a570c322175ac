import Derived.Test.YtkjmhcejdiglfacGreatDoorGw
import Derived.Test.YtkjmhcejdiglfacGreatDoorCe
set_option linter.unusedVariables false
set_option linter.unusedSimpArgs false
set_option maxRecDepth 4000
namespace Go.Proofs.YtkjmhcejdiglfacGreatDoor
open Go Go.RowKit Vc
attribute [local irreducible] Go.Calls
def gI(n:Int)(es:List En):Int:=es.foldl (fun n e=>IntKind.i64.wrap (n + (e.nm.length:Nat))) n
def gO(n:Int)(ss:List Stg):Int:=ss.foldl (fun n s=>gI (IntKind.i64.wrap (n + (s.nm.length:Nat))) (s.es.take 20)) n
def pGreat(v:Vh):Bool:=(v.ss.take 12).any (fun s=>decide (20 < s.es.length)) || (decide (12 < v.ss.length) || (decide (70 < v.dr.length) || decide (gO (v.nm.length:Nat) (v.ss.take 12) > 2000)))
theorem zmda(n:Int){es:List En}{k:Nat}{e:En}(h:es[k]? = some e):gI n (es.take (k + 1))=IntKind.i64.wrap (gI n (es.take k) + (e.nm.length:Nat)):=by
 unfold gI;rw [List.take_add_one,h];simp
theorem znda(n:Int){ss:List Stg}{k:Nat}{s:Stg}(h:ss[k]? = some s):gO n (ss.take (k + 1))=gI (IntKind.i64.wrap (gO n (ss.take k) + (s.nm.length:Nat))) (s.es.take 20):=by
 unfold gO;rw [List.take_add_one,h];simp
def InvGi(n:Int)(es:List En)(L:List Vl):Prop:=∃ k:Nat,L=[.i (gI n (es.take k)),.i k]∧k≤es.length∧k≤20
def InvGo(n:Int)(ss:List Stg)(L:List Vl):Prop:=∃ (b:Bool) (i:Nat),L=[.i (gO n (ss.take i)),.b b,.i i]∧i≤ss.length∧i≤12∧∀ s∈ss.take i,s.es.length≤20
def msGo(n:Nat)(L:List Vl):Nat:=match L with
 | [_,_,.i i]=>n - i.toNat
 | _=>0
theorem zwy{w:World}{v:Vh}(h:VhAt w v)(hz:VhSz v):Calls Tryz.prog 4 #[VHV v] w (Vc.Ret (.bool (pGreat v)) w):=by
 obtain⟨b0,p0,c0,e0,f0,g0⟩:=zed h.st;obtain⟨b1,p1,c1,e1,f1,g1⟩:=zic h.dr;have hno:=zob f0;have hno1:=zob f1;unfold VHV;rw [e0,e1];refine zxf p0 p1 (v.ss.length:Nat) c0 v.yl v.yh (v.dr.length:Nat) c1 v.ax v.be b0 b1 v.nm w _ ?_;rintro x8 rfl;refine⟨InvGo (v.nm.length:Nat) v.ss,msGo v.ss.length,⟨false,0,rfl,Nat.zero_le _,by omega,fun s hs=>by simp at hs⟩, ?_⟩;rintro x9 b2 x10 ⟨b,i,hy,hi,hi12,hA⟩;simp only [List.cons.injEq,Vl.i.injEq,Vl.b.injEq,and_true]at hy;obtain⟨rfl,rfl,rfl⟩:=hy;have hsn:=hz.sn
 have fin:(i=v.ss.length∨i=12)→(0≤((v.ss.length:Nat):Int))∧((¬ (b0=true))∨(((v.ss.length:Nat):Int)=0)) ∧
   ((12 < ((v.ss.length:Nat):Int))→((.bool true:Value)=.bool (pGreat v)))∧(¬ (12 < ((v.ss.length:Nat):Int))→((0≤((v.dr.length:Nat):Int))∧((¬ (b1=true))∨(((v.dr.length:Nat):Int)=0)) ∧
   ((70 < ((v.dr.length:Nat):Int))→((.bool true:Value)=.bool (pGreat v)))∧(¬ (70 < ((v.dr.length:Nat):Int))→((.bool (decide (gO (v.nm.length:Nat) (v.ss.take i) > 2000)):Value)=.bool (pGreat v))))):=fun hend=>by
  refine⟨by omega,hno,iteI (fun h12 => ?_) (fun h12=>⟨by omega,hno1,iteI (fun h70 => ?_) (fun h70 => ?_)⟩)⟩
  ·refine zcj ?_;unfold pGreat
   rw [decide_eq_true (show 12 < v.ss.length by omega)];simp
  ·refine zcj ?_;unfold pGreat
   rw [decide_eq_true (show 70 < v.dr.length by omega)];simp
  ·refine zcj ?_
   have ht:v.ss.take 12=v.ss.take i:=by
    rcases hend with h | h
    ·rw [h,List.take_length,List.take_of_length_le (by omega)]
    ·rw [h]
   unfold pGreat
   rw [decide_eq_false (show ¬ 12 < v.ss.length by omega),decide_eq_false (show ¬ 70 < v.dr.length by omega),ht]
   have:(v.ss.take i).any (fun s=>decide (20 < s.es.length))=false:=by
    rw [List.any_eq_false];intro s hs
    have:=hA s hs
    simp;omega
   rw [this];simp
 refine⟨by omega,hno,iteI (fun hlt=>iteI (fun hlt12 => ?_) (fun hge=>fin (.inr (by omega)))) (fun hge=>fin (.inl (by omega)))⟩;have hi':i < v.ss.length:=by omega
 have hs:v.ss[i]? = some v.ss[i]:=List.getElem?_eq_getElem hi';have hm:v.ss[i]∈v.ss:=List.getElem_mem hi';generalize v.ss[i]=s at hs hm;obtain⟨k0,_,_,_,_,k5⟩:=g0 i s hs;obtain⟨z1,z2,z3⟩:=hz.st s hm;obtain⟨b3,p2,c3,e3,f3,g3⟩:=zfd (h.es s hm);have hno3:=zob f3;have hnil:¬ b0=true:=fun hb=>by have:=f0 hb;omega
 have hcell:w.cell? ⟨p0.1,p0.2 + i * 6 + 5,none⟩=some ((if b3=true then .slice none 0 0 else .slice (some (Vc.qad p2 (Int.toNat ((s.es.length:Nat):Int)) (Int.toNat c3))) (Int.toNat ((s.es.length:Nat):Int)) (Int.toNat c3):Value)):=by rw [k5,e3]
 simp only [Int.toNat_natCast]at hcell ⊢;refine⟨hnil,by omega,by omega,s.nm,k0, ?_⟩;rintro x11 rfl x12 hx12;refine⟨InvGi x12 s.es,msX 21,⟨0,rfl,by omega,by omega⟩, ?_⟩;rintro x13 x14 ⟨k,hy2,hk,hk20⟩;simp only [List.cons.injEq,Vl.i.injEq,and_true]at hy2;obtain⟨rfl,rfl⟩:=hy2
 have fin2:(k=s.es.length∨k=20)→(¬ (b0=true))∧(0≤((i:Nat):Int))∧(((i:Nat):Int) < ((v.ss.length:Nat):Int)) ∧
   ∃ (b4:Bool) (p3:Nat × Nat) (x17 x18:Int),w.cell? ⟨p0.1,p0.2 + i * 6 + 5,none⟩=some ((if b4=true then .slice none 0 0 else .slice (some (Vc.qad p3 (Int.toNat x17) (Int.toNat x18))) (Int.toNat x17) (Int.toNat x18):Value)) ∧
   (0≤x17)∧((¬ (b4=true))∨(x17=0))∧((20 < x17)→((.bool true:Value)=.bool (pGreat v)))∧(¬ (20 < x17)→(
   ∀ x19:Int,x19=IntKind.i64.wrap (((i:Nat):Int) + 1) →
   InvGo (v.nm.length:Nat) v.ss [.i (gI x12 (s.es.take k)),.b b2,.i x19]∧msGo v.ss.length [.i (gI x12 (s.es.take k)),.b b2,.i x19] < msGo v.ss.length [.i (gO (v.nm.length:Nat) (v.ss.take i)),.b b2,.i ((i:Nat):Int)])):=fun hend=>by
  refine⟨hnil,by omega,by omega,b3,p2,(s.es.length:Nat),c3,hcell,by omega,hno3,iteI (fun h20 => ?_) (fun h20 => ?_)⟩
  ·refine zcj ?_;unfold pGreat
   have:(v.ss.take 12).any (fun s=>decide (20 < s.es.length))=true:=by
    rw [List.any_eq_true];exact⟨s,List.mem_of_getElem? (show (v.ss.take 12)[i]? = some s by rw [List.getElem?_take_of_lt (by omega),hs]),by simp;omega⟩
   rw [this];rfl
  ·rintro x19 rfl;rw [zj (by omega)];refine⟨⟨b2,i + 1, ?_,by omega,by omega,fun s' hs' => ?_⟩,by simp only [msGo];omega⟩
   ·rw [znda _ hs,← hx12]
    have:s.es.take k=s.es.take 20:=by
     rcases hend with h | h
     ·rw [h,List.take_length,List.take_of_length_le (by omega)]
     ·rw [h]
    rw [this];rfl
   ·rw [List.take_add_one,hs]at hs';rcases List.mem_append.1 hs' with hs' | hs'
    ·exact hA s' hs'
    ·simp only [Option.toList_some,List.mem_singleton]at hs';subst hs';omega
 simp only [Int.toNat_natCast];refine⟨hnil,by omega,by omega,b3,p2,(s.es.length:Nat),c3,hcell,by omega,hno3,iteI (fun hkl=>iteI (fun hk2 => ?_) (fun hk2=>fin2 (.inr (by omega)))) (fun hkl=>fin2 (.inl (by omega)))⟩;have hkl':k < s.es.length:=by omega
 have he:s.es[k]? = some s.es[k]:=List.getElem?_eq_getElem hkl';generalize s.es[k]=e at he;obtain⟨q0,_⟩:=g3 k e he;have hnil3:¬ b3=true:=fun hb=>by have:=f3 hb;omega
 refine⟨hnil,by omega,by omega,b3,p2,(s.es.length:Nat),c3,hcell,hnil3,by omega,by omega,e.nm,q0, ?_⟩;rintro x19 rfl x20 rfl x21 rfl;rw [← zmda x12 he,zj (by omega)];exact⟨⟨k + 1,rfl,by omega,by omega⟩,by simp only [msX];omega⟩
end Go.Proofs.YtkjmhcejdiglfacGreatDoor
