import Derived.Test.YtkbchjlnhgfpmaaGreatDoorFvA
import Derived.Test.YtkbchjlnhgfpmaaGreatDoorFvG3
import Derived.WalkKit
import Derived.ProofKit
import Derived.OpenShut
import Derived.Lib.SmallJoins
set_option linter.unusedVariables false
set_option linter.unusedSimpArgs false
namespace Go.Proofs.YtkbchjlnhgfpmaaGreatDoor
open Go Go.RowKit Go.ChangeShapes Go.WideShapes Go.ChangeAt Go.Joins Ul Vc
def ky(n:Int):List Vc.Vl->Nat
 |_ :: .i x::_=>(n-x).toNat
 |_=>0
theorem uG(i:Nat)(h:i<1000000):IntKind.i64.wrap ((i:Int)+1)=((i+1:Nat):Int):=by rw [Vc.zb (by omega)];omega
theorem H9(j:Nat)(h:j<1000000):IntKind.i64.wrap (((j+1:Nat):Int)-1)=(j:Int):=by rw [Vc.zb (by omega)];omega
section
variable {H:Type} {enc:TypeId × Value->H} {P:Program} {w:World} {base:Nat} {sp:Nat->Bool} {held:Bool}
end
section
variable {H:Type} {enc:TypeId × Value->H} {w:World} {base:Nat} {sp:Nat->Bool} {held:Bool}
end
end Go.Proofs.YtkbchjlnhgfpmaaGreatDoor
set_option linter.unusedVariables false
namespace Go.Proofs.YtkbchjlnhgfpmaaGreatDoor
open Go Go.RowKit Ul Vc
attribute [local irreducible] Go.Calls
abbrev Tp:=Int × Int × Int
def pc(p:Tp):List Value := [.int .i64 p.1,.int .i64 p.2.1,.int .i64 p.2.2]
theorem Aw(p:Tp):(pc p).length=3:=rfl
def yI(w:World)(v:Value)(l:List Tp):Prop:=e_ w v 3 (l.flatMap pc)
theorem Dz{w:World}{v:Value}{l:List Tp}(h:yI w v l):∃(b0:Bool) (p0:Nat × Nat) (x1:Int),v=(if b0=true then .slice none 0 0 else .slice (some (Vc.iK p0 (Int.toNat (l.length:Int)) x1.toNat)) (Int.toNat (l.length:Int)) x1.toNat)/\(b0=true->l.length=0) /\
  ∀(i:Nat) (p:Tp),l[i]? = some p->w.cell? ⟨p0.1,p0.2+i*3+0,none⟩=some (.int .i64 p.1)/\w.cell? ⟨p0.1,p0.2+i*3+1,none⟩=some (.int .i64 p.2.1)/\w.cell? ⟨p0.1,p0.2+i*3+2,none⟩=some (.int .i64 p.2.2):=by
 obtain⟨b0,p0,x1,h1,h2,h3⟩:=G9 h (by decide) (vQ Aw l);refine⟨b0,p0,x1,h1,h2,λi p hp => ?_⟩;simp only [Nat.add_assoc];exact⟨h3 (i*3+0) _ (zm Aw hp (by decide)),h3 (i*3+1) _ (zm Aw hp (by decide)),h3 (i*3+2) _ (zm Aw hp (by decide))⟩
def dz(x:Int):Bool:=decide (-2305843009213693952<=x) && decide (x<=2305843009213693952)
def cm(l:List Tp)(i:Nat):Bool :=
  match l[i]? with
  |none=>true
  |some p=>dz p.1 && dz p.2.1 && dz p.2.2 && decide (p.2.1<=p.2.2) && (match i with
    |0=>true
    |j+1=>match l[j]? with
      |some q=>decide (q.1<p.1)
      |none=>true)
def kJ(l:List Tp):Int:=if l.length=0\/64<l.length then 2 else if (List.range l.length).all (cm l)=true then 0 else 2
theorem Ka{l:List Tp}(h:l.length=0\/64<l.length):kJ l=2:=if_pos h
theorem BM{l:List Tp}{i:Nat}(hi:i<l.length)(h:cm l i=false):kJ l=2:=by
 unfold kJ;split
 ·rfl
 ·rw [if_neg];intro ha;rw [List.all_eq_true.1 ha i (List.mem_range.2 hi)]at h;cases h
theorem V4{l:List Tp}(h1:¬l.length=0)(h2:¬64<l.length)(h:∀j,j<l.length->cm l j=true):kJ l=0:=by
 unfold kJ;rw [if_neg (by omega),if_pos (List.all_eq_true.2 λj hj=>h j (List.mem_range.1 hj))]
theorem DA{l:List Tp}(h:kJ l=0):0<l.length/\l.length<=64/\∀j,j<l.length->cm l j=true:=by
 unfold kJ at h;split at h
 ·cases h
 ·split at h
  ·rename_i h1 h2;exact⟨by omega,by omega,λj hj=>List.all_eq_true.1 h2 j (List.mem_range.2 hj)⟩
  ·cases h
theorem Ro(n:Int):Eh (-2305843009213693952) 2305843009213693952 n=dz n:=by
 unfold Eh dz ok;simp
theorem zgx(a b:Int):within a b (-2305843009213693952) 2305843009213693952=(dz a && dz b && decide (a<=b)):=by
 rw [Bool.eq_iff_iff];simp only [within,dz,ok,Bool.and_eq_true,decide_eq_true_eq];omega
theorem Rp(x:Int)(w:World):Calls Tryz.prog 127 #[.int .i64 x] w (Vc.aI (.bool (dz x)) w):=by
 refine ZD x w _ ?_;refine ae (λh => ?_) (λh => ?_)
 ·unfold dz;simp [h]
 ·unfold dz;simp [h]
theorem Rq{w:World}{v:Value}{l:List Tp}(h:yI w v l):Calls Tryz.prog 60 #[v] w (Vc.aI (.int .i64 (kJ l)) w):=by
 obtain⟨b0,p0,x1,rfl,hb,hc⟩:=Dz h;clear h
 have nb:(¬(b0=true))\/((l.length:Int)=0):=by
  by_cases ff:b0=true
  ·right;have:=hb ff;omega
  ·left;exact ff
 refine Zh p0 (l.length:Int) x1 b0 w _ ?_;refine⟨by omega,nb, ?_⟩;refine ae (λh0 => ?_) (λh0 => ?_)
 ·rw [Ka (.inl (by omega))]
 ·refine⟨by omega,nb, ?_⟩;refine ae (λh1 => ?_) (λh1 => ?_)
  ·rw [Ka (.inr (by omega))]
  ·refine⟨by omega,nb, ?_⟩;refine⟨λy=>∃(x:Int) (i:Nat),i<=l.length/\(∀j,j<i->cm l j=true)/\y=[.i x,.i (i:Int)],ky (l.length:Int),⟨0,0,by omega,λj hj=>by omega,rfl⟩, ?_⟩;rintro x2 x3 ⟨x,i,hi,hg,hy⟩;simp only [List.cons.injEq,Vc.Vl.i.injEq,and_true]at hy;obtain⟨rfl,rfl⟩:=hy;refine ae (λh2 => ?_) (λh2 => ?_)
   ·have ct:i<l.length:=by omega
    have hp:=List.getElem?_eq_getElem ct;generalize l[i]=p at hp;obtain⟨c0,c1,c2⟩:=hc i p hp;have gT:¬(b0=true):=λff=>by have:=hb ff;omega
    refine⟨gT,by omega,by omega,_,c0,_,c1,_,c2, ?_⟩
    (repeat apply Exists.intro);refine And.intro (λ_ _=>GB _ _ _ _) ?_
    rw [Ro];refine ae (λa1 => ?_) (λa1 => ?_)
    ·(repeat apply Exists.intro);refine And.intro (λ_ _=>N0 _ _ _ _ _) ?_
     rw [zgx];refine ae (λa2 => ?_) (λa2 => ?_)
     ·simp only [Bool.and_eq_true]at a2;refine ae (λa3 => ?_) (λa3 => ?_)
      ·rintro _ rfl;obtain⟨j,rfl⟩:∃j,i=j+1:=⟨i-1,by omega⟩;rw [H9 j (by omega)];have hq:=List.getElem?_eq_getElem (show j<l.length by omega);generalize l[j]=q at hq;refine⟨gT,by omega,by omega,_,(hc j q hq).1, ?_⟩;refine ae (λa4 => ?_) (λa4 => ?_)
       ·rw [BM ct (by simp only [cm,hp,hq];simp;omega)]
       ·rintro _ rfl
        have n7:cm l (j+1)=true:=by
         simp only [cm,hp,hq,a1,a2.1.1,a2.1.2,a2.2,Bool.and_true,Bool.true_and];simp;omega
        have ew:=uG (j+1) (by omega);rw [ew];generalize y_:j+1=i at *;refine⟨⟨_,i+1,by omega,λj hj => ?_,rfl⟩,by simp only [ky];omega⟩;by_cases rZ:j=i
        ·subst rZ;exact n7
        ·exact hg j (by omega)
      ·rintro _ rfl;obtain rfl:i=0:=by omega
       have n7:cm l 0=true:=by
        simp only [cm,hp,a1,a2.1.1,a2.1.2,a2.2,Bool.and_true,Bool.true_and]
       rw [uG 0 (by omega)];generalize y_:0=i at *;refine⟨⟨_,i+1,by omega,λj hj => ?_,rfl⟩,by simp only [ky];omega⟩;by_cases rZ:j=i
       ·subst rZ;exact n7
       ·exact hg j (by omega)
     ·rw [BM ct (by
       cases i with
       |zero=>simp only [cm,hp];simp at a2 ⊢;intro g1 g2 g3;exact a2 g2 g3
       |succ j=>simp only [cm,hp];simp at a2 ⊢;intro g1 g2 g3 g4;have:=a2 g2 g3;omega)]
    ·rw [BM ct (by
      have:dz p.1=false:=by simpa using a1
      cases i<;>simp [cm,hp,this])]
   ·rw [V4 (by omega) (by omega) λj hj=>hg j (by omega)]
theorem Rr{w:World}{v:Value}{l:List Tp}(h:yI w v l):Calls Tryz.prog 67 #[v] w (Vc.aI (.int .i64 (kJ l)) w):=by
 obtain⟨b0,p0,x1,rfl,hb,hc⟩:=Dz h;clear h
 have nb:(¬(b0=true))\/((l.length:Int)=0):=by
  by_cases ff:b0=true
  ·right;have:=hb ff;omega
  ·left;exact ff
 refine ZE p0 (l.length:Int) x1 b0 w _ ?_;refine⟨by omega,nb, ?_⟩;refine ae (λh0 => ?_) (λh0 => ?_)
 ·rw [Ka (.inl (by omega))]
 ·refine⟨by omega,nb, ?_⟩;refine ae (λh1 => ?_) (λh1 => ?_)
  ·rw [Ka (.inr (by omega))]
  ·refine⟨λy=>∃(x:Int) (i:Nat),i<=l.length/\(∀j,j<i->cm l j=true)/\y=[.i x,.i (i:Int)],ky (l.length:Int),⟨0,0,by omega,λj hj=>by omega,rfl⟩, ?_⟩;rintro x2 x3 ⟨x,i,hi,hg,hy⟩;simp only [List.cons.injEq,Vc.Vl.i.injEq,and_true]at hy;obtain⟨rfl,rfl⟩:=hy;refine⟨by omega,nb, ?_⟩;refine ae (λh2 => ?_) (λh2 => ?_)
   ·have ct:i<l.length:=by omega
    have hp:=List.getElem?_eq_getElem ct;generalize l[i]=p at hp;obtain⟨c0,c1,c2⟩:=hc i p hp;have gT:¬(b0=true):=λff=>by have:=hb ff;omega
    refine⟨gT,by omega,by omega,_,c0, ?_⟩
    (repeat apply Exists.intro);refine And.intro (λ_ _=>Rp _ _) ?_
    refine⟨gT,by omega,by omega,_,c1, ?_⟩
    (repeat apply Exists.intro);refine And.intro (λ_ _=>Rp _ _) ?_
    refine⟨gT,by omega,by omega,_,c2, ?_⟩
    (repeat apply Exists.intro);refine And.intro (λ_ _=>Rp _ _) ?_
    refine ae (λa1 => ?_) (λa1 => ?_)
    ·refine ae (λa2 => ?_) (λa2 => ?_)
     ·refine ae (λa3 => ?_) (λa3 => ?_)
      ·refine⟨gT,by omega,by omega,_,c1,_,c2, ?_⟩
       (repeat apply Exists.intro);refine And.intro (λ_ _=>U5 _ _ _) ?_
       have yZ:sG p.2.1 p.2.2=0↔p.2.1<=p.2.2:=by
        simp only [dz,Bool.and_eq_true,decide_eq_true_eq]at a2 a3;unfold sG ok;simp;omega
       refine ae (λa4 => ?_) (λa4 => ?_)
       ·have a4':=yZ.1 a4;refine ae (λa5 => ?_) (λa5 => ?_)
        ·rintro _ rfl;obtain⟨j,rfl⟩:∃j,i=j+1:=⟨i-1,by omega⟩;rw [H9 j (by omega)];have hq:=List.getElem?_eq_getElem (show j<l.length by omega);generalize l[j]=q at hq;refine⟨gT,by omega,by omega,_,(hc j q hq).1,gT,by omega,by omega,_,c0, ?_⟩;refine ae (λa6 => ?_) (λa6 => ?_)
         ·rw [BM ct (by simp only [cm,hp,hq];simp;omega)]
         ·rintro _ rfl
          have n7:cm l (j+1)=true:=by
           simp only [cm,hp,hq,a1,a2,a3,Bool.and_true,Bool.true_and];simp;omega
          have ew:=uG (j+1) (by omega);rw [ew];generalize y_:j+1=i at *;refine⟨⟨_,i+1,by omega,λj hj => ?_,rfl⟩,by simp only [ky];omega⟩;by_cases rZ:j=i
          ·subst rZ;exact n7
          ·exact hg j (by omega)
        ·rintro _ rfl;obtain rfl:i=0:=by omega
         have n7:cm l 0=true:=by
          simp only [cm,hp,a1,a2,a3,Bool.and_true,Bool.true_and];simpa using a4'
         rw [uG 0 (by omega)];generalize y_:0=i at *;refine⟨⟨_,i+1,by omega,λj hj => ?_,rfl⟩,by simp only [ky];omega⟩;by_cases rZ:j=i
         ·subst rZ;exact n7
         ·exact hg j (by omega)
       ·rw [BM ct (by
         have:¬p.2.1<=p.2.2:=λhx=>a4 (yZ.2 hx)
         cases i<;>simp only [cm,hp]<;>simp<;>intros<;>omega)]
      ·rw [BM ct (by
        have:dz p.2.2=false:=by simpa using a3
        cases i<;>simp [cm,hp,this])]
     ·rw [BM ct (by
       have:dz p.2.1=false:=by simpa using a2
       cases i<;>simp [cm,hp,this])]
    ·rw [BM ct (by
      have:dz p.1=false:=by simpa using a1
      cases i<;>simp [cm,hp,this])]
   ·rw [V4 (by omega) (by omega) λj hj=>hg j (by omega)]
end Go.Proofs.YtkbchjlnhgfpmaaGreatDoor
set_option linter.unusedVariables false
namespace Go.Proofs.YtkbchjlnhgfpmaaGreatDoor
open Go Go.RowKit Ul Vc
attribute [local irreducible] Go.Calls
def bW(up:Bool)(p:Tp):Int:=if up then p.2.2 else p.2.1
def cV(l:List Tp)(up:Bool)(i:Nat):Int:=((l[i]?).map (bW up)).getD 0
def ou(l:List Tp)(i:Nat):Int:=((l[i]?).map (·.1)).getD 0
def ahead:List Tp->Int->Nat
 | [],_=>0
 |p::l,x=>if p.1<x then ahead l x+1 else 0
theorem BN:∀{l:List Tp} {x:Int} {i:Nat},i<=l.length->(∀j p,j<i->l[j]? = some p->p.1<x)->(∀p,l[i]? = some p->¬p.1<x)->ahead l x=i
  | [],x,i,h,_,_=>by simp at h;simp [ahead,h]
  |p::l,x,0,_,_,h3=>by simp only [ahead];rw [if_neg (h3 p rfl)]
  |p::l,x,i+1,h1,h2,h3=>by
    simp only [ahead];rw [if_pos (h2 0 p (by omega) rfl),BN (l:=l) (i:=i) (by simpa using h1) (λj q hj hq=>h2 (j+1) q (by omega) (by simpa using hq)) (λq hq=>h3 q (by simpa using hq))]
def n8(b:Int):Bool × Int:=(decide (b<0),aF b)
theorem Ax(b:Int):jf (n8 b)=b:=by
 unfold jf n8 sv aF;by_cases h:b<0<;>simp [h]
def ya(a b f t x:Int):Bool × Int :=
  (Bi (decide (a<0)) (aF a) (decide (b-a<0) != decide (x-f<0)) (rL (decide (b-a<0) != decide (x-f<0)) (aF (b-a)*aF (x-f)) (aF (t-f))),
   yF (decide (a<0)) (aF a) (decide (b-a<0) != decide (x-f<0)) (rL (decide (b-a<0) != decide (x-f<0)) (aF (b-a)*aF (x-f)) (aF (t-f))))
def yb(a b f t x:Int):Bool × Int :=
  (Bi (decide (a<0)) (aF a) (decide (b-a<0) != decide (x-f<0)) (rM (decide (b-a<0) != decide (x-f<0)) (aF (b-a)*aF (x-f)) (aF (t-f))),
   yF (decide (a<0)) (aF a) (decide (b-a<0) != decide (x-f<0)) (rM (decide (b-a<0) != decide (x-f<0)) (aF (b-a)*aF (x-f)) (aF (t-f))))
theorem Kb{y:Int}(h:0<y):aF y=y:=by unfold aF;rw [if_neg (by omega)]
theorem Rs(a b f t x:Int)(h:0<t-f):jf (ya a b f t x)=a+fl ((b-a)*(x-f)) (t-f)/\jf (yb a b f t x)=a+ce ((b-a)*(x-f)) (t-f):=by
 have e:=GJ (b-a) (x-f);have ea:=Ax a;unfold jf n8 at ea;simp only at ea;unfold jf ya yb;simp only;rw [GQ,GQ,(vk _ _ _).1,(vk _ _ _).2,Kb h,ea];exact⟨by rw [<-e],by rw [<-e]⟩
def cF(l:List Tp)(up:Bool)(x:Int):Int × Int :=
  if ahead l x=0 then (cV l up 0,cV l up 0)
  else if ahead l x=l.length then (cV l up (l.length-1),cV l up (l.length-1))
  else (cV l up (ahead l x - 1) + fl ((cV l up (ahead l x) - cV l up (ahead l x - 1)) * (x - ou l (ahead l x - 1))) (ou l (ahead l x) - ou l (ahead l x - 1)),
        cV l up (ahead l x-1)+ce ((cV l up (ahead l x)-cV l up (ahead l x-1))*(x-ou l (ahead l x-1))) (ou l (ahead l x)-ou l (ahead l x-1)))
def eE(l:List Tp)(up:Bool)(x:Int):Bool × Int :=
 if ahead l x=0 then n8 (cV l up 0)
 else if ahead l x=l.length then n8 (cV l up (l.length-1))
 else if ou l (ahead l x)=x then n8 (cV l up (ahead l x))
 else ya (cV l up (ahead l x-1)) (cV l up (ahead l x)) (ou l (ahead l x-1)) (ou l (ahead l x)) x
def eU(l:List Tp)(up:Bool)(x:Int):Bool × Int :=
 if ahead l x=0 then n8 (cV l up 0)
 else if ahead l x=l.length then n8 (cV l up (l.length-1))
 else if ou l (ahead l x)=x then n8 (cV l up (ahead l x))
 else yb (cV l up (ahead l x-1)) (cV l up (ahead l x)) (ou l (ahead l x-1)) (ou l (ahead l x)) x
theorem Rt{x:Int}:dz x=true ↔ -2305843009213693952<=x/\x<=2305843009213693952:=by unfold dz;simp
theorem zh{l:List Tp}{i:Nat}{p:Tp}(h:cm l i=true)(hp:l[i]? = some p) :
  (-2305843009213693952<=p.1/\p.1<=2305843009213693952)/\(-2305843009213693952<=p.2.1/\p.2.1<=2305843009213693952)/\(-2305843009213693952<=p.2.2/\p.2.2<=2305843009213693952)/\p.2.1<=p.2.2:=by
 unfold cm at h;rw [hp]at h;simp only [Bool.and_eq_true,decide_eq_true_eq,Rt]at h;exact⟨h.1.1.1.1,h.1.1.1.2,h.1.1.2,h.1.2⟩
theorem H_{l:List Tp}{j:Nat}{p q:Tp}(h:cm l (j+1)=true)(hp:l[j+1]? = some p)(hq:l[j]? = some q):q.1<p.1:=by
 unfold cm at h;rw [hp]at h;simp only [hq,Bool.and_eq_true,decide_eq_true_eq]at h;exact h.2
theorem zi{l:List Tp}{up:Bool}{i:Nat}{p:Tp}(h:l[i]? = some p):cV l up i=bW up p:=by unfold cV;rw [h];rfl
theorem qM{l:List Tp}{i:Nat}{p:Tp}(h:l[i]? = some p):ou l i=p.1:=by unfold ou;rw [h];rfl
theorem tE{up:Bool}{p:Tp}(h1:-2305843009213693952<=p.2.1/\p.2.1<=2305843009213693952)(h2:-2305843009213693952<=p.2.2/\p.2.2<=2305843009213693952):-2305843009213693952<=bW up p/\bW up p<=2305843009213693952:=by
 unfold bW;split<;>assumption
theorem Ru(m d:Int)(h:0<d):fl (m*d) d=m/\ce (m*d) d=m:=by
 unfold fl ce;rw [<-Int.neg_mul,Int.mul_ediv_cancel _ (by omega),Int.mul_ediv_cancel _ (by omega)];omega
theorem Ay{l:List Tp}(hk:kJ l=0)(up:Bool)(x:Int):jf (eE l up x)=(cF l up x).1/\jf (eU l up x)=(cF l up x).2:=by
 obtain⟨k0,k1,kg⟩:=DA hk;unfold eE eU cF;by_cases h0:ahead l x=0
 ·simp only [if_pos h0,Ax,and_self]
 ·simp only [if_neg h0];by_cases h1:ahead l x=l.length
  ·simp only [if_pos h1,Ax,and_self]
  ·simp only [if_neg h1]
   have hle:∀(l:List Tp),ahead l x<=l.length:=by
    intro l
    induction l with
    |nil=>simp [ahead]
    |cons p l ih=>simp only [ahead];split<;>simp<;>omega
   have hl:=hle l;obtain⟨j,hj⟩:∃j,ahead l x=j+1:=⟨ahead l x-1,by omega⟩;rw [hj]at h1 hl ⊢;have hp:=List.getElem?_eq_getElem (show j+1<l.length by omega);have hq:=List.getElem?_eq_getElem (show j<l.length by omega);generalize l[j+1]=p at hp;generalize l[j]=q at hq;have Az:=H_ (kg (j+1) (by omega)) hp hq;simp only [Nat.add_sub_cancel,zi hp,zi hq,qM hp,qM hq];by_cases h2:p.1=x
   ·simp only [if_pos h2,Ax];subst h2;obtain⟨e1,e2⟩:=Ru (bW up p-bW up q) (p.1-q.1) (by omega);rw [e1,e2];omega
   ·simp only [if_neg h2];exact Rs _ _ _ _ _ (by omega)
theorem H'(u v:Int)(hu:-4611686018427387904<=u/\u<=4611686018427387904)(hv:0<=v/\v<=4611686018427387904):-21267647932558653966460912964485513216<=u*v/\u*v<=21267647932558653966460912964485513216:=by
 have h1:=zp (aF u) v 4611686018427387904 4611686018427387904 (by unfold aF;split<;>omega) (by omega) (by unfold aF;split<;>omega) hv.2
 have h2:aF u*v=u*v\/aF u*v = -(u*v):=by
  unfold aF;split
  ·right;rw [Int.neg_mul]
  ·left;rfl
 have h3:0<=aF u*v:=Int.mul_nonneg (by unfold aF;split<;>omega) hv.1;omega
theorem V5:∀(l:List Tp) (x:Int),ahead l x<=l.length/\(∀j p,j<ahead l x->l[j]? = some p->p.1<x)/\∀p,l[ahead l x]? = some p->¬p.1<x
  | [],x=>⟨by simp [ahead],λj p hj=>by simp [ahead]at hj,λp hp=>by simp at hp⟩
  |q::l,x=>by
    obtain⟨h1,h2,h3⟩:=V5 l x;simp only [ahead];split
    · rename_i hq;refine⟨by simp;omega,λj p hj hp => ?_,λp hp=>h3 p (by simpa using hp)⟩;cases j with
      |zero=>simp at hp;subst hp;exact hq
      |succ j=>exact h2 j p (by omega) (by simpa using hp)
    · rename_i hq;exact⟨by simp,λj p hj=>by omega,λp hp=>by simp at hp;subst hp;exact hq⟩
theorem Kc(N d B:Int)(hd:0<d)(h1:-B<=N)(h2:N<=B):-B<=N / d/\N / d<=B:=by
 have hB:B<=B*d:=by
  have:=Int.mul_le_mul_of_nonneg_left (show 1<=d by omega) (show 0<=B by omega)
  omega
 constructor
 ·refine (Int.le_ediv_iff_mul_le hd).2 ?_;rw [Int.neg_mul];omega
 ·exact Int.ediv_le_of_le_mul hd (by omega)
theorem AA{l:List Tp}(hk:kJ l=0)(up:Bool)(x:Int)(hx:gS x):(0<=(eE l up x).2/\0<=(eU l up x).2)/\(-42535295865117307932921825928971026432<=(cF l up x).1/\(cF l up x).1<=42535295865117307932921825928971026432)/\(-42535295865117307932921825928971026432<=(cF l up x).2/\(cF l up x).2<=42535295865117307932921825928971026432):=by
 obtain⟨k0,k1,kg⟩:=DA hk;obtain⟨a1,a2,a3⟩:=V5 l x;have nn:∀b,0<=(n8 b).2:=λb=>by unfold n8 aF;simp only;split<;>omega
 have sm:∀i p,l[i]? = some p -> -2305843009213693952<=bW up p/\bW up p<=2305843009213693952:=λi p hp=>by
  have g:=zh (kg i (List.getElem?_eq_some_iff.1 hp).1) hp;exact tE g.2.1 g.2.2.1
 unfold eE eU cF;by_cases h0:ahead l x=0
 ·simp only [if_pos h0];have hp:=List.getElem?_eq_getElem k0
  have:=sm 0 _ hp
  rw [zi hp];exact⟨⟨nn _,nn _⟩,⟨by omega,by omega⟩,by omega,by omega⟩
 ·simp only [if_neg h0];by_cases h1:ahead l x=l.length
  ·simp only [if_pos h1];have hp:=List.getElem?_eq_getElem (show l.length-1<l.length by omega)
   have:=sm _ _ hp
   rw [zi hp];exact⟨⟨nn _,nn _⟩,⟨by omega,by omega⟩,by omega,by omega⟩
  ·simp only [if_neg h1];obtain⟨j,hj⟩:∃j,ahead l x=j+1:=⟨ahead l x-1,by omega⟩;rw [hj]at h1 a1 a2 a3 ⊢;have hp:=List.getElem?_eq_getElem (show j+1<l.length by omega);have hq:=List.getElem?_eq_getElem (show j<l.length by omega);generalize l[j+1]=p at hp;generalize l[j]=q at hq;have Az:=H_ (kg (j+1) (by omega)) hp hq;have gp:=zh (kg (j+1) (by omega)) hp;have gq:=zh (kg j (by omega)) hq;have sp:=sm _ _ hp;have sq:=sm _ _ hq;have x1:=a2 j q (by omega) hq;have x2:=a3 p hp;simp only [Nat.add_sub_cancel,zi hp,zi hq,qM hp,qM hq];have pr:=H' (bW up p-bW up q) (x-q.1) (by omega) (by omega);have e1:=Kc _ (p.1-q.1) 21267647932558653966460912964485513216 (by omega) pr.1 pr.2;have e2:=Kc (-((bW up p-bW up q)*(x-q.1))) (p.1-q.1) 21267647932558653966460912964485513216 (by omega) (by omega) (by omega);refine⟨?_,⟨by unfold fl;omega,by unfold fl;omega⟩,by unfold ce;omega,by unfold ce;omega⟩;split
   ·exact⟨nn _,nn _⟩
   ·have ab:∀y:Int,0<=aF y:=λy=>by unfold aF;split<;>omega
    have q0:=vm (decide (bW up p-bW up q<0) != decide (x-q.1<0)) (aF (bW up p-bW up q)*aF (x-q.1)) (aF (p.1-q.1)) (Int.mul_nonneg (ab _) (ab _)) (by rw [Kb (by omega)];omega);exact⟨GR _ _ _ _ (ab _) q0.1,GR _ _ _ _ (ab _) q0.2.1⟩
theorem yc(p:Tp)(w:World):Calls Tryz.prog 64 #[Vc.S p.2.1 p.2.2] w (Vc.aI (.int .i64 (bW false p)) w):=Zi _ _ w _ rfl
theorem yd(p:Tp)(w:World):Calls Tryz.prog 65 #[Vc.S p.2.1 p.2.2] w (Vc.aI (.int .i64 (bW true p)) w):=Zj _ _ w _ rfl
theorem Rv{w:World}{v:Value}{l:List Tp}(h:yI w v l)(hk:kJ l=0)(x:Int)(hx:gS x) :
  Calls Tryz.prog 63 #[v,.int .i64 x,.func (.func 64) #[] #[]] w (Vc.aI (.tuple #[VP (eE l false x),VP (eU l false x)]) w):=by
 obtain⟨k0,k1,kg⟩:=DA hk;obtain⟨b0,p0,x1,rfl,hb,hc⟩:=Dz h;clear h;have gT:¬(b0=true):=λff=>by have:=hb ff;omega
 have nb:(¬(b0=true))\/((l.length:Int)=0) := .inl gT;have wl:IntKind.i64.wrap ((l.length:Int)-1)=(l.length:Int)-1:=Vc.zb (by omega);refine Zk p0 (l.length:Int) x1 x b0 w _ ?_;refine⟨λy=>∃i:Nat,i<=l.length/\(∀j p,j<i->l[j]? = some p->p.1<x)/\y=[.i (i:Int)],lr (l.length:Int),⟨0,by omega,λj p hj=>by omega,rfl⟩, ?_⟩;rintro x3 ⟨i,hi,hg,hy⟩;simp only [List.cons.injEq,Vc.Vl.i.injEq,and_true]at hy;subst hy;refine⟨by omega,nb, ?_⟩;refine ae (λh1 => ?_) (λh1 => ?_)
 ·have ct:i<l.length:=by omega
  have hp:=List.getElem?_eq_getElem ct;generalize l[i]=p at hp;obtain⟨c0,c1,c2⟩:=hc i p hp;refine⟨gT,by omega,by omega,_,c0, ?_⟩;refine ae (λh2 => ?_) (λh2 => ?_)
  ·rintro _ rfl;rw [uG i (by omega)];refine⟨⟨i+1,by omega,λj q hj hq => ?_,rfl⟩,by simp only [lr];omega⟩;by_cases rZ:j=i
   ·subst rZ;rw [hp]at hq;cases hq;exact h2
   ·exact hg j q (by omega) hq
  ·have sA:ahead l x=i:=BN hi hg (λq hq=>by rw [hp]at hq;cases hq;exact h2);refine ae (λh3 => ?_) (λh3 => ?_)
   ·obtain⟨k,j8,ek,tF,tG⟩:∃k:Nat,k<l.length/\(if IntKind.i64.wrap ((l.length:Int)-1)<(i:Int)then IntKind.i64.wrap ((l.length:Int)-1)else (i:Int))=(k:Int)/\eE l false x=n8 (cV l false k)/\eU l false x=n8 (cV l false k) :=
     ⟨0,by omega,by rw [wl];split<;>omega,by unfold eE;rw [if_pos (by omega)],by unfold eU;rw [if_pos (by omega)]⟩
    have lz:=List.getElem?_eq_getElem j8;generalize l[k]=pk at lz;obtain⟨d0,d1,d2⟩:=hc k pk lz;have gk:=zh (kg k j8) lz;have ig:=tE (up:=false) gk.2.1 gk.2.2.1;have ev:=tF;have eu:=tG;rw [zi lz]at ev eu;refine⟨by omega,nb, ?_⟩;rintro _ rfl;rintro _ rfl;rw [ek];refine⟨gT,by omega,by omega,_,d1,_,d2, ?_⟩
    (repeat apply Exists.intro);refine And.intro (λ_ _=>yc pk _) ?_
    (repeat apply Exists.intro);refine And.intro (λ_ _=>vj (bW false pk) _ (by constructor<;>omega)) ?_
    rw [ev,eu];rfl
   ·refine⟨by omega,nb, ?_⟩;refine ae (λh4 => ?_) (λh4 => ?_)
    ·exfalso;omega
    ·refine⟨gT,by omega,by omega,_,c0, ?_⟩;refine ae (λh5 => ?_) (λh5 => ?_)
     ·obtain⟨k,j8,ek,tF,tG⟩:∃k:Nat,k<l.length/\(if IntKind.i64.wrap ((l.length:Int)-1)<(i:Int)then IntKind.i64.wrap ((l.length:Int)-1)else (i:Int))=(k:Int)/\eE l false x=n8 (cV l false k)/\eU l false x=n8 (cV l false k) :=
       ⟨i,by omega,by rw [wl];split<;>omega,by unfold eE;rw [sA,if_neg (by omega),if_neg (by omega),if_pos (by rw [qM hp];exact h5)],by unfold eU;rw [sA,if_neg (by omega),if_neg (by omega),if_pos (by rw [qM hp];exact h5)]⟩
      have lz:=List.getElem?_eq_getElem j8;generalize l[k]=pk at lz;obtain⟨d0,d1,d2⟩:=hc k pk lz;have gk:=zh (kg k j8) lz;have ig:=tE (up:=false) gk.2.1 gk.2.2.1;have ev:=tF;have eu:=tG;rw [zi lz]at ev eu;refine⟨by omega,nb, ?_⟩;rintro _ rfl;rintro _ rfl;rw [ek];refine⟨gT,by omega,by omega,_,d1,_,d2, ?_⟩
      (repeat apply Exists.intro);refine And.intro (λ_ _=>yc pk _) ?_
      (repeat apply Exists.intro);refine And.intro (λ_ _=>vj (bW false pk) _ (by constructor<;>omega)) ?_
      rw [ev,eu];rfl
     ·have tF:eE l false x=ya (cV l false (i-1)) (cV l false i) (ou l (i-1)) (ou l i) x:=by unfold eE;rw [sA,if_neg (by omega),if_neg (by omega),if_neg (by rw [qM hp];exact h5)]
      have tG:eU l false x=yb (cV l false (i-1)) (cV l false i) (ou l (i-1)) (ou l i) x:=by unfold eU;rw [sA,if_neg (by omega),if_neg (by omega),if_neg (by rw [qM hp];exact h5)]
      obtain⟨j,rfl⟩:∃j,i=j+1:=⟨i-1,by omega⟩;have hq:=List.getElem?_eq_getElem (show j<l.length by omega);generalize l[j]=q at hq;obtain⟨e0,e1,e2⟩:=hc j q hq;have Az:=H_ (kg (j+1) (by omega)) hp hq;have gp:=zh (kg (j+1) (by omega)) hp;have gq:=zh (kg j (by omega)) hq;have sp:=tE (up:=false) gp.2.1 gp.2.2.1;have sq:=tE (up:=false) gq.2.1 gq.2.2.1;have y1:=hg j q (by omega) hq;have ab:∀y:Int,0<=aF y:=λy=>by unfold aF;split<;>omega
      rintro _ rfl;rw [H9 j (by omega)];refine⟨gT,by omega,by omega,_,e0,_,e1,_,e2,gT,by omega,by omega,_,c0,_,c1,_,c2, ?_⟩
      (repeat apply Exists.intro);refine And.intro (λ_ _=>yc q _) ?_
      (repeat apply Exists.intro);refine And.intro (λ_ _=>yc p _) ?_
      rintro _ rfl;rintro _ rfl;have w1:IntKind.i64.wrap (bW false p-bW false q)=bW false p-bW false q:=Vc.zb (by omega);have w2:IntKind.i64.wrap (x-q.1)=x-q.1:=Vc.zb (by omega);have w3:IntKind.i64.wrap (p.1-q.1)=p.1-q.1:=Vc.zb (by omega);have xa:=ux (bW false p-bW false q) (by omega) (by omega);have xb:=ux (x-q.1) (by omega) (by omega);have u1:aF (bW false p-bW false q)<=4611686018427387904:=by unfold aF;split<;>omega
      have u2:aF (x-q.1)<=4611686018427387904:=by unfold aF;split<;>omega
      have um:=zp (aF (bW false p-bW false q)) (aF (x-q.1)) 4611686018427387904 4611686018427387904 (ab _) (ab _) u1 u2;have Ia:=Int.mul_nonneg (ab (bW false p-bW false q)) (ab (x-q.1));have ey:=Kb (y:=p.1-q.1) (by omega);have eb:=Ej (aF (p.1-q.1)) (by omega) (by omega);have ev:=tF;have eu:=tG;simp only [Nat.add_sub_cancel,zi hp,zi hq,qM hp,qM hq]at ev eu;have q0:=vm (decide (bW false p-bW false q<0) != decide (x-q.1<0)) (aF (bW false p-bW false q)*aF (x-q.1)) (aF (p.1-q.1)) Ia (by omega);have au:aF (bW false q)<=2305843009213693952:=by unfold aF;split<;>omega
      have t1:=λw=>OB (bW false p-bW false q) (x-q.1) w (by constructor<;>omega) (by constructor<;>omega);have t2:=λw=>vj (p.1-q.1) w (by constructor<;>omega);have t3:=λw=>JH (decide (bW false p-bW false q<0) != decide (x-q.1<0)) (decide (p.1-q.1<0)) (aF (bW false p-bW false q)*aF (x-q.1)) (aF (p.1-q.1)) w Ia (by omega) (by omega) (by omega);have t4:=λw=>vj (bW false q) w (by constructor<;>omega);have t5:=λw=>GV (decide (bW false q<0)) (decide (bW false p-bW false q<0) != decide (x-q.1<0)) (aF (bW false q)) (rL (decide (bW false p-bW false q<0) != decide (x-q.1<0)) (aF (bW false p-bW false q)*aF (x-q.1)) (aF (p.1-q.1))) w ⟨ab _,by omega⟩ ⟨q0.1,by omega⟩ (by omega);have t6:=λw=>GV (decide (bW false q<0)) (decide (bW false p-bW false q<0) != decide (x-q.1<0)) (aF (bW false q)) (rM (decide (bW false p-bW false q<0) != decide (x-q.1<0)) (aF (bW false p-bW false q)*aF (x-q.1)) (aF (p.1-q.1))) w ⟨ab _,by omega⟩ ⟨q0.2.1,by omega⟩ (by omega);rw [w1,w2];rintro _ rfl;rw [w3]
      (repeat apply Exists.intro);refine And.intro (λ_ _=>t1 _) ?_
      (repeat apply Exists.intro);refine And.intro (λ_ _=>t2 _) ?_
      rw [eb.1,eb.2]
      (repeat apply Exists.intro);refine And.intro (λ_ _=>t3 _) ?_
      (repeat apply Exists.intro);refine And.intro (λ_ _=>t4 _) ?_
      (repeat apply Exists.intro);refine And.intro (λ_ _=>t5 _) ?_
      (repeat apply Exists.intro);refine And.intro (λ_ _=>t4 _) ?_
      (repeat apply Exists.intro);refine And.intro (λ_ _=>t6 _) ?_
      rw [ev,eu];rfl
 ·have sA:ahead l x=i:=BN hi hg (λq hq=>by have:=(List.getElem?_eq_some_iff.1 hq).1;omega);refine ae (λh3 => ?_) (λh3 => ?_)
  ·exfalso;omega
  ·refine⟨by omega,nb, ?_⟩;refine ae (λh4 => ?_) (λh4 => ?_)
   ·obtain⟨k,j8,ek,tF,tG⟩:∃k:Nat,k<l.length/\(if IntKind.i64.wrap ((l.length:Int)-1)<(i:Int)then IntKind.i64.wrap ((l.length:Int)-1)else (i:Int))=(k:Int)/\eE l false x=n8 (cV l false k)/\eU l false x=n8 (cV l false k) :=
     ⟨l.length-1,by omega,by rw [wl];split<;>omega,by unfold eE;rw [if_neg (by omega),if_pos (by omega)],by unfold eU;rw [if_neg (by omega),if_pos (by omega)]⟩
    have lz:=List.getElem?_eq_getElem j8;generalize l[k]=pk at lz;obtain⟨d0,d1,d2⟩:=hc k pk lz;have gk:=zh (kg k j8) lz;have ig:=tE (up:=false) gk.2.1 gk.2.2.1;have ev:=tF;have eu:=tG;rw [zi lz]at ev eu;refine⟨by omega,nb, ?_⟩;rintro _ rfl;rintro _ rfl;rw [ek];refine⟨gT,by omega,by omega,_,d1,_,d2, ?_⟩
    (repeat apply Exists.intro);refine And.intro (λ_ _=>yc pk _) ?_
    (repeat apply Exists.intro);refine And.intro (λ_ _=>vj (bW false pk) _ (by constructor<;>omega)) ?_
    rw [ev,eu];rfl
   ·exfalso;omega
theorem Rw{w:World}{v:Value}{l:List Tp}(h:yI w v l)(hk:kJ l=0)(x:Int)(hx:gS x) :
  Calls Tryz.prog 63 #[v,.int .i64 x,.func (.func 65) #[] #[]] w (Vc.aI (.tuple #[VP (eE l true x),VP (eU l true x)]) w):=by
 obtain⟨k0,k1,kg⟩:=DA hk;obtain⟨b0,p0,x1,rfl,hb,hc⟩:=Dz h;clear h;have gT:¬(b0=true):=λff=>by have:=hb ff;omega
 have nb:(¬(b0=true))\/((l.length:Int)=0) := .inl gT;have wl:IntKind.i64.wrap ((l.length:Int)-1)=(l.length:Int)-1:=Vc.zb (by omega);refine Zl p0 (l.length:Int) x1 x b0 w _ ?_;refine⟨λy=>∃i:Nat,i<=l.length/\(∀j p,j<i->l[j]? = some p->p.1<x)/\y=[.i (i:Int)],lr (l.length:Int),⟨0,by omega,λj p hj=>by omega,rfl⟩, ?_⟩;rintro x3 ⟨i,hi,hg,hy⟩;simp only [List.cons.injEq,Vc.Vl.i.injEq,and_true]at hy;subst hy;refine⟨by omega,nb, ?_⟩;refine ae (λh1 => ?_) (λh1 => ?_)
 ·have ct:i<l.length:=by omega
  have hp:=List.getElem?_eq_getElem ct;generalize l[i]=p at hp;obtain⟨c0,c1,c2⟩:=hc i p hp;refine⟨gT,by omega,by omega,_,c0, ?_⟩;refine ae (λh2 => ?_) (λh2 => ?_)
  ·rintro _ rfl;rw [uG i (by omega)];refine⟨⟨i+1,by omega,λj q hj hq => ?_,rfl⟩,by simp only [lr];omega⟩;by_cases rZ:j=i
   ·subst rZ;rw [hp]at hq;cases hq;exact h2
   ·exact hg j q (by omega) hq
  ·have sA:ahead l x=i:=BN hi hg (λq hq=>by rw [hp]at hq;cases hq;exact h2);refine ae (λh3 => ?_) (λh3 => ?_)
   ·obtain⟨k,j8,ek,tF,tG⟩:∃k:Nat,k<l.length/\(if IntKind.i64.wrap ((l.length:Int)-1)<(i:Int)then IntKind.i64.wrap ((l.length:Int)-1)else (i:Int))=(k:Int)/\eE l true x=n8 (cV l true k)/\eU l true x=n8 (cV l true k) :=
     ⟨0,by omega,by rw [wl];split<;>omega,by unfold eE;rw [if_pos (by omega)],by unfold eU;rw [if_pos (by omega)]⟩
    have lz:=List.getElem?_eq_getElem j8;generalize l[k]=pk at lz;obtain⟨d0,d1,d2⟩:=hc k pk lz;have gk:=zh (kg k j8) lz;have ig:=tE (up:=true) gk.2.1 gk.2.2.1;have ev:=tF;have eu:=tG;rw [zi lz]at ev eu;refine⟨by omega,nb, ?_⟩;rintro _ rfl;rintro _ rfl;rw [ek];refine⟨gT,by omega,by omega,_,d1,_,d2, ?_⟩
    (repeat apply Exists.intro);refine And.intro (λ_ _=>yd pk _) ?_
    (repeat apply Exists.intro);refine And.intro (λ_ _=>vj (bW true pk) _ (by constructor<;>omega)) ?_
    rw [ev,eu];rfl
   ·refine⟨by omega,nb, ?_⟩;refine ae (λh4 => ?_) (λh4 => ?_)
    ·exfalso;omega
    ·refine⟨gT,by omega,by omega,_,c0, ?_⟩;refine ae (λh5 => ?_) (λh5 => ?_)
     ·obtain⟨k,j8,ek,tF,tG⟩:∃k:Nat,k<l.length/\(if IntKind.i64.wrap ((l.length:Int)-1)<(i:Int)then IntKind.i64.wrap ((l.length:Int)-1)else (i:Int))=(k:Int)/\eE l true x=n8 (cV l true k)/\eU l true x=n8 (cV l true k) :=
       ⟨i,by omega,by rw [wl];split<;>omega,by unfold eE;rw [sA,if_neg (by omega),if_neg (by omega),if_pos (by rw [qM hp];exact h5)],by unfold eU;rw [sA,if_neg (by omega),if_neg (by omega),if_pos (by rw [qM hp];exact h5)]⟩
      have lz:=List.getElem?_eq_getElem j8;generalize l[k]=pk at lz;obtain⟨d0,d1,d2⟩:=hc k pk lz;have gk:=zh (kg k j8) lz;have ig:=tE (up:=true) gk.2.1 gk.2.2.1;have ev:=tF;have eu:=tG;rw [zi lz]at ev eu;refine⟨by omega,nb, ?_⟩;rintro _ rfl;rintro _ rfl;rw [ek];refine⟨gT,by omega,by omega,_,d1,_,d2, ?_⟩
      (repeat apply Exists.intro);refine And.intro (λ_ _=>yd pk _) ?_
      (repeat apply Exists.intro);refine And.intro (λ_ _=>vj (bW true pk) _ (by constructor<;>omega)) ?_
      rw [ev,eu];rfl
     ·have tF:eE l true x=ya (cV l true (i-1)) (cV l true i) (ou l (i-1)) (ou l i) x:=by unfold eE;rw [sA,if_neg (by omega),if_neg (by omega),if_neg (by rw [qM hp];exact h5)]
      have tG:eU l true x=yb (cV l true (i-1)) (cV l true i) (ou l (i-1)) (ou l i) x:=by unfold eU;rw [sA,if_neg (by omega),if_neg (by omega),if_neg (by rw [qM hp];exact h5)]
      obtain⟨j,rfl⟩:∃j,i=j+1:=⟨i-1,by omega⟩;have hq:=List.getElem?_eq_getElem (show j<l.length by omega);generalize l[j]=q at hq;obtain⟨e0,e1,e2⟩:=hc j q hq;have Az:=H_ (kg (j+1) (by omega)) hp hq;have gp:=zh (kg (j+1) (by omega)) hp;have gq:=zh (kg j (by omega)) hq;have sp:=tE (up:=true) gp.2.1 gp.2.2.1;have sq:=tE (up:=true) gq.2.1 gq.2.2.1;have y1:=hg j q (by omega) hq;have ab:∀y:Int,0<=aF y:=λy=>by unfold aF;split<;>omega
      rintro _ rfl;rw [H9 j (by omega)];refine⟨gT,by omega,by omega,_,e0,_,e1,_,e2,gT,by omega,by omega,_,c0,_,c1,_,c2, ?_⟩
      (repeat apply Exists.intro);refine And.intro (λ_ _=>yd q _) ?_
      (repeat apply Exists.intro);refine And.intro (λ_ _=>yd p _) ?_
      rintro _ rfl;rintro _ rfl;have w1:IntKind.i64.wrap (bW true p-bW true q)=bW true p-bW true q:=Vc.zb (by omega);have w2:IntKind.i64.wrap (x-q.1)=x-q.1:=Vc.zb (by omega);have w3:IntKind.i64.wrap (p.1-q.1)=p.1-q.1:=Vc.zb (by omega);have xa:=ux (bW true p-bW true q) (by omega) (by omega);have xb:=ux (x-q.1) (by omega) (by omega);have u1:aF (bW true p-bW true q)<=4611686018427387904:=by unfold aF;split<;>omega
      have u2:aF (x-q.1)<=4611686018427387904:=by unfold aF;split<;>omega
      have um:=zp (aF (bW true p-bW true q)) (aF (x-q.1)) 4611686018427387904 4611686018427387904 (ab _) (ab _) u1 u2;have Ia:=Int.mul_nonneg (ab (bW true p-bW true q)) (ab (x-q.1));have ey:=Kb (y:=p.1-q.1) (by omega);have eb:=Ej (aF (p.1-q.1)) (by omega) (by omega);have ev:=tF;have eu:=tG;simp only [Nat.add_sub_cancel,zi hp,zi hq,qM hp,qM hq]at ev eu;have q0:=vm (decide (bW true p-bW true q<0) != decide (x-q.1<0)) (aF (bW true p-bW true q)*aF (x-q.1)) (aF (p.1-q.1)) Ia (by omega);have au:aF (bW true q)<=2305843009213693952:=by unfold aF;split<;>omega
      have t1:=λw=>OB (bW true p-bW true q) (x-q.1) w (by constructor<;>omega) (by constructor<;>omega);have t2:=λw=>vj (p.1-q.1) w (by constructor<;>omega);have t3:=λw=>JH (decide (bW true p-bW true q<0) != decide (x-q.1<0)) (decide (p.1-q.1<0)) (aF (bW true p-bW true q)*aF (x-q.1)) (aF (p.1-q.1)) w Ia (by omega) (by omega) (by omega);have t4:=λw=>vj (bW true q) w (by constructor<;>omega);have t5:=λw=>GV (decide (bW true q<0)) (decide (bW true p-bW true q<0) != decide (x-q.1<0)) (aF (bW true q)) (rL (decide (bW true p-bW true q<0) != decide (x-q.1<0)) (aF (bW true p-bW true q)*aF (x-q.1)) (aF (p.1-q.1))) w ⟨ab _,by omega⟩ ⟨q0.1,by omega⟩ (by omega);have t6:=λw=>GV (decide (bW true q<0)) (decide (bW true p-bW true q<0) != decide (x-q.1<0)) (aF (bW true q)) (rM (decide (bW true p-bW true q<0) != decide (x-q.1<0)) (aF (bW true p-bW true q)*aF (x-q.1)) (aF (p.1-q.1))) w ⟨ab _,by omega⟩ ⟨q0.2.1,by omega⟩ (by omega);rw [w1,w2];rintro _ rfl;rw [w3]
      (repeat apply Exists.intro);refine And.intro (λ_ _=>t1 _) ?_
      (repeat apply Exists.intro);refine And.intro (λ_ _=>t2 _) ?_
      rw [eb.1,eb.2]
      (repeat apply Exists.intro);refine And.intro (λ_ _=>t3 _) ?_
      (repeat apply Exists.intro);refine And.intro (λ_ _=>t4 _) ?_
      (repeat apply Exists.intro);refine And.intro (λ_ _=>t5 _) ?_
      (repeat apply Exists.intro);refine And.intro (λ_ _=>t4 _) ?_
      (repeat apply Exists.intro);refine And.intro (λ_ _=>t6 _) ?_
      rw [ev,eu];rfl
 ·have sA:ahead l x=i:=BN hi hg (λq hq=>by have:=(List.getElem?_eq_some_iff.1 hq).1;omega);refine ae (λh3 => ?_) (λh3 => ?_)
  ·exfalso;omega
  ·refine⟨by omega,nb, ?_⟩;refine ae (λh4 => ?_) (λh4 => ?_)
   ·obtain⟨k,j8,ek,tF,tG⟩:∃k:Nat,k<l.length/\(if IntKind.i64.wrap ((l.length:Int)-1)<(i:Int)then IntKind.i64.wrap ((l.length:Int)-1)else (i:Int))=(k:Int)/\eE l true x=n8 (cV l true k)/\eU l true x=n8 (cV l true k) :=
     ⟨l.length-1,by omega,by rw [wl];split<;>omega,by unfold eE;rw [if_neg (by omega),if_pos (by omega)],by unfold eU;rw [if_neg (by omega),if_pos (by omega)]⟩
    have lz:=List.getElem?_eq_getElem j8;generalize l[k]=pk at lz;obtain⟨d0,d1,d2⟩:=hc k pk lz;have gk:=zh (kg k j8) lz;have ig:=tE (up:=true) gk.2.1 gk.2.2.1;have ev:=tF;have eu:=tG;rw [zi lz]at ev eu;refine⟨by omega,nb, ?_⟩;rintro _ rfl;rintro _ rfl;rw [ek];refine⟨gT,by omega,by omega,_,d1,_,d2, ?_⟩
    (repeat apply Exists.intro);refine And.intro (λ_ _=>yd pk _) ?_
    (repeat apply Exists.intro);refine And.intro (λ_ _=>vj (bW true pk) _ (by constructor<;>omega)) ?_
    rw [ev,eu];rfl
   ·exfalso;omega
theorem Kd(p:Tp)(up:Bool)(w:World):Calls Tryz.prog 130 #[.agg #[.int .i64 p.1,.int .i64 p.2.1,.int .i64 p.2.2],.bool up] w (Vc.aI (.int .i64 (bW up p)) w):=by
 refine ZF _ _ _ up w _ ?_;refine ae (λh => ?_) (λh => ?_)
 ·unfold bW;rw [if_pos h]
 ·unfold bW;rw [if_neg h]
end Go.Proofs.YtkbchjlnhgfpmaaGreatDoor
set_option linter.unusedVariables false
namespace Go.Proofs.YtkbchjlnhgfpmaaGreatDoor
open Go Go.RowKit Ul Vc
attribute [local irreducible] Go.Calls
theorem Ib{w:World}{v:Value}{l:List Tp}(h:yI w v l)(hk:kJ l=0)(up:Bool)(x:Int)(hx:gS x) :
  Calls Tryz.prog 69 #[v,.bool up,.int .i64 x] w (Vc.aI (.tuple #[VW (cF l up x).1,VW (cF l up x).2]) w):=by
 obtain⟨k0,k1,kg⟩:=DA hk;obtain⟨b0,p0,x1,rfl,hb,hc⟩:=Dz h;clear h;have gT:¬(b0=true):=λff=>by have:=hb ff;omega
 have nb:(¬(b0=true))\/((l.length:Int)=0) := .inl gT;refine ZG p0 (l.length:Int) x1 x b0 up w _ ?_;have Br:=List.getElem?_eq_getElem k0;generalize l[0]=z at Br;obtain⟨z0,z1,z2⟩:=hc 0 z Br;have gz:=zh (kg 0 k0) Br;have sz:=tE (up:=up) gz.2.1 gz.2.2.1;refine⟨gT,by omega,_,z0, ?_⟩;refine ae (λh1 => ?_) (λh1 => ?_)
 ·refine⟨gT,by omega,_,z0,_,z1,_,z2, ?_⟩
  (repeat apply Exists.intro);refine And.intro (λ_ _=>Kd z up _) ?_
  (repeat apply Exists.intro);refine And.intro (λ_ _=>GL (bW up z) _ (by omega) (by omega)) ?_
  have sA:ahead l x=0:=BN (by omega) (λj p hj=>by omega) (λp hp=>by rw [Br]at hp;cases hp;omega);unfold cF;rw [if_pos sA,zi Br]
 ·refine⟨λy=>∃(i:Nat) (a b c d:Int),1<=i/\i<=l.length/\(∀j p,j<i->l[j]? = some p->p.1<x)/\y=[.i (i:Int),.i a,.i b,.i c,.i d],lr (l.length:Int),⟨1,0,0,0,0,by omega,by omega,λj p hj hp => ?_,rfl⟩, ?_⟩
  ·obtain rfl:j=0:=by omega
   rw [Br]at hp;cases hp;omega
  rintro x4 x5 x6 x7 x8 ⟨i,a,b,c,d,D4,hi,hg,hy⟩;simp only [List.cons.injEq,Vc.Vl.i.injEq,and_true]at hy;obtain⟨rfl,rfl,rfl,rfl,rfl⟩:=hy;refine⟨by omega,nb, ?_⟩;refine ae (λh2 => ?_) (λh2 => ?_)
  ·have ct:i<l.length:=by omega
   have hp:=List.getElem?_eq_getElem ct;generalize l[i]=p at hp;obtain⟨c0,c1,c2⟩:=hc i p hp;refine⟨gT,by omega,by omega,_,c0, ?_⟩;refine ae (λh3 => ?_) (λh3 => ?_)
   ·rintro _ rfl;rw [uG i (by omega)];refine⟨⟨i+1,_,_,_,_,by omega,by omega,λj q hj hq => ?_,rfl⟩,by simp only [lr];omega⟩;by_cases rZ:j=i
    ·subst rZ;rw [hp]at hq;cases hq;exact h3
    ·exact hg j q (by omega) hq
   ·have sA:ahead l x=i:=BN hi hg (λq hq=>by rw [hp]at hq;cases hq;exact h3);obtain⟨j,rfl⟩:∃j,i=j+1:=⟨i-1,by omega⟩;have hq:=List.getElem?_eq_getElem (show j<l.length by omega);generalize l[j]=q at hq;obtain⟨e0,e1,e2⟩:=hc j q hq;have Az:=H_ (kg (j+1) (by omega)) hp hq;have gp:=zh (kg (j+1) (by omega)) hp;have gq:=zh (kg j (by omega)) hq;have sp:=tE (up:=up) gp.2.1 gp.2.2.1;have sq:=tE (up:=up) gq.2.1 gq.2.2.1;have y1:=hg j q (by omega) hq;have pr:=H' (bW up p-bW up q) (x-q.1) (by omega) (by omega);have d1:=Kc _ (p.1-q.1) 21267647932558653966460912964485513216 (by omega) pr.1 pr.2;have d2:=Kc (-((bW up p-bW up q)*(x-q.1))) (p.1-q.1) 21267647932558653966460912964485513216 (by omega) (by omega) (by omega);have f1:fl ((bW up p-bW up q)*(x-q.1)) (p.1-q.1)=(bW up p-bW up q)*(x-q.1) / (p.1-q.1):=rfl;have f2:ce ((bW up p-bW up q)*(x-q.1)) (p.1-q.1) = -(-((bW up p-bW up q)*(x-q.1)) / (p.1-q.1)):=rfl;have w1:IntKind.i64.wrap (bW up p-bW up q)=bW up p-bW up q:=Vc.zb (by omega);have w2:IntKind.i64.wrap (x-q.1)=x-q.1:=Vc.zb (by omega);have w3:IntKind.i64.wrap (p.1-q.1)=p.1-q.1:=Vc.zb (by omega);have wd:=H9 j (by omega);rw [wd];rintro _ rfl;refine⟨gT,by omega,by omega,_,e0,_,e1,_,e2, ?_⟩
    (repeat apply Exists.intro);refine And.intro (λ_ _=>Kd q up _) ?_
    refine⟨gT,by omega,by omega,_,c0,_,c1,_,c2, ?_⟩
    (repeat apply Exists.intro);refine And.intro (λ_ _=>Kd p up _) ?_
    rintro _ rfl;rintro _ rfl;refine⟨gT,by omega,by omega,_,e0, ?_⟩;rintro _ rfl;rw [w1,w2]
    (repeat apply Exists.intro);refine And.intro (λ_ _=>Ol _ _ _ (by omega) (by omega) (by omega) (by omega)) ?_
    refine⟨gT,by omega,by omega,_,c0, ?_⟩;rintro _ rfl;refine⟨gT,by omega,by omega,_,e0, ?_⟩;rintro _ rfl;rw [w3]
    (repeat apply Exists.intro);refine And.intro (λ_ _=>GL _ _ (by omega) (by omega)) ?_
    (repeat apply Exists.intro);refine And.intro (λ_ _=>GL _ _ (by omega) (by omega)) ?_
    (repeat apply Exists.intro);refine And.intro (λ_ _=>Ot _ _ _ (by omega) (by omega) (by omega) (by omega)) ?_
    (repeat apply Exists.intro);refine And.intro (λ_ _=>vO _ _ _ (by constructor<;>omega)) ?_
    (repeat apply Exists.intro);refine And.intro (λ_ _=>GL _ _ (by omega) (by omega)) ?_
    (repeat apply Exists.intro);refine And.intro (λ_ _=>Ou _ _ _ (by omega) (by omega) (by omega) (by omega)) ?_
    (repeat apply Exists.intro);refine And.intro (λ_ _=>vO _ _ _ (by constructor<;>omega)) ?_
    unfold cF;rw [sA,if_neg (by omega),if_neg (by omega)];simp only [Nat.add_sub_cancel,zi hp,zi hq,qM hp,qM hq]
  ·have sA:ahead l x=i:=BN hi hg (λq hq=>by have:=(List.getElem?_eq_some_iff.1 hq).1;omega);have hp:=List.getElem?_eq_getElem (show l.length-1<l.length by omega);generalize l[l.length-1]=p at hp;obtain⟨c0,c1,c2⟩:=hc _ p hp;have gp:=zh (kg _ (by omega)) hp;have sp:=tE (up:=up) gp.2.1 gp.2.2.1;have wl:IntKind.i64.wrap ((l.length:Int)-1)=((l.length-1:Nat):Int):=by rw [Vc.zb (by omega)];omega
   refine⟨by omega,nb, ?_⟩;rw [wl];rintro _ rfl;refine⟨gT,by omega,by omega,_,c0,_,c1,_,c2, ?_⟩
   (repeat apply Exists.intro);refine And.intro (λ_ _=>Kd p up _) ?_
   (repeat apply Exists.intro);refine And.intro (λ_ _=>GL (bW up p) _ (by omega) (by omega)) ?_
   unfold cF;rw [if_neg (by omega),if_pos (by omega),zi hp]
def lA(l:List Tp)(a b:Int)(i:Nat):List Int:=a::b::((l.take i).filter λp=>decide (a<=p.1) && decide (p.1<=b)).map (·.1)
theorem Ic{l:List Tp}{a b:Int}{i:Nat}{p:Tp}(h:l[i]? = some p)(h1:a<=p.1)(h2:p.1<=b):lA l a b (i+1)=lA l a b i ++ [p.1]:=by
 unfold lA;rw [List.take_add_one,h];simp [h1,h2]
theorem Rx{l:List Tp}{a b:Int}{i:Nat}{p:Tp}(h:l[i]? = some p)(h1:¬(a<=p.1/\p.1<=b)):lA l a b (i+1)=lA l a b i:=by
 unfold lA;rw [List.take_add_one,h];simp;omega
theorem Ke(l:List Tp)(a b:Int)(i:Nat):(lA l a b i).length<=l.length+2:=by
 unfold lA;have h1:=List.length_filter_le (λp:Tp=>decide (a<=p.1) && decide (p.1<=b)) (l.take i);have h2:(l.take i).length<=l.length:=by simp;omega
 simp only [List.length_cons,List.length_map];omega
theorem Ie{l:List Tp}{a b:Int}{i:Nat}(hl:∀p∈l,gS p.1)(ha:gS a)(hb:gS b):∀x∈lA l a b i,gS x:=by
 intro x hx;unfold lA at hx;rcases List.mem_cons.1 hx with rfl|hx
 ·exact ha
 ·rcases List.mem_cons.1 hx with rfl|hx
  ·exact hb
  ·obtain⟨p,hp,rfl⟩:=List.mem_map.1 hx;exact hl p (List.mem_of_mem_take (List.mem_filter.1 hp).1)
def lT:List Int->Int
 | []=>0
 |x::r=>r.foldl min x
def lU:List Int->Int
 | []=>0
 |x::r=>r.foldl max x
theorem Ry{L:List Int}(h:L ≠ [])(x:Int):lT (L ++ [x])=min (lT L) x:=by
 cases L with
 |nil=>exact (h rfl).elim
 |cons a L=>simp [lT,List.foldl_append]
theorem Rz{L:List Int}(h:L ≠ [])(x:Int):lU (L ++ [x])=max (lU L) x:=by
 cases L with
 |nil=>exact (h rfl).elim
 |cons a L=>simp [lU,List.foldl_append]
theorem RB{f:Int->Int->Int}(hf:∀x y,f x y=x\/f x y=y){B:Int}:∀(L:List Int) (x:Int),(∀y∈x::L,-B<=y/\y<=B) -> -B<=L.foldl f x/\L.foldl f x<=B
  | [],x,h=>h x (by simp)
  |y::L,x,h=>by
    rw [List.foldl_cons];refine RB hf L (f x y) λz hz => ?_;rcases List.mem_cons.1 hz with rfl|hz
    · rcases hf x y with e|e<;>rw [e]<;>exact h _ (by simp)
    · exact h z (by simp [hz])
theorem RC{L:List Int}{B:Int}(hB:0<=B)(h:∀y∈L,-B<=y/\y<=B):-B<=lT L/\lT L<=B:=by
 cases L with
 |nil=>simp only [lT];omega
 |cons x L=>exact RB (λx y=>by omega) L x h
theorem RD{L:List Int}{B:Int}(hB:0<=B)(h:∀y∈L,-B<=y/\y<=B):-B<=lU L/\lU L<=B:=by
 cases L with
 |nil=>simp only [lU];omega
 |cons x L=>exact RB (λx y=>by omega) L x h
theorem V6:∀(ps:List (Bool × Int)) (p:Bool × Int),jf (ps.foldl eS p)=(ps.map jf).foldl min (jf p)
 | [],p=>rfl
 |q::ps,p=>by rw [List.foldl_cons,V6 ps,C6];rfl
theorem V7:∀(ps:List (Bool × Int)) (p:Bool × Int),jf (ps.foldl eT p)=(ps.map jf).foldl max (jf p)
 | [],p=>rfl
 |q::ps,p=>by rw [List.foldl_cons,V7 ps,C7];rfl
def look(l:List Tp)(a b:Int):R :=
 if kJ l=0/\sG a b=0 then fit (lT ((lA l a b l.length).map λx=>(cF l false x).1)) (lU ((lA l a b l.length).map λx=>(cF l true x).2))else (0,0,2)
theorem Ig(p:Bool × Int):(c3 p).length=3:=rfl
theorem RE{w:World}{v:Value}{l:List Tp}(h:yI w v l)(hl:∀p∈l,gS p.1)(a b:Int)(ha:gS a)(Cx:gS b):Calls Tryz.prog 34 #[v,Vc.S a b] w (Vc.aI (Vc.RV (look l a b)) w):=by
 have h0:=h;obtain⟨b0,p0,x1,rfl,hb,hc⟩:=Dz h;clear h;refine Zm p0 (l.length:Int) x1 a b b0 w _ ?_
 (repeat apply Exists.intro);refine And.intro (λ_ _=>Rq (zg (by assumption) h0)) ?_
 refine ae (λh1 => ?_) (λh1 => ?_)
 ·obtain⟨k0,k1,kg⟩:=DA h1;have gT:¬(b0=true):=λff=>by have:=hb ff;omega
  have nb:(¬(b0=true))\/((l.length:Int)=0) := .inl gT
  (repeat apply Exists.intro);refine And.intro (λ_ _=>JA _ _ _) ?_
  refine ae (λh2 => ?_) (λh2 => ?_)
  ·have tW:=lK h2
   (repeat apply Exists.intro);refine And.intro (λ_ _=>Rv (zg (by assumption) h0) h1 a ha) ?_
   (repeat apply Exists.intro);refine And.intro (λ_ _=>Rw (zg (by assumption) h0) h1 a ha) ?_
   (repeat apply Exists.intro);refine And.intro (λ_ _=>Rv (zg (by assumption) h0) h1 b Cx) ?_
   (repeat apply Exists.intro);refine And.intro (λ_ _=>Rw (zg (by assumption) h0) h1 b Cx) ?_
   refine⟨by omega,nb, ?_⟩;refine⟨λy=>∃i:Nat,i<=l.length/\y=[.i (i:Int),.l (((lA l a b i).map (eE l false)).flatMap c3),.l (((lA l a b i).map (eU l true)).flatMap c3)],lr (l.length:Int),⟨0,by omega,rfl⟩, ?_⟩;rintro bg l0 l1 ⟨i,hi,hy⟩;simp only [List.cons.injEq,Vc.Vl.i.injEq,Vc.Vl.l.injEq,and_true]at hy;obtain⟨rfl,e0,e1⟩:=hy
   have aah:l0.length<=3*(l.length+2):=by
    have:=congrArg List.length e0
    rw [List.length_append,List.length_map,vQ Ig,List.length_map]at this
    have:=Ke l a b i
    simp at *;omega
   have mC:l1.length<=3*(l.length+2):=by
    have:=congrArg List.length e1
    rw [List.length_append,List.length_map,vQ Ig,List.length_map]at this
    have:=Ke l a b i
    simp at *;omega
   refine ae (λh3 => ?_) (λh3 => ?_)
   ·have ct:i<l.length:=by omega
    have hp:=List.getElem?_eq_getElem ct;generalize l[i]=p at hp;obtain⟨c0,c1,c2⟩:=hc i p hp;have V8:gS p.1:=hl p (List.mem_of_getElem? hp);refine⟨gT,by omega,by omega,_,c0,_,c1,_,c2, ?_⟩
    (repeat apply Exists.intro);refine And.intro (λ_ _=>GB _ _ _ _) ?_
    have rX:Eh a b p.1=true↔a<=p.1/\p.1<=b:=by unfold Eh;rw [tW];simp
    refine ae (λh4 => ?_) (λh4 => ?_)
    ·have Kg:=rX.1 h4
     (repeat apply Exists.intro);refine And.intro (λ_ _=>Rv (zg (by assumption) h0) h1 p.1 V8) ?_
     (repeat apply Exists.intro);refine And.intro (λ_ _=>Rw (zg (by assumption) h0) h1 p.1 V8) ?_
     rintro _ rfl;refine⟨by omega, ?_⟩;rintro _ rfl;refine⟨by omega, ?_⟩;rintro _ rfl;rw [uG i (by omega)];refine⟨⟨i+1,by omega, ?_⟩,by simp only [lr];omega⟩;rw [Ic hp Kg.1 Kg.2];simp only [List.append_nil]at e0 e1;rw [e0,e1,List.map_append,List.map_append,List.flatMap_append,List.flatMap_append];rfl
    ·have Kg:¬(a<=p.1/\p.1<=b):=λhx=>h4 (rX.2 hx);rintro _ rfl;rw [uG i (by omega)];refine⟨⟨i+1,by omega, ?_⟩,by simp only [lr];omega⟩;rw [Rx hp Kg,e0,e1]
   ·obtain rfl:i=l.length:=by omega
    have hI:=Ie (i:=l.length) hl ha Cx
    have nD:∀q∈(lA l a b l.length).map (eE l false),0<=q.2:=λq hq=>by
     obtain⟨x,hx,rfl⟩:=List.mem_map.1 hq;exact (AA h1 false x (hI x hx)).1.1
    have nU:∀q∈(lA l a b l.length).map (eU l true),0<=q.2:=λq hq=>by
     obtain⟨x,hx,rfl⟩:=List.mem_map.1 hq;exact (AA h1 true x (hI x hx)).1.2
    have lD:(lA l a b l.length).length<=66:=by have:=Ke l a b l.length;omega
    obtain⟨r,hr⟩:∃r,lA l a b l.length=a::r:=⟨_,rfl⟩;have jF:look l a b=fit (lT ((lA l a b l.length).map λx=>(cF l false x).1)) (lU ((lA l a b l.length).map λx=>(cF l true x).2)):=if_pos ⟨h1,h2⟩;rw [hr]at e0 e1 nD nU lD jF;have mD:=G3 G4 (r.map (eE l false)) (eE l false a) nD;have mU:=G3 G5 (r.map (eU l true)) (eU l true a) nU;refine⟨_,_,_,_,_,_,λ_ _ _ hm=>El (eE l false a) (r.map (eE l false)) nD (by simp at lD ⊢;omega) (by have:=hm.1;rw [e0]at this;exact this), ?_⟩;refine⟨_,_,_,_,_,_,λ_ _ _ hm=>El (eU l true a) (r.map (eU l true)) nU (by simp at lD ⊢;omega) (by have:=hm.1;rw [e1]at this;exact this), ?_⟩
    (repeat apply Exists.intro);refine And.intro (λ_ _=>JE _ _ _ _ _ mD mU) ?_
    rw [jF];have q1:=V6 (r.map (eE l false)) (eE l false a);have q2:=V7 (r.map (eU l true)) (eU l true a);unfold jf at q1 q2;refine OO ?_ ?_
    ·rw [q1];simp only [List.map_cons,lT,List.map_map]
     have:(eE l false a).1=(eE l false a).1:=rfl
     congr 1
     ·exact (Ay h1 false a).1
     ·exact List.map_congr_left λx _=>(Ay h1 false x).1
    ·rw [q2];simp only [List.map_cons,lU,List.map_map];congr 1
     ·exact (Ay h1 true a).2
     ·exact List.map_congr_left λx _=>(Ay h1 true x).2
  ·unfold look;rw [if_neg (λhx=>h2 hx.2)]
 ·unfold look;rw [if_neg (λhx=>h1 hx.1)]
end Go.Proofs.YtkbchjlnhgfpmaaGreatDoor
set_option linter.unusedVariables false
namespace Go.Proofs.YtkbchjlnhgfpmaaGreatDoor
open Go Go.RowKit Ul Vc
attribute [local irreducible] Go.Calls
def Ih(x:Int):List Value := [.int .i64 x]
theorem Ii(x:Int):(Ih x).length=1:=rfl
theorem RF{w:World}{v:Value}{l:List Tp}(h:yI w v l)(hl:∀p∈l,gS p.1)(a b:Int)(ha:gS a)(Cx:gS b):Calls Tryz.prog 35 #[v,Vc.S a b] w (Vc.aI (Vc.RV (look l a b)) w):=by
 have h0:=h;obtain⟨b0,p0,x1,rfl,hb,hc⟩:=Dz h;clear h;refine ZH p0 (l.length:Int) x1 a b b0 w _ ?_
 (repeat apply Exists.intro);refine And.intro (λ_ _=>Rr (zg (by assumption) h0)) ?_
 refine ae (λh1 => ?_) (λh1 => ?_)
 ·obtain⟨k0,k1,kg⟩:=DA h1;have gT:¬(b0=true):=λff=>by have:=hb ff;omega
  have nb:(¬(b0=true))\/((l.length:Int)=0) := .inl gT
  (repeat apply Exists.intro);refine And.intro (λ_ _=>U5 _ _ _) ?_
  refine ae (λh2 => ?_) (λh2 => ?_)
  ·refine⟨λy=>∃i:Nat,i<=l.length/\y=[.l ((lA l a b i).flatMap Ih),.i (i:Int)],ky (l.length:Int),⟨0,by omega,rfl⟩, ?_⟩;rintro l0 x6 ⟨i,hi,hy⟩;simp only [List.cons.injEq,Vc.Vl.i.injEq,Vc.Vl.l.injEq,and_true]at hy;obtain⟨e0,rfl⟩:=hy
   have hlen:l0.length=(lA l a b i).length:=by
    have:=congrArg List.length e0
    rw [List.length_append,List.length_map,vQ Ii]at this;simpa using this
   have gj:=Ke l a b i;refine⟨by omega,nb, ?_⟩;refine ae (λh3 => ?_) (λh3 => ?_)
   ·have ct:i<l.length:=by omega
    have hp:=List.getElem?_eq_getElem ct;generalize l[i]=p at hp;obtain⟨c0,c1,c2⟩:=hc i p hp;refine⟨gT,by omega,by omega,_,c0, ?_⟩;refine ae (λh4 => ?_) (λh4 => ?_)
    ·refine⟨gT,by omega,by omega,_,c0, ?_⟩;refine ae (λh5 => ?_) (λh5 => ?_)
     ·refine⟨gT,by omega,by omega,_,c0, ?_⟩;rintro _ rfl;refine⟨by omega, ?_⟩;rintro _ rfl;rw [uG i (by omega)];refine⟨⟨i+1,by omega, ?_⟩,by simp only [ky];omega⟩;rw [Ic hp h4 h5,List.flatMap_append];simp only [List.append_nil]at e0;rw [e0];rfl
     ·rintro _ rfl;rw [uG i (by omega)];refine⟨⟨i+1,by omega, ?_⟩,by simp only [ky];omega⟩;rw [Rx hp (by omega),e0]
    ·rintro _ rfl;rw [uG i (by omega)];refine⟨⟨i+1,by omega, ?_⟩,by simp only [ky];omega⟩;rw [Rx hp (by omega),e0]
   ·obtain rfl:i=l.length:=by omega
    have hI:=Ie (i:=l.length) hl ha Cx;have jF:look l a b=fit (lT ((lA l a b l.length).map λx=>(cF l false x).1)) (lU ((lA l a b l.length).map λx=>(cF l true x).2)):=if_pos ⟨h1,h2⟩
    have b1:∀y∈(lA l a b l.length).map λx=>(cF l false x).1,-42535295865117307932921825928971026432<=y/\y<=42535295865117307932921825928971026432:=λy hy=>by
     obtain⟨x,hx,rfl⟩:=List.mem_map.1 hy;exact (AA h1 false x (hI x hx)).2.1
    have b2:∀y∈(lA l a b l.length).map λx=>(cF l true x).2,-42535295865117307932921825928971026432<=y/\y<=42535295865117307932921825928971026432:=λy hy=>by
     obtain⟨x,hx,rfl⟩:=List.mem_map.1 hy;exact (AA h1 true x (hI x hx)).2.2
    have u9:2<=(lA l a b l.length).length:=by unfold lA;simp
    rw [jF];clear jF;generalize lA l a b l.length=pl at *;have hN:(((0+(l0.length+0)) / 1:Nat):Int)=(pl.length:Int):=by rw [hlen];simp
    rw [hN]
    have cell:∀(k:Nat) (x:Int),pl[k]? = some x->(l0.map (·.1)++([]:List Value))[k*1+0]? = some (.int .i64 x):=λk x hk=>by
     rw [e0];exact zm Ii hk (by decide)
    refine⟨λy=>∃(k:Nat) (lo hi:Int),k<=pl.length/\(k=0->lo=0/\hi=0)/\(0<k->lo=lT ((pl.take k).map λx=>(cF l false x).1)/\hi=lU ((pl.take k).map λx=>(cF l true x).2))/\y=[.i (k:Int),.i (cc lo),.i (cA lo),.i (cc hi),.i (cA hi)],
     lr (pl.length:Int),⟨0,0,0,by omega,λ_=>⟨rfl,rfl⟩,λh=>by omega,by simp only [xF,xG];rfl⟩, ?_⟩
    rintro x7 x8 x9 az aA ⟨k,lo,hi,hk,hz,hm,hy⟩;simp only [List.cons.injEq,Vc.Vl.i.injEq,and_true]at hy;obtain⟨rfl,rfl,rfl,rfl,rfl⟩:=hy;rintro _ rfl;refine ae (λh4 => ?_) (λh4 => ?_)
    ·have j8:k<pl.length:=by omega
     have hx:=List.getElem?_eq_getElem j8;generalize pl[k]=x at hx;have V9:=hI x (List.mem_of_getElem? hx);have RG:pl.take (k+1)=pl.take k ++ [x]:=by rw [List.take_add_one,hx];rfl
     rintro _ rfl;refine⟨by omega,by omega,_,cell k x hx, ?_⟩
     (repeat apply Exists.intro);refine And.intro (λ_ _=>Ib (zg (by assumption) h0) h1 false x V9) ?_
     rintro _ rfl;refine⟨by omega,by omega,_,cell k x hx, ?_⟩
     (repeat apply Exists.intro);refine And.intro (λ_ _=>Ib (zg (by assumption) h0) h1 true x V9) ?_
     refine ae (λh5 => ?_) (λh5 => ?_)
     ·refine ae (λ_ => ?_) (λh6=>absurd h5 h6);rintro _ rfl;rw [uG k (by omega)];obtain rfl:k=0:=by omega
      refine⟨⟨1,(cF l false x).1,(cF l true x).2,by omega,λh=>by omega,λ_ => ?_,rfl⟩,by simp only [lr];omega⟩;rw [show (1:Nat)=0+1 from rfl,RG];simp [lT,lU]
     ·have oc:0<k:=by omega
      obtain⟨m1,m2⟩:=hm oc
      have ne1:(pl.take k).map (λx=>(cF l false x).1) ≠ []:=by
       intro he
       have:=congrArg List.length he
       rw [List.length_map,List.length_take,List.length_nil]at this;omega
      have ne2:(pl.take k).map (λx=>(cF l true x).2) ≠ []:=by
       intro he
       have:=congrArg List.length he
       rw [List.length_map,List.length_take,List.length_nil]at this;omega
      have s1:lT ((pl.take (k+1)).map λx=>(cF l false x).1)=min lo (cF l false x).1:=by rw [RG,List.map_append,m1];exact Ry ne1 _
      have s2:lU ((pl.take (k+1)).map λx=>(cF l true x).2)=max hi (cF l true x).2:=by rw [RG,List.map_append,m2];exact Rz ne2 _
      (repeat apply Exists.intro);refine And.intro (λ_ _=>uz _ _ _) ?_
      refine ae (λc1 => ?_) (λc1 => ?_)
      all_goals
       refine ae (λh6=>absurd h6 h5) (λ_ => ?_)
       (repeat apply Exists.intro);refine And.intro (λ_ _=>uz _ _ _) ?_
       refine ae (λc2 => ?_) (λc2 => ?_)
       all_goals
        simp only [decide_eq_true_eq]at c1 c2;rintro _ rfl;rw [uG k (by omega)];refine⟨⟨k+1,_,_,by omega,λh=>by omega,λ_=>⟨?_, ?_⟩,rfl⟩,by simp only [lr];omega⟩
        ·rw [s1];omega
        ·rw [s2];omega
    ·have j8:k=pl.length:=by omega
     obtain⟨m1,m2⟩:=hm (by omega);rw [j8,List.take_length]at m1 m2;have g1:=RC (B:=42535295865117307932921825928971026432) (by decide) b1;have g2:=RD (B:=42535295865117307932921825928971026432) (by decide) b2;rw [<-m1]at g1;rw [<-m2]at g2
     (repeat apply Exists.intro);refine And.intro (λ_ _=>Oz _ _ _ (by constructor<;>omega) (by constructor<;>omega)) ?_
     rw [m1,m2]
  ·unfold look;rw [if_neg (λhx=>h2 hx.2)]
 ·unfold look;rw [if_neg (λhx=>h1 hx.1)]
end Go.Proofs.YtkbchjlnhgfpmaaGreatDoor
