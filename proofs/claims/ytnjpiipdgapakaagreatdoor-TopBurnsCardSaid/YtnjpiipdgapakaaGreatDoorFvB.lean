import Derived.Test.YtnjpiipdgapakaaGreatDoorFvA
import Derived.Test.YtnjpiipdgapakaaGreatDoorFvG3
import Derived.WalkKit
import Derived.ProofKit
import Derived.OpenShut
import Derived.Lib.SmallJoins
set_option linter.unusedVariables false
set_option linter.unusedSimpArgs false
namespace Go.Proofs.YtnjpiipdgapakaaGreatDoor
open Go Go.RowKit Go.ChangeShapes Go.WideShapes Go.ChangeAt Go.Joins Ul Vc
def ym(n:Int):List Vc.Vl->Nat
 |_ :: .i x::_=>(n-x).toNat
 |_=>0
theorem GC(i:Nat)(h:i<1000000):IntKind.i64.wrap ((i:Int)+1)=((i+1:Nat):Int):=by rw [Vc.zx (by omega)];omega
section
variable {H:Type} {enc:TypeId × Value->H} {P:Program} {w:World} {base:Nat} {sp:Nat->Bool} {held:Bool}
end
section
variable {H:Type} {enc:TypeId × Value->H} {w:World} {base:Nat} {sp:Nat->Bool} {held:Bool}
end
end Go.Proofs.YtnjpiipdgapakaaGreatDoor
set_option linter.unusedVariables false
namespace Go.Proofs.YtnjpiipdgapakaaGreatDoor
open Go Go.RowKit Ul Vc
attribute [local irreducible] Go.Calls
abbrev Sp:=Int × Int
def sc(p:Sp):List Value := [.int .i64 p.1,.int .i64 p.2]
theorem Ep(p:Sp):(sc p).length=2:=rfl
def xe(w:World)(v:Value)(l:List Sp):Prop:=gP w v 2 (l.flatMap sc)
theorem Au{w:World}{v:Value}{l:List Sp}(h:xe w v l):∃(b0:Bool) (p0:Nat × Nat) (x1:Int),v=(if b0=true then .slice none 0 0 else .slice (some (Vc.bR p0 (Int.toNat (l.length:Int)) x1.toNat)) (Int.toNat (l.length:Int)) x1.toNat)/\(b0=true->l.length=0) /\
  ∀(i:Nat) (p:Sp),l[i]? = some p->w.cell? ⟨p0.1,p0.2+i*2+0,none⟩=some (.int .i64 p.1)/\w.cell? ⟨p0.1,p0.2+i*2+1,none⟩=some (.int .i64 p.2):=by
 obtain⟨b0,p0,x1,h1,h2,h3⟩:=GB h (by decide) (vN Ep l);refine⟨b0,p0,x1,h1,h2,λi p hp => ?_⟩;simp only [Nat.add_assoc];exact⟨h3 (i*2+0) _ (zm Ep hp (by decide)),h3 (i*2+1) _ (zm Ep hp (by decide))⟩
def iY(l:List Sp):Int:=if l.all (λp=>ok p.1 p.2)=true then 0 else 2
def pL(l:List Sp):Int:=if 64<l.length then 3 else iY l
theorem QQ{l:List Sp}{i:Nat}{p:Sp}(hp:l[i]? = some p)(h:¬jW p.1 p.2=0):iY l=2/\jW p.1 p.2=2:=by
 have h1:=vM h;unfold iY;rw [if_neg λha=>h1.1 (List.all_eq_true.1 ha p (List.mem_of_getElem? hp))];exact⟨rfl,h1.2⟩
theorem Lj{l:List Sp}(h:∀j p,j<l.length->l[j]? = some p->jW p.1 p.2=0):iY l=0:=by
 unfold iY;rw [if_pos];refine List.all_eq_true.2 λp hp => ?_;obtain⟨j,hj⟩:=List.getElem?_of_mem hp;exact fk (h j p (List.getElem?_eq_some_iff.1 hj).1 hj)
theorem Er(l:List Sp):iY l=0∨iY l=2:=by unfold iY;split<;>simp
theorem Av{w:World}{v:Value}{l:List Sp}(h:xe w v l)(hn:l.length<1000):Calls Tryz.prog 37 #[v] w (Vc.aw (.int .i64 (iY l)) w):=by
 obtain⟨b0,p0,x1,rfl,hb,hc⟩:=Au h;clear h
 have nb:(¬(b0=true))∨((l.length:Int)=0):=by
  by_cases dU:b0=true
  ·right;have:=hb dU;omega
  ·left;exact dU
 refine UP p0 (l.length:Int) x1 b0 w _ ?_;refine⟨by omega,nb, ?_⟩;refine⟨λy=>∃(x:Int) (i:Nat),i<=l.length/\(∀j p,j<i->l[j]? = some p->jW p.1 p.2=0)/\y=[.i x,.i (i:Int)],ym (l.length:Int),⟨0,0,by omega,λj p hj=>by omega,rfl⟩, ?_⟩;rintro x2 x3 ⟨x,i,hi,hg,hy⟩;simp only [List.cons.injEq,Vc.Vl.i.injEq,and_true]at hy;obtain⟨rfl,rfl⟩:=hy;refine af (λh2 => ?_) (λh2 => ?_)
 ·have cw:i<l.length:=by omega
  have hp:=List.getElem?_eq_getElem cw;have qK:=List.drop_eq_getElem_cons cw;generalize l[i]=p at hp qK;obtain⟨c0,c1⟩:=hc i p hp;have Es:¬(b0=true):=λdU=>by have:=hb dU;omega
  refine⟨Es,by omega,by omega,_,c0,_,c1, ?_⟩
  (repeat apply Exists.intro);refine And.intro (λ_ _=>zj _ _ _) ?_
  refine af (λa1 => ?_) (λa1 => ?_)
  ·rintro _ rfl;rw [GC i (by omega)];refine⟨⟨_,i+1,by omega,λj q hj hq => ?_,rfl⟩,by simp only [ym];omega⟩;by_cases PG:j=i
   ·subst PG;rw [hp]at hq;cases hq;assumption
   ·exact hg j q (by omega) hq
  ·rw [(QQ hp a1).1,(QQ hp a1).2]
 ·rw [Lj λj p hj hp=>hg j p (by omega) hp]
theorem Lk{b:Nat}{t:TypeId}{v:Value}{l:List Sp}{w:World}(dU:w.heap[b]? = some (.cells #[v] t))(h:xe w v l):Calls Tryz.prog 100 #[.slice (some ⟨b,0,none⟩) 1 1] w (Vc.aw (.int .i64 (pL l)) w):=by
 have h0:=h;obtain⟨b0,p0,x1,rfl,hb,hc⟩:=Au h;clear h
 have nb:(¬(b0=true))∨((l.length:Int)=0):=by
  by_cases dU:b0=true
  ·right;have:=hb dU;omega
  ·left;exact dU
 have fB:w.cell? ⟨b,0,none⟩=some (if b0=true then .slice none 0 0 else .slice (some (Vc.bR p0 (Int.toNat (l.length:Int)) x1.toNat)) (Int.toNat (l.length:Int)) x1.toNat):=by simp [World.cell?,dU]
 unfold pL;refine UQ (b,0) w _ ?_;refine⟨b0,p0,(l.length:Int),x1,fB,by omega,nb, ?_⟩;refine af (λh1 => ?_) (λh1 => ?_)
 ·rw [if_pos (by omega)]
 ·rw [if_neg (by omega)];refine⟨b0,p0,(l.length:Int),x1,fB, ?_⟩
  (repeat apply Exists.intro);refine And.intro (λ_ _=>Av (sV (by assumption) h0) (by omega)) ?_
  refine af (λh2 => ?_) (λh2 => ?_)
  ·rw [h2]
  ·rfl
def mi(l m:List Sp):Int:=if 64<l.length∨64<m.length then 3 else if iY l=0 then iY m else iY l
theorem Ll{b:Nat}{t:TypeId}{v u:Value}{l m:List Sp}{w:World}(dU:w.heap[b]? = some (.cells #[v,u] t))(h:xe w v l)(h':xe w u m):Calls Tryz.prog 100 #[.slice (some ⟨b,0,none⟩) 2 2] w (Vc.aw (.int .i64 (mi l m)) w):=by
 have h0:=h;have Aw:=h';obtain⟨b0,p0,x1,rfl,hb,hc⟩:=Au h;obtain⟨b1,p1,y1,rfl,eG,QR⟩:=Au h';clear h h'
 have nb:(¬(b0=true))∨((l.length:Int)=0):=by
  by_cases dU:b0=true
  ·right;have:=hb dU;omega
  ·left;exact dU
 have Lm:(¬(b1=true))∨((m.length:Int)=0):=by
  by_cases gd:b1=true
  ·right;have:=eG gd;omega
  ·left;exact gd
 have fB:w.cell? ⟨b,0,none⟩=some (if b0=true then .slice none 0 0 else .slice (some (Vc.bR p0 (Int.toNat (l.length:Int)) x1.toNat)) (Int.toNat (l.length:Int)) x1.toNat):=by simp [World.cell?,dU]
 have va:w.cell? ⟨b,1,none⟩=some (if b1=true then .slice none 0 0 else .slice (some (Vc.bR p1 (Int.toNat (m.length:Int)) y1.toNat)) (Int.toNat (m.length:Int)) y1.toNat):=by simp [World.cell?,dU]
 unfold mi;refine UR (b,0) w _ ?_;refine⟨b0,p0,(l.length:Int),x1,fB,by omega,nb, ?_⟩;refine af (λh1 => ?_) (λh1 => ?_)
 ·rw [if_pos (by omega)]
 ·refine⟨b1,p1,(m.length:Int),y1,va,by omega,Lm, ?_⟩;refine af (λh2 => ?_) (λh2 => ?_)
  ·rw [if_pos (by omega)]
  ·rw [if_neg (by omega)];refine⟨b0,p0,(l.length:Int),x1,fB, ?_⟩
   (repeat apply Exists.intro);refine And.intro (λ_ _=>Av (sV (by assumption) h0) (by omega)) ?_
   refine af (λh3 => ?_) (λh3 => ?_)
   ·rw [if_pos h3];refine⟨b1,p1,(m.length:Int),y1,va, ?_⟩
    (repeat apply Exists.intro);refine And.intro (λ_ _=>Av (sV (by assumption) Aw) (by omega)) ?_
    refine af (λh4 => ?_) (λh4 => ?_)
    ·rw [h4]
    ·rfl
   ·rw [if_neg h3]
def kp{α:Type}(f:α->R):List α->Int->Int->R
 | [],a,b=>(a,b,0)
 |p::r,a,b=>if (f p).2.2=0 then (if (add a b (f p).1 (f p).2.1).2.2=0 then kp f r (add a b (f p).1 (f p).2.1).1 (add a b (f p).1 (f p).2.1).2.1 else (0,0,(add a b (f p).1 (f p).2.1).2.2))else (0,0,(f p).2.2)
theorem Et{α:Type}{f:α->R}{p:α}{r:List α}{a b:Int}(h1:(f p).2.2=0)(h2:(add a b (f p).1 (f p).2.1).2.2=0):kp f (p::r) a b=kp f r (add a b (f p).1 (f p).2.1).1 (add a b (f p).1 (f p).2.1).2.1:=by
 simp only [kp,if_pos h1,if_pos h2]
theorem QS{α:Type}{f:α->R}{p:α}{r:List α}{a b:Int}(h1:(f p).2.2=0)(h2:¬(add a b (f p).1 (f p).2.1).2.2=0):kp f (p::r) a b=(0,0,(add a b (f p).1 (f p).2.1).2.2):=by
 simp only [kp,if_pos h1,if_neg h2]
theorem Eu{α:Type}{f:α->R}{p:α}{r:List α}{a b:Int}(h1:¬(f p).2.2=0):kp f (p::r) a b=(0,0,(f p).2.2):=by
 simp only [kp,if_neg h1]
def Ax(r:R):Prop:=cP r.1/\cP r.2.1
theorem Ay(x y:Int):Ax (fit x y):=by
 unfold fit Ax;split
 ·constructor<;>constructor<;>simp only<;>omega
 ·constructor<;>constructor<;>simp
theorem vb(e:Int):Ax (0,0,e):=by constructor<;>constructor<;>simp
theorem GD(a b c d:Int):Ax (add a b c d):=by
 unfold add;split
 ·exact Ay _ _
 ·exact vb _
theorem Ev(a b c d:Int):Ax (mul a b c d):=by
 unfold mul;split
 ·exact Ay _ _
 ·exact vb _
theorem Ln(a b:Int):Ax (kj a b):=by
 unfold kj;split
 ·exact Ev _ _ _ _
 ·exact vb _
def yn(l:List Sp):R:=kp (λp:Sp=>kj p.1 p.2) l 0 0
def mj(l:List Sp):R:=if pL l=0 then (if (yn l).2.2=0 then root (yn l).1 (yn l).2.1 else (0,0,(yn l).2.2))else (0,0,pL l)
theorem Lo{l:List Sp}(h:pL l=0):l.length<=64:=by
 unfold pL at h;split at h
 ·cases h
 ·omega
theorem QT{l:List Sp}(h:pL l=0)(h2:¬(yn l).2.2=0):mj l=(0,0,(yn l).2.2):=by unfold mj;rw [if_pos h,if_neg h2]
theorem Lp{l:List Sp}(h:pL l=0){a b:Int}(h2:yn l=(a,b,0)):mj l=root a b:=by unfold mj;rw [if_pos h,h2];rfl
theorem Lq{w:World}{v:Value}{l:List Sp}(h:xe w v l)(hl:∀p∈l,cP p.1/\cP p.2):Calls Tryz.prog 72 #[v] w (Vc.aw (Vc.RV (mj l)) w):=by
 have h0:=h;obtain⟨b0,p0,x1,rfl,hb,hc⟩:=Au h;clear h
 have nb:(¬(b0=true))∨((l.length:Int)=0):=by
  by_cases dU:b0=true
  ·right;have:=hb dU;omega
  ·left;exact dU
 refine US p0 (l.length:Int) x1 b0 w _ ?_;refine⟨_,λ_ _ GF hm=>Lk hm.1.2 (sV GF h0), ?_⟩;refine af (λh1 => ?_) (λh1 => ?_)
 ·have hn:=Lo h1;refine⟨by omega,nb, ?_⟩;refine⟨λy=>∃(i:Nat) (a b:Int),i<=l.length/\yn l=kp (λp:Sp=>kj p.1 p.2) (l.drop i) a b/\cP a/\cP b/\y=[.i (i:Int),.i a,.i b],pK (l.length:Int),⟨0,0,0,by omega,rfl,by constructor<;>decide,by constructor<;>decide,rfl⟩, ?_⟩;rintro x3 x4 x5 ⟨i,a,b,hi,hg,ia,ib,hy⟩;simp only [List.cons.injEq,Vc.Vl.i.injEq,and_true]at hy;obtain⟨rfl,rfl,rfl⟩:=hy;refine af (λh2 => ?_) (λh2 => ?_)
  ·have cw:i<l.length:=by omega
   have hp:=List.getElem?_eq_getElem cw;have qK:=List.drop_eq_getElem_cons cw;generalize l[i]=p at hp qK;obtain⟨c0,c1⟩:=hc i p hp;have Es:¬(b0=true):=λdU=>by have:=hb dU;omega
   have QU:=hl p (List.mem_of_getElem? hp);have sI:=Ln p.1 p.2;rw [qK]at hg;refine⟨Es,by omega,by omega,_,c0,_,c1, ?_⟩
   (repeat apply Exists.intro);refine And.intro (λ_ _=>U_ _ _ _ QU.1 QU.2) ?_
   refine af (λh3 => ?_) (λh3 => ?_)
   ·(repeat apply Exists.intro);refine And.intro (λ_ _=>Eb _ _ _ _ _ ia ib sI.1 sI.2) ?_
    refine af (λh4 => ?_) (λh4 => ?_)
    ·rintro _ rfl;rw [GC i (by omega)];refine⟨⟨i+1,_,_,by omega,hg.trans (Et h3 h4),(GD _ _ _ _).1,(GD _ _ _ _).2,rfl⟩,by simp only [pK];omega⟩
    ·refine af (λh5=>absurd h5 h4) (λ_ => ?_);have e:=hg.trans (QS h3 h4);rw [QT h1 (by rw [e];exact h4),e]
   ·refine af (λh5=>absurd h5 h3) (λ_ => ?_);refine af (λh5=>absurd h5 h3) (λ_ => ?_);have e:=hg.trans (Eu h3);rw [QT h1 (by rw [e];exact h3),e]
  ·have:l.drop i=[]:=List.drop_of_length_le (by omega)
   rw [this]at hg
   (repeat apply Exists.intro);refine And.intro (λ_ _=>Lc _ _ _ ia ib) ?_
   rw [Lp h1 hg]
 ·unfold mj;rw [if_neg h1]
end Go.Proofs.YtnjpiipdgapakaaGreatDoor
set_option linter.unusedVariables false
namespace Go.Proofs.YtnjpiipdgapakaaGreatDoor
open Go Go.RowKit Ul Vc
attribute [local irreducible] Go.Calls
def qc(x:Sp × Sp):List Value := [.int .i64 x.1.1,.int .i64 x.1.2,.int .i64 x.2.1,.int .i64 x.2.2]
theorem Ew(x:Sp × Sp):(qc x).length=4:=rfl
def z4:List Value := [.int .i64 0,.int .i64 0,.int .i64 0,.int .i64 0]
def Az(x:Sp × Sp):R:=mul x.1.1 x.1.2 x.2.1 x.2.2
def qL(l m:List Sp):R:=if 64<l.length∨64<m.length then (0,0,3)else if iY l=0/\iY m=0/\l.length=m.length then kp Az (l.zip m) 0 0 else (0,0,2)
theorem Lr{A:List Value}{x:Sp × Sp}{i k:Nat}(h:A.length=i*4):(A++times z4 (k+1)).take (i*4+0)++qc x++(A++times z4 (k+1)).drop (i*4+0+4)=A++qc x++times z4 k:=by
 have h1:(A++times z4 (k+1)).take (i*4+0)=A:=by
  rw [Nat.add_zero,<-h];simp
 have h2:(A++times z4 (k+1)).drop (i*4+0+4)=times z4 k:=by
  rw [Nat.add_zero,<-h,<-List.drop_drop];simp [times,z4]
 rw [h1,h2]
theorem Ls{l m:List Sp}(h:mi l m=0):l.length<=64/\m.length<=64/\iY l=0/\iY m=0:=by
 unfold mi at h;split at h
 ·cases h
 ·split at h
  ·exact⟨by omega,by omega,by assumption,h⟩
  ·exact absurd h (by assumption)
theorem Lt{l m:List Sp}(h:¬mi l m=0):qL l m=(0,0,mi l m):=by
 unfold mi at h ⊢;unfold qL;split
 ·rfl
 ·rename_i h1;rw [if_neg h1]at h;rcases Er l with e|e<;>rcases Er m with e'|e'<;>simp [e,e']at h ⊢
theorem Lu{l m:List Sp}{i:Nat}{p q:Sp}(hp:l[i]? = some p)(hq:m[i]? = some q):(l.zip m)[i]? = some (p,q):=by
 rw [List.getElem?_zip_eq_some];exact⟨hp,hq⟩
theorem Lv{w:World}{v u:Value}{l m:List Sp}(h:xe w v l)(h':xe w u m)(hl:∀p∈l,cP p.1/\cP p.2)(uK:∀p∈m,cP p.1/\cP p.2):Calls Tryz.prog 89 #[v,u] w (Vc.aw (Vc.RV (qL l m)) w):=by
 have h0:=h;have Aw:=h';obtain⟨b0,p0,x1,rfl,hb,hc⟩:=Au h;obtain⟨b1,p1,y1,rfl,eG,QR⟩:=Au h';clear h h'
 have nb:(¬(b0=true))∨((l.length:Int)=0):=by
  by_cases dU:b0=true
  ·right;have:=hb dU;omega
  ·left;exact dU
 have Lm:(¬(b1=true))∨((m.length:Int)=0):=by
  by_cases gd:b1=true
  ·right;have:=eG gd;omega
  ·left;exact gd
 refine UT p0 p1 (l.length:Int) x1 (m.length:Int) y1 b0 b1 w _ ?_;refine⟨_,λ_ _ GF hm=>Ll hm.1.2 (sV GF h0) (sV GF Aw), ?_⟩;refine af (λh1 => ?_) (λh1 => ?_)
 ·obtain⟨k1,k2,k3,k4⟩:=Ls h1;refine⟨by omega,nb,by omega,Lm, ?_⟩;refine af (λh2 => ?_) (λh2 => ?_)
  ·have j_:m.length=l.length:=by omega
   have hd:qL l m=kp Az (l.zip m) 0 0:=by unfold qL;rw [if_neg (by omega),if_pos ⟨k3,k4,by omega⟩]
   have Va:(l.zip m).length=l.length:=by rw [List.length_zip];omega
   refine⟨by omega,nb,by omega,by omega, ?_⟩;intro l0 e0;refine⟨by omega,nb, ?_⟩;refine⟨λy=>∃i:Nat,i<=l.length/\y=[.i (i:Int),.l (((l.zip m).take i).flatMap qc++times z4 (l.length-i))],pK (l.length:Int),⟨0,by omega,by rw [List.append_nil,e0];rfl⟩, ?_⟩;rintro x5 l1 ⟨i,hi,hy⟩;simp only [List.cons.injEq,Vc.Vl.i.injEq,Vc.Vl.l.injEq,and_true]at hy;obtain⟨rfl,e1⟩:=hy;rw [List.append_nil]at e1;have QW:(((l.zip m).take i).flatMap qc).length=i*4:=by rw [vN Ew,List.length_take,Va,Nat.min_eq_left hi]
   have hlen:l1.length=l.length*4:=by
    have:=congrArg List.length e1
    rw [List.length_map,List.length_append,QW,CQ]at this;have hz:z4.length=4:=rfl;rw [hz]at this;omega
   have hN:(((0+(l1.length+0)) / 4:Nat):Int)=(l.length:Int):=by rw [hlen];omega
   rw [hN];refine af (λh3 => ?_) (λh3 => ?_)
   ·have cw:i<l.length:=by omega
    have hp:=List.getElem?_eq_getElem cw;have qK:=List.drop_eq_getElem_cons cw;generalize l[i]=p at hp qK;obtain⟨c0,c1⟩:=hc i p hp;have Es:¬(b0=true):=λdU=>by have:=hb dU;omega
    have hq:=List.getElem?_eq_getElem (show i<m.length by omega);generalize m[i]=q at hq;obtain⟨d0,d1⟩:=QR i q hq;have Vb:¬(b1=true):=λgd=>by have:=eG gd;omega
    refine⟨Es,by omega,by omega,_,c0,_,c1,Vb,by omega,by omega,_,d0,_,d1, ?_⟩;rintro _ rfl;refine⟨by omega,by omega, ?_⟩;rintro _ rfl;refine⟨by omega,by omega, ?_⟩;intro l2 e2;rintro _ rfl;rw [GC i (by omega)];refine⟨⟨i+1,by omega, ?_⟩,by simp only [pK];omega⟩;have hk:l.length-i=(l.length-(i+1))+1:=by omega
    rw [List.append_nil,e1,hk]at e2;have e3:=Lr (x:=(p,q)) (k:=l.length-(i+1)) QW;have e4:(l.zip m).take (i+1)=(l.zip m).take i ++ [(p,q)]:=by rw [List.take_add_one,Lu hp hq];rfl
    rw [List.append_nil,e4,List.flatMap_append];rw [show l2.map (·.1)=_ from e2.trans e3];simp
   ·obtain rfl:i=l.length:=by omega
    have e5:l1.map (·.1)=(l.zip m).flatMap qc:=by
     rw [e1,List.take_of_length_le (by omega),Nat.sub_self];simp [times]
    have cell:∀(k o:Nat) (x:Sp × Sp) (u:Value),(l.zip m)[k]? = some x->o<4->(qc x)[o]? = some u->(l1.map (·.1)++([]:List Value))[k*4+o]? = some u:=λk o x u hx ho hu=>by
     rw [List.append_nil,e5,zm Ew hx ho];exact hu
    rintro _ rfl;refine⟨λy=>∃(k:Nat) (a b:Int),k<=l.length/\qL l m=kp Az ((l.zip m).drop k) a b/\cP a/\cP b/\y=[.i (k:Int),.i a,.i b],pK (l.length:Int),⟨0,0,0,by omega,hd,by constructor<;>decide,by constructor<;>decide,rfl⟩, ?_⟩;rintro x7 x8 x9 ⟨k,a,b,hk,hg,ia,ib,hy⟩;simp only [List.cons.injEq,Vc.Vl.i.injEq,and_true]at hy;obtain⟨rfl,rfl,rfl⟩:=hy;refine af (λh4 => ?_) (λh4 => ?_)
    ·have Gg:k<(l.zip m).length:=by omega
     have hx:=List.getElem?_eq_getElem Gg;have qK:=List.drop_eq_getElem_cons Gg;generalize (l.zip m)[k]=x at hx qK;obtain⟨QX,QY⟩:=x;obtain⟨g1,g2⟩:=List.getElem?_zip_eq_some.1 hx;have i1:=hl _ (List.mem_of_getElem? g1);have i2:=uK _ (List.mem_of_getElem? g2);have mI:=Ev QX.1 QX.2 QY.1 QY.2;rw [qK]at hg;rintro _ rfl;refine⟨by omega,by omega,_,cell k 0 _ _ hx (by decide) rfl,_,cell k 1 _ _ hx (by decide) rfl,_,cell k 2 _ _ hx (by decide) rfl,_,cell k 3 _ _ hx (by decide) rfl, ?_⟩
     (repeat apply Exists.intro);refine And.intro (λ_ _=>xd _ _ _ _ _ i1.1 i1.2 i2.1 i2.2) ?_
     refine af (λh5 => ?_) (λh5 => ?_)
     ·(repeat apply Exists.intro);refine And.intro (λ_ _=>Eb _ _ _ _ _ ia ib mI.1 mI.2) ?_
      refine af (λh6 => ?_) (λh6 => ?_)
      ·rintro _ rfl;rw [GC k (by omega)];refine⟨⟨k+1,_,_,by omega,hg.trans (Et h5 h6),(GD _ _ _ _).1,(GD _ _ _ _).2,rfl⟩,by simp only [pK];omega⟩
      ·rw [hg.trans (QS h5 h6)];rfl
     ·refine af (λh6=>absurd h6 h5) (λ_ => ?_);rw [hg.trans (Eu h5)];rfl
    ·have:(l.zip m).drop k=[]:=List.drop_of_length_le (by omega)
     rw [hg,this];rfl
  ·unfold qL;rw [if_neg (by omega),if_neg (λhx=>h2 (by omega))]
 ·rw [Lt h1]
section
open Go.ChangeShapes Go.WideShapes Go.ChangeAt Go.Joins
variable {H:Type} {enc:TypeId × Value->H} {base:Nat} {sp:Nat->Bool} {held:Bool}
end
end Go.Proofs.YtnjpiipdgapakaaGreatDoor
