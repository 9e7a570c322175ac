import Derived.Test.YtkbchjlnhgfpmaaGreatDoorQa
set_option linter.unusedVariables false
set_option linter.unusedSimpArgs false
namespace Go.Proofs.YtkbchjlnhgfpmaaGreatDoor
open Go Go.RowKit Vc
attribute [local irreducible] Go.Calls
theorem HK{x d k:Int}(hd:0<d)(h1:d*k<=x)(h2:x<d*k+d):x / d=k:=by
 have a1:k<=x / d:=(Int.le_ediv_iff_mul_le hd).2 (by rw [Int.mul_comm];exact h1);have a2:x / d<k+1:=(Int.ediv_lt_iff_lt_mul hd).2 (by rw [Int.mul_comm,Int.mul_add];omega);omega
def xZ(n d:Int):Int × Int:=if -9223372036854775807<=n*4294967296 / d/\n*4294967296 / d<=9223372036854775807 then (n*4294967296 / d,0)else (0,4)
def ly(n d k s t:Int):Int × Int:=if om n d k s t=true then xZ n d else (0,2)
theorem Dt{n d k s t:Int}(hc:om n d k s t=true)(h:¬(-9223372036854775807<=n*4294967296 / d/\n*4294967296 / d<=9223372036854775807)):ly n d k s t=(0,4):=by
 unfold ly xZ;rw [if_pos hc,if_neg h]
theorem HL{n d k s t:Int}(hc:om n d k s t=true)(h1:-9223372036854775807<=n*4294967296 / d)(h2:n*4294967296 / d<=9223372036854775807):ly n d k s t=(n*4294967296 / d,0):=by
 unfold ly xZ;rw [if_pos hc,if_pos ⟨h1,h2⟩]
theorem HM{n d k s t:Int}(hc:¬om n d k s t=true):ly n d k s t=(0,2):=by
 unfold ly;rw [if_neg hc]
abbrev NE(r:Int × Int):Value := .tuple #[.int .i64 r.1,.int .i64 r.2]
theorem QU(n d k s t:Int)(w:World):Calls Tryz.prog 15 #[QV n d k s t] w (Vc.aI (NE (ly n d k s t)) w):=by
 refine YR n d k s t w _ ⟨_,λw' _=>OS n d k s t w', ?_⟩;refine ae (λhc => ?_) (λhc=>by rw [HM hc]);obtain⟨⟨n1,n2⟩,d1,d2,_⟩:=Ac hc;have mW:0<d:=by omega
 obtain⟨A,hA⟩:∃A:Int,A=if IntKind.i64.wrap (0-n) > n then IntKind.i64.wrap (0-n)else n:=⟨_,rfl⟩;have hw0:IntKind.i64.wrap (0-n) = -n:=by rw [zb (by omega)];omega
 have hA2:(0<=n/\A=n)\/(n<0/\A = -n):=by rw [hw0]at hA;split at hA<;>omega
 rintro x5 vT x6 sf x7 tx x8 J1 x9 hx9 az Ao;rw [vT]at sf;rw [<-hA]at sf;replace sf:=sf.symm;subst sf;rw [Jw (by omega)]at tx;replace tx:=tx.symm;subst tx;rw [Jw (by omega)]at Ao;replace Ao:=Ao.symm;subst Ao;have aad:x9=(A*4294967296) % 18446744073709551616:=by rw [hx9,Ul.aD]
 refine ae (λhh => ?_) (λhh => ?_)
 ·rw [Dt hc];have hAd:d*4294967296<=A:=by omega
  rcases hA2 with ⟨h0,e⟩|⟨h0,e⟩
  ·have:18446744073709551616<=n*4294967296 / d:=(Int.le_ediv_iff_mul_le mW).2 (by omega)
   omega
  ·have:n*4294967296 / d < -9223372036854775807:=(Int.ediv_lt_iff_lt_mul mW).2 (by omega)
   omega
 ·rintro aA Ap;rw [Jw (by omega)]at Ap;replace Ap:=Ap.symm;subst Ap;have hT:x8*18446744073709551616+x9=A*4294967296:=by omega
  obtain⟨q,hq⟩:∃q,q=A*4294967296 / d:=⟨_,rfl⟩;obtain⟨r,hr⟩:∃r,r=A*4294967296 % d:=⟨_,rfl⟩;have h3:d*q+r=A*4294967296:=by rw [hq,hr];exact Int.mul_ediv_add_emod _ _
  have r0:0<=r:=by rw [hr];exact Int.emod_nonneg _ (by omega)
  have r1:r<d:=by rw [hr];exact Int.emod_lt_of_pos _ mW
  have q0:0<=q:=by rw [hq];exact Int.ediv_nonneg (by omega) (by omega)
  have q1:q<18446744073709551616:=by rw [hq];exact (Int.ediv_lt_iff_lt_mul mW).2 (by omega)
  refine⟨q,r,λw' _=>(Vf x8 x9 d w' (by omega) (by omega) (by omega) (by omega) (by omega)).mono ?_, ?_⟩
  ·rintro e w2 he;rw [hT,<-hq,<-hr]at he;exact he
  have em:d*(-q) = -(d*q):=Int.mul_neg d q;have V1:d*(-(q+1)) = -(d*q)-d:=by rw [Int.mul_neg,Int.mul_add];omega
  refine ae (λh0 => ?_) (λh0 => ?_)
  ·refine ae (λAS => ?_) (λAS => ?_)
   ·have mq:q+1<18446744073709551616:=by
     by_cases h:q+1<18446744073709551616
     ·exact h
     ·have:q=18446744073709551615:=by omega
      subst this;omega
    have hF:n*4294967296 / d = -(q+1):=HK mW (by rw [V1];omega) (by rw [V1];omega);rintro aL Aq;rw [Jw (by omega)]at Aq;replace Aq:=Aq.symm;subst Aq;refine ae (λhb => ?_) (λhb=>ae (λ_ => ?_) λh=>absurd h0 h)
    ·rw [Dt hc (by rw [hF];omega)]
    ·rintro aS rR aT x_;rw [zb (by omega)]at rR;rw [rR,zb (by omega)]at x_;rw [HL hc (by rw [hF];omega) (by rw [hF];omega),hF,x_];simp
   ·have hF:n*4294967296 / d = -q:=HK mW (by rw [em];omega) (by rw [em];omega);refine ae (λhb => ?_) (λhb=>ae (λ_ => ?_) λh=>absurd h0 h)
    ·rw [Dt hc (by rw [hF];omega)]
    ·rintro aS rR aT x_;rw [zb (by omega)]at rR;rw [rR,zb (by omega)]at x_;rw [HL hc (by rw [hF];omega) (by rw [hF];omega),hF,x_];simp
  ·have hF:n*4294967296 / d=q:=HK mW (by omega) (by omega);refine ae (λhb => ?_) (λhb=>ae (λh=>absurd h h0) λ_ => ?_)
   ·rw [Dt hc (by rw [hF];omega)]
   ·rintro aS rR;rw [zb (by omega)]at rR;rw [HL hc (by rw [hF];omega) (by rw [hF];omega),hF,rR]
def HN(n d:Int)(l:List Vc.Vl):Prop:=∃(j:Nat) (v r:Int),l=[.i v,.i r,.i j]/\j<=32 /\ -(2147483648*2 ^ j)<=v/\v+1<=2147483648*2 ^ j/\d*v+r=n*2 ^ j/\0<=r/\r<d
def Er(l:List Vc.Vl):Nat:=match l with
 | [.i _,.i _,.i j]=>(32-j).toNat
 |_=>0
theorem HO(n d k s t:Int)(w:World):Calls Tryz.prog 32 #[QV n d k s t] w (Vc.aI (NE (ly n d k s t)) w):=by
 refine YT n d k s t w _ ⟨_,λw' _=>OT n d k s t w', ?_⟩;refine ae (λhc => ?_) (λhc=>by rw [HM hc]);obtain⟨⟨n1,n2⟩,d1,d2,_⟩:=Ac hc;have mW:0<d:=by omega
 refine⟨by omega, ?_⟩;rintro x5 vT;refine⟨by omega, ?_⟩;rintro x6 sf;have h1:=Int.mul_tdiv_add_tmod n d;have h2:(n.tmod d).natAbs=n.natAbs % d.natAbs:=Int.natAbs_tmod n d;have h3:n.natAbs % d.natAbs<d.natAbs:=Nat.mod_lt _ (by omega);have h4:(n.tdiv d).natAbs<=n.natAbs:=by rw [Int.natAbs_tdiv];exact Nat.div_le_self _ _
 rw [zb (by omega)]at vT;rw [<-vT,<-sf]at h1;rw [<-vT]at h4;rw [<-sf]at h2;clear vT sf
 have out:∀v r:Int,d*v+r=n->0<=r->r<d->¬(-2147483648<=v/\v<=2147483647)->ly n d k s t=(0,4):=by
  intro v r e1 e2 e3 e4;refine Dt hc λe5 => ?_;by_cases hv:2147483648<=v
  ·have:d*2147483648<=d*v:=Int.mul_le_mul_of_nonneg_left hv (by omega)
   have:9223372036854775808<=n*4294967296 / d:=(Int.le_ediv_iff_mul_le mW).2 (by omega)
   omega
  ·have:d*v<=d*(-2147483649):=Int.mul_le_mul_of_nonneg_left (by omega) (by omega)
   have:n*4294967296 / d < -9223372036854775807:=(Int.ediv_lt_iff_lt_mul mW).2 (by omega)
   omega
 refine ae (λQW => ?_) (λQW => ?_)
 ·rintro x7 tx x8 J1;rw [zb (by omega)]at tx;rw [zb (by omega)]at J1;have e7:d*x7+x8=n:=by rw [tx,J1,Int.mul_sub];omega
  have b7:0<=x8/\x8<d:=by omega
  clear tx J1;refine ae (λg1=>ae (λg2 => ?_) λg => ?_) λg => ?_
  ·refine⟨HN n d,Er,⟨0,_,_,rfl,by omega,by omega,by omega,by omega,by omega,by omega⟩, ?_⟩;rintro x9 az aA ⟨j,y9,y10,xN,j1,j2,j3,j4,j5,j6⟩;simp only [List.cons.injEq,Vc.Vl.i.injEq,and_true]at xN;obtain⟨rfl,rfl,rfl⟩:=xN;have pj:(2:Int) ^ (j+1)=2*2 ^ j:=by rw [Int.pow_succ];omega
   have oI:n*(2:Int) ^ (j+1)=2*(n*2 ^ j):=by rw [pj,<-Int.mul_assoc,Int.mul_comm n 2,Int.mul_assoc]
   refine ae (λhl => ?_) (λhl => ?_)
   ·have pb:(2:Int) ^ j<=2147483648:=by
     have QX:j<=31:=by omega
     have:=Nat.pow_le_pow_right (n:=2) (by omega) QX
     have hc:((2 ^ j:Nat):Int)=(2:Int) ^ j:=Int.natCast_pow 2 j;rw [<-hc];exact Int.ofNat_le.2 this
    rintro _ rfl _ rfl;rw [zb (x:=2*x9) (by omega),zb (x:=2*az) (by omega)];have e1:d*(2*x9+1)=2*(d*x9)+d:=by rw [Int.mul_add,<-Int.mul_assoc,Int.mul_comm d 2,Int.mul_assoc];omega
    have e2:d*(2*x9)=2*(d*x9):=by rw [<-Int.mul_assoc,Int.mul_comm d 2,Int.mul_assoc]
    refine ae (λhr => ?_) (λhr => ?_)
    ·rintro _ rfl _ rfl _ rfl;rw [zb (x:=2*x9+1) (by omega),zb (x:=2*az-d) (by omega),zb (x:=(j:Int)+1) (by omega)];refine⟨⟨j+1,_,_,rfl,by omega,by omega,by omega,by rw [e1];omega,by omega,by omega⟩, ?_⟩;simp only [Er];omega
    ·rintro _ rfl;rw [zb (x:=(j:Int)+1) (by omega)];refine⟨⟨j+1,_,_,rfl,by omega,by omega,by omega,by rw [e2];omega,by omega,by omega⟩, ?_⟩;simp only [Er];omega
   ·have hj:j=32:=by omega
    subst hj;have hF:n*4294967296 / d=x9:=HK mW (by omega) (by omega);refine ae (λhz => ?_) (λhz => ?_)
    ·rw [Dt hc (by rw [hF];omega)]
    ·rw [HL hc (by rw [hF];omega) (by rw [hF];omega),hF]
  ·rw [out x7 x8 e7 b7.1 b7.2 (by omega)]
  ·rw [out x7 x8 e7 b7.1 b7.2 (by omega)]
 ·have b7:0<=x6/\x6<d:=by omega
  refine ae (λg1=>ae (λg2 => ?_) λg => ?_) λg => ?_
  ·refine⟨HN n d,Er,⟨0,_,_,rfl,by omega,by omega,by omega,by omega,by omega,by omega⟩, ?_⟩;rintro x9 az aA ⟨j,y9,y10,xN,j1,j2,j3,j4,j5,j6⟩;simp only [List.cons.injEq,Vc.Vl.i.injEq,and_true]at xN;obtain⟨rfl,rfl,rfl⟩:=xN;have pj:(2:Int) ^ (j+1)=2*2 ^ j:=by rw [Int.pow_succ];omega
   have oI:n*(2:Int) ^ (j+1)=2*(n*2 ^ j):=by rw [pj,<-Int.mul_assoc,Int.mul_comm n 2,Int.mul_assoc]
   refine ae (λhl => ?_) (λhl => ?_)
   ·have pb:(2:Int) ^ j<=2147483648:=by
     have QX:j<=31:=by omega
     have:=Nat.pow_le_pow_right (n:=2) (by omega) QX
     have hc:((2 ^ j:Nat):Int)=(2:Int) ^ j:=Int.natCast_pow 2 j;rw [<-hc];exact Int.ofNat_le.2 this
    rintro _ rfl _ rfl;rw [zb (x:=2*x9) (by omega),zb (x:=2*az) (by omega)];have e1:d*(2*x9+1)=2*(d*x9)+d:=by rw [Int.mul_add,<-Int.mul_assoc,Int.mul_comm d 2,Int.mul_assoc];omega
    have e2:d*(2*x9)=2*(d*x9):=by rw [<-Int.mul_assoc,Int.mul_comm d 2,Int.mul_assoc]
    refine ae (λhr => ?_) (λhr => ?_)
    ·rintro _ rfl _ rfl _ rfl;rw [zb (x:=2*x9+1) (by omega),zb (x:=2*az-d) (by omega),zb (x:=(j:Int)+1) (by omega)];refine⟨⟨j+1,_,_,rfl,by omega,by omega,by omega,by rw [e1];omega,by omega,by omega⟩, ?_⟩;simp only [Er];omega
    ·rintro _ rfl;rw [zb (x:=(j:Int)+1) (by omega)];refine⟨⟨j+1,_,_,rfl,by omega,by omega,by omega,by rw [e2];omega,by omega,by omega⟩, ?_⟩;simp only [Er];omega
   ·have hj:j=32:=by omega
    subst hj;have hF:n*4294967296 / d=x9:=HK mW (by omega) (by omega);refine ae (λhz => ?_) (λhz => ?_)
    ·rw [Dt hc (by rw [hF];omega)]
    ·rw [HL hc (by rw [hF];omega) (by rw [hF];omega),hF]
  ·rw [out x5 x6 h1 b7.1 b7.2 (by omega)]
  ·rw [out x5 x6 h1 b7.1 b7.2 (by omega)]
end Go.Proofs.YtkbchjlnhgfpmaaGreatDoor
