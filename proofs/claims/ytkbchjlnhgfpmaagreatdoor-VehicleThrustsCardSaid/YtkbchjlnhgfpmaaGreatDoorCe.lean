import Derived.Test.YtkbchjlnhgfpmaaGreatDoorCd
set_option linter.unusedVariables false
set_option linter.unusedSimpArgs false
set_option maxRecDepth 4000
namespace Go.Proofs.YtkbchjlnhgfpmaaGreatDoor
open Go Go.RowKit Vc
attribute [local irreducible] Go.Calls
def QL(ss:List f_)(nm:List UInt8)(i:Nat)(L:List Vl):Prop:=∃(a:Int) (j:Nat),L=[.i a,.i j]/\j<=i/\nm ∉ cR (ss.take j)
def HI(ss:List f_)(i:Nat)(s:f_)(L:List Vl):Prop:=∃(a:Int) (k:Nat),L=[.i a,.i k]/\k<=s.es.length/\∀t,t<k->lR (bN (ss.take i)) s.es t=0
theorem QN{ss:List f_}{i j:Nat}{s:f_}(hj:j<i)(hs:ss[j]? = some s):s.nm∈cR (ss.take i):=by
 have h1:(ss.take i)[j]? = some s:=by rw [List.getElem?_take_of_lt hj,hs]
 exact List.mem_map.2 ⟨s,List.mem_of_getElem? h1,rfl⟩
theorem QO{w:World}{v:Value}{ss:List f_}(h:e_ w v 6 (ss.flatMap Bz))(eM:∀s∈ss,e_ w s.v 11 (s.es.flatMap enc))(mY:ss.length<4611686018427387904)
  (i_:∀s∈ss,s.nm.length<4611686018427387904/\s.es.length<4611686018427387904/\∀e∈s.es,e.nm.length<4611686018427387904)
  {i:Nat} {s:f_} (hs:ss[i]? = some s) :
  Calls Tryz.prog 121 #[v,.int .i64 (i:Nat)] w (Vc.aI (.int .i64 (iI (cR (ss.take i)) (bN (ss.take i)) s)) w):=by
 have h0:=h;obtain⟨b0,p0,c0,rfl,f0,g0⟩:=rP h;have hi:i<ss.length:=(List.getElem?_eq_some_iff.1 hs).1;have xx:s∈ss:=List.mem_of_getElem? hs;have cI:¬b0=true:=λhb=>by have:=f0 hb;omega
 obtain⟨k0,k1,k2,k3,k4,k5⟩:=g0 i s hs;obtain⟨b1,p1,c1,e1,f1,g1⟩:=tD (eM s xx);have Am:=zu f1;have hz:=i_ s xx;have dB:w.cell? ⟨p0.1,p0.2+i*6+5,none⟩=some ((if b1=true then .slice none 0 0 else .slice (some (Vc.iK p1 (Int.toNat ((s.es.length:Nat):Int)) c1.toNat)) (Int.toNat ((s.es.length:Nat):Int)) c1.toNat:Value)):=by (try unfold Vc.rd);rw [k5,e1]
 simp only [Int.toNat_natCast]at dB;refine Yp p0 (ss.length:Nat) c0 (i:Nat) b0 w _ ?_;simp only [Int.toNat_natCast];refine⟨cI,by omega,by omega,s.nm,k0,_,λw' _=>Qs s.nm hz.1 w',ae (λhn => ?_) (λhn => ?_)⟩;rotate_left
 ·unfold iI;rw [if_pos (by simpa using hn)]
 refine⟨QL ss s.nm i,uD i,⟨0,0,rfl,by omega,by simp [cR]⟩, ?_⟩;rintro x3 x4 ⟨a,j,hy,hj,hA⟩;simp only [List.cons.injEq,Vl.i.injEq,and_true]at hy;obtain⟨rfl,rfl⟩:=hy;simp only [Int.toNat_natCast];refine ae (λct => ?_) (λkq => ?_)
 ·have xq:j<ss.length:=by omega
  have xW:ss[j]? = some ss[j]:=List.getElem?_eq_getElem xq;generalize ss[j]=sj at xW;obtain⟨j0,_⟩:=g0 j sj xW;refine⟨cI,by omega,by omega,sj.nm,j0,cI,by omega,by omega,s.nm,k0,ae (λheq => ?_) (λdt => ?_)⟩
  ·have hm:s.nm∈cR (ss.take i):=by rw [<-heq];exact QN (by omega) xW
   unfold iI;rw [if_neg (by rw [hn];simp),if_pos hm]
  ·rintro x5 rfl;rw [zb (by omega)];refine⟨⟨x3,j+1,rfl,by omega, ?_⟩,by simp only [uD];omega⟩;rw [VV xW];intro hm;rcases List.mem_append.1 hm with hm|hm
   ·exact hA hm
   ·simp only [List.mem_singleton]at hm;exact dt hm.symm
 have Ae:j=i:=by omega
 rw [Ae]at hA
 have hF:iI (cR (ss.take i)) (bN (ss.take i)) s=if (jl s.dl s.dh 1 && jl s.pl s.ph 0)=false then 4 else if 16<s.es.length then 3 else ku (bN (ss.take i)) s.es:=by
  unfold iI;rw [if_neg (by rw [hn];simp),if_neg hA]
 rw [hF];have bad:(jl s.dl s.dh 1 && jl s.pl s.ph 0)=false->(Value.int .i64 4)=.int .i64 (if (jl s.dl s.dh 1 && jl s.pl s.ph 0)=false then 4 else if 16<s.es.length then 3 else ku (bN (ss.take i)) s.es):=λhr=>by rw [if_pos hr]
 refine⟨cI,by omega,by omega,s.dl,k1,s.dh,k2,_,λw' _=>BC _ _ _ w',ae (λr1=>⟨cI,by omega,by omega,s.pl,k3,s.ph,k4,_,λw' _=>BC _ _ _ w',ae (λr2 => ?_) (λr2=>bad (by simp [r2]))⟩) (λr1=>bad (by simp [r1]))⟩;refine⟨cI,by omega,by omega,b1,p1,(s.es.length:Nat),c1,dB,by omega,Am,ae (λr3 => ?_) (λr3 => ?_)⟩
 ·rw [if_neg (show ¬(jl s.dl s.dh 1 && jl s.pl s.ph 0)=false by simp [r1,r2]),if_pos (show 16<s.es.length by omega)]
 rw [if_neg (show ¬(jl s.dl s.dh 1 && jl s.pl s.ph 0)=false by simp [r1,r2]),if_neg (show ¬16<s.es.length by omega)];refine⟨HI ss i s,uD s.es.length,⟨x3,0,rfl,by omega,λt ht=>by omega⟩, ?_⟩;rintro aA aH ⟨a2,k,r9,hk,hG⟩;simp only [List.cons.injEq,Vl.i.injEq,and_true]at r9;obtain⟨rfl,rfl⟩:=r9;refine⟨cI,by omega,by omega,b1,p1,(s.es.length:Nat),c1,dB,by omega,Am,ae (λct => ?_) (λQJ => ?_)⟩
 ·have j8:k<s.es.length:=by omega
  have he:s.es[k]? = some s.es[k]:=List.getElem?_eq_getElem j8;generalize s.es[k]=e at he;have WC:=hz.2.1;refine⟨_,λw' hb=>(by have:=zwy (zg hb h0) (λs hs=>zg hb (eM s hs)) mY i_ hs he;simpa only [Int.toNat_natCast]using this),ae (λq => ?_) (λq => ?_)⟩
  ·rintro aT rfl;rw [zb (by omega)];refine⟨⟨aA,k+1,rfl,by omega,λt ht => ?_⟩,by simp only [uD];omega⟩;rcases Nat.lt_succ_iff_lt_or_eq.1 ht with ht|rfl
   ·exact hG t ht
   ·rw [HC he];exact q
  ·rw [VQ he hG q]
 ·obtain rfl:k=s.es.length:=by omega
  rw [VR hG]
def QQ(ss:List f_)(L:List Vl):Prop:=∃(a b c:Int) (i:Nat),L=[.i a,.i b,.i c,.i i]/\i<=ss.length/\∀t,t<i->lS ss t=0
def V0(n:Nat)(L:List Vl):Nat:=match L with
 | [_,_,_,.i i]=>n-i.toNat
 |_=>0
theorem QR{w:World}{v:Vh}(h:iH w v)(hz:j9 v):Calls Tryz.prog 57 #[gY v] w (Vc.aI (CV (bU v)) w):=by
 obtain⟨b0,p0,c0,e0,f0,g0⟩:=rP h.st;obtain⟨b1,p1,c1,e1,f1,g1⟩:=rO h.dr;have gR:=zu f0;have By:=h.dr;have mc:=h.st;unfold gY;rw [e0]at mc ⊢;rw [e1]at By ⊢;refine Yr p0 p1 (v.ss.length:Nat) c0 v.yl v.yh (v.dr.length:Nat) c1 v.ax v.be b0 b1 v.nm w _ ⟨_,λw' hb=>Qs v.nm hz.nm w',ae (λhn => ?_) (λhn => ?_)⟩;rotate_left
 ·unfold bU;rw [if_pos (.inl (by simpa using hn))];rfl
 refine⟨by omega,gR,ae (λh0 => ?_) (λh0 => ?_)⟩
 ·unfold bU;rw [if_pos (.inr (by omega))];rfl
 have Dl:v.ss.length≠0:=by omega
 refine⟨by omega,gR,ae (λh8 => ?_) (λh8 => ?_)⟩
 ·unfold bU;rw [if_neg (λh=>h.elim (λh=>by rw [hn]at h;cases h) Dl),if_pos (by omega)];rfl
 have HE:¬8<v.ss.length:=by omega
 refine⟨QQ v.ss,V0 v.ss.length,⟨0,0,0,0,rfl,Nat.zero_le _,λt ht=>by omega⟩, ?_⟩;rintro x8 x9 az aA ⟨a,b,c,i,hy,hi,Dm⟩;simp only [List.cons.injEq,Vl.i.injEq,and_true]at hy;obtain⟨rfl,rfl,rfl,rfl⟩:=hy;refine⟨by omega,gR,ae (λct => ?_) (λkq => ?_)⟩
 ·have od:i<v.ss.length:=by omega
  have hs:v.ss[i]? = some v.ss[i]:=List.getElem?_eq_getElem od;generalize v.ss[i]=s at hs;have hv:=λdt=>VS hn Dl HE hs Dm dt;refine⟨_,λw' hb=>QO (zg hb mc) (λs hs=>zg hb (h.es s hs)) hz.sn hz.st hs,ae (λq => ?_) (λq => ?_)⟩
  ·rintro aP rfl;have TK:=hz.sn;rw [zb (by omega)];refine⟨⟨x8,x9,az,i+1,rfl,by omega,λt ht => ?_⟩,by simp only [V0];omega⟩;rcases Nat.lt_succ_iff_lt_or_eq.1 ht with ht|rfl
   ·exact Dm t ht
   ·unfold lS;rw [hs];exact q
  ·exact hv q
 ·obtain rfl:i=v.ss.length:=by omega
  rw [VT hn Dl HE Dm];refine⟨_,λw' _=>BC _ _ _ w',ae (λq1 => ?_) (λq1 => ?_)⟩;rotate_left
  ·rw [if_pos (by simpa using q1)];rfl
  rw [if_neg (show ¬jl v.yl v.yh 0=false by rw [q1];simp)];refine⟨_,λw' hb=>QD (zg hb By) hz.dn,ae (λq2 => ?_) (λq2 => ?_)⟩;rotate_left
  ·rw [if_pos (by simpa using q2)];rfl
  rw [if_neg (show ¬jM v.dr=false by rw [q2];simp)];have bad:(gC v.ax && gC v.be)=false->CV (4,0,4)=CV (if (gC v.ax && gC v.be)=false then (4,0,4)else (0,0,0)):=λhb=>by rw [if_pos hb]
  refine⟨_,λw' _=>Dn _ _ _ w',ae (λr1=>⟨_,λw' _=>Dn _ _ _ w',ae (λr2 => ?_) (λr2=>bad ?_)⟩) (λr1=>bad ?_)⟩
  ·rw [if_neg (show ¬(gC v.ax && gC v.be)=false by unfold gC;rw [r1,r2];simp)];rfl
  ·unfold gC;rw [Bool.eq_false_iff.2 r2,Bool.and_false]
  ·unfold gC;rw [Bool.eq_false_iff.2 r1,Bool.false_and]
end Go.Proofs.YtkbchjlnhgfpmaaGreatDoor
