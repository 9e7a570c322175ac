import Derived.Test.YtocleppbcngcjaaGreatDoorCc
section
set_option linter.unusedVariables false
set_option linter.unusedSimpArgs false
set_option maxRecDepth 4000
namespace Go.Proofs.YtocleppbcngcjaaGreatDoor
open Go Go.RowKit Vc
attribute [local irreducible] Go.Calls
theorem B8(n a b:Int)(w:World):Calls Tryz.prog 23 #[.int .i64 n,.int .i64 a,.int .i64 b] w (Vc.Ret (.bool (decide (a<=n) && decide (n<=b))) w):=by
 refine XD n a b w _ (aj (λh => ?_) (λh => ?_))
 all_goals simp [h]
theorem Ap(lo hi least:Int)(w:World):Calls Tryz.prog 96 #[.agg #[.int .i64 lo,.int .i64 hi],.int .i64 least] w (Vc.Ret (.bool (iw lo hi least)) w):=by
 refine XE lo hi least w _ ⟨_,λw' _=>B8 _ _ _ w',aj (λh => ?_) (λh => ?_)⟩
 ·refine pt ?_;unfold iw;rw [h,Bool.true_and]
 ·refine pt ?_;unfold iw;rw [Bool.eq_false_iff.2 h,Bool.false_and]
def qP(last:Int)(p:Pt):Bool:=decide (last<p.a) && decide (p.a<=4503599627370496) && iw p.lo p.hi 0
def eO(l:List Pt)(i:Nat):Int:=if i=0 then -1 else match l[i-1]? with
 |some p=>p.a
 |none => -1
def w7(l:List Pt)(L:List Vl):Prop:=∃(b:Bool) (i:Nat),L=[.b b,.i i]/\i<=l.length/\jM (eO l i) (l.drop i)=jM (-1) l/\(0<i->0<=eO l i)
def yM(n:Nat)(L:List Vl):Nat:=match L with
 | [_,.i i]=>n-i.toNat
 |_=>0
theorem Yo{w:World}{v:Value}{l:List Pt}(h:dI w v 3 (l.flatMap rh))(hn:l.length<4611686018427387904):Calls Tryz.prog 97 #[v] w (Vc.Ret (.bool (jc l)) w):=by
 obtain⟨b0,p0,x1,rfl,h2,h3⟩:=w6 h;have mV:=qO h2;refine XH p0 (l.length:Nat) x1 b0 w _ ⟨by omega,mV,_,λw' _=>B8 _ _ _ w',aj (λhl => ?_) (λhl => ?_)⟩;rotate_left
 ·refine pt ?_;simp only [Bool.and_eq_true,decide_eq_true_eq]at hl;unfold jc;rw [eq_comm,Bool.and_eq_false_iff];right;rw [Bool.and_eq_false_iff,decide_eq_false_iff_not,decide_eq_false_iff_not];omega
 simp only [Bool.and_eq_true,decide_eq_true_eq]at hl
 have hB:jc l=jM (-1) l:=by
  unfold jc;rw [decide_eq_true (by omega),decide_eq_true (by omega)];simp
 refine⟨w7 l,yM l.length,⟨false,0,rfl,by omega,rfl,λh=>by omega⟩, ?_⟩;rintro b2 x2 ⟨b,i,hy,hi,ht,fI⟩;simp only [List.cons.injEq,Vl.b.injEq,Vl.i.injEq,and_true]at hy;obtain⟨rfl,rfl⟩:=hy;refine⟨by omega,mV,aj (λcn => ?_) (λkU => ?_)⟩;rotate_left
 ·have Ec:i=l.length:=by omega
  rw [Ec,List.drop_length,jM]at ht;rw [hB,<-ht]
 have nj:i<l.length:=by omega
 have hg:l[i]? = some l[i]:=List.getElem?_eq_getElem nj;rw [List.drop_eq_getElem_cons nj]at ht;generalize l[i]=p at hg ht;obtain⟨c1,c2,c3⟩:=h3 i p hg;have cR:¬b0=true:=λhb=>by have:=h2 hb;omega
 have bad:qP (eO l i) p=false->(Value.bool false)=.bool (jc l):=λhb=>by
  unfold qP at hb;rw [jM,hb,Bool.false_and]at ht;rw [hB,<-ht]
 have NI:qP (eO l i) p=true->0<=p.a->w7 l [.b b2,.i ((i+1:Nat):Int)]:=λhb hp=>by
  unfold qP at hb;have e1:eO l (i+1)=p.a:=by unfold eO;rw [if_neg (by omega),Nat.add_sub_cancel,hg]
  refine⟨b2,i+1,rfl,by omega, ?_,λ_=>by rw [e1];exact hp⟩;rw [e1,<-ht,jM,hb,Bool.true_and]
 simp only [Int.toNat_natCast];refine⟨cR,by omega,by omega,p.a,c1,_,λw' _=>B8 _ _ _ w',aj (λq1 => ?_) (λq1 => ?_)⟩;rotate_left
 ·refine bad ?_;simp only [Bool.and_eq_true,decide_eq_true_eq]at q1;unfold qP;rw [Bool.and_eq_false_iff];left;rw [Bool.and_eq_false_iff,decide_eq_false_iff_not,decide_eq_false_iff_not];by_cases h0:i=0
  ·have:eO l i = -1:=by unfold eO;rw [if_pos h0]
   omega
  ·have:=fI (by omega);omega
 simp only [Bool.and_eq_true,decide_eq_true_eq]at q1;refine⟨cR,by omega,by omega,p.lo,c2,p.hi,c3,_,λw' _=>Ap _ _ _ w',aj (λq2 => ?_) (λq2 => ?_)⟩;rotate_left
 ·exact bad (by unfold qP;rw [Bool.eq_false_iff.2 q2,Bool.and_false])
 have step:eO l i<p.a->∀x:Int,x=IntKind.i64.wrap ((i:Int)+1)->w7 l [.b b2,.i x]/\yM l.length [.b b2,.i x]<yM l.length [.b b2,.i (i:Int)]:=λnG x hx=>by
  have e:x=((i+1:Nat):Int):=by rw [hx,zj (by omega)];omega
  subst e;exact⟨NI (by unfold qP;rw [q2,decide_eq_true nG,decide_eq_true q1.2];rfl) q1.1,by simp only [yM];omega⟩
 refine aj (λh0 => ?_) (λh0 => ?_)
 ·have zH:l[i-1]? = some (l[i-1]'(by omega)):=List.getElem?_eq_getElem (by omega);have ZB:eO l i=(l[i-1]'(by omega)).a:=by unfold eO;rw [if_neg (by omega),zH]
  obtain⟨d1,_,_⟩:=h3 (i-1) _ zH;refine⟨cR,by omega,by omega,p.a,c1, ?_⟩;rintro x7 rfl;rw [zj (by omega)];refine⟨cR,by omega,by omega,_,by rw [show Int.toNat ((i:Int)-1)=i-1 by omega];exact d1,aj (λq3 => ?_) (λq3 => ?_)⟩
  ·refine bad ?_;unfold qP;rw [decide_eq_false (by omega)];rfl
  ·exact λx hx=>step (by omega) x hx
 ·refine λx hx=>step ?_ x hx
  have:eO l i = -1:=by unfold eO;rw [if_pos (by omega)]
  omega
def F6(ss:List cD)(es:List En)(nm:List UInt8)(i k:Nat)(L:List Vl):Prop:=∃(a:Int) (j:Nat),L=[.i a,.i j]/\j<=i+1/\(j<=i->nm ∉ br (ss.take j))/\(j=i+1->nm ∉ br (ss.take i)++(es.take k).map (·.nm))
def tz(n:Nat)(L:List Vl):Nat:=match L with
 | [_,.i j]=>n-j.toNat
 |_=>0
def F7(ss:List cD)(es:List En)(nm:List UInt8)(i k j:Nat)(L:List Vl):Prop:=∃(a:Int) (m:Nat),L=[.i a,.i m]/\m<=es.length/\(j=i->m<=k)/\nm ∉ br (ss.take j)++(es.take m).map (·.nm)
theorem NJ{ss:List cD}{i j m:Nat}{s:cD}{e:En}(hj:j<i)(hs:ss[j]? = some s)(he:s.es[m]? = some e):e.nm∈br (ss.take i):=by
 unfold br;rw [List.mem_flatMap];have h1:(ss.take i)[j]? = some s:=by rw [List.getElem?_take_of_lt hj,hs]
 exact⟨s,List.mem_of_getElem? h1,List.mem_map.2 ⟨e,List.mem_of_getElem? he,rfl⟩⟩
theorem NK{es:List En}{k m:Nat}{e:En}(hm:m<k)(he:es[m]? = some e):e.nm∈(es.take k).map (·.nm):=by
 have h1:(es.take k)[m]? = some e:=by rw [List.getElem?_take_of_lt hm,he]
 exact List.mem_map.2 ⟨e,List.mem_of_getElem? h1,rfl⟩
theorem Yp{w:World}{v:Value}{ss:List cD}(h:dI w v 6 (ss.flatMap jJ))(fP:∀s∈ss,dI w s.v 11 (s.es.flatMap enc))(se:ss.length<4611686018427387904)
  (fW:∀s∈ss,s.nm.length<4611686018427387904/\s.es.length<4611686018427387904/\∀e∈s.es,e.nm.length<4611686018427387904)
  {i k:Nat} {s:cD} {e:En} (hs:ss[i]? = some s) (he:s.es[k]? = some e) :
  Calls Tryz.prog 131 #[v,.int .i64 (i:Nat),.int .i64 (k:Nat)] w (Vc.Ret (.int .i64 (e_ (br (ss.take i)++(s.es.take k).map (·.nm)) e)) w):=by
 obtain⟨b0,p0,c0,rfl,f0,g0⟩:=yL h;have hi:i<ss.length:=(List.getElem?_eq_some_iff.1 hs).1;have hk:k<s.es.length:=(List.getElem?_eq_some_iff.1 he).1;have lZ:s∈ss:=List.mem_of_getElem? hs;have Yq:e∈s.es:=List.mem_of_getElem? he;have cR:¬b0=true:=λhb=>by have:=f0 hb;omega
 obtain⟨_,_,_,_,_,k5⟩:=g0 i s hs;obtain⟨b1,p1,c1,e1,f1,g1⟩:=B3 (fP s lZ);have F8:¬b1=true:=λhb=>by have:=f1 hb;omega
 obtain⟨d0,d1,d2,d3,d4,d5,d6,d7,d8,d9,d10⟩:=g1 k e he;refine XF p0 (ss.length:Nat) c0 (i:Nat) (k:Nat) b0 w _ ?_;simp only [Int.toNat_natCast]
 refine⟨cR,by omega,by omega,b1,p1,(s.es.length:Nat),c1,(by rw [k5,e1]),F8,by omega,by omega,e.nm,d0,e.n,d1,e.tl,d2,e.th,d3,e.fl,d4,e.fh,d5,e.le,d6,e.sl,d7,e.sh,d8,e.pl,d9,e.ph,d10,
  _,λw' _=>Nw e.nm ((fW s lZ).2.2 e Yq) w',aj (λhn => ?_) (λhn => ?_)⟩
 rotate_left
 ·unfold e_;rw [if_pos (by simpa using hn)]
 have dup:e.nm∈br (ss.take i)++(s.es.take k).map (·.nm)->(Value.int .i64 8)=.int .i64 (e_ (br (ss.take i)++(s.es.take k).map (·.nm)) e):=λhm=>by
  unfold e_;rw [if_neg (by rw [hn];simp),if_pos hm]
 refine⟨F6 ss s.es e.nm i k,tz (i+2),⟨0,0,rfl,by omega,λ_=>by simp [br],λh=>by omega⟩, ?_⟩;rintro aY bE ⟨a,j,hy,hj,hA,hB⟩;simp only [List.cons.injEq,Vl.i.injEq,and_true]at hy;obtain⟨rfl,rfl⟩:=hy;refine aj (λhle => ?_) (λyj => ?_)
 ·have RL:j<=i:=by omega
  have ti:j<ss.length:=by omega
  have w8:ss[j]? = some ss[j]:=List.getElem?_eq_getElem ti;have B9:ss[j]∈ss:=List.getElem_mem ti;have qy:j=i->ss[j]=s:=λh=>by subst h;rw [hs]at w8;exact (Option.some.inj w8).symm
  generalize ss[j]=sj at w8 B9 qy;obtain⟨_,_,_,_,_,kj⟩:=g0 j sj w8;obtain⟨b3,p2,c3,e3,f3,g3⟩:=B3 (fP sj B9);have w_:=qO f3;have ZC:=(fW sj B9).2.1;have bY:w.cell? ⟨p0.1,p0.2+j*6+5,none⟩=some ((if b3=true then .slice none 0 0 else .slice (some (Vc.dJ p2 (Int.toNat ((sj.es.length:Nat):Int)) c3.toNat)) (Int.toNat ((sj.es.length:Nat):Int)) c3.toNat:Value)):=by rw [kj,e3]
  have next:∀a':Int,(j<i->e.nm ∉ br (ss.take j)++sj.es.map (·.nm))->(j=i->e.nm ∉ br (ss.take i)++(s.es.take k).map (·.nm))->∀x:Int,x=IntKind.i64.wrap ((j:Int)+1) ->
    F6 ss s.es e.nm i k [.i a',.i x]/\tz (i+2) [.i a',.i x]<tz (i+2) [.i aY,.i (j:Int)]:=λa' h1 h2 x hx=>by
   have E6:x=((j+1:Nat):Int):=by rw [hx,zj (by omega)];omega
   subst E6;refine⟨⟨a',j+1,rfl,by omega,λh => ?_,λh=>h2 (by omega)⟩,by simp only [tz];omega⟩;rw [Tu w8];exact h1 (by omega)
  refine⟨F7 ss sj.es e.nm i k j,tz sj.es.length,⟨aY,0,rfl,by omega,λ_=>by omega,by simpa using hA RL⟩, ?_⟩;rintro bx bX ⟨a2,m,ue,hm,EO,hC⟩;simp only [List.cons.injEq,Vl.i.injEq,and_true]at ue;obtain⟨rfl,rfl⟩:=ue;have Tx:¬b3=true∨((sj.es.length:Nat):Int)=0:=w_;simp only [Int.toNat_natCast]at bY ⊢;refine⟨cR,by omega,by omega,b3,p2,(sj.es.length:Nat),c3,bY,by omega,w_,aj (λcn => ?_) (λkU => ?_)⟩;rotate_left
  ·have A9:m=sj.es.length:=by omega
   subst A9;rw [List.take_length]at hC;refine λx hx=>next bx (λ_=>hC) (λuq => ?_) x hx
   have:=qy uq
   subst this
   have:=EO uq
   omega
  have A9:m<sj.es.length:=by omega
  have xd:sj.es[m]? = some sj.es[m]:=List.getElem?_eq_getElem A9;generalize sj.es[m]=e2 at xd;obtain⟨q0,_⟩:=g3 m e2 xd;have tA:¬b3=true:=λhb=>by have:=f3 hb;omega
  have Aq:e2.nm≠e.nm->(j=i->m+1<=k)->∀x:Int,x=IntKind.i64.wrap ((m:Int)+1)->F7 ss sj.es e.nm i k j [.i bx,.i x]/\tz sj.es.length [.i bx,.i x]<tz sj.es.length [.i bx,.i (m:Int)]:=λcW NL x hx=>by
   have E6:x=((m+1:Nat):Int):=by rw [hx,zj (by omega)];omega
   subst E6;refine⟨⟨bx,m+1,rfl,by omega,NL, ?_⟩,by simp only [tz];omega⟩;rw [Tw xd];intro qW;rw [<-List.append_assoc]at qW;rcases List.mem_append.1 qW with qW|qW
   ·exact hC qW
   ·simp only [List.mem_singleton]at qW;exact cW qW.symm
  refine aj (λnG => ?_) (λNM => ?_)
  ·refine⟨cR,by omega,by omega,b3,p2,(sj.es.length:Nat),c3,bY,tA,by omega,by omega,e2.nm,q0,aj (λheq => ?_) (λcW => ?_)⟩
   ·exact dup (List.mem_append_left _ (by rw [<-heq];exact NJ (by omega) w8 xd))
   ·exact Aq cW (λh=>by omega)
  ·have uq:j=i:=by omega
   have:=qy uq
   subst this;refine aj (λYr => ?_) (λYs => ?_)
   ·refine⟨cR,by omega,by omega,b3,p2,(sj.es.length:Nat),c3,bY,tA,by omega,by omega,e2.nm,q0,aj (λheq => ?_) (λcW => ?_)⟩
    ·exact dup (List.mem_append_right _ (by rw [<-heq];exact NK (by omega) xd))
    ·exact Aq cW (λh=>by omega)
   ·have NN:m=k:=by have:=EO uq;omega
    refine λx hx=>next bx (λh=>by omega) (λ_ => ?_) x hx
    rw [<-uq,<-NN];exact hC
 ·have yz:j=i+1:=by omega
  have hp:=hB yz;have hF:e_ (br (ss.take i)++(s.es.take k).map (·.nm)) e=if ly e=false then 4 else 0:=by unfold e_;rw [if_neg (by rw [hn];simp),if_neg hp]
  rw [hF];have bad:ly e=false->(Value.int .i64 4)=.int .i64 (if ly e=false then 4 else 0):=λhr=>by rw [if_pos hr]
  refine⟨_,λw' _=>B8 _ _ _ w',aj (λr1=>⟨_,λw' _=>Ap _ _ _ w',aj (λr2=>⟨_,λw' _=>Ap _ _ _ w',aj (λr3=>⟨_,λw' _=>B8 _ _ _ w',aj (λr4=>⟨_,λw' _=>Ap _ _ _ w',aj (λr5 =>
   ⟨_,λw' _=>Ap _ _ _ w',aj (λr6 => ?_) (λr6=>bad (by simp [ly,r6]))⟩) (λr5=>bad (by simp [ly,r5]))⟩) (λr4=>bad (by unfold ly;rw [Bool.eq_false_iff.2 r4];simp))⟩) (λr3=>bad (by simp [ly,r3]))⟩) (λr2=>bad (by simp [ly,r2]))⟩) (λr1=>bad (by unfold ly;rw [Bool.eq_false_iff.2 r1];simp))⟩
  have hr:ly e=true:=by unfold ly;rw [r1,r2,r3,r4,r5,r6];rfl
  rw [if_neg (by rw [hr];simp)]
end Go.Proofs.YtocleppbcngcjaaGreatDoor
end
section
set_option linter.unusedVariables false
set_option linter.unusedSimpArgs false
set_option maxRecDepth 4000
namespace Go.Proofs.YtocleppbcngcjaaGreatDoor
open Go Go.RowKit Vc
attribute [local irreducible] Go.Calls
def NO(ss:List cD)(nm:List UInt8)(i:Nat)(L:List Vl):Prop:=∃(a:Int) (j:Nat),L=[.i a,.i j]/\j<=i/\nm ∉ bZ (ss.take j)
def F9(ss:List cD)(i:Nat)(s:cD)(L:List Vl):Prop:=∃(a:Int) (k:Nat),L=[.i a,.i k]/\k<=s.es.length/\∀t,t<k->jK (br (ss.take i)) s.es t=0
theorem NP{ss:List cD}{i j:Nat}{s:cD}(hj:j<i)(hs:ss[j]? = some s):s.nm∈bZ (ss.take i):=by
 have h1:(ss.take i)[j]? = some s:=by rw [List.getElem?_take_of_lt hj,hs]
 exact List.mem_map.2 ⟨s,List.mem_of_getElem? h1,rfl⟩
theorem Yt{w:World}{v:Value}{ss:List cD}(h:dI w v 6 (ss.flatMap jJ))(fP:∀s∈ss,dI w s.v 11 (s.es.flatMap enc))(se:ss.length<4611686018427387904)
  (fW:∀s∈ss,s.nm.length<4611686018427387904/\s.es.length<4611686018427387904/\∀e∈s.es,e.nm.length<4611686018427387904)
  {i:Nat} {s:cD} (hs:ss[i]? = some s) :
  Calls Tryz.prog 95 #[v,.int .i64 (i:Nat)] w (Vc.Ret (.int .i64 (fw (bZ (ss.take i)) (br (ss.take i)) s)) w):=by
 have h0:=h;obtain⟨b0,p0,c0,rfl,f0,g0⟩:=yL h;have hi:i<ss.length:=(List.getElem?_eq_some_iff.1 hs).1;have lZ:s∈ss:=List.mem_of_getElem? hs;have cR:¬b0=true:=λhb=>by have:=f0 hb;omega
 obtain⟨k0,k1,k2,k3,k4,k5⟩:=g0 i s hs;obtain⟨b1,p1,c1,e1,f1,g1⟩:=B3 (fP s lZ);have yN:=qO f1;have hz:=fW s lZ;have bY:w.cell? ⟨p0.1,p0.2+i*6+5,none⟩=some ((if b1=true then .slice none 0 0 else .slice (some (Vc.dJ p1 (Int.toNat ((s.es.length:Nat):Int)) c1.toNat)) (Int.toNat ((s.es.length:Nat):Int)) c1.toNat:Value)):=by rw [k5,e1]
 simp only [Int.toNat_natCast]at bY;refine XG p0 (ss.length:Nat) c0 (i:Nat) b0 w _ ?_;simp only [Int.toNat_natCast];refine⟨cR,by omega,by omega,s.nm,k0,_,λw' _=>Nw s.nm hz.1 w',aj (λhn => ?_) (λhn => ?_)⟩;rotate_left
 ·unfold fw;rw [if_pos (by simpa using hn)]
 refine⟨NO ss s.nm i,tz i,⟨0,0,rfl,by omega,by simp [bZ]⟩, ?_⟩;rintro x3 x4 ⟨a,j,hy,hj,hA⟩;simp only [List.cons.injEq,Vl.i.injEq,and_true]at hy;obtain⟨rfl,rfl⟩:=hy;simp only [Int.toNat_natCast];refine aj (λcn => ?_) (λkU => ?_)
 ·have ti:j<ss.length:=by omega
  have w8:ss[j]? = some ss[j]:=List.getElem?_eq_getElem ti;generalize ss[j]=sj at w8;obtain⟨j0,_⟩:=g0 j sj w8;refine⟨cR,by omega,by omega,sj.nm,j0,cR,by omega,by omega,s.nm,k0,aj (λheq => ?_) (λcW => ?_)⟩
  ·have hm:s.nm∈bZ (ss.take i):=by rw [<-heq];exact NP (by omega) w8
   unfold fw;rw [if_neg (by rw [hn];simp),if_pos hm]
  ·rintro x5 rfl;rw [zj (by omega)];refine⟨⟨x3,j+1,rfl,by omega, ?_⟩,by simp only [tz];omega⟩;rw [Tv w8];intro hm;rcases List.mem_append.1 hm with hm|hm
   ·exact hA hm
   ·simp only [List.mem_singleton]at hm;exact cW hm.symm
 have yz:j=i:=by omega
 rw [yz]at hA
 have hF:fw (bZ (ss.take i)) (br (ss.take i)) s=if (iw s.dl s.dh 1 && iw s.pl s.ph 0)=false then 4 else if 16<s.es.length then 3 else iE (br (ss.take i)) s.es:=by
  unfold fw;rw [if_neg (by rw [hn];simp),if_neg hA]
 rw [hF];have bad:(iw s.dl s.dh 1 && iw s.pl s.ph 0)=false->(Value.int .i64 4)=.int .i64 (if (iw s.dl s.dh 1 && iw s.pl s.ph 0)=false then 4 else if 16<s.es.length then 3 else iE (br (ss.take i)) s.es):=λhr=>by rw [if_pos hr]
 refine⟨cR,by omega,by omega,s.dl,k1,s.dh,k2,_,λw' _=>Ap _ _ _ w',aj (λr1=>⟨cR,by omega,by omega,s.pl,k3,s.ph,k4,_,λw' _=>Ap _ _ _ w',aj (λr2 => ?_) (λr2=>bad (by simp [r2]))⟩) (λr1=>bad (by simp [r1]))⟩;refine⟨cR,by omega,by omega,b1,p1,(s.es.length:Nat),c1,bY,by omega,yN,aj (λr3 => ?_) (λr3 => ?_)⟩
 ·rw [if_neg (show ¬(iw s.dl s.dh 1 && iw s.pl s.ph 0)=false by simp [r1,r2]),if_pos (show 16<s.es.length by omega)]
 rw [if_neg (show ¬(iw s.dl s.dh 1 && iw s.pl s.ph 0)=false by simp [r1,r2]),if_neg (show ¬16<s.es.length by omega)];refine⟨F9 ss i s,tz s.es.length,⟨x3,0,rfl,by omega,λt ht=>by omega⟩, ?_⟩;rintro aS aW ⟨a2,k,ue,hk,hG⟩;simp only [List.cons.injEq,Vl.i.injEq,and_true]at ue;obtain⟨rfl,rfl⟩:=ue;refine⟨cR,by omega,by omega,b1,p1,(s.es.length:Nat),c1,bY,by omega,yN,aj (λcn => ?_) (λNM => ?_)⟩
 ·have qG:k<s.es.length:=by omega
  have he:s.es[k]? = some s.es[k]:=List.getElem?_eq_getElem qG;generalize s.es[k]=e at he;have uW:=hz.2.1;refine⟨_,λw' hb=>(by have:=Yp (wY hb h0) (λs hs=>wY hb (fP s hs)) se fW hs he;simpa only [Int.toNat_natCast]using this),aj (λq => ?_) (λq => ?_)⟩
  ·rintro aY rfl;rw [zj (by omega)];refine⟨⟨aS,k+1,rfl,by omega,λt ht => ?_⟩,by simp only [tz];omega⟩;rcases Nat.lt_succ_iff_lt_or_eq.1 ht with ht|rfl
   ·exact hG t ht
   ·rw [F3 he];exact q
  ·rw [Tr he hG q]
 ·obtain rfl:k=s.es.length:=by omega
  rw [NC hG]
def NQ(ss:List cD)(L:List Vl):Prop:=∃(a b c:Int) (i:Nat),L=[.i a,.i b,.i c,.i i]/\i<=ss.length/\∀t,t<i->jL ss t=0
def Ty(n:Nat)(L:List Vl):Nat:=match L with
 | [_,_,_,.i i]=>n-i.toNat
 |_=>0
theorem NR{w:World}{v:Vh}(h:fZ w v)(hz:iv v):Calls Tryz.prog 46 #[fL v] w (Vc.Ret (CV (dT v)) w):=by
 obtain⟨b0,p0,c0,e0,f0,g0⟩:=yL h.st;obtain⟨b1,p1,c1,e1,f1,g1⟩:=w6 h.dr;have mV:=qO f0;have uT:=h.dr;have lj:=h.st;unfold fL;rw [e0]at lj ⊢;rw [e1]at uT ⊢;refine XI p0 p1 (v.ss.length:Nat) c0 v.yl v.yh (v.dr.length:Nat) c1 v.ax v.be b0 b1 v.nm w _ ⟨_,λw' hb=>Nw v.nm hz.nm w',aj (λhn => ?_) (λhn => ?_)⟩;rotate_left
 ·unfold dT;rw [if_pos (.inl (by simpa using hn))];rfl
 refine⟨by omega,mV,aj (λh0 => ?_) (λh0 => ?_)⟩
 ·unfold dT;rw [if_pos (.inr (by omega))];rfl
 have B6:v.ss.length≠0:=by omega
 refine⟨by omega,mV,aj (λh8 => ?_) (λh8 => ?_)⟩
 ·unfold dT;rw [if_neg (λh=>h.elim (λh=>by rw [hn]at h;cases h) B6),if_pos (by omega)];rfl
 have F5:¬8<v.ss.length:=by omega
 refine⟨NQ v.ss,Ty v.ss.length,⟨0,0,0,0,rfl,Nat.zero_le _,λt ht=>by omega⟩, ?_⟩;rintro x8 x9 bd aS ⟨a,b,c,i,hy,hi,B7⟩;simp only [List.cons.injEq,Vl.i.injEq,and_true]at hy;obtain⟨rfl,rfl,rfl,rfl⟩:=hy;refine⟨by omega,mV,aj (λcn => ?_) (λkU => ?_)⟩
 ·have nj:i<v.ss.length:=by omega
  have hs:v.ss[i]? = some v.ss[i]:=List.getElem?_eq_getElem nj;generalize v.ss[i]=s at hs;have hv:=λcW=>Ts hn B6 F5 hs B7 cW;refine⟨_,λw' hb=>Yt (wY hb lj) (λs hs=>wY hb (h.es s hs)) hz.sn hz.st hs,aj (λq => ?_) (λq => ?_)⟩
  ·rintro bC rfl;have uy:=hz.sn;rw [zj (by omega)];refine⟨⟨x8,x9,bd,i+1,rfl,by omega,λt ht => ?_⟩,by simp only [Ty];omega⟩;rcases Nat.lt_succ_iff_lt_or_eq.1 ht with ht|rfl
   ·exact B7 t ht
   ·unfold jL;rw [hs];exact q
  ·exact hv q
 ·obtain rfl:i=v.ss.length:=by omega
  rw [Tt hn B6 F5 B7];refine⟨_,λw' _=>Ap _ _ _ w',aj (λq1 => ?_) (λq1 => ?_)⟩;rotate_left
  ·rw [if_pos (by simpa using q1)];rfl
  rw [if_neg (show ¬iw v.yl v.yh 0=false by rw [q1];simp)];refine⟨_,λw' hb=>Yo (wY hb uT) hz.dn,aj (λq2 => ?_) (λq2 => ?_)⟩;rotate_left
  ·rw [if_pos (by simpa using q2)];rfl
  rw [if_neg (show ¬jc v.dr=false by rw [q2];simp)];have bad:(fx v.ax && fx v.be)=false->CV (4,0,4)=CV (if (fx v.ax && fx v.be)=false then (4,0,4)else (0,0,0)):=λhb=>by rw [if_pos hb]
  refine⟨_,λw' _=>B8 _ _ _ w',aj (λr1=>⟨_,λw' _=>B8 _ _ _ w',aj (λr2 => ?_) (λr2=>bad ?_)⟩) (λr1=>bad ?_)⟩
  ·rw [if_neg (show ¬(fx v.ax && fx v.be)=false by unfold fx;rw [r1,r2];simp)];rfl
  ·unfold fx;rw [Bool.eq_false_iff.2 r2,Bool.and_false]
  ·unfold fx;rw [Bool.eq_false_iff.2 r1,Bool.false_and]
end Go.Proofs.YtocleppbcngcjaaGreatDoor
end
section
set_option linter.unusedVariables false
set_option linter.unusedSimpArgs false
namespace Go.Proofs.YtocleppbcngcjaaGreatDoor
open Go Go.RowKit Vc
def ng(v:Vh):Bool:=decide ((dT v).2.2=0)
theorem B_{F:Nat->Int}:∀(m i j:Nat) (e:Int),uo F m i=some (j,e)->e≠0
  |0,i,j,e,h=>by simp [uo]at h
  |m+1,i,j,e,h=>by
    unfold uo at h;split at h
    · exact B_ m (i+1) j e h
    · rename_i h0;injection h with h;injection h with _ h;rw [<-h];exact h0
theorem B'{F:Nat->Int}:∀(m i:Nat),uo F m i=none->∀t,i<=t->t<i+m->F t=0
  |0,i,h,t,h1,h2=>by omega
  |m+1,i,h,t,h1,h2=>by
    unfold uo at h;split at h
    · rename_i h0;rcases Nat.eq_or_lt_of_le h1 with rfl|cn
      · exact h0
      · exact B' m (i+1) h t cn (by omega)
    · cases h
structure tB(v:Vh):Prop where
 nm:du v.nm=true
 s0:v.ss.length≠0
 s8:v.ss.length<=8
 st:∀t,t<v.ss.length->jL v.ss t=0
 py:iw v.yl v.yh 0=true
 tb:jc v.dr=true
 li:(fx v.ax && fx v.be)=true
theorem Ca{v:Vh}(h:ng v=true):tB v:=by
 have h:=of_decide_eq_true h;unfold dT at h;split at h
 ·simp at h
 rename_i h1;split at h
 ·simp at h
 rename_i h2;split at h
 ·rename_i i e he;exact absurd h (B_ _ _ _ _ he)
 rename_i hn;split at h
 ·simp at h
 split at h
 ·simp at h
 split at h
 ·simp at h
 rename_i h3 h4 h5;exact⟨by cases hh:du v.nm<;>simp_all,by simp_all,by omega,λt ht=>B' _ _ hn t (Nat.zero_le _) (by omega),by simpa using h3,by simpa using h4,by simpa using h5⟩
theorem NS{ps pe:List (List UInt8)}{s:cD}(h:fw ps pe s=0):s.es.length<=16:=by
 unfold fw at h;split at h
 ·simp at h
 split at h
 ·simp at h
 split at h
 ·simp at h
 split at h
 ·simp at h
 omega
theorem tB.es{v:Vh}(h:tB v){s:cD}(hs:s∈v.ss):s.es.length<=16:=by
 obtain⟨i,hi⟩:=List.getElem?_of_mem hs;have hl:=(List.getElem?_eq_some_iff.1 hi).1
 have:=h.st i hl
 unfold jL at this;rw [hi]at this;exact NS this
theorem tB.dr{v:Vh}(h:tB v):1<=v.dr.length/\v.dr.length<=64:=by
 have:=h.tb
 unfold jc at this;simp only [Bool.and_eq_true,decide_eq_true_eq]at this;exact this.2
theorem NT{pe:List (List UInt8)}{es:List En}(h:iE pe es=0):∀t,t<es.length->jK pe es t=0:=by
 unfold iE at h;split at h
 ·rename_i i e he;exact absurd h (B_ _ _ _ _ he)
 ·rename_i hn;exact λt ht=>B' _ _ hn t (Nat.zero_le _) (by omega)
theorem tB.Tz{v:Vh}(h:tB v){s:cD}(hs:s∈v.ss):(iw s.dl s.dh 1 && iw s.pl s.ph 0)=true/\∀e∈s.es,ly e=true:=by
 obtain⟨i,hi⟩:=List.getElem?_of_mem hs;have hl:=(List.getElem?_eq_some_iff.1 hi).1
 have:=h.st i hl
 unfold jL at this;rw [hi]at this;unfold fw at this;simp only at this;split at this
 ·simp at this
 split at this
 ·simp at this
 split at this
 ·simp at this
 rename_i h3;split at this
 ·simp at this
 refine⟨by simpa using h3,λe he => ?_⟩;obtain⟨k,hk⟩:=List.getElem?_of_mem he;have gi:=NT this k (List.getElem?_eq_some_iff.1 hk).1;unfold jK at gi;rw [hk]at gi;unfold e_ at gi;simp only at gi;split at gi
 ·simp at gi
 split at gi
 ·simp at gi
 split at gi
 ·simp at gi
 rename_i hr;simpa using hr
theorem H6{lo hi least:Int}(h:iw lo hi least=true):least<=lo/\lo<=hi/\hi<=4503599627370496:=by
 simp only [iw,Bool.and_eq_true,decide_eq_true_eq]at h;omega
end Go.Proofs.YtocleppbcngcjaaGreatDoor
end
