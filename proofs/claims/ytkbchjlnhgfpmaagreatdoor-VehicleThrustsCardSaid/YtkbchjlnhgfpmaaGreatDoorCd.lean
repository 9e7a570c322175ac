import Derived.Test.YtkbchjlnhgfpmaaGreatDoorCc
set_option linter.unusedVariables false
set_option linter.unusedSimpArgs false
set_option maxRecDepth 4000
namespace Go.Proofs.YtkbchjlnhgfpmaaGreatDoor
open Go Go.RowKit Vc
attribute [local irreducible] Go.Calls
theorem Dn(n a b:Int)(w:World):Calls Tryz.prog 30 #[.int .i64 n,.int .i64 a,.int .i64 b] w (Vc.aI (.bool (decide (a<=n) && decide (n<=b))) w):=by
 refine Ym n a b w _ (ae (λh => ?_) (λh => ?_))
 all_goals simp [h]
theorem BC(lo hi least:Int)(w:World):Calls Tryz.prog 122 #[.agg #[.int .i64 lo,.int .i64 hi],.int .i64 least] w (Vc.aI (.bool (jl lo hi least)) w):=by
 refine Yn lo hi least w _ ⟨_,λw' _=>Dn _ _ _ w',ae (λh => ?_) (λh => ?_)⟩
 ·refine nV ?_;unfold jl;rw [h,Bool.true_and]
 ·refine nV ?_;unfold jl;rw [Bool.eq_false_iff.2 h,Bool.false_and]
def rQ(last:Int)(p:Pt):Bool:=decide (last<p.a) && decide (p.a<=4503599627370496) && jl p.lo p.hi 0
def fE(l:List Pt)(i:Nat):Int:=if i=0 then -1 else match l[i-1]? with
 |some p=>p.a
 |none => -1
def xV(l:List Pt)(L:List Vl):Prop:=∃(b:Bool) (i:Nat),L=[.b b,.i i]/\i<=l.length/\kI (fE l i) (l.drop i)=kI (-1) l/\(0<i->0<=fE l i)
def Al(n:Nat)(L:List Vl):Nat:=match L with
 | [_,.i i]=>n-i.toNat
 |_=>0
theorem QD{w:World}{v:Value}{l:List Pt}(h:e_ w v 3 (l.flatMap yG))(hn:l.length<4611686018427387904):Calls Tryz.prog 123 #[v] w (Vc.aI (.bool (jM l)) w):=by
 obtain⟨b0,p0,x1,rfl,h2,h3⟩:=rO h;have gR:=zu h2;refine Yq p0 (l.length:Nat) x1 b0 w _ ⟨by omega,gR,_,λw' _=>Dn _ _ _ w',ae (λhl => ?_) (λhl => ?_)⟩;rotate_left
 ·refine nV ?_;simp only [Bool.and_eq_true,decide_eq_true_eq]at hl;unfold jM;rw [eq_comm,Bool.and_eq_false_iff];right;rw [Bool.and_eq_false_iff,decide_eq_false_iff_not,decide_eq_false_iff_not];omega
 simp only [Bool.and_eq_true,decide_eq_true_eq]at hl
 have hB:jM l=kI (-1) l:=by
  unfold jM;rw [decide_eq_true (by omega),decide_eq_true (by omega)];simp
 refine⟨xV l,Al l.length,⟨false,0,rfl,by omega,rfl,λh=>by omega⟩, ?_⟩;rintro b2 x2 ⟨b,i,hy,hi,ht,gx⟩;simp only [List.cons.injEq,Vl.b.injEq,Vl.i.injEq,and_true]at hy;obtain⟨rfl,rfl⟩:=hy;refine⟨by omega,gR,ae (λct => ?_) (λkq => ?_)⟩;rotate_left
 ·have y_:i=l.length:=by omega
  rw [y_,List.drop_length,kI]at ht;rw [hB,<-ht]
 have od:i<l.length:=by omega
 have hg:l[i]? = some l[i]:=List.getElem?_eq_getElem od;rw [List.drop_eq_getElem_cons od]at ht;generalize l[i]=p at hg ht;obtain⟨c1,c2,c3⟩:=h3 i p hg;have cI:¬b0=true:=λhb=>by have:=h2 hb;omega
 have bad:rQ (fE l i) p=false->(Value.bool false)=.bool (jM l):=λhb=>by
  unfold rQ at hb;rw [kI,hb,Bool.false_and]at ht;rw [hB,<-ht]
 have QF:rQ (fE l i) p=true->0<=p.a->xV l [.b b2,.i ((i+1:Nat):Int)]:=λhb hp=>by
  unfold rQ at hb;have e1:fE l (i+1)=p.a:=by unfold fE;rw [if_neg (by omega),Nat.add_sub_cancel,hg]
  refine⟨b2,i+1,rfl,by omega, ?_,λ_=>by rw [e1];exact hp⟩;rw [e1,<-ht,kI,hb,Bool.true_and]
 simp only [Int.toNat_natCast];refine⟨cI,by omega,by omega,p.a,c1,_,λw' _=>Dn _ _ _ w',ae (λq1 => ?_) (λq1 => ?_)⟩;rotate_left
 ·refine bad ?_;simp only [Bool.and_eq_true,decide_eq_true_eq]at q1;unfold rQ;rw [Bool.and_eq_false_iff];left;rw [Bool.and_eq_false_iff,decide_eq_false_iff_not,decide_eq_false_iff_not];by_cases h0:i=0
  ·have:fE l i = -1:=by unfold fE;rw [if_pos h0]
   omega
  ·have:=gx (by omega);omega
 simp only [Bool.and_eq_true,decide_eq_true_eq]at q1;refine⟨cI,by omega,by omega,p.lo,c2,p.hi,c3,_,λw' _=>BC _ _ _ w',ae (λq2 => ?_) (λq2 => ?_)⟩;rotate_left
 ·exact bad (by unfold rQ;rw [Bool.eq_false_iff.2 q2,Bool.and_false])
 have step:fE l i<p.a->∀x:Int,x=IntKind.i64.wrap ((i:Int)+1)->xV l [.b b2,.i x]/\Al l.length [.b b2,.i x]<Al l.length [.b b2,.i (i:Int)]:=λtk x hx=>by
  have e:x=((i+1:Nat):Int):=by rw [hx,zb (by omega)];omega
  subst e;exact⟨QF (by unfold rQ;rw [q2,decide_eq_true tk,decide_eq_true q1.2];rfl) q1.1,by simp only [Al];omega⟩
 refine ae (λh0 => ?_) (λh0 => ?_)
 ·have jR:l[i-1]? = some (l[i-1]'(by omega)):=List.getElem?_eq_getElem (by omega);have Va:fE l i=(l[i-1]'(by omega)).a:=by unfold fE;rw [if_neg (by omega),jR]
  obtain⟨d1,_,_⟩:=h3 (i-1) _ jR;refine⟨cI,by omega,by omega,p.a,c1, ?_⟩;rintro x7 rfl;rw [zb (by omega)];refine⟨cI,by omega,by omega,_,by rw [show Int.toNat ((i:Int)-1)=i-1 by omega];exact d1,ae (λq3 => ?_) (λq3 => ?_)⟩
  ·refine bad ?_;unfold rQ;rw [decide_eq_false (by omega)];rfl
  ·exact λx hx=>step (by omega) x hx
 ·refine λx hx=>step ?_ x hx
  have:fE l i = -1:=by unfold fE;rw [if_pos (by omega)]
  omega
def HF(ss:List f_)(es:List En)(nm:List UInt8)(i k:Nat)(L:List Vl):Prop:=∃(a:Int) (j:Nat),L=[.i a,.i j]/\j<=i+1/\(j<=i->nm ∉ bN (ss.take j))/\(j=i+1->nm ∉ bN (ss.take i)++(es.take k).map (·.nm))
def uD(n:Nat)(L:List Vl):Nat:=match L with
 | [_,.i j]=>n-j.toNat
 |_=>0
def HG(ss:List f_)(es:List En)(nm:List UInt8)(i k j:Nat)(L:List Vl):Prop:=∃(a:Int) (m:Nat),L=[.i a,.i m]/\m<=es.length/\(j=i->m<=k)/\nm ∉ bN (ss.take j)++(es.take m).map (·.nm)
theorem QG{ss:List f_}{i j m:Nat}{s:f_}{e:En}(hj:j<i)(hs:ss[j]? = some s)(he:s.es[m]? = some e):e.nm∈bN (ss.take i):=by
 unfold bN;rw [List.mem_flatMap];have h1:(ss.take i)[j]? = some s:=by rw [List.getElem?_take_of_lt hj,hs]
 exact⟨s,List.mem_of_getElem? h1,List.mem_map.2 ⟨e,List.mem_of_getElem? he,rfl⟩⟩
theorem QH{es:List En}{k m:Nat}{e:En}(hm:m<k)(he:es[m]? = some e):e.nm∈(es.take k).map (·.nm):=by
 have h1:(es.take k)[m]? = some e:=by rw [List.getElem?_take_of_lt hm,he]
 exact List.mem_map.2 ⟨e,List.mem_of_getElem? h1,rfl⟩
theorem zwy{w:World}{v:Value}{ss:List f_}(h:e_ w v 6 (ss.flatMap Bz))(eM:∀s∈ss,e_ w s.v 11 (s.es.flatMap enc))(mY:ss.length<4611686018427387904)
  (i_:∀s∈ss,s.nm.length<4611686018427387904/\s.es.length<4611686018427387904/\∀e∈s.es,e.nm.length<4611686018427387904)
  {i k:Nat} {s:f_} {e:En} (hs:ss[i]? = some s) (he:s.es[k]? = some e) :
  Calls Tryz.prog 166 #[v,.int .i64 (i:Nat),.int .i64 (k:Nat)] w (Vc.aI (.int .i64 (gZ (bN (ss.take i)++(s.es.take k).map (·.nm)) e)) w):=by
 obtain⟨b0,p0,c0,rfl,f0,g0⟩:=rP h;have hi:i<ss.length:=(List.getElem?_eq_some_iff.1 hs).1;have hk:k<s.es.length:=(List.getElem?_eq_some_iff.1 he).1;have xx:s∈ss:=List.mem_of_getElem? hs;have hem:e∈s.es:=List.mem_of_getElem? he;have cI:¬b0=true:=λhb=>by have:=f0 hb;omega
 obtain⟨_,_,_,_,_,k5⟩:=g0 i s hs;obtain⟨b1,p1,c1,e1,f1,g1⟩:=tD (eM s xx);have HH:¬b1=true:=λhb=>by have:=f1 hb;omega
 obtain⟨d0,d1,d2,d3,d4,d5,d6,d7,d8,d9,d10⟩:=g1 k e he;refine Yo p0 (ss.length:Nat) c0 (i:Nat) (k:Nat) b0 w _ ?_;simp only [Int.toNat_natCast]
 refine⟨cI,by omega,by omega,b1,p1,(s.es.length:Nat),c1,(by (try unfold Vc.rd);rw [k5,e1]),HH,by omega,by omega,e.nm,d0,e.n,d1,e.tl,d2,e.th,d3,e.fl,d4,e.fh,d5,e.le,d6,e.sl,d7,e.sh,d8,e.pl,d9,e.ph,d10,
  _,λw' _=>Qs e.nm ((i_ s xx).2.2 e hem) w',ae (λhn => ?_) (λhn => ?_)⟩
 rotate_left
 ·unfold gZ;rw [if_pos (by simpa using hn)]
 have dup:e.nm∈bN (ss.take i)++(s.es.take k).map (·.nm)->(Value.int .i64 8)=.int .i64 (gZ (bN (ss.take i)++(s.es.take k).map (·.nm)) e):=λhm=>by
  unfold gZ;rw [if_neg (by rw [hn];simp),if_pos hm]
 refine⟨HF ss s.es e.nm i k,uD (i+2),⟨0,0,rfl,by omega,λ_=>by simp [bN],λh=>by omega⟩, ?_⟩;rintro aT aZ ⟨a,j,hy,hj,hA,hB⟩;simp only [List.cons.injEq,Vl.i.injEq,and_true]at hy;obtain⟨rfl,rfl⟩:=hy;refine ae (λhle => ?_) (λzL => ?_)
 ·have rZ:j<=i:=by omega
  have xq:j<ss.length:=by omega
  have xW:ss[j]? = some ss[j]:=List.getElem?_eq_getElem xq;have Dp:ss[j]∈ss:=List.getElem_mem xq;have rz:j=i->ss[j]=s:=λh=>by subst h;rw [hs]at xW;exact (Option.some.inj xW).symm
  generalize ss[j]=sj at xW Dp rz;obtain⟨_,_,_,_,_,kj⟩:=g0 j sj xW;obtain⟨b3,p2,c3,e3,f3,g3⟩:=tD (eM sj Dp);have xX:=zu f3;have hz3:=(i_ sj Dp).2.1;have dB:w.cell? ⟨p0.1,p0.2+j*6+5,none⟩=some ((if b3=true then .slice none 0 0 else .slice (some (Vc.iK p2 (Int.toNat ((sj.es.length:Nat):Int)) c3.toNat)) (Int.toNat ((sj.es.length:Nat):Int)) c3.toNat:Value)):=by rw [kj,e3]
  have next:∀a':Int,(j<i->e.nm ∉ bN (ss.take j)++sj.es.map (·.nm))->(j=i->e.nm ∉ bN (ss.take i)++(s.es.take k).map (·.nm))->∀x:Int,x=IntKind.i64.wrap ((j:Int)+1) ->
    HF ss s.es e.nm i k [.i a',.i x]/\uD (i+2) [.i a',.i x]<uD (i+2) [.i aT,.i (j:Int)]:=λa' h1 h2 x hx=>by
   have Ge:x=((j+1:Nat):Int):=by rw [hx,zb (by omega)];omega
   subst Ge;refine⟨⟨a',j+1,rfl,by omega,λh => ?_,λh=>h2 (by omega)⟩,by simp only [uD];omega⟩;rw [VU xW];exact h1 (by omega)
  refine⟨HG ss sj.es e.nm i k j,uD sj.es.length,⟨aT,0,rfl,by omega,λ_=>by omega,by simpa using hA rZ⟩, ?_⟩;rintro aX bc ⟨a2,m,r9,hm,FV,hC⟩;simp only [List.cons.injEq,Vl.i.injEq,and_true]at r9;obtain⟨rfl,rfl⟩:=r9;have VZ:¬b3=true\/((sj.es.length:Nat):Int)=0:=xX;simp only [Int.toNat_natCast]at dB ⊢;refine⟨cI,by omega,by omega,b3,p2,(sj.es.length:Nat),c3,dB,by omega,xX,ae (λct => ?_) (λkq => ?_)⟩;rotate_left
  ·have Fo:m=sj.es.length:=by omega
   subst Fo;rw [List.take_length]at hC;refine λx hx=>next aX (λ_=>hC) (λvy => ?_) x hx
   have:=rz vy
   subst this
   have:=FV vy
   omega
  have Fo:m<sj.es.length:=by omega
  have xY:sj.es[m]? = some sj.es[m]:=List.getElem?_eq_getElem Fo;generalize sj.es[m]=e2 at xY;obtain⟨q0,_⟩:=g3 m e2 xY;have uE:¬b3=true:=λhb=>by have:=f3 hb;omega
  have BD:e2.nm≠e.nm->(j=i->m+1<=k)->∀x:Int,x=IntKind.i64.wrap ((m:Int)+1)->HG ss sj.es e.nm i k j [.i aX,.i x]/\uD sj.es.length [.i aX,.i x]<uD sj.es.length [.i aX,.i (m:Int)]:=λdt QI x hx=>by
   have Ge:x=((m+1:Nat):Int):=by rw [hx,zb (by omega)];omega
   subst Ge;refine⟨⟨aX,m+1,rfl,by omega,QI, ?_⟩,by simp only [uD];omega⟩;rw [VX xY];intro tf;rw [<-List.append_assoc]at tf;rcases List.mem_append.1 tf with tf|tf
   ·exact hC tf
   ·simp only [List.mem_singleton]at tf;exact dt tf.symm
  refine ae (λtk => ?_) (λQJ => ?_)
  ·refine⟨cI,by omega,by omega,b3,p2,(sj.es.length:Nat),c3,dB,uE,by omega,by omega,e2.nm,q0,ae (λheq => ?_) (λdt => ?_)⟩
   ·exact dup (List.mem_append_left _ (by rw [<-heq];exact QG (by omega) xW xY))
   ·exact BD dt (λh=>by omega)
  ·have vy:j=i:=by omega
   have:=rz vy
   subst this;refine ae (λaab => ?_) (λaac => ?_)
   ·refine⟨cI,by omega,by omega,b3,p2,(sj.es.length:Nat),c3,dB,uE,by omega,by omega,e2.nm,q0,ae (λheq => ?_) (λdt => ?_)⟩
    ·exact dup (List.mem_append_right _ (by rw [<-heq];exact QH (by omega) xY))
    ·exact BD dt (λh=>by omega)
   ·have QK:m=k:=by have:=FV vy;omega
    refine λx hx=>next aX (λh=>by omega) (λ_ => ?_) x hx
    rw [<-vy,<-QK];exact hC
 ·have Ae:j=i+1:=by omega
  have hp:=hB Ae;have hF:gZ (bN (ss.take i)++(s.es.take k).map (·.nm)) e=if jg e=false then 4 else 0:=by unfold gZ;rw [if_neg (by rw [hn];simp),if_neg hp]
  rw [hF];have bad:jg e=false->(Value.int .i64 4)=.int .i64 (if jg e=false then 4 else 0):=λhr=>by rw [if_pos hr]
  refine⟨_,λw' _=>Dn _ _ _ w',ae (λr1=>⟨_,λw' _=>BC _ _ _ w',ae (λr2=>⟨_,λw' _=>BC _ _ _ w',ae (λr3=>⟨_,λw' _=>Dn _ _ _ w',ae (λr4=>⟨_,λw' _=>BC _ _ _ w',ae (λr5 =>
   ⟨_,λw' _=>BC _ _ _ w',ae (λr6 => ?_) (λr6=>bad (by simp [jg,r6]))⟩) (λr5=>bad (by simp [jg,r5]))⟩) (λr4=>bad (by unfold jg;rw [Bool.eq_false_iff.2 r4];simp))⟩) (λr3=>bad (by simp [jg,r3]))⟩) (λr2=>bad (by simp [jg,r2]))⟩) (λr1=>bad (by unfold jg;rw [Bool.eq_false_iff.2 r1];simp))⟩
  have hr:jg e=true:=by unfold jg;rw [r1,r2,r3,r4,r5,r6];rfl
  rw [if_neg (by rw [hr];simp)]
end Go.Proofs.YtkbchjlnhgfpmaaGreatDoor
