import Derived.Test.YtnjpiipdgapakaaGreatDoorCp
import Derived.WalkKit
import Derived.ProofKit
import Derived.OpenShut
import Derived.Lib.SmallJoins
import Derived.SizedLaws
set_option linter.unusedVariables false
set_option linter.unusedSimpArgs false
set_option maxRecDepth 4000
namespace Go.Proofs.YtnjpiipdgapakaaGreatDoor
open Go Go.RowKit Go.ChangeShapes Go.WideShapes Go.ChangeAt Go.Joins Go.Deep Ul Vc
theorem EK{α:Type}{R:Nat->α->Prop}:∀(n:Nat),(∀i,i<n->∃a,R i a)->∃l:List α,l.length=n/\∀i a,l[i]? = some a->R i a
  |0,_=>⟨[],rfl,λi a h=>by simp at h⟩
  |n+1,h=>by
    obtain⟨l,h1,h2⟩:=EK n λi hi=>h i (by omega);obtain⟨a,ha⟩:=h n (by omega);refine⟨l ++ [a],by simp [h1],λi b hb => ?_⟩;by_cases hi:i<l.length
    · rw [List.getElem?_append_left hi]at hb;exact h2 i b hb
    · rw [List.getElem?_append_right (by omega)]at hb
      have:i-l.length=0:=by
        have:=(List.getElem?_eq_some_iff.1 hb).1
        simp at this;omega
      rw [this]at hb;simp at hb;subst hb
      have:i=n:=by omega
      subst this;exact ha
def vg:Value->Prop
 | .slice _ l c=>l<=c
 |_=>True
section
variable {H:Type} {pX:TypeId × Value->H} {P:Program} {w:World} {base:Nat} {sp:Nat->Bool} {held:Bool}
def Wt(P:Program)(t:TypeId)(d:DataW H):Prop:=∀n∈d.weights P t,n<=reachBytes
theorem Rl{e:TypeId}{d:DataW H}{n:Nat}:∀{l:List (DataW H)},d∈l->n∈d.weights P e->n∈DataW.weightsAll P e l
  |x::l,hd,hn=>by
    simp only [DataW.weightsAll,List.mem_append];rcases List.mem_cons.1 hd with rfl|hd
    · exact .inl hn
    · exact .inr (Rl hd hn)
theorem BY{t:TypeId}{fs:Array Field}{ds:List (DataW H)}(ht:P.underlying t=some (.struct fs))(hw:Wt P t (.agg ds)){j:Nat}{u:TypeId}{d:DataW H}(hu:(fs.toList.map (·.type))[j]? = some u)(hd:ds[j]? = some d):Wt P u d:=by
 intro n hn;refine hw n ?_;simp only [DataW.weights,ht];exact DataW.weights_mem_each hu hd n hn
theorem AK{t:TypeId}{s:List UInt8}(hw:Wt P t (.lit (.string s):DataW H)):s.length<=reachBytes:=hw _ (by simp [DataW.weights])
theorem AL{α:Type}{f:α->List Value}{G:α->Prop}{c:Nat}{t e:TypeId}(ln:∀b,sp b=true)(ht:P.underlying t=some (.slice e))(hc:P.cellsOf e=c)(c0:0<c)(hf:∀a,(f a).length=c)
  (hE:∀fuel cs x,DataW.trod pX P w base sp held fuel e cs=some x->Wt P e x.1->∃a,cs=f a/\G a) {v:Value} {fuel:Nat} {x:DataW H × List MemPlace} (hx:DataW.trod pX P w base sp held fuel t [v]=some x) (hw:Wt P t x.1) (dU:0<P.bytesOf e) :
  ∃l:List α,gP w v c (l.flatMap f)/\(∀a∈l,G a)/\l.length<=reachBytes/\vg v:=by
 rcases DataW.trod_slice ht hx with ⟨h1,_⟩|⟨a,len,cap,elems,rest,n,_,h1,Bn,hb,hl,hm,hlen,GQ,AM,_⟩
 ·simp only [List.cons.injEq,and_true]at h1;exact⟨[],.inl ⟨h1,rfl⟩,(λa ha=>by cases ha),by simp,by rw [h1];exact Nat.le_refl _⟩
 ·simp only [List.cons.injEq,and_true]at h1;subst h1;obtain⟨b,o,spot⟩:=a;by_cases pk:cap=0
  ·obtain rfl:len=0:=by omega
   subst pk;exact⟨[],.inr (.inl ⟨_,rfl,rfl⟩),(λa ha=>by cases ha),by simp,Nat.le_refl _⟩
  have hs:spot=none:=by
   have nP:∀k cs,k*c=k*c->w.cells? base ((⟨b,o,spot⟩:Addr).add (k*c)) c=some cs->k=0->spot=none:=λk cs _ h hk=>by
    subst hk;have h2:=(World.cells?_some h).2;have h3:=h2.2 0 c0;rw [List.getElem?_eq_getElem (by omega)]at h3;simpa [Addr.add]using World.cell?_spot h3
   by_cases EL:len=0
   ·obtain⟨XA,Bs⟩:=AM (ln b);have h2:=Bs 0 (by omega);rw [List.getElem?_eq_getElem (by omega),hc,Option.bind_eq_some_iff]at h2;obtain⟨cs,h3,_⟩:=h2;rw [EL]at h3;exact nP 0 cs rfl (by simpa using h3) rfl
   ·have h2:=GQ 0 (by omega);rw [List.getElem?_eq_getElem (by omega),hc,Option.bind_eq_some_iff]at h2;obtain⟨cs,h3,_⟩:=h2;exact nP 0 cs rfl h3 rfl
  subst hs
  have Ge:∀n∈((elems.map (·.1)).length+(rest.map (·.1)).length)*P.bytesOf e::(DataW.weightsAll P e (elems.map (·.1))++DataW.weightsAll P e (rest.map (·.1))),n<=reachBytes:=by
   intro n hn;refine hw n ?_;rw [Bn];simp only [DataW.weights,ht];exact hn
  have XB:len<=reachBytes:=by
   have h9:=Ge _ (List.mem_cons_self ..);rw [List.length_map,List.length_map,hlen]at h9
   have:len*1<=(len+rest.length)*P.bytesOf e:=Nat.mul_le_mul (by omega) dU
   omega
  have each:∀i,i<len->∃y:α,G y/\∀j,j<c->w.cell? ⟨b,o+(i*c+j),none⟩=(f y)[j]? := λi hi=>by
   have h2:=GQ i hi;rw [List.getElem?_eq_getElem (by omega),hc,Option.bind_eq_some_iff]at h2;obtain⟨cs,h3,h4⟩:=h2;obtain⟨y,rfl,hg⟩:=hE _ _ _ h4 (λn hn=>Ge n (List.mem_cons_of_mem _ (List.mem_append_left _ (Rl (List.mem_map_of_mem (List.getElem_mem (by omega))) hn))));refine⟨y,hg,λj hj => ?_⟩;rw [<-(World.cells?_some h3).2.2 j hj,sf,sf,Nat.add_assoc]
  obtain⟨l,mL,fZ⟩:=EK len each;refine⟨l,.inr (.inr ⟨b,o,len,cap,rfl,by rw [vN hf,mL],λj u hj => ?_⟩),λa ha => ?_,by omega,by show _<=_;omega⟩
  ·have DN:j<l.length*c:=by
    have:=(List.getElem?_eq_some_iff.1 hj).1
    rwa [vN hf]at this
   have hi:j / c<l.length:=(Nat.div_lt_iff_lt_mul c0).2 DN;have hr:j % c<c:=Nat.mod_lt _ c0;have VQ:j=j / c*c+j % c:=by rw [Nat.mul_comm];exact (Nat.div_add_mod j c).symm
   have hp:=List.getElem?_eq_getElem hi;rw [VQ]at hj ⊢;rw [zm hf hp hr]at hj;rw [<-hj];exact (fZ _ _ hp).2 _ hr
  ·obtain⟨i,hi⟩:=List.getElem?_of_mem ha;exact (fZ i a hi).1
end
section
variable {H:Type} {pX:TypeId × Value->H} {w:World} {base:Nat} {sp:Nat->Bool} {held:Bool}
theorem yw{fuel:Nat}{cs:List Value}{x:DataW H × List MemPlace}(h:DataW.trod pX Tryz.prog w base sp held fuel 25 cs=some x):∃a b:Int,cs=[.int .i64 a,.int .i64 b]:=by
  obtain⟨y0,y1,n,rfl,hl,h0,h1⟩:=trod_struct2 Tryz.underlying25 h;have e1:Tryz.prog.cellsOf 23=1:=by kernel_rfl
  have e3:Tryz.prog.cellsOf 25=2:=by kernel_rfl
  rw [e3]at hl;simp only [e1]at h0 h1
  match cs,hl with
  | [c0,c1],_ =>
    obtain⟨a,ha,_,_⟩:=DataW.trod_int Tryz.underlying23 h0;obtain⟨b,hb,_,_⟩:=DataW.trod_int Tryz.underlying23 h1;simp at ha hb;exact⟨a,b,by rw [ha,hb]⟩
theorem Mk(ln:∀b,sp b=true){fuel:Nat}{cs:List Value}{x:DataW H × List MemPlace}(h:DataW.trod pX Tryz.prog w base sp held fuel 117 cs=some x)(hw:Wt Tryz.prog 117 x.1):∃z:Pt,cs=AJ z/\True:=by
  obtain⟨y0,y1,n,rfl,hl,h0,h1⟩:=trod_struct2 Tryz.underlying117 h;have e1:Tryz.prog.cellsOf 23=1:=by kernel_rfl
  have e2:Tryz.prog.cellsOf 25=2:=by kernel_rfl
  have e3:Tryz.prog.cellsOf 117=3:=by kernel_rfl
  rw [e3]at hl;simp only [e1,e2]at h0 h1
  match cs,hl with
  | [c0,c1,c2],_ =>
    obtain⟨a,ha,_,_⟩:=DataW.trod_int Tryz.underlying23 h0;obtain⟨b,c,hb⟩:=yw h1;simp at ha hb;exact⟨⟨a,b,c⟩,by rw [ha,hb.1,hb.2];rfl,trivial⟩
def GR(e:En):Prop:=e.nm.length<=reachBytes
set_option maxRecDepth 100000 in
theorem Ml(ln:∀b,sp b=true){fuel:Nat}{cs:List Value}{x:DataW H × List MemPlace}(h:DataW.trod pX Tryz.prog w base sp held fuel 99 cs=some x)(hw:Wt Tryz.prog 99 x.1):∃z:En,cs=enc z/\GR z:=by
  obtain⟨xs,n,_,rfl,hl,hlen,hf⟩:=DataW.trod_struct Tryz.underlying99 h;have e0:Tryz.prog.cellsOf 9=1:=by kernel_rfl
  have e1:Tryz.prog.cellsOf 3=1:=by kernel_rfl
  have e2:Tryz.prog.cellsOf 25=2:=by kernel_rfl
  have e4:Tryz.prog.cellsOf 23=1:=by kernel_rfl
  have e3:Tryz.prog.cellsOf 99=11:=by kernel_rfl
  rw [e3]at hl
  match xs,hlen with
  | [y0,y1,y2,y3,y4,y5,y6],_ =>
    match cs,hl with
    | [c0,c1,c2,c3,c4,c5,c6,c7,c8,c9,Mm],_ =>
      have g0:=hf 0 _ rfl;have g1:=hf 1 _ rfl;have g2:=hf 2 _ rfl;have g3:=hf 3 _ rfl;have g4:=hf 4 _ rfl;have g5:=hf 5 _ rfl;have g6:=hf 6 _ rfl;have w0:Wt Tryz.prog 9 y0.1:=BY Tryz.underlying99 hw (j:=0) rfl rfl;simp [e0,e1,e2,e4]at g0 g1 g2 g3 g4 g5 g6;obtain⟨s,hs,AA,_⟩:=DataW.trod_string Tryz.underlying9 g0;obtain⟨a1,pd,_,_⟩:=DataW.trod_int Tryz.underlying3 g1;obtain⟨a2,b2,jc⟩:=yw g2;obtain⟨a3,b3,oJ⟩:=yw g3;obtain⟨a4,rN,_,_⟩:=DataW.trod_int Tryz.underlying23 g4;obtain⟨a5,b5,FN⟩:=yw g5;obtain⟨a6,b6,Rm⟩:=yw g6;simp at hs pd jc oJ rN FN Rm;obtain⟨rfl,rfl⟩:=jc;obtain⟨rfl,rfl⟩:=oJ;obtain⟨rfl,rfl⟩:=FN;obtain⟨rfl,rfl⟩:=Rm;refine⟨⟨s.data.toList,a1,a2,b2,a3,b3,a4,a5,b5,a6,b6⟩,by rw [hs,pd,rN];rfl, ?_⟩;rw [AA]at w0;exact AK w0
theorem Mn{P:Program}(ln:∀b,sp b=true)(hP:P=Tryz.prog){fuel:Nat}{v:Value}{cs:List Value}{x:DataW H × List MemPlace}(h:DataW.trod pX P w base sp held fuel 52 cs=some x)(oc:cs=[v])(hw:Wt P 52 x.1):∃l:List En,gP w v 11 (l.flatMap enc)/\(∀z∈l,GR z)/\l.length<=reachBytes:=by
 subst oc;have hu:P.underlying 52=some (.slice 99):=by rw [hP];kernel_rfl
 have hc:P.cellsOf 99=11:=by rw [hP];kernel_rfl
 have hb:0<P.bytesOf 99:=by rw [hP];exact of_decide_eq_true (by kernel_rfl)
 have hE:∀fuel cs x,DataW.trod pX P w base sp held fuel 99 cs=some x->Wt P 99 x.1->∃z:En,cs=enc z/\GR z:=λfuel cs x h hw=>by rw [hP]at h hw;exact Ml ln h hw
 clear hP;obtain⟨l,h1,h2,h3,h4⟩:=AL ln hu hc (by omega) sX hE h hw hb;exact⟨l,h1,h2,h3⟩
theorem Mo{P:Program}(ln:∀b,sp b=true)(hP:P=Tryz.prog){fuel:Nat}{v:Value}{cs:List Value}{x:DataW H × List MemPlace}(h:DataW.trod pX P w base sp held fuel 26 cs=some x)(oc:cs=[v])(hw:Wt P 26 x.1):∃l:List Pt,gP w v 3 (l.flatMap AJ)/\(∀z∈l,True)/\l.length<=reachBytes:=by
 subst oc;have hu:P.underlying 26=some (.slice 117):=by rw [hP];kernel_rfl
 have hc:P.cellsOf 117=3:=by rw [hP];kernel_rfl
 have hb:0<P.bytesOf 117:=by rw [hP];exact of_decide_eq_true (by kernel_rfl)
 have hE:∀fuel cs x,DataW.trod pX P w base sp held fuel 117 cs=some x->Wt P 117 x.1->∃z:Pt,cs=AJ z/\True:=λfuel cs x h hw=>by rw [hP]at h hw;exact Mk ln h hw
 clear hP;obtain⟨l,h1,h2,h3,h4⟩:=AL ln hu hc (by omega) EJ hE h hw hb;exact⟨l,h1,h2,h3⟩
def Mp(w:World)(s:je):Prop:=gP w s.v 11 (s.es.flatMap enc)/\s.nm.length<=reachBytes/\s.es.length<=reachBytes/\∀e∈s.es,GR e
set_option maxRecDepth 100000 in
theorem Mq(ln:∀b,sp b=true){fuel:Nat}{cs:List Value}{x:DataW H × List MemPlace}(h:DataW.trod pX Tryz.prog w base sp held fuel 54 cs=some x)(hw:Wt Tryz.prog 54 x.1):∃z:je,cs=BX z/\Mp w z:=by
  obtain⟨xs,n,_,rfl,hl,hlen,hf⟩:=DataW.trod_struct Tryz.underlying54 h;have e0:Tryz.prog.cellsOf 9=1:=by kernel_rfl
  have e2:Tryz.prog.cellsOf 25=2:=by kernel_rfl
  have e4:Tryz.prog.cellsOf 52=1:=by kernel_rfl
  have e3:Tryz.prog.cellsOf 54=6:=by kernel_rfl
  rw [e3]at hl
  match xs,hlen with
  | [y0,y1,y2,y3],_ =>
    match cs,hl with
    | [c0,c1,c2,c3,c4,c5],_ =>
      have g0:=hf 0 _ rfl;have g1:=hf 1 _ rfl;have g2:=hf 2 _ rfl;have g3:=hf 3 _ rfl;have w0:Wt Tryz.prog 9 y0.1:=BY Tryz.underlying54 hw (j:=0) rfl rfl;have w3:Wt Tryz.prog 52 y3.1:=BY Tryz.underlying54 hw (j:=3) rfl rfl;simp [e0,e2,e4]at g0 g1 g2 g3;obtain⟨s,hs,AA,_⟩:=DataW.trod_string Tryz.underlying9 g0;obtain⟨a1,b1,gd⟩:=yw g1;obtain⟨a2,b2,jc⟩:=yw g2;obtain⟨l,l1,l2,l3⟩:=Mn ln rfl g3 rfl w3;simp at hs gd jc;obtain⟨rfl,rfl⟩:=gd;obtain⟨rfl,rfl⟩:=jc;refine⟨⟨s.data.toList,a1,b1,a2,b2,c5,l⟩,by rw [hs];rfl,l1, ?_,l3,l2⟩;rw [AA]at w0;exact AK w0
theorem Mr{P:Program}(ln:∀b,sp b=true)(hP:P=Tryz.prog){fuel:Nat}{v:Value}{cs:List Value}{x:DataW H × List MemPlace}(h:DataW.trod pX P w base sp held fuel 22 cs=some x)(oc:cs=[v])(hw:Wt P 22 x.1):∃l:List je,gP w v 6 (l.flatMap BX)/\(∀z∈l,Mp w z)/\l.length<=reachBytes/\vg v:=by
 subst oc;have hu:P.underlying 22=some (.slice 54):=by rw [hP];kernel_rfl
 have hc:P.cellsOf 54=6:=by rw [hP];kernel_rfl
 have hb:0<P.bytesOf 54:=by rw [hP];exact of_decide_eq_true (by kernel_rfl)
 have hE:∀fuel cs x,DataW.trod pX P w base sp held fuel 54 cs=some x->Wt P 54 x.1->∃z:je,cs=BX z/\Mp w z:=λfuel cs x h hw=>by rw [hP]at h hw;exact Mq ln h hw
 clear hP;obtain⟨l,h1,h2,h3,h4⟩:=AL ln hu hc (by omega) yv hE h hw hb;exact⟨l,h1,h2,h3,h4⟩
structure EM(v:Vh):Prop where
 nm:v.nm.length<=reachBytes
 st:∀s∈v.ss,s.nm.length<=reachBytes/\s.es.length<=reachBytes/\∀e∈s.es,e.nm.length<=reachBytes
 sn:v.ss.length<=reachBytes
 dn:v.dr.length<=reachBytes
 cp:vg v.sv
theorem Ms:reachBytes<140737488355329:=by decide
theorem EM.sz{v:Vh}(h:EM v):oB v:=by
 have hr:=Ms;have le:∀n,n<=reachBytes->n<4611686018427387904:=λn hn=>by omega
 exact⟨le _ h.nm,λs hs=>⟨le _ (h.st s hs).1,le _ (h.st s hs).2.1,λe he=>le _ ((h.st s hs).2.2 e he)⟩,le _ h.sn,le _ h.dn⟩
set_option maxRecDepth 100000 in
theorem Mt(ln:∀b,sp b=true){fuel:Nat}{cs:List Value}{x:DataW H × List MemPlace}(h:DataW.trod pX Tryz.prog w base sp held fuel 28 cs=some x)(hw:Wt Tryz.prog 28 x.1):∃p:Vh,Value.agg cs.toArray=kq p/\jV w p/\EM p:=by
  obtain⟨xs,n,_,rfl,hl,hlen,hf⟩:=DataW.trod_struct Tryz.underlying28 h;have e0:Tryz.prog.cellsOf 9=1:=by kernel_rfl
  have e2:Tryz.prog.cellsOf 25=2:=by kernel_rfl
  have e4:Tryz.prog.cellsOf 22=1:=by kernel_rfl
  have e5:Tryz.prog.cellsOf 26=1:=by kernel_rfl
  have e6:Tryz.prog.cellsOf 23=1:=by kernel_rfl
  have e3:Tryz.prog.cellsOf 28=7:=by kernel_rfl
  rw [e3]at hl
  match xs,hlen with
  | [y0,y1,y2,y3,y4,y5],_ =>
    match cs,hl with
    | [c0,c1,c2,c3,c4,c5,c6],_ =>
      have g0:=hf 0 _ rfl;have g1:=hf 1 _ rfl;have g2:=hf 2 _ rfl;have g3:=hf 3 _ rfl;have g4:=hf 4 _ rfl;have g5:=hf 5 _ rfl;have w0:Wt Tryz.prog 9 y0.1:=BY Tryz.underlying28 hw (j:=0) rfl rfl;have w1:Wt Tryz.prog 22 y1.1:=BY Tryz.underlying28 hw (j:=1) rfl rfl;have w3:Wt Tryz.prog 26 y3.1:=BY Tryz.underlying28 hw (j:=3) rfl rfl;simp [e0,e2,e4,e5,e6]at g0 g1 g2 g3 g4 g5;obtain⟨s,hs,AA,_⟩:=DataW.trod_string Tryz.underlying9 g0;obtain⟨l,l1,l2,l3,l4⟩:=Mr ln rfl g1 rfl w1;obtain⟨a2,b2,jc⟩:=yw g2;obtain⟨m,m1,_,m3⟩:=Mo ln rfl g3 rfl w3;obtain⟨a4,rN,_,_⟩:=DataW.trod_int Tryz.underlying23 g4;obtain⟨a5,Rn,_,_⟩:=DataW.trod_int Tryz.underlying23 g5;simp at hs jc rN Rn;obtain⟨rfl,rfl⟩:=jc;refine⟨⟨s.data.toList,c1,l,a2,b2,c4,m,a4,a5⟩,by rw [hs,rN,Rn];rfl,⟨l1,λz hz=>(l2 z hz).1,m1⟩, ?_,λz hz=>(l2 z hz).2,l3,m3,l4⟩;rw [AA]at w0;exact AK w0
theorem Mu{P:Program}(ln:∀b,sp b=true)(hP:P=Tryz.prog){r:Reach}{b0:Nat}{v:Value}{d:DataW H}{ps:List MemPlace}(gR:Value.okWide P w r b0 28 v)(hd:DataW.Trod pX P w base sp held 28 v d ps)(hw:Wt P 28 d) :
  ∃p:Vh,v=kq p/\jV w p/\EM p:=by
 obtain⟨fs,xD⟩:∃fs,P.underlying 28=some (.struct fs):=⟨_,by rw [hP];exact Tryz.underlying28⟩;have hz:∀fuel cs x,DataW.trod pX P w base sp held fuel 28 cs=some x->Wt P 28 x.1->∃p:Vh,Value.agg cs.toArray=kq p/\jV w p/\EM p:=λfuel cs x h hw=>by rw [hP]at h hw;exact Mt ln h hw
 clear hP;obtain⟨cs,rfl,_⟩:=okWide_struct xD gR;obtain⟨fuel,hf⟩:=hd;obtain⟨z,h1,h2⟩:=hz _ _ _ hf hw;exact⟨z,h1,h2⟩
end
end Go.Proofs.YtnjpiipdgapakaaGreatDoor
