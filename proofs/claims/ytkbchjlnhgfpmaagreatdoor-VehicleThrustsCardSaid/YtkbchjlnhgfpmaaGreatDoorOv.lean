import Derived.Test.YtkbchjlnhgfpmaaGreatDoorCp
import Derived.WalkKit
import Derived.ProofKit
import Derived.OpenShut
import Derived.Lib.SmallJoins
import Derived.SizedLaws
set_option linter.unusedVariables false
set_option linter.unusedSimpArgs false
set_option maxRecDepth 4000
namespace Go.Proofs.YtkbchjlnhgfpmaaGreatDoor
open Go Go.RowKit Go.ChangeShapes Go.WideShapes Go.ChangeAt Go.Joins Go.Deep Ul Vc
theorem Im{α:Type}{R:Nat->α->Prop}:∀(n:Nat),(∀i,i<n->∃a,R i a)->∃l:List α,l.length=n/\∀i a,l[i]? = some a->R i a
  |0,_=>⟨[],rfl,λi a h=>by simp at h⟩
  |n+1,h=>by
    obtain⟨l,h1,h2⟩:=Im n λi hi=>h i (by omega);obtain⟨a,ha⟩:=h n (by omega);refine⟨l ++ [a],by simp [h1],λi b hb => ?_⟩;by_cases hi:i<l.length
    · rw [List.getElem?_append_left hi]at hb;exact h2 i b hb
    · rw [List.getElem?_append_right (by omega)]at hb
      have:i-l.length=0:=by
        have:=(List.getElem?_eq_some_iff.1 hb).1
        simp at this;omega
      rw [this]at hb;simp at hb;subst hb
      have:i=n:=by omega
      subst this;exact ha
def ye:Value->Prop
 | .slice _ l c=>l<=c
 |_=>True
section
variable {H:Type} {sB:TypeId × Value->H} {P:Program} {w:World} {base:Nat} {sp:Nat->Bool} {held:Bool}
def Wt(P:Program)(t:TypeId)(d:DataW H):Prop:=∀n∈d.weights P t,n<=reachBytes
theorem Wa{e:TypeId}{d:DataW H}{n:Nat}:∀{l:List (DataW H)},d∈l->n∈d.weights P e->n∈DataW.weightsAll P e l
  |x::l,hd,hn=>by
    simp only [DataW.weightsAll,List.mem_append];rcases List.mem_cons.1 hd with rfl|hd
    · exact .inl hn
    · exact .inr (Wa hd hn)
theorem Ey{t:TypeId}{fs:Array Field}{ds:List (DataW H)}(ht:P.underlying t=some (.struct fs))(hw:Wt P t (.agg ds)){j:Nat}{u:TypeId}{d:DataW H}(hu:(fs.toList.map (·.type))[j]? = some u)(hd:ds[j]? = some d):Wt P u d:=by
 intro n hn;refine hw n ?_;simp only [DataW.weights,ht];exact DataW.weights_mem_each hu hd n hn
theorem DB{t:TypeId}{s:List UInt8}(hw:Wt P t (.lit (.string s):DataW H)):s.length<=reachBytes:=hw _ (by simp [DataW.weights])
theorem DC{α:Type}{f:α->List Value}{G:α->Prop}{c:Nat}{t e:TypeId}(mT:∀b,sp b=true)(ht:P.underlying t=some (.slice e))(hc:P.cellsOf e=c)(c0:0<c)(hf:∀a,(f a).length=c)
  (hE:∀fuel cs x,DataW.trod sB P w base sp held fuel e cs=some x->Wt P e x.1->∃a,cs=f a/\G a) {v:Value} {fuel:Nat} {x:DataW H × List MemPlace} (hx:DataW.trod sB P w base sp held fuel t [v]=some x) (hw:Wt P t x.1) (ff:0<P.bytesOf e) :
  ∃l:List α,e_ w v c (l.flatMap f)/\(∀a∈l,G a)/\l.length<=reachBytes/\ye v:=by
 rcases DataW.trod_slice ht hx with ⟨h1,_⟩|⟨a,len,cap,elems,rest,n,_,h1,D0,hb,hl,hm,hlen,Kh,DD,_⟩
 ·simp only [List.cons.injEq,and_true]at h1;exact⟨[],.inl ⟨h1,rfl⟩,(λa ha=>by cases ha),by simp,by rw [h1];exact Nat.le_refl _⟩
 ·simp only [List.cons.injEq,and_true]at h1;subst h1;obtain⟨b,o,spot⟩:=a;by_cases rq:cap=0
  ·obtain rfl:len=0:=by omega
   subst rq;exact⟨[],.inr (.inl ⟨_,rfl,rfl⟩),(λa ha=>by cases ha),by simp,Nat.le_refl _⟩
  have hs:spot=none:=by
   have pv:∀k cs,k*c=k*c->w.cells? base ((⟨b,o,spot⟩:Addr).add (k*c)) c=some cs->k=0->spot=none:=λk cs _ h hk=>by
    subst hk;have h2:=(World.cells?_some h).2;have h3:=h2.2 0 c0;rw [List.getElem?_eq_getElem (by omega)]at h3;simpa [Addr.add]using World.cell?_spot h3
   by_cases Io:len=0
   ·obtain⟨hr1,D9⟩:=DD (mT b);have h2:=D9 0 (by omega);rw [List.getElem?_eq_getElem (by omega),hc,Option.bind_eq_some_iff]at h2;obtain⟨cs,h3,_⟩:=h2;rw [Io]at h3;exact pv 0 cs rfl (by simpa using h3) rfl
   ·have h2:=Kh 0 (by omega);rw [List.getElem?_eq_getElem (by omega),hc,Option.bind_eq_some_iff]at h2;obtain⟨cs,h3,_⟩:=h2;exact pv 0 cs rfl h3 rfl
  subst hs
  have Ju:∀n∈((elems.map (·.1)).length+(rest.map (·.1)).length)*P.bytesOf e::(DataW.weightsAll P e (elems.map (·.1))++DataW.weightsAll P e (rest.map (·.1))),n<=reachBytes:=by
   intro n hn;refine hw n ?_;rw [D0];simp only [DataW.weights,ht];exact hn
  have hlr:len<=reachBytes:=by
   have h9:=Ju _ (List.mem_cons_self ..);rw [List.length_map,List.length_map,hlen]at h9
   have:len*1<=(len+rest.length)*P.bytesOf e:=Nat.mul_le_mul (by omega) ff
   omega
  have each:∀i,i<len->∃y:α,G y/\∀j,j<c->w.cell? ⟨b,o+(i*c+j),none⟩=(f y)[j]? := λi hi=>by
   have h2:=Kh i hi;rw [List.getElem?_eq_getElem (by omega),hc,Option.bind_eq_some_iff]at h2;obtain⟨cs,h3,h4⟩:=h2;obtain⟨y,rfl,hg⟩:=hE _ _ _ h4 (λn hn=>Ju n (List.mem_cons_of_mem _ (List.mem_append_left _ (Wa (List.mem_map_of_mem (List.getElem_mem (by omega))) hn))));refine⟨y,hg,λj hj => ?_⟩;rw [<-(World.cells?_some h3).2.2 j hj,uR,uR,Nat.add_assoc]
  obtain⟨l,oC,gj⟩:=Im len each;refine⟨l,.inr (.inr ⟨b,o,len,cap,rfl,by rw [vQ hf,oC],λj u hj => ?_⟩),λa ha => ?_,by omega,by show _<=_;omega⟩
  ·have xq:j<l.length*c:=by
    have:=(List.getElem?_eq_some_iff.1 hj).1
    rwa [vQ hf]at this
   have hi:j / c<l.length:=(Nat.div_lt_iff_lt_mul c0).2 xq;have hr:j % c<c:=Nat.mod_lt _ c0;have hjd:j=j / c*c+j % c:=by rw [Nat.mul_comm];exact (Nat.div_add_mod j c).symm
   have hp:=List.getElem?_eq_getElem hi;rw [hjd]at hj ⊢;rw [zm hf hp hr]at hj;rw [<-hj];exact (gj _ _ hp).2 _ hr
  ·obtain⟨i,hi⟩:=List.getElem?_of_mem ha;exact (gj i a hi).1
end
section
variable {H:Type} {sB:TypeId × Value->H} {w:World} {base:Nat} {sp:Nat->Bool} {held:Bool}
theorem BO{fuel:Nat}{cs:List Value}{x:DataW H × List MemPlace}(h:DataW.trod sB Tryz.prog w base sp held fuel 25 cs=some x):∃a b:Int,cs=[.int .i64 a,.int .i64 b]:=by
  obtain⟨y0,y1,n,rfl,hl,h0,h1⟩:=trod_struct2 Tryz.underlying25 h;have e1:Tryz.prog.cellsOf 23=1:=by kernel_rfl
  have e3:Tryz.prog.cellsOf 25=2:=by kernel_rfl
  rw [e3]at hl;simp only [e1]at h0 h1
  match cs,hl with
  | [c0,c1],_ =>
    obtain⟨a,ha,_,_⟩:=DataW.trod_int Tryz.underlying23 h0;obtain⟨b,hb,_,_⟩:=DataW.trod_int Tryz.underlying23 h1;simp at ha hb;exact⟨a,b,by rw [ha,hb]⟩
theorem RK(mT:∀b,sp b=true){fuel:Nat}{cs:List Value}{x:DataW H × List MemPlace}(h:DataW.trod sB Tryz.prog w base sp held fuel 109 cs=some x)(hw:Wt Tryz.prog 109 x.1):∃z:Pt,cs=yG z/\True:=by
  obtain⟨y0,y1,n,rfl,hl,h0,h1⟩:=trod_struct2 Tryz.underlying109 h;have e1:Tryz.prog.cellsOf 23=1:=by kernel_rfl
  have e2:Tryz.prog.cellsOf 25=2:=by kernel_rfl
  have e3:Tryz.prog.cellsOf 109=3:=by kernel_rfl
  rw [e3]at hl;simp only [e1,e2]at h0 h1
  match cs,hl with
  | [c0,c1,c2],_ =>
    obtain⟨a,ha,_,_⟩:=DataW.trod_int Tryz.underlying23 h0;obtain⟨b,c,hb⟩:=BO h1;simp at ha hb;exact⟨⟨a,b,c⟩,by rw [ha,hb.1,hb.2];rfl,trivial⟩
def Ki(e:En):Prop:=e.nm.length<=reachBytes
set_option maxRecDepth 100000 in
theorem RL(mT:∀b,sp b=true){fuel:Nat}{cs:List Value}{x:DataW H × List MemPlace}(h:DataW.trod sB Tryz.prog w base sp held fuel 41 cs=some x)(hw:Wt Tryz.prog 41 x.1):∃z:En,cs=enc z/\Ki z:=by
  obtain⟨xs,n,_,rfl,hl,hlen,hf⟩:=DataW.trod_struct Tryz.underlying41 h;have e0:Tryz.prog.cellsOf 9=1:=by kernel_rfl
  have e1:Tryz.prog.cellsOf 3=1:=by kernel_rfl
  have e2:Tryz.prog.cellsOf 25=2:=by kernel_rfl
  have e4:Tryz.prog.cellsOf 23=1:=by kernel_rfl
  have e3:Tryz.prog.cellsOf 41=11:=by kernel_rfl
  rw [e3]at hl
  match xs,hlen with
  | [y0,y1,y2,y3,y4,y5,y6],_ =>
    match cs,hl with
    | [c0,c1,c2,c3,c4,c5,c6,c7,c8,c9,VY],_ =>
      have g0:=hf 0 _ rfl;have g1:=hf 1 _ rfl;have g2:=hf 2 _ rfl;have g3:=hf 3 _ rfl;have g4:=hf 4 _ rfl;have g5:=hf 5 _ rfl;have g6:=hf 6 _ rfl;have w0:Wt Tryz.prog 9 y0.1:=Ey Tryz.underlying41 hw (j:=0) rfl rfl;simp [e0,e1,e2,e4]at g0 g1 g2 g3 g4 g5 g6;obtain⟨s,hs,C_,_⟩:=DataW.trod_string Tryz.underlying9 g0;obtain⟨a1,rj,_,_⟩:=DataW.trod_int Tryz.underlying3 g1;obtain⟨a2,b2,jS⟩:=BO g2;obtain⟨a3,b3,qF⟩:=BO g3;obtain⟨a4,uB,_,_⟩:=DataW.trod_int Tryz.underlying23 g4;obtain⟨a5,b5,I7⟩:=BO g5;obtain⟨a6,b6,Wb⟩:=BO g6;simp at hs rj jS qF uB I7 Wb;obtain⟨rfl,rfl⟩:=jS;obtain⟨rfl,rfl⟩:=qF;obtain⟨rfl,rfl⟩:=I7;obtain⟨rfl,rfl⟩:=Wb;refine⟨⟨s.data.toList,a1,a2,b2,a3,b3,a4,a5,b5,a6,b6⟩,by rw [hs,rj,uB];rfl, ?_⟩;rw [C_]at w0;exact DB w0
theorem RM{P:Program}(mT:∀b,sp b=true)(hP:P=Tryz.prog){fuel:Nat}{v:Value}{cs:List Value}{x:DataW H × List MemPlace}(h:DataW.trod sB P w base sp held fuel 37 cs=some x)(pP:cs=[v])(hw:Wt P 37 x.1):∃l:List En,e_ w v 11 (l.flatMap enc)/\(∀z∈l,Ki z)/\l.length<=reachBytes:=by
 subst pP;have hu:P.underlying 37=some (.slice 41):=by rw [hP];kernel_rfl
 have hc:P.cellsOf 41=11:=by rw [hP];kernel_rfl
 have hb:0<P.bytesOf 41:=by rw [hP];exact of_decide_eq_true (by kernel_rfl)
 have hE:∀fuel cs x,DataW.trod sB P w base sp held fuel 41 cs=some x->Wt P 41 x.1->∃z:En,cs=enc z/\Ki z:=λfuel cs x h hw=>by rw [hP]at h hw;exact RL mT h hw
 clear hP;obtain⟨l,h1,h2,h3,h4⟩:=DC mT hu hc (by omega) vw hE h hw hb;exact⟨l,h1,h2,h3⟩
theorem RN{P:Program}(mT:∀b,sp b=true)(hP:P=Tryz.prog){fuel:Nat}{v:Value}{cs:List Value}{x:DataW H × List MemPlace}(h:DataW.trod sB P w base sp held fuel 26 cs=some x)(pP:cs=[v])(hw:Wt P 26 x.1):∃l:List Pt,e_ w v 3 (l.flatMap yG)/\(∀z∈l,True)/\l.length<=reachBytes:=by
 subst pP;have hu:P.underlying 26=some (.slice 109):=by rw [hP];kernel_rfl
 have hc:P.cellsOf 109=3:=by rw [hP];kernel_rfl
 have hb:0<P.bytesOf 109:=by rw [hP];exact of_decide_eq_true (by kernel_rfl)
 have hE:∀fuel cs x,DataW.trod sB P w base sp held fuel 109 cs=some x->Wt P 109 x.1->∃z:Pt,cs=yG z/\True:=λfuel cs x h hw=>by rw [hP]at h hw;exact RK mT h hw
 clear hP;obtain⟨l,h1,h2,h3,h4⟩:=DC mT hu hc (by omega) Hz hE h hw hb;exact⟨l,h1,h2,h3⟩
def RO(w:World)(s:f_):Prop:=e_ w s.v 11 (s.es.flatMap enc)/\s.nm.length<=reachBytes/\s.es.length<=reachBytes/\∀e∈s.es,Ki e
set_option maxRecDepth 100000 in
theorem RP(mT:∀b,sp b=true){fuel:Nat}{cs:List Value}{x:DataW H × List MemPlace}(h:DataW.trod sB Tryz.prog w base sp held fuel 39 cs=some x)(hw:Wt Tryz.prog 39 x.1):∃z:f_,cs=Bz z/\RO w z:=by
  obtain⟨xs,n,_,rfl,hl,hlen,hf⟩:=DataW.trod_struct Tryz.underlying39 h;have e0:Tryz.prog.cellsOf 9=1:=by kernel_rfl
  have e2:Tryz.prog.cellsOf 25=2:=by kernel_rfl
  have e4:Tryz.prog.cellsOf 37=1:=by kernel_rfl
  have e3:Tryz.prog.cellsOf 39=6:=by kernel_rfl
  rw [e3]at hl
  match xs,hlen with
  | [y0,y1,y2,y3],_ =>
    match cs,hl with
    | [c0,c1,c2,c3,c4,c5],_ =>
      have g0:=hf 0 _ rfl;have g1:=hf 1 _ rfl;have g2:=hf 2 _ rfl;have g3:=hf 3 _ rfl;have w0:Wt Tryz.prog 9 y0.1:=Ey Tryz.underlying39 hw (j:=0) rfl rfl;have w3:Wt Tryz.prog 37 y3.1:=Ey Tryz.underlying39 hw (j:=3) rfl rfl;simp [e0,e2,e4]at g0 g1 g2 g3;obtain⟨s,hs,C_,_⟩:=DataW.trod_string Tryz.underlying9 g0;obtain⟨a1,b1,iQ⟩:=BO g1;obtain⟨a2,b2,jS⟩:=BO g2;obtain⟨l,l1,l2,l3⟩:=RM mT rfl g3 rfl w3;simp at hs iQ jS;obtain⟨rfl,rfl⟩:=iQ;obtain⟨rfl,rfl⟩:=jS;refine⟨⟨s.data.toList,a1,b1,a2,b2,c5,l⟩,by rw [hs];rfl,l1, ?_,l3,l2⟩;rw [C_]at w0;exact DB w0
theorem RQ{P:Program}(mT:∀b,sp b=true)(hP:P=Tryz.prog){fuel:Nat}{v:Value}{cs:List Value}{x:DataW H × List MemPlace}(h:DataW.trod sB P w base sp held fuel 22 cs=some x)(pP:cs=[v])(hw:Wt P 22 x.1):∃l:List f_,e_ w v 6 (l.flatMap Bz)/\(∀z∈l,RO w z)/\l.length<=reachBytes/\ye v:=by
 subst pP;have hu:P.underlying 22=some (.slice 39):=by rw [hP];kernel_rfl
 have hc:P.cellsOf 39=6:=by rw [hP];kernel_rfl
 have hb:0<P.bytesOf 39:=by rw [hP];exact of_decide_eq_true (by kernel_rfl)
 have hE:∀fuel cs x,DataW.trod sB P w base sp held fuel 39 cs=some x->Wt P 39 x.1->∃z:f_,cs=Bz z/\RO w z:=λfuel cs x h hw=>by rw [hP]at h hw;exact RP mT h hw
 clear hP;obtain⟨l,h1,h2,h3,h4⟩:=DC mT hu hc (by omega) BA hE h hw hb;exact⟨l,h1,h2,h3,h4⟩
structure Ip(v:Vh):Prop where
 nm:v.nm.length<=reachBytes
 st:∀s∈v.ss,s.nm.length<=reachBytes/\s.es.length<=reachBytes/\∀e∈s.es,e.nm.length<=reachBytes
 sn:v.ss.length<=reachBytes
 dn:v.dr.length<=reachBytes
 cp:ye v.sv
theorem RR:reachBytes<140737488355329:=by decide
theorem Ip.sz{v:Vh}(h:Ip v):j9 v:=by
 have hr:=RR;have le:∀n,n<=reachBytes->n<4611686018427387904:=λn hn=>by omega
 exact⟨le _ h.nm,λs hs=>⟨le _ (h.st s hs).1,le _ (h.st s hs).2.1,λe he=>le _ ((h.st s hs).2.2 e he)⟩,le _ h.sn,le _ h.dn⟩
set_option maxRecDepth 100000 in
theorem RS(mT:∀b,sp b=true){fuel:Nat}{cs:List Value}{x:DataW H × List MemPlace}(h:DataW.trod sB Tryz.prog w base sp held fuel 28 cs=some x)(hw:Wt Tryz.prog 28 x.1):∃p:Vh,Value.agg cs.toArray=gY p/\iH w p/\Ip p:=by
  obtain⟨xs,n,_,rfl,hl,hlen,hf⟩:=DataW.trod_struct Tryz.underlying28 h;have e0:Tryz.prog.cellsOf 9=1:=by kernel_rfl
  have e2:Tryz.prog.cellsOf 25=2:=by kernel_rfl
  have e4:Tryz.prog.cellsOf 22=1:=by kernel_rfl
  have e5:Tryz.prog.cellsOf 26=1:=by kernel_rfl
  have e6:Tryz.prog.cellsOf 23=1:=by kernel_rfl
  have e3:Tryz.prog.cellsOf 28=7:=by kernel_rfl
  rw [e3]at hl
  match xs,hlen with
  | [y0,y1,y2,y3,y4,y5],_ =>
    match cs,hl with
    | [c0,c1,c2,c3,c4,c5,c6],_ =>
      have g0:=hf 0 _ rfl;have g1:=hf 1 _ rfl;have g2:=hf 2 _ rfl;have g3:=hf 3 _ rfl;have g4:=hf 4 _ rfl;have g5:=hf 5 _ rfl;have w0:Wt Tryz.prog 9 y0.1:=Ey Tryz.underlying28 hw (j:=0) rfl rfl;have w1:Wt Tryz.prog 22 y1.1:=Ey Tryz.underlying28 hw (j:=1) rfl rfl;have w3:Wt Tryz.prog 26 y3.1:=Ey Tryz.underlying28 hw (j:=3) rfl rfl;simp [e0,e2,e4,e5,e6]at g0 g1 g2 g3 g4 g5;obtain⟨s,hs,C_,_⟩:=DataW.trod_string Tryz.underlying9 g0;obtain⟨l,l1,l2,l3,l4⟩:=RQ mT rfl g1 rfl w1;obtain⟨a2,b2,jS⟩:=BO g2;obtain⟨m,m1,_,m3⟩:=RN mT rfl g3 rfl w3;obtain⟨a4,uB,_,_⟩:=DataW.trod_int Tryz.underlying23 g4;obtain⟨a5,Wc,_,_⟩:=DataW.trod_int Tryz.underlying23 g5;simp at hs jS uB Wc;obtain⟨rfl,rfl⟩:=jS;refine⟨⟨s.data.toList,c1,l,a2,b2,c4,m,a4,a5⟩,by rw [hs,uB,Wc];rfl,⟨l1,λz hz=>(l2 z hz).1,m1⟩, ?_,λz hz=>(l2 z hz).2,l3,m3,l4⟩;rw [C_]at w0;exact DB w0
theorem RT{P:Program}(mT:∀b,sp b=true)(hP:P=Tryz.prog){r:Reach}{b0:Nat}{v:Value}{d:DataW H}{ps:List MemPlace}(jE:Value.okWide P w r b0 28 v)(hd:DataW.Trod sB P w base sp held 28 v d ps)(hw:Wt P 28 d) :
  ∃p:Vh,v=gY p/\iH w p/\Ip p:=by
 obtain⟨fs,DO⟩:∃fs,P.underlying 28=some (.struct fs):=⟨_,by rw [hP];exact Tryz.underlying28⟩;have hz:∀fuel cs x,DataW.trod sB P w base sp held fuel 28 cs=some x->Wt P 28 x.1->∃p:Vh,Value.agg cs.toArray=gY p/\iH w p/\Ip p:=λfuel cs x h hw=>by rw [hP]at h hw;exact RS mT h hw
 clear hP;obtain⟨cs,rfl,_⟩:=okWide_struct DO jE;obtain⟨fuel,hf⟩:=hd;obtain⟨z,h1,h2⟩:=hz _ _ _ hf hw;exact⟨z,h1,h2⟩
end
end Go.Proofs.YtkbchjlnhgfpmaaGreatDoor
