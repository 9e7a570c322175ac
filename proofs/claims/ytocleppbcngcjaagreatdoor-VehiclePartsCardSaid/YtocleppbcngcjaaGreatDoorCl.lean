import Derived.Test.YtocleppbcngcjaaGreatDoorCp
import Derived.WalkKit
import Derived.ProofKit
import Derived.OpenShut
import Derived.Lib.SmallJoins
import Derived.SizedLaws
import Derived.Test.YtocleppbcngcjaaGreatDoorGm
import Derived.Test.YtocleppbcngcjaaGreatDoorOkv
import Derived.Test.YtocleppbcngcjaaGreatDoorProg
import Derived.Shelf.RegionOpenPlain
import Derived.Deep.LoopGhost
import Derived.Lib.Walk
import Derived.Lib.SliceRun
import Derived.Lib.LazyBuf
import Derived.Below
section
set_option linter.unusedVariables false
set_option linter.unusedSimpArgs false
set_option maxRecDepth 4000
namespace Go.Proofs.YtocleppbcngcjaaGreatDoor
open Go Go.RowKit Go.ChangeShapes Go.WideShapes Go.ChangeAt Go.Joins Go.Deep Ul Vc
theorem Ge{α:Type}{R:Nat->α->Prop}:∀(n:Nat),(∀i,i<n->∃a,R i a)->∃l:List α,l.length=n/\∀i a,l[i]? = some a->R i a
  |0,_=>⟨[],rfl,λi a h=>by simp at h⟩
  |n+1,h=>by
    obtain⟨l,h1,h2⟩:=Ge n λi hi=>h i (by omega);obtain⟨a,ha⟩:=h n (by omega);refine⟨l ++ [a],by simp [h1],λi b hb => ?_⟩;by_cases hi:i<l.length
    · rw [List.getElem?_append_left hi]at hb;exact h2 i b hb
    · rw [List.getElem?_append_right (by omega)]at hb
      have:i-l.length=0:=by
        have:=(List.getElem?_eq_some_iff.1 hb).1
        simp at this;omega
      rw [this]at hb;simp at hb;subst hb
      have:i=n:=by omega
      subst this;exact ha
def lz:Value->Prop
 | .slice _ l c=>l<=c
 |_=>True
section
variable {H:Type} {rj:TypeId × Value->H} {P:Program} {w:World} {base:Nat} {sp:Nat->Bool} {held:Bool}
def Wt(P:Program)(t:TypeId)(d:DataW H):Prop:=∀n∈d.weights P t,n<=reachBytes
theorem TG{e:TypeId}{d:DataW H}{n:Nat}:∀{l:List (DataW H)},d∈l->n∈d.weights P e->n∈DataW.weightsAll P e l
  |x::l,hd,hn=>by
    simp only [DataW.weightsAll,List.mem_append];rcases List.mem_cons.1 hd with rfl|hd
    · exact .inl hn
    · exact .inr (TG hd hn)
theorem Dt{t:TypeId}{fs:Array Field}{ds:List (DataW H)}(ht:P.underlying t=some (.struct fs))(hw:Wt P t (.agg ds)){j:Nat}{u:TypeId}{d:DataW H}(hu:(fs.toList.map (·.type))[j]? = some u)(hd:ds[j]? = some d):Wt P u d:=by
 intro n hn;refine hw n ?_;simp only [DataW.weights,ht];exact DataW.weights_mem_each hu hd n hn
theorem Cb{t:TypeId}{s:List UInt8}(hw:Wt P t (.lit (.string s):DataW H)):s.length<=reachBytes:=hw _ (by simp [DataW.weights])
theorem Cc{α:Type}{f:α->List Value}{G:α->Prop}{c:Nat}{t e:TypeId}(jS:∀b,sp b=true)(ht:P.underlying t=some (.slice e))(hc:P.cellsOf e=c)(c0:0<c)(hf:∀a,(f a).length=c)
  (hE:∀fuel cs x,DataW.trod rj P w base sp held fuel e cs=some x->Wt P e x.1->∃a,cs=f a/\G a) {v:Value} {fuel:Nat} {x:DataW H × List MemPlace} (hx:DataW.trod rj P w base sp held fuel t [v]=some x) (hw:Wt P t x.1) (gW:0<P.bytesOf e) :
  ∃l:List α,dI w v c (l.flatMap f)/\(∀a∈l,G a)/\l.length<=reachBytes/\lz v:=by
 rcases DataW.trod_slice ht hx with ⟨h1,_⟩|⟨a,len,cap,elems,rest,n,_,h1,zI,hb,hl,hm,hlen,Du,Cd,_⟩
 ·simp only [List.cons.injEq,and_true]at h1;exact⟨[],.inl ⟨h1,rfl⟩,(λa ha=>by cases ha),by simp,by rw [h1];exact Nat.le_refl _⟩
 ·simp only [List.cons.injEq,and_true]at h1;subst h1;obtain⟨b,o,spot⟩:=a;by_cases gV:cap=0
  ·obtain rfl:len=0:=by omega
   subst gV;exact⟨[],.inr (.inl ⟨_,rfl,rfl⟩),(λa ha=>by cases ha),by simp,Nat.le_refl _⟩
  have hs:spot=none:=by
   have ot:∀k cs,k*c=k*c->w.cells? base ((⟨b,o,spot⟩:Addr).add (k*c)) c=some cs->k=0->spot=none:=λk cs _ h hk=>by
    subst hk;have h2:=(World.cells?_some h).2;have h3:=h2.2 0 c0;rw [List.getElem?_eq_getElem (by omega)]at h3;simpa [Addr.add]using World.cell?_spot h3
   by_cases Gf:len=0
   ·obtain⟨ZD,C7⟩:=Cd (jS b);have h2:=C7 0 (by omega);rw [List.getElem?_eq_getElem (by omega),hc,Option.bind_eq_some_iff]at h2;obtain⟨cs,h3,_⟩:=h2;rw [Gf]at h3;exact ot 0 cs rfl (by simpa using h3) rfl
   ·have h2:=Du 0 (by omega);rw [List.getElem?_eq_getElem (by omega),hc,Option.bind_eq_some_iff]at h2;obtain⟨cs,h3,_⟩:=h2;exact ot 0 cs rfl h3 rfl
  subst hs
  have HA:∀n∈((elems.map (·.1)).length+(rest.map (·.1)).length)*P.bytesOf e::(DataW.weightsAll P e (elems.map (·.1))++DataW.weightsAll P e (rest.map (·.1))),n<=reachBytes:=by
   intro n hn;refine hw n ?_;rw [zI];simp only [DataW.weights,ht];exact hn
  have ZE:len<=reachBytes:=by
   have h9:=HA _ (List.mem_cons_self ..);rw [List.length_map,List.length_map,hlen]at h9
   have:len*1<=(len+rest.length)*P.bytesOf e:=Nat.mul_le_mul (by omega) gW
   omega
  have each:∀i,i<len->∃y:α,G y/\∀j,j<c->w.cell? ⟨b,o+(i*c+j),none⟩=(f y)[j]? := λi hi=>by
   have h2:=Du i hi;rw [List.getElem?_eq_getElem (by omega),hc,Option.bind_eq_some_iff]at h2;obtain⟨cs,h3,h4⟩:=h2;obtain⟨y,rfl,hg⟩:=hE _ _ _ h4 (λn hn=>HA n (List.mem_cons_of_mem _ (List.mem_append_left _ (TG (List.mem_map_of_mem (List.getElem_mem (by omega))) hn))));refine⟨y,hg,λj hj => ?_⟩;rw [<-(World.cells?_some h3).2.2 j hj,tQ,tQ,Nat.add_assoc]
  obtain⟨l,nC,fX⟩:=Ge len each;refine⟨l,.inr (.inr ⟨b,o,len,cap,rfl,by rw [zf hf,nC],λj u hj => ?_⟩),λa ha => ?_,by omega,by show _<=_;omega⟩
  ·have ti:j<l.length*c:=by
    have:=(List.getElem?_eq_some_iff.1 hj).1
    rwa [zf hf]at this
   have hi:j / c<l.length:=(Nat.div_lt_iff_lt_mul c0).2 ti;have hr:j % c<c:=Nat.mod_lt _ c0;have Yw:j=j / c*c+j % c:=by rw [Nat.mul_comm];exact (Nat.div_add_mod j c).symm
   have hp:=List.getElem?_eq_getElem hi;rw [Yw]at hj ⊢;rw [zg hf hp hr]at hj;rw [<-hj];exact (fX _ _ hp).2 _ hr
  ·obtain⟨i,hi⟩:=List.getElem?_of_mem ha;exact (fX i a hi).1
end
section
variable {H:Type} {rj:TypeId × Value->H} {w:World} {base:Nat} {sp:Nat->Bool} {held:Bool}
theorem As{fuel:Nat}{cs:List Value}{x:DataW H × List MemPlace}(h:DataW.trod rj Tryz.prog w base sp held fuel 25 cs=some x):∃a b:Int,cs=[.int .i64 a,.int .i64 b]:=by
  obtain⟨y0,y1,n,rfl,hl,h0,h1⟩:=trod_struct2 Tryz.underlying25 h;have e1:Tryz.prog.cellsOf 23=1:=by kernel_rfl
  have e3:Tryz.prog.cellsOf 25=2:=by kernel_rfl
  rw [e3]at hl;simp only [e1]at h0 h1
  match cs,hl with
  | [c0,c1],_ =>
    obtain⟨a,ha,_,_⟩:=DataW.trod_int Tryz.underlying23 h0;obtain⟨b,hb,_,_⟩:=DataW.trod_int Tryz.underlying23 h1;simp at ha hb;exact⟨a,b,by rw [ha,hb]⟩
theorem NZ(jS:∀b,sp b=true){fuel:Nat}{cs:List Value}{x:DataW H × List MemPlace}(h:DataW.trod rj Tryz.prog w base sp held fuel 42 cs=some x)(hw:Wt Tryz.prog 42 x.1):∃z:Pt,cs=rh z/\True:=by
  obtain⟨y0,y1,n,rfl,hl,h0,h1⟩:=trod_struct2 Tryz.underlying42 h;have e1:Tryz.prog.cellsOf 23=1:=by kernel_rfl
  have e2:Tryz.prog.cellsOf 25=2:=by kernel_rfl
  have e3:Tryz.prog.cellsOf 42=3:=by kernel_rfl
  rw [e3]at hl;simp only [e1,e2]at h0 h1
  match cs,hl with
  | [c0,c1,c2],_ =>
    obtain⟨a,ha,_,_⟩:=DataW.trod_int Tryz.underlying23 h0;obtain⟨b,c,hb⟩:=As h1;simp at ha hb;exact⟨⟨a,b,c⟩,by rw [ha,hb.1,hb.2];rfl,trivial⟩
def H8(e:En):Prop:=e.nm.length<=reachBytes
set_option maxRecDepth 100000 in
theorem N0(jS:∀b,sp b=true){fuel:Nat}{cs:List Value}{x:DataW H × List MemPlace}(h:DataW.trod rj Tryz.prog w base sp held fuel 40 cs=some x)(hw:Wt Tryz.prog 40 x.1):∃z:En,cs=enc z/\H8 z:=by
  obtain⟨xs,n,_,rfl,hl,hlen,hf⟩:=DataW.trod_struct Tryz.underlying40 h;have e0:Tryz.prog.cellsOf 9=1:=by kernel_rfl
  have e1:Tryz.prog.cellsOf 3=1:=by kernel_rfl
  have e2:Tryz.prog.cellsOf 25=2:=by kernel_rfl
  have e4:Tryz.prog.cellsOf 23=1:=by kernel_rfl
  have e3:Tryz.prog.cellsOf 40=11:=by kernel_rfl
  rw [e3]at hl
  match xs,hlen with
  | [y0,y1,y2,y3,y4,y5,y6],_ =>
    match cs,hl with
    | [c0,c1,c2,c3,c4,c5,c6,c7,c8,c9,B5],_ =>
      have g0:=hf 0 _ rfl;have g1:=hf 1 _ rfl;have g2:=hf 2 _ rfl;have g3:=hf 3 _ rfl;have g4:=hf 4 _ rfl;have g5:=hf 5 _ rfl;have g6:=hf 6 _ rfl;have w0:Wt Tryz.prog 9 y0.1:=Dt Tryz.underlying40 hw (j:=0) rfl rfl;simp [e0,e1,e2,e4]at g0 g1 g2 g3 g4 g5 g6;obtain⟨s,hs,wS,_⟩:=DataW.trod_string Tryz.underlying9 g0;obtain⟨a1,qn,_,_⟩:=DataW.trod_int Tryz.underlying3 g1;obtain⟨a2,b2,dL⟩:=As g2;obtain⟨a3,b3,pN⟩:=As g3;obtain⟨a4,tv,_,_⟩:=DataW.trod_int Tryz.underlying23 g4;obtain⟨a5,b5,Hd⟩:=As g5;obtain⟨a6,b6,TH⟩:=As g6;simp at hs qn dL pN tv Hd TH;obtain⟨rfl,rfl⟩:=dL;obtain⟨rfl,rfl⟩:=pN;obtain⟨rfl,rfl⟩:=Hd;obtain⟨rfl,rfl⟩:=TH;refine⟨⟨s.data.toList,a1,a2,b2,a3,b3,a4,a5,b5,a6,b6⟩,by rw [hs,qn,tv];rfl, ?_⟩;rw [wS]at w0;exact Cb w0
theorem N1{P:Program}(jS:∀b,sp b=true)(hP:P=Tryz.prog){fuel:Nat}{v:Value}{cs:List Value}{x:DataW H × List MemPlace}(h:DataW.trod rj P w base sp held fuel 36 cs=some x)(mJ:cs=[v])(hw:Wt P 36 x.1):∃l:List En,dI w v 11 (l.flatMap enc)/\(∀z∈l,H8 z)/\l.length<=reachBytes:=by
 subst mJ;have hu:P.underlying 36=some (.slice 40):=by rw [hP];kernel_rfl
 have hc:P.cellsOf 40=11:=by rw [hP];kernel_rfl
 have hb:0<P.bytesOf 40:=by rw [hP];exact of_decide_eq_true (by kernel_rfl)
 have hE:∀fuel cs x,DataW.trod rj P w base sp held fuel 40 cs=some x->Wt P 40 x.1->∃z:En,cs=enc z/\H8 z:=λfuel cs x h hw=>by rw [hP]at h hw;exact N0 jS h hw
 clear hP;obtain⟨l,h1,h2,h3,h4⟩:=Cc jS hu hc (by omega) zm hE h hw hb;exact⟨l,h1,h2,h3⟩
theorem N2{P:Program}(jS:∀b,sp b=true)(hP:P=Tryz.prog){fuel:Nat}{v:Value}{cs:List Value}{x:DataW H × List MemPlace}(h:DataW.trod rj P w base sp held fuel 26 cs=some x)(mJ:cs=[v])(hw:Wt P 26 x.1):∃l:List Pt,dI w v 3 (l.flatMap rh)/\(∀z∈l,True)/\l.length<=reachBytes:=by
 subst mJ;have hu:P.underlying 26=some (.slice 42):=by rw [hP];kernel_rfl
 have hc:P.cellsOf 42=3:=by rw [hP];kernel_rfl
 have hb:0<P.bytesOf 42:=by rw [hP];exact of_decide_eq_true (by kernel_rfl)
 have hE:∀fuel cs x,DataW.trod rj P w base sp held fuel 42 cs=some x->Wt P 42 x.1->∃z:Pt,cs=rh z/\True:=λfuel cs x h hw=>by rw [hP]at h hw;exact NZ jS h hw
 clear hP;obtain⟨l,h1,h2,h3,h4⟩:=Cc jS hu hc (by omega) ri hE h hw hb;exact⟨l,h1,h2,h3⟩
def N3(w:World)(s:cD):Prop:=dI w s.v 11 (s.es.flatMap enc)/\s.nm.length<=reachBytes/\s.es.length<=reachBytes/\∀e∈s.es,H8 e
set_option maxRecDepth 100000 in
theorem N4(jS:∀b,sp b=true){fuel:Nat}{cs:List Value}{x:DataW H × List MemPlace}(h:DataW.trod rj Tryz.prog w base sp held fuel 38 cs=some x)(hw:Wt Tryz.prog 38 x.1):∃z:cD,cs=jJ z/\N3 w z:=by
  obtain⟨xs,n,_,rfl,hl,hlen,hf⟩:=DataW.trod_struct Tryz.underlying38 h;have e0:Tryz.prog.cellsOf 9=1:=by kernel_rfl
  have e2:Tryz.prog.cellsOf 25=2:=by kernel_rfl
  have e4:Tryz.prog.cellsOf 36=1:=by kernel_rfl
  have e3:Tryz.prog.cellsOf 38=6:=by kernel_rfl
  rw [e3]at hl
  match xs,hlen with
  | [y0,y1,y2,y3],_ =>
    match cs,hl with
    | [c0,c1,c2,c3,c4,c5],_ =>
      have g0:=hf 0 _ rfl;have g1:=hf 1 _ rfl;have g2:=hf 2 _ rfl;have g3:=hf 3 _ rfl;have w0:Wt Tryz.prog 9 y0.1:=Dt Tryz.underlying38 hw (j:=0) rfl rfl;have w3:Wt Tryz.prog 36 y3.1:=Dt Tryz.underlying38 hw (j:=3) rfl rfl;simp [e0,e2,e4]at g0 g1 g2 g3;obtain⟨s,hs,wS,_⟩:=DataW.trod_string Tryz.underlying9 g0;obtain⟨a1,b1,fy⟩:=As g1;obtain⟨a2,b2,dL⟩:=As g2;obtain⟨l,l1,l2,l3⟩:=N1 jS rfl g3 rfl w3;simp at hs fy dL;obtain⟨rfl,rfl⟩:=fy;obtain⟨rfl,rfl⟩:=dL;refine⟨⟨s.data.toList,a1,b1,a2,b2,c5,l⟩,by rw [hs];rfl,l1, ?_,l3,l2⟩;rw [wS]at w0;exact Cb w0
theorem N5{P:Program}(jS:∀b,sp b=true)(hP:P=Tryz.prog){fuel:Nat}{v:Value}{cs:List Value}{x:DataW H × List MemPlace}(h:DataW.trod rj P w base sp held fuel 22 cs=some x)(mJ:cs=[v])(hw:Wt P 22 x.1):∃l:List cD,dI w v 6 (l.flatMap jJ)/\(∀z∈l,N3 w z)/\l.length<=reachBytes/\lz v:=by
 subst mJ;have hu:P.underlying 22=some (.slice 38):=by rw [hP];kernel_rfl
 have hc:P.cellsOf 38=6:=by rw [hP];kernel_rfl
 have hb:0<P.bytesOf 38:=by rw [hP];exact of_decide_eq_true (by kernel_rfl)
 have hE:∀fuel cs x,DataW.trod rj P w base sp held fuel 38 cs=some x->Wt P 38 x.1->∃z:cD,cs=jJ z/\N3 w z:=λfuel cs x h hw=>by rw [hP]at h hw;exact N4 jS h hw
 clear hP;obtain⟨l,h1,h2,h3,h4⟩:=Cc jS hu hc (by omega) zk hE h hw hb;exact⟨l,h1,h2,h3,h4⟩
structure Gg(v:Vh):Prop where
 nm:v.nm.length<=reachBytes
 st:∀s∈v.ss,s.nm.length<=reachBytes/\s.es.length<=reachBytes/\∀e∈s.es,e.nm.length<=reachBytes
 sn:v.ss.length<=reachBytes
 dn:v.dr.length<=reachBytes
 cp:lz v.sv
theorem N6:reachBytes<140737488355329:=by decide
theorem Gg.sz{v:Vh}(h:Gg v):iv v:=by
 have hr:=N6;have le:∀n,n<=reachBytes->n<4611686018427387904:=λn hn=>by omega
 exact⟨le _ h.nm,λs hs=>⟨le _ (h.st s hs).1,le _ (h.st s hs).2.1,λe he=>le _ ((h.st s hs).2.2 e he)⟩,le _ h.sn,le _ h.dn⟩
set_option maxRecDepth 100000 in
theorem N7(jS:∀b,sp b=true){fuel:Nat}{cs:List Value}{x:DataW H × List MemPlace}(h:DataW.trod rj Tryz.prog w base sp held fuel 28 cs=some x)(hw:Wt Tryz.prog 28 x.1):∃p:Vh,Value.agg cs.toArray=fL p/\fZ w p/\Gg p:=by
  obtain⟨xs,n,_,rfl,hl,hlen,hf⟩:=DataW.trod_struct Tryz.underlying28 h;have e0:Tryz.prog.cellsOf 9=1:=by kernel_rfl
  have e2:Tryz.prog.cellsOf 25=2:=by kernel_rfl
  have e4:Tryz.prog.cellsOf 22=1:=by kernel_rfl
  have e5:Tryz.prog.cellsOf 26=1:=by kernel_rfl
  have e6:Tryz.prog.cellsOf 23=1:=by kernel_rfl
  have e3:Tryz.prog.cellsOf 28=7:=by kernel_rfl
  rw [e3]at hl
  match xs,hlen with
  | [y0,y1,y2,y3,y4,y5],_ =>
    match cs,hl with
    | [c0,c1,c2,c3,c4,c5,c6],_ =>
      have g0:=hf 0 _ rfl;have g1:=hf 1 _ rfl;have g2:=hf 2 _ rfl;have g3:=hf 3 _ rfl;have g4:=hf 4 _ rfl;have g5:=hf 5 _ rfl;have w0:Wt Tryz.prog 9 y0.1:=Dt Tryz.underlying28 hw (j:=0) rfl rfl;have w1:Wt Tryz.prog 22 y1.1:=Dt Tryz.underlying28 hw (j:=1) rfl rfl;have w3:Wt Tryz.prog 26 y3.1:=Dt Tryz.underlying28 hw (j:=3) rfl rfl;simp [e0,e2,e4,e5,e6]at g0 g1 g2 g3 g4 g5;obtain⟨s,hs,wS,_⟩:=DataW.trod_string Tryz.underlying9 g0;obtain⟨l,l1,l2,l3,l4⟩:=N5 jS rfl g1 rfl w1;obtain⟨a2,b2,dL⟩:=As g2;obtain⟨m,m1,_,m3⟩:=N2 jS rfl g3 rfl w3;obtain⟨a4,tv,_,_⟩:=DataW.trod_int Tryz.underlying23 g4;obtain⟨a5,TI,_,_⟩:=DataW.trod_int Tryz.underlying23 g5;simp at hs dL tv TI;obtain⟨rfl,rfl⟩:=dL;refine⟨⟨s.data.toList,c1,l,a2,b2,c4,m,a4,a5⟩,by rw [hs,tv,TI];rfl,⟨l1,λz hz=>(l2 z hz).1,m1⟩, ?_,λz hz=>(l2 z hz).2,l3,m3,l4⟩;rw [wS]at w0;exact Cb w0
theorem N8{P:Program}(jS:∀b,sp b=true)(hP:P=Tryz.prog){r:Reach}{b0:Nat}{v:Value}{d:DataW H}{ps:List MemPlace}(dA:Value.okWide P w r b0 28 v)(hd:DataW.Trod rj P w base sp held 28 v d ps)(hw:Wt P 28 d) :
  ∃p:Vh,v=fL p/\fZ w p/\Gg p:=by
 obtain⟨fs,CG⟩:∃fs,P.underlying 28=some (.struct fs):=⟨_,by rw [hP];exact Tryz.underlying28⟩;have hz:∀fuel cs x,DataW.trod rj P w base sp held fuel 28 cs=some x->Wt P 28 x.1->∃p:Vh,Value.agg cs.toArray=fL p/\fZ w p/\Gg p:=λfuel cs x h hw=>by rw [hP]at h hw;exact N7 jS h hw
 clear hP;obtain⟨cs,rfl,_⟩:=okWide_struct CG dA;obtain⟨fuel,hf⟩:=hd;obtain⟨z,h1,h2⟩:=hz _ _ _ hf hw;exact⟨z,h1,h2⟩
end
end Go.Proofs.YtocleppbcngcjaaGreatDoor
end
section
set_option linter.unusedVariables false
set_option linter.unusedSimpArgs false
set_option maxRecDepth 4000
namespace Go.Proofs.YtocleppbcngcjaaGreatDoor
open Go Go.RowKit Vc
attribute [local irreducible] Go.Calls
def acc(f g:cD->Int):List cD->Int
 | []=>0
 |s::r=>f s+(r.map λs=>f s+g s).sum
def pos(x:Int):Int:=if IntKind.i64.wrap x > 0 then IntKind.i64.wrap x else 0
end Go.Proofs.YtocleppbcngcjaaGreatDoor
end
section
set_option linter.unusedVariables false
set_option linter.unusedSimpArgs false
namespace Go.Proofs.YtocleppbcngcjaaGreatDoor
open Go Go.RowKit Vc
def cD.er(s:cD):cD := {s with v := .nilFunc}
theorem N9{p q:List (List UInt8)}(De:∀x∈q,x∈p){e:En}(h:e_ p e=0):e_ q e=0:=by
 unfold e_ at h ⊢;split at h
 ·simp at h
 rename_i h1;split at h
 ·simp at h
 rename_i h2;split at h
 ·simp at h
 rename_i h3;rw [if_neg h1,if_neg (λhh=>h2 (De _ hh)),if_neg h3]
theorem N_{p q:List (List UInt8)}(De:∀x∈q,x∈p){es:List En}(h:iE p es=0):iE q es=0:=by
 refine NC λt ht => ?_
 have:=NT h t ht
 unfold jK at this ⊢;rw [List.getElem?_eq_getElem ht]at this ⊢;refine N9 (λx hx => ?_) this;rcases List.mem_append.1 hx with hx|hx
 ·exact List.mem_append_left _ (De x hx)
 ·exact List.mem_append_right _ hx
theorem N'{ps qs pe qe:List (List UInt8)}(h1:∀x∈qs,x∈ps)(h2:∀x∈qe,x∈pe){s s':cD}(hs:s'.er=s.er)(h:fw ps pe s=0):fw qs qe s'=0:=by
 obtain⟨n,a,b,c,d,sv,es⟩:=s;obtain⟨n',a',b',c',d',ZF,sT⟩:=s';simp only [cD.er,cD.mk.injEq]at hs;obtain⟨rfl,rfl,rfl,rfl,rfl,_,rfl⟩:=hs;unfold fw at h ⊢;simp only at h ⊢;split at h
 ·simp at h
 rename_i g1;split at h
 ·simp at h
 rename_i g2;split at h
 ·simp at h
 rename_i g3;split at h
 ·simp at h
 rename_i g4;rw [if_neg g1,if_neg (λhh=>g2 (h1 _ hh)),if_neg g3,if_neg g4];exact N_ h2 h
theorem Oa{l m:List cD}(h:l.map cD.er=m.map cD.er):bZ l=bZ m/\br l=br m:=by
 have e1:∀l:List cD,bZ l=(l.map cD.er).map (·.nm):=λl=>by unfold bZ;rw [List.map_map];rfl
 have e2:∀l:List cD,br l=(l.map cD.er).flatMap (λs=>s.es.map (·.nm)):=λl=>by unfold br;rw [List.flatMap_map];rfl
 exact⟨by rw [e1,e1,h],by rw [e2,e2,h]⟩
theorem tB.drop{v u:Vh}(h:tB v){n:Nat}(hn:n<v.ss.length)(h1:u.nm=v.nm)(h2:u.ss.map cD.er=(v.ss.drop n).map cD.er)(h3:u.yl=v.yl)(h4:u.yh=v.yh)(h5:u.dr=v.dr)(h6:u.ax=v.ax)(h7:u.be=v.be):tB u:=by
 have hl:u.ss.length=v.ss.length-n:=by
  have:=congrArg List.length h2
  simpa using this
 have h8:=h.s8;refine⟨by rw [h1];exact h.nm,by omega,by omega,λt ht => ?_,by rw [h3,h4];exact h.py,by rw [h5];exact h.tb,by rw [h6,h7];exact h.li⟩;have hu:=List.getElem?_eq_getElem ht;have hv:v.ss[n+t]? = some v.ss[n+t]:=List.getElem?_eq_getElem (by omega)
 have hs:u.ss[t].er=v.ss[n+t].er:=by
  have:=congrArg (λl=>l[t]?) h2
  simp only [List.getElem?_map,List.getElem?_drop,hu,hv]at this;simpa using this
 have hg:=h.st (n+t) (by omega);unfold jL at hg ⊢;rw [hv]at hg;rw [hu];have Dv:(u.ss.take t).map cD.er=((v.ss.drop n).take t).map cD.er:=by rw [List.map_take,h2,<-List.map_take]
 obtain⟨q1,q2⟩:=Oa Dv
 have Gh:∀s∈(v.ss.drop n).take t,s∈v.ss.take (n+t):=λs hs=>by
  rw [List.take_drop]at hs;exact List.mem_of_mem_drop hs
 refine N' (λx hx => ?_) (λx hx => ?_) hs hg
 ·rw [q1]at hx;obtain⟨s,hs,rfl⟩:=List.mem_map.1 hx;exact List.mem_map.2 ⟨s,Gh s hs,rfl⟩
 ·rw [q2]at hx;obtain⟨s,hs,hx⟩:=List.mem_flatMap.1 hx;exact List.mem_flatMap.2 ⟨s,Gh s hs,hx⟩
end Go.Proofs.YtocleppbcngcjaaGreatDoor
end
section
set_option linter.unusedVariables false
set_option linter.unusedSimpArgs false
set_option linter.unusedSimpArgs false
namespace Go.Proofs.YtocleppbcngcjaaGreatDoor
open Go Go.RowKit Go.Proofs Go.Shelf Go.Lib
theorem Cf:Tryz.prog.underlying 22=some (.slice 38):=by kernel_rfl
theorem Ob:(Tryz.prog.info? 38).map (λi=>(i.zero,i.size,i.bytes))=some (some (.agg #[.string ⟨#[]⟩,.int .i64 0,.int .i64 0,.int .i64 0,.int .i64 0,.slice none 0 0]),6,72):=by kernel_rfl
set_option maxHeartbeats 2000000 in
set_option maxRecDepth 100000 in
theorem Oc(d:Addr)(n c:Nat)(cs:List Value)(w:World)(hl:cs.length=n*6)(Gi:n*72<=140737488355328)(h1:∀u∈cs,u.oneCell'=true)(hc:∀j u,cs[j]? = some u->w.cell? (d.add j)=some u) :
  Calls Tryz.prog 20 #[.slice (some d) n c] w λe w'=>∃v',e=.returned v'/\w'.ownsRow w.heap.size 38 6 v' n cs/\v' ≠ .slice none 0 0/\Below w.heap.size w w':=by
 have mixed:Tryz.prog.follows Departure.mixedOrders=true:=by kernel_rfl
 obtain⟨i0,hi,ln⟩:=Option.map_eq_some_iff.1 Ob;have uV:i0.zero=some (.agg #[.string ⟨#[]⟩,.int .i64 0,.int .i64 0,.int .i64 0,.int .i64 0,.slice none 0 0]):=by injection ln
 have uy:i0.size=6:=by injection ln with _ h;injection h
 have uW:i0.bytes=72:=by injection ln with _ h;injection h
 have q:∀(w:World) (a:Option Addr) (n c n' c':Nat),(binOp .eql 22 (.slice a n c) (.slice none n' c')).run Tryz.prog w=.ok (.bool a.isNone) w:=λw a n c n' c'=>Lib.run_eql_slice_nil w _ _ a n c n' c' Cf;have TJ:∀w,Sem.run Tryz.prog (underlying 22) w=.ok (TypeDesc.slice 38) w:=run_underlying Cf;have A:Aside (∀j u,cs[j]? = some u->w.cell? (d.add j)=some u):=hc;clear hc
 go_enter Tryz.func20,Tryz.ntmps20
 go_wp2_with (at_builtin;refine wpList_append_own _ rfl _ _ 22 rfl w.heap.size 38 i0 (.agg #[.string ⟨#[]⟩,.int .i64 0,.int .i64 0,.int .i64 0,.int .i64 0,.slice none 0 0]) 6 72 Cf hi uV uy uW rfl (by decide) _ _ _ rfl (World.ownsRow_made w #[] 0 (Nat.le_refl _) (Nat.zero_le _) rfl) d n c cs rfl ?Cg ?Ch ?Ci ?Cj ?Ck ?Cm ?_)
 case Cg=>exact hl
 case Ch =>
  intro j u hj;exact Lib.cell?_alloc_some _ (A.out j u hj)
 case Ci=>exact h1
 case Cj=>unfold maxLen;omega
 case Ck=>omega
 case Cm=>simp
 intro v' w1 iM iN cR
 go_wp2
 go_ret
 refine⟨v',rfl,by simpa using iM, ?_, ?_⟩
 ·exact cR
 ·exact ((Below.refl _ w).alloc (Nat.le_refl _) _).grown iN (by simp) (by intro k hk;simp [Value.ownBlock]at hk;omega)
theorem yP:Tryz.prog.underlying 36=some (.slice 40):=by kernel_rfl
theorem Od:(Tryz.prog.info? 40).map (λi=>(i.zero,i.size,i.bytes))=some (some (.agg #[.string ⟨#[]⟩,.int .i64 0,.int .i64 0,.int .i64 0,.int .i64 0,.int .i64 0,.int .i64 0,.int .i64 0,.int .i64 0,.int .i64 0,.int .i64 0]),11,96):=by kernel_rfl
set_option maxHeartbeats 2000000 in
set_option maxRecDepth 100000 in
theorem Oe(d:Addr)(n c:Nat)(cs:List Value)(w:World)(hl:cs.length=n*11)(Gi:n*96<=140737488355328)(h1:∀u∈cs,u.oneCell'=true)(hc:∀j u,cs[j]? = some u->w.cell? (d.add j)=some u) :
  Calls Tryz.prog 21 #[.slice (some d) n c] w λe w'=>∃v',e=.returned v'/\w'.ownsRow w.heap.size 40 11 v' n cs/\v' ≠ .slice none 0 0/\Below w.heap.size w w':=by
 have mixed:Tryz.prog.follows Departure.mixedOrders=true:=by kernel_rfl
 obtain⟨i0,hi,ln⟩:=Option.map_eq_some_iff.1 Od;have uV:i0.zero=some (.agg #[.string ⟨#[]⟩,.int .i64 0,.int .i64 0,.int .i64 0,.int .i64 0,.int .i64 0,.int .i64 0,.int .i64 0,.int .i64 0,.int .i64 0,.int .i64 0]):=by injection ln
 have uy:i0.size=11:=by injection ln with _ h;injection h
 have uW:i0.bytes=96:=by injection ln with _ h;injection h
 have q:∀(w:World) (a:Option Addr) (n c n' c':Nat),(binOp .eql 36 (.slice a n c) (.slice none n' c')).run Tryz.prog w=.ok (.bool a.isNone) w:=λw a n c n' c'=>Lib.run_eql_slice_nil w _ _ a n c n' c' yP;have TJ:∀w,Sem.run Tryz.prog (underlying 36) w=.ok (TypeDesc.slice 40) w:=run_underlying yP;have A:Aside (∀j u,cs[j]? = some u->w.cell? (d.add j)=some u):=hc;clear hc
 go_enter Tryz.func21,Tryz.ntmps21
 go_wp2_with (at_builtin;refine wpList_append_own _ rfl _ _ 36 rfl w.heap.size 40 i0 (.agg #[.string ⟨#[]⟩,.int .i64 0,.int .i64 0,.int .i64 0,.int .i64 0,.int .i64 0,.int .i64 0,.int .i64 0,.int .i64 0,.int .i64 0,.int .i64 0]) 11 96 yP hi uV uy uW rfl (by decide) _ _ _ rfl (World.ownsRow_made w #[] 0 (Nat.le_refl _) (Nat.zero_le _) rfl) d n c cs rfl ?Cg ?Ch ?Ci ?Cj ?Ck ?Cm ?_)
 case Cg=>exact hl
 case Ch =>
  intro j u hj;exact Lib.cell?_alloc_some _ (A.out j u hj)
 case Ci=>exact h1
 case Cj=>unfold maxLen;omega
 case Ck=>omega
 case Cm=>simp
 intro v' w1 iM iN cR
 go_wp2
 go_ret
 refine⟨v',rfl,by simpa using iM, ?_, ?_⟩
 ·exact cR
 ·exact ((Below.refl _ w).alloc (Nat.le_refl _) _).grown iN (by simp) (by intro k hk;simp [Value.ownBlock]at hk;omega)
set_option maxHeartbeats 1000000 in
theorem Yx(n c:Nat)(w:World):Calls Tryz.prog 21 #[.slice none n c] w λe w'=>e=.returned (.slice none 0 0)/\w'=w:=by
 have mixed:Tryz.prog.follows Departure.mixedOrders=true:=by kernel_rfl
 have q:∀(w:World) (a:Option Addr) (n c n' c':Nat),(binOp .eql 36 (.slice a n c) (.slice none n' c')).run Tryz.prog w=.ok (.bool a.isNone) w:=λw a n c n' c'=>Lib.run_eql_slice_nil w _ _ a n c n' c' yP
 go_enter Tryz.func21,Tryz.ntmps21
 go_wp2
 go_ret
 exact⟨rfl,rfl⟩
theorem Cn:Tryz.prog.underlying 26=some (.slice 42):=by kernel_rfl
theorem Of:(Tryz.prog.info? 42).map (λi=>(i.zero,i.size,i.bytes))=some (some (.agg #[.int .i64 0,.int .i64 0,.int .i64 0]),3,24):=by kernel_rfl
set_option maxHeartbeats 2000000 in
set_option maxRecDepth 100000 in
theorem Og(d:Addr)(n c:Nat)(cs:List Value)(w:World)(hl:cs.length=n*3)(Gi:n*24<=140737488355328)(h1:∀u∈cs,u.oneCell'=true)(hc:∀j u,cs[j]? = some u->w.cell? (d.add j)=some u) :
  Calls Tryz.prog 19 #[.slice (some d) n c] w λe w'=>∃v',e=.returned v'/\w'.ownsRow w.heap.size 42 3 v' n cs/\v' ≠ .slice none 0 0/\Below w.heap.size w w':=by
 have mixed:Tryz.prog.follows Departure.mixedOrders=true:=by kernel_rfl
 obtain⟨i0,hi,ln⟩:=Option.map_eq_some_iff.1 Of;have uV:i0.zero=some (.agg #[.int .i64 0,.int .i64 0,.int .i64 0]):=by injection ln
 have uy:i0.size=3:=by injection ln with _ h;injection h
 have uW:i0.bytes=24:=by injection ln with _ h;injection h
 have q:∀(w:World) (a:Option Addr) (n c n' c':Nat),(binOp .eql 26 (.slice a n c) (.slice none n' c')).run Tryz.prog w=.ok (.bool a.isNone) w:=λw a n c n' c'=>Lib.run_eql_slice_nil w _ _ a n c n' c' Cn;have TJ:∀w,Sem.run Tryz.prog (underlying 26) w=.ok (TypeDesc.slice 42) w:=run_underlying Cn;have A:Aside (∀j u,cs[j]? = some u->w.cell? (d.add j)=some u):=hc;clear hc
 go_enter Tryz.func19,Tryz.ntmps19
 go_wp2_with (at_builtin;refine wpList_append_own _ rfl _ _ 26 rfl w.heap.size 42 i0 (.agg #[.int .i64 0,.int .i64 0,.int .i64 0]) 3 24 Cn hi uV uy uW rfl (by decide) _ _ _ rfl (World.ownsRow_made w #[] 0 (Nat.le_refl _) (Nat.zero_le _) rfl) d n c cs rfl ?Cg ?Ch ?Ci ?Cj ?Ck ?Cm ?_)
 case Cg=>exact hl
 case Ch =>
  intro j u hj;exact Lib.cell?_alloc_some _ (A.out j u hj)
 case Ci=>exact h1
 case Cj=>unfold maxLen;omega
 case Ck=>omega
 case Cm=>simp
 intro v' w1 iM iN cR
 go_wp2
 go_ret
 refine⟨v',rfl,by simpa using iM, ?_, ?_⟩
 ·exact cR
 ·exact ((Below.refl _ w).alloc (Nat.le_refl _) _).grown iN (by simp) (by intro k hk;simp [Value.ownBlock]at hk;omega)
end Go.Proofs.YtocleppbcngcjaaGreatDoor
end
