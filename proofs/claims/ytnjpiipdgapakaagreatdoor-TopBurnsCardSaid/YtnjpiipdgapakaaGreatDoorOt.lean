import Derived.Test.YtnjpiipdgapakaaGreatDoorOv
set_option linter.unusedVariables false
set_option linter.unusedSimpArgs false
set_option maxRecDepth 4000
namespace Go.Proofs.YtnjpiipdgapakaaGreatDoor
open Go Go.RowKit Go.ChangeShapes Go.WideShapes Go.ChangeAt Go.Joins Go.Deep Ul Vc
section
variable {H:Type} {enc:TypeId × Value->H} {w:World} {base:Nat} {sp:Nat->Bool} {held:Bool}
theorem Mv{n:Int}(h:(Lit.int .i64 n).wf=true):cP n:=by
 simp only [Lit.wf,Bool.and_eq_true,decide_eq_true_eq]at h;exact h
def EN:List (Int × Int)->List Value
 | []=>[]
 |a::l=>.int .i64 a.1 :: .int .i64 a.2::EN l
def vh(a:Int × Int):Prop:=cP a.1/\cP a.2
theorem GS{fuel:Nat}{cs:List Value}{x:DataW H × List MemPlace}(h:DataW.trod enc Tryz.prog w base sp held fuel 25 cs=some x):∃a,cs=EN [a]/\vh a:=by
  obtain⟨xs,n,_,_,hl,hlen,hf⟩:=DataW.trod_struct Tryz.underlying25 h;have e1:Tryz.prog.cellsOf 23=1:=by kernel_rfl
  have e3:Tryz.prog.cellsOf 25=2:=by kernel_rfl
  rw [e3]at hl
  match xs,hlen with
  | [y0,y1],_ =>
    match cs,hl with
    | [c0,c1],_ =>
      have g0:=hf 0 _ rfl;have g1:=hf 1 _ rfl;simp [e1]at g0 g1;obtain⟨a,ha,_,wa⟩:=DataW.trod_int Tryz.underlying23 g0;obtain⟨b,hb,_,wb⟩:=DataW.trod_int Tryz.underlying23 g1;simp at ha hb;exact⟨(a,b),by rw [ha,hb];rfl,Mv wa,Mv wb⟩
theorem Ro{fuel:Nat}{cs:List Value}{x:DataW H × List MemPlace}(h:DataW.trod enc Tryz.prog w base sp held fuel 30 cs=some x):∃a b c,cs=EN [a,b,c]/\vh a/\vh b/\vh c:=by
  obtain⟨xs,m,_,_,hl,hlen,hf⟩:=DataW.trod_array Tryz.underlying30 h;have e1:Tryz.prog.cellsOf 25=2:=by kernel_rfl
  have e2:Tryz.prog.cellsOf 30=6:=by kernel_rfl
  rw [e2]at hl;simp only [e1]at hf
  match cs,hl with
  | [c0,c1,c2,c3,c4,c5],_ =>
    match xs,hlen with
    | [y0,y1,y2],_ =>
      have h0:=hf 0 (by omega);have h1:=hf 1 (by omega);have h2:=hf 2 (by omega);simp at h0 h1 h2;obtain⟨a,ha,wa⟩:=GS h0;obtain⟨b,hb,wb⟩:=GS h1;obtain⟨c,hc,wc⟩:=GS h2;simp [EN]at ha hb hc;obtain⟨rfl,rfl⟩:=ha;obtain⟨rfl,rfl⟩:=hb;obtain⟨rfl,rfl⟩:=hc;exact⟨a,b,c,rfl,wa,wb,wc⟩
structure pY where
 t:Int
 (p0 p1 p2 v0 v1 v2 m:Int × Int)
def BZ(s:pY):Value := .agg #[.int .i64 s.t,.int .i64 s.p0.1,.int .i64 s.p0.2,.int .i64 s.p1.1,.int .i64 s.p1.2,.int .i64 s.p2.1,.int .i64 s.p2.2,.int .i64 s.v0.1,.int .i64 s.v0.2,.int .i64 s.v1.1,.int .i64 s.v1.2,.int .i64 s.v2.1,.int .i64 s.v2.2,.int .i64 s.m.1,.int .i64 s.m.2]
structure AN(s:pY):Prop where
 t:cP s.t
 p0:vh s.p0
 p1:vh s.p1
 p2:vh s.p2
 v0:vh s.v0
 v1:vh s.v1
 v2:vh s.v2
 m:vh s.m
theorem Mw{fuel:Nat}{cs:List Value}{x:DataW H × List MemPlace}(h:DataW.trod enc Tryz.prog w base sp held fuel 32 cs=some x):∃s:pY,Value.agg cs.toArray=BZ s/\AN s:=by
  obtain⟨xs,n,_,_,hl,hlen,hf⟩:=DataW.trod_struct Tryz.underlying32 h;have e0:Tryz.prog.cellsOf 23=1:=by kernel_rfl
  have e1:Tryz.prog.cellsOf 25=2:=by kernel_rfl
  have e2:Tryz.prog.cellsOf 30=6:=by kernel_rfl
  have e3:Tryz.prog.cellsOf 32=15:=by kernel_rfl
  rw [e3]at hl
  match xs,hlen with
  | [y0,y1,y2,y3],_ =>
    match cs,hl with
    | [c0,c1,c2,c3,c4,c5,c6,c7,c8,c9,Mm,XC,XD,XE,XF],_ =>
      have g0:=hf 0 _ rfl;have g1:=hf 1 _ rfl;have g2:=hf 2 _ rfl;have g3:=hf 3 _ rfl;simp [e0,e1,e2]at g0 g1 g2 g3;obtain⟨a,ha,_,wa⟩:=DataW.trod_int Tryz.underlying23 g0;obtain⟨p0,p1,p2,hp,VR,VS,VT⟩:=Ro g1;obtain⟨v0,v1,v2,hv,VU,VV,VW⟩:=Ro g2;obtain⟨m,hm,wm⟩:=GS g3;simp [EN]at ha hp hv hm;subst ha;obtain⟨rfl,rfl,rfl,rfl,rfl,rfl⟩:=hp;obtain⟨rfl,rfl,rfl,rfl,rfl,rfl⟩:=hv;obtain⟨rfl,rfl⟩:=hm;exact⟨⟨a,p0,p1,p2,v0,v1,v2,m⟩,rfl,Mv wa,VR,VS,VT,VU,VV,VW,wm⟩
theorem Mx{P:Program}(hP:P=Tryz.prog){r:Reach}{b0:Nat}{v:Value}{d:DataW H}{ps:List MemPlace}(gR:Value.okWide P w r b0 32 v)(hd:DataW.Trod enc P w base sp held 32 v d ps) :
  ∃s:pY,v=BZ s/\AN s:=by
 obtain⟨fs,xD⟩:∃fs,P.underlying 32=some (.struct fs):=⟨_,by rw [hP];exact Tryz.underlying32⟩;have hz:∀fuel cs x,DataW.trod enc P w base sp held fuel 32 cs=some x->∃s:pY,Value.agg cs.toArray=BZ s/\AN s:=λfuel cs x h=>by rw [hP]at h;exact Mw h
 clear hP;obtain⟨cs,rfl,_⟩:=okWide_struct xD gR;obtain⟨fuel,hf⟩:=hd;obtain⟨z,h1,h2⟩:=hz _ _ _ hf;exact⟨z,h1,h2⟩
end
end Go.Proofs.YtnjpiipdgapakaaGreatDoor
