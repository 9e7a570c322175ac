import Derived.Test.YtnjpiipdgapakaaGreatDoorVcM
import Derived.LoopNIn
import Derived.Sort.LoopGhostIn
import Derived.RangeFuncIn
set_option linter.unusedVariables false
set_option linter.unusedSimpArgs false
namespace Vc
open Go Go.RowKit
variable {W:dN} {Q:Value->Prop} {QM QP:World->Value->Prop}
theorem vD(r:List (Nat × Option Ex))(j i:Nat)(v:Option Ex):eC ((j,v)::r) i=if j=i then some v else eC r i:=rfl
theorem Dl:∀(r:List (Nat × Option Ex)) (k i:Nat) (e:Option Ex),eC (kP r k e) i=if k=i then (eC r i).map (λ_=>e)else eC r i
  | [],k,i,e=>by simp [kP,eC]
  | (j,v)::r,k,i,e=>by
    simp only [kP];by_cases hj:j=k
    · subst hj;rw [if_pos rfl,vD,vD];by_cases hi:j=i
      · simp [hi]
      · rw [if_neg hi,if_neg hi,if_neg hi,Dl r j i e,if_neg hi]
    · rw [if_neg hj,vD,vD,Dl r k i e];by_cases hi:j=i
      · rw [if_pos hi,if_pos hi,if_neg (λh=>hj (hi.trans h.symm))]
      · rw [if_neg hi,if_neg hi]
theorem Dm:∀(r:List (Nat × Option Ex)) (k i:Nat),eC (kQ r k) i=if k=i then none else eC r i
  | [],k,i=>by simp [kQ,eC]
  | (j,v)::r,k,i=>by
    simp only [kQ];by_cases hj:j=k
    · subst hj;rw [if_pos rfl,Dm r j i,vD];by_cases hi:j=i
      · rw [if_pos hi,if_pos hi]
      · rw [if_neg hi,if_neg hi,if_neg hi]
    · rw [if_neg hj,vD,vD,Dm r k i];by_cases hi:j=i
      · rw [if_pos hi,if_pos hi,if_neg (λh=>hj (hi.trans h.symm))]
      · rw [if_neg hi,if_neg hi]
section
variable {R:Nat->Loop} {Z:List Nat}
theorem Core.drop{J:Env}{β:Nat->Nat}{st:St}{a:Act}{w:World}(hC:Core W R Z J β st a w)(oL:st.df=[]):Core W R Z J β {st with d := []} {a with defers := []} w :=
 ⟨hC.size,hC.tmps,by simp [fm,marksOf,oL],hC.below,hC.mem,hC.inj,hC.fb,hC.iU,λb hb=>hC.fR b (List.mem_append.2 (.inl (by simpa using hb))),by simpa using (List.nodup_append.1 hC.dn).1,⟨hC.wf.t,hC.wf.m,hC.wf.o,hC.wf.ap,hC.wf.r,λk hk=>(by cases hk),hC.wf.k,hC.wf.df⟩,hC.kn⟩
theorem Holds.put{J:Env}{β:Nat->Nat}{k:Nat}{w:World}{e:oF}{c:an}(h:Holds W J β k e w)(hw:nC c k e){l:Nat}{r:Loop}(hl:w.heap[l]? = some (.loop r))(o:Obj):Holds W J β k e (w.putObj l o):=by
 refine h.eE hw (Env.ah _ _) (λ_ _=>rfl) λb hb=>World.putObj_heap_other λhe => ?_;obtain⟨_,_,c,hc,hd⟩:=h.uk b hb;rw [he,hl]at hc;cases hc;exact hd
theorem cS.putObj{w:World}(h:cS W w){l:Nat}(hl:W.heap.size<=l)(o:Obj):cS W (w.putObj l o) :=
 cS.mk h.os h.tape h.output (by simpa using h.size) λk hk hn=>by rw [World.putObj_heap_other (by omega)];exact h.block k hk hn
theorem Pn{J:Env}{β:Nat->Nat}{st:St}{a:Act}{w:World}(hC:Core W R Z J β st a w){k:Nat}{e e':Option Ex}(hg:eC st.r k=some e) :
  Core W R Z J β {st with r:=kP st.r k e'} a (w.putObj (β k) (.loop (recAt (R k) e'))):=by
 obtain⟨l1,l2⟩:=hC.fb k e hg;refine⟨hC.size,hC.tmps,hC.ja,cS.putObj hC.below l1 _,λj x hj=>(hC.mem j x hj).put (hC.wf.dR hj) l2 _,hC.inj,λj x hj => ?_,λj j' x x' hj rz he => ?_,λb hb=>⟨(hC.fR b hb).1, ?_⟩,hC.dn,⟨hC.wf.t,hC.wf.m,hC.wf.o,hC.wf.ap,λj x hj => ?_,hC.wf.d,hC.wf.k,hC.wf.df⟩,hC.kn⟩
 ·rw [Dl]at hj;by_cases hk:k=j
  ·subst hk;rw [if_pos rfl,hg]at hj;simp only [Option.map_some,Option.some.injEq]at hj;subst hj;exact⟨l1,World.putObj_heap_same (sj l2)⟩
  ·rw [if_neg hk]at hj;refine⟨(hC.fb j x hj).1, ?_⟩;rw [World.putObj_heap_other λhe=>hk (hC.iU j k x e hj hg he).symm];exact (hC.fb j x hj).2
 ·have f:∀{j x},eC (kP st.r k e') j=some x->∃y,eC st.r j=some y:=λ{j x} hj=>by
   rw [Dl]at hj;by_cases hk:k=j
   ·exact⟨e,hk▸hg⟩
   ·rw [if_neg hk]at hj;exact⟨x,hj⟩
  obtain⟨y,hy⟩:=f hj;obtain⟨y',e_⟩:=f rz;exact hC.iU j j' y y' hy e_ he
 ·rw [World.putObj_heap_other λhe => ?_]
  ·exact (hC.fR b hb).2
  ·have:=(hC.fR b hb).2
   rw [he,l2]at this;cases this
 ·rw [Dl]at hj;by_cases hk:k=j
  ·exact hk▸hC.wf.r k e hg
  ·rw [if_neg hk]at hj;exact hC.wf.r j x hj
theorem Po(J:Env)(β:Nat->Nat):∀ (ps:List Tmp) (args:List SV) (t:List (Nat × SV)) (tmps:Array Value),args.length=ps.length->(∀ p∈ps,p < tmps.size) ->
    (∀i,aq t i ≠ .any->tmps[i]? = some ((aq t i).den J β))->∀i,aq (lQ t ps args) i ≠ .any ->
      ((ps.zip (args.map (SV.den J β))).foldl (λ(x:Array Value) (y:Tmp × Value)=>x.setIfInBounds y.1 y.2) tmps)[i]? = some ((aq (lQ t ps args) i).den J β)
  | [],args,t,tmps,hl,_,h,i,hi=>by
    cases args with
    |nil=>exact h i hi
    |cons _ _=>simp at hl
  |p::ps,[],t,tmps,hl,_,_,_,_=>by simp at hl
  |p::ps,v::args,t,tmps,hl,hp,h,i,hi=>by
    simp only [lQ,List.map_cons,List.zip_cons_cons,List.foldl_cons]at hi ⊢;refine Po J β ps args _ _ (by simpa using hl) (λq hq=>by simpa using hp q (by simp [hq])) (λj hj => ?_) i hi;rw [zi]at hj ⊢;by_cases oh:p=j
    · subst oh;rw [if_pos rfl]
      have:=hp p (by simp)
      simp [this]
    · rw [if_neg oh]at hj ⊢;rw [Array.getElem?_setIfInBounds_ne oh];exact h j hj
theorem Pp:∀(l:List (Tmp × Value)) (tmps:Array Value),(l.foldl (λ(x:Array Value) (y:Tmp × Value)=>x.setIfInBounds y.1 y.2) tmps).size=tmps.size
 | [],_=>rfl
 |p::l,tmps=>by rw [List.foldl_cons,Pp l];simp
theorem Pq{c:an}:∀(ps:List Tmp) (args:List SV) (t:List (Nat × SV)),args.all (SV.wf c)=true->(∀i,(aq t i).wf c=true)->∀i,(aq (lQ t ps args) i).wf c=true
  | [],args,t,_,h,i=>by cases args<;>exact h i
  |p::ps,[],t,_,h,i=>h i
  |p::ps,v::args,t,ha,h,i=>by
    simp only [List.all_cons,Bool.and_eq_true]at ha;refine Pq ps args _ ha.2 (λj => ?_) i;rw [zi];by_cases hj:p=j
    · rw [if_pos hj];exact ha.1
    · rw [if_neg hj];exact h j
end
def kE(rd r:Option Nat)(st:St)(β:Nat->Nat):Prop :=
 match rd with
 |none=>r=none
 |some k=>r=some (β k)/\k<st.c.nk
theorem kE.kU{rd r:Option Nat}{st s:St}{β ag:Nat->Nat}(h:kE rd r st β)(hc:st.c.le s.c)(hb:∀k,k<st.c.nk->ag k=β k):kE rd r s ag:=by
 cases rd with
 |none=>exact h
 |some k=>exact⟨by rw [hb k h.2];exact h.1,Nat.lt_of_lt_of_le h.2 hc.k⟩
def uE(G:bY)(W:dN)(Q:Value->Prop)(QM QP:World->Value->Prop):Prop :=
  ∀(R:Nat->Loop) (Z:List Nat) (r:Option Nat) (n:Nat) (inl:vS (Env->Prop)) (yl:Yl (Env->Prop)) (pQ:Bool) (KP:Nat->St->Env->Prop) id ops st (K:St->Env->Prop) J,qs (PA G.P W Q QM QP) G inl yl pQ KP ops st K J->∀β a w,Core W R Z J β st a w->∀(Q':Exit->Act->World->Prop),rp G W R Z st.c J β Q' inl->mR G.P W R st.c J β yl->(pQ=true->r=none)->rq W R Z st.c J β Q' KP ->
    ∀(next:Act->World->Prop),(∀a w,next a w->Q' .normal a w)->tt W R Z st J β K next->(Code.region id ops true).wpIn (Fr r) n G.P Q' a w
def zT(G:bY)(W:dN)(Q:Value->Prop)(QM QP:World->Value->Prop)(n:Nat):Prop :=
  ∀(rd:Option Nat) (yl:Yl (Env->Prop)) (c:Code) (st:St) (K:Ex->St->Env->Prop) (J:Env),exec (PA G.P W Q QM QP) G n rd yl c st K J ->
    ∀(R:Nat->Loop) (Z:List Nat) (r:Option Nat) (m:Nat) (β:Nat->Nat) (a:Act) (w:World),Core W R Z J β st a w->mR G.P W R st.c J β yl->kE rd r st β->∀Q':Exit->Act->World->Prop,l7 W R Z st J β K Q'->c.wpIn (Fr r) m G.P Q' a w
theorem Js{P:Program}{R:Nat->Loop}{Z:List Nat}{rd r:Option Nat}{st:St}{J:Env}{β:Nat->Nat}{a:Act}{w:World}(hC:Core W R Z J β st a w)(nF:kE rd r st β)(dq:tW st.r rd=true)
    (fn:FuncId) (tmps:Array Value) (ps:Array Tmp) (assign body:Code) :
    ∃l mark w1 D,(Instr.enterLoop fn tmps ps assign body (Fr r).round).run P w=.ok (l,mark) w1/\w1.heap[l]? = some (.loop {state := .ready,pending:=none,fn,tmps,params:=ps,assign,body,defers:=D})/\(∀k,k<w.heap.size->w1.heap[k]? = w.heap[k]?) /\
      w.heap.size<=l/\w1.os=w.os/\w1.tape=w.tape/\w1.output=w.output/\w.heap.size<=w1.heap.size /\
      (rd.isSome=true->mark=[])/\(rd.isSome=false->mark=[{target := .collected w.heap.size,args := #[]}]/\w1.heap[w.heap.size]? = some (.deferred (some []))):=by
  cases rd with
  |none =>
    have hr:r=none:=nF;subst hr;refine⟨_,_,_,w.heap.size,run_enterLoop_outer fn tmps ps assign body, ?_⟩;refine⟨?_,λk hk => ?_,by simp,rfl,rfl,rfl,by simp;omega,(λh=>nomatch h),λ(_:false=false)=>And.intro rfl ?_⟩
    · have:=World.alloc_heap_new (w.alloc (.deferred (some []))) (.loop {state := .ready,pending:=none,fn,tmps,params:=ps,assign,body,defers:=w.heap.size})
      rwa [World.size_alloc]at this
    · rw [Below.heap_alloc _ _ _ (by simp;omega),Below.heap_alloc _ _ _ hk]
    · rw [Below.heap_alloc _ _ _ (by simp)];exact World.alloc_heap_new w _
  |some k =>
    obtain⟨hr,hk⟩:=nF;subst hr;obtain⟨e,he⟩:=Option.isSome_iff_exists.1 dq;have hl:=(hC.fb k e he).2;refine⟨_,_,_,_,run_enterLoop_inner hl fn tmps ps assign body,World.alloc_heap_new w _,λj hj=>Below.heap_alloc _ _ _ hj,Nat.le_refl _,rfl,rfl,rfl,by simp,λ_=>rfl,λh=>(by cases h)⟩
theorem S'{G:bY}(hG:G.Ok){n:Nat}(ih:zT G W Q QM QP n){rd:Option Nat}{yl:Yl (Env->Prop)}{g:Operand}{ps:Array Tmp}{assign body:Code}{st:St}{K:Ex->St->Env->Prop}{J:Env}
    (h:exec (PA G.P W Q QM QP) G (n+1) rd yl (.rangeFunc g ps assign body) st K J) {R:Nat->Loop} {Z:List Nat} {r:Option Nat} {m:Nat} {β:Nat->Nat} {a:Act} {w:World} (hC:Core W R Z J β st a w) (hY:mR G.P W R st.c J β yl) (nF:kE rd r st β)
    {Q':Exit->Act->World->Prop} (hn:l7 W R Z st J β K Q'):(Code.rangeFunc g ps assign body).wpIn (Fr r) m G.P Q' a w:=by
  unfold exec at h;cases g with
  |tmp g =>
    simp only at h;unfold tY at h;generalize hg:aq st.t g=sv at h;split at h;rotate_left
    · exact h.elim
    rename_i f az;by_cases gv:(G.inl.contains f=true/\g<st.n/\tW st.r rd=true/\st.df=[]);rotate_left
    · rw [if_neg gv]at h;exact h.elim
    rw [if_pos gv]at h;obtain⟨hf,W_,Jt,Ju⟩:=gv;generalize Jv:G.P.funcs[f]? = u at h;cases u with
    |none=>exact h.elim
    |some fn =>
    simp only at h;generalize hb:fn.body=u at h;cases u with
    |none=>exact h.elim
    |some b =>
    simp only at h;have sF:(SV.cv (.one (.fn f az))).wf st.c=true:=by rw [<-hg];exact hC.wf.t g
    have lu:∀x∈az,x.1<st.c.nk:=λx hx=>by simpa using List.all_eq_true.1 sF x hx
    have eg:a.eval (.tmp g)=.func (.func f) #[] (az.map λc=>.pointer (some ⟨β c.1,c.2,none⟩)).toArray:=by
      have:=hC.eval (.tmp g) (by show aq st.t g≠_;rw [hg];simp)
      rw [this];show (aq st.t g).den J β=_;rw [hg];rfl
    refine wpIn_rangeFunc λDn _ => ?_;obtain⟨l,mark,w1,D,uz,wB,hold,Bu,Ta,Tb,Tc,iS,Td,Pr⟩:=Js (P:=G.P) hC nF Jt Dn a.tmps ps assign body;generalize zU:({state := .ready,pending:=none,fn:=Dn,tmps:=a.tmps,params:=ps,assign:=assign,body:=body,defers:=D}:Loop)=rec at wB;have uF:recAt rec none=rec:=by rw [<-zU];rfl
    have l8:rec.tmps=a.tmps/\rec.params=ps/\rec.assign=assign/\rec.body=body:=by rw [<-zU];exact⟨rfl,rfl,rfl,rfl⟩
    let kr:=st.c.nk;let eA:Nat->Nat:=λk=>if k=st.c.nk then l else if k=st.c.nk+1 then w.heap.size else β k
    have kV:∀k,k<st.c.nk->eA k=β k:=λk hk=>by
      show (if k=st.c.nk then l else if k=st.c.nk+1 then w.heap.size else β k)=β k;rw [if_neg (by omega),if_neg (by omega)]
    have sJ:eA st.c.nk=l:=if_pos rfl
    have Jw:eA (st.c.nk+1)=w.heap.size:=by
      show (if st.c.nk+1=st.c.nk then l else if st.c.nk+1=st.c.nk+1 then w.heap.size else _)=_;rw [if_neg (by omega),if_pos rfl]
    let R1:Nat->Loop:=λk=>if k=st.c.nk then rec else R k;have l9:∀k,k<st.c.nk->R1 k=R k:=λk hk=>if_neg (by omega);have zV:R1 st.c.nk=rec:=if_pos rfl;have zW:st.c.le {st.c with nk:=st.c.nk+2}:=an.jz st.c 2;let args:List SV:=SV.cv (.one (.p_ st.c.nk))::az.map cU
    have Dp:args.all (SV.wf {st.c with nk:=st.c.nk+2})=true:=by
      refine List.all_eq_true.2 λx hx => ?_;rcases List.mem_cons.1 hx with rfl|hx
      · show decide (st.c.nk<st.c.nk+2)=true;simp
      · obtain⟨y,hy,rfl⟩:=List.mem_map.1 hx
        have:=lu y hy
        show decide (y.1<st.c.nk+2)=true;simp;omega
    have d_:(args.map (SV.den J eA)).toArray=#[.func (.yield l) #[] #[]]++(az.map λc=>(.pointer (some ⟨β c.1,c.2,none⟩):Value)).toArray:=by
      apply Array.ext';simp only [args,List.map_cons,Array.toList_append];show Value.func (.yield (eA st.c.nk)) #[] #[]::_=_;rw [sJ];simp only [List.map_map,List.cons_append,List.nil_append,List.cons.injEq,true_and];apply List.map_congr_left;intro x hx;show Value.pointer (some ⟨eA x.1,x.2,none⟩)=_;rw [kV x.1 (lu x hx)]
    have Te:cS W w1:=cS.mk (Ta.trans hC.below.os) (Tb.trans hC.below.tape) (Tc.trans hC.below.output) (Nat.le_trans hC.below.size iS) λk hk hn=>by
      rw [hold k (Nat.lt_of_lt_of_le hk hC.below.size)];exact hC.below.block k hk hn
    have uD:st.d.map eA=st.d.map β:=List.map_congr_left λk hk=>kV k (hC.wf.d k hk);have ka:∀k∈Z++st.d.map β,k<w.heap.size:=λk hk=>sj (hC.fR k hk).2
    have Dq:∀{k e},aC st.m st.o k=some e->Holds W J eA k e w1:=λ{k e} hk =>
      (hC.mem k e hk).eE (hC.wf.dR hk) (Env.ah _ _) kV λb hb=>hold b ((hC.mem k e hk).uk b hb).2.1
    have base:Core W R1 (Z++st.d.map β++(if rd.isSome=true then []else [w.heap.size])) J eA {t:=(List.range args.length).zip args,n:=args.length + (fn.ntmps - args.length),m:=st.m,c := {st.c with nk:=st.c.nk + 2},o:=st.o,r:=(st.c.nk,none)::st.r,d := [],k:=st.k}
        {tmps:=(args.map (SV.den J eA)).toArray++Array.replicate (fn.ntmps-(args.map (SV.den J eA)).toArray.size) undef,defers := []} w1:=by
      have g:=hC.wf.grow zW;refine⟨by simp,λi hi => ?_,rfl,Te,λk e hk=>Dq hk,λk k' e e' b' hx hy jb kC => ?_,λk e hk => ?_,λk k' e e' hx hy he => ?_,λb' eG => ?_, ?_,⟨λi => ?_,g.m,g.o,g.ap,λk e hk => ?_,λk hk=>(by cases hk),g.k,λx hx=>(by cases hx)⟩,hC.kn⟩
      · simp only [xM]at hi ⊢;cases sL:args[i]? with
        |none=>rw [sL]at hi;exact (hi rfl).elim
        |some v =>
          have cw:i<args.length:=(List.getElem?_eq_some_iff.1 sL).1;rw [Array.getElem?_append_left (by simpa using cw)];simp [sL]
      · rw [CR (hC.wf.dR hx) kV]at jb;rw [CR (hC.wf.dR hy) kV]at kC
        exact hC.inj k k' e e' b' hx hy jb kC
      · rw [vD]at hk;by_cases ct:st.c.nk=k
        · rw [if_pos ct]at hk;cases hk;subst ct;rw [sJ,zV,uF];exact⟨Nat.le_trans hC.below.size Bu,wB⟩
        · rw [if_neg ct]at hk;have cw:=hC.wf.r k e hk;rw [kV k cw,l9 k cw,hold _ (sj (hC.fb k e hk).2)];exact hC.fb k e hk
      · rw [vD]at hx hy;by_cases h1:st.c.nk=k<;>by_cases h2:st.c.nk=k'
        · omega
        · rw [if_neg h2]at hy;rw [<-h1,sJ,kV k' (hC.wf.r k' e' hy)]at he
          have:=sj (hC.fb k' e' hy).2
          omega
        · rw [if_neg h1]at hx;rw [<-h2,sJ,kV k (hC.wf.r k e hx)]at he
          have:=sj (hC.fb k e hx).2
          omega
        · rw [if_neg h1]at hx;rw [if_neg h2]at hy;rw [kV k (hC.wf.r k e hx),kV k' (hC.wf.r k' e' hy)]at he;exact hC.iU k k' e e' hx hy he
      · simp only [List.map_nil,List.append_nil]at eG;rcases List.mem_append.1 eG with eG|eG
        · exact⟨(hC.fR b' eG).1,by rw [hold b' (ka b' eG)];exact (hC.fR b' eG).2⟩
        · cases dq:rd.isSome with
          |true=>rw [dq]at eG;simp at eG
          |false =>
            rw [dq]at eG;simp at eG;subst eG;exact⟨hC.below.size,(Pr dq).2⟩
      · simp only [List.map_nil,List.append_nil];refine List.nodup_append.2 ⟨hC.dn,by split<;>simp,λx hx y hy => ?_⟩
        have:=ka x hx
        split at hy
        · cases hy
        · simp at hy;omega
      · simp only [xM];cases sL:args[i]? with
        |none=>rfl
        |some v=>exact List.all_eq_true.1 Dp v (List.mem_of_getElem? sL)
      · rw [vD]at hk;by_cases ct:st.c.nk=k
        · simp only;omega
        · rw [if_neg ct]at hk
          have:=hC.wf.r k e hk
          simp only;omega
    have post:∀ (s':St) (aa:Env) (ag:Nat->Nat) (a':Act) (w':World),Core W R1 (Z++st.d.map β++(if rd.isSome=true then []else [w.heap.size])) aa ag {s' with d := []} a' w'->({st.c with nk:=st.c.nk + 2}:an).le s'.c->Env.au {st.c with nk:=st.c.nk + 2} J aa->(∀ k,k < st.c.nk + 2->ag k=eA k) ->
        (match eC s'.r st.c.nk with
          |some none=>K .normal {t:=st.t,n:=st.n,m:=s'.m,c:=s'.c,o:=s'.o,r:=kQ s'.r st.c.nk,d:=if rd.isSome=true then st.d else (st.c.nk+1)::st.d,k:=s'.k}
          |some (some .normal) => (PA G.P W Q QM QP).fail "range: busy"
          |some (some (.iC _)) => (PA G.P W Q QM QP).fail "range: panic"
          |some (some e)=>K e {t:=st.t,n:=st.n,m:=s'.m,c:=s'.c,o:=s'.o,r:=kQ s'.r st.c.nk,d:=if rd.isSome=true then st.d else (st.c.nk+1)::st.d,k:=s'.k}
          |none => (PA G.P W Q QM QP).fail "range: record") aa -> ∃ jump w4, (Instr.endLoop l).run G.P w' = .ok jump w4 /\ (match jump with | none => Q' .normal { a with defers := mark ++ a.defers } w4 | some c => c.wpIn (Fr r) m G.P Q' { a with defers := mark ++ a.defers } w4) := by
      intro s' aa ag a' w' dS Dr pR eG hk;have b1:∀k,k<st.c.nk->ag k=β k:=λk hk=>(eG k (by omega)).trans (kV k hk);have b2:ag st.c.nk=l:=(eG _ (by omega)).trans sJ;have b3:ag (st.c.nk+1)=w.heap.size:=(eG _ (by omega)).trans Jw;have cX:Env.au st.c J aa:=⟨pR.i,pR.b,pR.v,pR.p,pR.s,pR.l⟩;have lZ:st.c.le s'.c:=an.le_trans zW Dr
      have back:∀(e:Option Ex) (o:Obj),eC s'.r st.c.nk=some e->Core W R Z aa ag {t:=st.t,n:=st.n,m:=s'.m,c:=s'.c,o:=s'.o,r:=kQ s'.r st.c.nk,d:=if rd.isSome=true then st.d else (st.c.nk+1)::st.d,k:=s'.k} {a with defers:=mark++a.defers} (w'.putObj l o):=by
        intro e o mN;obtain⟨l1,l2⟩:=dS.fb st.c.nk e mN;rw [b2]at l1 l2;have Ps:st.d.map ag=st.d.map β:=List.map_congr_left λk hk=>b1 k (hC.wf.d k hk)
        have zQ:(if rd.isSome=true then st.d else (st.c.nk+1)::st.d).map ag=(if rd.isSome=true then []else [w.heap.size])++st.d.map β:=by
          split
          · simpa using Ps
          · simp only [List.map_cons,b3,Ps,List.singleton_append]
        refine⟨hC.size,λi hi => ?_, ?_,cS.putObj dS.below l1 _,λk e hg=>(dS.mem k e hg).put (dS.wf.dR hg) l2 _,dS.inj,λk x hg => ?_,λk k' x x' hg eF he => ?_,λb hb => ?_, ?_,
          ⟨λi=>SV.aH lZ (hC.wf.t i),dS.wf.m,dS.wf.o,dS.wf.ap,λk x hg => ?_,λk hk => ?_,dS.wf.k,λx hx=>(by cases hx)⟩,dS.kn⟩
        · rw [show ({a with defers:=mark++a.defers}:Act).tmps=a.tmps from rfl,hC.tmps i hi];exact congrArg some (SV.U cX b1 (hC.wf.t i)).symm
        · show mark++a.defers=fm ag []++_;rw [hC.ja,Ju];simp only [fm,List.map_nil,List.nil_append]
          have Pu:marksOf β st.d=marksOf ag st.d:=by
            simp only [marksOf];exact List.map_congr_left λk hk=>by rw [b1 k (hC.wf.d k hk)]
          cases dq:rd.isSome with
          |true=>rw [Td dq,Pu];rfl
          |false=>rw [(Pr dq).1,Pu];simp [marksOf,b3]
        · rw [Dm]at hg;split at hg
          · cases hg
          · rename_i ct;have Ds:=dS.fb k x hg;refine⟨Ds.1, ?_⟩;have dO:ag k≠l:=λhe=>ct (dS.iU st.c.nk k e x mN hg (by rw [b2,he]));rw [World.putObj_heap_other dO,Ds.2]
            have:R1 k=R k:=if_neg (λhe=>ct he.symm)
            rw [this]
        · rw [Dm]at hg eF;split at hg
          · cases hg
          · split at eF
            · cases eF
            · exact dS.iU k k' x x' hg eF he
        · rw [zQ]at hb
          have fQ:b∈Z++st.d.map β++(if rd.isSome=true then []else [w.heap.size]):=by
            simp only [List.mem_append]at hb ⊢;rcases hb with hb|hb|hb
            · exact .inl (.inl hb)
            · exact .inr hb
            · exact .inl (.inr hb)
          have:=dS.fR b (by simpa using fQ)
          refine⟨this.1, ?_⟩;rw [World.putObj_heap_other λhe => ?_]
          · exact this.2
          · have h2:=this.2;rw [he,l2]at h2;cases h2
        · rw [zQ]
          have:=dS.dn
          simp only [List.map_nil,List.append_nil]at this;obtain⟨n1,n2,n3⟩:=List.nodup_append.1 this;obtain⟨n4,n5,n6⟩:=List.nodup_append.1 n1;refine List.nodup_append.2 ⟨n4,List.nodup_append.2 ⟨n2,n5,λx hx y hy he=>n3 y (List.mem_append.2 (.inr hy)) x hx he.symm⟩,λx hx y hy => ?_⟩;rcases List.mem_append.1 hy with hy|hy
          · exact n3 x (List.mem_append.2 (.inl hx)) y hy
          · exact n6 x hx y hy
        · rw [Dm]at hg;split at hg
          · cases hg
          · exact dS.wf.r k x hg
        · have FO:st.c.nk+2<=s'.c.nk:=Dr.k;split at hk
          · have:=hC.wf.d k hk
            simp only;omega
          · rcases List.mem_cons.1 hk with rfl|hk
            · simp only;omega
            · have:=hC.wf.d k hk
              simp only;omega
      have ends:∀(x:Option Ex),eC s'.r st.c.nk=some x->w'.heap[l]? = some (.loop (recAt rec x)):=λx hx=>by
        have:=(dS.fb st.c.nk x hx).2
        rw [b2,zV]at this;exact this
      generalize wD:eC s'.r st.c.nk=gr at hk;cases gr with
      |none=>exact hk.elim
      |some x =>
        have hh:=ends x wD;cases x with
        |none =>
          refine⟨none,_,(run_endLoop (P:=G.P) hh (by simp [recAt])).trans rfl, ?_⟩;exact hn .normal _ aa ag _ _ hk trivial lZ cX b1 (back none _ wD)
        |some e =>
          cases e with
          |normal=>exact hk.elim
          |exit id =>
            refine⟨some (.exit id),_,(run_endLoop (P:=G.P) hh (by simp [recAt])).trans rfl, ?_⟩;exact wpIn_exit (hn (.exit id) _ aa ag _ _ hk trivial lZ cX b1 (back _ _ wD))
          |ret =>
            refine⟨some .ret,_,(run_endLoop (P:=G.P) hh (by simp [recAt])).trans rfl, ?_⟩;exact wpIn_ret (hn .ret _ aa ag _ _ hk trivial lZ cX b1 (back _ _ wD))
          |iC i=>exact hk.elim
    refine⟨l,mark,w1,{target := .fn (.func f) (az.map λc=>(.pointer (some ⟨β c.1,c.2,none⟩):Value)).toArray,args := #[.func (.yield l) #[] #[]]},w1,f,(args.map (SV.den J eA)).toArray,w1,uz, ?_,λf' _=>sD r f', ?_,C_,IY.2 (FM (n:=0) Jv hb ?_)⟩
    · simp only [resolve,rangeCall,eg];simp [Deferred.ofValue,Act.eval]
    · simp only [invoke];rw [d_];exact hG.inl f hf _ w1
    refine ih none _ b _ _ J h R1 _ none 0 eA _ w1 base ?_ rfl _ ?_;rotate_left
    ·
      intro e s' aa ag a' w' hk _ h1 h2 h3 dS;by_cases oL:s'.df=[];rotate_left
      · rw [if_pos oL]at hk;exact hk.elim
      rw [if_neg (by simpa using oL)]at hk
      have fin:(match dc G.P s' fn.results.toList with
          |some _=>match eC s'.r st.c.nk with
            |some none=>K .normal {t:=st.t,n:=st.n,m:=s'.m,c:=s'.c,o:=s'.o,r:=kQ s'.r st.c.nk,d:=if rd.isSome=true then st.d else (st.c.nk+1)::st.d,k:=s'.k}
            |some (some .normal) => (PA G.P W Q QM QP).fail "range: busy"
            |some (some (.iC _)) => (PA G.P W Q QM QP).fail "range: panic"
            |some (some e)=>K e {t:=st.t,n:=st.n,m:=s'.m,c:=s'.c,o:=s'.o,r:=kQ s'.r st.c.nk,d:=if rd.isSome=true then st.d else (st.c.nk+1)::st.d,k:=s'.k}
            |none => (PA G.P W Q QM QP).fail "range: record"
          |none => (PA G.P W Q QM QP).fail "range: results") aa -> LeavesInM (Fr none) 0 G.P fn a'.tmps (rangePost (Fr r) m G.P l Q' { a with defers := mark ++ a.defers }) a'.defers .returning w' := by
        intro hk;generalize hr:dc G.P s' fn.results.toList=u at hk;cases u with
        |none=>exact hk.elim
        |some vs=>exact O' dS oL hr λw3 uy _=>post s' aa ag _ w3 uy h1 h2 h3 hk
      cases e with
      |normal=>exact fin hk
      |ret=>exact fin hk
      |exit id=>exact hk.elim
      |iC i=>exact hk.elim
    ·
      intro k kF s K' ar hy tu iT fZ R' Pv Z' aQ a2 w2 jc cV r2 n2 next' ke
      have gq:st.c.le s.c:=an.le_trans zW iT;have cX:Env.au st.c J ar:=⟨fZ.i,fZ.b,fZ.v,fZ.p,fZ.s,fZ.l⟩;have jX:∀k,k<st.c.nk->aQ k=β k:=λk hk=>(jc k (by simp only;omega)).trans (kV k hk);have Tf:∀k,k<st.c.nk->R' k=R k:=λk hk=>(Pv k (by simp only;omega)).trans (l9 k hk);have Jx:mR G.P W R' s.c ar aQ yl:=hY.kU gq cX jX Tf;split at hy;rotate_left
      · exact Jx k kF s K' ar hy tu (an.le_refl _) (Env.ah _ _) R' (λ_ _=>rfl) Z' aQ a2 w2 (λ_ _=>rfl) cV r2 n2 next' ke
      rename_i ct;subst ct;split at hy;rotate_left
      · exact hy.elim
      rename_i zX;obtain⟨zY,Dt,Jy⟩:=zX;have uG:aQ st.c.nk=l:=(jc _ (by simp only;omega)).trans sJ;have Du:R' st.c.nk=rec:=(Pv _ (by simp only;omega)).trans zV
      have hh:w2.heap[l]? = some (.loop rec):=by
        have:=(cV.fb _ _ zY).2
        rw [uG,Du,uF]at this;exact this
      have Pw:=run_yield (P:=G.P) (args:=(kF.map (SV.den ar aQ)).toArray) hh (by rw [l8.2.1];simpa using Dt);rw [l8.1,l8.2.1,l8.2.2.1,l8.2.2.2]at Pw;refine⟨l,rec.fn,_,assign,body,by rw [uG];exact Pw,roundIn_of_wpIn (sD r2 _) ?_⟩
      have Tg:Core W R' (Z'++s.d.map aQ) ar aQ {t:=lQ st.t ps.toList kF,n:=st.n,m:=s.m,c:=s.c,o:=s.o,r:=s.r,d := [],k:=s.k}
          {tmps:=(ps.zip (kF.map (SV.den ar aQ)).toArray).foldl (λ(tmps:Array Value) (x:Tmp × Value)=>tmps.setIfInBounds x.1 x.2) a.tmps,defers := []} w2:=by
        have hz:(ps.zip (kF.map (SV.den ar aQ)).toArray).foldl (λ(tmps:Array Value) (x:Tmp × Value)=>tmps.setIfInBounds x.1 x.2) a.tmps=(ps.toList.zip (kF.map (SV.den ar aQ))).foldl (λ(x:Array Value) (y:Tmp × Value)=>x.setIfInBounds y.1 y.2) a.tmps:=by
          rw [<-Array.foldl_toList,Array.toList_zip]
        rw [hz];refine⟨by simp only [Pp];exact hC.size,λi hi => ?_,rfl,cV.below,cV.mem,cV.inj,cV.fb,cV.iU,λb hb=>cV.fR b (by simpa using hb),by simpa using cV.dn,⟨λi => ?_,cV.wf.m,cV.wf.o,cV.wf.ap,cV.wf.r,λk hk=>(by cases hk),cV.wf.k,λx hx=>(by cases hx)⟩,cV.kn⟩
        · refine Po ar aQ ps.toList kF st.t a.tmps (by simpa using Dt) (λp hp => ?_) (λj hj => ?_) i hi
          · rw [hC.size]
            have:=Array.all_eq_true_iff_forall_mem.1 Jy p (Array.mem_toList_iff.1 hp)
            simpa using this
          · rw [hC.tmps j hj];exact congrArg some (SV.U cX jX (hC.wf.t j)).symm
        · exact Pq ps.toList kF st.t tu (λj=>SV.aH gq (hC.wf.t j)) i
      refine ih (some st.c.nk) yl assign _ _ ar hy R' (Z'++s.d.map aQ) (some l) n2 aQ _ w2 Tg Jx ⟨by rw [uG],by have:=iT.k;simp only at this ⊢;omega⟩ _ ?_;intro e s1 A4 Fa a3 w3 hk _ h1 h2 h3 FW;cases e with
      |exit id=>exact hk.elim
      |ret=>exact hk.elim
      |iC i=>exact hk.elim
      |normal =>
        simp only at hk;split at hk;rotate_left
        · exact hk.elim
        rename_i rA;have Jz:st.c.nk<s.c.nk:=by have:=iT.k;simp only at this;omega
        have oG:Fa st.c.nk=l:=(h3 _ Jz).trans uG
        have Th:w3.heap[l]? = some (.loop rec):=by
          have:=(FW.fb _ _ rA).2
          rw [oG,Du,uF]at this;exact this
        refine⟨_,run_beginRound (P:=G.P) Th (by rw [<-zU]), ?_⟩;have uy:=Pn (e':=some .normal) FW rA;rw [oG,Du]at uy;have iW:recAt rec (some .normal) = {rec with state := .busy}:=by rw [<-zU];rfl
        rw [iW]at uy;refine ih (some st.c.nk) yl body _ _ A4 hk R' (Z'++s.d.map aQ) (some l) n2 Fa _ _ uy (Jx.kU h1 h2 h3 (λ_ _=>rfl)) ⟨by rw [oG],Nat.lt_of_lt_of_le Jz h1.k⟩ _ ?_;intro e s2 vn ta a4 w4 Bv _ g1 g2 g3 Px;have q1:s.c.le s2.c:=an.le_trans h1 g1;have q2:Env.au s.c ar vn:=Env.ae h1 h2 g2;have q3:∀k,k<s.c.nk->ta k=aQ k:=λk hk=>(g3 k (Nat.lt_of_lt_of_le hk h1.k)).trans (h3 k hk);split at Bv;rotate_left
        · exact Bv.elim
        rename_i rB;obtain⟨rB,JA⟩:=rB;have Py:ta st.c.nk=l:=(q3 _ Jz).trans uG
        have Ti:w4.heap[l]? = some (.loop (recAt rec (some .normal))):=by
          have:=(Px.fb _ _ rB).2
          rw [Py,Du]at this;exact this
        have again:∀(x:Option Ex),Core W R' Z' vn ta {t:=s.t,n:=s.n,m:=s2.m,c:=s2.c,o:=s2.o,r:=kP s2.r st.c.nk x,d:=s.d,k:=s2.k,df:=s.df} a2 (w4.putObj l (.loop (recAt rec x))):=by
          intro x;have Pz:=Pn (e':=x) (Px.drop JA) rB;rw [Py,Du]at Pz;exact FL cV (s' := {s2 with r:=kP s2.r st.c.nk x}) Pz q1 q2 q3
        have zZ:∀(jump:Option Code),(Instr.endRound l jump).run G.P w4=.ok (.bool jump.isNone) (w4.putObj l (.loop {rec with state:=if jump.isNone then .ready else .done,pending:=jump})):=λjump=>by
          have:=run_endRound (P:=G.P) jump Ti
          rw [this];simp only [recAt]
        cases e with
        |normal =>
          refine⟨_,_,zZ none,_,rfl, ?_⟩
          have:=ke (.cv (.one (.bool (.lit true)))) _ vn ta _ Bv rfl (by simp) q1 q2 q3 (again none)
          rw [<-zU]at this ⊢;exact this
        |ret =>
          refine⟨_,_,zZ (some .ret),_,rfl, ?_⟩
          have:=ke (.cv (.one (.bool (.lit false)))) _ vn ta _ Bv rfl (by simp) q1 q2 q3 (again (some .ret))
          rw [<-zU]at this ⊢;exact this
        |iC i=>exact Bv.elim
        |exit id =>
          refine⟨_,_,zZ (some (.exit id)),_,rfl, ?_⟩
          have:=ke (.cv (.one (.bool (.lit false)))) _ vn ta _ Bv rfl (by simp) q1 q2 q3 (again (some (.exit id)))
          rw [<-zU]at this ⊢;exact this
  |_=>exact h.elim
theorem Dv{G:bY}(hG:G.Ok)(hD:uE G W Q QM QP):∀ (n:Nat) (rd:Option Nat) (yl:Yl (Env->Prop)) (c:Code) (st:St) (K:Ex->St->Env->Prop) (J:Env),exec (PA G.P W Q QM QP) G n rd yl c st K J ->
    ∀(R:Nat->Loop) (Z:List Nat) (r:Option Nat) (m:Nat) (β:Nat->Nat) (a:Act) (w:World),Core W R Z J β st a w->mR G.P W R st.c J β yl->kE rd r st β->∀Q':Exit->Act->World->Prop,l7 W R Z st J β K Q'->c.wpIn (Fr r) m G.P Q' a w
  |0,rd,yl,c,st,K,J,h,_,_,_,_,_,_,_,_,_,_,_,_=>h.elim
  |n+1,rd,yl,c,st,K,J,h,R,Z,r,m,β,a,w,hC,hY,nF,Q',hn=>by
    have ih:=Dv hG hD n;have here:∀(e:Ex),e.ok st.c->K e st J->Q' (e.to J) a w:=λe ho hk=>hn e st J β a w hk ho (an.le_refl _) (Env.ah _ _) (λ_ _=>rfl) hC;unfold exec at h;unfold tX tZ at h;rw [Hn]at h;cases c with
    |skip=>exact wpIn_skip (here .normal trivial h)
    |label l=>exact wpIn_label (here .normal trivial h)
    |ret=>exact wpIn_ret (here .ret trivial h)
    |exit id=>exact wpIn_exit (here (.exit id) trivial h)
    |region id ops draw =>
      have nx:tt W R Z st J β (K .normal) (Q' .normal):=λs ar aQ a2 w2 hk h1 h2 h3 cV=>hn .normal s ar aQ a2 w2 hk trivial h1 h2 h3 cV
      have Tj:rp G W R Z st.c J β Q' (fun f args s K'=>match G.P.funcs[f]? with
          |none => (PA G.P W Q QM QP).fail "inline: no such function"
          |some fn=>match fn.body with
            |none => (PA G.P W Q QM QP).fail "inline: no body"
            |some b =>
              exec (PA G.P W Q QM QP) G n none yl b {t:=(List.range args.length).zip args,n:=args.length+(fn.ntmps-args.length),m:=s.m,c:=s.c,o:=s.o,r:=s.r,d := [],k:=s.k} λe s' =>
                leave (PA G.P W Q QM QP) G (exec (PA G.P W Q QM QP) G n none yl) fn e s' (λv s2=>K' v (St.prune s.c.nk v {t:=s.t,n:=s.n,m:=s2.m,c:=s2.c,o:=s2.o,r:=s2.r,d:=s.d,k:=s2.k,df:=s.df}))
                  λi s2=>K (.iC i) {t:=s.t,n:=s.n,m:=s2.m,c:=s2.c,o:=s2.o,r:=s2.r,d:=s.d,k:=s2.k,df:=s.df}):=by
        intro f args s K' aM hi hw gU fP eA a1 w1 gd nE next' ke
        generalize hf:G.P.funcs[f]? = u at hi;cases u with
        |none=>exact hi.elim
        |some fn =>
          simp only at hi;generalize hb:fn.body=u at hi;cases u with
          |none=>exact hi.elim
          |some b =>
            refine FM (n:=0) hf hb ?_;refine ih none yl b _ _ aM hi R (Z++s.d.map eA) none 0 eA _ w1 (O7 (n:=fn.ntmps) nE hw) (hY.kU gU fP gd (λ_ _=>rfl)) rfl _ ?_;intro e s' aa ag a' w' hk i_ h1 h2 h3 FW
            have fin:=Jc (Z:=Z++s.d.map eA) hG (c0:=st.c) (cM:=J) (bh:=β) (λc Dw K2 ar hx g1 g2 m2 aQ a2 w2 g3 g4 Q2 g5=>ih none yl c Dw K2 ar hx R _ none m2 aQ a2 w2 g4 (hY.kU g1 g2 g3 (λ_ _=>rfl)) rfl Q2 g5) hk (an.le_trans gU h1) (Env.ae gU fP h2)
              (λk hk=>(h3 k (Nat.lt_of_lt_of_le hk gU.k)).trans (gd k hk)) FW i_ 0 (T:=λe w'=>match e with
                | .returned v=>next' v w'
                | .panicked ch=>Q' (.panic ch) a1 w'
                | .outgrown=>False)
              (λv s2 ar aQ w2 g_ ri zO q1 q2 q3 uy=>by
                have Tl:=FL nE uy (an.le_trans h1 q1) (Env.ae h1 h2 q2) (λk hk=>(q3 k (Nat.lt_of_lt_of_le hk h1.k)).trans (h3 k hk));have C7:=Tl.prune s.c.nk v;exact ke v _ ar aQ w2 g_ (by rw [St.ry];exact ri) zO (by rw [St.ry];exact an.le_trans h1 q1) (Env.ae h1 h2 q2) (λk hk=>(q3 k (Nat.lt_of_lt_of_le hk h1.k)).trans (h3 k hk)) C7)
              (λi s2 ar aQ w2 g_ sL q1 q2 q3 uy=>by
                have l1:s.c.le s2.c:=an.le_trans h1 q1;have l2:Env.au s.c aM ar:=Env.ae h1 h2 q2;have l3:∀k,k<s.c.nk->aQ k=eA k:=λk hk=>(q3 k (Nat.lt_of_lt_of_le hk h1.k)).trans (h3 k hk);exact hn (.iC i) _ ar aQ a1 w2 g_ sL (an.le_trans gU l1) (Env.ae gU fP l2) (λk hk=>(l3 k (Nat.lt_of_lt_of_le hk gU.k)).trans (gd k hk)) (FL nE uy l1 l2 l3))
            cases e with
            |exit id=>exact (fin.1 id rfl).elim
            |normal=>exact fin.2
            |ret=>exact fin.2
            |iC i=>exact fin.2
      have hI:rp G W R Z st.c J β Q' (vX (PA G.P W Q QM QP) G n (exec (PA G.P W Q QM QP) G n) yl K):=by
        intro f args s K' aM hi;refine Tj f args s K' aM ?_
        have hi:qv (PA G.P W Q QM QP) G (exec (PA G.P W Q QM QP) G n) yl K f args s K' aM:=by
          unfold vX at hi;generalize Tm:G.rX=sl at hi;cases sl with
          |nil =>
            simp only at hi;generalize G.marks=ml at hi;cases ml with
            |nil=>exact hi
            |cons x ml =>
              simp only at hi;generalize (x::ml).contains f=b at hi;cases b with
              |true=>exact hi
              |false=>exact hi
          |cons x sl =>
            simp only at hi;generalize xD:iL n f args s (x::sl)=u at hi;cases u with
            |none=>exact hi
            |some e =>
              obtain⟨h1,rfl,rfl,rfl,rfl⟩:=Hd xD;rw [hG.rX e (Tm▸h1)];exact hi
        unfold qv at hi;simp only [Hj,St.norm_eq]at hi;exact hi
      have hP:rq W R Z st.c J β Q' (λi s=>K (.iC i) s):=λi s ar hk hi h1 h2 aQ a2 w2 h3 cV=>hn (.iC i) s ar aQ a2 w2 hk hi h1 h2 h3 cV
      have qB:rd.isNone=true->r=none:=λh=>by
        cases rd with
        |none=>exact nF
        |some k=>cases h
      cases draw with
      |true=>exact hD R Z r m _ yl _ _ id ops st _ J h β a w hC Q' hI hY qB hP _ (λ_ _ q=>q) nx
      |false=>exact wpIn_region_list (I2 (I6 hG hI hY qB hP) ops.toList st J h (an.le_refl _) (Env.ah _ _) β a w (λ_ _=>rfl) hC _ (λ_ _ q=>q) nx)
    |seq x y =>
      refine wpIn_seq (ih rd yl x st _ J h R Z r m β a w hC hY nF _ ?_);intro e s ar aQ a2 w2 hk ho h1 h2 h3 cV;cases e with
      |normal=>exact ih rd yl y s K ar hk R Z r m aQ a2 w2 cV (hY.kU h1 h2 h3 (λ_ _=>rfl)) (nF.kU h1 h3) Q' (hn.kU h1 h2 h3)
      |exit id=>exact hn (.exit id) s ar aQ a2 w2 hk ho h1 h2 h3 cV
      |ret=>exact hn .ret s ar aQ a2 w2 hk ho h1 h2 h3 cV
      |iC i=>exact hn (.iC i) s ar aQ a2 w2 hk ho h1 h2 h3 cV
    |cond o x y =>
      cases o with
      |tmp d =>
        simp only at h;generalize hg:aq st.t d=sv at h;split at h
        · rename_i e;split at h
          · rename_i hd
            have he:a.eval (.tmp d)=.bool (e.den J):=by
              have:=hC.eval (.tmp d) (by show aq st.t d≠_;rw [hg];simp)
              rw [this];show (aq st.t d).den J β=_;rw [hg];rfl
            rcases zq h with ⟨hb,h⟩|⟨hb,h⟩<;>rw [St.norm_eq]at h
            · exact wpIn_cond_true (by rw [he,hb]) (ih rd yl x _ K J h R Z r m β a w (hC.cQ hg hb) hY nF Q' (hn.st rfl))
            · exact wpIn_cond_false (by rw [he,hb]) (ih rd yl y _ K J h R Z r m β a w (hC.cQ hg hb) hY nF Q' (hn.st rfl))
          · exact h.elim
        · exact h.elim
      |const v =>
        cases v with
        |bool t =>
          cases t with
          |true=>exact wpIn_cond_true rfl (ih rd yl x st K J h R Z r m β a w hC hY nF Q' hn)
          |false=>exact wpIn_cond_false rfl (ih rd yl y st K J h R Z r m β a w hC hY nF Q' hn)
        |_=>exact h.elim
      |_=>exact h.elim
    |block id b =>
      refine wpIn_block (ih rd yl b st _ J h R Z r m β a w hC hY nF _ ?_);intro e s ar aQ a2 w2 hk ho h1 h2 h3 cV;cases e with
      |normal=>exact hn .normal s ar aQ a2 w2 hk ho h1 h2 h3 cV
      |ret=>exact hn .ret s ar aQ a2 w2 hk ho h1 h2 h3 cV
      |iC i=>exact hn (.iC i) s ar aQ a2 w2 hk ho h1 h2 h3 cV
      |exit i =>
        simp only at hk;simp only [Ex.to,Exit.inBlock];by_cases hi:i=id
        · rw [if_pos hi]at hk ⊢;exact hn .normal s ar aQ a2 w2 hk trivial h1 h2 h3 cV
        · rw [if_neg hi]at hk ⊢;exact hn (.exit i) s ar aQ a2 w2 hk trivial h1 h2 h3 cV
    |scope b =>
      simp only at h;split at h
      · rename_i dq;subst dq;have hr:r=none:=nF;subst hr;refine wpIn_wide.2 (wp_scope_straight (wpIn_wide (n:=m).1 (ih none yl b st _ J h R Z none m β a w hC hY rfl _ ?_)));intro e s ar aQ a2 w2 hk ho h1 h2 h3 cV
        have:=hn e s ar aQ a2 w2 hk ho h1 h2 h3 cV
        cases e<;>exact this
      · exact h.elim
    |loop b =>
      have plain:jZ (PA G.P W Q QM QP) (exec (PA G.P W Q QM QP) G n rd yl b) K n st J->(Code.loop b).wpIn (Fr r) m G.P Q' a w:=by
        intro h;refine wpIn_loop_rounds n ?_
        have key:∀(j:Nat) (st:St) (J:Env) (β:Nat->Nat) (a:Act) (w:World),jZ (PA G.P W Q QM QP) (exec (PA G.P W Q QM QP) G n rd yl b) K j st J->Core W R Z J β st a w->mR G.P W R st.c J β yl->kE rd r st β->l7 W R Z st J β K Q'->Code.roundsIn (Fr r) m G.P b Q' j a w:=by
          intro j
          induction j with
          |zero=>intro st J β a w h _ _ _ _;exact h.elim
          |succ j Tn =>
            intro st J β a w h hC hY nF hn;refine ih rd yl b st _ J h R Z r m β a w hC hY nF _ ?_;intro e s ar aQ a2 w2 hk ho h1 h2 h3 cV;cases e with
            |normal =>
              simp only [St.vQ]at hk;exact Tn _ ar aQ a2 w2 hk cV.tG (hY.kU h1 h2 h3 (λ_ _=>rfl)) (nF.kU h1 h3) (hn.kU h1 h2 h3)
            |exit id=>exact hn (.exit id) s ar aQ a2 w2 hk ho h1 h2 h3 cV
            |ret=>exact hn .ret s ar aQ a2 w2 hk ho h1 h2 h3 cV
            |iC i=>exact hn (.iC i) s ar aQ a2 w2 hk ho h1 h2 h3 cV
        exact key n st J β a w h hC hY nF hn
      simp only at h;generalize hh:(G.loops.lookup (keyOf b)).bind (LH.parts st.m)=hint at h;split at h
      · rename_i oX cells aW kill;generalize Xa:n9 st cells=u1 at h;generalize Dh:gO st.t aW=u2 at h;split at h
        · rename_i fc vs;generalize PB:oX++fc=free at h;generalize JB:i6 st.m st.o free=u3 at h;split at h
          · exact h.elim
          · rename_i ms;generalize rk:dX st.o (vs.flatMap CV.cells++ms)=u4 at h;split at h
            · exact h.elim
            · rename_i ks;split at h;rotate_left
              · exact h.elim
              rename_i Dx;obtain⟨Inv,μ,h0,bQ⟩:=h;have hle:=vo ks st.c
              have uH:∀{k},aD (bI st.o (aG (vs.flatMap CV.cells++ms))) k≠none->k<st.c.nk:=λ{k} hk=>by
                rw [vz]at hk;split at hk
                · exact (hk rfl).elim
                · cases hg:aD st.o k with
                  |none=>exact (hk hg).elim
                  |some x=>have:=(hC.wf.o k x.1 x.2.1 x.2.2 hg).1;omega
              generalize Dy:((aG (ao st.c ks)).zip (aG (vs.flatMap CV.cells++ms))).filter (λp=>(qZ G st (keyOf b)).contains p.2 || isMap st.o p.2)=ij at bQ
              have Dz:∀{k},aD (aV st.c ks) k≠none->st.c.nk<=k:=λ{k} hk=>by
                cases hg:aD (aV st.c ks) k with
                |none=>exact (hk hg).elim
                |some y=>exact (Br ks st.c hg).1
              have sN:∀p∈ij,p∈(aG (ao st.c ks)).zip (aG (vs.flatMap CV.cells++ms)):=λp hp=>by
                rw [<-Dy]at hp;exact (List.mem_filter.1 hp).1
              have DA:(ij.map (·.2)).Nodup:=by
                rw [<-Dy]
                have sub:∀(l:List (Nat × Nat)) (f:Nat × Nat->Bool),(l.map (·.2)).Nodup->((l.filter f).map (·.2)).Nodup:=by
                  intro l f h;exact (List.Sublist.map _ (List.filter_sublist)).nodup h
                refine sub _ _ ?_
                have zs:∀(x y:List Nat),y.Nodup->((x.zip y).map (·.2)).Nodup:=by
                  intro x
                  induction x with
                  |nil=>intro y _;simp
                  |cons a x To =>
                    intro y hy;cases y with
                    |nil=>simp
                    |cons b y =>
                      simp only [List.nodup_cons]at hy;simp only [List.zip_cons_cons,List.map_cons,List.nodup_cons];refine⟨λhm => ?_,To y hy.2⟩;obtain⟨q,hq,he⟩:=List.mem_map.1 hm;exact hy.1 (he▸(List.of_mem_zip hq).2)
                exact zs _ _ Dx
              have uC:∀{k},getM st.m k=none->getM (bH st.m free ((ao st.c ks).drop (vs.flatMap CV.cells).length)) k=none:=λ{k} hk=>by
                cases hg:getM (bH st.m free ((ao st.c ks).drop (vs.flatMap CV.cells).length)) k with
                |none=>rfl
                |some x =>
                  obtain⟨og,h1,_,_⟩:=vC free st.m _ (show _=some (x.1,x.2) from hg);rw [hk]at h1;cases h1
              have stat:∀p∈ij,st.c.nk<=p.1/\p.2+3<st.c.nk/\getM st.m p.2=none/\aD (aV st.c ks++bI st.o (aG (vs.flatMap CV.cells++ms))) p.2=none:=λp hp=>by
                obtain⟨WX,s_,_,_,_,_,_,_,q7,q8,_⟩:=Dc (aV st.c ks) st.o J β ks st.c β _ (λ_ _ h=>h) bQ rk;obtain⟨_,n0,ce,sz,t,_,g2,_⟩:=q7 p (sN p hp);have g3:=hC.wf.o p.2 ce sz t g2;refine⟨q8 p.1 (List.of_mem_zip (sN p hp)).1,g3.1,hC.wf.ap p.2 _ g2, ?_⟩;simp only [Bt];cases hg:aD (aV st.c ks) p.2 with
                |some y=>have:=Dz (k:=p.2) (by rw [hg];simp);omega
                |none =>
                  simp only;rw [vz,if_pos (List.of_mem_zip (sN p hp)).2]
              have z6:∀ {xp:Env} {k9:Nat->Nat} {a1:Act} {w1:World},Core W R Z xp k9 {t:=cO (dY st.t kill) aW vs (ao st.c ks),n:=st.n,m:=bH st.m free ((ao st.c ks).drop (vs.flatMap CV.cells).length),c:=aK st.c ks,o:=aV st.c ks++bI st.o (aG (vs.flatMap CV.cells++ms)),r:=st.r,d:=st.d,k:=st.k,df:=st.df} a1 w1 ->
                  (∀p∈ij,k9 p.1=k9 p.2/\k9 (p.1+1)=k9 (p.2+1)/\k9 (p.1+2)=k9 (p.2+2)/\k9 (p.1+3)=k9 (p.2+3)) ->
                  Core W R Z xp k9 (iy ij {t:=cO (dY st.t kill) aW vs (ao st.c ks),n:=st.n,m:=bH st.m free ((ao st.c ks).drop (vs.flatMap CV.cells).length),c:=aK st.c ks,o:=aV st.c ks++bI st.o (aG (vs.flatMap CV.cells++ms)),r:=st.r,d:=st.d,k:=st.k,df:=st.df}) a1 w1:=λhc hb =>
                Pk ij hc (λp hp=>by
                  obtain⟨s1,s2,s3,s4⟩:=stat p hp;exact⟨by omega,hb p hp,uC s3,s4,Nat.lt_of_lt_of_le s2 hle.k⟩) DA
              obtain⟨f1,f2,f3,f4,f5,f6,f7⟩:=Pj ij {t:=cO (dY st.t kill) aW vs (ao st.c ks),n:=st.n,m:=bH st.m free ((ao st.c ks).drop (vs.flatMap CV.cells).length),c:=aK st.c ks,o:=aV st.c ks++bI st.o (aG (vs.flatMap CV.cells++ms)),r:=st.r,d:=st.d,k:=st.k,df:=st.df}
              have fS:∀i,i ∉ aW->aq (iy ij {t:=cO (dY st.t kill) aW vs (ao st.c ks),n:=st.n,m:=bH st.m free ((ao st.c ks).drop (vs.flatMap CV.cells).length),c:=aK st.c ks,o:=aV st.c ks++bI st.o (aG (vs.flatMap CV.cells++ms)),r:=st.r,d:=st.d,k:=st.k,df:=st.df}).t i=aq (cO (dY st.t kill) aW vs (ao st.c ks)) i:=λi hi=>by
                refine Pl ij _ λp hp he => ?_;have jx:aq (cO (dY st.t kill) aW vs (ao st.c ks)) i=.cv (.one (.own p.1)):=he;rw [De _ _ _ _ hi]at jx
                have hw:(aq (dY st.t kill) i).wf st.c=true:=by
                  rcases FP st.t i kill with h|h<;>rw [h]
                  · rfl
                  · exact hC.wf.t i
                rw [jx]at hw;have Tp:(decide (p.1+3<st.c.nk))=true:=hw
                have:=(stat p hp).1
                simp only [decide_eq_true_eq]at Tp;omega
              have fO:∀{k x},aD (bI st.o (aG (vs.flatMap CV.cells++ms))) k=some x->aD (iy ij {t:=cO (dY st.t kill) aW vs (ao st.c ks),n:=st.n,m:=bH st.m free ((ao st.c ks).drop (vs.flatMap CV.cells).length),c:=aK st.c ks,o:=aV st.c ks++bI st.o (aG (vs.flatMap CV.cells++ms)),r:=st.r,d:=st.d,k:=st.k,df:=st.df}).o k=some x/\k ∉ ij.map (·.2):=λ{k x} hx=>by
                have z7:=uH (k:=k) (by rw [hx];simp)
                have PC:∀p∈ij,k≠p.1/\k≠p.2:=λp hp=>by
                  obtain⟨s1,s2,s3,s4⟩:=stat p hp;refine⟨by omega,λe => ?_⟩;subst e;rw [vz,if_pos (List.of_mem_zip (sN p hp)).2]at hx;cases hx
                refine⟨?_,λhm => ?_⟩
                · rw [Pm ij _ (λp hp => ?_) DA]
                  · simp only [Bt];cases hg:aD (aV st.c ks) k with
                    |none=>exact hx
                    |some y=>have:=Dz (k:=k) (by rw [hg];simp);omega
                  · obtain⟨s1,s2,s3,s4⟩:=stat p hp;exact⟨by omega,s4,PC p hp⟩
                · obtain⟨p,hp,he⟩:=List.mem_map.1 hm;exact (PC p hp).2 he.symm
              generalize Tq:iy ij {t:=cO (dY st.t kill) aW vs (ao st.c ks),n:=st.n,m:=bH st.m free ((ao st.c ks).drop (vs.flatMap CV.cells).length),c:=aK st.c ks,o:=aV st.c ks++bI st.o (aG (vs.flatMap CV.cells++ms)),r:=st.r,d:=st.d,k:=st.k,df:=st.df}=yR at bQ z6 fS fO f1 f2 f3 f4 f5 f6 f7
              refine wpIn_loop_ghost (λk a w=>∃mW te,Inv ((ao st.c ks).map (vl (aV st.c ks) mW))/\μ ((ao st.c ks).map (vl (aV st.c ks) mW))=k/\Env.au st.c J mW/\(∀j,j<st.c.nk->te j=β j) /\
                Core W R Z mW te yR a w /\
                exec (PA G.P W Q QM QP) G n rd yl b yR (λe s=>match e with
                  | .normal=>match gO s.t aW,i6 s.m s.o free with
                    |some i7,some kR =>
                      if oa yR s aW free ((aV st.c ks).map (·.1)++ij.map (·.2))=true/\((aG (ao st.c ks)).zip (aG (i7.flatMap CV.cells++kR))).all (fun p=>ij.all fun q=>q.1 != p.1 || q.2 == p.2)=true/\i7.map CV.shape=vs.map CV.shape/\dX s.o (i7.flatMap CV.cells++kR)=some ks/\(aG (i7.flatMap CV.cells++kR)).Nodup /\
                          (aG (i7.flatMap CV.cells++kR)).all (λk=>(aV st.c ks).any (λx=>x.1 == k) || (bI st.o (aG (vs.flatMap CV.cells++ms))).all λx=>x.1 != k)=true then
                        (λI=>Inv ((i7.flatMap CV.cells++kR).map (vl s.o I))/\μ ((i7.flatMap CV.cells++kR).map (vl s.o I))<μ ((ao st.c ks).map (vl (aV st.c ks) mW)))
                      else (PA G.P W Q QM QP).fail "loop: not the same"
                    |_, _ => (PA G.P W Q QM QP).fail "loop: values"
                  |e=>K e s) mW) (μ ((vs.flatMap CV.cells++ms).map (vl st.o J))) ?_ ?_
              · obtain⟨mW,te,q1,q2,q3,q4,q5,q6,q7,q8,q9⟩:=Dc (aV st.c ks) st.o J β ks st.c β _ (λ_ _ h=>h) bQ rk;refine⟨mW,te,by rw [q5];exact h0,by rw [q5],q2,q3,z6 ?_ (λp hp => ?_),q1 (by rw [q5];exact h0)⟩;rotate_left
                · obtain⟨⟨g0,g1,g2,g3⟩,_⟩:=q7 p (sN p hp);have s2:=(stat p hp).2.1;rw [g0,g1,g2,g3,q3 _ (by omega),q3 _ (by omega),q3 _ (by omega),q3 _ (by omega)];exact⟨rfl,rfl,rfl,rfl⟩
                refine Dg hC.wf hC.kn hC (Env.ah _ _) q2 q3 Dh Dh rfl JB q4 ⟨rfl,rfl,rfl,rfl⟩ (λi hi => ?_) (λk kb t hg => ?_) q6 q7 Dx (λk x hx => ?_) (λk hk => ?_)
                · rw [De _ _ _ _ hi];rcases FP st.t i kill with h|h
                  · exact .inl h
                  · exact .inr h.symm
                · obtain⟨og,p1,p2,p3⟩:=vC free st.m _ hg;exact⟨og,p1,p2,p3⟩
                · rw [vz]at hx;split at hx
                  · cases hx
                  · exact hx
                · rw [vz,if_pos hk]
              · intro k a1 w1 hI;obtain⟨mW,te,hinv,Tr,PD,JC,Ts,hex⟩:=hI;have eJ:st.c.le yR.c:=by rw [f2];exact hle
                refine ih rd yl b _ _ mW hex R Z r m te a1 w1 Ts (hY.kU eJ PD JC (λ_ _=>rfl)) (nF.kU eJ JC) _ ?_;intro e s ar aQ a2 w2 hk ho h1 h2 h3 cV;have l2:Env.au st.c J ar:=Env.ae eJ PD h2;have b2:∀j,j<st.c.nk->aQ j=β j:=λj hj=>(h3 j (Nat.lt_of_lt_of_le hj eJ.k)).trans (JC j hj);cases e with
                |exit id=>exact hn (.exit id) s ar aQ a2 w2 hk ho (an.le_trans eJ h1) l2 b2 cV
                |ret=>exact hn .ret s ar aQ a2 w2 hk ho (an.le_trans eJ h1) l2 b2 cV
                |iC i=>exact hn (.iC i) s ar aQ a2 w2 hk ho (an.le_trans eJ h1) l2 b2 cV
                |normal =>
                  simp only at hk;generalize nD:gO s.t aW=u5 at hk;generalize JD:i6 s.m s.o free=u6 at hk;split at hk
                  · rename_i i7 kR;split at hk
                    · rename_i gv;obtain⟨c1,Tt,c2,c3,c4,c5⟩:=gv;obtain⟨sL,cw⟩:=hk;obtain⟨s1,s2,s3,s4⟩:=S6 c1;rw [f3,f4,f5,f7]at s1;rw [f1]at s3;obtain⟨xp,k9,q1,q2,q3,q4,q5,q6,q7,q8,q9⟩:=Dc (aV st.c ks) s.o ar aQ ks st.c aQ _ (λ_ _ h=>h) bQ c3;refine⟨μ ((i7.flatMap CV.cells++kR).map (vl s.o ar)),Tr▸cw,xp,k9,by rw [q5];exact sL,by rw [q5],q2,λj hj=>(q3 j hj).trans (b2 j hj),z6 ?_ (λp hp => ?_),q1 (by rw [q5];exact sL)⟩;rotate_left
                      · obtain⟨y,hy⟩:=Jj _ _ q6 p.1 (List.of_mem_zip (sN p hp)).1
                        have hyp:p.2=y:=by
                          have h7:=List.all_eq_true.1 (List.all_eq_true.1 Tt (p.1,y) hy) p hp;simpa using h7
                        subst hyp;obtain⟨⟨g0,g1,g2,g3⟩,_⟩:=q7 _ hy;simp only at g0 g1 g2 g3;have s2:=(stat p hp).2.1;rw [g0,g1,g2,g3,q3 _ (by omega),q3 _ (by omega),q3 _ (by omega),q3 _ (by omega)];exact⟨rfl,rfl,rfl,rfl⟩
                      refine Dg hC.wf hC.kn cV l2 q2 q3 Dh nD c2 JD q4 s1 (λi hi => ?_) s3 q6 q7 c4 (λk x hx => ?_) (λk hk => ?_)
                      · rw [<-fS i hi];exact s2 i hi
                      · obtain⟨g1,g2⟩:=fO hx;have z7:=uH (k:=k) (by rw [hx];simp);refine s4 k x g1 λfQ => ?_;rcases List.mem_append.1 fQ with fQ|fQ;rotate_left
                        · exact g2 fQ
                        obtain⟨y,hy,rfl⟩:=List.mem_map.1 fQ
                        have:∀(l:List CK) (c:an),(∀y∈aV c l,c.nk<=y.1):=by
                          intro l
                          induction l with
                          |nil=>intro c y hy;cases hy
                          |cons kd l ih =>
                            intro c y hy;have tl:y∈aV (aS c kd) l->c.nk<=y.1:=λhy=>Nat.le_trans (Jg c kd) (ih _ y hy)
                            cases kd<;>first
                              |exact tl hy
                              |skip
                            simp only [aV,List.mem_cons]at hy;rcases hy with rfl|hy
                            · exact Nat.le_refl _
                            · exact tl hy
                        have:=this ks st.c y hy
                        omega
                      · have:=List.all_eq_true.1 c5 k hk
                        simp only [Bool.or_eq_true,List.any_eq_true,beq_iff_eq,List.all_eq_true,bne_iff_ne,ne_eq]at this;rcases this with ⟨y,hy,he⟩|h
                        · cases hg:aD (bI st.o (aG (vs.flatMap CV.cells++ms))) k with
                          |none=>rfl
                          |some x =>
                            have h5:=uH (k:=k) (by rw [hg];simp)
                            have:∀(l:List CK) (c:an),(∀y∈aV c l,c.nk<=y.1):=by
                              intro l
                              induction l with
                              |nil=>intro c y hy;cases hy
                              |cons kd l ih =>
                                intro c y hy;have tl:y∈aV (aS c kd) l->c.nk<=y.1:=λhy=>Nat.le_trans (Jg c kd) (ih _ y hy)
                                cases kd<;>first
                                  |exact tl hy
                                  |skip
                                simp only [aV,List.mem_cons]at hy;rcases hy with rfl|hy
                                · exact Nat.le_refl _
                                · exact tl hy
                            have:=this ks st.c y hy
                            omega
                        · cases hg:aD (bI st.o (aG (vs.flatMap CV.cells++ms))) k with
                          |none=>rfl
                          |some x=>exact (h _ (FT hg) rfl).elim
                    · exact hk.elim
                  · exact hk.elim
        · exact h.elim
      · exact plain h
    |rangeFunc g ps assign body=>exact S' hG ih (show exec (PA G.P W Q QM QP) G (n+1) rd yl (.rangeFunc g ps assign body) st K J by unfold exec;unfold tX tZ;rw [Hn];exact h) hC hY nF hn
    |_=>exact h.elim
end Vc
set_option linter.unusedVariables false
namespace Vc
open Go Go.RowKit
variable {P:Program} {W:dN} {Q:Value->Prop} {QM QP:World->Value->Prop}
inductive om(J:Env)(s:St):St->Prop
 |refl:om J s s
 |cQ (x:Nat) (b:Bool) (e:BE) (h:aq s.t x=.cv (.one (.bool e))) (hb:e.den J=b):om J s (s.cQ x b)
def dj(ops:Array Oper)(J:Env)(s:St)(o:Oper)(b:Bool):Prop :=
 match o.guard with
 |none=>b=true
 |some (j,want)=>∃x,(ops[j]?).bind (·.dst)=some x/\((∃e,aq s.t x=.cv (.one (.bool e))/\(e.den J == want)=b)∨(aq s.t x=.fJ/\b=false))
structure Bw(s1:St)(o:Oper)(s':St)(sv:SV)(C:List Nat):Prop where
 n:s'.n=s1.n
 rs:s'.r=s1.r
 ds:s'.d=s1.d
 FC:s1.c.le s'.c
 wf:s'.WF
 slot:∀t,aq s'.t t=if o.dst=some t then sv else aq s1.t t
 dst:∀d,o.dst=some d->d<s1.n
 lt:∀k∈C,k<s1.c.nk
 same:∀k,k<s1.c.nk->k ∉ C->aC s'.m s'.o k=aC s1.m s1.o k
 FB:s'.df=s1.df
theorem gS.eM{s1 s':St}{o:Oper}{J:Env}{sv:SV}{C:List Nat}(h:gS P W s1 o J s' sv C):Bw s1 o s' sv C :=
 ⟨h.n,h.rs,h.ds,h.FC,h.wf,h.slot,h.dst,λk hk=>(h.Ie k hk).2,h.same,h.FB⟩
theorem PE{s1:St}{o:Oper}(hw:s1.WF)(hp:iw s1 o.dst .fJ s1.c):Bw s1 o (s1.bM o.dst .fJ s1.c) .fJ []:=by
 obtain⟨q1,q2,q3,q4,q5,q6⟩:=zu s1 o.dst .fJ s1.c;exact⟨q3,q5,q6,by rw [q1];exact an.le_refl _,CT hw (an.le_refl _) hp,λt=>zl _ _ _ _ t,λd hd=>(hp d hd).1,λk hk=>(by cases hk),λk _ _=>(by rw [q2,q4]),(zk _ _ _ _).2⟩
inductive tv(P:Program)(W:dN)(ops:Array Oper)(J:Env)(eB:Nat->Prop)(i:Nat)(rd wr:List (Nat × Nat))(s:St)(o:Oper):St->SV->List Nat->Prop
 |skip (s1:St) (k:om J s s1) (w:dj ops J s o false) (p:iw s1 o.dst .fJ s1.c):tv P W ops J eB i rd wr s o (s1.bM o.dst .fJ s1.c) .fJ []
 |run (s1 s':St) (sv:SV) (C:List Nat) (k:om J s s1) (w:dj ops J s o true) (nd:∀c,o.op ≠ .defer c) (f:gS P W s1 o J s' sv C) (h1:∀k∈aP s1 o++aL s1 o++cN s1 o,eB k) (h2:∀x,o.dst=some x->∀k∈dW sv,eB k)
   (h4:∀k∈aP s1 o,(k,i)∈rd) (h5:∀k∈aL s1 o,(k,i)∈wr):tv P W ops J eB i rd wr s o s' sv C
theorem om.c{J:Env}{s s1:St}(h:om J s s1):s1.c=s.c/\s1.m=s.m/\s1.n=s.n/\s1.o=s.o/\s1.r=s.r/\s1.d=s.d:=by cases h<;>exact⟨rfl,rfl,rfl,rfl,rfl,rfl⟩
theorem om.k{J:Env}{s s1:St}(h:om J s s1):s1.k=s.k/\s1.df=s.df:=by cases h<;>exact⟨rfl,rfl⟩
theorem tv.kn{ops:Array Oper}{J:Env}{eB:Nat->Prop}{i:Nat}{rd wr:List (Nat × Nat)}{s s':St}{o:Oper}{sv:SV}{C:List Nat}(h:tv P W ops J eB i rd wr s o s' sv C)(hk:bK.den s.k J):bK.den s'.k J:=by
 cases h with
 |skip s1 k w p=>rw [(zk _ _ _ _).1,k.k.1];exact hk
 |run s1 _ _ _ k w nd f=>exact f.kn (by rw [k.k.1];exact hk)
theorem om.wf{J:Env}{s s1:St}(h:om J s s1)(hw:s.WF):s1.WF:=by
  cases h with
  |refl=>exact hw
  |cQ x b e h hb =>
    refine⟨λi => ?_,hw.m,hw.o,hw.ap,hw.r,hw.d,hw.k,hw.df⟩;simp only [St.cQ,zi];by_cases hi:x=i
    · rw [if_pos hi];rfl
    · rw [if_neg hi];exact hw.t i
theorem tv.eM{ops:Array Oper}{J:Env}{eB:Nat->Prop}{i:Nat}{rd wr:List (Nat × Nat)}{s s':St}{o:Oper}{sv:SV}{C:List Nat}(hw:s.WF)(h:tv P W ops J eB i rd wr s o s' sv C):∃s1,om J s s1/\Bw s1 o s' sv C:=by
 cases h with
 |skip s1 k w p=>exact⟨s1,k,PE (k.wf hw) p⟩
 |run s1 _ _ _ k w nd f=>exact⟨s1,k,f.eM⟩
def ee(J:Env)(x y:SV):Prop:=x=y∨∃e b,x=.cv (.one (.bool e))/\y=.cv (.one (.bool (.lit b)))/\e.den J=b
theorem ee.trans{J:Env}{x y z:SV}(h:ee J x y)(h':ee J y z):ee J x z:=by
 rcases h with rfl|⟨e,b,rfl,rfl,hb⟩
 ·exact h'
 ·rcases h' with rfl|⟨e',b',he,rfl,eG⟩
  ·exact .inr ⟨e,b,rfl,rfl,hb⟩
  ·cases he;exact .inr ⟨e,b',rfl,rfl,hb.trans eG⟩
theorem ee.any{J:Env}{x y:SV}(h:ee J x y)(hy:y ≠ .any):x ≠ .any:=by
 rcases h with rfl|⟨e,b,rfl,rfl,hb⟩
 ·exact hy
 ·simp
theorem ee.JE{J:Env}{x y:SV}(h:ee J x y)(hx:x ≠ .any):y ≠ .any:=by
 rcases h with rfl|⟨e,b,rfl,rfl,hb⟩
 ·exact hx
 ·simp
theorem ee.den{J:Env}{x y:SV}(h:ee J x y)(β:Nat->Nat):x.den J β=y.den J β:=by
 rcases h with rfl|⟨e,b,rfl,rfl,hb⟩
 ·rfl
 ·simp only [SV.den,CV.den,At.den,BE.den,hb]
theorem ee.ids{J:Env}{x y:SV}(h:ee J x y){k:Nat}(hk:k∈dW y):k∈dW x:=by
 rcases h with rfl|⟨e,b,rfl,rfl,hb⟩
 ·exact hk
 ·simp [dW,CV.cells,aE]at hk
theorem om.same{J:Env}{s s1:St}(h:om J s s1)(t:Nat):ee J (aq s.t t) (aq s1.t t):=by
  cases h with
  |refl=>exact .inl rfl
  |cQ x b e hx hb =>
    simp only [St.cQ,zi];by_cases ht:x=t
    · subst ht;rw [if_pos rfl];exact .inr ⟨e,b,hx,rfl,hb⟩
    · rw [if_neg ht];exact .inl rfl
theorem FX(a:At)(l:List At):aE (a::l)=aE [a]++aE l:=by
 cases a<;>simp [aE]
theorem JF(x y:List At):aE (x++y)=aE x++aE y:=by
 induction x with
 |nil=>rfl
 |cons a x ih=>rw [List.cons_append,FX,ih,FX a x,List.append_assoc]
theorem FY{β ag:Nat->Nat}{l:List (Nat × Nat)}(h:∀k∈l.map (·.1),ag k=β k):(l.map λc=>(.pointer (some ⟨ag c.1,c.2,none⟩):Value))=l.map λc=>.pointer (some ⟨β c.1,c.2,none⟩) :=
 List.map_congr_left λc hc=>by rw [h c.1 (List.mem_map.2 ⟨c,hc,rfl⟩)]
theorem aJ.ir{J:Env}{β ag:Nat->Nat}{a:aJ}(h:∀k∈a.ids,ag k=β k):a.den J ag=a.den J β:=by
 cases a<;>first
  |rfl
  |skip
 case gZ k o l m=>simp only [aJ.den];rw [h k (by simp [aJ.ids])]
 case own k=>simp only [aJ.den];rw [h k (by simp [aJ.ids]),h (k+1) (by simp [aJ.ids]),h (k+2) (by simp [aJ.ids]),h (k+3) (by simp [aJ.ids])]
theorem At.ir{J:Env}{β ag:Nat->Nat}:∀{a:At},(∀k∈aE [a],ag k=β k)->a.den J ag=a.den J β:=by
 intro a h;cases a
 case own k=>show cj _ _ _ _=cj _ _ _ _;rw [h k (by simp [aE]),h (k+1) (by simp [aE]),h (k+2) (by simp [aE]),h (k+3) (by simp [aE])]
 case oE k=>simp only [At.den];rw [h k (by simp [aE]),h (k+1) (by simp [aE]),h (k+2) (by simp [aE])]
 case fn f az =>
  simp only [At.den];rw [FY λk hk=>h k (by simp only [aE,List.append_nil];exact hk)]
 case kM f first az =>
  simp only [At.den];rw [FY (l:=first) λk hk=>h k (by simp only [aE,List.append_nil];exact List.mem_append.2 (.inl hk)),FY (l:=az) λk hk=>h k (by simp only [aE,List.append_nil];exact List.mem_append.2 (.inr hk))]
 case oU f first az =>
  simp only [At.den];rw [FY (l:=az) λk hk=>h k (by simp only [aE,List.append_nil];exact List.mem_append.2 (.inr hk))]
  have:first.map (aJ.den J ag)=first.map (aJ.den J β):=List.map_congr_left λx hx=>aJ.ir λk hk=>h k (by
   simp only [aE,List.append_nil];exact List.mem_append.2 (.inl (List.mem_flatMap.2 ⟨x,hx,hk⟩)))
  rw [this]
 all_goals first
  |rfl
  | (simp only [At.den];rw [h _ (by simp [aE];done)])
theorem PF{a:At}{k:Nat}:∀{l:List At},a∈l->k∈aE [a]->k∈aE l
  |b::l,h,hk=>by
    rw [FX];rcases List.mem_cons.1 h with rfl|h
    · exact List.mem_append.2 (.inl hk)
    · exact List.mem_append.2 (.inr (PF h hk))
theorem FZ{J:Env}{β ag:Nat->Nat}{l:List At}(h:∀k∈aE l,ag k=β k):l.map (At.den J ag)=l.map (At.den J β) :=
 List.map_congr_left λa ha=>At.ir λk hk=>h k (PF ha hk)
theorem SV.ir{J:Env}{β ag:Nat->Nat}:∀{x:SV},(∀k∈dW x,ag k=β k)->x.den J ag=x.den J β
  | .any,_=>rfl
  | .fJ,_=>rfl
  | .cv (.one a),h=>At.ir h
  | .cv (.agg l),h=>by simp only [SV.den,CV.den];rw [FZ (l:=l) h]
  | .kx l,h=>by
    simp only [SV.den];congr 2;apply List.map_congr_left;intro c hc
    have hm:∀k∈aE c.cells,ag k=β k:=λk hk=>h k (by
      simp only [dW]
      have:∀(l1:List CV),c∈l1->k∈aE (l1.flatMap CV.cells):=by
        intro l1 h1
        induction l1 with
        |nil=>cases h1
        |cons d l1 ih =>
          rw [List.flatMap_cons,JF];rcases List.mem_cons.1 h1 with rfl|h1
          · exact List.mem_append.2 (.inl hk)
          · exact List.mem_append.2 (.inr (ih h1))
      exact this l hc)
    cases c with
    |one a=>exact At.ir hm
    |agg l=>simp only [CV.den];rw [FZ (l:=l) hm]
theorem JG{J:Env}{β ag:Nat->Nat}:∀{l:CE},(∀k∈l.flatMap cc,ag k=β k)->ak J ag l=ak J β l
  | [],_=>rfl
  | .cE l::r,h=>by
    simp only [ak,Sg.den];rw [FZ (l:=l) λk hk=>h k (by rw [List.flatMap_cons];exact List.mem_append.2 (.inl hk)),JG (l:=r) λk hk=>h k (by rw [List.flatMap_cons];exact List.mem_append.2 (.inr hk))]
  | .var i::r,h=>by
    simp only [ak,Sg.den];rw [JG (l:=r) λk hk=>h k (by rw [List.flatMap_cons];exact List.mem_append.2 (.inr hk))]
def dp(k:Nat):oF->List Nat
 | .fix .. => [k]
 | .row .. => [k,k+1,k+2,k+3]
theorem Holds.uI{J:Env}{β ag:Nat->Nat}{k:Nat}{w w':World}:∀ {e:oF},Holds W J β k e w->(∀ j∈dp k e,ag j=β j)->(∀ j∈dP e,ag j=β j) ->
    (∀b,bu β k e=some b->w'.heap[b]? = w.heap[b]?)->Holds W J ag k e w'
  | .fix cs t,h,hs,hi,hh=>by
    have h0:ag k=β k:=hs k (by simp [dp]);refine⟨by rw [h0];exact h.1, ?_⟩;rw [h0,FZ hi,hh _ rfl];exact h.2
  | .row ce sz t,h,hs,hi,hh=>by
    simp only [Holds]at h ⊢;rw [hs k (by simp [dp]),hs (k+1) (by simp [dp]),hs (k+2) (by simp [dp]),hs (k+3) (by simp [dp]),JG hi];exact h.heap λh2=>hh (β k) (by simp only [bu,h2,if_true])
theorem JH{β ag:Nat->Nat}{k:Nat}:∀{e:oF},(∀j∈dp k e,ag j=β j)->bu ag k e=bu β k e
 | .fix ..,hb=>by simp only [bu,hb k (by simp [dp])]
 | .row ..,hb=>by simp only [bu,hb k (by simp [dp]),hb (k+1) (by simp [dp])]
theorem F0{ops:Array Oper}{listed:Array Bool}(iD:∀ j oj,ops[j]? = some oj->listed.getD j false=true->∀ e∈oj.after,Region.binds .any e=true->listed.getD e.on false=true) :
    ∀(d i j:Nat) (o:Oper),ops[i]? = some o->(∀e∈o.after,Region.binds .any e=true->listed.getD e.on false=true)->reach ops d i j=true->listed.getD j false=true
  |0,i,j,o,ho,hi,h=>by cases h
  |d+1,i,j,o,ho,hi,h=>by
    simp only [reach,direct,ho,Bool.or_eq_true,Array.any_eq_true']at h;rcases h with ⟨e,he,hb⟩|⟨e,he,hb⟩
    · simp only [Bool.and_eq_true,decide_eq_true_eq]at hb;rw [<-hb.2];exact hi e he hb.1
    · simp only [Bool.and_eq_true]at hb;cases mz:ops[e.on]? with
      |none =>
        cases d with
        |zero=>simp [reach]at hb
        |succ d=>simp [reach,direct,mz]at hb
      |some o'=>exact F0 iD d e.on j o' mz (λe' jx eG=>iD e.on o' mz (hi e he hb.1) e' jx eG) hb.2
def mA(listed:Array Bool):Nat->Nat
 |0=>0
 |m+1=>mA listed m+if listed.getD m false=true then 0 else 1
theorem DB{listed:Array Bool}:∀{m:Nat},mA listed m=0->∀j,j<m->listed.getD j false=true
  |0,_,j,hj=>by omega
  |m+1,h,j,hj=>by
    simp only [mA]at h;by_cases hm:listed.getD m false=true
    · rw [if_pos hm]at h;by_cases JI:j=m
      · subst JI;exact hm
      · exact DB (by omega) j (by omega)
    · rw [if_neg hm]at h;omega
theorem F1{listed:Array Bool}:∀{m:Nat},0<mA listed m->∃j,j<m/\listed.getD j false=false/\∀i,i<j->listed.getD i false=true
  |0,h=>by simp [mA]at h
  |m+1,h=>by
    simp only [mA]at h;by_cases hp:0<mA listed m
    · obtain⟨j,h1,h2⟩:=F1 hp;exact⟨j,by omega,h2⟩
    · by_cases hm:listed.getD m false=true
      · rw [if_pos hm]at h;omega
      · exact⟨m,by omega,by simpa using hm,λi hi=>DB (by omega) i hi⟩
theorem xN(listed:Array Bool)(i j:Nat)(hi:i<listed.size):(listed.setIfInBounds i true).getD j false=if i=j then true else listed.getD j false:=by
 simp only [Array.getD_eq_getD_getElem?,Array.getElem?_setIfInBounds];by_cases h:i=j
 ·subst h;simp [hi]
 ·simp [h]
theorem F3{listed:Array Bool}{i:Nat}(hi:i<listed.size)(hl:listed.getD i false=false):∀m,mA (listed.setIfInBounds i true) m+(if i<m then 1 else 0)=mA listed m
  |0=>by simp [mA]
  |m+1=>by
    have ih:=F3 hi hl m;simp only [mA,xN listed i m hi];by_cases F4:i=m
    · subst F4;rw [if_pos rfl,hl];simp at ih ⊢;omega
    · rw [if_neg F4];by_cases h2:i<m
      · have h3:i<m+1:=by omega
        simp only [h2,if_true]at ih;simp only [h3,if_true];omega
      · have h3:¬i<m+1:=by omega
        simp only [h2,if_false]at ih;simp only [h3,if_false];omega
end Vc
set_option linter.unusedVariables false
namespace Vc
open Go Go.RowKit
variable {P:Program} {W:dN} {R:Nat->Loop} {Z:List Nat}
def laid(sts:Nat->St)(m k:Nat):Prop:=(sts m).c.nk<=k/\k<(sts (m+1)).c.nk
def rC(sts:Nat->St)(cs:Nat->List Nat)(m k:Nat):Prop:=k∈cs m∨laid sts m k
structure Way(P:Program)(W:dN)(ops:Array Oper)(n:Nat)(J:Env)(sts:Nat->St)(gg:Nat->SV)(cs:Nat->List Nat)(rd wr:List (Nat × Nat)):Prop where
 le:n<=ops.size
 wf:∀i,i<=n->(sts i).WF
 DC:∀i o,i<n->ops[i]? = some o->tv P W ops J (λk=>∀m,m<i->laid sts m k->reach ops 3 i m=true) i rd wr (sts i) o (sts (i+1)) (gg i) (cs i)
 apart:∀k i j,((k,i)∈rd∨(k,i)∈wr)->(k,j)∈wr->i=j∨(j<i/\nZ ops i j=true)∨(i<j/\nZ ops j i=true)
 rows:∀i,i<=n->∀k ce sz t,aC (sts i).m (sts i).o k=some (.row ce sz t)->∀m,m<n->∀d,d<4->laid sts m (k+d)->laid sts m k
theorem DD{c:an}:∀{l:List At},l.all (At.wf c)=true->∀k∈aE l,k<c.nk
  | [],_,k,h=>by cases h
  |a::l,hw,k,h=>by
    simp only [List.all_cons,Bool.and_eq_true]at hw;rw [FX]at h;replace h:=List.mem_append.1 h;rcases h with h|h
    · have rD:=hw.1
      have az:∀{x:List (Nat × Nat)},(x.all λy=>decide (y.1<c.nk))=true->k∈x.map (·.1)->k<c.nk:=λhx hk=>by
        obtain⟨y,hy,rfl⟩:=List.mem_map.1 hk;simpa using List.all_eq_true.1 hx y hy
      cases a<;>simp only [aE,List.mem_cons,List.not_mem_nil,or_false,List.append_nil]at h
      case own j=>simp only [At.wf,decide_eq_true_eq]at rD;omega
      case omap j=>simp only [At.wf,decide_eq_true_eq]at rD;omega
      case oE j=>simp only [At.wf,decide_eq_true_eq]at rD;omega
      case fn f cp=>exact az rD h
      case kM f fi cp =>
        have tu:((fi.all λx=>decide (x.1<c.nk)) && cp.all λx=>decide (x.1<c.nk))=true:=rD;simp only [Bool.and_eq_true]at tu;rcases List.mem_append.1 h with h|h
        · exact az tu.1 h
        · exact az tu.2 h
      case oU f fi cp =>
        have tu:((fi.all λx=>x.wf c) && cp.all λx=>decide (x.1<c.nk))=true:=rD;simp only [Bool.and_eq_true]at tu;rcases List.mem_append.1 h with h|h
        · obtain⟨x,hx,hk⟩:=List.mem_flatMap.1 h;have FF:=List.all_eq_true.1 tu.1 x hx;cases x<;>simp only [aJ.ids,List.mem_cons,List.not_mem_nil,or_false]at hk
          · simp only [aJ.wf,decide_eq_true_eq]at FF;omega
          · simp only [aJ.wf,decide_eq_true_eq]at FF;omega
        · exact az tu.2 h
      all_goals (subst h;simp only [At.wf,Bool.and_eq_true,decide_eq_true_eq]at rD;first|exact rD|exact rD.1)
    · exact DD hw.2 k h
theorem xO{c:an}{x:SV}(h:x.wf c=true):∀k∈dW x,k<c.nk:=by
  cases x with
  |any=>intro k hk;cases hk
  |fJ=>intro k hk;cases hk
  |cv v=>exact DD (CV.di h)
  |kx l =>
    refine DD (c:=c) ?_;refine List.all_eq_true.2 λa ha => ?_;obtain⟨v,hv,Tu⟩:=List.mem_flatMap.1 ha;exact List.all_eq_true.1 (CV.di (List.all_eq_true.1 h v hv)) a Tu
theorem JJ{st:St}(h:st.WF){o:Oper}:∀k∈cN st o,k<st.c.nk:=by
 intro k hk;unfold cN at hk;split at hk
 ·exact xO (h.ev _) k hk
 ·exact xO (h.ev _) k hk
 ·exact (List.mem_append.1 hk).elim (xO (h.ev _) k) (xO (h.ev _) k)
 ·exact (List.mem_append.1 hk).elim (xO (h.ev _) k) (xO (h.ev _) k)
 ·obtain⟨p,_,hp⟩:=List.mem_flatMap.1 hk;exact xO (h.ev _) k hp
 ·cases hk
section
variable {ops:Array Oper} {n:Nat} {J:Env} {sts:Nat->St} {gg:Nat->SV} {cs:Nat->List Nat} {rd wr:List (Nat × Nat)}
theorem Way.get(hw:Way P W ops n J sts gg cs rd wr){i:Nat}(hi:i<n):∃o,ops[i]? = some o:=⟨ops[i]'(Nat.lt_of_lt_of_le hi hw.le),Array.getElem?_eq_getElem _⟩
theorem Way.eM(hw:Way P W ops n J sts gg cs rd wr){i:Nat}{o:Oper}(hi:i<n)(ho:ops[i]? = some o):∃s1,om J (sts i) s1/\Bw s1 o (sts (i+1)) (gg i) (cs i):=(hw.DC i o hi ho).eM (hw.wf i (by omega))
theorem Way.step(hw:Way P W ops n J sts gg cs rd wr){i:Nat}{o:Oper}(hi:i<n)(ho:ops[i]? = some o) :
  (sts (i+1)).n=(sts i).n/\(sts (i+1)).r=(sts i).r/\(sts (i+1)).d=(sts i).d/\(sts i).c.le (sts (i+1)).c/\(∀t,o.dst≠some t->ee J (aq (sts i).t t) (aq (sts (i+1)).t t)) /\
   (∀t,o.dst=some t->aq (sts (i+1)).t t=gg i)/\(∀d,o.dst=some d->d<(sts i).n)/\(∀k∈cs i,k<(sts i).c.nk)/\(∀k,k<(sts i).c.nk->k ∉ cs i->aC (sts (i+1)).m (sts (i+1)).o k=aC (sts i).m (sts i).o k):=by
 obtain⟨s1,hk,h⟩:=hw.eM hi ho;obtain⟨k1,k2,k3,k4,k5,k6⟩:=hk.c;refine⟨h.n.trans k3,h.rs.trans k5,h.ds.trans k6,by rw [<-k1];exact h.FC,λt ht => ?_,λt ht=>by rw [h.slot,if_pos ht],λd hd=>by rw [<-k3];exact h.dst d hd,λk hk=>by rw [<-k1];exact h.lt k hk,λk hk hc=>by rw [h.same k (by rw [k1];exact hk) hc,k2,k4]⟩;rw [h.slot,if_neg ht];exact hk.same t
theorem Way.nk(hw:Way P W ops n J sts gg cs rd wr):∀(j i:Nat),i<=j->j<=n->(sts i).c.nk<=(sts j).c.nk
  | 0, i, h, _ => by obtain rfl:i=0:=by omega
                     exact Nat.le_refl _
  |j+1,i,h,hj=>by
    by_cases hi:i=j+1
    · subst hi;exact Nat.le_refl _
    · obtain⟨o,ho⟩:=hw.get (i:=j) (by omega);exact Nat.le_trans (hw.nk j i (by omega) (by omega)) (hw.step (by omega) ho).2.2.2.1.k
theorem Way.n0(hw:Way P W ops n J sts gg cs rd wr):∀j,j<=n->(sts j).n=(sts 0).n/\(sts j).r=(sts 0).r/\(sts j).d=(sts 0).d/\(sts 0).c.le (sts j).c
  |0,_=>⟨rfl,rfl,rfl,an.le_refl _⟩
  |j+1,hj=>by
    obtain⟨o,ho⟩:=hw.get (i:=j) (by omega);obtain⟨h1,h2,h3,h4,_⟩:=hw.step (by omega) ho;obtain⟨g1,g2,g3,g4⟩:=hw.n0 j (by omega);exact⟨h1.trans g1,h2.trans g2,h3.trans g3,an.le_trans g4 h4⟩
theorem Way.kn(hw:Way P W ops n J sts gg cs rd wr)(h0:bK.den (sts 0).k J):∀j,j<=n->bK.den (sts j).k J
  |0,_=>h0
  |j+1,hj=>by
    obtain⟨o,ho⟩:=hw.get (i:=j) (by omega);exact (hw.DC j o (by omega) ho).kn (hw.kn h0 j (by omega))
theorem Way.df(hw:Way P W ops n J sts gg cs rd wr):∀j,j<=n->(sts j).df=(sts 0).df
  |0,_=>rfl
  |j+1,hj=>by
    obtain⟨o,ho⟩:=hw.get (i:=j) (by omega);obtain⟨s1,hk,h⟩:=hw.eM (by omega) ho;exact h.FB.trans (hk.k.2.trans (hw.df j (by omega)))
theorem Way.same(hw:Way P W ops n J sts gg cs rd wr){t:Nat}:∀(j i:Nat),i<=j->j<=n->(∀m,i<=m->m<j->∀o,ops[m]? = some o->o.dst≠some t)->ee J (aq (sts i).t t) (aq (sts j).t t)
  | 0, i, h, _, _ => by obtain rfl:i=0:=by omega
                        exact .inl rfl
  |j+1,i,h,hj,hd=>by
    by_cases hi:i=j+1
    · subst hi;exact .inl rfl
    · obtain⟨o,ho⟩:=hw.get (i:=j) (by omega);exact (hw.same j i (by omega) (by omega) (λm h1 h2=>hd m h1 (by omega))).trans ((hw.step (by omega) ho).2.2.2.2.1 t (hd j (by omega) (by omega) o ho))
theorem Way.eE(hw:Way P W ops n J sts gg cs rd wr){m k:Nat}(hm:m<n)(h:¬rC sts cs m k):aC (sts (m+1)).m (sts (m+1)).o k=aC (sts m).m (sts m).o k:=by
 obtain⟨o,ho⟩:=hw.get hm;by_cases hk:k<(sts m).c.nk
 ·exact (hw.step hm ho).2.2.2.2.2.2.2.2 k hk λhc=>h (.inl hc)
 ·have g_:(sts (m+1)).c.nk<=k:=by
   rcases Nat.lt_or_ge k (sts (m+1)).c.nk with h'|h'
   ·exact (h (.inr ⟨by omega,h'⟩)).elim
   ·exact h'
  rw [(hw.wf (m+1) (by omega)).beyond g_,(hw.wf m (by omega)).beyond (by omega)]
theorem Way.chain(hw:Way P W ops n J sts gg cs rd wr){k:Nat}:∀(j i:Nat),i<=j->j<=n->(∀m,i<=m->m<j->¬rC sts cs m k)->aC (sts j).m (sts j).o k=aC (sts i).m (sts i).o k
  | 0, i, h, _, _ => by obtain rfl:i=0:=by omega
                        rfl
  |j+1,i,h,hj,hd=>by
    by_cases hi:i=j+1
    · subst hi;rfl
    · rw [hw.eE (by omega) (hd j (by omega) (by omega))];exact hw.chain j i (by omega) (by omega) (λm h1 h2=>hd m h1 (by omega))
theorem Way.cls(hw:Way P W ops n J sts gg cs rd wr){m k:Nat}(hm:m<n)(h:k∈cs m):(k,m)∈wr/\k<(sts m).c.nk/\∀i,i<m->laid sts i k->reach ops 3 m i=true:=by
  obtain⟨o,ho⟩:=hw.get hm;have hl:=(hw.step hm ho).2.2.2.2.2.2.2.1 k h;have hf:=hw.DC m o hm ho;generalize hC:cs m=C at hf h;generalize hS:gg m=sv at hf;generalize hs:sts (m+1)=s' at hf;cases hf with
  |skip=>cases h
  |run s1 _ _ _ kn w nd f h1 h2 h4 h5 =>
    have F5:=(f.Ie k h).1;exact⟨h5 k F5,hl,h1 k (List.mem_append.2 (.inl (List.mem_append.2 (.inr F5))))⟩
theorem Way.dst(hw:Way P W ops n J sts gg cs rd wr){i:Nat}{o:Oper}(hi:i<n)(ho:ops[i]? = some o){x:Nat}(hx:o.dst=some x){k:Nat}(hk:k∈dW (gg i)){m:Nat}(hm:m<i)(hl:laid sts m k):reach ops 3 i m=true:=by
 have hf:=hw.DC i o hi ho;generalize hC:cs i=C at hf;generalize hS:gg i=sv at hf hk;generalize hs:sts (i+1)=s' at hf;cases hf with
 |skip=>cases hk
 |run s1 _ _ _ kn w nd f h1 h2 h4 h5=>exact h2 x hx k hk m hm hl
theorem zw(h:dz ops=true){i:Nat}{o:Oper}(ho:ops[i]? = some o) :
  (∀e∈o.after,Region.binds .any e=true->e.on<i)/\∀j p,ops[j]? = some p ->
   ∀d,p.dst=some d->(i=j∨o.dst≠some d)/\(d∈o.looksAt ops->(j<i/\direct ops i j=true)∨(i<j/\direct ops j i=true)):=by
 have hi:i<ops.size:=(Array.getElem?_eq_some_iff.1 ho).1;have h1:=List.all_eq_true.1 h i (List.mem_range.2 hi);simp only [ho,Bool.and_eq_true]at h1;refine⟨λe he hb => ?_,λj p hp d hd => ?_⟩
 ·have:=Array.all_eq_true_iff_forall_mem.1 h1.1 e he
  simpa [hb]using this
 ·have hj:j<ops.size:=(Array.getElem?_eq_some_iff.1 hp).1;have h2:=List.all_eq_true.1 h1.2 j (List.mem_range.2 hj);simp only [hp,hd,Bool.and_eq_true,decide_eq_true_eq,Bool.or_eq_true,Bool.not_eq_true']at h2;refine⟨h2.1,λhm => ?_⟩;rcases h2.2 with (h4|h4)|h4
  ·rw [List.contains_iff_mem.2 hm]at h4;cases h4
  ·exact .inl h4
  ·exact .inr h4
def cut(n:Nat)(sts:Nat->St)(cs:Nat->List Nat)(listed:Array Bool)(k i:Nat):Prop:=∀m,m<n->rC sts cs m k->(m<i↔listed.getD m false=true)
structure Inv(W:dN)(R:Nat->Loop)(Z:List Nat)(ops:Array Oper)(n:Nat)(J:Env)(sts:Nat->St)(cs:Nat->List Nat)(a0:Act)(bh:Nat->Nat)(listed:Array Bool)(a:Act)(w:World)(β:Nat->Nat):Prop where
 pv:listed.size=ops.size
 closed:∀j oj,ops[j]? = some oj->listed.getD j false=true->∀e∈oj.after,Region.binds .any e=true->listed.getD e.on false=true
 only:∀j,n<=j->listed.getD j false=false
 size:a.tmps.size=(sts 0).n
 ja:a.defers=fm bh (sts 0).df++marksOf bh (sts 0).d
 below:cS W w
 s2:∀t i o,i<n->ops[i]? = some o->o.dst=some t->listed.getD i false=true->aq (sts n).t t ≠ .any->a.tmps[t]? = some ((aq (sts n).t t).den J β)
 s3:∀t,(∀i o,i<n->ops[i]? = some o->o.dst=some t->listed.getD i false=false)->a.tmps[t]? = a0.tmps[t]?
 mem:∀k i,i<=n->cut n sts cs listed k i->∀e,aC (sts i).m (sts i).o k=some e->Holds W J β k e w
 JK:∀k i,i<=n->cut n sts cs listed k i->∀e,aC (sts i).m (sts i).o k=some e->∀x∈dP e,∀m,m<n->laid sts m x->listed.getD m false=true
 inj:∀k k' i i',i<=n->i'<=n->cut n sts cs listed k i->cut n sts cs listed k' i'->∀e e' b,aC (sts i).m (sts i).o k=some e->aC (sts i').m (sts i').o k'=some e'->bu β k e=some b->bu β k' e'=some b->k=k'
 fb:∀k e,eC (sts 0).r k=some e->w.heap[bh k]? = some (.loop (recAt (R k) e))
 fR:∀b∈Z++(sts 0).d.map bh,w.heap[b]? = some (.deferred (some []))
 agree:∀k,k<(sts 0).c.nk->β k=bh k
theorem JL(hw:Way P W ops n J sts gg cs rd wr)(hd:dz ops=true){a0 a:Act}{bh β:Nat->Nat}{w0 w:World}(hC:Core W R Z J bh (sts 0) a0 w0){listed:Array Bool}
    (inv:Inv W R Z ops n J sts cs a0 bh listed a w β) {i:Nat} {o:Oper} (hi:i<n) (ho:ops[i]? = some o) (fF:listed.getD i false=false) (hr:∀e∈o.after,Region.binds .any e=true->listed.getD e.on false=true) {t:Nat} (ht:t∈o.looksAt ops) (hn:aq (sts i).t t ≠ .any) :
    a.tmps[t]? = some ((aq (sts i).t t).den J β):=by
  obtain⟨_,zQ⟩:=zw hd ho
  have early:(∀m o',m<n->ops[m]? = some o'->o'.dst=some t->listed.getD m false=false)->ee J (aq (sts 0).t t) (aq (sts i).t t)->a.tmps[t]? = some ((aq (sts i).t t).den J β):=λh1 fC=>by
    rw [inv.s3 t h1,hC.tmps t (fC.any hn),<-fC.den,SV.U (Env.ah _ J) inv.agree (hC.wf.t t)]
  by_cases hx:∃(j:Nat) (p:Oper),ops[j]? = some p/\p.dst=some t
  · obtain⟨j,p,hp,pT⟩:=hx
    have one:∀m q,ops[m]? = some q->q.dst=some t->m=j:=λm q hq z8=>by
      rcases ((zw hd hq).2 j p hp t pT).1 with h4|h4
      · exact h4
      · exact (h4 z8).elim
    obtain⟨_,h2⟩:=zQ j p hp t pT;rcases h2 ht with ⟨PG,uJ⟩|⟨sP,uJ⟩
    · have kg:listed.getD j false=true:=by
        simp only [direct,ho,Array.any_eq_true',Bool.and_eq_true,decide_eq_true_eq]at uJ;obtain⟨e,he,hb,rfl⟩:=uJ;exact hr e he hb
      have fC:ee J (aq (sts i).t t) (aq (sts n).t t):=hw.same n i (by omega) (Nat.le_refl _) λm h1 h3 q hq z8=>by
        have:=one m q hq z8;omega
      rw [inv.s2 t j p (by omega) hp pT kg (fC.JE hn),fC.den]
    · have Tv:listed.getD j false=false:=by
        cases kg:listed.getD j false with
        |false=>rfl
        |true =>
          simp only [direct,hp,Array.any_eq_true',Bool.and_eq_true,decide_eq_true_eq]at uJ;obtain⟨e,he,hb,rfl⟩:=uJ;rw [inv.closed j p hp kg e he hb]at fF;cases fF
      refine early (λm o' _ hm he=>by rw [one m o' hm he];exact Tv) (hw.same i 0 (by omega) (by omega) λm h1 h3 q hq z8 => ?_)
      have:=one m q hq z8;omega
  · have pw:∀(m:Nat) (o':Oper),ops[m]? = some o'->o'.dst≠some t:=λm o' hm he=>hx ⟨m,o',hm,he⟩;exact early (λm o' _ hm he=>(pw m o' hm he).elim) (hw.same i 0 (by omega) (by omega) λm _ _ q hq=>pw m q hq)
theorem JM(hw:Way P W ops n J sts gg cs rd wr)(hd:dz ops=true){a0 a:Act}{bh β:Nat->Nat}{w0 w:World}(hC:Core W R Z J bh (sts 0) a0 w0){listed:Array Bool}
    (inv:Inv W R Z ops n J sts cs a0 bh listed a w β) {i:Nat} {o:Oper} (hi:i<n) (ho:ops[i]? = some o) (fF:listed.getD i false=false) (hr:∀e∈o.after,Region.binds .any e=true->listed.getD e.on false=true) {s1:St} (hk:om J (sts i) s1):dt s1 o J β a:=by
  intro x hx hn;cases x with
  |tmp t =>
    have hs:=hk.same t;have ke:aq s1.t t ≠ .any:=hn
    have:=JL hw hd hC inv hi ho fF hr (t:=t) (by
      simp only [Oper.looksAt,List.mem_append];exact .inl (List.mem_filterMap.2 ⟨.tmp t,Array.mem_toList_iff.2 hx,rfl⟩)) (hs.any ke)
    show a.tmps.getD t undef=_;rw [Array.getD_eq_getD_getElem?,this,Option.getD_some];exact hs.den β
  |const v=>exact ((SV.cm v s1.c J β).2 hn).symm
  |global g=>exact Ic (by rw [hk.k.1];exact hw.kn hC.kn i (by omega)) hn β
  |func f=>rfl
theorem PH(hw:Way P W ops n J sts gg cs rd wr)(hd:dz ops=true){a0 a:Act}{bh β:Nat->Nat}{w0 w:World}(hC:Core W R Z J bh (sts 0) a0 w0){listed:Array Bool}
    (inv:Inv W R Z ops n J sts cs a0 bh listed a w β) {i:Nat} {o:Oper} (hi:i<n) (ho:ops[i]? = some o) (fF:listed.getD i false=false) (hr:∀e∈o.after,Region.binds .any e=true->listed.getD e.on false=true) {b:Bool} (hb:dj ops J (sts i) o b):Region.wanted o (yielded ops a.tmps)=b:=by
  unfold dj at hb;cases hg:o.guard with
  |none=>rw [hg]at hb;simp only at hb;subst hb;simp [Region.wanted,hg]
  |some jw =>
    obtain⟨j,want⟩:=jw;rw [hg]at hb;obtain⟨x,hx,hb⟩:=hb
    have px:x∈o.looksAt ops:=by
      simp only [Oper.looksAt,hg,List.mem_append];exact .inr (by simp [hx])
    rcases hb with ⟨e,he,hb⟩|⟨he,rfl⟩
    · have:=JL hw hd hC inv hi ho fF hr px (by rw [he];simp)
      rw [he]at this;have hy:=I0 (b:=e.den J) hx this;simp only [Region.wanted,hg,hy];exact hb
    · have:=JL hw hd hC inv hi ho fF hr px (by rw [he];simp)
      rw [he]at this;have hy:=I1 hx this;simp [Region.wanted,hg,hy]
theorem DE:∀(l acc:List Nat) {x:Nat},x∈ig acc l->x∈acc∨x∈l
  | [],acc,x,h=>.inl h
  |y::l,acc,x,h=>by
    simp only [ig]at h;rcases DE l _ h with h|h
    · split at h
      · exact .inl h
      · rcases List.mem_cons.1 h with rfl|h
        · exact .inr (by simp)
        · exact .inl h
    · exact .inr (by simp [h])
theorem PI{ops:Array Oper}{listed:Array Bool}{i:Nat}{o:Oper}(ho:ops[i]? = some o)(hi:∀e∈o.after,Region.binds .any e=true->listed.getD e.on false=true):∀j∈cR ops i,listed.getD j false=true:=by
 intro j hj;unfold cR at hj;rw [ho]at hj;obtain⟨e,he,rfl⟩:=List.mem_map.1 hj;obtain⟨h1,h2⟩:=List.mem_filter.1 he;exact hi e (by simpa using h1) h2
theorem PJ{ops:Array Oper}{listed:Array Bool}(iD:∀ j oj,ops[j]? = some oj->listed.getD j false=true->∀ e∈oj.after,Region.binds .any e=true->listed.getD e.on false=true) :
    ∀(d:Nat) (acc:List Nat),(∀j∈acc,listed.getD j false=true)->∀j∈behind ops d acc,listed.getD j false=true
  |0,acc,h,j,hj=>h j hj
  |d+1,acc,h,j,hj=>by
    refine PJ iD d _ (λk hk => ?_) j hj;rcases DE _ _ hk with hk|hk
    · exact h k hk
    · obtain⟨m,hm,F6⟩:=List.mem_flatMap.1 hk;cases ho:ops[m]? with
      |none=>unfold cR at F6;rw [ho]at F6;cases F6
      |some o=>exact PI ho (iD m o ho (h m hm)) k F6
theorem JN{ops:Array Oper}{listed:Array Bool}(iD:∀j oj,ops[j]? = some oj->listed.getD j false=true->∀e∈oj.after,Region.binds .any e=true->listed.getD e.on false=true){i j:Nat}{o:Oper}(ho:ops[i]? = some o)
  (hi:∀e∈o.after,Region.binds .any e=true->listed.getD e.on false=true) (h:A7 ops i j=true):listed.getD j false=true:=by
 unfold A7 at h;generalize hN:10=N at h;have hj:j∈behind ops N (ig [] (cR ops i)):=List.contains_iff_mem.1 h;refine PJ iD N _ (λk hk => ?_) j hj;rcases DE _ _ hk with hk|hk
 ·cases hk
 ·exact PI ho hi k hk
theorem Tw{ops:Array Oper}{i j:Nat}{o:Oper}{listed:Array Bool}(ho:ops[i]? = some o)(hr:∀e∈o.after,Region.binds .any e=true->listed.getD e.on false=true)(h:direct ops i j=true):listed.getD j false=true:=by
 simp only [direct,ho,Array.any_eq_true',Bool.and_eq_true,decide_eq_true_eq]at h;obtain⟨e,he,hb,rfl⟩:=h;exact hr e he hb
theorem PK{ops:Array Oper}{listed:Array Bool}(iD:∀j oj,ops[j]? = some oj->listed.getD j false=true->∀e∈oj.after,Region.binds .any e=true->listed.getD e.on false=true){i j:Nat}{o:Oper}(ho:ops[i]? = some o)
  (hi:∀e∈o.after,Region.binds .any e=true->listed.getD e.on false=true) (h:nZ ops i j=true):listed.getD j false=true:=by
 unfold nZ at h;rcases Bool.or_eq_true _ _▸h with h|h
 ·exact Tw ho hi h
 ·exact JN iD ho hi h
theorem later{a0 a:Act}{bh β:Nat->Nat}{w:World}{listed:Array Bool}(inv:Inv W R Z ops n J sts cs a0 bh listed a w β){i m:Nat}(fF:listed.getD i false=false)(hm:m<ops.size)(h:reach ops 3 m i=true):listed.getD m false=false:=by
  cases uK:listed.getD m false with
  |false=>rfl
  |true =>
    have DF:ops[m]? = some ops[m]:=Array.getElem?_eq_getElem hm;rw [F0 inv.closed 3 m i _ DF (inv.closed m _ DF uK) h]at fF;cases fF
theorem DG{a0 a:Act}{bh β:Nat->Nat}{w:World}{listed:Array Bool}(inv:Inv W R Z ops n J sts cs a0 bh listed a w β){i m:Nat}(fF:listed.getD i false=false)(hm:m<ops.size)(h:nZ ops m i=true):listed.getD m false=false:=by
  cases uK:listed.getD m false with
  |false=>rfl
  |true =>
    have DF:ops[m]? = some ops[m]:=Array.getElem?_eq_getElem hm;rw [PK inv.closed DF (inv.closed m _ DF uK) h]at fF;cases fF
theorem JO(hw:Way P W ops n J sts gg cs rd wr){a0 a:Act}{bh β:Nat->Nat}{w:World}{listed:Array Bool}(inv:Inv W R Z ops n J sts cs a0 bh listed a w β){i:Nat}{o:Oper}(hi:i<n)(ho:ops[i]? = some o)
  (fF:listed.getD i false=false) (hr:∀e∈o.after,Region.binds .any e=true->listed.getD e.on false=true) {k:Nat} (hk:k<(sts i).c.nk) (C0:(k,i)∈rd∨(k,i)∈wr) (hold:∀m,m<i->laid sts m k->reach ops 3 i m=true):cut n sts cs listed k i:=by
 intro m hm ht;have JB:m<ops.size:=Nat.lt_of_lt_of_le hm hw.le;rcases ht with hc|hl
 ·obtain⟨h1,_,_⟩:=hw.cls hm hc;rcases hw.apart k i m C0 h1 with rfl|⟨a1,a2⟩|⟨a1,a2⟩
  ·exact⟨λh=>by omega,λh=>by rw [h]at fF;cases fF⟩
  ·exact⟨λ_=>PK inv.closed ho hr a2,λ_=>a1⟩
  ·refine⟨λh=>by omega,λh => ?_⟩;rw [DG inv fF JB a2]at h;cases h
 ·refine⟨λh=>F0 inv.closed 3 i m o ho hr (hold m h hl),λh => ?_⟩;rcases Nat.lt_or_ge m i with h'|h'
  ·exact h'
  ·have:=hw.nk m i h' (by omega)
   have:=hl.1
   omega
end
end Vc
