import Derived.Test.YtpfgephckjpcjaaGreatDoorVcM
import Derived.LoopNIn
import Derived.Sort.LoopGhostIn
import Derived.RangeFuncIn
set_option linter.unusedVariables false
set_option linter.unusedSimpArgs false
namespace Vc
open Go Go.RowKit
variable {W:e_} {Q:Value->Prop} {QM QP:World->Value->Prop}
theorem xO(r:List (Nat × Option Ex))(j i:Nat)(v:Option Ex):fI ((j,v)::r) i=if j=i then some v else fI r i:=rfl
theorem Ep:∀(r:List (Nat × Option Ex)) (k i:Nat) (e:Option Ex),fI (mS r k e) i=if k=i then (fI r i).map (λ_=>e)else fI r i
  | [],k,i,e=>by simp [mS,fI]
  | (j,v)::r,k,i,e=>by
    simp only [mS];by_cases hj:j=k
    · subst hj;rw [if_pos rfl,xO,xO];by_cases hi:j=i
      · simp [hi]
      · rw [if_neg hi,if_neg hi,if_neg hi,Ep r j i e,if_neg hi]
    · rw [if_neg hj,xO,xO,Ep r k i e];by_cases hi:j=i
      · rw [if_pos hi,if_pos hi,if_neg (λh=>hj (hi.trans h.symm))]
      · rw [if_neg hi,if_neg hi]
theorem Er:∀(r:List (Nat × Option Ex)) (k i:Nat),fI (mT r k) i=if k=i then none else fI r i
  | [],k,i=>by simp [mT,fI]
  | (j,v)::r,k,i=>by
    simp only [mT];by_cases hj:j=k
    · subst hj;rw [if_pos rfl,Er r j i,xO];by_cases hi:j=i
      · rw [if_pos hi,if_pos hi]
      · rw [if_neg hi,if_neg hi,if_neg hi]
    · rw [if_neg hj,xO,xO,Er r k i];by_cases hi:j=i
      · rw [if_pos hi,if_pos hi,if_neg (λh=>hj (hi.trans h.symm))]
      · rw [if_neg hi,if_neg hi]
section
variable {R:Nat->Loop} {Z:List Nat}
theorem Core.drop{ρ:Env}{β:Nat->Nat}{st:St}{a:Act}{w:World}(hC:Core W R Z ρ β st a w)(qF:st.df=[]):Core W R Z ρ β {st with d := []} {a with defers := []} w :=
 ⟨hC.size,hC.tmps,by simp [gG,marksOf,qF],hC.below,hC.mem,hC.inj,hC.gz,hC.kF,λb hb=>hC.ia b (List.mem_append.2 (.inl (by simpa using hb))),by simpa using (List.nodup_append.1 hC.dn).1,⟨hC.wf.t,hC.wf.m,hC.wf.o,hC.wf.ap,hC.wf.r,λk hk=>(by cases hk),hC.wf.k,hC.wf.df⟩,hC.kn⟩
theorem Holds.put{ρ:Env}{β:Nat->Nat}{k:Nat}{w:World}{e:qB}{c:aw}(h:Holds W ρ β k e w)(hw:po c k e){l:Nat}{r:Loop}(hl:w.heap[l]? = some (.loop r))(o:Obj):Holds W ρ β k e (w.putObj l o):=by
 refine h.jf hw (Env.aq _ _) (λ_ _=>rfl) λb hb=>World.putObj_heap_other λhe => ?_;obtain⟨_,_,c,hc,hd⟩:=h.wg b hb;rw [he,hl]at hc;cases hc;exact hd
theorem dT.putObj{w:World}(h:dT W w){l:Nat}(hl:W.heap.size<=l)(o:Obj):dT W (w.putObj l o) :=
 dT.mk h.os h.tape h.output (by simpa using h.size) λk hk hn=>by rw [World.putObj_heap_other (by omega)];exact h.block k hk hn
theorem Qj{ρ:Env}{β:Nat->Nat}{st:St}{a:Act}{w:World}(hC:Core W R Z ρ β st a w){k:Nat}{e e':Option Ex}(hg:fI st.r k=some e) :
  Core W R Z ρ β {st with r:=mS st.r k e'} a (w.putObj (β k) (.loop (recAt (R k) e'))):=by
 obtain⟨l1,l2⟩:=hC.gz k e hg;refine⟨hC.size,hC.tmps,hC.kQ,dT.putObj hC.below l1 _,λj x hj=>(hC.mem j x hj).put (hC.wf.pq hj) l2 _,hC.inj,λj x hj => ?_,λj j' x x' hj tO he => ?_,λb hb=>⟨(hC.ia b hb).1, ?_⟩,hC.dn,⟨hC.wf.t,hC.wf.m,hC.wf.o,hC.wf.ap,λj x hj => ?_,hC.wf.d,hC.wf.k,hC.wf.df⟩,hC.kn⟩
 ·rw [Ep]at hj;by_cases hk:k=j
  ·subst hk;rw [if_pos rfl,hg]at hj;simp only [Option.map_some,Option.some.injEq]at hj;subst hj;exact⟨l1,World.putObj_heap_same (uw l2)⟩
  ·rw [if_neg hk]at hj;refine⟨(hC.gz j x hj).1, ?_⟩;rw [World.putObj_heap_other λhe=>hk (hC.kF j k x e hj hg he).symm];exact (hC.gz j x hj).2
 ·have f:∀{j x},fI (mS st.r k e') j=some x->∃y,fI st.r j=some y:=λ{j x} hj=>by
   rw [Ep]at hj;by_cases hk:k=j
   ·exact⟨e,hk▸hg⟩
   ·rw [if_neg hk]at hj;exact⟨x,hj⟩
  obtain⟨y,hy⟩:=f hj;obtain⟨y',gv⟩:=f tO;exact hC.kF j j' y y' hy gv he
 ·rw [World.putObj_heap_other λhe => ?_]
  ·exact (hC.ia b hb).2
  ·have:=(hC.ia b hb).2
   rw [he,l2]at this;cases this
 ·rw [Ep]at hj;by_cases hk:k=j
  ·exact hk▸hC.wf.r k e hg
  ·rw [if_neg hk]at hj;exact hC.wf.r j x hj
theorem Qk(ρ:Env)(β:Nat->Nat):∀ (ps:List Tmp) (args:List SV) (t:List (Nat × SV)) (tmps:Array Value),args.length=ps.length->(∀ p∈ps,p < tmps.size) ->
    (∀i,ay t i ≠ .any->tmps[i]? = some ((ay t i).den ρ β))->∀i,ay (nX t ps args) i ≠ .any ->
      ((ps.zip (args.map (SV.den ρ β))).foldl (λ(x:Array Value) (y:Tmp × Value)=>x.setIfInBounds y.1 y.2) tmps)[i]? = some ((ay (nX t ps args) i).den ρ β)
  | [],args,t,tmps,hl,_,h,i,hi=>by
    cases args with
    |nil=>exact h i hi
    |cons _ _=>simp at hl
  |p::ps,[],t,tmps,hl,_,_,_,_=>by simp at hl
  |p::ps,v::args,t,tmps,hl,hp,h,i,hi=>by
    simp only [nX,List.map_cons,List.zip_cons_cons,List.foldl_cons]at hi ⊢;refine Qk ρ β ps args _ _ (by simpa using hl) (λq hq=>by simpa using hp q (by simp [hq])) (λj hj => ?_) i hi;rw [zl]at hj ⊢;by_cases pT:p=j
    · subst pT;rw [if_pos rfl]
      have:=hp p (by simp)
      simp [this]
    · rw [if_neg pT]at hj ⊢;rw [Array.getElem?_setIfInBounds_ne pT];exact h j hj
theorem Ql:∀(l:List (Tmp × Value)) (tmps:Array Value),(l.foldl (λ(x:Array Value) (y:Tmp × Value)=>x.setIfInBounds y.1 y.2) tmps).size=tmps.size
 | [],_=>rfl
 |p::l,tmps=>by rw [List.foldl_cons,Ql l];simp
theorem Qm{c:aw}:∀(ps:List Tmp) (args:List SV) (t:List (Nat × SV)),args.all (SV.wf c)=true->(∀i,(ay t i).wf c=true)->∀i,(ay (nX t ps args) i).wf c=true
  | [],args,t,_,h,i=>by cases args<;>exact h i
  |p::ps,[],t,_,h,i=>h i
  |p::ps,v::args,t,ha,h,i=>by
    simp only [List.all_cons,Bool.and_eq_true]at ha;refine Qm ps args _ ha.2 (λj => ?_) i;rw [zl];by_cases hj:p=j
    · rw [if_pos hj];exact ha.1
    · rw [if_neg hj];exact h j
end
def mK(rd r:Option Nat)(st:St)(β:Nat->Nat):Prop :=
 match rd with
 |none=>r=none
 |some k=>r=some (β k)/\k<st.c.nk
theorem mK.oK{rd r:Option Nat}{st s:St}{β an:Nat->Nat}(h:mK rd r st β)(hc:st.c.le s.c)(hb:∀k,k<st.c.nk->an k=β k):mK rd r s an:=by
 cases rd with
 |none=>exact h
 |some k=>exact⟨by rw [hb k h.2];exact h.1,Nat.lt_of_lt_of_le h.2 hc.k⟩
def wJ(G:bW)(W:e_)(Q:Value->Prop)(QM QP:World->Value->Prop):Prop :=
  ∀(R:Nat->Loop) (Z:List Nat) (r:Option Nat) (n:Nat) (inl:yc (Env->Prop)) (yl:Yl (Env->Prop)) (rG:Bool) (KP:Nat->St->Env->Prop) id ops st (K:St->Env->Prop) ρ,sj (PA G.P W Q QM QP) G inl yl rG KP ops st K ρ->∀β a w,Core W R Z ρ β st a w->∀(Q':Exit->Act->World->Prop),tJ G W R Z st.c ρ β Q' inl->oX G.P W R st.c ρ β yl->(rG=true->r=none)->tK W R Z st.c ρ β Q' KP ->
    ∀(next:Act->World->Prop),(∀a w,next a w->Q' .normal a w)->va W R Z st ρ β K next->(Code.region id ops true).wpIn (Fr r) n G.P Q' a w
def BH(G:bW)(W:e_)(Q:Value->Prop)(QM QP:World->Value->Prop)(n:Nat):Prop :=
  ∀(rd:Option Nat) (yl:Yl (Env->Prop)) (c:Code) (st:St) (K:Ex->St->Env->Prop) (ρ:Env),exec (PA G.P W Q QM QP) G n rd yl c st K ρ ->
    ∀(R:Nat->Loop) (Z:List Nat) (r:Option Nat) (m:Nat) (β:Nat->Nat) (a:Act) (w:World),Core W R Z ρ β st a w->oX G.P W R st.c ρ β yl->mK rd r st β->∀Q':Exit->Act->World->Prop,og W R Z st ρ β K Q'->c.wpIn (Fr r) m G.P Q' a w
theorem Ub{P:Program}{R:Nat->Loop}{Z:List Nat}{rd r:Option Nat}{st:St}{ρ:Env}{β:Nat->Nat}{a:Act}{w:World}(hC:Core W R Z ρ β st a w)(pv:mK rd r st β)(eK:vM st.r rd=true)
    (fn:FuncId) (tmps:Array Value) (ps:Array Tmp) (assign body:Code) :
    ∃l mark w1 D,(Instr.enterLoop fn tmps ps assign body (Fr r).round).run P w=.ok (l,mark) w1/\w1.heap[l]? = some (.loop {state := .ready,pending:=none,fn,tmps,params:=ps,assign,body,defers:=D})/\(∀k,k<w.heap.size->w1.heap[k]? = w.heap[k]?) /\
      w.heap.size<=l/\w1.os=w.os/\w1.tape=w.tape/\w1.output=w.output/\w.heap.size<=w1.heap.size /\
      (rd.isSome=true->mark=[])/\(rd.isSome=false->mark=[{target := .collected w.heap.size,args := #[]}]/\w1.heap[w.heap.size]? = some (.deferred (some []))):=by
  cases rd with
  |none =>
    have hr:r=none:=pv;subst hr;refine⟨_,_,_,w.heap.size,run_enterLoop_outer fn tmps ps assign body, ?_⟩;refine⟨?_,λk hk => ?_,by simp,rfl,rfl,rfl,by simp;omega,(λh=>nomatch h),λ(_:false=false)=>And.intro rfl ?_⟩
    · have:=World.alloc_heap_new (w.alloc (.deferred (some []))) (.loop {state := .ready,pending:=none,fn,tmps,params:=ps,assign,body,defers:=w.heap.size})
      rwa [World.size_alloc]at this
    · rw [Below.heap_alloc _ _ _ (by simp;omega),Below.heap_alloc _ _ _ hk]
    · rw [Below.heap_alloc _ _ _ (by simp)];exact World.alloc_heap_new w _
  |some k =>
    obtain⟨hr,hk⟩:=pv;subst hr;obtain⟨e,he⟩:=Option.isSome_iff_exists.1 eK;have hl:=(hC.gz k e he).2;refine⟨_,_,_,_,run_enterLoop_inner hl fn tmps ps assign body,World.alloc_heap_new w _,λj hj=>Below.heap_alloc _ _ _ hj,Nat.le_refl _,rfl,rfl,rfl,by simp,λ_=>rfl,λh=>(by cases h)⟩
theorem Uc{G:bW}(hG:G.Ok){n:Nat}(ih:BH G W Q QM QP n){rd:Option Nat}{yl:Yl (Env->Prop)}{g:Operand}{ps:Array Tmp}{assign body:Code}{st:St}{K:Ex->St->Env->Prop}{ρ:Env}
    (h:exec (PA G.P W Q QM QP) G (n+1) rd yl (.rangeFunc g ps assign body) st K ρ) {R:Nat->Loop} {Z:List Nat} {r:Option Nat} {m:Nat} {β:Nat->Nat} {a:Act} {w:World} (hC:Core W R Z ρ β st a w) (hY:oX G.P W R st.c ρ β yl) (pv:mK rd r st β)
    {Q':Exit->Act->World->Prop} (hn:og W R Z st ρ β K Q'):(Code.rangeFunc g ps assign body).wpIn (Fr r) m G.P Q' a w:=by
  unfold exec at h;cases g with
  |tmp g =>
    simp only at h;unfold vO at h;generalize hg:ay st.t g=sv at h;split at h;rotate_left
    · exact h.elim
    rename_i f aI;by_cases iF:(G.inl.contains f=true/\g<st.n/\vM st.r rd=true/\st.df=[]);rotate_left
    · rw [if_neg iF]at h;exact h.elim
    rw [if_pos iF]at h;obtain⟨hf,Xp,JZ,J0⟩:=iF;generalize J1:G.P.funcs[f]? = u at h;cases u with
    |none=>exact h.elim
    |some fn =>
    simp only at h;generalize hb:fn.body=u at h;cases u with
    |none=>exact h.elim
    |some b =>
    simp only at h;have uF:(SV.cv (.one (.fn f aI))).wf st.c=true:=by rw [<-hg];exact hC.wf.t g
    have nC:∀x∈aI,x.1<st.c.nk:=λx hx=>by simpa using List.all_eq_true.1 uF x hx
    have eg:a.eval (.tmp g)=.func (.func f) #[] (aI.map λc=>.pointer (some ⟨β c.1,c.2,none⟩)).toArray:=by
      have:=hC.eval (.tmp g) (by show ay st.t g≠_;rw [hg];simp)
      rw [this];show (ay st.t g).den ρ β=_;rw [hg];rfl
    refine wpIn_rangeFunc λEs _ => ?_;obtain⟨l,mark,w1,D,wE,yz,hold,Ab,Ud,Ue,Uf,lJ,Ug,Qn⟩:=Ub (P:=G.P) hC pv JZ Es a.tmps ps assign body;generalize BI:({state := .ready,pending:=none,fn:=Es,tmps:=a.tmps,params:=ps,assign:=assign,body:=body,defers:=D}:Loop)=rec at yz;have wK:recAt rec none=rec:=by rw [<-BI];rfl
    have oh:rec.tmps=a.tmps/\rec.params=ps/\rec.assign=assign/\rec.body=body:=by rw [<-BI];exact⟨rfl,rfl,rfl,rfl⟩
    let kr:=st.c.nk;let fH:Nat->Nat:=λk=>if k=st.c.nk then l else if k=st.c.nk+1 then w.heap.size else β k
    have m_:∀k,k<st.c.nk->fH k=β k:=λk hk=>by
      show (if k=st.c.nk then l else if k=st.c.nk+1 then w.heap.size else β k)=β k;rw [if_neg (by omega),if_neg (by omega)]
    have uI:fH st.c.nk=l:=if_pos rfl
    have J2:fH (st.c.nk+1)=w.heap.size:=by
      show (if st.c.nk+1=st.c.nk then l else if st.c.nk+1=st.c.nk+1 then w.heap.size else _)=_;rw [if_neg (by omega),if_pos rfl]
    let R1:Nat->Loop:=λk=>if k=st.c.nk then rec else R k;have om:∀k,k<st.c.nk->R1 k=R k:=λk hk=>if_neg (by omega);have BJ:R1 st.c.nk=rec:=if_pos rfl;have BK:st.c.le {st.c with nk:=st.c.nk+2}:=aw.mC st.c 2;let args:List SV:=SV.cv (.one (.rV st.c.nk))::aI.map dW
    have Et:args.all (SV.wf {st.c with nk:=st.c.nk+2})=true:=by
      refine List.all_eq_true.2 λx hx => ?_;rcases List.mem_cons.1 hx with rfl|hx
      · show decide (st.c.nk<st.c.nk+2)=true;simp
      · obtain⟨y,hy,rfl⟩:=List.mem_map.1 hx
        have:=nC y hy
        show decide (y.1<st.c.nk+2)=true;simp;omega
    have gq:(args.map (SV.den ρ fH)).toArray=#[.func (.yield l) #[] #[]]++(aI.map λc=>(.pointer (some ⟨β c.1,c.2,none⟩):Value)).toArray:=by
      apply Array.ext';simp only [args,List.map_cons,Array.toList_append];show Value.func (.yield (fH st.c.nk)) #[] #[]::_=_;rw [uI];simp only [List.map_map,List.cons_append,List.nil_append,List.cons.injEq,true_and];apply List.map_congr_left;intro x hx;show Value.pointer (some ⟨fH x.1,x.2,none⟩)=_;rw [m_ x.1 (nC x hx)]
    have Uh:dT W w1:=dT.mk (Ud.trans hC.below.os) (Ue.trans hC.below.tape) (Uf.trans hC.below.output) (Nat.le_trans hC.below.size lJ) λk hk hn=>by
      rw [hold k (Nat.lt_of_lt_of_le hk hC.below.size)];exact hC.below.block k hk hn
    have wI:st.d.map fH=st.d.map β:=List.map_congr_left λk hk=>m_ k (hC.wf.d k hk);have mi:∀k∈Z++st.d.map β,k<w.heap.size:=λk hk=>uw (hC.ia k hk).2
    have Eu:∀{k e},aK st.m st.o k=some e->Holds W ρ fH k e w1:=λ{k e} hk =>
      (hC.mem k e hk).jf (hC.wf.pq hk) (Env.aq _ _) m_ λb hb=>hold b ((hC.mem k e hk).wg b hb).2.1
    have base:Core W R1 (Z++st.d.map β++(if rd.isSome=true then []else [w.heap.size])) ρ fH {t:=(List.range args.length).zip args,n:=args.length + (fn.ntmps - args.length),m:=st.m,c := {st.c with nk:=st.c.nk + 2},o:=st.o,r:=(st.c.nk,none)::st.r,d := [],k:=st.k}
        {tmps:=(args.map (SV.den ρ fH)).toArray++Array.replicate (fn.ntmps-(args.map (SV.den ρ fH)).toArray.size) undef,defers := []} w1:=by
      have g:=hC.wf.grow BK;refine⟨by simp,λi hi => ?_,rfl,Uh,λk e hk=>Eu hk,λk k' e e' b' hx hy kR mI => ?_,λk e hk => ?_,λk k' e e' hx hy he => ?_,λb' il => ?_, ?_,⟨λi => ?_,g.m,g.o,g.ap,λk e hk => ?_,λk hk=>(by cases hk),g.k,λx hx=>(by cases hx)⟩,hC.kn⟩
      · simp only [z']at hi ⊢;cases xP:args[i]? with
        |none=>rw [xP]at hi;exact (hi rfl).elim
        |some v =>
          have eD:i<args.length:=(List.getElem?_eq_some_iff.1 xP).1;rw [Array.getElem?_append_left (by simpa using eD)];simp [xP]
      · rw [DX (hC.wf.pq hx) m_]at kR;rw [DX (hC.wf.pq hy) m_]at mI
        exact hC.inj k k' e e' b' hx hy kR mI
      · rw [xO]at hk;by_cases dq:st.c.nk=k
        · rw [if_pos dq]at hk;cases hk;subst dq;rw [uI,BJ,wK];exact⟨Nat.le_trans hC.below.size Ab,yz⟩
        · rw [if_neg dq]at hk;have eD:=hC.wf.r k e hk;rw [m_ k eD,om k eD,hold _ (uw (hC.gz k e hk).2)];exact hC.gz k e hk
      · rw [xO]at hx hy;by_cases h1:st.c.nk=k<;>by_cases h2:st.c.nk=k'
        · omega
        · rw [if_neg h2]at hy;rw [<-h1,uI,m_ k' (hC.wf.r k' e' hy)]at he
          have:=uw (hC.gz k' e' hy).2
          omega
        · rw [if_neg h1]at hx;rw [<-h2,uI,m_ k (hC.wf.r k e hx)]at he
          have:=uw (hC.gz k e hx).2
          omega
        · rw [if_neg h1]at hx;rw [if_neg h2]at hy;rw [m_ k (hC.wf.r k e hx),m_ k' (hC.wf.r k' e' hy)]at he;exact hC.kF k k' e e' hx hy he
      · simp only [List.map_nil,List.append_nil]at il;rcases List.mem_append.1 il with il|il
        · exact⟨(hC.ia b' il).1,by rw [hold b' (mi b' il)];exact (hC.ia b' il).2⟩
        · cases eK:rd.isSome with
          |true=>rw [eK]at il;simp at il
          |false =>
            rw [eK]at il;simp at il;subst il;exact⟨hC.below.size,(Qn eK).2⟩
      · simp only [List.map_nil,List.append_nil];refine List.nodup_append.2 ⟨hC.dn,by split<;>simp,λx hx y hy => ?_⟩
        have:=mi x hx
        split at hy
        · cases hy
        · simp at hy;omega
      · simp only [z'];cases xP:args[i]? with
        |none=>rfl
        |some v=>exact List.all_eq_true.1 Et v (List.mem_of_getElem? xP)
      · rw [xO]at hk;by_cases dq:st.c.nk=k
        · simp only;omega
        · rw [if_neg dq]at hk
          have:=hC.wf.r k e hk
          simp only;omega
    have post:∀ (s':St) (ah:Env) (an:Nat->Nat) (a':Act) (w':World),Core W R1 (Z++st.d.map β++(if rd.isSome=true then []else [w.heap.size])) ah an {s' with d := []} a' w'->({st.c with nk:=st.c.nk + 2}:aw).le s'.c->Env.aE {st.c with nk:=st.c.nk + 2} ρ ah->(∀ k,k < st.c.nk + 2->an k=fH k) ->
        (match fI s'.r st.c.nk with
          |some none=>K .normal {t:=st.t,n:=st.n,m:=s'.m,c:=s'.c,o:=s'.o,r:=mT s'.r st.c.nk,d:=if rd.isSome=true then st.d else (st.c.nk+1)::st.d,k:=s'.k}
          |some (some .normal) => (PA G.P W Q QM QP).fail "range: busy"
          |some (some (.j4 _)) => (PA G.P W Q QM QP).fail "range: panic"
          |some (some e)=>K e {t:=st.t,n:=st.n,m:=s'.m,c:=s'.c,o:=s'.o,r:=mT s'.r st.c.nk,d:=if rd.isSome=true then st.d else (st.c.nk+1)::st.d,k:=s'.k}
          |none => (PA G.P W Q QM QP).fail "range: record") ah -> ∃ jump w4, (Instr.endLoop l).run G.P w' = .ok jump w4 /\ (match jump with | none => Q' .normal { a with defers := mark ++ a.defers } w4 | some c => c.wpIn (Fr r) m G.P Q' { a with defers := mark ++ a.defers } w4) := by
      intro s' ah an a' w' fb Ev sB il hk;have b1:∀k,k<st.c.nk->an k=β k:=λk hk=>(il k (by omega)).trans (m_ k hk);have b2:an st.c.nk=l:=(il _ (by omega)).trans uI;have b3:an (st.c.nk+1)=w.heap.size:=(il _ (by omega)).trans J2;have d_:Env.aE st.c ρ ah:=⟨sB.i,sB.b,sB.v,sB.p,sB.s,sB.l⟩;have oc:st.c.le s'.c:=aw.le_trans BK Ev
      have back:∀(e:Option Ex) (o:Obj),fI s'.r st.c.nk=some e->Core W R Z ah an {t:=st.t,n:=st.n,m:=s'.m,c:=s'.c,o:=s'.o,r:=mT s'.r st.c.nk,d:=if rd.isSome=true then st.d else (st.c.nk+1)::st.d,k:=s'.k} {a with defers:=mark++a.defers} (w'.putObj l o):=by
        intro e o oV;obtain⟨l1,l2⟩:=fb.gz st.c.nk e oV;rw [b2]at l1 l2;have Qo:st.d.map an=st.d.map β:=List.map_congr_left λk hk=>b1 k (hC.wf.d k hk)
        have Aa:(if rd.isSome=true then st.d else (st.c.nk+1)::st.d).map an=(if rd.isSome=true then []else [w.heap.size])++st.d.map β:=by
          split
          · simpa using Qo
          · simp only [List.map_cons,b3,Qo,List.singleton_append]
        refine⟨hC.size,λi hi => ?_, ?_,dT.putObj fb.below l1 _,λk e hg=>(fb.mem k e hg).put (fb.wf.pq hg) l2 _,fb.inj,λk x hg => ?_,λk k' x x' hg fM he => ?_,λb hb => ?_, ?_,
          ⟨λi=>SV.aT oc (hC.wf.t i),fb.wf.m,fb.wf.o,fb.wf.ap,λk x hg => ?_,λk hk => ?_,fb.wf.k,λx hx=>(by cases hx)⟩,fb.kn⟩
        · rw [show ({a with defers:=mark++a.defers}:Act).tmps=a.tmps from rfl,hC.tmps i hi];exact congrArg some (SV.ae d_ b1 (hC.wf.t i)).symm
        · show mark++a.defers=gG an []++_;rw [hC.kQ,J0];simp only [gG,List.map_nil,List.nil_append]
          have Qp:marksOf β st.d=marksOf an st.d:=by
            simp only [marksOf];exact List.map_congr_left λk hk=>by rw [b1 k (hC.wf.d k hk)]
          cases eK:rd.isSome with
          |true=>rw [Ug eK,Qp];rfl
          |false=>rw [(Qn eK).1,Qp];simp [marksOf,b3]
        · rw [Er]at hg;split at hg
          · cases hg
          · rename_i dq;have Ew:=fb.gz k x hg;refine⟨Ew.1, ?_⟩;have iS:an k≠l:=λhe=>dq (fb.kF st.c.nk k e x oV hg (by rw [b2,he]));rw [World.putObj_heap_other iS,Ew.2]
            have:R1 k=R k:=if_neg (λhe=>dq he.symm)
            rw [this]
        · rw [Er]at hg fM;split at hg
          · cases hg
          · split at fM
            · cases fM
            · exact fb.kF k k' x x' hg fM he
        · rw [Aa]at hb
          have h_:b∈Z++st.d.map β++(if rd.isSome=true then []else [w.heap.size]):=by
            simp only [List.mem_append]at hb ⊢;rcases hb with hb|hb|hb
            · exact .inl (.inl hb)
            · exact .inr hb
            · exact .inl (.inr hb)
          have:=fb.ia b (by simpa using h_)
          refine⟨this.1, ?_⟩;rw [World.putObj_heap_other λhe => ?_]
          · exact this.2
          · have h2:=this.2;rw [he,l2]at h2;cases h2
        · rw [Aa]
          have:=fb.dn
          simp only [List.map_nil,List.append_nil]at this;obtain⟨n1,n2,n3⟩:=List.nodup_append.1 this;obtain⟨n4,n5,n6⟩:=List.nodup_append.1 n1;refine List.nodup_append.2 ⟨n4,List.nodup_append.2 ⟨n2,n5,λx hx y hy he=>n3 y (List.mem_append.2 (.inr hy)) x hx he.symm⟩,λx hx y hy => ?_⟩;rcases List.mem_append.1 hy with hy|hy
          · exact n3 x (List.mem_append.2 (.inl hx)) y hy
          · exact n6 x hx y hy
        · rw [Er]at hg;split at hg
          · cases hg
          · exact fb.wf.r k x hg
        · have lX:st.c.nk+2<=s'.c.nk:=Ev.k;split at hk
          · have:=hC.wf.d k hk
            simp only;omega
          · rcases List.mem_cons.1 hk with rfl|hk
            · simp only;omega
            · have:=hC.wf.d k hk
              simp only;omega
      have ends:∀(x:Option Ex),fI s'.r st.c.nk=some x->w'.heap[l]? = some (.loop (recAt rec x)):=λx hx=>by
        have:=(fb.gz st.c.nk x hx).2
        rw [b2,BJ]at this;exact this
      generalize yB:fI s'.r st.c.nk=gr at hk;cases gr with
      |none=>exact hk.elim
      |some x =>
        have hh:=ends x yB;cases x with
        |none =>
          refine⟨none,_,(run_endLoop (P:=G.P) hh (by simp [recAt])).trans rfl, ?_⟩;exact hn .normal _ ah an _ _ hk trivial oc d_ b1 (back none _ yB)
        |some e =>
          cases e with
          |normal=>exact hk.elim
          |exit id =>
            refine⟨some (.exit id),_,(run_endLoop (P:=G.P) hh (by simp [recAt])).trans rfl, ?_⟩;exact wpIn_exit (hn (.exit id) _ ah an _ _ hk trivial oc d_ b1 (back _ _ yB))
          |ret =>
            refine⟨some .ret,_,(run_endLoop (P:=G.P) hh (by simp [recAt])).trans rfl, ?_⟩;exact wpIn_ret (hn .ret _ ah an _ _ hk trivial oc d_ b1 (back _ _ yB))
          |j4 i=>exact hk.elim
    refine⟨l,mark,w1,{target := .fn (.func f) (aI.map λc=>(.pointer (some ⟨β c.1,c.2,none⟩):Value)).toArray,args := #[.func (.yield l) #[] #[]]},w1,f,(args.map (SV.den ρ fH)).toArray,w1,wE, ?_,λf' _=>uD r f', ?_,Ef,Jw.2 (GS (n:=0) J1 hb ?_)⟩
    · simp only [resolve,rangeCall,eg];simp [Deferred.ofValue,Act.eval]
    · simp only [invoke];rw [gq];exact hG.inl f hf _ w1
    refine ih none _ b _ _ ρ h R1 _ none 0 fH _ w1 base ?_ rfl _ ?_;rotate_left
    ·
      intro e s' ah an a' w' hk _ h1 h2 h3 fb;by_cases qF:s'.df=[];rotate_left
      · rw [if_pos qF]at hk;exact hk.elim
      rw [if_neg (by simpa using qF)]at hk
      have fin:(match ek G.P s' fn.results.toList with
          |some _=>match fI s'.r st.c.nk with
            |some none=>K .normal {t:=st.t,n:=st.n,m:=s'.m,c:=s'.c,o:=s'.o,r:=mT s'.r st.c.nk,d:=if rd.isSome=true then st.d else (st.c.nk+1)::st.d,k:=s'.k}
            |some (some .normal) => (PA G.P W Q QM QP).fail "range: busy"
            |some (some (.j4 _)) => (PA G.P W Q QM QP).fail "range: panic"
            |some (some e)=>K e {t:=st.t,n:=st.n,m:=s'.m,c:=s'.c,o:=s'.o,r:=mT s'.r st.c.nk,d:=if rd.isSome=true then st.d else (st.c.nk+1)::st.d,k:=s'.k}
            |none => (PA G.P W Q QM QP).fail "range: record"
          |none => (PA G.P W Q QM QP).fail "range: results") ah -> LeavesInM (Fr none) 0 G.P fn a'.tmps (rangePost (Fr r) m G.P l Q' { a with defers := mark ++ a.defers }) a'.defers .returning w' := by
        intro hk;generalize hr:ek G.P s' fn.results.toList=u at hk;cases u with
        |none=>exact hk.elim
        |some vs=>exact P5 fb qF hr λw3 wD _=>post s' ah an _ w3 wD h1 h2 h3 hk
      cases e with
      |normal=>exact fin hk
      |ret=>exact fin hk
      |exit id=>exact hk.elim
      |j4 i=>exact hk.elim
    ·
      intro k mL s K' aB hy sN eS jH R' Qq Z' bc a2 w2 mZ dX r2 n2 next' mn
      have jj:st.c.le s.c:=aw.le_trans BK eS;have d_:Env.aE st.c ρ aB:=⟨jH.i,jH.b,jH.v,jH.p,jH.s,jH.l⟩;have lV:∀k,k<st.c.nk->bc k=β k:=λk hk=>(mZ k (by simp only;omega)).trans (m_ k hk);have Ui:∀k,k<st.c.nk->R' k=R k:=λk hk=>(Qq k (by simp only;omega)).trans (om k hk);have J3:oX G.P W R' s.c aB bc yl:=hY.oK jj d_ lV Ui;split at hy;rotate_left
      · exact J3 k mL s K' aB hy sN (aw.le_refl _) (Env.aq _ _) R' (λ_ _=>rfl) Z' bc a2 w2 (λ_ _=>rfl) dX r2 n2 next' mn
      rename_i dq;subst dq;split at hy;rotate_left
      · exact hy.elim
      rename_i BL;obtain⟨BM,Ey,J4⟩:=BL;have wL:bc st.c.nk=l:=(mZ _ (by simp only;omega)).trans uI;have Ez:R' st.c.nk=rec:=(Qq _ (by simp only;omega)).trans BJ
      have hh:w2.heap[l]? = some (.loop rec):=by
        have:=(dX.gz _ _ BM).2
        rw [wL,Ez,wK]at this;exact this
      have Qs:=run_yield (P:=G.P) (args:=(mL.map (SV.den aB bc)).toArray) hh (by rw [oh.2.1];simpa using Ey);rw [oh.1,oh.2.1,oh.2.2.1,oh.2.2.2]at Qs;refine⟨l,rec.fn,_,assign,body,by rw [wL];exact Qs,roundIn_of_wpIn (uD r2 _) ?_⟩
      have BN:Core W R' (Z'++s.d.map bc) aB bc {t:=nX st.t ps.toList mL,n:=st.n,m:=s.m,c:=s.c,o:=s.o,r:=s.r,d := [],k:=s.k}
          {tmps:=(ps.zip (mL.map (SV.den aB bc)).toArray).foldl (λ(tmps:Array Value) (x:Tmp × Value)=>tmps.setIfInBounds x.1 x.2) a.tmps,defers := []} w2:=by
        have hz:(ps.zip (mL.map (SV.den aB bc)).toArray).foldl (λ(tmps:Array Value) (x:Tmp × Value)=>tmps.setIfInBounds x.1 x.2) a.tmps=(ps.toList.zip (mL.map (SV.den aB bc))).foldl (λ(x:Array Value) (y:Tmp × Value)=>x.setIfInBounds y.1 y.2) a.tmps:=by
          rw [<-Array.foldl_toList,Array.toList_zip]
        rw [hz];refine⟨by simp only [Ql];exact hC.size,λi hi => ?_,rfl,dX.below,dX.mem,dX.inj,dX.gz,dX.kF,λb hb=>dX.ia b (by simpa using hb),by simpa using dX.dn,⟨λi => ?_,dX.wf.m,dX.wf.o,dX.wf.ap,dX.wf.r,λk hk=>(by cases hk),dX.wf.k,λx hx=>(by cases hx)⟩,dX.kn⟩
        · refine Qk aB bc ps.toList mL st.t a.tmps (by simpa using Ey) (λp hp => ?_) (λj hj => ?_) i hi
          · rw [hC.size]
            have:=Array.all_eq_true_iff_forall_mem.1 J4 p (Array.mem_toList_iff.1 hp)
            simpa using this
          · rw [hC.tmps j hj];exact congrArg some (SV.ae d_ lV (hC.wf.t j)).symm
        · exact Qm ps.toList mL st.t sN (λj=>SV.aT jj (hC.wf.t j)) i
      refine ih (some st.c.nk) yl assign _ _ aB hy R' (Z'++s.d.map bc) (some l) n2 bc _ w2 BN J3 ⟨by rw [wL],by have:=eS.k;simp only at this ⊢;omega⟩ _ ?_;intro e s1 Cz Gb a3 w3 hk _ h1 h2 h3 G0;cases e with
      |exit id=>exact hk.elim
      |ret=>exact hk.elim
      |j4 i=>exact hk.elim
      |normal =>
        simp only at hk;split at hk;rotate_left
        · exact hk.elim
        rename_i tP;have J5:st.c.nk<s.c.nk:=by have:=eS.k;simp only at this;omega
        have uq:Gb st.c.nk=l:=(h3 _ J5).trans wL
        have Uj:w3.heap[l]? = some (.loop rec):=by
          have:=(G0.gz _ _ tP).2
          rw [uq,Ez,wK]at this;exact this
        refine⟨_,run_beginRound (P:=G.P) Uj (by rw [<-BI]), ?_⟩;have wD:=Qj (e':=some .normal) G0 tP;rw [uq,Ez]at wD;have kI:recAt rec (some .normal) = {rec with state := .busy}:=by rw [<-BI];rfl
        rw [kI]at wD;refine ih (some st.c.nk) yl body _ _ Cz hk R' (Z'++s.d.map bc) (some l) n2 Gb _ _ wD (J3.oK h1 h2 h3 (λ_ _=>rfl)) ⟨by rw [uq],Nat.lt_of_lt_of_le J5 h1.k⟩ _ ?_;intro e s2 xE uV a4 w4 CZ _ g1 g2 g3 Qt;have q1:s.c.le s2.c:=aw.le_trans h1 g1;have q2:Env.aE s.c aB xE:=Env.aj h1 h2 g2;have q3:∀k,k<s.c.nk->uV k=bc k:=λk hk=>(g3 k (Nat.lt_of_lt_of_le hk h1.k)).trans (h3 k hk);split at CZ;rotate_left
        · exact CZ.elim
        rename_i tQ;obtain⟨tQ,J6⟩:=tQ;have Qu:uV st.c.nk=l:=(q3 _ J5).trans wL
        have Uk:w4.heap[l]? = some (.loop (recAt rec (some .normal))):=by
          have:=(Qt.gz _ _ tQ).2
          rw [Qu,Ez]at this;exact this
        have again:∀(x:Option Ex),Core W R' Z' xE uV {t:=s.t,n:=s.n,m:=s2.m,c:=s2.c,o:=s2.o,r:=mS s2.r st.c.nk x,d:=s.d,k:=s2.k,df:=s.df} a2 (w4.putObj l (.loop (recAt rec x))):=by
          intro x;have Qv:=Qj (e':=x) (Qt.drop J6) tQ;rw [Qu,Ez]at Qv;exact GR dX (s' := {s2 with r:=mS s2.r st.c.nk x}) Qv q1 q2 q3
        have BO:∀(jump:Option Code),(Instr.endRound l jump).run G.P w4=.ok (.bool jump.isNone) (w4.putObj l (.loop {rec with state:=if jump.isNone then .ready else .done,pending:=jump})):=λjump=>by
          have:=run_endRound (P:=G.P) jump Uk
          rw [this];simp only [recAt]
        cases e with
        |normal =>
          refine⟨_,_,BO none,_,rfl, ?_⟩
          have:=mn (.cv (.one (.bool (.lit true)))) _ xE uV _ CZ rfl (by simp) q1 q2 q3 (again none)
          rw [<-BI]at this ⊢;exact this
        |ret =>
          refine⟨_,_,BO (some .ret),_,rfl, ?_⟩
          have:=mn (.cv (.one (.bool (.lit false)))) _ xE uV _ CZ rfl (by simp) q1 q2 q3 (again (some .ret))
          rw [<-BI]at this ⊢;exact this
        |j4 i=>exact CZ.elim
        |exit id =>
          refine⟨_,_,BO (some (.exit id)),_,rfl, ?_⟩
          have:=mn (.cv (.one (.bool (.lit false)))) _ xE uV _ CZ rfl (by simp) q1 q2 q3 (again (some (.exit id)))
          rw [<-BI]at this ⊢;exact this
  |_=>exact h.elim
theorem EA{G:bW}(hG:G.Ok)(hD:wJ G W Q QM QP):∀ (n:Nat) (rd:Option Nat) (yl:Yl (Env->Prop)) (c:Code) (st:St) (K:Ex->St->Env->Prop) (ρ:Env),exec (PA G.P W Q QM QP) G n rd yl c st K ρ ->
    ∀(R:Nat->Loop) (Z:List Nat) (r:Option Nat) (m:Nat) (β:Nat->Nat) (a:Act) (w:World),Core W R Z ρ β st a w->oX G.P W R st.c ρ β yl->mK rd r st β->∀Q':Exit->Act->World->Prop,og W R Z st ρ β K Q'->c.wpIn (Fr r) m G.P Q' a w
  |0,rd,yl,c,st,K,ρ,h,_,_,_,_,_,_,_,_,_,_,_,_=>h.elim
  |n+1,rd,yl,c,st,K,ρ,h,R,Z,r,m,β,a,w,hC,hY,pv,Q',hn=>by
    have ih:=EA hG hD n;have here:∀(e:Ex),e.ok st.c->K e st ρ->Q' (e.to ρ) a w:=λe ho hk=>hn e st ρ β a w hk ho (aw.le_refl _) (Env.aq _ _) (λ_ _=>rfl) hC;unfold exec at h;unfold vN vP at h;rw [H7]at h;cases c with
    |skip=>exact wpIn_skip (here .normal trivial h)
    |label l=>exact wpIn_label (here .normal trivial h)
    |ret=>exact wpIn_ret (here .ret trivial h)
    |exit id=>exact wpIn_exit (here (.exit id) trivial h)
    |region id ops draw =>
      have nx:va W R Z st ρ β (K .normal) (Q' .normal):=λs aB bc a2 w2 hk h1 h2 h3 dX=>hn .normal s aB bc a2 w2 hk trivial h1 h2 h3 dX
      have Um:tJ G W R Z st.c ρ β Q' (fun f args s K'=>match G.P.funcs[f]? with
          |none => (PA G.P W Q QM QP).fail "inline: no such function"
          |some fn=>match fn.body with
            |none => (PA G.P W Q QM QP).fail "inline: no body"
            |some b =>
              exec (PA G.P W Q QM QP) G n none yl b {t:=(List.range args.length).zip args,n:=args.length+(fn.ntmps-args.length),m:=s.m,c:=s.c,o:=s.o,r:=s.r,d := [],k:=s.k} λe s' =>
                leave (PA G.P W Q QM QP) G (exec (PA G.P W Q QM QP) G n none yl) fn e s' (λv s2=>K' v (St.prune s.c.nk v {t:=s.t,n:=s.n,m:=s2.m,c:=s2.c,o:=s2.o,r:=s2.r,d:=s.d,k:=s2.k,df:=s.df}))
                  λi s2=>K (.j4 i) {t:=s.t,n:=s.n,m:=s2.m,c:=s2.c,o:=s2.o,r:=s2.r,d:=s.d,k:=s2.k,df:=s.df}):=by
        intro f args s K' a8 hi hw jJ ja fH a1 w1 ji pt next' mn
        generalize hf:G.P.funcs[f]? = u at hi;cases u with
        |none=>exact hi.elim
        |some fn =>
          simp only at hi;generalize hb:fn.body=u at hi;cases u with
          |none=>exact hi.elim
          |some b =>
            refine GS (n:=0) hf hb ?_;refine ih none yl b _ _ a8 hi R (Z++s.d.map fH) none 0 fH _ w1 (P1 (n:=fn.ntmps) pt hw) (hY.oK jJ ja ji (λ_ _=>rfl)) rfl _ ?_;intro e s' ah an a' w' hk kO h1 h2 h3 G0
            have fin:=JJ (Z:=Z++s.d.map fH) hG (c0:=st.c) (dL:=ρ) (bE:=β) (λc EB K2 aB hx g1 g2 m2 bc a2 w2 g3 g4 Q2 g5=>ih none yl c EB K2 aB hx R _ none m2 bc a2 w2 g4 (hY.oK g1 g2 g3 (λ_ _=>rfl)) rfl Q2 g5) hk (aw.le_trans jJ h1) (Env.aj jJ ja h2)
              (λk hk=>(h3 k (Nat.lt_of_lt_of_le hk jJ.k)).trans (ji k hk)) G0 kO 0 (T:=λe w'=>match e with
                | .returned v=>next' v w'
                | .panicked ch=>Q' (.panic ch) a1 w'
                | .outgrown=>False)
              (λv s2 aB bc w2 jr tE BC q1 q2 q3 wD=>by
                have Un:=GR pt wD (aw.le_trans h1 q1) (Env.aj h1 h2 q2) (λk hk=>(q3 k (Nat.lt_of_lt_of_le hk h1.k)).trans (h3 k hk));have Ec:=Un.prune s.c.nk v;exact mn v _ aB bc w2 jr (by rw [St.tN];exact tE) BC (by rw [St.tN];exact aw.le_trans h1 q1) (Env.aj h1 h2 q2) (λk hk=>(q3 k (Nat.lt_of_lt_of_le hk h1.k)).trans (h3 k hk)) Ec)
              (λi s2 aB bc w2 jr xP q1 q2 q3 wD=>by
                have l1:s.c.le s2.c:=aw.le_trans h1 q1;have l2:Env.aE s.c a8 aB:=Env.aj h1 h2 q2;have l3:∀k,k<s.c.nk->bc k=fH k:=λk hk=>(q3 k (Nat.lt_of_lt_of_le hk h1.k)).trans (h3 k hk);exact hn (.j4 i) _ aB bc a1 w2 jr xP (aw.le_trans jJ l1) (Env.aj jJ ja l2) (λk hk=>(l3 k (Nat.lt_of_lt_of_le hk jJ.k)).trans (ji k hk)) (GR pt wD l1 l2 l3))
            cases e with
            |exit id=>exact (fin.1 id rfl).elim
            |normal=>exact fin.2
            |ret=>exact fin.2
            |j4 i=>exact fin.2
      have hI:tJ G W R Z st.c ρ β Q' (yh (PA G.P W Q QM QP) G n (exec (PA G.P W Q QM QP) G n) yl K):=by
        intro f args s K' a8 hi;refine Um f args s K' a8 ?_
        have hi:mU (PA G.P W Q QM QP) G (exec (PA G.P W Q QM QP) G n) yl K f args s K' a8:=by
          unfold yh at hi;generalize Uo:G.jR=sl at hi;cases sl with
          |nil =>
            simp only at hi;generalize G.marks=ml at hi;cases ml with
            |nil=>exact hi
            |cons x ml =>
              simp only at hi;generalize (x::ml).contains f=b at hi;cases b with
              |true=>exact hi
              |false=>exact hi
          |cons x sl =>
            simp only at hi;generalize Gr:ky n f args s (x::sl)=u at hi;cases u with
            |none=>exact hi
            |some e =>
              obtain⟨h1,rfl,rfl,rfl,rfl⟩:=HW Gr;rw [hG.jR e (Uo▸h1)];exact hi
        unfold mU at hi;simp only [H3,St.norm_eq]at hi;exact hi
      have hP:tK W R Z st.c ρ β Q' (λi s=>K (.j4 i) s):=λi s aB hk hi h1 h2 bc a2 w2 h3 dX=>hn (.j4 i) s aB bc a2 w2 hk hi h1 h2 h3 dX
      have sI:rd.isNone=true->r=none:=λh=>by
        cases rd with
        |none=>exact pv
        |some k=>cases h
      cases draw with
      |true=>exact hD R Z r m _ yl _ _ id ops st _ ρ h β a w hC Q' hI hY sI hP _ (λ_ _ q=>q) nx
      |false=>exact wpIn_region_list (JA (JE hG hI hY sI hP) ops.toList st ρ h (aw.le_refl _) (Env.aq _ _) β a w (λ_ _=>rfl) hC _ (λ_ _ q=>q) nx)
    |seq x y =>
      refine wpIn_seq (ih rd yl x st _ ρ h R Z r m β a w hC hY pv _ ?_);intro e s aB bc a2 w2 hk ho h1 h2 h3 dX;cases e with
      |normal=>exact ih rd yl y s K aB hk R Z r m bc a2 w2 dX (hY.oK h1 h2 h3 (λ_ _=>rfl)) (pv.oK h1 h3) Q' (hn.oK h1 h2 h3)
      |exit id=>exact hn (.exit id) s aB bc a2 w2 hk ho h1 h2 h3 dX
      |ret=>exact hn .ret s aB bc a2 w2 hk ho h1 h2 h3 dX
      |j4 i=>exact hn (.j4 i) s aB bc a2 w2 hk ho h1 h2 h3 dX
    |cond o x y =>
      cases o with
      |tmp d =>
        simp only at h;generalize hg:ay st.t d=sv at h;split at h
        · rename_i e;split at h
          · rename_i hd
            have he:a.eval (.tmp d)=.bool (e.den ρ):=by
              have:=hC.eval (.tmp d) (by show ay st.t d≠_;rw [hg];simp)
              rw [this];show (ay st.t d).den ρ β=_;rw [hg];rfl
            rcases zw h with ⟨hb,h⟩|⟨hb,h⟩<;>rw [St.norm_eq]at h
            · exact wpIn_cond_true (by rw [he,hb]) (ih rd yl x _ K ρ h R Z r m β a w (hC.dP hg hb) hY pv Q' (hn.st rfl))
            · exact wpIn_cond_false (by rw [he,hb]) (ih rd yl y _ K ρ h R Z r m β a w (hC.dP hg hb) hY pv Q' (hn.st rfl))
          · exact h.elim
        · exact h.elim
      |const v =>
        cases v with
        |bool t =>
          cases t with
          |true=>exact wpIn_cond_true rfl (ih rd yl x st K ρ h R Z r m β a w hC hY pv Q' hn)
          |false=>exact wpIn_cond_false rfl (ih rd yl y st K ρ h R Z r m β a w hC hY pv Q' hn)
        |_=>exact h.elim
      |_=>exact h.elim
    |block id b =>
      refine wpIn_block (ih rd yl b st _ ρ h R Z r m β a w hC hY pv _ ?_);intro e s aB bc a2 w2 hk ho h1 h2 h3 dX;cases e with
      |normal=>exact hn .normal s aB bc a2 w2 hk ho h1 h2 h3 dX
      |ret=>exact hn .ret s aB bc a2 w2 hk ho h1 h2 h3 dX
      |j4 i=>exact hn (.j4 i) s aB bc a2 w2 hk ho h1 h2 h3 dX
      |exit i =>
        simp only at hk;simp only [Ex.to,Exit.inBlock];by_cases hi:i=id
        · rw [if_pos hi]at hk ⊢;exact hn .normal s aB bc a2 w2 hk trivial h1 h2 h3 dX
        · rw [if_neg hi]at hk ⊢;exact hn (.exit i) s aB bc a2 w2 hk trivial h1 h2 h3 dX
    |scope b =>
      simp only at h;split at h
      · rename_i eK;subst eK;have hr:r=none:=pv;subst hr;refine wpIn_wide.2 (wp_scope_straight (wpIn_wide (n:=m).1 (ih none yl b st _ ρ h R Z none m β a w hC hY rfl _ ?_)));intro e s aB bc a2 w2 hk ho h1 h2 h3 dX
        have:=hn e s aB bc a2 w2 hk ho h1 h2 h3 dX
        cases e<;>exact this
      · exact h.elim
    |loop b =>
      have plain:kT (PA G.P W Q QM QP) (exec (PA G.P W Q QM QP) G n rd yl b) K n st ρ->(Code.loop b).wpIn (Fr r) m G.P Q' a w:=by
        intro h;refine wpIn_loop_rounds n ?_
        have key:∀(j:Nat) (st:St) (ρ:Env) (β:Nat->Nat) (a:Act) (w:World),kT (PA G.P W Q QM QP) (exec (PA G.P W Q QM QP) G n rd yl b) K j st ρ->Core W R Z ρ β st a w->oX G.P W R st.c ρ β yl->mK rd r st β->og W R Z st ρ β K Q'->Code.roundsIn (Fr r) m G.P b Q' j a w:=by
          intro j
          induction j with
          |zero=>intro st ρ β a w h _ _ _ _;exact h.elim
          |succ j Up =>
            intro st ρ β a w h hC hY pv hn;refine ih rd yl b st _ ρ h R Z r m β a w hC hY pv _ ?_;intro e s aB bc a2 w2 hk ho h1 h2 h3 dX;cases e with
            |normal =>
              simp only [St.ya]at hk;exact Up _ aB bc a2 w2 hk dX.vw (hY.oK h1 h2 h3 (λ_ _=>rfl)) (pv.oK h1 h3) (hn.oK h1 h2 h3)
            |exit id=>exact hn (.exit id) s aB bc a2 w2 hk ho h1 h2 h3 dX
            |ret=>exact hn .ret s aB bc a2 w2 hk ho h1 h2 h3 dX
            |j4 i=>exact hn (.j4 i) s aB bc a2 w2 hk ho h1 h2 h3 dX
        exact key n st ρ β a w h hC hY pv hn
      simp only at h;generalize hh:(G.loops.lookup (keyOf b)).bind (LH.parts st.m)=hint at h;split at h
      · rename_i qO cells bp kill;generalize Xq:pN st cells=u1 at h;generalize El:fL st.t bp=u2 at h;split at h
        · rename_i fc vs;generalize Qw:qO++fc=free at h;generalize Ac:kL st.m st.o free=u3 at h;split at h
          · exact h.elim
          · rename_i ms;generalize yw:fy st.o (vs.flatMap CV.cells++ms)=u4 at h;split at h
            · exact h.elim
            · rename_i ks;split at h;rotate_left
              · exact h.elim
              rename_i EC;obtain⟨Inv,μ,h0,cX⟩:=h;have hle:=xF ks st.c
              have wM:∀{k},aM (cf st.o (aQ (vs.flatMap CV.cells++ms))) k≠none->k<st.c.nk:=λ{k} hk=>by
                rw [xL]at hk;split at hk
                · exact (hk rfl).elim
                · cases hg:aM st.o k with
                  |none=>exact (hk hg).elim
                  |some x=>have:=(hC.wf.o k x.1 x.2.1 x.2.2 hg).1;omega
              generalize ED:((aQ (ax st.c ks)).zip (aQ (vs.flatMap CV.cells++ms))).filter (λp=>(tv G st (keyOf b)).contains p.2 || isMap st.o p.2)=jF at cX
              have EE:∀{k},aM (bo st.c ks) k≠none->st.c.nk<=k:=λ{k} hk=>by
                cases hg:aM (bo st.c ks) k with
                |none=>exact (hk hg).elim
                |some y=>exact (CX ks st.c hg).1
              have uJ:∀p∈jF,p∈(aQ (ax st.c ks)).zip (aQ (vs.flatMap CV.cells++ms)):=λp hp=>by
                rw [<-ED]at hp;exact (List.mem_filter.1 hp).1
              have EF:(jF.map (·.2)).Nodup:=by
                rw [<-ED]
                have sub:∀(l:List (Nat × Nat)) (f:Nat × Nat->Bool),(l.map (·.2)).Nodup->((l.filter f).map (·.2)).Nodup:=by
                  intro l f h;exact (List.Sublist.map _ (List.filter_sublist)).nodup h
                refine sub _ _ ?_
                have zs:∀(x y:List Nat),y.Nodup->((x.zip y).map (·.2)).Nodup:=by
                  intro x
                  induction x with
                  |nil=>intro y _;simp
                  |cons a x Uq =>
                    intro y hy;cases y with
                    |nil=>simp
                    |cons b y =>
                      simp only [List.nodup_cons]at hy;simp only [List.zip_cons_cons,List.map_cons,List.nodup_cons];refine⟨λhm => ?_,Uq y hy.2⟩;obtain⟨q,hq,he⟩:=List.mem_map.1 hm;exact hy.1 (he▸(List.of_mem_zip hq).2)
                exact zs _ _ EC
              have wH:∀{k},getM st.m k=none->getM (cc st.m free ((ax st.c ks).drop (vs.flatMap CV.cells).length)) k=none:=λ{k} hk=>by
                cases hg:getM (cc st.m free ((ax st.c ks).drop (vs.flatMap CV.cells).length)) k with
                |none=>rfl
                |some x =>
                  obtain⟨pS,h1,_,_⟩:=xN free st.m _ (show _=some (x.1,x.2) from hg);rw [hk]at h1;cases h1
              have stat:∀p∈jF,st.c.nk<=p.1/\p.2+3<st.c.nk/\getM st.m p.2=none/\aM (bo st.c ks++cf st.o (aQ (vs.flatMap CV.cells++ms))) p.2=none:=λp hp=>by
                obtain⟨Xf,uU,_,_,_,_,_,_,q7,q8,_⟩:=Ei (bo st.c ks) st.o ρ β ks st.c β _ (λ_ _ h=>h) cX yw;obtain⟨_,n0,ce,sz,t,_,g2,_⟩:=q7 p (uJ p hp);have g3:=hC.wf.o p.2 ce sz t g2;refine⟨q8 p.1 (List.of_mem_zip (uJ p hp)).1,g3.1,hC.wf.ap p.2 _ g2, ?_⟩;simp only [CY];cases hg:aM (bo st.c ks) p.2 with
                |some y=>have:=EE (k:=p.2) (by rw [hg];simp);omega
                |none =>
                  simp only;rw [xL,if_pos (List.of_mem_zip (uJ p hp)).2]
              have BP:∀ {zL:Env} {nj:Nat->Nat} {a1:Act} {w1:World},Core W R Z zL nj {t:=dN (fz st.t kill) bp vs (ax st.c ks),n:=st.n,m:=cc st.m free ((ax st.c ks).drop (vs.flatMap CV.cells).length),c:=aX st.c ks,o:=bo st.c ks++cf st.o (aQ (vs.flatMap CV.cells++ms)),r:=st.r,d:=st.d,k:=st.k,df:=st.df} a1 w1 ->
                  (∀p∈jF,nj p.1=nj p.2/\nj (p.1+1)=nj (p.2+1)/\nj (p.1+2)=nj (p.2+2)/\nj (p.1+3)=nj (p.2+3)) ->
                  Core W R Z zL nj (jT jF {t:=dN (fz st.t kill) bp vs (ax st.c ks),n:=st.n,m:=cc st.m free ((ax st.c ks).drop (vs.flatMap CV.cells).length),c:=aX st.c ks,o:=bo st.c ks++cf st.o (aQ (vs.flatMap CV.cells++ms)),r:=st.r,d:=st.d,k:=st.k,df:=st.df}) a1 w1:=λhc hb =>
                Qe jF hc (λp hp=>by
                  obtain⟨s1,s2,s3,s4⟩:=stat p hp;exact⟨by omega,hb p hp,wH s3,s4,Nat.lt_of_lt_of_le s2 hle.k⟩) EF
              obtain⟨f1,f2,f3,f4,f5,f6,f7⟩:=Qd jF {t:=dN (fz st.t kill) bp vs (ax st.c ks),n:=st.n,m:=cc st.m free ((ax st.c ks).drop (vs.flatMap CV.cells).length),c:=aX st.c ks,o:=bo st.c ks++cf st.o (aQ (vs.flatMap CV.cells++ms)),r:=st.r,d:=st.d,k:=st.k,df:=st.df}
              have fS:∀i,i ∉ bp->ay (jT jF {t:=dN (fz st.t kill) bp vs (ax st.c ks),n:=st.n,m:=cc st.m free ((ax st.c ks).drop (vs.flatMap CV.cells).length),c:=aX st.c ks,o:=bo st.c ks++cf st.o (aQ (vs.flatMap CV.cells++ms)),r:=st.r,d:=st.d,k:=st.k,df:=st.df}).t i=ay (dN (fz st.t kill) bp vs (ax st.c ks)) i:=λi hi=>by
                refine Qf jF _ λp hp he => ?_;have eP:ay (dN (fz st.t kill) bp vs (ax st.c ks)) i=.cv (.one (.own p.1)):=he;rw [Ek _ _ _ _ hi]at eP
                have hw:(ay (fz st.t kill) i).wf st.c=true:=by
                  rcases GU st.t i kill with h|h<;>rw [h]
                  · rfl
                  · exact hC.wf.t i
                rw [eP]at hw;have Ur:(decide (p.1+3<st.c.nk))=true:=hw
                have:=(stat p hp).1
                simp only [decide_eq_true_eq]at Ur;omega
              have fO:∀{k x},aM (cf st.o (aQ (vs.flatMap CV.cells++ms))) k=some x->aM (jT jF {t:=dN (fz st.t kill) bp vs (ax st.c ks),n:=st.n,m:=cc st.m free ((ax st.c ks).drop (vs.flatMap CV.cells).length),c:=aX st.c ks,o:=bo st.c ks++cf st.o (aQ (vs.flatMap CV.cells++ms)),r:=st.r,d:=st.d,k:=st.k,df:=st.df}).o k=some x/\k ∉ jF.map (·.2):=λ{k x} hx=>by
                have yC:=wM (k:=k) (by rw [hx];simp)
                have Qx:∀p∈jF,k≠p.1/\k≠p.2:=λp hp=>by
                  obtain⟨s1,s2,s3,s4⟩:=stat p hp;refine⟨by omega,λe => ?_⟩;subst e;rw [xL,if_pos (List.of_mem_zip (uJ p hp)).2]at hx;cases hx
                refine⟨?_,λhm => ?_⟩
                · rw [Qg jF _ (λp hp => ?_) EF]
                  · simp only [CY];cases hg:aM (bo st.c ks) k with
                    |none=>exact hx
                    |some y=>have:=EE (k:=k) (by rw [hg];simp);omega
                  · obtain⟨s1,s2,s3,s4⟩:=stat p hp;exact⟨by omega,s4,Qx p hp⟩
                · obtain⟨p,hp,he⟩:=List.mem_map.1 hm;exact (Qx p hp).2 he.symm
              generalize Us:jT jF {t:=dN (fz st.t kill) bp vs (ax st.c ks),n:=st.n,m:=cc st.m free ((ax st.c ks).drop (vs.flatMap CV.cells).length),c:=aX st.c ks,o:=bo st.c ks++cf st.o (aQ (vs.flatMap CV.cells++ms)),r:=st.r,d:=st.d,k:=st.k,df:=st.df}=A_ at cX BP fS fO f1 f2 f3 f4 f5 f6 f7
              refine wpIn_loop_ghost (λk a w=>∃o4 uW,Inv ((ax st.c ks).map (vl (bo st.c ks) o4))/\μ ((ax st.c ks).map (vl (bo st.c ks) o4))=k/\Env.aE st.c ρ o4/\(∀j,j<st.c.nk->uW j=β j) /\
                Core W R Z o4 uW A_ a w /\
                exec (PA G.P W Q QM QP) G n rd yl b A_ (λe s=>match e with
                  | .normal=>match fL s.t bp,kL s.m s.o free with
                    |some kM,some mV =>
                      if pP A_ s bp free ((bo st.c ks).map (·.1)++jF.map (·.2))=true/\((aQ (ax st.c ks)).zip (aQ (kM.flatMap CV.cells++mV))).all (fun p=>jF.all fun q=>q.1 != p.1 || q.2 == p.2)=true/\kM.map CV.shape=vs.map CV.shape/\fy s.o (kM.flatMap CV.cells++mV)=some ks/\(aQ (kM.flatMap CV.cells++mV)).Nodup /\
                          (aQ (kM.flatMap CV.cells++mV)).all (λk=>(bo st.c ks).any (λx=>x.1 == k) || (cf st.o (aQ (vs.flatMap CV.cells++ms))).all λx=>x.1 != k)=true then
                        (λU=>Inv ((kM.flatMap CV.cells++mV).map (vl s.o U))/\μ ((kM.flatMap CV.cells++mV).map (vl s.o U))<μ ((ax st.c ks).map (vl (bo st.c ks) o4)))
                      else (PA G.P W Q QM QP).fail "loop: not the same"
                    |_, _ => (PA G.P W Q QM QP).fail "loop: values"
                  |e=>K e s) o4) (μ ((vs.flatMap CV.cells++ms).map (vl st.o ρ))) ?_ ?_
              · obtain⟨o4,uW,q1,q2,q3,q4,q5,q6,q7,q8,q9⟩:=Ei (bo st.c ks) st.o ρ β ks st.c β _ (λ_ _ h=>h) cX yw;refine⟨o4,uW,by rw [q5];exact h0,by rw [q5],q2,q3,BP ?_ (λp hp => ?_),q1 (by rw [q5];exact h0)⟩;rotate_left
                · obtain⟨⟨g0,g1,g2,g3⟩,_⟩:=q7 p (uJ p hp);have s2:=(stat p hp).2.1;rw [g0,g1,g2,g3,q3 _ (by omega),q3 _ (by omega),q3 _ (by omega),q3 _ (by omega)];exact⟨rfl,rfl,rfl,rfl⟩
                refine Qh hC.wf hC.kn hC (Env.aq _ _) q2 q3 El El rfl Ac q4 ⟨rfl,rfl,rfl,rfl⟩ (λi hi => ?_) (λk mj t hg => ?_) q6 q7 EC (λk x hx => ?_) (λk hk => ?_)
                · rw [Ek _ _ _ _ hi];rcases GU st.t i kill with h|h
                  · exact .inl h
                  · exact .inr h.symm
                · obtain⟨pS,p1,p2,p3⟩:=xN free st.m _ hg;exact⟨pS,p1,p2,p3⟩
                · rw [xL]at hx;split at hx
                  · cases hx
                  · exact hx
                · rw [xL,if_pos hk]
              · intro k a1 w1 hI;obtain⟨o4,uW,hinv,Ut,Qy,J7,Uu,hex⟩:=hI;have fQ:st.c.le A_.c:=by rw [f2];exact hle
                refine ih rd yl b _ _ o4 hex R Z r m uW a1 w1 Uu (hY.oK fQ Qy J7 (λ_ _=>rfl)) (pv.oK fQ J7) _ ?_;intro e s aB bc a2 w2 hk ho h1 h2 h3 dX;have l2:Env.aE st.c ρ aB:=Env.aj fQ Qy h2;have b2:∀j,j<st.c.nk->bc j=β j:=λj hj=>(h3 j (Nat.lt_of_lt_of_le hj fQ.k)).trans (J7 j hj);cases e with
                |exit id=>exact hn (.exit id) s aB bc a2 w2 hk ho (aw.le_trans fQ h1) l2 b2 dX
                |ret=>exact hn .ret s aB bc a2 w2 hk ho (aw.le_trans fQ h1) l2 b2 dX
                |j4 i=>exact hn (.j4 i) s aB bc a2 w2 hk ho (aw.le_trans fQ h1) l2 b2 dX
                |normal =>
                  simp only at hk;generalize tI:fL s.t bp=u5 at hk;generalize C0:kL s.m s.o free=u6 at hk;split at hk
                  · rename_i kM mV;split at hk
                    · rename_i iF;obtain⟨c1,Uv,c2,c3,c4,c5⟩:=iF;obtain⟨xP,eD⟩:=hk;obtain⟨s1,s2,s3,s4⟩:=T8 c1;rw [f3,f4,f5,f7]at s1;rw [f1]at s3;obtain⟨zL,nj,q1,q2,q3,q4,q5,q6,q7,q8,q9⟩:=Ei (bo st.c ks) s.o aB bc ks st.c bc _ (λ_ _ h=>h) cX c3;refine⟨μ ((kM.flatMap CV.cells++mV).map (vl s.o aB)),Ut▸eD,zL,nj,by rw [q5];exact xP,by rw [q5],q2,λj hj=>(q3 j hj).trans (b2 j hj),BP ?_ (λp hp => ?_),q1 (by rw [q5];exact xP)⟩;rotate_left
                      · obtain⟨y,hy⟩:=JR _ _ q6 p.1 (List.of_mem_zip (uJ p hp)).1
                        have hyp:p.2=y:=by
                          have h7:=List.all_eq_true.1 (List.all_eq_true.1 Uv (p.1,y) hy) p hp;simpa using h7
                        subst hyp;obtain⟨⟨g0,g1,g2,g3⟩,_⟩:=q7 _ hy;simp only at g0 g1 g2 g3;have s2:=(stat p hp).2.1;rw [g0,g1,g2,g3,q3 _ (by omega),q3 _ (by omega),q3 _ (by omega),q3 _ (by omega)];exact⟨rfl,rfl,rfl,rfl⟩
                      refine Qh hC.wf hC.kn dX l2 q2 q3 El tI c2 C0 q4 s1 (λi hi => ?_) s3 q6 q7 c4 (λk x hx => ?_) (λk hk => ?_)
                      · rw [<-fS i hi];exact s2 i hi
                      · obtain⟨g1,g2⟩:=fO hx;have yC:=wM (k:=k) (by rw [hx];simp);refine s4 k x g1 λh_ => ?_;rcases List.mem_append.1 h_ with h_|h_;rotate_left
                        · exact g2 h_
                        obtain⟨y,hy,rfl⟩:=List.mem_map.1 h_
                        have:∀(l:List CK) (c:aw),(∀y∈bo c l,c.nk<=y.1):=by
                          intro l
                          induction l with
                          |nil=>intro c y hy;cases hy
                          |cons kd l ih =>
                            intro c y hy;have tl:y∈bo (bd c kd) l->c.nk<=y.1:=λhy=>Nat.le_trans (JO c kd) (ih _ y hy)
                            cases kd<;>first
                              |exact tl hy
                              |skip
                            simp only [bo,List.mem_cons]at hy;rcases hy with rfl|hy
                            · exact Nat.le_refl _
                            · exact tl hy
                        have:=this ks st.c y hy
                        omega
                      · have:=List.all_eq_true.1 c5 k hk
                        simp only [Bool.or_eq_true,List.any_eq_true,beq_iff_eq,List.all_eq_true,bne_iff_ne,ne_eq]at this;rcases this with ⟨y,hy,he⟩|h
                        · cases hg:aM (cf st.o (aQ (vs.flatMap CV.cells++ms))) k with
                          |none=>rfl
                          |some x =>
                            have h5:=wM (k:=k) (by rw [hg];simp)
                            have:∀(l:List CK) (c:aw),(∀y∈bo c l,c.nk<=y.1):=by
                              intro l
                              induction l with
                              |nil=>intro c y hy;cases hy
                              |cons kd l ih =>
                                intro c y hy;have tl:y∈bo (bd c kd) l->c.nk<=y.1:=λhy=>Nat.le_trans (JO c kd) (ih _ y hy)
                                cases kd<;>first
                                  |exact tl hy
                                  |skip
                                simp only [bo,List.mem_cons]at hy;rcases hy with rfl|hy
                                · exact Nat.le_refl _
                                · exact tl hy
                            have:=this ks st.c y hy
                            omega
                        · cases hg:aM (cf st.o (aQ (vs.flatMap CV.cells++ms))) k with
                          |none=>rfl
                          |some x=>exact (h _ (GX hg) rfl).elim
                    · exact hk.elim
                  · exact hk.elim
        · exact h.elim
      · exact plain h
    |rangeFunc g ps assign body=>exact Uc hG ih (show exec (PA G.P W Q QM QP) G (n+1) rd yl (.rangeFunc g ps assign body) st K ρ by unfold exec;unfold vN vP;rw [H7];exact h) hC hY pv hn
    |_=>exact h.elim
end Vc
set_option linter.unusedVariables false
namespace Vc
open Go Go.RowKit
variable {P:Program} {W:e_} {Q:Value->Prop} {QM QP:World->Value->Prop}
inductive pU(ρ:Env)(s:St):St->Prop
 |refl:pU ρ s s
 |dP (x:Nat) (b:Bool) (e:BE) (h:ay s.t x=.cv (.one (.bool e))) (hb:e.den ρ=b):pU ρ s (s.dP x b)
def ez(ops:Array Oper)(ρ:Env)(s:St)(o:Oper)(b:Bool):Prop :=
 match o.guard with
 |none=>b=true
 |some (j,want)=>∃x,(ops[j]?).bind (·.dst)=some x/\((∃e,ay s.t x=.cv (.one (.bool e))/\(e.den ρ == want)=b)∨(ay s.t x=.eH/\b=false))
structure C1(s1:St)(o:Oper)(s':St)(sv:SV)(C:List Nat):Prop where
 n:s'.n=s1.n
 rs:s'.r=s1.r
 ds:s'.d=s1.d
 GG:s1.c.le s'.c
 wf:s'.WF
 slot:∀t,ay s'.t t=if o.dst=some t then sv else ay s1.t t
 dst:∀d,o.dst=some d->d<s1.n
 lt:∀k∈C,k<s1.c.nk
 same:∀k,k<s1.c.nk->k ∉ C->aK s'.m s'.o k=aK s1.m s1.o k
 GF:s'.df=s1.df
theorem jg.fR{s1 s':St}{o:Oper}{ρ:Env}{sv:SV}{C:List Nat}(h:jg P W s1 o ρ s' sv C):C1 s1 o s' sv C :=
 ⟨h.n,h.rs,h.ds,h.GG,h.wf,h.slot,h.dst,λk hk=>(h.IZ k hk).2,h.same,h.GF⟩
theorem Qz{s1:St}{o:Oper}(hw:s1.WF)(hp:jQ s1 o.dst .eH s1.c):C1 s1 o (s1.cr o.dst .eH s1.c) .eH []:=by
 obtain⟨q1,q2,q3,q4,q5,q6⟩:=lg s1 o.dst .eH s1.c;exact⟨q3,q5,q6,by rw [q1];exact aw.le_refl _,DZ hw (aw.le_refl _) hp,λt=>zn _ _ _ _ t,λd hd=>(hp d hd).1,λk hk=>(by cases hk),λk _ _=>(by rw [q2,q4]),(zm _ _ _ _).2⟩
inductive vc(P:Program)(W:e_)(ops:Array Oper)(ρ:Env)(fh:Nat->Prop)(i:Nat)(rd wr:List (Nat × Nat))(s:St)(o:Oper):St->SV->List Nat->Prop
 |skip (s1:St) (k:pU ρ s s1) (w:ez ops ρ s o false) (p:jQ s1 o.dst .eH s1.c):vc P W ops ρ fh i rd wr s o (s1.cr o.dst .eH s1.c) .eH []
 |run (s1 s':St) (sv:SV) (C:List Nat) (k:pU ρ s s1) (w:ez ops ρ s o true) (nd:∀c,o.op ≠ .defer c) (f:jg P W s1 o ρ s' sv C) (h1:∀k∈ba s1 o++aY s1 o++dM s1 o,fh k) (h2:∀x,o.dst=some x->∀k∈fx sv,fh k)
   (h4:∀k∈ba s1 o,(k,i)∈rd) (h5:∀k∈aY s1 o,(k,i)∈wr):vc P W ops ρ fh i rd wr s o s' sv C
theorem pU.c{ρ:Env}{s s1:St}(h:pU ρ s s1):s1.c=s.c/\s1.m=s.m/\s1.n=s.n/\s1.o=s.o/\s1.r=s.r/\s1.d=s.d:=by cases h<;>exact⟨rfl,rfl,rfl,rfl,rfl,rfl⟩
theorem pU.k{ρ:Env}{s s1:St}(h:pU ρ s s1):s1.k=s.k/\s1.df=s.df:=by cases h<;>exact⟨rfl,rfl⟩
theorem vc.kn{ops:Array Oper}{ρ:Env}{fh:Nat->Prop}{i:Nat}{rd wr:List (Nat × Nat)}{s s':St}{o:Oper}{sv:SV}{C:List Nat}(h:vc P W ops ρ fh i rd wr s o s' sv C)(hk:cd.den s.k ρ):cd.den s'.k ρ:=by
 cases h with
 |skip s1 k w p=>rw [(zm _ _ _ _).1,k.k.1];exact hk
 |run s1 _ _ _ k w nd f=>exact f.kn (by rw [k.k.1];exact hk)
theorem pU.wf{ρ:Env}{s s1:St}(h:pU ρ s s1)(hw:s.WF):s1.WF:=by
  cases h with
  |refl=>exact hw
  |dP x b e h hb =>
    refine⟨λi => ?_,hw.m,hw.o,hw.ap,hw.r,hw.d,hw.k,hw.df⟩;simp only [St.dP,zl];by_cases hi:x=i
    · rw [if_pos hi];rfl
    · rw [if_neg hi];exact hw.t i
theorem vc.fR{ops:Array Oper}{ρ:Env}{fh:Nat->Prop}{i:Nat}{rd wr:List (Nat × Nat)}{s s':St}{o:Oper}{sv:SV}{C:List Nat}(hw:s.WF)(h:vc P W ops ρ fh i rd wr s o s' sv C):∃s1,pU ρ s s1/\C1 s1 o s' sv C:=by
 cases h with
 |skip s1 k w p=>exact⟨s1,k,Qz (k.wf hw) p⟩
 |run s1 _ _ _ k w nd f=>exact⟨s1,k,f.fR⟩
def fE(ρ:Env)(x y:SV):Prop:=x=y∨∃e b,x=.cv (.one (.bool e))/\y=.cv (.one (.bool (.lit b)))/\e.den ρ=b
theorem fE.trans{ρ:Env}{x y z:SV}(h:fE ρ x y)(h':fE ρ y z):fE ρ x z:=by
 rcases h with rfl|⟨e,b,rfl,rfl,hb⟩
 ·exact h'
 ·rcases h' with rfl|⟨e',b',he,rfl,il⟩
  ·exact .inr ⟨e,b,rfl,rfl,hb⟩
  ·cases he;exact .inr ⟨e,b',rfl,rfl,hb.trans il⟩
theorem fE.any{ρ:Env}{x y:SV}(h:fE ρ x y)(hy:y ≠ .any):x ≠ .any:=by
 rcases h with rfl|⟨e,b,rfl,rfl,hb⟩
 ·exact hy
 ·simp
theorem fE.J8{ρ:Env}{x y:SV}(h:fE ρ x y)(hx:x ≠ .any):y ≠ .any:=by
 rcases h with rfl|⟨e,b,rfl,rfl,hb⟩
 ·exact hx
 ·simp
theorem fE.den{ρ:Env}{x y:SV}(h:fE ρ x y)(β:Nat->Nat):x.den ρ β=y.den ρ β:=by
 rcases h with rfl|⟨e,b,rfl,rfl,hb⟩
 ·rfl
 ·simp only [SV.den,CV.den,At.den,BE.den,hb]
theorem fE.ids{ρ:Env}{x y:SV}(h:fE ρ x y){k:Nat}(hk:k∈fx y):k∈fx x:=by
 rcases h with rfl|⟨e,b,rfl,rfl,hb⟩
 ·exact hk
 ·simp [fx,CV.cells,aN]at hk
theorem pU.same{ρ:Env}{s s1:St}(h:pU ρ s s1)(t:Nat):fE ρ (ay s.t t) (ay s1.t t):=by
  cases h with
  |refl=>exact .inl rfl
  |dP x b e hx hb =>
    simp only [St.dP,zl];by_cases ht:x=t
    · subst ht;rw [if_pos rfl];exact .inr ⟨e,b,hx,rfl,hb⟩
    · rw [if_neg ht];exact .inl rfl
theorem G1(a:At)(l:List At):aN (a::l)=aN [a]++aN l:=by
 cases a<;>simp [aN]
theorem J9(x y:List At):aN (x++y)=aN x++aN y:=by
 induction x with
 |nil=>rfl
 |cons a x ih=>rw [List.cons_append,G1,ih,G1 a x,List.append_assoc]
theorem G2{β an:Nat->Nat}{l:List (Nat × Nat)}(h:∀k∈l.map (·.1),an k=β k):(l.map λc=>(.pointer (some ⟨an c.1,c.2,none⟩):Value))=l.map λc=>.pointer (some ⟨β c.1,c.2,none⟩) :=
 List.map_congr_left λc hc=>by rw [h c.1 (List.mem_map.2 ⟨c,hc,rfl⟩)]
theorem aW.jL{ρ:Env}{β an:Nat->Nat}{a:aW}(h:∀k∈a.ids,an k=β k):a.den ρ an=a.den ρ β:=by
 cases a<;>first
  |rfl
  |skip
 case gY k o l m=>simp only [aW.den];rw [h k (by simp [aW.ids])]
 case own k=>simp only [aW.den];rw [h k (by simp [aW.ids]),h (k+1) (by simp [aW.ids]),h (k+2) (by simp [aW.ids]),h (k+3) (by simp [aW.ids])]
theorem At.jL{ρ:Env}{β an:Nat->Nat}:∀{a:At},(∀k∈aN [a],an k=β k)->a.den ρ an=a.den ρ β:=by
 intro a h;cases a
 case own k=>show dC _ _ _ _=dC _ _ _ _;rw [h k (by simp [aN]),h (k+1) (by simp [aN]),h (k+2) (by simp [aN]),h (k+3) (by simp [aN])]
 case qz k=>simp only [At.den];rw [h k (by simp [aN]),h (k+1) (by simp [aN]),h (k+2) (by simp [aN])]
 case fn f aI =>
  simp only [At.den];rw [G2 λk hk=>h k (by simp only [aN,List.append_nil];exact hk)]
 case ir f first aI =>
  simp only [At.den];rw [G2 (l:=first) λk hk=>h k (by simp only [aN,List.append_nil];exact List.mem_append.2 (.inl hk)),G2 (l:=aI) λk hk=>h k (by simp only [aN,List.append_nil];exact List.mem_append.2 (.inr hk))]
 case qM f first aI =>
  simp only [At.den];rw [G2 (l:=aI) λk hk=>h k (by simp only [aN,List.append_nil];exact List.mem_append.2 (.inr hk))]
  have:first.map (aW.den ρ an)=first.map (aW.den ρ β):=List.map_congr_left λx hx=>aW.jL λk hk=>h k (by
   simp only [aN,List.append_nil];exact List.mem_append.2 (.inl (List.mem_flatMap.2 ⟨x,hx,hk⟩)))
  rw [this]
 all_goals first
  |rfl
  | (simp only [At.den];rw [h _ (by simp [aN];done)])
theorem QA{a:At}{k:Nat}:∀{l:List At},a∈l->k∈aN [a]->k∈aN l
  |b::l,h,hk=>by
    rw [G1];rcases List.mem_cons.1 h with rfl|h
    · exact List.mem_append.2 (.inl hk)
    · exact List.mem_append.2 (.inr (QA h hk))
theorem G3{ρ:Env}{β an:Nat->Nat}{l:List At}(h:∀k∈aN l,an k=β k):l.map (At.den ρ an)=l.map (At.den ρ β) :=
 List.map_congr_left λa ha=>At.jL λk hk=>h k (QA ha hk)
theorem SV.jL{ρ:Env}{β an:Nat->Nat}:∀{x:SV},(∀k∈fx x,an k=β k)->x.den ρ an=x.den ρ β
  | .any,_=>rfl
  | .eH,_=>rfl
  | .cv (.one a),h=>At.jL h
  | .cv (.agg l),h=>by simp only [SV.den,CV.den];rw [G3 (l:=l) h]
  | .dt l,h=>by
    simp only [SV.den];congr 2;apply List.map_congr_left;intro c hc
    have hm:∀k∈aN c.cells,an k=β k:=λk hk=>h k (by
      simp only [fx]
      have:∀(l1:List CV),c∈l1->k∈aN (l1.flatMap CV.cells):=by
        intro l1 h1
        induction l1 with
        |nil=>cases h1
        |cons d l1 ih =>
          rw [List.flatMap_cons,J9];rcases List.mem_cons.1 h1 with rfl|h1
          · exact List.mem_append.2 (.inl hk)
          · exact List.mem_append.2 (.inr (ih h1))
      exact this l hc)
    cases c with
    |one a=>exact At.jL hm
    |agg l=>simp only [CV.den];rw [G3 (l:=l) hm]
theorem J_{ρ:Env}{β an:Nat->Nat}:∀{l:CE},(∀k∈l.flatMap di,an k=β k)->av ρ an l=av ρ β l
  | [],_=>rfl
  | .cG l::r,h=>by
    simp only [av,Sg.den];rw [G3 (l:=l) λk hk=>h k (by rw [List.flatMap_cons];exact List.mem_append.2 (.inl hk)),J_ (l:=r) λk hk=>h k (by rw [List.flatMap_cons];exact List.mem_append.2 (.inr hk))]
  | .var i::r,h=>by
    simp only [av,Sg.den];rw [J_ (l:=r) λk hk=>h k (by rw [List.flatMap_cons];exact List.mem_append.2 (.inr hk))]
def eE(k:Nat):qB->List Nat
 | .fix .. => [k]
 | .row .. => [k,k+1,k+2,k+3]
theorem Holds.wN{ρ:Env}{β an:Nat->Nat}{k:Nat}{w w':World}:∀ {e:qB},Holds W ρ β k e w->(∀ j∈eE k e,an j=β j)->(∀ j∈fD e,an j=β j) ->
    (∀b,bK β k e=some b->w'.heap[b]? = w.heap[b]?)->Holds W ρ an k e w'
  | .fix cs t,h,hs,hi,hh=>by
    have h0:an k=β k:=hs k (by simp [eE]);refine⟨by rw [h0];exact h.1, ?_⟩;rw [h0,G3 hi,hh _ rfl];exact h.2
  | .row ce sz t,h,hs,hi,hh=>by
    simp only [Holds]at h ⊢;rw [hs k (by simp [eE]),hs (k+1) (by simp [eE]),hs (k+2) (by simp [eE]),hs (k+3) (by simp [eE]),J_ hi];exact h.heap λh2=>hh (β k) (by simp only [bK,h2,if_true])
theorem J'{β an:Nat->Nat}{k:Nat}:∀{e:qB},(∀j∈eE k e,an j=β j)->bK an k e=bK β k e
 | .fix ..,hb=>by simp only [bK,hb k (by simp [eE])]
 | .row ..,hb=>by simp only [bK,hb k (by simp [eE]),hb (k+1) (by simp [eE])]
theorem G4{ops:Array Oper}{listed:Array Bool}(j6:∀ j oj,ops[j]? = some oj->listed.getD j false=true->∀ e∈oj.after,Region.binds .any e=true->listed.getD e.on false=true) :
    ∀(d i j:Nat) (o:Oper),ops[i]? = some o->(∀e∈o.after,Region.binds .any e=true->listed.getD e.on false=true)->reach ops d i j=true->listed.getD j false=true
  |0,i,j,o,ho,hi,h=>by cases h
  |d+1,i,j,o,ho,hi,h=>by
    simp only [reach,direct,ho,Bool.or_eq_true,Array.any_eq_true']at h;rcases h with ⟨e,he,hb⟩|⟨e,he,hb⟩
    · simp only [Bool.and_eq_true,decide_eq_true_eq]at hb;rw [<-hb.2];exact hi e he hb.1
    · simp only [Bool.and_eq_true]at hb;cases oJ:ops[e.on]? with
      |none =>
        cases d with
        |zero=>simp [reach]at hb
        |succ d=>simp [reach,direct,oJ]at hb
      |some o'=>exact G4 j6 d e.on j o' oJ (λe' eP il=>j6 e.on o' oJ (hi e he hb.1) e' eP il) hb.2
def oL(listed:Array Bool):Nat->Nat
 |0=>0
 |m+1=>oL listed m+if listed.getD m false=true then 0 else 1
theorem EG{listed:Array Bool}:∀{m:Nat},oL listed m=0->∀j,j<m->listed.getD j false=true
  |0,_,j,hj=>by omega
  |m+1,h,j,hj=>by
    simp only [oL]at h;by_cases hm:listed.getD m false=true
    · rw [if_pos hm]at h;by_cases Ka:j=m
      · subst Ka;exact hm
      · exact EG (by omega) j (by omega)
    · rw [if_neg hm]at h;omega
theorem G5{listed:Array Bool}:∀{m:Nat},0<oL listed m->∃j,j<m/\listed.getD j false=false/\∀i,i<j->listed.getD i false=true
  |0,h=>by simp [oL]at h
  |m+1,h=>by
    simp only [oL]at h;by_cases hp:0<oL listed m
    · obtain⟨j,h1,h2⟩:=G5 hp;exact⟨j,by omega,h2⟩
    · by_cases hm:listed.getD m false=true
      · rw [if_pos hm]at h;omega
      · exact⟨m,by omega,by simpa using hm,λi hi=>EG (by omega) i hi⟩
theorem Ad(listed:Array Bool)(i j:Nat)(hi:i<listed.size):(listed.setIfInBounds i true).getD j false=if i=j then true else listed.getD j false:=by
 simp only [Array.getD_eq_getD_getElem?,Array.getElem?_setIfInBounds];by_cases h:i=j
 ·subst h;simp [hi]
 ·simp [h]
theorem G6{listed:Array Bool}{i:Nat}(hi:i<listed.size)(hl:listed.getD i false=false):∀m,oL (listed.setIfInBounds i true) m+(if i<m then 1 else 0)=oL listed m
  |0=>by simp [oL]
  |m+1=>by
    have ih:=G6 hi hl m;simp only [oL,Ad listed i m hi];by_cases G7:i=m
    · subst G7;rw [if_pos rfl,hl];simp at ih ⊢;omega
    · rw [if_neg G7];by_cases h2:i<m
      · have h3:i<m+1:=by omega
        simp only [h2,if_true]at ih;simp only [h3,if_true];omega
      · have h3:¬i<m+1:=by omega
        simp only [h2,if_false]at ih;simp only [h3,if_false];omega
end Vc
set_option linter.unusedVariables false
namespace Vc
open Go Go.RowKit
variable {P:Program} {W:e_} {R:Nat->Loop} {Z:List Nat}
def laid(sts:Nat->St)(m k:Nat):Prop:=(sts m).c.nk<=k/\k<(sts (m+1)).c.nk
def tR(sts:Nat->St)(cs:Nat->List Nat)(m k:Nat):Prop:=k∈cs m∨laid sts m k
structure Way(P:Program)(W:e_)(ops:Array Oper)(n:Nat)(ρ:Env)(sts:Nat->St)(iw:Nat->SV)(cs:Nat->List Nat)(rd wr:List (Nat × Nat)):Prop where
 le:n<=ops.size
 wf:∀i,i<=n->(sts i).WF
 EH:∀i o,i<n->ops[i]? = some o->vc P W ops ρ (λk=>∀m,m<i->laid sts m k->reach ops 3 i m=true) i rd wr (sts i) o (sts (i+1)) (iw i) (cs i)
 apart:∀k i j,((k,i)∈rd∨(k,i)∈wr)->(k,j)∈wr->i=j∨(j<i/\pK ops i j=true)∨(i<j/\pK ops j i=true)
 rows:∀i,i<=n->∀k ce sz t,aK (sts i).m (sts i).o k=some (.row ce sz t)->∀m,m<n->∀d,d<4->laid sts m (k+d)->laid sts m k
theorem EI{c:aw}:∀{l:List At},l.all (At.wf c)=true->∀k∈aN l,k<c.nk
  | [],_,k,h=>by cases h
  |a::l,hw,k,h=>by
    simp only [List.all_cons,Bool.and_eq_true]at hw;rw [G1]at h;replace h:=List.mem_append.1 h;rcases h with h|h
    · have tT:=hw.1
      have aI:∀{x:List (Nat × Nat)},(x.all λy=>decide (y.1<c.nk))=true->k∈x.map (·.1)->k<c.nk:=λhx hk=>by
        obtain⟨y,hy,rfl⟩:=List.mem_map.1 hk;simpa using List.all_eq_true.1 hx y hy
      cases a<;>simp only [aN,List.mem_cons,List.not_mem_nil,or_false,List.append_nil]at h
      case own j=>simp only [At.wf,decide_eq_true_eq]at tT;omega
      case omap j=>simp only [At.wf,decide_eq_true_eq]at tT;omega
      case qz j=>simp only [At.wf,decide_eq_true_eq]at tT;omega
      case fn f cp=>exact aI tT h
      case ir f fi cp =>
        have sN:((fi.all λx=>decide (x.1<c.nk)) && cp.all λx=>decide (x.1<c.nk))=true:=tT;simp only [Bool.and_eq_true]at sN;rcases List.mem_append.1 h with h|h
        · exact aI sN.1 h
        · exact aI sN.2 h
      case qM f fi cp =>
        have sN:((fi.all λx=>x.wf c) && cp.all λx=>decide (x.1<c.nk))=true:=tT;simp only [Bool.and_eq_true]at sN;rcases List.mem_append.1 h with h|h
        · obtain⟨x,hx,hk⟩:=List.mem_flatMap.1 h;have GK:=List.all_eq_true.1 sN.1 x hx;cases x<;>simp only [aW.ids,List.mem_cons,List.not_mem_nil,or_false]at hk
          · simp only [aW.wf,decide_eq_true_eq]at GK;omega
          · simp only [aW.wf,decide_eq_true_eq]at GK;omega
        · exact aI sN.2 h
      all_goals (subst h;simp only [At.wf,Bool.and_eq_true,decide_eq_true_eq]at tT;first|exact tT|exact tT.1)
    · exact EI hw.2 k h
theorem Ae{c:aw}{x:SV}(h:x.wf c=true):∀k∈fx x,k<c.nk:=by
  cases x with
  |any=>intro k hk;cases hk
  |eH=>intro k hk;cases hk
  |cv v=>exact EI (CV.eu h)
  |dt l =>
    refine EI (c:=c) ?_;refine List.all_eq_true.2 λa ha => ?_;obtain⟨v,hv,Uw⟩:=List.mem_flatMap.1 ha;exact List.all_eq_true.1 (CV.eu (List.all_eq_true.1 h v hv)) a Uw
theorem Kb{st:St}(h:st.WF){o:Oper}:∀k∈dM st o,k<st.c.nk:=by
 intro k hk;unfold dM at hk;split at hk
 ·exact Ae (h.ev _) k hk
 ·exact Ae (h.ev _) k hk
 ·exact (List.mem_append.1 hk).elim (Ae (h.ev _) k) (Ae (h.ev _) k)
 ·exact (List.mem_append.1 hk).elim (Ae (h.ev _) k) (Ae (h.ev _) k)
 ·obtain⟨p,_,hp⟩:=List.mem_flatMap.1 hk;exact Ae (h.ev _) k hp
 ·cases hk
section
variable {ops:Array Oper} {n:Nat} {ρ:Env} {sts:Nat->St} {iw:Nat->SV} {cs:Nat->List Nat} {rd wr:List (Nat × Nat)}
theorem Way.get(hw:Way P W ops n ρ sts iw cs rd wr){i:Nat}(hi:i<n):∃o,ops[i]? = some o:=⟨ops[i]'(Nat.lt_of_lt_of_le hi hw.le),Array.getElem?_eq_getElem _⟩
theorem Way.fR(hw:Way P W ops n ρ sts iw cs rd wr){i:Nat}{o:Oper}(hi:i<n)(ho:ops[i]? = some o):∃s1,pU ρ (sts i) s1/\C1 s1 o (sts (i+1)) (iw i) (cs i):=(hw.EH i o hi ho).fR (hw.wf i (by omega))
theorem Way.step(hw:Way P W ops n ρ sts iw cs rd wr){i:Nat}{o:Oper}(hi:i<n)(ho:ops[i]? = some o) :
  (sts (i+1)).n=(sts i).n/\(sts (i+1)).r=(sts i).r/\(sts (i+1)).d=(sts i).d/\(sts i).c.le (sts (i+1)).c/\(∀t,o.dst≠some t->fE ρ (ay (sts i).t t) (ay (sts (i+1)).t t)) /\
   (∀t,o.dst=some t->ay (sts (i+1)).t t=iw i)/\(∀d,o.dst=some d->d<(sts i).n)/\(∀k∈cs i,k<(sts i).c.nk)/\(∀k,k<(sts i).c.nk->k ∉ cs i->aK (sts (i+1)).m (sts (i+1)).o k=aK (sts i).m (sts i).o k):=by
 obtain⟨s1,hk,h⟩:=hw.fR hi ho;obtain⟨k1,k2,k3,k4,k5,k6⟩:=hk.c;refine⟨h.n.trans k3,h.rs.trans k5,h.ds.trans k6,by rw [<-k1];exact h.GG,λt ht => ?_,λt ht=>by rw [h.slot,if_pos ht],λd hd=>by rw [<-k3];exact h.dst d hd,λk hk=>by rw [<-k1];exact h.lt k hk,λk hk hc=>by rw [h.same k (by rw [k1];exact hk) hc,k2,k4]⟩;rw [h.slot,if_neg ht];exact hk.same t
theorem Way.nk(hw:Way P W ops n ρ sts iw cs rd wr):∀(j i:Nat),i<=j->j<=n->(sts i).c.nk<=(sts j).c.nk
  | 0, i, h, _ => by obtain rfl:i=0:=by omega
                     exact Nat.le_refl _
  |j+1,i,h,hj=>by
    by_cases hi:i=j+1
    · subst hi;exact Nat.le_refl _
    · obtain⟨o,ho⟩:=hw.get (i:=j) (by omega);exact Nat.le_trans (hw.nk j i (by omega) (by omega)) (hw.step (by omega) ho).2.2.2.1.k
theorem Way.n0(hw:Way P W ops n ρ sts iw cs rd wr):∀j,j<=n->(sts j).n=(sts 0).n/\(sts j).r=(sts 0).r/\(sts j).d=(sts 0).d/\(sts 0).c.le (sts j).c
  |0,_=>⟨rfl,rfl,rfl,aw.le_refl _⟩
  |j+1,hj=>by
    obtain⟨o,ho⟩:=hw.get (i:=j) (by omega);obtain⟨h1,h2,h3,h4,_⟩:=hw.step (by omega) ho;obtain⟨g1,g2,g3,g4⟩:=hw.n0 j (by omega);exact⟨h1.trans g1,h2.trans g2,h3.trans g3,aw.le_trans g4 h4⟩
theorem Way.kn(hw:Way P W ops n ρ sts iw cs rd wr)(h0:cd.den (sts 0).k ρ):∀j,j<=n->cd.den (sts j).k ρ
  |0,_=>h0
  |j+1,hj=>by
    obtain⟨o,ho⟩:=hw.get (i:=j) (by omega);exact (hw.EH j o (by omega) ho).kn (hw.kn h0 j (by omega))
theorem Way.df(hw:Way P W ops n ρ sts iw cs rd wr):∀j,j<=n->(sts j).df=(sts 0).df
  |0,_=>rfl
  |j+1,hj=>by
    obtain⟨o,ho⟩:=hw.get (i:=j) (by omega);obtain⟨s1,hk,h⟩:=hw.fR (by omega) ho;exact h.GF.trans (hk.k.2.trans (hw.df j (by omega)))
theorem Way.same(hw:Way P W ops n ρ sts iw cs rd wr){t:Nat}:∀(j i:Nat),i<=j->j<=n->(∀m,i<=m->m<j->∀o,ops[m]? = some o->o.dst≠some t)->fE ρ (ay (sts i).t t) (ay (sts j).t t)
  | 0, i, h, _, _ => by obtain rfl:i=0:=by omega
                        exact .inl rfl
  |j+1,i,h,hj,hd=>by
    by_cases hi:i=j+1
    · subst hi;exact .inl rfl
    · obtain⟨o,ho⟩:=hw.get (i:=j) (by omega);exact (hw.same j i (by omega) (by omega) (λm h1 h2=>hd m h1 (by omega))).trans ((hw.step (by omega) ho).2.2.2.2.1 t (hd j (by omega) (by omega) o ho))
theorem Way.jf(hw:Way P W ops n ρ sts iw cs rd wr){m k:Nat}(hm:m<n)(h:¬tR sts cs m k):aK (sts (m+1)).m (sts (m+1)).o k=aK (sts m).m (sts m).o k:=by
 obtain⟨o,ho⟩:=hw.get hm;by_cases hk:k<(sts m).c.nk
 ·exact (hw.step hm ho).2.2.2.2.2.2.2.2 k hk λhc=>h (.inl hc)
 ·have jr:(sts (m+1)).c.nk<=k:=by
   rcases Nat.lt_or_ge k (sts (m+1)).c.nk with h'|h'
   ·exact (h (.inr ⟨by omega,h'⟩)).elim
   ·exact h'
  rw [(hw.wf (m+1) (by omega)).beyond jr,(hw.wf m (by omega)).beyond (by omega)]
theorem Way.chain(hw:Way P W ops n ρ sts iw cs rd wr){k:Nat}:∀(j i:Nat),i<=j->j<=n->(∀m,i<=m->m<j->¬tR sts cs m k)->aK (sts j).m (sts j).o k=aK (sts i).m (sts i).o k
  | 0, i, h, _, _ => by obtain rfl:i=0:=by omega
                        rfl
  |j+1,i,h,hj,hd=>by
    by_cases hi:i=j+1
    · subst hi;rfl
    · rw [hw.jf (by omega) (hd j (by omega) (by omega))];exact hw.chain j i (by omega) (by omega) (λm h1 h2=>hd m h1 (by omega))
theorem Way.cls(hw:Way P W ops n ρ sts iw cs rd wr){m k:Nat}(hm:m<n)(h:k∈cs m):(k,m)∈wr/\k<(sts m).c.nk/\∀i,i<m->laid sts i k->reach ops 3 m i=true:=by
  obtain⟨o,ho⟩:=hw.get hm;have hl:=(hw.step hm ho).2.2.2.2.2.2.2.1 k h;have hf:=hw.EH m o hm ho;generalize hC:cs m=C at hf h;generalize hS:iw m=sv at hf;generalize hs:sts (m+1)=s' at hf;cases hf with
  |skip=>cases h
  |run s1 _ _ _ kn w nd f h1 h2 h4 h5 =>
    have G8:=(f.IZ k h).1;exact⟨h5 k G8,hl,h1 k (List.mem_append.2 (.inl (List.mem_append.2 (.inr G8))))⟩
theorem Way.dst(hw:Way P W ops n ρ sts iw cs rd wr){i:Nat}{o:Oper}(hi:i<n)(ho:ops[i]? = some o){x:Nat}(hx:o.dst=some x){k:Nat}(hk:k∈fx (iw i)){m:Nat}(hm:m<i)(hl:laid sts m k):reach ops 3 i m=true:=by
 have hf:=hw.EH i o hi ho;generalize hC:cs i=C at hf;generalize hS:iw i=sv at hf hk;generalize hs:sts (i+1)=s' at hf;cases hf with
 |skip=>cases hk
 |run s1 _ _ _ kn w nd f h1 h2 h4 h5=>exact h2 x hx k hk m hm hl
theorem wO(h:eJ ops=true){i:Nat}{o:Oper}(ho:ops[i]? = some o) :
  (∀e∈o.after,Region.binds .any e=true->e.on<i)/\∀j p,ops[j]? = some p ->
   ∀d,p.dst=some d->(i=j∨o.dst≠some d)/\(d∈o.looksAt ops->(j<i/\direct ops i j=true)∨(i<j/\direct ops j i=true)):=by
 have hi:i<ops.size:=(Array.getElem?_eq_some_iff.1 ho).1;have h1:=List.all_eq_true.1 h i (List.mem_range.2 hi);simp only [ho,Bool.and_eq_true]at h1;refine⟨λe he hb => ?_,λj p hp d hd => ?_⟩
 ·have:=Array.all_eq_true_iff_forall_mem.1 h1.1 e he
  simpa [hb]using this
 ·have hj:j<ops.size:=(Array.getElem?_eq_some_iff.1 hp).1;have h2:=List.all_eq_true.1 h1.2 j (List.mem_range.2 hj);simp only [hp,hd,Bool.and_eq_true,decide_eq_true_eq,Bool.or_eq_true,Bool.not_eq_true']at h2;refine⟨h2.1,λhm => ?_⟩;rcases h2.2 with (h4|h4)|h4
  ·rw [List.contains_iff_mem.2 hm]at h4;cases h4
  ·exact .inl h4
  ·exact .inr h4
def cut(n:Nat)(sts:Nat->St)(cs:Nat->List Nat)(listed:Array Bool)(k i:Nat):Prop:=∀m,m<n->tR sts cs m k->(m<i↔listed.getD m false=true)
structure Inv(W:e_)(R:Nat->Loop)(Z:List Nat)(ops:Array Oper)(n:Nat)(ρ:Env)(sts:Nat->St)(cs:Nat->List Nat)(a0:Act)(bE:Nat->Nat)(listed:Array Bool)(a:Act)(w:World)(β:Nat->Nat):Prop where
 ri:listed.size=ops.size
 closed:∀j oj,ops[j]? = some oj->listed.getD j false=true->∀e∈oj.after,Region.binds .any e=true->listed.getD e.on false=true
 only:∀j,n<=j->listed.getD j false=false
 size:a.tmps.size=(sts 0).n
 kQ:a.defers=gG bE (sts 0).df++marksOf bE (sts 0).d
 below:dT W w
 s2:∀t i o,i<n->ops[i]? = some o->o.dst=some t->listed.getD i false=true->ay (sts n).t t ≠ .any->a.tmps[t]? = some ((ay (sts n).t t).den ρ β)
 s3:∀t,(∀i o,i<n->ops[i]? = some o->o.dst=some t->listed.getD i false=false)->a.tmps[t]? = a0.tmps[t]?
 mem:∀k i,i<=n->cut n sts cs listed k i->∀e,aK (sts i).m (sts i).o k=some e->Holds W ρ β k e w
 Kc:∀k i,i<=n->cut n sts cs listed k i->∀e,aK (sts i).m (sts i).o k=some e->∀x∈fD e,∀m,m<n->laid sts m x->listed.getD m false=true
 inj:∀k k' i i',i<=n->i'<=n->cut n sts cs listed k i->cut n sts cs listed k' i'->∀e e' b,aK (sts i).m (sts i).o k=some e->aK (sts i').m (sts i').o k'=some e'->bK β k e=some b->bK β k' e'=some b->k=k'
 gz:∀k e,fI (sts 0).r k=some e->w.heap[bE k]? = some (.loop (recAt (R k) e))
 ia:∀b∈Z++(sts 0).d.map bE,w.heap[b]? = some (.deferred (some []))
 agree:∀k,k<(sts 0).c.nk->β k=bE k
theorem Kd(hw:Way P W ops n ρ sts iw cs rd wr)(hd:eJ ops=true){a0 a:Act}{bE β:Nat->Nat}{w0 w:World}(hC:Core W R Z ρ bE (sts 0) a0 w0){listed:Array Bool}
    (inv:Inv W R Z ops n ρ sts cs a0 bE listed a w β) {i:Nat} {o:Oper} (hi:i<n) (ho:ops[i]? = some o) (gT:listed.getD i false=false) (hr:∀e∈o.after,Region.binds .any e=true->listed.getD e.on false=true) {t:Nat} (ht:t∈o.looksAt ops) (hn:ay (sts i).t t ≠ .any) :
    a.tmps[t]? = some ((ay (sts i).t t).den ρ β):=by
  obtain⟨_,Aa⟩:=wO hd ho
  have early:(∀m o',m<n->ops[m]? = some o'->o'.dst=some t->listed.getD m false=false)->fE ρ (ay (sts 0).t t) (ay (sts i).t t)->a.tmps[t]? = some ((ay (sts i).t t).den ρ β):=λh1 gO=>by
    rw [inv.s3 t h1,hC.tmps t (gO.any hn),<-gO.den,SV.ae (Env.aq _ ρ) inv.agree (hC.wf.t t)]
  by_cases hx:∃(j:Nat) (p:Oper),ops[j]? = some p/\p.dst=some t
  · obtain⟨j,p,hp,qC⟩:=hx
    have one:∀m q,ops[m]? = some q->q.dst=some t->m=j:=λm q hq BQ=>by
      rcases ((wO hd hq).2 j p hp t qC).1 with h4|h4
      · exact h4
      · exact (h4 BQ).elim
    obtain⟨_,h2⟩:=Aa j p hp t qC;rcases h2 ht with ⟨Xr,wP⟩|⟨sP,wP⟩
    · have mo:listed.getD j false=true:=by
        simp only [direct,ho,Array.any_eq_true',Bool.and_eq_true,decide_eq_true_eq]at wP;obtain⟨e,he,hb,rfl⟩:=wP;exact hr e he hb
      have gO:fE ρ (ay (sts i).t t) (ay (sts n).t t):=hw.same n i (by omega) (Nat.le_refl _) λm h1 h3 q hq BQ=>by
        have:=one m q hq BQ;omega
      rw [inv.s2 t j p (by omega) hp qC mo (gO.J8 hn),gO.den]
    · have Ux:listed.getD j false=false:=by
        cases mo:listed.getD j false with
        |false=>rfl
        |true =>
          simp only [direct,hp,Array.any_eq_true',Bool.and_eq_true,decide_eq_true_eq]at wP;obtain⟨e,he,hb,rfl⟩:=wP;rw [inv.closed j p hp mo e he hb]at gT;cases gT
      refine early (λm o' _ hm he=>by rw [one m o' hm he];exact Ux) (hw.same i 0 (by omega) (by omega) λm h1 h3 q hq BQ => ?_)
      have:=one m q hq BQ;omega
  · have rj:∀(m:Nat) (o':Oper),ops[m]? = some o'->o'.dst≠some t:=λm o' hm he=>hx ⟨m,o',hm,he⟩;exact early (λm o' _ hm he=>(rj m o' hm he).elim) (hw.same i 0 (by omega) (by omega) λm _ _ q hq=>rj m q hq)
theorem Ke(hw:Way P W ops n ρ sts iw cs rd wr)(hd:eJ ops=true){a0 a:Act}{bE β:Nat->Nat}{w0 w:World}(hC:Core W R Z ρ bE (sts 0) a0 w0){listed:Array Bool}
    (inv:Inv W R Z ops n ρ sts cs a0 bE listed a w β) {i:Nat} {o:Oper} (hi:i<n) (ho:ops[i]? = some o) (gT:listed.getD i false=false) (hr:∀e∈o.after,Region.binds .any e=true->listed.getD e.on false=true) {s1:St} (hk:pU ρ (sts i) s1):eG s1 o ρ β a:=by
  intro x hx hn;cases x with
  |tmp t =>
    have hs:=hk.same t;have mn:ay s1.t t ≠ .any:=hn
    have:=Kd hw hd hC inv hi ho gT hr (t:=t) (by
      simp only [Oper.looksAt,List.mem_append];exact .inl (List.mem_filterMap.2 ⟨.tmp t,Array.mem_toList_iff.2 hx,rfl⟩)) (hs.any mn)
    show a.tmps.getD t undef=_;rw [Array.getD_eq_getD_getElem?,this,Option.getD_some];exact hs.den β
  |const v=>exact ((SV.db v s1.c ρ β).2 hn).symm
  |global g=>exact IY (by rw [hk.k.1];exact hw.kn hC.kn i (by omega)) hn β
  |func f=>rfl
theorem QB(hw:Way P W ops n ρ sts iw cs rd wr)(hd:eJ ops=true){a0 a:Act}{bE β:Nat->Nat}{w0 w:World}(hC:Core W R Z ρ bE (sts 0) a0 w0){listed:Array Bool}
    (inv:Inv W R Z ops n ρ sts cs a0 bE listed a w β) {i:Nat} {o:Oper} (hi:i<n) (ho:ops[i]? = some o) (gT:listed.getD i false=false) (hr:∀e∈o.after,Region.binds .any e=true->listed.getD e.on false=true) {b:Bool} (hb:ez ops ρ (sts i) o b):Region.wanted o (yielded ops a.tmps)=b:=by
  unfold ez at hb;cases hg:o.guard with
  |none=>rw [hg]at hb;simp only at hb;subst hb;simp [Region.wanted,hg]
  |some jw =>
    obtain⟨j,want⟩:=jw;rw [hg]at hb;obtain⟨x,hx,hb⟩:=hb
    have rk:x∈o.looksAt ops:=by
      simp only [Oper.looksAt,hg,List.mem_append];exact .inr (by simp [hx])
    rcases hb with ⟨e,he,hb⟩|⟨he,rfl⟩
    · have:=Kd hw hd hC inv hi ho gT hr rk (by rw [he];simp)
      rw [he]at this;have hy:=Jy (b:=e.den ρ) hx this;simp only [Region.wanted,hg,hy];exact hb
    · have:=Kd hw hd hC inv hi ho gT hr rk (by rw [he];simp)
      rw [he]at this;have hy:=Jz hx this;simp [Region.wanted,hg,hy]
theorem EJ:∀(l acc:List Nat) {x:Nat},x∈jE acc l->x∈acc∨x∈l
  | [],acc,x,h=>.inl h
  |y::l,acc,x,h=>by
    simp only [jE]at h;rcases EJ l _ h with h|h
    · split at h
      · exact .inl h
      · rcases List.mem_cons.1 h with rfl|h
        · exact .inr (by simp)
        · exact .inl h
    · exact .inr (by simp [h])
theorem QC{ops:Array Oper}{listed:Array Bool}{i:Nat}{o:Oper}(ho:ops[i]? = some o)(hi:∀e∈o.after,Region.binds .any e=true->listed.getD e.on false=true):∀j∈dS ops i,listed.getD j false=true:=by
 intro j hj;unfold dS at hj;rw [ho]at hj;obtain⟨e,he,rfl⟩:=List.mem_map.1 hj;obtain⟨h1,h2⟩:=List.mem_filter.1 he;exact hi e (by simpa using h1) h2
theorem QD{ops:Array Oper}{listed:Array Bool}(j6:∀ j oj,ops[j]? = some oj->listed.getD j false=true->∀ e∈oj.after,Region.binds .any e=true->listed.getD e.on false=true) :
    ∀(d:Nat) (acc:List Nat),(∀j∈acc,listed.getD j false=true)->∀j∈behind ops d acc,listed.getD j false=true
  |0,acc,h,j,hj=>h j hj
  |d+1,acc,h,j,hj=>by
    refine QD j6 d _ (λk hk => ?_) j hj;rcases EJ _ _ hk with hk|hk
    · exact h k hk
    · obtain⟨m,hm,G9⟩:=List.mem_flatMap.1 hk;cases ho:ops[m]? with
      |none=>unfold dS at G9;rw [ho]at G9;cases G9
      |some o=>exact QC ho (j6 m o ho (h m hm)) k G9
theorem Kg{ops:Array Oper}{listed:Array Bool}(j6:∀j oj,ops[j]? = some oj->listed.getD j false=true->∀e∈oj.after,Region.binds .any e=true->listed.getD e.on false=true){i j:Nat}{o:Oper}(ho:ops[i]? = some o)
  (hi:∀e∈o.after,Region.binds .any e=true->listed.getD e.on false=true) (h:CC ops i j=true):listed.getD j false=true:=by
 unfold CC at h;generalize hN:10=N at h;have hj:j∈behind ops N (jE [] (dS ops i)):=List.contains_iff_mem.1 h;refine QD j6 N _ (λk hk => ?_) j hj;rcases EJ _ _ hk with hk|hk
 ·cases hk
 ·exact QC ho hi k hk
theorem Uy{ops:Array Oper}{i j:Nat}{o:Oper}{listed:Array Bool}(ho:ops[i]? = some o)(hr:∀e∈o.after,Region.binds .any e=true->listed.getD e.on false=true)(h:direct ops i j=true):listed.getD j false=true:=by
 simp only [direct,ho,Array.any_eq_true',Bool.and_eq_true,decide_eq_true_eq]at h;obtain⟨e,he,hb,rfl⟩:=h;exact hr e he hb
theorem QF{ops:Array Oper}{listed:Array Bool}(j6:∀j oj,ops[j]? = some oj->listed.getD j false=true->∀e∈oj.after,Region.binds .any e=true->listed.getD e.on false=true){i j:Nat}{o:Oper}(ho:ops[i]? = some o)
  (hi:∀e∈o.after,Region.binds .any e=true->listed.getD e.on false=true) (h:pK ops i j=true):listed.getD j false=true:=by
 unfold pK at h;rcases Bool.or_eq_true _ _▸h with h|h
 ·exact Uy ho hi h
 ·exact Kg j6 ho hi h
theorem later{a0 a:Act}{bE β:Nat->Nat}{w:World}{listed:Array Bool}(inv:Inv W R Z ops n ρ sts cs a0 bE listed a w β){i m:Nat}(gT:listed.getD i false=false)(hm:m<ops.size)(h:reach ops 3 m i=true):listed.getD m false=false:=by
  cases yD:listed.getD m false with
  |false=>rfl
  |true =>
    have EK:ops[m]? = some ops[m]:=Array.getElem?_eq_getElem hm;rw [G4 inv.closed 3 m i _ EK (inv.closed m _ EK yD) h]at gT;cases gT
theorem EL{a0 a:Act}{bE β:Nat->Nat}{w:World}{listed:Array Bool}(inv:Inv W R Z ops n ρ sts cs a0 bE listed a w β){i m:Nat}(gT:listed.getD i false=false)(hm:m<ops.size)(h:pK ops m i=true):listed.getD m false=false:=by
  cases yD:listed.getD m false with
  |false=>rfl
  |true =>
    have EK:ops[m]? = some ops[m]:=Array.getElem?_eq_getElem hm;rw [QF inv.closed EK (inv.closed m _ EK yD) h]at gT;cases gT
theorem Kh(hw:Way P W ops n ρ sts iw cs rd wr){a0 a:Act}{bE β:Nat->Nat}{w:World}{listed:Array Bool}(inv:Inv W R Z ops n ρ sts cs a0 bE listed a w β){i:Nat}{o:Oper}(hi:i<n)(ho:ops[i]? = some o)
  (gT:listed.getD i false=false) (hr:∀e∈o.after,Region.binds .any e=true->listed.getD e.on false=true) {k:Nat} (hk:k<(sts i).c.nk) (D8:(k,i)∈rd∨(k,i)∈wr) (hold:∀m,m<i->laid sts m k->reach ops 3 i m=true):cut n sts cs listed k i:=by
 intro m hm ht;have Ac:m<ops.size:=Nat.lt_of_lt_of_le hm hw.le;rcases ht with hc|hl
 ·obtain⟨h1,_,_⟩:=hw.cls hm hc;rcases hw.apart k i m D8 h1 with rfl|⟨a1,a2⟩|⟨a1,a2⟩
  ·exact⟨λh=>by omega,λh=>by rw [h]at gT;cases gT⟩
  ·exact⟨λ_=>QF inv.closed ho hr a2,λ_=>a1⟩
  ·refine⟨λh=>by omega,λh => ?_⟩;rw [EL inv gT Ac a2]at h;cases h
 ·refine⟨λh=>G4 inv.closed 3 i m o ho hr (hold m h hl),λh => ?_⟩;rcases Nat.lt_or_ge m i with h'|h'
  ·exact h'
  ·have:=hw.nk m i h' (by omega)
   have:=hl.1
   omega
end
end Vc
