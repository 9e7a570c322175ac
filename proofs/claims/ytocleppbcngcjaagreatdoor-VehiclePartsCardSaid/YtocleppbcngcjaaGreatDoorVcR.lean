import Derived.Test.YtocleppbcngcjaaGreatDoorVcM
import Derived.LoopNIn
import Derived.Sort.LoopGhostIn
import Derived.RangeFuncIn
set_option linter.unusedVariables false
set_option linter.unusedSimpArgs false
namespace Vc
open Go Go.RowKit
variable {W:dR} {Q:Value->Prop} {QM QP:World->Value->Prop}
theorem xy(r:List (Nat × Option Ex))(j i:Nat)(v:Option Ex):eF ((j,v)::r) i=if j=i then some v else eF r i:=rfl
theorem EI:∀(r:List (Nat × Option Ex)) (k i:Nat) (e:Option Ex),eF (lG r k e) i=if k=i then (eF r i).map (λ_=>e)else eF r i
  | [],k,i,e=>by simp [lG,eF]
  | (j,v)::r,k,i,e=>by
    simp only [lG];by_cases hj:j=k
    · subst hj;rw [if_pos rfl,xy,xy];by_cases hi:j=i
      · simp [hi]
      · rw [if_neg hi,if_neg hi,if_neg hi,EI r j i e,if_neg hi]
    · rw [if_neg hj,xy,xy,EI r k i e];by_cases hi:j=i
      · rw [if_pos hi,if_pos hi,if_neg (λh=>hj (hi.trans h.symm))]
      · rw [if_neg hi,if_neg hi]
theorem EJ:∀(r:List (Nat × Option Ex)) (k i:Nat),eF (lH r k) i=if k=i then none else eF r i
  | [],k,i=>by simp [lH,eF]
  | (j,v)::r,k,i=>by
    simp only [lH];by_cases hj:j=k
    · subst hj;rw [if_pos rfl,EJ r j i,xy];by_cases hi:j=i
      · rw [if_pos hi,if_pos hi]
      · rw [if_neg hi,if_neg hi,if_neg hi]
    · rw [if_neg hj,xy,xy,EJ r k i];by_cases hi:j=i
      · rw [if_pos hi,if_pos hi,if_neg (λh=>hj (hi.trans h.symm))]
      · rw [if_neg hi,if_neg hi]
section
variable {R:Nat->Loop} {Z:List Nat}
theorem Core.drop{U:Env}{β:Nat->Nat}{st:St}{a:Act}{w:World}(hC:Core W R Z U β st a w)(pP:st.df=[]):Core W R Z U β {st with d := []} {a with defers := []} w :=
 ⟨hC.size,hC.tmps,by simp [fm,marksOf,pP],hC.below,hC.mem,hC.inj,hC.ft,hC.jz,λb hb=>hC.gd b (List.mem_append.2 (.inl (by simpa using hb))),by simpa using (List.nodup_append.1 hC.dn).1,⟨hC.wf.t,hC.wf.m,hC.wf.o,hC.wf.ap,hC.wf.r,λk hk=>(by cases hk),hC.wf.k,hC.wf.df⟩,hC.kn⟩
theorem Holds.put{U:Env}{β:Nat->Nat}{k:Nat}{w:World}{e:pI}{c:ar}(h:Holds W U β k e w)(hw:od c k e){l:Nat}{r:Loop}(hl:w.heap[l]? = some (.loop r))(o:Obj):Holds W U β k e (w.putObj l o):=by
 refine h.cA hw (Env.an _ _) (λ_ _=>rfl) λb hb=>World.putObj_heap_other λhe => ?_;obtain⟨_,_,c,hc,hd⟩:=h.vI b hb;rw [he,hl]at hc;cases hc;exact hd
theorem dz.putObj{w:World}(h:dz W w){l:Nat}(hl:W.heap.size<=l)(o:Obj):dz W (w.putObj l o) :=
 dz.mk h.os h.tape h.output (by simpa using h.size) λk hk hn=>by rw [World.putObj_heap_other (by omega)];exact h.block k hk hn
theorem Rt{U:Env}{β:Nat->Nat}{st:St}{a:Act}{w:World}(hC:Core W R Z U β st a w){k:Nat}{e e':Option Ex}(hg:eF st.r k=some e) :
  Core W R Z U β {st with r:=lG st.r k e'} a (w.putObj (β k) (.loop (recAt (R k) e'))):=by
 obtain⟨l1,l2⟩:=hC.ft k e hg;refine⟨hC.size,hC.tmps,hC.jF,dz.putObj hC.below l1 _,λj x hj=>(hC.mem j x hj).put (hC.wf.dU hj) l2 _,hC.inj,λj x hj => ?_,λj j' x x' hj ta he => ?_,λb hb=>⟨(hC.gd b hb).1, ?_⟩,hC.dn,⟨hC.wf.t,hC.wf.m,hC.wf.o,hC.wf.ap,λj x hj => ?_,hC.wf.d,hC.wf.k,hC.wf.df⟩,hC.kn⟩
 ·rw [EI]at hj;by_cases hk:k=j
  ·subst hk;rw [if_pos rfl,hg]at hj;simp only [Option.map_some,Option.some.injEq]at hj;subst hj;exact⟨l1,World.putObj_heap_same (bM l2)⟩
  ·rw [if_neg hk]at hj;refine⟨(hC.ft j x hj).1, ?_⟩;rw [World.putObj_heap_other λhe=>hk (hC.jz j k x e hj hg he).symm];exact (hC.ft j x hj).2
 ·have f:∀{j x},eF (lG st.r k e') j=some x->∃y,eF st.r j=some y:=λ{j x} hj=>by
   rw [EI]at hj;by_cases hk:k=j
   ·exact⟨e,hk▸hg⟩
   ·rw [if_neg hk]at hj;exact⟨x,hj⟩
  obtain⟨y,hy⟩:=f hj;obtain⟨y',eZ⟩:=f ta;exact hC.jz j j' y y' hy eZ he
 ·rw [World.putObj_heap_other λhe => ?_]
  ·exact (hC.gd b hb).2
  ·have:=(hC.gd b hb).2
   rw [he,l2]at this;cases this
 ·rw [EI]at hj;by_cases hk:k=j
  ·exact hk▸hC.wf.r k e hg
  ·rw [if_neg hk]at hj;exact hC.wf.r j x hj
theorem Ru(U:Env)(β:Nat->Nat):∀ (ps:List Tmp) (args:List SV) (t:List (Nat × SV)) (tmps:Array Value),args.length=ps.length->(∀ p∈ps,p < tmps.size) ->
    (∀i,av t i ≠ .any->tmps[i]? = some ((av t i).den U β))->∀i,av (mD t ps args) i ≠ .any ->
      ((ps.zip (args.map (SV.den U β))).foldl (λ(x:Array Value) (y:Tmp × Value)=>x.setIfInBounds y.1 y.2) tmps)[i]? = some ((av (mD t ps args) i).den U β)
  | [],args,t,tmps,hl,_,h,i,hi=>by
    cases args with
    |nil=>exact h i hi
    |cons _ _=>simp at hl
  |p::ps,[],t,tmps,hl,_,_,_,_=>by simp at hl
  |p::ps,v::args,t,tmps,hl,hp,h,i,hi=>by
    simp only [mD,List.map_cons,List.zip_cons_cons,List.foldl_cons]at hi ⊢;refine Ru U β ps args _ _ (by simpa using hl) (λq hq=>by simpa using hp q (by simp [hq])) (λj hj => ?_) i hi;rw [zl]at hj ⊢;by_cases oT:p=j
    · subst oT;rw [if_pos rfl]
      have:=hp p (by simp)
      simp [this]
    · rw [if_neg oT]at hj ⊢;rw [Array.getElem?_setIfInBounds_ne oT];exact h j hj
theorem Rv:∀(l:List (Tmp × Value)) (tmps:Array Value),(l.foldl (λ(x:Array Value) (y:Tmp × Value)=>x.setIfInBounds y.1 y.2) tmps).size=tmps.size
 | [],_=>rfl
 |p::l,tmps=>by rw [List.foldl_cons,Rv l];simp
theorem Rw{c:ar}:∀(ps:List Tmp) (args:List SV) (t:List (Nat × SV)),args.all (SV.wf c)=true->(∀i,(av t i).wf c=true)->∀i,(av (mD t ps args) i).wf c=true
  | [],args,t,_,h,i=>by cases args<;>exact h i
  |p::ps,[],t,_,h,i=>h i
  |p::ps,v::args,t,ha,h,i=>by
    simp only [List.all_cons,Bool.and_eq_true]at ha;refine Rw ps args _ ha.2 (λj => ?_) i;rw [zl];by_cases hj:p=j
    · rw [if_pos hj];exact ha.1
    · rw [if_neg hj];exact h j
end
def ll(rd r:Option Nat)(st:St)(β:Nat->Nat):Prop :=
 match rd with
 |none=>r=none
 |some k=>r=some (β k)/\k<st.c.nk
theorem ll.lN{rd r:Option Nat}{st s:St}{β ak:Nat->Nat}(h:ll rd r st β)(hc:st.c.le s.c)(hb:∀k,k<st.c.nk->ak k=β k):ll rd r s ak:=by
 cases rd with
 |none=>exact h
 |some k=>exact⟨by rw [hb k h.2];exact h.1,Nat.lt_of_lt_of_le h.2 hc.k⟩
def vX(G:bF)(W:dR)(Q:Value->Prop)(QM QP:World->Value->Prop):Prop :=
  ∀(R:Nat->Loop) (Z:List Nat) (r:Option Nat) (n:Nat) (inl:xI (Env->Prop)) (yl:Yl (Env->Prop)) (qT:Bool) (KP:Nat->St->Env->Prop) id ops st (K:St->Env->Prop) U,rH (PA G.P W Q QM QP) G inl yl qT KP ops st K U->∀β a w,Core W R Z U β st a w->∀(Q':Exit->Act->World->Prop),sV G W R Z st.c U β Q' inl->nF G.P W R st.c U β yl->(qT=true->r=none)->sW W R Z st.c U β Q' KP ->
    ∀(next:Act->World->Prop),(∀a w,next a w->Q' .normal a w)->uG W R Z st U β K next->(Code.region id ops true).wpIn (Fr r) n G.P Q' a w
def Bj(G:bF)(W:dR)(Q:Value->Prop)(QM QP:World->Value->Prop)(n:Nat):Prop :=
  ∀(rd:Option Nat) (yl:Yl (Env->Prop)) (c:Code) (st:St) (K:Ex->St->Env->Prop) (U:Env),exec (PA G.P W Q QM QP) G n rd yl c st K U ->
    ∀(R:Nat->Loop) (Z:List Nat) (r:Option Nat) (m:Nat) (β:Nat->Nat) (a:Act) (w:World),Core W R Z U β st a w->nF G.P W R st.c U β yl->ll rd r st β->∀Q':Exit->Act->World->Prop,mR W R Z st U β K Q'->c.wpIn (Fr r) m G.P Q' a w
theorem VE{P:Program}{R:Nat->Loop}{Z:List Nat}{rd r:Option Nat}{st:St}{U:Env}{β:Nat->Nat}{a:Act}{w:World}(hC:Core W R Z U β st a w)(og:ll rd r st β)(dC:vq st.r rd=true)
    (fn:FuncId) (tmps:Array Value) (ps:Array Tmp) (assign body:Code) :
    ∃l mark w1 D,(Instr.enterLoop fn tmps ps assign body (Fr r).round).run P w=.ok (l,mark) w1/\w1.heap[l]? = some (.loop {state := .ready,pending:=none,fn,tmps,params:=ps,assign,body,defers:=D})/\(∀k,k<w.heap.size->w1.heap[k]? = w.heap[k]?) /\
      w.heap.size<=l/\w1.os=w.os/\w1.tape=w.tape/\w1.output=w.output/\w.heap.size<=w1.heap.size /\
      (rd.isSome=true->mark=[])/\(rd.isSome=false->mark=[{target := .collected w.heap.size,args := #[]}]/\w1.heap[w.heap.size]? = some (.deferred (some []))):=by
  cases rd with
  |none =>
    have hr:r=none:=og;subst hr;refine⟨_,_,_,w.heap.size,run_enterLoop_outer fn tmps ps assign body, ?_⟩;refine⟨?_,λk hk => ?_,by simp,rfl,rfl,rfl,by simp;omega,(λh=>nomatch h),λ(_:false=false)=>And.intro rfl ?_⟩
    · have:=World.alloc_heap_new (w.alloc (.deferred (some []))) (.loop {state := .ready,pending:=none,fn,tmps,params:=ps,assign,body,defers:=w.heap.size})
      rwa [World.size_alloc]at this
    · rw [Below.heap_alloc _ _ _ (by simp;omega),Below.heap_alloc _ _ _ hk]
    · rw [Below.heap_alloc _ _ _ (by simp)];exact World.alloc_heap_new w _
  |some k =>
    obtain⟨hr,hk⟩:=og;subst hr;obtain⟨e,he⟩:=Option.isSome_iff_exists.1 dC;have hl:=(hC.ft k e he).2;refine⟨_,_,_,_,run_enterLoop_inner hl fn tmps ps assign body,World.alloc_heap_new w _,λj hj=>Below.heap_alloc _ _ _ hj,Nat.le_refl _,rfl,rfl,rfl,by simp,λ_=>rfl,λh=>(by cases h)⟩
theorem VF{G:bF}(hG:G.Ok){n:Nat}(ih:Bj G W Q QM QP n){rd:Option Nat}{yl:Yl (Env->Prop)}{g:Operand}{ps:Array Tmp}{assign body:Code}{st:St}{K:Ex->St->Env->Prop}{U:Env}
    (h:exec (PA G.P W Q QM QP) G (n+1) rd yl (.rangeFunc g ps assign body) st K U) {R:Nat->Loop} {Z:List Nat} {r:Option Nat} {m:Nat} {β:Nat->Nat} {a:Act} {w:World} (hC:Core W R Z U β st a w) (hY:nF G.P W R st.c U β yl) (og:ll rd r st β)
    {Q':Exit->Act->World->Prop} (hn:mR W R Z st U β K Q'):(Code.rangeFunc g ps assign body).wpIn (Fr r) m G.P Q' a w:=by
  unfold exec at h;cases g with
  |tmp g =>
    simp only at h;unfold vu at h;generalize hg:av st.t g=sv at h;split at h;rotate_left
    · exact h.elim
    rename_i f aB;by_cases gy:(G.inl.contains f=true/\g<st.n/\vq st.r rd=true/\st.df=[]);rotate_left
    · rw [if_neg gy]at h;exact h.elim
    rw [if_pos gy]at h;obtain⟨hf,Zg,Kw,Kx⟩:=gy;generalize Ky:G.P.funcs[f]? = u at h;cases u with
    |none=>exact h.elim
    |some fn =>
    simp only at h;generalize hb:fn.body=u at h;cases u with
    |none=>exact h.elim
    |some b =>
    simp only at h;have tY:(SV.cv (.one (.fn f aB))).wf st.c=true:=by rw [<-hg];exact hC.wf.t g
    have mf:∀x∈aB,x.1<st.c.nk:=λx hx=>by simpa using List.all_eq_true.1 tY x hx
    have eg:a.eval (.tmp g)=.func (.func f) #[] (aB.map λc=>.pointer (some ⟨β c.1,c.2,none⟩)).toArray:=by
      have:=hC.eval (.tmp g) (by show av st.t g≠_;rw [hg];simp)
      rw [this];show (av st.t g).den U β=_;rw [hg];rfl
    refine wpIn_rangeFunc λEK _ => ?_;obtain⟨l,mark,w1,D,vS,yb,hold,C9,Kz,oU,C_,fW,Rx,KA⟩:=VE (P:=G.P) hC og Kw EK a.tmps ps assign body;generalize Bk:({state := .ready,pending:=none,fn:=EK,tmps:=a.tmps,params:=ps,assign:=assign,body:=body,defers:=D}:Loop)=rec at yb;have vY:recAt rec none=rec:=by rw [<-Bk];rfl
    have mS:rec.tmps=a.tmps/\rec.params=ps/\rec.assign=assign/\rec.body=body:=by rw [<-Bk];exact⟨rfl,rfl,rfl,rfl⟩
    let kr:=st.c.nk;let eE:Nat->Nat:=λk=>if k=st.c.nk then l else if k=st.c.nk+1 then w.heap.size else β k
    have lO:∀k,k<st.c.nk->eE k=β k:=λk hk=>by
      show (if k=st.c.nk then l else if k=st.c.nk+1 then w.heap.size else β k)=β k;rw [if_neg (by omega),if_neg (by omega)]
    have ub:eE st.c.nk=l:=if_pos rfl
    have KB:eE (st.c.nk+1)=w.heap.size:=by
      show (if st.c.nk+1=st.c.nk then l else if st.c.nk+1=st.c.nk+1 then w.heap.size else _)=_;rw [if_neg (by omega),if_pos rfl]
    let R1:Nat->Loop:=λk=>if k=st.c.nk then rec else R k;have mT:∀k,k<st.c.nk->R1 k=R k:=λk hk=>if_neg (by omega);have Bl:R1 st.c.nk=rec:=if_pos rfl;have Bm:st.c.le {st.c with nk:=st.c.nk+2}:=ar.jV st.c 2;let args:List SV:=SV.cv (.one (.rq st.c.nk))::aB.map cV
    have EL:args.all (SV.wf {st.c with nk:=st.c.nk+2})=true:=by
      refine List.all_eq_true.2 λx hx => ?_;rcases List.mem_cons.1 hx with rfl|hx
      · show decide (st.c.nk<st.c.nk+2)=true;simp
      · obtain⟨y,hy,rfl⟩:=List.mem_map.1 hx
        have:=mf y hy
        show decide (y.1<st.c.nk+2)=true;simp;omega
    have eu:(args.map (SV.den U eE)).toArray=#[.func (.yield l) #[] #[]]++(aB.map λc=>(.pointer (some ⟨β c.1,c.2,none⟩):Value)).toArray:=by
      apply Array.ext';simp only [args,List.map_cons,Array.toList_append];show Value.func (.yield (eE st.c.nk)) #[] #[]::_=_;rw [ub];simp only [List.map_map,List.cons_append,List.nil_append,List.cons.injEq,true_and];apply List.map_congr_left;intro x hx;show Value.pointer (some ⟨eE x.1,x.2,none⟩)=_;rw [lO x.1 (mf x hx)]
    have VG:dz W w1:=dz.mk (Kz.trans hC.below.os) (oU.trans hC.below.tape) (C_.trans hC.below.output) (Nat.le_trans hC.below.size fW) λk hk hn=>by
      rw [hold k (Nat.lt_of_lt_of_le hk hC.below.size)];exact hC.below.block k hk hn
    have vW:st.d.map eE=st.d.map β:=List.map_congr_left λk hk=>lO k (hC.wf.d k hk);have kW:∀k∈Z++st.d.map β,k<w.heap.size:=λk hk=>bM (hC.gd k hk).2
    have EM:∀{k e},aE st.m st.o k=some e->Holds W U eE k e w1:=λ{k e} hk =>
      (hC.mem k e hk).cA (hC.wf.dU hk) (Env.an _ _) lO λb hb=>hold b ((hC.mem k e hk).vI b hb).2.1
    have base:Core W R1 (Z++st.d.map β++(if rd.isSome=true then []else [w.heap.size])) U eE {t:=(List.range args.length).zip args,n:=args.length + (fn.ntmps - args.length),m:=st.m,c := {st.c with nk:=st.c.nk + 2},o:=st.o,r:=(st.c.nk,none)::st.r,d := [],k:=st.k}
        {tmps:=(args.map (SV.den U eE)).toArray++Array.replicate (fn.ntmps-(args.map (SV.den U eE)).toArray.size) undef,defers := []} w1:=by
      have g:=hC.wf.grow Bm;refine⟨by simp,λi hi => ?_,rfl,VG,λk e hk=>EM hk,λk k' e e' b' hx hy ky lh => ?_,λk e hk => ?_,λk k' e e' hx hy he => ?_,λb' gg => ?_, ?_,⟨λi => ?_,g.m,g.o,g.ap,λk e hk => ?_,λk hk=>(by cases hk),g.k,λx hx=>(by cases hx)⟩,hC.kn⟩
      · simp only [C4]at hi ⊢;cases ln:args[i]? with
        |none=>rw [ln]at hi;exact (hi rfl).elim
        |some v =>
          have cn:i<args.length:=(List.getElem?_eq_some_iff.1 ln).1;rw [Array.getElem?_append_left (by simpa using cn)];simp [ln]
      · rw [Ed (hC.wf.dU hx) lO]at ky;rw [Ed (hC.wf.dU hy) lO]at lh
        exact hC.inj k k' e e' b' hx hy ky lh
      · rw [xy]at hk;by_cases cC:st.c.nk=k
        · rw [if_pos cC]at hk;cases hk;subst cC;rw [ub,Bl,vY];exact⟨Nat.le_trans hC.below.size C9,yb⟩
        · rw [if_neg cC]at hk;have cn:=hC.wf.r k e hk;rw [lO k cn,mT k cn,hold _ (bM (hC.ft k e hk).2)];exact hC.ft k e hk
      · rw [xy]at hx hy;by_cases h1:st.c.nk=k<;>by_cases h2:st.c.nk=k'
        · omega
        · rw [if_neg h2]at hy;rw [<-h1,ub,lO k' (hC.wf.r k' e' hy)]at he
          have:=bM (hC.ft k' e' hy).2
          omega
        · rw [if_neg h1]at hx;rw [<-h2,ub,lO k (hC.wf.r k e hx)]at he
          have:=bM (hC.ft k e hx).2
          omega
        · rw [if_neg h1]at hx;rw [if_neg h2]at hy;rw [lO k (hC.wf.r k e hx),lO k' (hC.wf.r k' e' hy)]at he;exact hC.jz k k' e e' hx hy he
      · simp only [List.map_nil,List.append_nil]at gg;rcases List.mem_append.1 gg with gg|gg
        · exact⟨(hC.gd b' gg).1,by rw [hold b' (kW b' gg)];exact (hC.gd b' gg).2⟩
        · cases dC:rd.isSome with
          |true=>rw [dC]at gg;simp at gg
          |false =>
            rw [dC]at gg;simp at gg;subst gg;exact⟨hC.below.size,(KA dC).2⟩
      · simp only [List.map_nil,List.append_nil];refine List.nodup_append.2 ⟨hC.dn,by split<;>simp,λx hx y hy => ?_⟩
        have:=kW x hx
        split at hy
        · cases hy
        · simp at hy;omega
      · simp only [C4];cases ln:args[i]? with
        |none=>rfl
        |some v=>exact List.all_eq_true.1 EL v (List.mem_of_getElem? ln)
      · rw [xy]at hk;by_cases cC:st.c.nk=k
        · simp only;omega
        · rw [if_neg cC]at hk
          have:=hC.wf.r k e hk
          simp only;omega
    have post:∀ (s':St) (af:Env) (ak:Nat->Nat) (a':Act) (w':World),Core W R1 (Z++st.d.map β++(if rd.isSome=true then []else [w.heap.size])) af ak {s' with d := []} a' w'->({st.c with nk:=st.c.nk + 2}:ar).le s'.c->Env.ay {st.c with nk:=st.c.nk + 2} U af->(∀ k,k < st.c.nk + 2->ak k=eE k) ->
        (match eF s'.r st.c.nk with
          |some none=>K .normal {t:=st.t,n:=st.n,m:=s'.m,c:=s'.c,o:=s'.o,r:=lH s'.r st.c.nk,d:=if rd.isSome=true then st.d else (st.c.nk+1)::st.d,k:=s'.k}
          |some (some .normal) => (PA G.P W Q QM QP).fail "range: busy"
          |some (some (.iP _)) => (PA G.P W Q QM QP).fail "range: panic"
          |some (some e)=>K e {t:=st.t,n:=st.n,m:=s'.m,c:=s'.c,o:=s'.o,r:=lH s'.r st.c.nk,d:=if rd.isSome=true then st.d else (st.c.nk+1)::st.d,k:=s'.k}
          |none => (PA G.P W Q QM QP).fail "range: record") af -> ∃ jump w4, (Instr.endLoop l).run G.P w' = .ok jump w4 /\ (match jump with | none => Q' .normal { a with defers := mark ++ a.defers } w4 | some c => c.wpIn (Fr r) m G.P Q' { a with defers := mark ++ a.defers } w4) := by
      intro s' af ak a' w' dY EN rK gg hk;have b1:∀k,k<st.c.nk->ak k=β k:=λk hk=>(gg k (by omega)).trans (lO k hk);have b2:ak st.c.nk=l:=(gg _ (by omega)).trans ub;have b3:ak (st.c.nk+1)=w.heap.size:=(gg _ (by omega)).trans KB;have cX:Env.ay st.c U af:=⟨rK.i,rK.b,rK.v,rK.p,rK.s,rK.l⟩;have mN:st.c.le s'.c:=ar.le_trans Bm EN
      have back:∀(e:Option Ex) (o:Obj),eF s'.r st.c.nk=some e->Core W R Z af ak {t:=st.t,n:=st.n,m:=s'.m,c:=s'.c,o:=s'.o,r:=lH s'.r st.c.nk,d:=if rd.isSome=true then st.d else (st.c.nk+1)::st.d,k:=s'.k} {a with defers:=mark++a.defers} (w'.putObj l o):=by
        intro e o kU;obtain⟨l1,l2⟩:=dY.ft st.c.nk e kU;rw [b2]at l1 l2;have Ry:st.d.map ak=st.d.map β:=List.map_congr_left λk hk=>b1 k (hC.wf.d k hk)
        have Bh:(if rd.isSome=true then st.d else (st.c.nk+1)::st.d).map ak=(if rd.isSome=true then []else [w.heap.size])++st.d.map β:=by
          split
          · simpa using Ry
          · simp only [List.map_cons,b3,Ry,List.singleton_append]
        refine⟨hC.size,λi hi => ?_, ?_,dz.putObj dY.below l1 _,λk e hg=>(dY.mem k e hg).put (dY.wf.dU hg) l2 _,dY.inj,λk x hg => ?_,λk k' x x' hg ep he => ?_,λb hb => ?_, ?_,
          ⟨λi=>SV.aL mN (hC.wf.t i),dY.wf.m,dY.wf.o,dY.wf.ap,λk x hg => ?_,λk hk => ?_,dY.wf.k,λx hx=>(by cases hx)⟩,dY.kn⟩
        · rw [show ({a with defers:=mark++a.defers}:Act).tmps=a.tmps from rfl,hC.tmps i hi];exact congrArg some (SV.aa cX b1 (hC.wf.t i)).symm
        · show mark++a.defers=fm ak []++_;rw [hC.jF,Kx];simp only [fm,List.map_nil,List.nil_append]
          have EO:marksOf β st.d=marksOf ak st.d:=by
            simp only [marksOf];exact List.map_congr_left λk hk=>by rw [b1 k (hC.wf.d k hk)]
          cases dC:rd.isSome with
          |true=>rw [Rx dC,EO];rfl
          |false=>rw [(KA dC).1,EO];simp [marksOf,b3]
        · rw [EJ]at hg;split at hg
          · cases hg
          · rename_i cC;have EP:=dY.ft k x hg;refine⟨EP.1, ?_⟩;have cW:ak k≠l:=λhe=>cC (dY.jz st.c.nk k e x kU hg (by rw [b2,he]));rw [World.putObj_heap_other cW,EP.2]
            have:R1 k=R k:=if_neg (λhe=>cC he.symm)
            rw [this]
        · rw [EJ]at hg ep;split at hg
          · cases hg
          · split at ep
            · cases ep
            · exact dY.jz k k' x x' hg ep he
        · rw [Bh]at hb
          have fY:b∈Z++st.d.map β++(if rd.isSome=true then []else [w.heap.size]):=by
            simp only [List.mem_append]at hb ⊢;rcases hb with hb|hb|hb
            · exact .inl (.inl hb)
            · exact .inr hb
            · exact .inl (.inr hb)
          have:=dY.gd b (by simpa using fY)
          refine⟨this.1, ?_⟩;rw [World.putObj_heap_other λhe => ?_]
          · exact this.2
          · have h2:=this.2;rw [he,l2]at h2;cases h2
        · rw [Bh]
          have:=dY.dn
          simp only [List.map_nil,List.append_nil]at this;obtain⟨n1,n2,n3⟩:=List.nodup_append.1 this;obtain⟨n4,n5,n6⟩:=List.nodup_append.1 n1;refine List.nodup_append.2 ⟨n4,List.nodup_append.2 ⟨n2,n5,λx hx y hy he=>n3 y (List.mem_append.2 (.inr hy)) x hx he.symm⟩,λx hx y hy => ?_⟩;rcases List.mem_append.1 hy with hy|hy
          · exact n3 x (List.mem_append.2 (.inl hx)) y hy
          · exact n6 x hx y hy
        · rw [EJ]at hg;split at hg
          · cases hg
          · exact dY.wf.r k x hg
        · have C5:st.c.nk+2<=s'.c.nk:=EN.k;split at hk
          · have:=hC.wf.d k hk
            simp only;omega
          · rcases List.mem_cons.1 hk with rfl|hk
            · simp only;omega
            · have:=hC.wf.d k hk
              simp only;omega
      have ends:∀(x:Option Ex),eF s'.r st.c.nk=some x->w'.heap[l]? = some (.loop (recAt rec x)):=λx hx=>by
        have:=(dY.ft st.c.nk x hx).2
        rw [b2,Bl]at this;exact this
      generalize pQ:eF s'.r st.c.nk=gr at hk;cases gr with
      |none=>exact hk.elim
      |some x =>
        have hh:=ends x pQ;cases x with
        |none =>
          refine⟨none,_,(run_endLoop (P:=G.P) hh (by simp [recAt])).trans rfl, ?_⟩;exact hn .normal _ af ak _ _ hk trivial mN cX b1 (back none _ pQ)
        |some e =>
          cases e with
          |normal=>exact hk.elim
          |exit id =>
            refine⟨some (.exit id),_,(run_endLoop (P:=G.P) hh (by simp [recAt])).trans rfl, ?_⟩;exact wpIn_exit (hn (.exit id) _ af ak _ _ hk trivial mN cX b1 (back _ _ pQ))
          |ret =>
            refine⟨some .ret,_,(run_endLoop (P:=G.P) hh (by simp [recAt])).trans rfl, ?_⟩;exact wpIn_ret (hn .ret _ af ak _ _ hk trivial mN cX b1 (back _ _ pQ))
          |iP i=>exact hk.elim
    refine⟨l,mark,w1,{target := .fn (.func f) (aB.map λc=>(.pointer (some ⟨β c.1,c.2,none⟩):Value)).toArray,args := #[.func (.yield l) #[] #[]]},w1,f,(args.map (SV.den U eE)).toArray,w1,vS, ?_,λf' _=>tW r f', ?_,Ez,J2.2 (Kc (n:=0) Ky hb ?_)⟩
    · simp only [resolve,rangeCall,eg];simp [Deferred.ofValue,Act.eval]
    · simp only [invoke];rw [eu];exact hG.inl f hf _ w1
    refine ih none _ b _ _ U h R1 _ none 0 eE _ w1 base ?_ rfl _ ?_;rotate_left
    ·
      intro e s' af ak a' w' hk _ h1 h2 h3 dY;by_cases pP:s'.df=[];rotate_left
      · rw [if_pos pP]at hk;exact hk.elim
      rw [if_neg (by simpa using pP)]at hk
      have fin:(match di G.P s' fn.results.toList with
          |some _=>match eF s'.r st.c.nk with
            |some none=>K .normal {t:=st.t,n:=st.n,m:=s'.m,c:=s'.c,o:=s'.o,r:=lH s'.r st.c.nk,d:=if rd.isSome=true then st.d else (st.c.nk+1)::st.d,k:=s'.k}
            |some (some .normal) => (PA G.P W Q QM QP).fail "range: busy"
            |some (some (.iP _)) => (PA G.P W Q QM QP).fail "range: panic"
            |some (some e)=>K e {t:=st.t,n:=st.n,m:=s'.m,c:=s'.c,o:=s'.o,r:=lH s'.r st.c.nk,d:=if rd.isSome=true then st.d else (st.c.nk+1)::st.d,k:=s'.k}
            |none => (PA G.P W Q QM QP).fail "range: record"
          |none => (PA G.P W Q QM QP).fail "range: results") af -> LeavesInM (Fr none) 0 G.P fn a'.tmps (rangePost (Fr r) m G.P l Q' { a with defers := mark ++ a.defers }) a'.defers .returning w' := by
        intro hk;generalize hr:di G.P s' fn.results.toList=u at hk;cases u with
        |none=>exact hk.elim
        |some vs=>exact Rc dY pP hr λw3 vR _=>post s' af ak _ w3 vR h1 h2 h3 hk
      cases e with
      |normal=>exact fin hk
      |ret=>exact fin hk
      |exit id=>exact hk.elim
      |iP i=>exact hk.elim
    ·
      intro k lq s K' aw hy uH iI fX R' Rz Z' bc a2 w2 dL dE r2 n2 next' kY
      have gw:st.c.le s.c:=ar.le_trans Bm iI;have cX:Env.ay st.c U aw:=⟨fX.i,fX.b,fX.v,fX.p,fX.s,fX.l⟩;have k_:∀k,k<st.c.nk->bc k=β k:=λk hk=>(dL k (by simp only;omega)).trans (lO k hk);have VH:∀k,k<st.c.nk->R' k=R k:=λk hk=>(Rz k (by simp only;omega)).trans (mT k hk);have KC:nF G.P W R' s.c aw bc yl:=hY.lN gw cX k_ VH;split at hy;rotate_left
      · exact KC k lq s K' aw hy uH (ar.le_refl _) (Env.an _ _) R' (λ_ _=>rfl) Z' bc a2 w2 (λ_ _=>rfl) dE r2 n2 next' kY
      rename_i cC;subst cC;split at hy;rotate_left
      · exact hy.elim
      rename_i Bn;obtain⟨Bo,ER,KD⟩:=Bn;have vZ:bc st.c.nk=l:=(dL _ (by simp only;omega)).trans ub;have ES:R' st.c.nk=rec:=(Rz _ (by simp only;omega)).trans Bl
      have hh:w2.heap[l]? = some (.loop rec):=by
        have:=(dE.ft _ _ Bo).2
        rw [vZ,ES,vY]at this;exact this
      have RB:=run_yield (P:=G.P) (args:=(lq.map (SV.den aw bc)).toArray) hh (by rw [mS.2.1];simpa using ER);rw [mS.1,mS.2.1,mS.2.2.1,mS.2.2.2]at RB;refine⟨l,rec.fn,_,assign,body,by rw [vZ];exact RB,roundIn_of_wpIn (tW r2 _) ?_⟩
      have VI:Core W R' (Z'++s.d.map bc) aw bc {t:=mD st.t ps.toList lq,n:=st.n,m:=s.m,c:=s.c,o:=s.o,r:=s.r,d := [],k:=s.k}
          {tmps:=(ps.zip (lq.map (SV.den aw bc)).toArray).foldl (λ(tmps:Array Value) (x:Tmp × Value)=>tmps.setIfInBounds x.1 x.2) a.tmps,defers := []} w2:=by
        have hz:(ps.zip (lq.map (SV.den aw bc)).toArray).foldl (λ(tmps:Array Value) (x:Tmp × Value)=>tmps.setIfInBounds x.1 x.2) a.tmps=(ps.toList.zip (lq.map (SV.den aw bc))).foldl (λ(x:Array Value) (y:Tmp × Value)=>x.setIfInBounds y.1 y.2) a.tmps:=by
          rw [<-Array.foldl_toList,Array.toList_zip]
        rw [hz];refine⟨by simp only [Rv];exact hC.size,λi hi => ?_,rfl,dE.below,dE.mem,dE.inj,dE.ft,dE.jz,λb hb=>dE.gd b (by simpa using hb),by simpa using dE.dn,⟨λi => ?_,dE.wf.m,dE.wf.o,dE.wf.ap,dE.wf.r,λk hk=>(by cases hk),dE.wf.k,λx hx=>(by cases hx)⟩,dE.kn⟩
        · refine Ru aw bc ps.toList lq st.t a.tmps (by simpa using ER) (λp hp => ?_) (λj hj => ?_) i hi
          · rw [hC.size]
            have:=Array.all_eq_true_iff_forall_mem.1 KD p (Array.mem_toList_iff.1 hp)
            simpa using this
          · rw [hC.tmps j hj];exact congrArg some (SV.aa cX k_ (hC.wf.t j)).symm
        · exact Rw ps.toList lq st.t uH (λj=>SV.aL gw (hC.wf.t j)) i
      refine ih (some st.c.nk) yl assign _ _ aw hy R' (Z'++s.d.map bc) (some l) n2 bc _ w2 VI KC ⟨by rw [vZ],by have:=iI.k;simp only at this ⊢;omega⟩ _ ?_;intro e s1 Cw GG a3 w3 hk _ h1 h2 h3 Hk;cases e with
      |exit id=>exact hk.elim
      |ret=>exact hk.elim
      |iP i=>exact hk.elim
      |normal =>
        simp only at hk;split at hk;rotate_left
        · exact hk.elim
        rename_i td;have KE:st.c.nk<s.c.nk:=by have:=iI.k;simp only at this;omega
        have pJ:GG st.c.nk=l:=(h3 _ KE).trans vZ
        have VJ:w3.heap[l]? = some (.loop rec):=by
          have:=(Hk.ft _ _ td).2
          rw [pJ,ES,vY]at this;exact this
        refine⟨_,run_beginRound (P:=G.P) VJ (by rw [<-Bk]), ?_⟩;have vR:=Rt (e':=some .normal) Hk td;rw [pJ,ES]at vR;have jm:recAt rec (some .normal) = {rec with state := .busy}:=by rw [<-Bk];rfl
        rw [jm]at vR;refine ih (some st.c.nk) yl body _ _ Cw hk R' (Z'++s.d.map bc) (some l) n2 GG _ _ vR (KC.lN h1 h2 h3 (λ_ _=>rfl)) ⟨by rw [pJ],Nat.lt_of_lt_of_le KE h1.k⟩ _ ?_;intro e s2 xj uv a4 w4 C' _ g1 g2 g3 RC;have q1:s.c.le s2.c:=ar.le_trans h1 g1;have q2:Env.ay s.c aw xj:=Env.ah h1 h2 g2;have q3:∀k,k<s.c.nk->uv k=bc k:=λk hk=>(g3 k (Nat.lt_of_lt_of_le hk h1.k)).trans (h3 k hk);split at C';rotate_left
        · exact C'.elim
        rename_i te;obtain⟨te,KF⟩:=te;have RD:uv st.c.nk=l:=(q3 _ KE).trans vZ
        have VK:w4.heap[l]? = some (.loop (recAt rec (some .normal))):=by
          have:=(RC.ft _ _ te).2
          rw [RD,ES]at this;exact this
        have again:∀(x:Option Ex),Core W R' Z' xj uv {t:=s.t,n:=s.n,m:=s2.m,c:=s2.c,o:=s2.o,r:=lG s2.r st.c.nk x,d:=s.d,k:=s2.k,df:=s.df} a2 (w4.putObj l (.loop (recAt rec x))):=by
          intro x;have RE:=Rt (e':=x) (RC.drop KF) te;rw [RD,ES]at RE;exact Hc dE (s' := {s2 with r:=lG s2.r st.c.nk x}) RE q1 q2 q3
        have Bp:∀(jump:Option Code),(Instr.endRound l jump).run G.P w4=.ok (.bool jump.isNone) (w4.putObj l (.loop {rec with state:=if jump.isNone then .ready else .done,pending:=jump})):=λjump=>by
          have:=run_endRound (P:=G.P) jump VK
          rw [this];simp only [recAt]
        cases e with
        |normal =>
          refine⟨_,_,Bp none,_,rfl, ?_⟩
          have:=kY (.cv (.one (.bool (.lit true)))) _ xj uv _ C' rfl (by simp) q1 q2 q3 (again none)
          rw [<-Bk]at this ⊢;exact this
        |ret =>
          refine⟨_,_,Bp (some .ret),_,rfl, ?_⟩
          have:=kY (.cv (.one (.bool (.lit false)))) _ xj uv _ C' rfl (by simp) q1 q2 q3 (again (some .ret))
          rw [<-Bk]at this ⊢;exact this
        |iP i=>exact C'.elim
        |exit id =>
          refine⟨_,_,Bp (some (.exit id)),_,rfl, ?_⟩
          have:=kY (.cv (.one (.bool (.lit false)))) _ xj uv _ C' rfl (by simp) q1 q2 q3 (again (some (.exit id)))
          rw [<-Bk]at this ⊢;exact this
  |_=>exact h.elim
theorem KG{G:bF}(hG:G.Ok)(hD:vX G W Q QM QP):∀ (n:Nat) (rd:Option Nat) (yl:Yl (Env->Prop)) (c:Code) (st:St) (K:Ex->St->Env->Prop) (U:Env),exec (PA G.P W Q QM QP) G n rd yl c st K U ->
    ∀(R:Nat->Loop) (Z:List Nat) (r:Option Nat) (m:Nat) (β:Nat->Nat) (a:Act) (w:World),Core W R Z U β st a w->nF G.P W R st.c U β yl->ll rd r st β->∀Q':Exit->Act->World->Prop,mR W R Z st U β K Q'->c.wpIn (Fr r) m G.P Q' a w
  |0,rd,yl,c,st,K,U,h,_,_,_,_,_,_,_,_,_,_,_,_=>h.elim
  |n+1,rd,yl,c,st,K,U,h,R,Z,r,m,β,a,w,hC,hY,og,Q',hn=>by
    have ih:=KG hG hD n;have here:∀(e:Ex),e.ok st.c->K e st U->Q' (e.to U) a w:=λe ho hk=>hn e st U β a w hk ho (ar.le_refl _) (Env.an _ _) (λ_ _=>rfl) hC;unfold exec at h;unfold vt vw at h;rw [II]at h;cases c with
    |skip=>exact wpIn_skip (here .normal trivial h)
    |label l=>exact wpIn_label (here .normal trivial h)
    |ret=>exact wpIn_ret (here .ret trivial h)
    |exit id=>exact wpIn_exit (here (.exit id) trivial h)
    |region id ops draw =>
      have nx:uG W R Z st U β (K .normal) (Q' .normal):=λs aw bc a2 w2 hk h1 h2 h3 dE=>hn .normal s aw bc a2 w2 hk trivial h1 h2 h3 dE
      have Hl:sV G W R Z st.c U β Q' (fun f args s K'=>match G.P.funcs[f]? with
          |none => (PA G.P W Q QM QP).fail "inline: no such function"
          |some fn=>match fn.body with
            |none => (PA G.P W Q QM QP).fail "inline: no body"
            |some b =>
              exec (PA G.P W Q QM QP) G n none yl b {t:=(List.range args.length).zip args,n:=args.length+(fn.ntmps-args.length),m:=s.m,c:=s.c,o:=s.o,r:=s.r,d := [],k:=s.k} λe s' =>
                leave (PA G.P W Q QM QP) G (exec (PA G.P W Q QM QP) G n none yl) fn e s' (λv s2=>K' v (St.prune s.c.nk v {t:=s.t,n:=s.n,m:=s2.m,c:=s2.c,o:=s2.o,r:=s2.r,d:=s.d,k:=s2.k,df:=s.df}))
                  λi s2=>K (.iP i) {t:=s.t,n:=s.n,m:=s2.m,c:=s2.c,o:=s2.o,r:=s2.r,d:=s.d,k:=s2.k,df:=s.df}):=by
        intro f args s K' aR hi hw ij fI eE a1 w1 fy oe next' kY
        generalize hf:G.P.funcs[f]? = u at hi;cases u with
        |none=>exact hi.elim
        |some fn =>
          simp only at hi;generalize hb:fn.body=u at hi;cases u with
          |none=>exact hi.elim
          |some b =>
            refine Kc (n:=0) hf hb ?_;refine ih none yl b _ _ aR hi R (Z++s.d.map eE) none 0 eE _ w1 (Ra (n:=fn.ntmps) oe hw) (hY.lN ij fI fy (λ_ _=>rfl)) rfl _ ?_;intro e s' af ak a' w' hk jR h1 h2 h3 Hk
            have fin:=Re (Z:=Z++s.d.map eE) hG (c0:=st.c) (cP:=U) (bu:=β) (λc KH K2 aw hx g1 g2 m2 bc a2 w2 g3 g4 Q2 g5=>ih none yl c KH K2 aw hx R _ none m2 bc a2 w2 g4 (hY.lN g1 g2 g3 (λ_ _=>rfl)) rfl Q2 g5) hk (ar.le_trans ij h1) (Env.ah ij fI h2)
              (λk hk=>(h3 k (Nat.lt_of_lt_of_le hk ij.k)).trans (fy k hk)) Hk jR 0 (T:=λe w'=>match e with
                | .returned v=>next' v w'
                | .panicked ch=>Q' (.panic ch) a1 w'
                | .outgrown=>False)
              (λv s2 aw bc w2 jk tR CZ q1 q2 q3 vR=>by
                have VL:=Hc oe vR (ar.le_trans h1 q1) (Env.ah h1 h2 q2) (λk hk=>(q3 k (Nat.lt_of_lt_of_le hk h1.k)).trans (h3 k hk));have Eu:=VL.prune s.c.nk v;exact kY v _ aw bc w2 jk (by rw [St.sZ];exact tR) CZ (by rw [St.sZ];exact ar.le_trans h1 q1) (Env.ah h1 h2 q2) (λk hk=>(q3 k (Nat.lt_of_lt_of_le hk h1.k)).trans (h3 k hk)) Eu)
              (λi s2 aw bc w2 jk ln q1 q2 q3 vR=>by
                have l1:s.c.le s2.c:=ar.le_trans h1 q1;have l2:Env.ay s.c aR aw:=Env.ah h1 h2 q2;have l3:∀k,k<s.c.nk->bc k=eE k:=λk hk=>(q3 k (Nat.lt_of_lt_of_le hk h1.k)).trans (h3 k hk);exact hn (.iP i) _ aw bc a1 w2 jk ln (ar.le_trans ij l1) (Env.ah ij fI l2) (λk hk=>(l3 k (Nat.lt_of_lt_of_le hk ij.k)).trans (fy k hk)) (Hc oe vR l1 l2 l3))
            cases e with
            |exit id=>exact (fin.1 id rfl).elim
            |normal=>exact fin.2
            |ret=>exact fin.2
            |iP i=>exact fin.2
      have hI:sV G W R Z st.c U β Q' (xN (PA G.P W Q QM QP) G n (exec (PA G.P W Q QM QP) G n) yl K):=by
        intro f args s K' aR hi;refine Hl f args s K' aR ?_
        have hi:lI (PA G.P W Q QM QP) G (exec (PA G.P W Q QM QP) G n) yl K f args s K' aR:=by
          unfold xN at hi;generalize VM:G.iG=sl at hi;cases sl with
          |nil =>
            simp only at hi;generalize G.marks=ml at hi;cases ml with
            |nil=>exact hi
            |cons x ml =>
              simp only at hi;generalize (x::ml).contains f=b at hi;cases b with
              |true=>exact hi
              |false=>exact hi
          |cons x sl =>
            simp only at hi;generalize CG:je n f args s (x::sl)=u at hi;cases u with
            |none=>exact hi
            |some e =>
              obtain⟨h1,rfl,rfl,rfl,rfl⟩:=Iw CG;rw [hG.iG e (VM▸h1)];exact hi
        unfold lI at hi;simp only [IC,St.norm_eq]at hi;exact hi
      have hP:sW W R Z st.c U β Q' (λi s=>K (.iP i) s):=λi s aw hk hi h1 h2 bc a2 w2 h3 dE=>hn (.iP i) s aw bc a2 w2 hk hi h1 h2 h3 dE
      have rP:rd.isNone=true->r=none:=λh=>by
        cases rd with
        |none=>exact og
        |some k=>cases h
      cases draw with
      |true=>exact hD R Z r m _ yl _ _ id ops st _ U h β a w hC Q' hI hY rP hP _ (λ_ _ q=>q) nx
      |false=>exact wpIn_region_list (J6 (J9 hG hI hY rP hP) ops.toList st U h (ar.le_refl _) (Env.an _ _) β a w (λ_ _=>rfl) hC _ (λ_ _ q=>q) nx)
    |seq x y =>
      refine wpIn_seq (ih rd yl x st _ U h R Z r m β a w hC hY og _ ?_);intro e s aw bc a2 w2 hk ho h1 h2 h3 dE;cases e with
      |normal=>exact ih rd yl y s K aw hk R Z r m bc a2 w2 dE (hY.lN h1 h2 h3 (λ_ _=>rfl)) (og.lN h1 h3) Q' (hn.lN h1 h2 h3)
      |exit id=>exact hn (.exit id) s aw bc a2 w2 hk ho h1 h2 h3 dE
      |ret=>exact hn .ret s aw bc a2 w2 hk ho h1 h2 h3 dE
      |iP i=>exact hn (.iP i) s aw bc a2 w2 hk ho h1 h2 h3 dE
    |cond o x y =>
      cases o with
      |tmp d =>
        simp only at h;generalize hg:av st.t d=sv at h;split at h
        · rename_i e;split at h
          · rename_i hd
            have he:a.eval (.tmp d)=.bool (e.den U):=by
              have:=hC.eval (.tmp d) (by show av st.t d≠_;rw [hg];simp)
              rw [this];show (av st.t d).den U β=_;rw [hg];rfl
            rcases zw h with ⟨hb,h⟩|⟨hb,h⟩<;>rw [St.norm_eq]at h
            · exact wpIn_cond_true (by rw [he,hb]) (ih rd yl x _ K U h R Z r m β a w (hC.cQ hg hb) hY og Q' (hn.st rfl))
            · exact wpIn_cond_false (by rw [he,hb]) (ih rd yl y _ K U h R Z r m β a w (hC.cQ hg hb) hY og Q' (hn.st rfl))
          · exact h.elim
        · exact h.elim
      |const v =>
        cases v with
        |bool t =>
          cases t with
          |true=>exact wpIn_cond_true rfl (ih rd yl x st K U h R Z r m β a w hC hY og Q' hn)
          |false=>exact wpIn_cond_false rfl (ih rd yl y st K U h R Z r m β a w hC hY og Q' hn)
        |_=>exact h.elim
      |_=>exact h.elim
    |block id b =>
      refine wpIn_block (ih rd yl b st _ U h R Z r m β a w hC hY og _ ?_);intro e s aw bc a2 w2 hk ho h1 h2 h3 dE;cases e with
      |normal=>exact hn .normal s aw bc a2 w2 hk ho h1 h2 h3 dE
      |ret=>exact hn .ret s aw bc a2 w2 hk ho h1 h2 h3 dE
      |iP i=>exact hn (.iP i) s aw bc a2 w2 hk ho h1 h2 h3 dE
      |exit i =>
        simp only at hk;simp only [Ex.to,Exit.inBlock];by_cases hi:i=id
        · rw [if_pos hi]at hk ⊢;exact hn .normal s aw bc a2 w2 hk trivial h1 h2 h3 dE
        · rw [if_neg hi]at hk ⊢;exact hn (.exit i) s aw bc a2 w2 hk trivial h1 h2 h3 dE
    |scope b =>
      simp only at h;split at h
      · rename_i dC;subst dC;have hr:r=none:=og;subst hr;refine wpIn_wide.2 (wp_scope_straight (wpIn_wide (n:=m).1 (ih none yl b st _ U h R Z none m β a w hC hY rfl _ ?_)));intro e s aw bc a2 w2 hk ho h1 h2 h3 dE
        have:=hn e s aw bc a2 w2 hk ho h1 h2 h3 dE
        cases e<;>exact this
      · exact h.elim
    |loop b =>
      have plain:kM (PA G.P W Q QM QP) (exec (PA G.P W Q QM QP) G n rd yl b) K n st U->(Code.loop b).wpIn (Fr r) m G.P Q' a w:=by
        intro h;refine wpIn_loop_rounds n ?_
        have key:∀(j:Nat) (st:St) (U:Env) (β:Nat->Nat) (a:Act) (w:World),kM (PA G.P W Q QM QP) (exec (PA G.P W Q QM QP) G n rd yl b) K j st U->Core W R Z U β st a w->nF G.P W R st.c U β yl->ll rd r st β->mR W R Z st U β K Q'->Code.roundsIn (Fr r) m G.P b Q' j a w:=by
          intro j
          induction j with
          |zero=>intro st U β a w h _ _ _ _;exact h.elim
          |succ j VN =>
            intro st U β a w h hC hY og hn;refine ih rd yl b st _ U h R Z r m β a w hC hY og _ ?_;intro e s aw bc a2 w2 hk ho h1 h2 h3 dE;cases e with
            |normal =>
              simp only [St.xG]at hk;exact VN _ aw bc a2 w2 hk dE.u7 (hY.lN h1 h2 h3 (λ_ _=>rfl)) (og.lN h1 h3) (hn.lN h1 h2 h3)
            |exit id=>exact hn (.exit id) s aw bc a2 w2 hk ho h1 h2 h3 dE
            |ret=>exact hn .ret s aw bc a2 w2 hk ho h1 h2 h3 dE
            |iP i=>exact hn (.iP i) s aw bc a2 w2 hk ho h1 h2 h3 dE
        exact key n st U β a w h hC hY og hn
      simp only at h;generalize hh:(G.loops.lookup (keyOf b)).bind (LH.parts st.m)=hint at h;split at h
      · rename_i p9 cells a_ kill;generalize Zh:oK st cells=u1 at h;generalize EF:gR st.t a_=u2 at h;split at h
        · rename_i fc vs;generalize RF:p9++fc=free at h;generalize zM:jv st.m st.o free=u3 at h;split at h
          · exact h.elim
          · rename_i ms;generalize sR:ee st.o (vs.flatMap CV.cells++ms)=u4 at h;split at h
            · exact h.elim
            · rename_i ks;split at h;rotate_left
              · exact h.elim
              rename_i ET;obtain⟨Inv,μ,h0,cf⟩:=h;have hle:=xk ks st.c
              have v_:∀{k},aG (bL st.o (aJ (vs.flatMap CV.cells++ms))) k≠none->k<st.c.nk:=λ{k} hk=>by
                rw [xu]at hk;split at hk
                · exact (hk rfl).elim
                · cases hg:aG st.o k with
                  |none=>exact (hk hg).elim
                  |some x=>have:=(hC.wf.o k x.1 x.2.1 x.2.2 hg).1;omega
              generalize EU:((aJ (au st.c ks)).zip (aJ (vs.flatMap CV.cells++ms))).filter (λp=>(sI G st (keyOf b)).contains p.2 || isMap st.o p.2)=ib at cf
              have EV:∀{k},aG (aZ st.c ks) k≠none->st.c.nk<=k:=λ{k} hk=>by
                cases hg:aG (aZ st.c ks) k with
                |none=>exact (hk hg).elim
                |some y=>exact (C6 ks st.c hg).1
              have ud:∀p∈ib,p∈(aJ (au st.c ks)).zip (aJ (vs.flatMap CV.cells++ms)):=λp hp=>by
                rw [<-EU]at hp;exact (List.mem_filter.1 hp).1
              have EW:(ib.map (·.2)).Nodup:=by
                rw [<-EU]
                have sub:∀(l:List (Nat × Nat)) (f:Nat × Nat->Bool),(l.map (·.2)).Nodup->((l.filter f).map (·.2)).Nodup:=by
                  intro l f h;exact (List.Sublist.map _ (List.filter_sublist)).nodup h
                refine sub _ _ ?_
                have zs:∀(x y:List Nat),y.Nodup->((x.zip y).map (·.2)).Nodup:=by
                  intro x
                  induction x with
                  |nil=>intro y _;simp
                  |cons a x VO =>
                    intro y hy;cases y with
                    |nil=>simp
                    |cons b y =>
                      simp only [List.nodup_cons]at hy;simp only [List.zip_cons_cons,List.map_cons,List.nodup_cons];refine⟨λhm => ?_,VO y hy.2⟩;obtain⟨q,hq,he⟩:=List.mem_map.1 hm;exact hy.1 (he▸(List.of_mem_zip hq).2)
                exact zs _ _ ET
              have vV:∀{k},getM st.m k=none->getM (bK st.m free ((au st.c ks).drop (vs.flatMap CV.cells).length)) k=none:=λ{k} hk=>by
                cases hg:getM (bK st.m free ((au st.c ks).drop (vs.flatMap CV.cells).length)) k with
                |none=>rfl
                |some x =>
                  obtain⟨oS,h1,_,_⟩:=xx free st.m _ (show _=some (x.1,x.2) from hg);rw [hk]at h1;cases h1
              have stat:∀p∈ib,st.c.nk<=p.1/\p.2+3<st.c.nk/\getM st.m p.2=none/\aG (aZ st.c ks++bL st.o (aJ (vs.flatMap CV.cells++ms))) p.2=none:=λp hp=>by
                obtain⟨Y9,uu,_,_,_,_,_,_,q7,q8,_⟩:=ED (aZ st.c ks) st.o U β ks st.c β _ (λ_ _ h=>h) cf sR;obtain⟨_,n0,ce,sz,t,_,g2,_⟩:=q7 p (ud p hp);have g3:=hC.wf.o p.2 ce sz t g2;refine⟨q8 p.1 (List.of_mem_zip (ud p hp)).1,g3.1,hC.wf.ap p.2 _ g2, ?_⟩;simp only [C8];cases hg:aG (aZ st.c ks) p.2 with
                |some y=>have:=EV (k:=p.2) (by rw [hg];simp);omega
                |none =>
                  simp only;rw [xu,if_pos (List.of_mem_zip (ud p hp)).2]
              have Bq:∀ {yT:Env} {lS:Nat->Nat} {a1:Act} {w1:World},Core W R Z yT lS {t:=cO (ei st.t kill) a_ vs (au st.c ks),n:=st.n,m:=bK st.m free ((au st.c ks).drop (vs.flatMap CV.cells).length),c:=aP st.c ks,o:=aZ st.c ks++bL st.o (aJ (vs.flatMap CV.cells++ms)),r:=st.r,d:=st.d,k:=st.k,df:=st.df} a1 w1 ->
                  (∀p∈ib,lS p.1=lS p.2/\lS (p.1+1)=lS (p.2+1)/\lS (p.1+2)=lS (p.2+2)/\lS (p.1+3)=lS (p.2+3)) ->
                  Core W R Z yT lS (iH ib {t:=cO (ei st.t kill) a_ vs (au st.c ks),n:=st.n,m:=bK st.m free ((au st.c ks).drop (vs.flatMap CV.cells).length),c:=aP st.c ks,o:=aZ st.c ks++bL st.o (aJ (vs.flatMap CV.cells++ms)),r:=st.r,d:=st.d,k:=st.k,df:=st.df}) a1 w1:=λhc hb =>
                Rp ib hc (λp hp=>by
                  obtain⟨s1,s2,s3,s4⟩:=stat p hp;exact⟨by omega,hb p hp,vV s3,s4,Nat.lt_of_lt_of_le s2 hle.k⟩) EW
              obtain⟨f1,f2,f3,f4,f5,f6,f7⟩:=Ro ib {t:=cO (ei st.t kill) a_ vs (au st.c ks),n:=st.n,m:=bK st.m free ((au st.c ks).drop (vs.flatMap CV.cells).length),c:=aP st.c ks,o:=aZ st.c ks++bL st.o (aJ (vs.flatMap CV.cells++ms)),r:=st.r,d:=st.d,k:=st.k,df:=st.df}
              have fS:∀i,i ∉ a_->av (iH ib {t:=cO (ei st.t kill) a_ vs (au st.c ks),n:=st.n,m:=bK st.m free ((au st.c ks).drop (vs.flatMap CV.cells).length),c:=aP st.c ks,o:=aZ st.c ks++bL st.o (aJ (vs.flatMap CV.cells++ms)),r:=st.r,d:=st.d,k:=st.k,df:=st.df}).t i=av (cO (ei st.t kill) a_ vs (au st.c ks)) i:=λi hi=>by
                refine Rq ib _ λp hp he => ?_;have iU:av (cO (ei st.t kill) a_ vs (au st.c ks)) i=.cv (.one (.own p.1)):=he;rw [EE _ _ _ _ hi]at iU
                have hw:(av (ei st.t kill) i).wf st.c=true:=by
                  rcases He st.t i kill with h|h<;>rw [h]
                  · rfl
                  · exact hC.wf.t i
                rw [iU]at hw;have VQ:(decide (p.1+3<st.c.nk))=true:=hw
                have:=(stat p hp).1
                simp only [decide_eq_true_eq]at VQ;omega
              have fO:∀{k x},aG (bL st.o (aJ (vs.flatMap CV.cells++ms))) k=some x->aG (iH ib {t:=cO (ei st.t kill) a_ vs (au st.c ks),n:=st.n,m:=bK st.m free ((au st.c ks).drop (vs.flatMap CV.cells).length),c:=aP st.c ks,o:=aZ st.c ks++bL st.o (aJ (vs.flatMap CV.cells++ms)),r:=st.r,d:=st.d,k:=st.k,df:=st.df}).o k=some x/\k ∉ ib.map (·.2):=λ{k x} hx=>by
                have nG:=v_ (k:=k) (by rw [hx];simp)
                have RG:∀p∈ib,k≠p.1/\k≠p.2:=λp hp=>by
                  obtain⟨s1,s2,s3,s4⟩:=stat p hp;refine⟨by omega,λe => ?_⟩;subst e;rw [xu,if_pos (List.of_mem_zip (ud p hp)).2]at hx;cases hx
                refine⟨?_,λhm => ?_⟩
                · rw [Rr ib _ (λp hp => ?_) EW]
                  · simp only [C8];cases hg:aG (aZ st.c ks) k with
                    |none=>exact hx
                    |some y=>have:=EV (k:=k) (by rw [hg];simp);omega
                  · obtain⟨s1,s2,s3,s4⟩:=stat p hp;exact⟨by omega,s4,RG p hp⟩
                · obtain⟨p,hp,he⟩:=List.mem_map.1 hm;exact (RG p hp).2 he.symm
              generalize VR:iH ib {t:=cO (ei st.t kill) a_ vs (au st.c ks),n:=st.n,m:=bK st.m free ((au st.c ks).drop (vs.flatMap CV.cells).length),c:=aP st.c ks,o:=aZ st.c ks++bL st.o (aJ (vs.flatMap CV.cells++ms)),r:=st.r,d:=st.d,k:=st.k,df:=st.df}=AP at cf Bq fS fO f1 f2 f3 f4 f5 f6 f7
              refine wpIn_loop_ghost (λk a w=>∃nM uw,Inv ((au st.c ks).map (vl (aZ st.c ks) nM))/\μ ((au st.c ks).map (vl (aZ st.c ks) nM))=k/\Env.ay st.c U nM/\(∀j,j<st.c.nk->uw j=β j) /\
                Core W R Z nM uw AP a w /\
                exec (PA G.P W Q QM QP) G n rd yl b AP (λe s=>match e with
                  | .normal=>match gR s.t a_,jv s.m s.o free with
                    |some jx,some lJ =>
                      if oM AP s a_ free ((aZ st.c ks).map (·.1)++ib.map (·.2))=true/\((aJ (au st.c ks)).zip (aJ (jx.flatMap CV.cells++lJ))).all (fun p=>ib.all fun q=>q.1 != p.1 || q.2 == p.2)=true/\jx.map CV.shape=vs.map CV.shape/\ee s.o (jx.flatMap CV.cells++lJ)=some ks/\(aJ (jx.flatMap CV.cells++lJ)).Nodup /\
                          (aJ (jx.flatMap CV.cells++lJ)).all (λk=>(aZ st.c ks).any (λx=>x.1 == k) || (bL st.o (aJ (vs.flatMap CV.cells++ms))).all λx=>x.1 != k)=true then
                        (λJ=>Inv ((jx.flatMap CV.cells++lJ).map (vl s.o J))/\μ ((jx.flatMap CV.cells++lJ).map (vl s.o J))<μ ((au st.c ks).map (vl (aZ st.c ks) nM)))
                      else (PA G.P W Q QM QP).fail "loop: not the same"
                    |_, _ => (PA G.P W Q QM QP).fail "loop: values"
                  |e=>K e s) nM) (μ ((vs.flatMap CV.cells++ms).map (vl st.o U))) ?_ ?_
              · obtain⟨nM,uw,q1,q2,q3,q4,q5,q6,q7,q8,q9⟩:=ED (aZ st.c ks) st.o U β ks st.c β _ (λ_ _ h=>h) cf sR;refine⟨nM,uw,by rw [q5];exact h0,by rw [q5],q2,q3,Bq ?_ (λp hp => ?_),q1 (by rw [q5];exact h0)⟩;rotate_left
                · obtain⟨⟨g0,g1,g2,g3⟩,_⟩:=q7 p (ud p hp);have s2:=(stat p hp).2.1;rw [g0,g1,g2,g3,q3 _ (by omega),q3 _ (by omega),q3 _ (by omega),q3 _ (by omega)];exact⟨rfl,rfl,rfl,rfl⟩
                refine Rs hC.wf hC.kn hC (Env.an _ _) q2 q3 EF EF rfl zM q4 ⟨rfl,rfl,rfl,rfl⟩ (λi hi => ?_) (λk kX t hg => ?_) q6 q7 ET (λk x hx => ?_) (λk hk => ?_)
                · rw [EE _ _ _ _ hi];rcases He st.t i kill with h|h
                  · exact .inl h
                  · exact .inr h.symm
                · obtain⟨oS,p1,p2,p3⟩:=xx free st.m _ hg;exact⟨oS,p1,p2,p3⟩
                · rw [xu]at hx;split at hx
                  · cases hx
                  · exact hx
                · rw [xu,if_pos hk]
              · intro k a1 w1 hI;obtain⟨nM,uw,hinv,VS,RH,KI,VT,hex⟩:=hI;have eJ:st.c.le AP.c:=by rw [f2];exact hle
                refine ih rd yl b _ _ nM hex R Z r m uw a1 w1 VT (hY.lN eJ RH KI (λ_ _=>rfl)) (og.lN eJ KI) _ ?_;intro e s aw bc a2 w2 hk ho h1 h2 h3 dE;have l2:Env.ay st.c U aw:=Env.ah eJ RH h2;have b2:∀j,j<st.c.nk->bc j=β j:=λj hj=>(h3 j (Nat.lt_of_lt_of_le hj eJ.k)).trans (KI j hj);cases e with
                |exit id=>exact hn (.exit id) s aw bc a2 w2 hk ho (ar.le_trans eJ h1) l2 b2 dE
                |ret=>exact hn .ret s aw bc a2 w2 hk ho (ar.le_trans eJ h1) l2 b2 dE
                |iP i=>exact hn (.iP i) s aw bc a2 w2 hk ho (ar.le_trans eJ h1) l2 b2 dE
                |normal =>
                  simp only at hk;generalize mQ:gR s.t a_=u5 at hk;generalize zN:jv s.m s.o free=u6 at hk;split at hk
                  · rename_i jx lJ;split at hk
                    · rename_i gy;obtain⟨c1,VU,c2,c3,c4,c5⟩:=gy;obtain⟨ln,cn⟩:=hk;obtain⟨s1,s2,s3,s4⟩:=Vz c1;rw [f3,f4,f5,f7]at s1;rw [f1]at s3;obtain⟨yT,lS,q1,q2,q3,q4,q5,q6,q7,q8,q9⟩:=ED (aZ st.c ks) s.o aw bc ks st.c bc _ (λ_ _ h=>h) cf c3;refine⟨μ ((jx.flatMap CV.cells++lJ).map (vl s.o aw)),VS▸cn,yT,lS,by rw [q5];exact ln,by rw [q5],q2,λj hj=>(q3 j hj).trans (b2 j hj),Bq ?_ (λp hp => ?_),q1 (by rw [q5];exact ln)⟩;rotate_left
                      · obtain⟨y,hy⟩:=Km _ _ q6 p.1 (List.of_mem_zip (ud p hp)).1
                        have hyp:p.2=y:=by
                          have h7:=List.all_eq_true.1 (List.all_eq_true.1 VU (p.1,y) hy) p hp;simpa using h7
                        subst hyp;obtain⟨⟨g0,g1,g2,g3⟩,_⟩:=q7 _ hy;simp only at g0 g1 g2 g3;have s2:=(stat p hp).2.1;rw [g0,g1,g2,g3,q3 _ (by omega),q3 _ (by omega),q3 _ (by omega),q3 _ (by omega)];exact⟨rfl,rfl,rfl,rfl⟩
                      refine Rs hC.wf hC.kn dE l2 q2 q3 EF mQ c2 zN q4 s1 (λi hi => ?_) s3 q6 q7 c4 (λk x hx => ?_) (λk hk => ?_)
                      · rw [<-fS i hi];exact s2 i hi
                      · obtain⟨g1,g2⟩:=fO hx;have nG:=v_ (k:=k) (by rw [hx];simp);refine s4 k x g1 λfY => ?_;rcases List.mem_append.1 fY with fY|fY;rotate_left
                        · exact g2 fY
                        obtain⟨y,hy,rfl⟩:=List.mem_map.1 fY
                        have:∀(l:List CK) (c:ar),(∀y∈aZ c l,c.nk<=y.1):=by
                          intro l
                          induction l with
                          |nil=>intro c y hy;cases hy
                          |cons kd l ih =>
                            intro c y hy;have tl:y∈aZ (aV c kd) l->c.nk<=y.1:=λhy=>Nat.le_trans (Kj c kd) (ih _ y hy)
                            cases kd<;>first
                              |exact tl hy
                              |skip
                            simp only [aZ,List.mem_cons]at hy;rcases hy with rfl|hy
                            · exact Nat.le_refl _
                            · exact tl hy
                        have:=this ks st.c y hy
                        omega
                      · have:=List.all_eq_true.1 c5 k hk
                        simp only [Bool.or_eq_true,List.any_eq_true,beq_iff_eq,List.all_eq_true,bne_iff_ne,ne_eq]at this;rcases this with ⟨y,hy,he⟩|h
                        · cases hg:aG (bL st.o (aJ (vs.flatMap CV.cells++ms))) k with
                          |none=>rfl
                          |some x =>
                            have h5:=v_ (k:=k) (by rw [hg];simp)
                            have:∀(l:List CK) (c:ar),(∀y∈aZ c l,c.nk<=y.1):=by
                              intro l
                              induction l with
                              |nil=>intro c y hy;cases hy
                              |cons kd l ih =>
                                intro c y hy;have tl:y∈aZ (aV c kd) l->c.nk<=y.1:=λhy=>Nat.le_trans (Kj c kd) (ih _ y hy)
                                cases kd<;>first
                                  |exact tl hy
                                  |skip
                                simp only [aZ,List.mem_cons]at hy;rcases hy with rfl|hy
                                · exact Nat.le_refl _
                                · exact tl hy
                            have:=this ks st.c y hy
                            omega
                        · cases hg:aG (bL st.o (aJ (vs.flatMap CV.cells++ms))) k with
                          |none=>rfl
                          |some x=>exact (h _ (Hh hg) rfl).elim
                    · exact hk.elim
                  · exact hk.elim
        · exact h.elim
      · exact plain h
    |rangeFunc g ps assign body=>exact VF hG ih (show exec (PA G.P W Q QM QP) G (n+1) rd yl (.rangeFunc g ps assign body) st K U by unfold exec;unfold vt vw;rw [II];exact h) hC hY og hn
    |_=>exact h.elim
end Vc
set_option linter.unusedVariables false
namespace Vc
open Go Go.RowKit
variable {P:Program} {W:dR} {Q:Value->Prop} {QM QP:World->Value->Prop}
inductive oV(U:Env)(s:St):St->Prop
 |refl:oV U s s
 |cQ (x:Nat) (b:Bool) (e:BE) (h:av s.t x=.cv (.one (.bool e))) (hb:e.den U=b):oV U s (s.cQ x b)
def dp(ops:Array Oper)(U:Env)(s:St)(o:Oper)(b:Bool):Prop :=
 match o.guard with
 |none=>b=true
 |some (j,want)=>∃x,(ops[j]?).bind (·.dst)=some x/\((∃e,av s.t x=.cv (.one (.bool e))/\(e.den U == want)=b)∨(av s.t x=.dF/\b=false))
structure Da(s1:St)(o:Oper)(s':St)(sv:SV)(C:List Nat):Prop where
 n:s'.n=s1.n
 rs:s'.r=s1.r
 ds:s'.d=s1.d
 G5:s1.c.le s'.c
 wf:s'.WF
 slot:∀t,av s'.t t=if o.dst=some t then sv else av s1.t t
 dst:∀d,o.dst=some d->d<s1.n
 lt:∀k∈C,k<s1.c.nk
 same:∀k,k<s1.c.nk->k ∉ C->aE s'.m s'.o k=aE s1.m s1.o k
 G4:s'.df=s1.df
theorem gT.eK{s1 s':St}{o:Oper}{U:Env}{sv:SV}{C:List Nat}(h:gT P W s1 o U s' sv C):Da s1 o s' sv C :=
 ⟨h.n,h.rs,h.ds,h.G5,h.wf,h.slot,h.dst,λk hk=>(h.Jw k hk).2,h.same,h.G4⟩
theorem RI{s1:St}{o:Oper}(hw:s1.WF)(hp:iA s1 o.dst .dF s1.c):Da s1 o (s1.bN o.dst .dF s1.c) .dF []:=by
 obtain⟨q1,q2,q3,q4,q5,q6⟩:=zz s1 o.dst .dF s1.c;exact⟨q3,q5,q6,by rw [q1];exact ar.le_refl _,Ef hw (ar.le_refl _) hp,λt=>zo _ _ _ _ t,λd hd=>(hp d hd).1,λk hk=>(by cases hk),λk _ _=>(by rw [q2,q4]),(zn _ _ _ _).2⟩
inductive uI(P:Program)(W:dR)(ops:Array Oper)(U:Env)(eI:Nat->Prop)(i:Nat)(rd wr:List (Nat × Nat))(s:St)(o:Oper):St->SV->List Nat->Prop
 |skip (s1:St) (k:oV U s s1) (w:dp ops U s o false) (p:iA s1 o.dst .dF s1.c):uI P W ops U eI i rd wr s o (s1.bN o.dst .dF s1.c) .dF []
 |run (s1 s':St) (sv:SV) (C:List Nat) (k:oV U s s1) (w:dp ops U s o true) (nd:∀c,o.op ≠ .defer c) (f:gT P W s1 o U s' sv C) (h1:∀k∈aU s1 o++aQ s1 o++cN s1 o,eI k) (h2:∀x,o.dst=some x->∀k∈d_ sv,eI k)
   (h4:∀k∈aU s1 o,(k,i)∈rd) (h5:∀k∈aQ s1 o,(k,i)∈wr):uI P W ops U eI i rd wr s o s' sv C
theorem oV.c{U:Env}{s s1:St}(h:oV U s s1):s1.c=s.c/\s1.m=s.m/\s1.n=s.n/\s1.o=s.o/\s1.r=s.r/\s1.d=s.d:=by cases h<;>exact⟨rfl,rfl,rfl,rfl,rfl,rfl⟩
theorem oV.k{U:Env}{s s1:St}(h:oV U s s1):s1.k=s.k/\s1.df=s.df:=by cases h<;>exact⟨rfl,rfl⟩
theorem uI.kn{ops:Array Oper}{U:Env}{eI:Nat->Prop}{i:Nat}{rd wr:List (Nat × Nat)}{s s':St}{o:Oper}{sv:SV}{C:List Nat}(h:uI P W ops U eI i rd wr s o s' sv C)(hk:bV.den s.k U):bV.den s'.k U:=by
 cases h with
 |skip s1 k w p=>rw [(zn _ _ _ _).1,k.k.1];exact hk
 |run s1 _ _ _ k w nd f=>exact f.kn (by rw [k.k.1];exact hk)
theorem oV.wf{U:Env}{s s1:St}(h:oV U s s1)(hw:s.WF):s1.WF:=by
  cases h with
  |refl=>exact hw
  |cQ x b e h hb =>
    refine⟨λi => ?_,hw.m,hw.o,hw.ap,hw.r,hw.d,hw.k,hw.df⟩;simp only [St.cQ,zl];by_cases hi:x=i
    · rw [if_pos hi];rfl
    · rw [if_neg hi];exact hw.t i
theorem uI.eK{ops:Array Oper}{U:Env}{eI:Nat->Prop}{i:Nat}{rd wr:List (Nat × Nat)}{s s':St}{o:Oper}{sv:SV}{C:List Nat}(hw:s.WF)(h:uI P W ops U eI i rd wr s o s' sv C):∃s1,oV U s s1/\Da s1 o s' sv C:=by
 cases h with
 |skip s1 k w p=>exact⟨s1,k,RI (k.wf hw) p⟩
 |run s1 _ _ _ k w nd f=>exact⟨s1,k,f.eK⟩
def eB(U:Env)(x y:SV):Prop:=x=y∨∃e b,x=.cv (.one (.bool e))/\y=.cv (.one (.bool (.lit b)))/\e.den U=b
theorem eB.trans{U:Env}{x y z:SV}(h:eB U x y)(h':eB U y z):eB U x z:=by
 rcases h with rfl|⟨e,b,rfl,rfl,hb⟩
 ·exact h'
 ·rcases h' with rfl|⟨e',b',he,rfl,gg⟩
  ·exact .inr ⟨e,b,rfl,rfl,hb⟩
  ·cases he;exact .inr ⟨e,b',rfl,rfl,hb.trans gg⟩
theorem eB.any{U:Env}{x y:SV}(h:eB U x y)(hy:y ≠ .any):x ≠ .any:=by
 rcases h with rfl|⟨e,b,rfl,rfl,hb⟩
 ·exact hy
 ·simp
theorem eB.KJ{U:Env}{x y:SV}(h:eB U x y)(hx:x ≠ .any):y ≠ .any:=by
 rcases h with rfl|⟨e,b,rfl,rfl,hb⟩
 ·exact hx
 ·simp
theorem eB.den{U:Env}{x y:SV}(h:eB U x y)(β:Nat->Nat):x.den U β=y.den U β:=by
 rcases h with rfl|⟨e,b,rfl,rfl,hb⟩
 ·rfl
 ·simp only [SV.den,CV.den,At.den,BE.den,hb]
theorem eB.ids{U:Env}{x y:SV}(h:eB U x y){k:Nat}(hk:k∈d_ y):k∈d_ x:=by
 rcases h with rfl|⟨e,b,rfl,rfl,hb⟩
 ·exact hk
 ·simp [d_,CV.cells,aF]at hk
theorem oV.same{U:Env}{s s1:St}(h:oV U s s1)(t:Nat):eB U (av s.t t) (av s1.t t):=by
  cases h with
  |refl=>exact .inl rfl
  |cQ x b e hx hb =>
    simp only [St.cQ,zl];by_cases ht:x=t
    · subst ht;rw [if_pos rfl];exact .inr ⟨e,b,hx,rfl,hb⟩
    · rw [if_neg ht];exact .inl rfl
theorem Hm(a:At)(l:List At):aF (a::l)=aF [a]++aF l:=by
 cases a<;>simp [aF]
theorem VV(x y:List At):aF (x++y)=aF x++aF y:=by
 induction x with
 |nil=>rfl
 |cons a x ih=>rw [List.cons_append,Hm,ih,Hm a x,List.append_assoc]
theorem Hn{β ak:Nat->Nat}{l:List (Nat × Nat)}(h:∀k∈l.map (·.1),ak k=β k):(l.map λc=>(.pointer (some ⟨ak c.1,c.2,none⟩):Value))=l.map λc=>.pointer (some ⟨β c.1,c.2,none⟩) :=
 List.map_congr_left λc hc=>by rw [h c.1 (List.mem_map.2 ⟨c,hc,rfl⟩)]
theorem aO.im{U:Env}{β ak:Nat->Nat}{a:aO}(h:∀k∈a.ids,ak k=β k):a.den U ak=a.den U β:=by
 cases a<;>first
  |rfl
  |skip
 case ga k o l m=>simp only [aO.den];rw [h k (by simp [aO.ids])]
 case own k=>simp only [aO.den];rw [h k (by simp [aO.ids]),h (k+1) (by simp [aO.ids]),h (k+2) (by simp [aO.ids]),h (k+3) (by simp [aO.ids])]
theorem At.im{U:Env}{β ak:Nat->Nat}:∀{a:At},(∀k∈aF [a],ak k=β k)->a.den U ak=a.den U β:=by
 intro a h;cases a
 case own k=>show cG _ _ _ _=cG _ _ _ _;rw [h k (by simp [aF]),h (k+1) (by simp [aF]),h (k+2) (by simp [aF]),h (k+3) (by simp [aF])]
 case pY k=>simp only [At.den];rw [h k (by simp [aF]),h (k+1) (by simp [aF]),h (k+2) (by simp [aF])]
 case fn f aB =>
  simp only [At.den];rw [Hn λk hk=>h k (by simp only [aF,List.append_nil];exact hk)]
 case gm f first aB =>
  simp only [At.den];rw [Hn (l:=first) λk hk=>h k (by simp only [aF,List.append_nil];exact List.mem_append.2 (.inl hk)),Hn (l:=aB) λk hk=>h k (by simp only [aF,List.append_nil];exact List.mem_append.2 (.inr hk))]
 case qS f first aB =>
  simp only [At.den];rw [Hn (l:=aB) λk hk=>h k (by simp only [aF,List.append_nil];exact List.mem_append.2 (.inr hk))]
  have:first.map (aO.den U ak)=first.map (aO.den U β):=List.map_congr_left λx hx=>aO.im λk hk=>h k (by
   simp only [aF,List.append_nil];exact List.mem_append.2 (.inl (List.mem_flatMap.2 ⟨x,hx,hk⟩)))
  rw [this]
 all_goals first
  |rfl
  | (simp only [At.den];rw [h _ (by simp [aF];done)])
theorem RJ{a:At}{k:Nat}:∀{l:List At},a∈l->k∈aF [a]->k∈aF l
  |b::l,h,hk=>by
    rw [Hm];rcases List.mem_cons.1 h with rfl|h
    · exact List.mem_append.2 (.inl hk)
    · exact List.mem_append.2 (.inr (RJ h hk))
theorem Ho{U:Env}{β ak:Nat->Nat}{l:List At}(h:∀k∈aF l,ak k=β k):l.map (At.den U ak)=l.map (At.den U β) :=
 List.map_congr_left λa ha=>At.im λk hk=>h k (RJ ha hk)
theorem SV.im{U:Env}{β ak:Nat->Nat}:∀{x:SV},(∀k∈d_ x,ak k=β k)->x.den U ak=x.den U β
  | .any,_=>rfl
  | .dF,_=>rfl
  | .cv (.one a),h=>At.im h
  | .cv (.agg l),h=>by simp only [SV.den,CV.den];rw [Ho (l:=l) h]
  | .cE l,h=>by
    simp only [SV.den];congr 2;apply List.map_congr_left;intro c hc
    have hm:∀k∈aF c.cells,ak k=β k:=λk hk=>h k (by
      simp only [d_]
      have:∀(l1:List CV),c∈l1->k∈aF (l1.flatMap CV.cells):=by
        intro l1 h1
        induction l1 with
        |nil=>cases h1
        |cons d l1 ih =>
          rw [List.flatMap_cons,VV];rcases List.mem_cons.1 h1 with rfl|h1
          · exact List.mem_append.2 (.inl hk)
          · exact List.mem_append.2 (.inr (ih h1))
      exact this l hc)
    cases c with
    |one a=>exact At.im hm
    |agg l=>simp only [CV.den];rw [Ho (l:=l) hm]
theorem KK{U:Env}{β ak:Nat->Nat}:∀{l:CE},(∀k∈l.flatMap cm,ak k=β k)->aq U ak l=aq U β l
  | [],_=>rfl
  | .bT l::r,h=>by
    simp only [aq,Sg.den];rw [Ho (l:=l) λk hk=>h k (by rw [List.flatMap_cons];exact List.mem_append.2 (.inl hk)),KK (l:=r) λk hk=>h k (by rw [List.flatMap_cons];exact List.mem_append.2 (.inr hk))]
  | .var i::r,h=>by
    simp only [aq,Sg.den];rw [KK (l:=r) λk hk=>h k (by rw [List.flatMap_cons];exact List.mem_append.2 (.inr hk))]
def dB(k:Nat):pI->List Nat
 | .fix .. => [k]
 | .row .. => [k,k+1,k+2,k+3]
theorem Holds.wc{U:Env}{β ak:Nat->Nat}{k:Nat}{w w':World}:∀ {e:pI},Holds W U β k e w->(∀ j∈dB k e,ak j=β j)->(∀ j∈dS e,ak j=β j) ->
    (∀b,bD β k e=some b->w'.heap[b]? = w.heap[b]?)->Holds W U ak k e w'
  | .fix cs t,h,hs,hi,hh=>by
    have h0:ak k=β k:=hs k (by simp [dB]);refine⟨by rw [h0];exact h.1, ?_⟩;rw [h0,Ho hi,hh _ rfl];exact h.2
  | .row ce sz t,h,hs,hi,hh=>by
    simp only [Holds]at h ⊢;rw [hs k (by simp [dB]),hs (k+1) (by simp [dB]),hs (k+2) (by simp [dB]),hs (k+3) (by simp [dB]),KK hi];exact h.heap λh2=>hh (β k) (by simp only [bD,h2,if_true])
theorem KL{β ak:Nat->Nat}{k:Nat}:∀{e:pI},(∀j∈dB k e,ak j=β j)->bD ak k e=bD β k e
 | .fix ..,hb=>by simp only [bD,hb k (by simp [dB])]
 | .row ..,hb=>by simp only [bD,hb k (by simp [dB]),hb (k+1) (by simp [dB])]
theorem Hp{ops:Array Oper}{listed:Array Bool}(iz:∀ j oj,ops[j]? = some oj->listed.getD j false=true->∀ e∈oj.after,Region.binds .any e=true->listed.getD e.on false=true) :
    ∀(d i j:Nat) (o:Oper),ops[i]? = some o->(∀e∈o.after,Region.binds .any e=true->listed.getD e.on false=true)->reach ops d i j=true->listed.getD j false=true
  |0,i,j,o,ho,hi,h=>by cases h
  |d+1,i,j,o,ho,hi,h=>by
    simp only [reach,direct,ho,Bool.or_eq_true,Array.any_eq_true']at h;rcases h with ⟨e,he,hb⟩|⟨e,he,hb⟩
    · simp only [Bool.and_eq_true,decide_eq_true_eq]at hb;rw [<-hb.2];exact hi e he hb.1
    · simp only [Bool.and_eq_true]at hb;cases nr:ops[e.on]? with
      |none =>
        cases d with
        |zero=>simp [reach]at hb
        |succ d=>simp [reach,direct,nr]at hb
      |some o'=>exact Hp iz d e.on j o' nr (λe' iU gg=>iz e.on o' nr (hi e he hb.1) e' iU gg) hb.2
def nt(listed:Array Bool):Nat->Nat
 |0=>0
 |m+1=>nt listed m+if listed.getD m false=true then 0 else 1
theorem EX{listed:Array Bool}:∀{m:Nat},nt listed m=0->∀j,j<m->listed.getD j false=true
  |0,_,j,hj=>by omega
  |m+1,h,j,hj=>by
    simp only [nt]at h;by_cases hm:listed.getD m false=true
    · rw [if_pos hm]at h;by_cases KM:j=m
      · subst KM;exact hm
      · exact EX (by omega) j (by omega)
    · rw [if_neg hm]at h;omega
theorem Hq{listed:Array Bool}:∀{m:Nat},0<nt listed m->∃j,j<m/\listed.getD j false=false/\∀i,i<j->listed.getD i false=true
  |0,h=>by simp [nt]at h
  |m+1,h=>by
    simp only [nt]at h;by_cases hp:0<nt listed m
    · obtain⟨j,h1,h2⟩:=Hq hp;exact⟨j,by omega,h2⟩
    · by_cases hm:listed.getD m false=true
      · rw [if_pos hm]at h;omega
      · exact⟨m,by omega,by simpa using hm,λi hi=>EX (by omega) i hi⟩
theorem zO(listed:Array Bool)(i j:Nat)(hi:i<listed.size):(listed.setIfInBounds i true).getD j false=if i=j then true else listed.getD j false:=by
 simp only [Array.getD_eq_getD_getElem?,Array.getElem?_setIfInBounds];by_cases h:i=j
 ·subst h;simp [hi]
 ·simp [h]
theorem Hr{listed:Array Bool}{i:Nat}(hi:i<listed.size)(hl:listed.getD i false=false):∀m,nt (listed.setIfInBounds i true) m+(if i<m then 1 else 0)=nt listed m
  |0=>by simp [nt]
  |m+1=>by
    have ih:=Hr hi hl m;simp only [nt,zO listed i m hi];by_cases Hs:i=m
    · subst Hs;rw [if_pos rfl,hl];simp at ih ⊢;omega
    · rw [if_neg Hs];by_cases h2:i<m
      · have h3:i<m+1:=by omega
        simp only [h2,if_true]at ih;simp only [h3,if_true];omega
      · have h3:¬i<m+1:=by omega
        simp only [h2,if_false]at ih;simp only [h3,if_false];omega
end Vc
set_option linter.unusedVariables false
namespace Vc
open Go Go.RowKit
variable {P:Program} {W:dR} {R:Nat->Loop} {Z:List Nat}
def laid(sts:Nat->St)(m k:Nat):Prop:=(sts m).c.nk<=k/\k<(sts (m+1)).c.nk
def tf(sts:Nat->St)(cs:Nat->List Nat)(m k:Nat):Prop:=k∈cs m∨laid sts m k
structure Way(P:Program)(W:dR)(ops:Array Oper)(n:Nat)(U:Env)(sts:Nat->St)(gj:Nat->SV)(cs:Nat->List Nat)(rd wr:List (Nat × Nat)):Prop where
 le:n<=ops.size
 wf:∀i,i<=n->(sts i).WF
 EY:∀i o,i<n->ops[i]? = some o->uI P W ops U (λk=>∀m,m<i->laid sts m k->reach ops 3 i m=true) i rd wr (sts i) o (sts (i+1)) (gj i) (cs i)
 apart:∀k i j,((k,i)∈rd∨(k,i)∈wr)->(k,j)∈wr->i=j∨(j<i/\oH ops i j=true)∨(i<j/\oH ops j i=true)
 rows:∀i,i<=n->∀k ce sz t,aE (sts i).m (sts i).o k=some (.row ce sz t)->∀m,m<n->∀d,d<4->laid sts m (k+d)->laid sts m k
theorem EZ{c:ar}:∀{l:List At},l.all (At.wf c)=true->∀k∈aF l,k<c.nk
  | [],_,k,h=>by cases h
  |a::l,hw,k,h=>by
    simp only [List.all_cons,Bool.and_eq_true]at hw;rw [Hm]at h;replace h:=List.mem_append.1 h;rcases h with h|h
    · have qX:=hw.1
      have aB:∀{x:List (Nat × Nat)},(x.all λy=>decide (y.1<c.nk))=true->k∈x.map (·.1)->k<c.nk:=λhx hk=>by
        obtain⟨y,hy,rfl⟩:=List.mem_map.1 hk;simpa using List.all_eq_true.1 hx y hy
      cases a<;>simp only [aF,List.mem_cons,List.not_mem_nil,or_false,List.append_nil]at h
      case own j=>simp only [At.wf,decide_eq_true_eq]at qX;omega
      case omap j=>simp only [At.wf,decide_eq_true_eq]at qX;omega
      case pY j=>simp only [At.wf,decide_eq_true_eq]at qX;omega
      case fn f cp=>exact aB qX h
      case gm f fi cp =>
        have uH:((fi.all λx=>decide (x.1<c.nk)) && cp.all λx=>decide (x.1<c.nk))=true:=qX;simp only [Bool.and_eq_true]at uH;rcases List.mem_append.1 h with h|h
        · exact aB uH.1 h
        · exact aB uH.2 h
      case qS f fi cp =>
        have uH:((fi.all λx=>x.wf c) && cp.all λx=>decide (x.1<c.nk))=true:=qX;simp only [Bool.and_eq_true]at uH;rcases List.mem_append.1 h with h|h
        · obtain⟨x,hx,hk⟩:=List.mem_flatMap.1 h;have G8:=List.all_eq_true.1 uH.1 x hx;cases x<;>simp only [aO.ids,List.mem_cons,List.not_mem_nil,or_false]at hk
          · simp only [aO.wf,decide_eq_true_eq]at G8;omega
          · simp only [aO.wf,decide_eq_true_eq]at G8;omega
        · exact aB uH.2 h
      all_goals (subst h;simp only [At.wf,Bool.and_eq_true,decide_eq_true_eq]at qX;first|exact qX|exact qX.1)
    · exact EZ hw.2 k h
theorem zP{c:ar}{x:SV}(h:x.wf c=true):∀k∈d_ x,k<c.nk:=by
  cases x with
  |any=>intro k hk;cases hk
  |dF=>intro k hk;cases hk
  |cv v=>exact EZ (CV.dk h)
  |cE l =>
    refine EZ (c:=c) ?_;refine List.all_eq_true.2 λa ha => ?_;obtain⟨v,hv,VW⟩:=List.mem_flatMap.1 ha;exact List.all_eq_true.1 (CV.dk (List.all_eq_true.1 h v hv)) a VW
theorem VX{st:St}(h:st.WF){o:Oper}:∀k∈cN st o,k<st.c.nk:=by
 intro k hk;unfold cN at hk;split at hk
 ·exact zP (h.ev _) k hk
 ·exact zP (h.ev _) k hk
 ·exact (List.mem_append.1 hk).elim (zP (h.ev _) k) (zP (h.ev _) k)
 ·exact (List.mem_append.1 hk).elim (zP (h.ev _) k) (zP (h.ev _) k)
 ·obtain⟨p,_,hp⟩:=List.mem_flatMap.1 hk;exact zP (h.ev _) k hp
 ·cases hk
section
variable {ops:Array Oper} {n:Nat} {U:Env} {sts:Nat->St} {gj:Nat->SV} {cs:Nat->List Nat} {rd wr:List (Nat × Nat)}
theorem Way.get(hw:Way P W ops n U sts gj cs rd wr){i:Nat}(hi:i<n):∃o,ops[i]? = some o:=⟨ops[i]'(Nat.lt_of_lt_of_le hi hw.le),Array.getElem?_eq_getElem _⟩
theorem Way.eK(hw:Way P W ops n U sts gj cs rd wr){i:Nat}{o:Oper}(hi:i<n)(ho:ops[i]? = some o):∃s1,oV U (sts i) s1/\Da s1 o (sts (i+1)) (gj i) (cs i):=(hw.EY i o hi ho).eK (hw.wf i (by omega))
theorem Way.step(hw:Way P W ops n U sts gj cs rd wr){i:Nat}{o:Oper}(hi:i<n)(ho:ops[i]? = some o) :
  (sts (i+1)).n=(sts i).n/\(sts (i+1)).r=(sts i).r/\(sts (i+1)).d=(sts i).d/\(sts i).c.le (sts (i+1)).c/\(∀t,o.dst≠some t->eB U (av (sts i).t t) (av (sts (i+1)).t t)) /\
   (∀t,o.dst=some t->av (sts (i+1)).t t=gj i)/\(∀d,o.dst=some d->d<(sts i).n)/\(∀k∈cs i,k<(sts i).c.nk)/\(∀k,k<(sts i).c.nk->k ∉ cs i->aE (sts (i+1)).m (sts (i+1)).o k=aE (sts i).m (sts i).o k):=by
 obtain⟨s1,hk,h⟩:=hw.eK hi ho;obtain⟨k1,k2,k3,k4,k5,k6⟩:=hk.c;refine⟨h.n.trans k3,h.rs.trans k5,h.ds.trans k6,by rw [<-k1];exact h.G5,λt ht => ?_,λt ht=>by rw [h.slot,if_pos ht],λd hd=>by rw [<-k3];exact h.dst d hd,λk hk=>by rw [<-k1];exact h.lt k hk,λk hk hc=>by rw [h.same k (by rw [k1];exact hk) hc,k2,k4]⟩;rw [h.slot,if_neg ht];exact hk.same t
theorem Way.nk(hw:Way P W ops n U sts gj cs rd wr):∀(j i:Nat),i<=j->j<=n->(sts i).c.nk<=(sts j).c.nk
  | 0, i, h, _ => by obtain rfl:i=0:=by omega
                     exact Nat.le_refl _
  |j+1,i,h,hj=>by
    by_cases hi:i=j+1
    · subst hi;exact Nat.le_refl _
    · obtain⟨o,ho⟩:=hw.get (i:=j) (by omega);exact Nat.le_trans (hw.nk j i (by omega) (by omega)) (hw.step (by omega) ho).2.2.2.1.k
theorem Way.n0(hw:Way P W ops n U sts gj cs rd wr):∀j,j<=n->(sts j).n=(sts 0).n/\(sts j).r=(sts 0).r/\(sts j).d=(sts 0).d/\(sts 0).c.le (sts j).c
  |0,_=>⟨rfl,rfl,rfl,ar.le_refl _⟩
  |j+1,hj=>by
    obtain⟨o,ho⟩:=hw.get (i:=j) (by omega);obtain⟨h1,h2,h3,h4,_⟩:=hw.step (by omega) ho;obtain⟨g1,g2,g3,g4⟩:=hw.n0 j (by omega);exact⟨h1.trans g1,h2.trans g2,h3.trans g3,ar.le_trans g4 h4⟩
theorem Way.kn(hw:Way P W ops n U sts gj cs rd wr)(h0:bV.den (sts 0).k U):∀j,j<=n->bV.den (sts j).k U
  |0,_=>h0
  |j+1,hj=>by
    obtain⟨o,ho⟩:=hw.get (i:=j) (by omega);exact (hw.EY j o (by omega) ho).kn (hw.kn h0 j (by omega))
theorem Way.df(hw:Way P W ops n U sts gj cs rd wr):∀j,j<=n->(sts j).df=(sts 0).df
  |0,_=>rfl
  |j+1,hj=>by
    obtain⟨o,ho⟩:=hw.get (i:=j) (by omega);obtain⟨s1,hk,h⟩:=hw.eK (by omega) ho;exact h.G4.trans (hk.k.2.trans (hw.df j (by omega)))
theorem Way.same(hw:Way P W ops n U sts gj cs rd wr){t:Nat}:∀(j i:Nat),i<=j->j<=n->(∀m,i<=m->m<j->∀o,ops[m]? = some o->o.dst≠some t)->eB U (av (sts i).t t) (av (sts j).t t)
  | 0, i, h, _, _ => by obtain rfl:i=0:=by omega
                        exact .inl rfl
  |j+1,i,h,hj,hd=>by
    by_cases hi:i=j+1
    · subst hi;exact .inl rfl
    · obtain⟨o,ho⟩:=hw.get (i:=j) (by omega);exact (hw.same j i (by omega) (by omega) (λm h1 h2=>hd m h1 (by omega))).trans ((hw.step (by omega) ho).2.2.2.2.1 t (hd j (by omega) (by omega) o ho))
theorem Way.cA(hw:Way P W ops n U sts gj cs rd wr){m k:Nat}(hm:m<n)(h:¬tf sts cs m k):aE (sts (m+1)).m (sts (m+1)).o k=aE (sts m).m (sts m).o k:=by
 obtain⟨o,ho⟩:=hw.get hm;by_cases hk:k<(sts m).c.nk
 ·exact (hw.step hm ho).2.2.2.2.2.2.2.2 k hk λhc=>h (.inl hc)
 ·have jk:(sts (m+1)).c.nk<=k:=by
   rcases Nat.lt_or_ge k (sts (m+1)).c.nk with h'|h'
   ·exact (h (.inr ⟨by omega,h'⟩)).elim
   ·exact h'
  rw [(hw.wf (m+1) (by omega)).beyond jk,(hw.wf m (by omega)).beyond (by omega)]
theorem Way.chain(hw:Way P W ops n U sts gj cs rd wr){k:Nat}:∀(j i:Nat),i<=j->j<=n->(∀m,i<=m->m<j->¬tf sts cs m k)->aE (sts j).m (sts j).o k=aE (sts i).m (sts i).o k
  | 0, i, h, _, _ => by obtain rfl:i=0:=by omega
                        rfl
  |j+1,i,h,hj,hd=>by
    by_cases hi:i=j+1
    · subst hi;rfl
    · rw [hw.cA (by omega) (hd j (by omega) (by omega))];exact hw.chain j i (by omega) (by omega) (λm h1 h2=>hd m h1 (by omega))
theorem Way.cls(hw:Way P W ops n U sts gj cs rd wr){m k:Nat}(hm:m<n)(h:k∈cs m):(k,m)∈wr/\k<(sts m).c.nk/\∀i,i<m->laid sts i k->reach ops 3 m i=true:=by
  obtain⟨o,ho⟩:=hw.get hm;have hl:=(hw.step hm ho).2.2.2.2.2.2.2.1 k h;have hf:=hw.EY m o hm ho;generalize hC:cs m=C at hf h;generalize hS:gj m=sv at hf;generalize hs:sts (m+1)=s' at hf;cases hf with
  |skip=>cases h
  |run s1 _ _ _ kn w nd f h1 h2 h4 h5 =>
    have Ht:=(f.Jw k h).1;exact⟨h5 k Ht,hl,h1 k (List.mem_append.2 (.inl (List.mem_append.2 (.inr Ht))))⟩
theorem Way.dst(hw:Way P W ops n U sts gj cs rd wr){i:Nat}{o:Oper}(hi:i<n)(ho:ops[i]? = some o){x:Nat}(hx:o.dst=some x){k:Nat}(hk:k∈d_ (gj i)){m:Nat}(hm:m<i)(hl:laid sts m k):reach ops 3 i m=true:=by
 have hf:=hw.EY i o hi ho;generalize hC:cs i=C at hf;generalize hS:gj i=sv at hf hk;generalize hs:sts (i+1)=s' at hf;cases hf with
 |skip=>cases hk
 |run s1 _ _ _ kn w nd f h1 h2 h4 h5=>exact h2 x hx k hk m hm hl
theorem wg(h:dH ops=true){i:Nat}{o:Oper}(ho:ops[i]? = some o) :
  (∀e∈o.after,Region.binds .any e=true->e.on<i)/\∀j p,ops[j]? = some p ->
   ∀d,p.dst=some d->(i=j∨o.dst≠some d)/\(d∈o.looksAt ops->(j<i/\direct ops i j=true)∨(i<j/\direct ops j i=true)):=by
 have hi:i<ops.size:=(Array.getElem?_eq_some_iff.1 ho).1;have h1:=List.all_eq_true.1 h i (List.mem_range.2 hi);simp only [ho,Bool.and_eq_true]at h1;refine⟨λe he hb => ?_,λj p hp d hd => ?_⟩
 ·have:=Array.all_eq_true_iff_forall_mem.1 h1.1 e he
  simpa [hb]using this
 ·have hj:j<ops.size:=(Array.getElem?_eq_some_iff.1 hp).1;have h2:=List.all_eq_true.1 h1.2 j (List.mem_range.2 hj);simp only [hp,hd,Bool.and_eq_true,decide_eq_true_eq,Bool.or_eq_true,Bool.not_eq_true']at h2;refine⟨h2.1,λhm => ?_⟩;rcases h2.2 with (h4|h4)|h4
  ·rw [List.contains_iff_mem.2 hm]at h4;cases h4
  ·exact .inl h4
  ·exact .inr h4
def cut(n:Nat)(sts:Nat->St)(cs:Nat->List Nat)(listed:Array Bool)(k i:Nat):Prop:=∀m,m<n->tf sts cs m k->(m<i↔listed.getD m false=true)
structure Inv(W:dR)(R:Nat->Loop)(Z:List Nat)(ops:Array Oper)(n:Nat)(U:Env)(sts:Nat->St)(cs:Nat->List Nat)(a0:Act)(bu:Nat->Nat)(listed:Array Bool)(a:Act)(w:World)(β:Nat->Nat):Prop where
 qx:listed.size=ops.size
 closed:∀j oj,ops[j]? = some oj->listed.getD j false=true->∀e∈oj.after,Region.binds .any e=true->listed.getD e.on false=true
 only:∀j,n<=j->listed.getD j false=false
 size:a.tmps.size=(sts 0).n
 jF:a.defers=fm bu (sts 0).df++marksOf bu (sts 0).d
 below:dz W w
 s2:∀t i o,i<n->ops[i]? = some o->o.dst=some t->listed.getD i false=true->av (sts n).t t ≠ .any->a.tmps[t]? = some ((av (sts n).t t).den U β)
 s3:∀t,(∀i o,i<n->ops[i]? = some o->o.dst=some t->listed.getD i false=false)->a.tmps[t]? = a0.tmps[t]?
 mem:∀k i,i<=n->cut n sts cs listed k i->∀e,aE (sts i).m (sts i).o k=some e->Holds W U β k e w
 KN:∀k i,i<=n->cut n sts cs listed k i->∀e,aE (sts i).m (sts i).o k=some e->∀x∈dS e,∀m,m<n->laid sts m x->listed.getD m false=true
 inj:∀k k' i i',i<=n->i'<=n->cut n sts cs listed k i->cut n sts cs listed k' i'->∀e e' b,aE (sts i).m (sts i).o k=some e->aE (sts i').m (sts i').o k'=some e'->bD β k e=some b->bD β k' e'=some b->k=k'
 ft:∀k e,eF (sts 0).r k=some e->w.heap[bu k]? = some (.loop (recAt (R k) e))
 gd:∀b∈Z++(sts 0).d.map bu,w.heap[b]? = some (.deferred (some []))
 agree:∀k,k<(sts 0).c.nk->β k=bu k
theorem KO(hw:Way P W ops n U sts gj cs rd wr)(hd:dH ops=true){a0 a:Act}{bu β:Nat->Nat}{w0 w:World}(hC:Core W R Z U bu (sts 0) a0 w0){listed:Array Bool}
    (inv:Inv W R Z ops n U sts cs a0 bu listed a w β) {i:Nat} {o:Oper} (hi:i<n) (ho:ops[i]? = some o) (fb:listed.getD i false=false) (hr:∀e∈o.after,Region.binds .any e=true->listed.getD e.on false=true) {t:Nat} (ht:t∈o.looksAt ops) (hn:av (sts i).t t ≠ .any) :
    a.tmps[t]? = some ((av (sts i).t t).den U β):=by
  obtain⟨_,Bh⟩:=wg hd ho
  have early:(∀m o',m<n->ops[m]? = some o'->o'.dst=some t->listed.getD m false=false)->eB U (av (sts 0).t t) (av (sts i).t t)->a.tmps[t]? = some ((av (sts i).t t).den U β):=λh1 eA=>by
    rw [inv.s3 t h1,hC.tmps t (eA.any hn),<-eA.den,SV.aa (Env.an _ U) inv.agree (hC.wf.t t)]
  by_cases hx:∃(j:Nat) (p:Oper),ops[j]? = some p/\p.dst=some t
  · obtain⟨j,p,hp,oc⟩:=hx
    have one:∀m q,ops[m]? = some q->q.dst=some t->m=j:=λm q hq Br=>by
      rcases ((wg hd hq).2 j p hp t oc).1 with h4|h4
      · exact h4
      · exact (h4 Br).elim
    obtain⟨_,h2⟩:=Bh j p hp t oc;rcases h2 ht with ⟨RL,wj⟩|⟨qy,wj⟩
    · have kZ:listed.getD j false=true:=by
        simp only [direct,ho,Array.any_eq_true',Bool.and_eq_true,decide_eq_true_eq]at wj;obtain⟨e,he,hb,rfl⟩:=wj;exact hr e he hb
      have eA:eB U (av (sts i).t t) (av (sts n).t t):=hw.same n i (by omega) (Nat.le_refl _) λm h1 h3 q hq Br=>by
        have:=one m q hq Br;omega
      rw [inv.s2 t j p (by omega) hp oc kZ (eA.KJ hn),eA.den]
    · have VY:listed.getD j false=false:=by
        cases kZ:listed.getD j false with
        |false=>rfl
        |true =>
          simp only [direct,hp,Array.any_eq_true',Bool.and_eq_true,decide_eq_true_eq]at wj;obtain⟨e,he,hb,rfl⟩:=wj;rw [inv.closed j p hp kZ e he hb]at fb;cases fb
      refine early (λm o' _ hm he=>by rw [one m o' hm he];exact VY) (hw.same i 0 (by omega) (by omega) λm h1 h3 q hq Br => ?_)
      have:=one m q hq Br;omega
  · have qz:∀(m:Nat) (o':Oper),ops[m]? = some o'->o'.dst≠some t:=λm o' hm he=>hx ⟨m,o',hm,he⟩;exact early (λm o' _ hm he=>(qz m o' hm he).elim) (hw.same i 0 (by omega) (by omega) λm _ _ q hq=>qz m q hq)
theorem KQ(hw:Way P W ops n U sts gj cs rd wr)(hd:dH ops=true){a0 a:Act}{bu β:Nat->Nat}{w0 w:World}(hC:Core W R Z U bu (sts 0) a0 w0){listed:Array Bool}
    (inv:Inv W R Z ops n U sts cs a0 bu listed a w β) {i:Nat} {o:Oper} (hi:i<n) (ho:ops[i]? = some o) (fb:listed.getD i false=false) (hr:∀e∈o.after,Region.binds .any e=true->listed.getD e.on false=true) {s1:St} (hk:oV U (sts i) s1):dD s1 o U β a:=by
  intro x hx hn;cases x with
  |tmp t =>
    have hs:=hk.same t;have kY:av s1.t t ≠ .any:=hn
    have:=KO hw hd hC inv hi ho fb hr (t:=t) (by
      simp only [Oper.looksAt,List.mem_append];exact .inl (List.mem_filterMap.2 ⟨.tmp t,Array.mem_toList_iff.2 hx,rfl⟩)) (hs.any kY)
    show a.tmps.getD t undef=_;rw [Array.getD_eq_getD_getElem?,this,Option.getD_some];exact hs.den β
  |const v=>exact ((SV.cu v s1.c U β).2 hn).symm
  |global g=>exact Jv (by rw [hk.k.1];exact hw.kn hC.kn i (by omega)) hn β
  |func f=>rfl
theorem RM(hw:Way P W ops n U sts gj cs rd wr)(hd:dH ops=true){a0 a:Act}{bu β:Nat->Nat}{w0 w:World}(hC:Core W R Z U bu (sts 0) a0 w0){listed:Array Bool}
    (inv:Inv W R Z ops n U sts cs a0 bu listed a w β) {i:Nat} {o:Oper} (hi:i<n) (ho:ops[i]? = some o) (fb:listed.getD i false=false) (hr:∀e∈o.after,Region.binds .any e=true->listed.getD e.on false=true) {b:Bool} (hb:dp ops U (sts i) o b):Region.wanted o (yielded ops a.tmps)=b:=by
  unfold dp at hb;cases hg:o.guard with
  |none=>rw [hg]at hb;simp only at hb;subst hb;simp [Region.wanted,hg]
  |some jw =>
    obtain⟨j,want⟩:=jw;rw [hg]at hb;obtain⟨x,hx,hb⟩:=hb
    have qB:x∈o.looksAt ops:=by
      simp only [Oper.looksAt,hg,List.mem_append];exact .inr (by simp [hx])
    rcases hb with ⟨e,he,hb⟩|⟨he,rfl⟩
    · have:=KO hw hd hC inv hi ho fb hr qB (by rw [he];simp)
      rw [he]at this;have hy:=J4 (b:=e.den U) hx this;simp only [Region.wanted,hg,hy];exact hb
    · have:=KO hw hd hC inv hi ho fb hr qB (by rw [he];simp)
      rw [he]at this;have hy:=J5 hx this;simp [Region.wanted,hg,hy]
theorem E0:∀(l acc:List Nat) {x:Nat},x∈ia acc l->x∈acc∨x∈l
  | [],acc,x,h=>.inl h
  |y::l,acc,x,h=>by
    simp only [ia]at h;rcases E0 l _ h with h|h
    · split at h
      · exact .inl h
      · rcases List.mem_cons.1 h with rfl|h
        · exact .inr (by simp)
        · exact .inl h
    · exact .inr (by simp [h])
theorem RN{ops:Array Oper}{listed:Array Bool}{i:Nat}{o:Oper}(ho:ops[i]? = some o)(hi:∀e∈o.after,Region.binds .any e=true->listed.getD e.on false=true):∀j∈cT ops i,listed.getD j false=true:=by
 intro j hj;unfold cT at hj;rw [ho]at hj;obtain⟨e,he,rfl⟩:=List.mem_map.1 hj;obtain⟨h1,h2⟩:=List.mem_filter.1 he;exact hi e (by simpa using h1) h2
theorem RO{ops:Array Oper}{listed:Array Bool}(iz:∀ j oj,ops[j]? = some oj->listed.getD j false=true->∀ e∈oj.after,Region.binds .any e=true->listed.getD e.on false=true) :
    ∀(d:Nat) (acc:List Nat),(∀j∈acc,listed.getD j false=true)->∀j∈behind ops d acc,listed.getD j false=true
  |0,acc,h,j,hj=>h j hj
  |d+1,acc,h,j,hj=>by
    refine RO iz d _ (λk hk => ?_) j hj;rcases E0 _ _ hk with hk|hk
    · exact h k hk
    · obtain⟨m,hm,E1⟩:=List.mem_flatMap.1 hk;cases ho:ops[m]? with
      |none=>unfold cT at E1;rw [ho]at E1;cases E1
      |some o=>exact RN ho (iz m o ho (h m hm)) k E1
theorem KS{ops:Array Oper}{listed:Array Bool}(iz:∀j oj,ops[j]? = some oj->listed.getD j false=true->∀e∈oj.after,Region.binds .any e=true->listed.getD e.on false=true){i j:Nat}{o:Oper}(ho:ops[i]? = some o)
  (hi:∀e∈o.after,Region.binds .any e=true->listed.getD e.on false=true) (h:CA ops i j=true):listed.getD j false=true:=by
 unfold CA at h;generalize hN:10=N at h;have hj:j∈behind ops N (ia [] (cT ops i)):=List.contains_iff_mem.1 h;refine RO iz N _ (λk hk => ?_) j hj;rcases E0 _ _ hk with hk|hk
 ·cases hk
 ·exact RN ho hi k hk
theorem VZ{ops:Array Oper}{i j:Nat}{o:Oper}{listed:Array Bool}(ho:ops[i]? = some o)(hr:∀e∈o.after,Region.binds .any e=true->listed.getD e.on false=true)(h:direct ops i j=true):listed.getD j false=true:=by
 simp only [direct,ho,Array.any_eq_true',Bool.and_eq_true,decide_eq_true_eq]at h;obtain⟨e,he,hb,rfl⟩:=h;exact hr e he hb
theorem RP{ops:Array Oper}{listed:Array Bool}(iz:∀j oj,ops[j]? = some oj->listed.getD j false=true->∀e∈oj.after,Region.binds .any e=true->listed.getD e.on false=true){i j:Nat}{o:Oper}(ho:ops[i]? = some o)
  (hi:∀e∈o.after,Region.binds .any e=true->listed.getD e.on false=true) (h:oH ops i j=true):listed.getD j false=true:=by
 unfold oH at h;rcases Bool.or_eq_true _ _▸h with h|h
 ·exact VZ ho hi h
 ·exact KS iz ho hi h
theorem later{a0 a:Act}{bu β:Nat->Nat}{w:World}{listed:Array Bool}(inv:Inv W R Z ops n U sts cs a0 bu listed a w β){i m:Nat}(fb:listed.getD i false=false)(hm:m<ops.size)(h:reach ops 3 m i=true):listed.getD m false=false:=by
  cases ye:listed.getD m false with
  |false=>rfl
  |true =>
    have E2:ops[m]? = some ops[m]:=Array.getElem?_eq_getElem hm;rw [Hp inv.closed 3 m i _ E2 (inv.closed m _ E2 ye) h]at fb;cases fb
theorem E3{a0 a:Act}{bu β:Nat->Nat}{w:World}{listed:Array Bool}(inv:Inv W R Z ops n U sts cs a0 bu listed a w β){i m:Nat}(fb:listed.getD i false=false)(hm:m<ops.size)(h:oH ops m i=true):listed.getD m false=false:=by
  cases ye:listed.getD m false with
  |false=>rfl
  |true =>
    have E2:ops[m]? = some ops[m]:=Array.getElem?_eq_getElem hm;rw [RP inv.closed E2 (inv.closed m _ E2 ye) h]at fb;cases fb
theorem KT(hw:Way P W ops n U sts gj cs rd wr){a0 a:Act}{bu β:Nat->Nat}{w:World}{listed:Array Bool}(inv:Inv W R Z ops n U sts cs a0 bu listed a w β){i:Nat}{o:Oper}(hi:i<n)(ho:ops[i]? = some o)
  (fb:listed.getD i false=false) (hr:∀e∈o.after,Region.binds .any e=true->listed.getD e.on false=true) {k:Nat} (hk:k<(sts i).c.nk) (vM:(k,i)∈rd∨(k,i)∈wr) (hold:∀m,m<i->laid sts m k->reach ops 3 i m=true):cut n sts cs listed k i:=by
 intro m hm ht;have zM:m<ops.size:=Nat.lt_of_lt_of_le hm hw.le;rcases ht with hc|hl
 ·obtain⟨h1,_,_⟩:=hw.cls hm hc;rcases hw.apart k i m vM h1 with rfl|⟨a1,a2⟩|⟨a1,a2⟩
  ·exact⟨λh=>by omega,λh=>by rw [h]at fb;cases fb⟩
  ·exact⟨λ_=>RP inv.closed ho hr a2,λ_=>a1⟩
  ·refine⟨λh=>by omega,λh => ?_⟩;rw [E3 inv fb zM a2]at h;cases h
 ·refine⟨λh=>Hp inv.closed 3 i m o ho hr (hold m h hl),λh => ?_⟩;rcases Nat.lt_or_ge m i with h'|h'
  ·exact h'
  ·have:=hw.nk m i h' (by omega)
   have:=hl.1
   omega
end
end Vc
