import Derived.Test.YtkbchjlnhgfpmaaGreatDoorVcM
import Derived.LoopNIn
import Derived.Sort.LoopGhostIn
import Derived.RangeFuncIn
set_option linter.unusedVariables false
set_option linter.unusedSimpArgs false
namespace Vc
open Go Go.RowKit
variable {W:eJ} {Q:Value->Prop} {QM QP:World->Value->Prop}
theorem yx(r:List (Nat × Option Ex))(j i:Nat)(v:Option Ex):fu ((j,v)::r) i=if j=i then some v else fu r i:=rfl
theorem FO:∀(r:List (Nat × Option Ex)) (k i:Nat) (e:Option Ex),fu (my r k e) i=if k=i then (fu r i).map (λ_=>e)else fu r i
  | [],k,i,e=>by simp [my,fu]
  | (j,v)::r,k,i,e=>by
    simp only [my];by_cases hj:j=k
    · subst hj;rw [if_pos rfl,yx,yx];by_cases hi:j=i
      · simp [hi]
      · rw [if_neg hi,if_neg hi,if_neg hi,FO r j i e,if_neg hi]
    · rw [if_neg hj,yx,yx,FO r k i e];by_cases hi:j=i
      · rw [if_pos hi,if_pos hi,if_neg (λh=>hj (hi.trans h.symm))]
      · rw [if_neg hi,if_neg hi]
theorem FP:∀(r:List (Nat × Option Ex)) (k i:Nat),fu (mz r k) i=if k=i then none else fu r i
  | [],k,i=>by simp [mz,fu]
  | (j,v)::r,k,i=>by
    simp only [mz];by_cases hj:j=k
    · subst hj;rw [if_pos rfl,FP r j i,yx];by_cases hi:j=i
      · rw [if_pos hi,if_pos hi]
      · rw [if_neg hi,if_neg hi,if_neg hi]
    · rw [if_neg hj,yx,yx,FP r k i];by_cases hi:j=i
      · rw [if_pos hi,if_pos hi,if_neg (λh=>hj (hi.trans h.symm))]
      · rw [if_neg hi,if_neg hi]
section
variable {R:Nat->Loop} {Z:List Nat}
theorem Core.drop{U:Env}{β:Nat->Nat}{st:St}{a:Act}{w:World}(hC:Core W R Z U β st a w)(qH:st.df=[]):Core W R Z U β {st with d := []} {a with defers := []} w :=
 ⟨hC.size,hC.tmps,by simp [fW,marksOf,qH],hC.below,hC.mem,hC.inj,hC.fX,hC.kt,λb hb=>hC.gQ b (List.mem_append.2 (.inl (by simpa using hb))),by simpa using (List.nodup_append.1 hC.dn).1,⟨hC.wf.t,hC.wf.m,hC.wf.o,hC.wf.ap,hC.wf.r,λk hk=>(by cases hk),hC.wf.k,hC.wf.df⟩,hC.kn⟩
theorem Holds.put{U:Env}{β:Nat->Nat}{k:Nat}{w:World}{e:qB}{c:ar}(h:Holds W U β k e w)(hw:o7 c k e){l:Nat}{r:Loop}(hl:w.heap[l]? = some (.loop r))(o:Obj):Holds W U β k e (w.putObj l o):=by
 refine h.eK hw (Env.ao _ _) (λ_ _=>rfl) λb hb=>World.putObj_heap_other λhe => ?_;obtain⟨_,_,c,hc,hd⟩:=h.wU b hb;rw [he,hl]at hc;cases hc;exact hd
theorem dT.putObj{w:World}(h:dT W w){l:Nat}(hl:W.heap.size<=l)(o:Obj):dT W (w.putObj l o) :=
 dT.mk h.os h.tape h.output (by simpa using h.size) λk hk hn=>by rw [World.putObj_heap_other (by omega)];exact h.block k hk hn
theorem Uc{U:Env}{β:Nat->Nat}{st:St}{a:Act}{w:World}(hC:Core W R Z U β st a w){k:Nat}{e e':Option Ex}(hg:fu st.r k=some e) :
  Core W R Z U β {st with r:=my st.r k e'} a (w.putObj (β k) (.loop (recAt (R k) e'))):=by
 obtain⟨l1,l2⟩:=hC.fX k e hg;refine⟨hC.size,hC.tmps,hC.kE,dT.putObj hC.below l1 _,λj x hj=>(hC.mem j x hj).put (hC.wf.eO hj) l2 _,hC.inj,λj x hj => ?_,λj j' x x' hj ue he => ?_,λb hb=>⟨(hC.gQ b hb).1, ?_⟩,hC.dn,⟨hC.wf.t,hC.wf.m,hC.wf.o,hC.wf.ap,λj x hj => ?_,hC.wf.d,hC.wf.k,hC.wf.df⟩,hC.kn⟩
 ·rw [FO]at hj;by_cases hk:k=j
  ·subst hk;rw [if_pos rfl,hg]at hj;simp only [Option.map_some,Option.some.injEq]at hj;subst hj;exact⟨l1,World.putObj_heap_same (uV l2)⟩
  ·rw [if_neg hk]at hj;refine⟨(hC.fX j x hj).1, ?_⟩;rw [World.putObj_heap_other λhe=>hk (hC.kt j k x e hj hg he).symm];exact (hC.fX j x hj).2
 ·have f:∀{j x},fu (my st.r k e') j=some x->∃y,fu st.r j=some y:=λ{j x} hj=>by
   rw [FO]at hj;by_cases hk:k=j
   ·exact⟨e,hk▸hg⟩
   ·rw [if_neg hk]at hj;exact⟨x,hj⟩
  obtain⟨y,hy⟩:=f hj;obtain⟨y',fP⟩:=f ue;exact hC.kt j j' y y' hy fP he
 ·rw [World.putObj_heap_other λhe => ?_]
  ·exact (hC.gQ b hb).2
  ·have:=(hC.gQ b hb).2
   rw [he,l2]at this;cases this
 ·rw [FO]at hj;by_cases hk:k=j
  ·exact hk▸hC.wf.r k e hg
  ·rw [if_neg hk]at hj;exact hC.wf.r j x hj
theorem Ud(U:Env)(β:Nat->Nat):∀ (ps:List Tmp) (args:List SV) (t:List (Nat × SV)) (tmps:Array Value),args.length=ps.length->(∀ p∈ps,p < tmps.size) ->
    (∀i,ay t i ≠ .any->tmps[i]? = some ((ay t i).den U β))->∀i,ay (nB t ps args) i ≠ .any ->
      ((ps.zip (args.map (SV.den U β))).foldl (λ(x:Array Value) (y:Tmp × Value)=>x.setIfInBounds y.1 y.2) tmps)[i]? = some ((ay (nB t ps args) i).den U β)
  | [],args,t,tmps,hl,_,h,i,hi=>by
    cases args with
    |nil=>exact h i hi
    |cons _ _=>simp at hl
  |p::ps,[],t,tmps,hl,_,_,_,_=>by simp at hl
  |p::ps,v::args,t,tmps,hl,hp,h,i,hi=>by
    simp only [nB,List.map_cons,List.zip_cons_cons,List.foldl_cons]at hi ⊢;refine Ud U β ps args _ _ (by simpa using hl) (λq hq=>by simpa using hp q (by simp [hq])) (λj hj => ?_) i hi;rw [zj]at hj ⊢;by_cases oI:p=j
    · subst oI;rw [if_pos rfl]
      have:=hp p (by simp)
      simp [this]
    · rw [if_neg oI]at hj ⊢;rw [Array.getElem?_setIfInBounds_ne oI];exact h j hj
theorem Ue:∀(l:List (Tmp × Value)) (tmps:Array Value),(l.foldl (λ(x:Array Value) (y:Tmp × Value)=>x.setIfInBounds y.1 y.2) tmps).size=tmps.size
 | [],_=>rfl
 |p::l,tmps=>by rw [List.foldl_cons,Ue l];simp
theorem Uf{c:ar}:∀(ps:List Tmp) (args:List SV) (t:List (Nat × SV)),args.all (SV.wf c)=true->(∀i,(ay t i).wf c=true)->∀i,(ay (nB t ps args) i).wf c=true
  | [],args,t,_,h,i=>by cases args<;>exact h i
  |p::ps,[],t,_,h,i=>h i
  |p::ps,v::args,t,ha,h,i=>by
    simp only [List.all_cons,Bool.and_eq_true]at ha;refine Uf ps args _ ha.2 (λj => ?_) i;rw [zj];by_cases hj:p=j
    · rw [if_pos hj];exact ha.1
    · rw [if_neg hj];exact h j
end
def mf(rd r:Option Nat)(st:St)(β:Nat->Nat):Prop :=
 match rd with
 |none=>r=none
 |some k=>r=some (β k)/\k<st.c.nk
theorem mf.og{rd r:Option Nat}{st s:St}{β an:Nat->Nat}(h:mf rd r st β)(hc:st.c.le s.c)(hb:∀k,k<st.c.nk->an k=β k):mf rd r s an:=by
 cases rd with
 |none=>exact h
 |some k=>exact⟨by rw [hb k h.2];exact h.1,Nat.lt_of_lt_of_le h.2 hc.k⟩
def xf(G:bV)(W:eJ)(Q:Value->Prop)(QM QP:World->Value->Prop):Prop :=
  ∀(R:Nat->Loop) (Z:List Nat) (r:Option Nat) (n:Nat) (inl:yM (Env->Prop)) (yl:Yl (Env->Prop)) (rU:Bool) (KP:Nat->St->Env->Prop) id ops st (K:St->Env->Prop) U,sU (PA G.P W Q QM QP) G inl yl rU KP ops st K U->∀β a w,Core W R Z U β st a w->∀(Q':Exit->Act->World->Prop),t_ G W R Z st.c U β Q' inl->oH G.P W R st.c U β yl->(rU=true->r=none)->ua W R Z st.c U β Q' KP ->
    ∀(next:Act->World->Prop),(∀a w,next a w->Q' .normal a w)->vI W R Z st U β K next->(Code.region id ops true).wpIn (Fr r) n G.P Q' a w
def Cy(G:bV)(W:eJ)(Q:Value->Prop)(QM QP:World->Value->Prop)(n:Nat):Prop :=
  ∀(rd:Option Nat) (yl:Yl (Env->Prop)) (c:Code) (st:St) (K:Ex->St->Env->Prop) (U:Env),exec (PA G.P W Q QM QP) G n rd yl c st K U ->
    ∀(R:Nat->Loop) (Z:List Nat) (r:Option Nat) (m:Nat) (β:Nat->Nat) (a:Act) (w:World),Core W R Z U β st a w->oH G.P W R st.c U β yl->mf rd r st β->∀Q':Exit->Act->World->Prop,nN W R Z st U β K Q'->c.wpIn (Fr r) m G.P Q' a w
theorem MV{P:Program}{R:Nat->Loop}{Z:List Nat}{rd r:Option Nat}{st:St}{U:Env}{β:Nat->Nat}{a:Act}{w:World}(hC:Core W R Z U β st a w)(o_:mf rd r st β)(d_:wF st.r rd=true)
    (fn:FuncId) (tmps:Array Value) (ps:Array Tmp) (assign body:Code) :
    ∃l mark w1 D,(Instr.enterLoop fn tmps ps assign body (Fr r).round).run P w=.ok (l,mark) w1/\w1.heap[l]? = some (.loop {state := .ready,pending:=none,fn,tmps,params:=ps,assign,body,defers:=D})/\(∀k,k<w.heap.size->w1.heap[k]? = w.heap[k]?) /\
      w.heap.size<=l/\w1.os=w.os/\w1.tape=w.tape/\w1.output=w.output/\w.heap.size<=w1.heap.size /\
      (rd.isSome=true->mark=[])/\(rd.isSome=false->mark=[{target := .collected w.heap.size,args := #[]}]/\w1.heap[w.heap.size]? = some (.deferred (some []))):=by
  cases rd with
  |none =>
    have hr:r=none:=o_;subst hr;refine⟨_,_,_,w.heap.size,run_enterLoop_outer fn tmps ps assign body, ?_⟩;refine⟨?_,λk hk => ?_,by simp,rfl,rfl,rfl,by simp;omega,(λh=>nomatch h),λ(_:false=false)=>And.intro rfl ?_⟩
    · have:=World.alloc_heap_new (w.alloc (.deferred (some []))) (.loop {state := .ready,pending:=none,fn,tmps,params:=ps,assign,body,defers:=w.heap.size})
      rwa [World.size_alloc]at this
    · rw [Below.heap_alloc _ _ _ (by simp;omega),Below.heap_alloc _ _ _ hk]
    · rw [Below.heap_alloc _ _ _ (by simp)];exact World.alloc_heap_new w _
  |some k =>
    obtain⟨hr,hk⟩:=o_;subst hr;obtain⟨e,he⟩:=Option.isSome_iff_exists.1 d_;have hl:=(hC.fX k e he).2;refine⟨_,_,_,_,run_enterLoop_inner hl fn tmps ps assign body,World.alloc_heap_new w _,λj hj=>Below.heap_alloc _ _ _ hj,Nat.le_refl _,rfl,rfl,rfl,by simp,λ_=>rfl,λh=>(by cases h)⟩
theorem Xt{G:bV}(hG:G.Ok){n:Nat}(ih:Cy G W Q QM QP n){rd:Option Nat}{yl:Yl (Env->Prop)}{g:Operand}{ps:Array Tmp}{assign body:Code}{st:St}{K:Ex->St->Env->Prop}{U:Env}
    (h:exec (PA G.P W Q QM QP) G (n+1) rd yl (.rangeFunc g ps assign body) st K U) {R:Nat->Loop} {Z:List Nat} {r:Option Nat} {m:Nat} {β:Nat->Nat} {a:Act} {w:World} (hC:Core W R Z U β st a w) (hY:oH G.P W R st.c U β yl) (o_:mf rd r st β)
    {Q':Exit->Act->World->Prop} (hn:nN W R Z st U β K Q'):(Code.rangeFunc g ps assign body).wpIn (Fr r) m G.P Q' a w:=by
  unfold exec at h;cases g with
  |tmp g =>
    simp only at h;unfold wH at h;generalize hg:ay st.t g=sv at h;split at h;rotate_left
    · exact h.elim
    rename_i f aK;by_cases ic:(G.inl.contains f=true/\g<st.n/\wF st.r rd=true/\st.df=[]);rotate_left
    · rw [if_neg ic]at h;exact h.elim
    rw [if_pos ic]at h;obtain⟨hf,hgn,MW,MX⟩:=ic;generalize MY:G.P.funcs[f]? = u at h;cases u with
    |none=>exact h.elim
    |some fn =>
    simp only at h;generalize hb:fn.body=u at h;cases u with
    |none=>exact h.elim
    |some b =>
    simp only at h;have vb:(SV.cv (.one (.fn f aK))).wf st.c=true:=by rw [<-hg];exact hC.wf.t g
    have mZ:∀x∈aK,x.1<st.c.nk:=λx hx=>by simpa using List.all_eq_true.1 vb x hx
    have eg:a.eval (.tmp g)=.func (.func f) #[] (aK.map λc=>.pointer (some ⟨β c.1,c.2,none⟩)).toArray:=by
      have:=hC.eval (.tmp g) (by show ay st.t g≠_;rw [hg];simp)
      rw [this];show (ay st.t g).den U β=_;rw [hg];rfl
    refine wpIn_rangeFunc λFQ _ => ?_;obtain⟨l,mark,w1,D,w8,zE,hold,D',Xu,Xv,Xw,i_,Xx,Ug⟩:=MV (P:=G.P) hC o_ MW FQ a.tmps ps assign body;generalize Cz:({state := .ready,pending:=none,fn:=FQ,tmps:=a.tmps,params:=ps,assign:=assign,body:=body,defers:=D}:Loop)=rec at zE;have xg:recAt rec none=rec:=by rw [<-Cz];rfl
    have nO:rec.tmps=a.tmps/\rec.params=ps/\rec.assign=assign/\rec.body=body:=by rw [<-Cz];exact⟨rfl,rfl,rfl,rfl⟩
    let kr:=st.c.nk;let ft:Nat->Nat:=λk=>if k=st.c.nk then l else if k=st.c.nk+1 then w.heap.size else β k
    have mG:∀k,k<st.c.nk->ft k=β k:=λk hk=>by
      show (if k=st.c.nk then l else if k=st.c.nk+1 then w.heap.size else β k)=β k;rw [if_neg (by omega),if_neg (by omega)]
    have vf:ft st.c.nk=l:=if_pos rfl
    have MZ:ft (st.c.nk+1)=w.heap.size:=by
      show (if st.c.nk+1=st.c.nk then l else if st.c.nk+1=st.c.nk+1 then w.heap.size else _)=_;rw [if_neg (by omega),if_pos rfl]
    let R1:Nat->Loop:=λk=>if k=st.c.nk then rec else R k;have nP:∀k,k<st.c.nk->R1 k=R k:=λk hk=>if_neg (by omega);have CA:R1 st.c.nk=rec:=if_pos rfl;have CB:st.c.le {st.c with nk:=st.c.nk+2}:=ar.lV st.c 2;let args:List SV:=SV.cv (.one (.sF st.c.nk))::aK.map dA
    have FR:args.all (SV.wf {st.c with nk:=st.c.nk+2})=true:=by
      refine List.all_eq_true.2 λx hx => ?_;rcases List.mem_cons.1 hx with rfl|hx
      · show decide (st.c.nk<st.c.nk+2)=true;simp
      · obtain⟨y,hy,rfl⟩:=List.mem_map.1 hx
        have:=mZ y hy
        show decide (y.1<st.c.nk+2)=true;simp;omega
    have fM:(args.map (SV.den U ft)).toArray=#[.func (.yield l) #[] #[]]++(aK.map λc=>(.pointer (some ⟨β c.1,c.2,none⟩):Value)).toArray:=by
      apply Array.ext';simp only [args,List.map_cons,Array.toList_append];show Value.func (.yield (ft st.c.nk)) #[] #[]::_=_;rw [vf];simp only [List.map_map,List.cons_append,List.nil_append,List.cons.injEq,true_and];apply List.map_congr_left;intro x hx;show Value.pointer (some ⟨ft x.1,x.2,none⟩)=_;rw [mG x.1 (mZ x hx)]
    have Xy:dT W w1:=dT.mk (Xu.trans hC.below.os) (Xv.trans hC.below.tape) (Xw.trans hC.below.output) (Nat.le_trans hC.below.size i_) λk hk hn=>by
      rw [hold k (Nat.lt_of_lt_of_le hk hC.below.size)];exact hC.below.block k hk hn
    have xe:st.d.map ft=st.d.map β:=List.map_congr_left λk hk=>mG k (hC.wf.d k hk);have lM:∀k∈Z++st.d.map β,k<w.heap.size:=λk hk=>uV (hC.gQ k hk).2
    have FT:∀{k e},aM st.m st.o k=some e->Holds W U ft k e w1:=λ{k e} hk =>
      (hC.mem k e hk).eK (hC.wf.eO hk) (Env.ao _ _) mG λb hb=>hold b ((hC.mem k e hk).wU b hb).2.1
    have base:Core W R1 (Z++st.d.map β++(if rd.isSome=true then []else [w.heap.size])) U ft {t:=(List.range args.length).zip args,n:=args.length + (fn.ntmps - args.length),m:=st.m,c := {st.c with nk:=st.c.nk + 2},o:=st.o,r:=(st.c.nk,none)::st.r,d := [],k:=st.k}
        {tmps:=(args.map (SV.den U ft)).toArray++Array.replicate (fn.ntmps-(args.map (SV.den U ft)).toArray.size) undef,defers := []} w1:=by
      have g:=hC.wf.grow CB;refine⟨by simp,λi hi => ?_,rfl,Xy,λk e hk=>FT hk,λk k' e e' b' hx hy lh mb => ?_,λk e hk => ?_,λk k' e e' hx hy he => ?_,λb' gy => ?_, ?_,⟨λi => ?_,g.m,g.o,g.ap,λk e hk => ?_,λk hk=>(by cases hk),g.k,λx hx=>(by cases hx)⟩,hC.kn⟩
      · simp only [D7]at hi ⊢;cases yy:args[i]? with
        |none=>rw [yy]at hi;exact (hi rfl).elim
        |some v =>
          have ct:i<args.length:=(List.getElem?_eq_some_iff.1 yy).1;rw [Array.getElem?_append_left (by simpa using ct)];simp [yy]
      · rw [Fh (hC.wf.eO hx) mG]at lh;rw [Fh (hC.wf.eO hy) mG]at mb
        exact hC.inj k k' e e' b' hx hy lh mb
      · rw [yx]at hk;by_cases cQ:st.c.nk=k
        · rw [if_pos cQ]at hk;cases hk;subst cQ;rw [vf,CA,xg];exact⟨Nat.le_trans hC.below.size D',zE⟩
        · rw [if_neg cQ]at hk;have ct:=hC.wf.r k e hk;rw [mG k ct,nP k ct,hold _ (uV (hC.fX k e hk).2)];exact hC.fX k e hk
      · rw [yx]at hx hy;by_cases h1:st.c.nk=k<;>by_cases h2:st.c.nk=k'
        · omega
        · rw [if_neg h2]at hy;rw [<-h1,vf,mG k' (hC.wf.r k' e' hy)]at he
          have:=uV (hC.fX k' e' hy).2
          omega
        · rw [if_neg h1]at hx;rw [<-h2,vf,mG k (hC.wf.r k e hx)]at he
          have:=uV (hC.fX k e hx).2
          omega
        · rw [if_neg h1]at hx;rw [if_neg h2]at hy;rw [mG k (hC.wf.r k e hx),mG k' (hC.wf.r k' e' hy)]at he;exact hC.kt k k' e e' hx hy he
      · simp only [List.map_nil,List.append_nil]at gy;rcases List.mem_append.1 gy with gy|gy
        · exact⟨(hC.gQ b' gy).1,by rw [hold b' (lM b' gy)];exact (hC.gQ b' gy).2⟩
        · cases d_:rd.isSome with
          |true=>rw [d_]at gy;simp at gy
          |false =>
            rw [d_]at gy;simp at gy;subst gy;exact⟨hC.below.size,(Ug d_).2⟩
      · simp only [List.map_nil,List.append_nil];refine List.nodup_append.2 ⟨hC.dn,by split<;>simp,λx hx y hy => ?_⟩
        have:=lM x hx
        split at hy
        · cases hy
        · simp at hy;omega
      · simp only [D7];cases yy:args[i]? with
        |none=>rfl
        |some v=>exact List.all_eq_true.1 FR v (List.mem_of_getElem? yy)
      · rw [yx]at hk;by_cases cQ:st.c.nk=k
        · simp only;omega
        · rw [if_neg cQ]at hk
          have:=hC.wf.r k e hk
          simp only;omega
    have post:∀ (s':St) (ag:Env) (an:Nat->Nat) (a':Act) (w':World),Core W R1 (Z++st.d.map β++(if rd.isSome=true then []else [w.heap.size])) ag an {s' with d := []} a' w'->({st.c with nk:=st.c.nk + 2}:ar).le s'.c->Env.aC {st.c with nk:=st.c.nk + 2} U ag->(∀ k,k < st.c.nk + 2->an k=ft k) ->
        (match fu s'.r st.c.nk with
          |some none=>K .normal {t:=st.t,n:=st.n,m:=s'.m,c:=s'.c,o:=s'.o,r:=mz s'.r st.c.nk,d:=if rd.isSome=true then st.d else (st.c.nk+1)::st.d,k:=s'.k}
          |some (some .normal) => (PA G.P W Q QM QP).fail "range: busy"
          |some (some (.jz _)) => (PA G.P W Q QM QP).fail "range: panic"
          |some (some e)=>K e {t:=st.t,n:=st.n,m:=s'.m,c:=s'.c,o:=s'.o,r:=mz s'.r st.c.nk,d:=if rd.isSome=true then st.d else (st.c.nk+1)::st.d,k:=s'.k}
          |none => (PA G.P W Q QM QP).fail "range: record") ag -> ∃ jump w4, (Instr.endLoop l).run G.P w' = .ok jump w4 /\ (match jump with | none => Q' .normal { a with defers := mark ++ a.defers } w4 | some c => c.wpIn (Fr r) m G.P Q' { a with defers := mark ++ a.defers } w4) := by
      intro s' ag an a' w' eV FU rV gy hk;have b1:∀k,k<st.c.nk->an k=β k:=λk hk=>(gy k (by omega)).trans (mG k hk);have b2:an st.c.nk=l:=(gy _ (by omega)).trans vf;have b3:an (st.c.nk+1)=w.heap.size:=(gy _ (by omega)).trans MZ;have dE:Env.aC st.c U ag:=⟨rV.i,rV.b,rV.v,rV.p,rV.s,rV.l⟩;have nJ:st.c.le s'.c:=ar.le_trans CB FU
      have back:∀(e:Option Ex) (o:Obj),fu s'.r st.c.nk=some e->Core W R Z ag an {t:=st.t,n:=st.n,m:=s'.m,c:=s'.c,o:=s'.o,r:=mz s'.r st.c.nk,d:=if rd.isSome=true then st.d else (st.c.nk+1)::st.d,k:=s'.k} {a with defers:=mark++a.defers} (w'.putObj l o):=by
        intro e o kq;obtain⟨l1,l2⟩:=eV.fX st.c.nk e kq;rw [b2]at l1 l2;have Uh:st.d.map an=st.d.map β:=List.map_congr_left λk hk=>b1 k (hC.wf.d k hk)
        have vJ:(if rd.isSome=true then st.d else (st.c.nk+1)::st.d).map an=(if rd.isSome=true then []else [w.heap.size])++st.d.map β:=by
          split
          · simpa using Uh
          · simp only [List.map_cons,b3,Uh,List.singleton_append]
        refine⟨hC.size,λi hi => ?_, ?_,dT.putObj eV.below l1 _,λk e hg=>(eV.mem k e hg).put (eV.wf.eO hg) l2 _,eV.inj,λk x hg => ?_,λk k' x x' hg fx he => ?_,λb hb => ?_, ?_,
          ⟨λi=>SV.aU nJ (hC.wf.t i),eV.wf.m,eV.wf.o,eV.wf.ap,λk x hg => ?_,λk hk => ?_,eV.wf.k,λx hx=>(by cases hx)⟩,eV.kn⟩
        · rw [show ({a with defers:=mark++a.defers}:Act).tmps=a.tmps from rfl,hC.tmps i hi];exact congrArg some (SV.aa dE b1 (hC.wf.t i)).symm
        · show mark++a.defers=fW an []++_;rw [hC.kE,MX];simp only [fW,List.map_nil,List.nil_append]
          have FV:marksOf β st.d=marksOf an st.d:=by
            simp only [marksOf];exact List.map_congr_left λk hk=>by rw [b1 k (hC.wf.d k hk)]
          cases d_:rd.isSome with
          |true=>rw [Xx d_,FV];rfl
          |false=>rw [(Ug d_).1,FV];simp [marksOf,b3]
        · rw [FP]at hg;split at hg
          · cases hg
          · rename_i cQ;have FW:=eV.fX k x hg;refine⟨FW.1, ?_⟩;have dt:an k≠l:=λhe=>cQ (eV.kt st.c.nk k e x kq hg (by rw [b2,he]));rw [World.putObj_heap_other dt,FW.2]
            have:R1 k=R k:=if_neg (λhe=>cQ he.symm)
            rw [this]
        · rw [FP]at hg fx;split at hg
          · cases hg
          · split at fx
            · cases fx
            · exact eV.kt k k' x x' hg fx he
        · rw [vJ]at hb
          have gK:b∈Z++st.d.map β++(if rd.isSome=true then []else [w.heap.size]):=by
            simp only [List.mem_append]at hb ⊢;rcases hb with hb|hb|hb
            · exact .inl (.inl hb)
            · exact .inr hb
            · exact .inl (.inr hb)
          have:=eV.gQ b (by simpa using gK)
          refine⟨this.1, ?_⟩;rw [World.putObj_heap_other λhe => ?_]
          · exact this.2
          · have h2:=this.2;rw [he,l2]at h2;cases h2
        · rw [vJ]
          have:=eV.dn
          simp only [List.map_nil,List.append_nil]at this;obtain⟨n1,n2,n3⟩:=List.nodup_append.1 this;obtain⟨n4,n5,n6⟩:=List.nodup_append.1 n1;refine List.nodup_append.2 ⟨n4,List.nodup_append.2 ⟨n2,n5,λx hx y hy he=>n3 y (List.mem_append.2 (.inr hy)) x hx he.symm⟩,λx hx y hy => ?_⟩;rcases List.mem_append.1 hy with hy|hy
          · exact n3 x (List.mem_append.2 (.inl hx)) y hy
          · exact n6 x hx y hy
        · rw [FP]at hg;split at hg
          · cases hg
          · exact eV.wf.r k x hg
        · have I8:st.c.nk+2<=s'.c.nk:=FU.k;split at hk
          · have:=hC.wf.d k hk
            simp only;omega
          · rcases List.mem_cons.1 hk with rfl|hk
            · simp only;omega
            · have:=hC.wf.d k hk
              simp only;omega
      have ends:∀(x:Option Ex),fu s'.r st.c.nk=some x->w'.heap[l]? = some (.loop (recAt rec x)):=λx hx=>by
        have:=(eV.fX st.c.nk x hx).2
        rw [b2,CA]at this;exact this
      generalize zG:fu s'.r st.c.nk=gr at hk;cases gr with
      |none=>exact hk.elim
      |some x =>
        have hh:=ends x zG;cases x with
        |none =>
          refine⟨none,_,(run_endLoop (P:=G.P) hh (by simp [recAt])).trans rfl, ?_⟩;exact hn .normal _ ag an _ _ hk trivial nJ dE b1 (back none _ zG)
        |some e =>
          cases e with
          |normal=>exact hk.elim
          |exit id =>
            refine⟨some (.exit id),_,(run_endLoop (P:=G.P) hh (by simp [recAt])).trans rfl, ?_⟩;exact wpIn_exit (hn (.exit id) _ ag an _ _ hk trivial nJ dE b1 (back _ _ zG))
          |ret =>
            refine⟨some .ret,_,(run_endLoop (P:=G.P) hh (by simp [recAt])).trans rfl, ?_⟩;exact wpIn_ret (hn .ret _ ag an _ _ hk trivial nJ dE b1 (back _ _ zG))
          |jz i=>exact hk.elim
    refine⟨l,mark,w1,{target := .fn (.func f) (aK.map λc=>(.pointer (some ⟨β c.1,c.2,none⟩):Value)).toArray,args := #[.func (.yield l) #[] #[]]},w1,f,(args.map (SV.den U ft)).toArray,w1,w8, ?_,λf' _=>u_ r f', ?_,FC,Mr.2 (ME (n:=0) MY hb ?_)⟩
    · simp only [resolve,rangeCall,eg];simp [Deferred.ofValue,Act.eval]
    · simp only [invoke];rw [fM];exact hG.inl f hf _ w1
    refine ih none _ b _ _ U h R1 _ none 0 ft _ w1 base ?_ rfl _ ?_;rotate_left
    ·
      intro e s' ag an a' w' hk _ h1 h2 h3 eV;by_cases qH:s'.df=[];rotate_left
      · rw [if_pos qH]at hk;exact hk.elim
      rw [if_neg (by simpa using qH)]at hk
      have fin:(match dI G.P s' fn.results.toList with
          |some _=>match fu s'.r st.c.nk with
            |some none=>K .normal {t:=st.t,n:=st.n,m:=s'.m,c:=s'.c,o:=s'.o,r:=mz s'.r st.c.nk,d:=if rd.isSome=true then st.d else (st.c.nk+1)::st.d,k:=s'.k}
            |some (some .normal) => (PA G.P W Q QM QP).fail "range: busy"
            |some (some (.jz _)) => (PA G.P W Q QM QP).fail "range: panic"
            |some (some e)=>K e {t:=st.t,n:=st.n,m:=s'.m,c:=s'.c,o:=s'.o,r:=mz s'.r st.c.nk,d:=if rd.isSome=true then st.d else (st.c.nk+1)::st.d,k:=s'.k}
            |none => (PA G.P W Q QM QP).fail "range: record"
          |none => (PA G.P W Q QM QP).fail "range: results") ag -> LeavesInM (Fr none) 0 G.P fn a'.tmps (rangePost (Fr r) m G.P l Q' { a with defers := mark ++ a.defers }) a'.defers .returning w' := by
        intro hk;generalize hr:dI G.P s' fn.results.toList=u at hk;cases u with
        |none=>exact hk.elim
        |some vs=>exact T0 eV qH hr λw3 w7 _=>post s' ag an _ w3 w7 h1 h2 h3 hk
      cases e with
      |normal=>exact fin hk
      |ret=>exact fin hk
      |exit id=>exact hk.elim
      |jz i=>exact hk.elim
    ·
      intro k mg s K' aB hy vK jV gj R' Ui Z' bB a2 w2 jS dW r2 n2 next' lO
      have iR:st.c.le s.c:=ar.le_trans CB jV;have dE:Env.aC st.c U aB:=⟨gj.i,gj.b,gj.v,gj.p,gj.s,gj.l⟩;have oF:∀k,k<st.c.nk->bB k=β k:=λk hk=>(jS k (by simp only;omega)).trans (mG k hk);have Xz:∀k,k<st.c.nk->R' k=R k:=λk hk=>(Ui k (by simp only;omega)).trans (nP k hk);have M0:oH G.P W R' s.c aB bB yl:=hY.og iR dE oF Xz;split at hy;rotate_left
      · exact M0 k mg s K' aB hy vK (ar.le_refl _) (Env.ao _ _) R' (λ_ _=>rfl) Z' bB a2 w2 (λ_ _=>rfl) dW r2 n2 next' lO
      rename_i cQ;subst cQ;split at hy;rotate_left
      · exact hy.elim
      rename_i CC;obtain⟨CD,FX,M1⟩:=CC;have xh:bB st.c.nk=l:=(jS _ (by simp only;omega)).trans vf;have FY:R' st.c.nk=rec:=(Ui _ (by simp only;omega)).trans CA
      have hh:w2.heap[l]? = some (.loop rec):=by
        have:=(dW.fX _ _ CD).2
        rw [xh,FY,xg]at this;exact this
      have Uj:=run_yield (P:=G.P) (args:=(mg.map (SV.den aB bB)).toArray) hh (by rw [nO.2.1];simpa using FX);rw [nO.1,nO.2.1,nO.2.2.1,nO.2.2.2]at Uj;refine⟨l,rec.fn,_,assign,body,by rw [xh];exact Uj,roundIn_of_wpIn (u_ r2 _) ?_⟩
      have XA:Core W R' (Z'++s.d.map bB) aB bB {t:=nB st.t ps.toList mg,n:=st.n,m:=s.m,c:=s.c,o:=s.o,r:=s.r,d := [],k:=s.k}
          {tmps:=(ps.zip (mg.map (SV.den aB bB)).toArray).foldl (λ(tmps:Array Value) (x:Tmp × Value)=>tmps.setIfInBounds x.1 x.2) a.tmps,defers := []} w2:=by
        have hz:(ps.zip (mg.map (SV.den aB bB)).toArray).foldl (λ(tmps:Array Value) (x:Tmp × Value)=>tmps.setIfInBounds x.1 x.2) a.tmps=(ps.toList.zip (mg.map (SV.den aB bB))).foldl (λ(x:Array Value) (y:Tmp × Value)=>x.setIfInBounds y.1 y.2) a.tmps:=by
          rw [<-Array.foldl_toList,Array.toList_zip]
        rw [hz];refine⟨by simp only [Ue];exact hC.size,λi hi => ?_,rfl,dW.below,dW.mem,dW.inj,dW.fX,dW.kt,λb hb=>dW.gQ b (by simpa using hb),by simpa using dW.dn,⟨λi => ?_,dW.wf.m,dW.wf.o,dW.wf.ap,dW.wf.r,λk hk=>(by cases hk),dW.wf.k,λx hx=>(by cases hx)⟩,dW.kn⟩
        · refine Ud aB bB ps.toList mg st.t a.tmps (by simpa using FX) (λp hp => ?_) (λj hj => ?_) i hi
          · rw [hC.size]
            have:=Array.all_eq_true_iff_forall_mem.1 M1 p (Array.mem_toList_iff.1 hp)
            simpa using this
          · rw [hC.tmps j hj];exact congrArg some (SV.aa dE oF (hC.wf.t j)).symm
        · exact Uf ps.toList mg st.t vK (λj=>SV.aU iR (hC.wf.t j)) i
      refine ih (some st.c.nk) yl assign _ _ aB hy R' (Z'++s.d.map bB) (some l) n2 bB _ w2 XA M0 ⟨by rw [xh],by have:=jV.k;simp only at this ⊢;omega⟩ _ ?_;intro e s1 DF Iq a3 w3 hk _ h1 h2 h3 Jd;cases e with
      |exit id=>exact hk.elim
      |ret=>exact hk.elim
      |jz i=>exact hk.elim
      |normal =>
        simp only at hk;split at hk;rotate_left
        · exact hk.elim
        rename_i uf;have M3:st.c.nk<s.c.nk:=by have:=jV.k;simp only at this;omega
        have qC:Iq st.c.nk=l:=(h3 _ M3).trans xh
        have XB:w3.heap[l]? = some (.loop rec):=by
          have:=(Jd.fX _ _ uf).2
          rw [qC,FY,xg]at this;exact this
        refine⟨_,run_beginRound (P:=G.P) XB (by rw [<-Cz]), ?_⟩;have w7:=Uc (e':=some .normal) Jd uf;rw [qC,FY]at w7;have jY:recAt rec (some .normal) = {rec with state := .busy}:=by rw [<-Cz];rfl
        rw [jY]at w7;refine ih (some st.c.nk) yl body _ _ DF hk R' (Z'++s.d.map bB) (some l) n2 Iq _ _ w7 (M0.og h1 h2 h3 (λ_ _=>rfl)) ⟨by rw [qC],Nat.lt_of_lt_of_le M3 h1.k⟩ _ ?_;intro e s2 yg vA a4 w4 Ea _ g1 g2 g3 Uk;have q1:s.c.le s2.c:=ar.le_trans h1 g1;have q2:Env.aC s.c aB yg:=Env.aj h1 h2 g2;have q3:∀k,k<s.c.nk->vA k=bB k:=λk hk=>(g3 k (Nat.lt_of_lt_of_le hk h1.k)).trans (h3 k hk);split at Ea;rotate_left
        · exact Ea.elim
        rename_i ug;obtain⟨ug,M4⟩:=ug;have Um:vA st.c.nk=l:=(q3 _ M3).trans xh
        have XC:w4.heap[l]? = some (.loop (recAt rec (some .normal))):=by
          have:=(Uk.fX _ _ ug).2
          rw [Um,FY]at this;exact this
        have again:∀(x:Option Ex),Core W R' Z' yg vA {t:=s.t,n:=s.n,m:=s2.m,c:=s2.c,o:=s2.o,r:=my s2.r st.c.nk x,d:=s.d,k:=s2.k,df:=s.df} a2 (w4.putObj l (.loop (recAt rec x))):=by
          intro x;have Un:=Uc (e':=x) (Uk.drop M4) ug;rw [Um,FY]at Un;exact I5 dW (s' := {s2 with r:=my s2.r st.c.nk x}) Un q1 q2 q3
        have CF:∀(jump:Option Code),(Instr.endRound l jump).run G.P w4=.ok (.bool jump.isNone) (w4.putObj l (.loop {rec with state:=if jump.isNone then .ready else .done,pending:=jump})):=λjump=>by
          have:=run_endRound (P:=G.P) jump XC
          rw [this];simp only [recAt]
        cases e with
        |normal =>
          refine⟨_,_,CF none,_,rfl, ?_⟩
          have:=lO (.cv (.one (.bool (.lit true)))) _ yg vA _ Ea rfl (by simp) q1 q2 q3 (again none)
          rw [<-Cz]at this ⊢;exact this
        |ret =>
          refine⟨_,_,CF (some .ret),_,rfl, ?_⟩
          have:=lO (.cv (.one (.bool (.lit false)))) _ yg vA _ Ea rfl (by simp) q1 q2 q3 (again (some .ret))
          rw [<-Cz]at this ⊢;exact this
        |jz i=>exact Ea.elim
        |exit id =>
          refine⟨_,_,CF (some (.exit id)),_,rfl, ?_⟩
          have:=lO (.cv (.one (.bool (.lit false)))) _ yg vA _ Ea rfl (by simp) q1 q2 q3 (again (some (.exit id)))
          rw [<-Cz]at this ⊢;exact this
  |_=>exact h.elim
theorem M5{G:bV}(hG:G.Ok)(hD:xf G W Q QM QP):∀ (n:Nat) (rd:Option Nat) (yl:Yl (Env->Prop)) (c:Code) (st:St) (K:Ex->St->Env->Prop) (U:Env),exec (PA G.P W Q QM QP) G n rd yl c st K U ->
    ∀(R:Nat->Loop) (Z:List Nat) (r:Option Nat) (m:Nat) (β:Nat->Nat) (a:Act) (w:World),Core W R Z U β st a w->oH G.P W R st.c U β yl->mf rd r st β->∀Q':Exit->Act->World->Prop,nN W R Z st U β K Q'->c.wpIn (Fr r) m G.P Q' a w
  |0,rd,yl,c,st,K,U,h,_,_,_,_,_,_,_,_,_,_,_,_=>h.elim
  |n+1,rd,yl,c,st,K,U,h,R,Z,r,m,β,a,w,hC,hY,o_,Q',hn=>by
    have ih:=M5 hG hD n;have here:∀(e:Ex),e.ok st.c->K e st U->Q' (e.to U) a w:=λe ho hk=>hn e st U β a w hk ho (ar.le_refl _) (Env.ao _ _) (λ_ _=>rfl) hC;unfold exec at h;unfold wG wI at h;rw [KL]at h;cases c with
    |skip=>exact wpIn_skip (here .normal trivial h)
    |label l=>exact wpIn_label (here .normal trivial h)
    |ret=>exact wpIn_ret (here .ret trivial h)
    |exit id=>exact wpIn_exit (here (.exit id) trivial h)
    |region id ops draw =>
      have nx:vI W R Z st U β (K .normal) (Q' .normal):=λs aB bB a2 w2 hk h1 h2 h3 dW=>hn .normal s aB bB a2 w2 hk trivial h1 h2 h3 dW
      have XD:t_ G W R Z st.c U β Q' (fun f args s K'=>match G.P.funcs[f]? with
          |none => (PA G.P W Q QM QP).fail "inline: no such function"
          |some fn=>match fn.body with
            |none => (PA G.P W Q QM QP).fail "inline: no body"
            |some b =>
              exec (PA G.P W Q QM QP) G n none yl b {t:=(List.range args.length).zip args,n:=args.length+(fn.ntmps-args.length),m:=s.m,c:=s.c,o:=s.o,r:=s.r,d := [],k:=s.k} λe s' =>
                leave (PA G.P W Q QM QP) G (exec (PA G.P W Q QM QP) G n none yl) fn e s' (λv s2=>K' v (St.prune s.c.nk v {t:=s.t,n:=s.n,m:=s2.m,c:=s2.c,o:=s2.o,r:=s2.r,d:=s.d,k:=s2.k,df:=s.df}))
                  λi s2=>K (.jz i) {t:=s.t,n:=s.n,m:=s2.m,c:=s2.c,o:=s2.o,r:=s2.r,d:=s.d,k:=s2.k,df:=s.df}):=by
        intro f args s K' a_ hi hw jc gx ft a1 w1 iQ o9 next' lO
        generalize hf:G.P.funcs[f]? = u at hi;cases u with
        |none=>exact hi.elim
        |some fn =>
          simp only at hi;generalize hb:fn.body=u at hi;cases u with
          |none=>exact hi.elim
          |some b =>
            refine ME (n:=0) hf hb ?_;refine ih none yl b _ _ a_ hi R (Z++s.d.map ft) none 0 ft _ w1 (TX (n:=fn.ntmps) o9 hw) (hY.og jc gx iQ (λ_ _=>rfl)) rfl _ ?_;intro e s' ag an a' w' hk kN h1 h2 h3 Jd
            have fin:=T2 (Z:=Z++s.d.map ft) hG (c0:=st.c) (dk:=U) (bI:=β) (λc M6 K2 aB hx g1 g2 m2 bB a2 w2 g3 g4 Q2 g5=>ih none yl c M6 K2 aB hx R _ none m2 bB a2 w2 g4 (hY.og g1 g2 g3 (λ_ _=>rfl)) rfl Q2 g5) hk (ar.le_trans jc h1) (Env.aj jc gx h2)
              (λk hk=>(h3 k (Nat.lt_of_lt_of_le hk jc.k)).trans (iQ k hk)) Jd kN 0 (T:=λe w'=>match e with
                | .returned v=>next' v w'
                | .panicked ch=>Q' (.panic ch) a1 w'
                | .outgrown=>False)
              (λv s2 aB bB w2 jW uU D6 q1 q2 q3 w7=>by
                have XE:=I5 o9 w7 (ar.le_trans h1 q1) (Env.aj h1 h2 q2) (λk hk=>(q3 k (Nat.lt_of_lt_of_le hk h1.k)).trans (h3 k hk));have Fz:=XE.prune s.c.nk v;exact lO v _ aB bB w2 jW (by rw [St.ud];exact uU) D6 (by rw [St.ud];exact ar.le_trans h1 q1) (Env.aj h1 h2 q2) (λk hk=>(q3 k (Nat.lt_of_lt_of_le hk h1.k)).trans (h3 k hk)) Fz)
              (λi s2 aB bB w2 jW yy q1 q2 q3 w7=>by
                have l1:s.c.le s2.c:=ar.le_trans h1 q1;have l2:Env.aC s.c a_ aB:=Env.aj h1 h2 q2;have l3:∀k,k<s.c.nk->bB k=ft k:=λk hk=>(q3 k (Nat.lt_of_lt_of_le hk h1.k)).trans (h3 k hk);exact hn (.jz i) _ aB bB a1 w2 jW yy (ar.le_trans jc l1) (Env.aj jc gx l2) (λk hk=>(l3 k (Nat.lt_of_lt_of_le hk jc.k)).trans (iQ k hk)) (I5 o9 w7 l1 l2 l3))
            cases e with
            |exit id=>exact (fin.1 id rfl).elim
            |normal=>exact fin.2
            |ret=>exact fin.2
            |jz i=>exact fin.2
      have hI:t_ G W R Z st.c U β Q' (yR (PA G.P W Q QM QP) G n (exec (PA G.P W Q QM QP) G n) yl K):=by
        intro f args s K' a_ hi;refine XD f args s K' a_ ?_
        have hi:mA (PA G.P W Q QM QP) G (exec (PA G.P W Q QM QP) G n) yl K f args s K' a_:=by
          unfold yR at hi;generalize XF:G.jm=sl at hi;cases sl with
          |nil =>
            simp only at hi;generalize G.marks=ml at hi;cases ml with
            |nil=>exact hi
            |cons x ml =>
              simp only at hi;generalize (x::ml).contains f=b at hi;cases b with
              |true=>exact hi
              |false=>exact hi
          |cons x sl =>
            simp only at hi;generalize DO:jN n f args s (x::sl)=u at hi;cases u with
            |none=>exact hi
            |some e =>
              obtain⟨h1,rfl,rfl,rfl,rfl⟩:=Kv DO;rw [hG.jm e (XF▸h1)];exact hi
        unfold mA at hi;simp only [KF,St.norm_eq]at hi;exact hi
      have hP:ua W R Z st.c U β Q' (λi s=>K (.jz i) s):=λi s aB hk hi h1 h2 bB a2 w2 h3 dW=>hn (.jz i) s aB bB a2 w2 hk hi h1 h2 h3 dW
      have td:rd.isNone=true->r=none:=λh=>by
        cases rd with
        |none=>exact o_
        |some k=>cases h
      cases draw with
      |true=>exact hD R Z r m _ yl _ _ id ops st _ U h β a w hC Q' hI hY td hP _ (λ_ _ q=>q) nx
      |false=>exact wpIn_region_list (Mv (My hG hI hY td hP) ops.toList st U h (ar.le_refl _) (Env.ao _ _) β a w (λ_ _=>rfl) hC _ (λ_ _ q=>q) nx)
    |seq x y =>
      refine wpIn_seq (ih rd yl x st _ U h R Z r m β a w hC hY o_ _ ?_);intro e s aB bB a2 w2 hk ho h1 h2 h3 dW;cases e with
      |normal=>exact ih rd yl y s K aB hk R Z r m bB a2 w2 dW (hY.og h1 h2 h3 (λ_ _=>rfl)) (o_.og h1 h3) Q' (hn.og h1 h2 h3)
      |exit id=>exact hn (.exit id) s aB bB a2 w2 hk ho h1 h2 h3 dW
      |ret=>exact hn .ret s aB bB a2 w2 hk ho h1 h2 h3 dW
      |jz i=>exact hn (.jz i) s aB bB a2 w2 hk ho h1 h2 h3 dW
    |cond o x y =>
      cases o with
      |tmp d =>
        simp only at h;generalize hg:ay st.t d=sv at h;split at h
        · rename_i e;split at h
          · rename_i hd
            have he:a.eval (.tmp d)=.bool (e.den U):=by
              have:=hC.eval (.tmp d) (by show ay st.t d≠_;rw [hg];simp)
              rw [this];show (ay st.t d).den U β=_;rw [hg];rfl
            rcases zt h with ⟨hb,h⟩|⟨hb,h⟩<;>rw [St.norm_eq]at h
            · exact wpIn_cond_true (by rw [he,hb]) (ih rd yl x _ K U h R Z r m β a w (hC.dp hg hb) hY o_ Q' (hn.st rfl))
            · exact wpIn_cond_false (by rw [he,hb]) (ih rd yl y _ K U h R Z r m β a w (hC.dp hg hb) hY o_ Q' (hn.st rfl))
          · exact h.elim
        · exact h.elim
      |const v =>
        cases v with
        |bool t =>
          cases t with
          |true=>exact wpIn_cond_true rfl (ih rd yl x st K U h R Z r m β a w hC hY o_ Q' hn)
          |false=>exact wpIn_cond_false rfl (ih rd yl y st K U h R Z r m β a w hC hY o_ Q' hn)
        |_=>exact h.elim
      |_=>exact h.elim
    |block id b =>
      refine wpIn_block (ih rd yl b st _ U h R Z r m β a w hC hY o_ _ ?_);intro e s aB bB a2 w2 hk ho h1 h2 h3 dW;cases e with
      |normal=>exact hn .normal s aB bB a2 w2 hk ho h1 h2 h3 dW
      |ret=>exact hn .ret s aB bB a2 w2 hk ho h1 h2 h3 dW
      |jz i=>exact hn (.jz i) s aB bB a2 w2 hk ho h1 h2 h3 dW
      |exit i =>
        simp only at hk;simp only [Ex.to,Exit.inBlock];by_cases hi:i=id
        · rw [if_pos hi]at hk ⊢;exact hn .normal s aB bB a2 w2 hk trivial h1 h2 h3 dW
        · rw [if_neg hi]at hk ⊢;exact hn (.exit i) s aB bB a2 w2 hk trivial h1 h2 h3 dW
    |scope b =>
      simp only at h;split at h
      · rename_i d_;subst d_;have hr:r=none:=o_;subst hr;refine wpIn_wide.2 (wp_scope_straight (wpIn_wide (n:=m).1 (ih none yl b st _ U h R Z none m β a w hC hY rfl _ ?_)));intro e s aB bB a2 w2 hk ho h1 h2 h3 dW
        have:=hn e s aB bB a2 w2 hk ho h1 h2 h3 dW
        cases e<;>exact this
      · exact h.elim
    |loop b =>
      have plain:kA (PA G.P W Q QM QP) (exec (PA G.P W Q QM QP) G n rd yl b) K n st U->(Code.loop b).wpIn (Fr r) m G.P Q' a w:=by
        intro h;refine wpIn_loop_rounds n ?_
        have key:∀(j:Nat) (st:St) (U:Env) (β:Nat->Nat) (a:Act) (w:World),kA (PA G.P W Q QM QP) (exec (PA G.P W Q QM QP) G n rd yl b) K j st U->Core W R Z U β st a w->oH G.P W R st.c U β yl->mf rd r st β->nN W R Z st U β K Q'->Code.roundsIn (Fr r) m G.P b Q' j a w:=by
          intro j
          induction j with
          |zero=>intro st U β a w h _ _ _ _;exact h.elim
          |succ j XG =>
            intro st U β a w h hC hY o_ hn;refine ih rd yl b st _ U h R Z r m β a w hC hY o_ _ ?_;intro e s aB bB a2 w2 hk ho h1 h2 h3 dW;cases e with
            |normal =>
              simp only [St.yK]at hk;exact XG _ aB bB a2 w2 hk dW.vZ (hY.og h1 h2 h3 (λ_ _=>rfl)) (o_.og h1 h3) (hn.og h1 h2 h3)
            |exit id=>exact hn (.exit id) s aB bB a2 w2 hk ho h1 h2 h3 dW
            |ret=>exact hn .ret s aB bB a2 w2 hk ho h1 h2 h3 dW
            |jz i=>exact hn (.jz i) s aB bB a2 w2 hk ho h1 h2 h3 dW
        exact key n st U β a w h hC hY o_ hn
      simp only at h;generalize hh:(G.loops.lookup (keyOf b)).bind (LH.parts st.m)=hint at h;split at h
      · rename_i qU cells bx kill;generalize hca:pK st cells=u1 at h;generalize FK:iM st.t bx=u2 at h;split at h
        · rename_i fc vs;generalize Uo:qU++fc=free at h;generalize AX:ka st.m st.o free=u3 at h;split at h
          · exact h.elim
          · rename_i ms;generalize tX:eY st.o (vs.flatMap CV.cells++ms)=u4 at h;split at h
            · exact h.elim
            · rename_i ks;split at h;rotate_left
              · exact h.elim
              rename_i FZ;obtain⟨Inv,μ,h0,cH⟩:=h;have hle:=yi ks st.c
              have xi:∀{k},aO (bZ st.o (aR (vs.flatMap CV.cells++ms))) k≠none->k<st.c.nk:=λ{k} hk=>by
                rw [yr]at hk;split at hk
                · exact (hk rfl).elim
                · cases hg:aO st.o k with
                  |none=>exact (hk hg).elim
                  |some x=>have:=(hC.wf.o k x.1 x.2.1 x.2.2 hg).1;omega
              generalize F0:((aR (av st.c ks)).zip (aR (vs.flatMap CV.cells++ms))).filter (λp=>(tT G st (keyOf b)).contains p.2 || isMap st.o p.2)=i9 at cH
              have F1:∀{k},aO (bu st.c ks) k≠none->st.c.nk<=k:=λ{k} hk=>by
                cases hg:aO (bu st.c ks) k with
                |none=>exact (hk hg).elim
                |some y=>exact (D8 ks st.c hg).1
              have vg:∀p∈i9,p∈(aR (av st.c ks)).zip (aR (vs.flatMap CV.cells++ms)):=λp hp=>by
                rw [<-F0]at hp;exact (List.mem_filter.1 hp).1
              have F3:(i9.map (·.2)).Nodup:=by
                rw [<-F0]
                have sub:∀(l:List (Nat × Nat)) (f:Nat × Nat->Bool),(l.map (·.2)).Nodup->((l.filter f).map (·.2)).Nodup:=by
                  intro l f h;exact (List.Sublist.map _ (List.filter_sublist)).nodup h
                refine sub _ _ ?_
                have zs:∀(x y:List Nat),y.Nodup->((x.zip y).map (·.2)).Nodup:=by
                  intro x
                  induction x with
                  |nil=>intro y _;simp
                  |cons a x XH =>
                    intro y hy;cases y with
                    |nil=>simp
                    |cons b y =>
                      simp only [List.nodup_cons]at hy;simp only [List.zip_cons_cons,List.map_cons,List.nodup_cons];refine⟨λhm => ?_,XH y hy.2⟩;obtain⟨q,hq,he⟩:=List.mem_map.1 hm;exact hy.1 (he▸(List.of_mem_zip hq).2)
                exact zs _ _ FZ
              have xd:∀{k},getM st.m k=none->getM (bY st.m free ((av st.c ks).drop (vs.flatMap CV.cells).length)) k=none:=λ{k} hk=>by
                cases hg:getM (bY st.m free ((av st.c ks).drop (vs.flatMap CV.cells).length)) k with
                |none=>rfl
                |some x =>
                  obtain⟨pS,h1,_,_⟩:=yw free st.m _ (show _=some (x.1,x.2) from hg);rw [hk]at h1;cases h1
              have stat:∀p∈i9,st.c.nk<=p.1/\p.2+3<st.c.nk/\getM st.m p.2=none/\aO (bu st.c ks++bZ st.o (aR (vs.flatMap CV.cells++ms))) p.2=none:=λp hp=>by
                obtain⟨ρx,vz,_,_,_,_,_,_,q7,q8,_⟩:=FF (bu st.c ks) st.o U β ks st.c β _ (λ_ _ h=>h) cH tX;obtain⟨_,n0,ce,sz,t,_,g2,_⟩:=q7 p (vg p hp);have g3:=hC.wf.o p.2 ce sz t g2;refine⟨q8 p.1 (List.of_mem_zip (vg p hp)).1,g3.1,hC.wf.ap p.2 _ g2, ?_⟩;simp only [D_];cases hg:aO (bu st.c ks) p.2 with
                |some y=>have:=F1 (k:=p.2) (by rw [hg];simp);omega
                |none =>
                  simp only;rw [yr,if_pos (List.of_mem_zip (vg p hp)).2]
              have CG:∀ {AD:Env} {mK:Nat->Nat} {a1:Act} {w1:World},Core W R Z AD mK {t:=dj (eZ st.t kill) bx vs (av st.c ks),n:=st.n,m:=bY st.m free ((av st.c ks).drop (vs.flatMap CV.cells).length),c:=aY st.c ks,o:=bu st.c ks++bZ st.o (aR (vs.flatMap CV.cells++ms)),r:=st.r,d:=st.d,k:=st.k,df:=st.df} a1 w1 ->
                  (∀p∈i9,mK p.1=mK p.2/\mK (p.1+1)=mK (p.2+1)/\mK (p.1+2)=mK (p.2+2)/\mK (p.1+3)=mK (p.2+3)) ->
                  Core W R Z AD mK (jq i9 {t:=dj (eZ st.t kill) bx vs (av st.c ks),n:=st.n,m:=bY st.m free ((av st.c ks).drop (vs.flatMap CV.cells).length),c:=aY st.c ks,o:=bu st.c ks++bZ st.o (aR (vs.flatMap CV.cells++ms)),r:=st.r,d:=st.d,k:=st.k,df:=st.df}) a1 w1:=λhc hb =>
                T' i9 hc (λp hp=>by
                  obtain⟨s1,s2,s3,s4⟩:=stat p hp;exact⟨by omega,hb p hp,xd s3,s4,Nat.lt_of_lt_of_le s2 hle.k⟩) F3
              obtain⟨f1,f2,f3,f4,f5,f6,f7⟩:=T_ i9 {t:=dj (eZ st.t kill) bx vs (av st.c ks),n:=st.n,m:=bY st.m free ((av st.c ks).drop (vs.flatMap CV.cells).length),c:=aY st.c ks,o:=bu st.c ks++bZ st.o (aR (vs.flatMap CV.cells++ms)),r:=st.r,d:=st.d,k:=st.k,df:=st.df}
              have fS:∀i,i ∉ bx->ay (jq i9 {t:=dj (eZ st.t kill) bx vs (av st.c ks),n:=st.n,m:=bY st.m free ((av st.c ks).drop (vs.flatMap CV.cells).length),c:=aY st.c ks,o:=bu st.c ks++bZ st.o (aR (vs.flatMap CV.cells++ms)),r:=st.r,d:=st.d,k:=st.k,df:=st.df}).t i=ay (dj (eZ st.t kill) bx vs (av st.c ks)) i:=λi hi=>by
                refine Ua i9 _ λp hp he => ?_;have kM:ay (dj (eZ st.t kill) bx vs (av st.c ks)) i=.cv (.one (.own p.1)):=he;rw [FH _ _ _ _ hi]at kM
                have hw:(ay (eZ st.t kill) i).wf st.c=true:=by
                  rcases I9 st.t i kill with h|h<;>rw [h]
                  · rfl
                  · exact hC.wf.t i
                rw [kM]at hw;have XI:(decide (p.1+3<st.c.nk))=true:=hw
                have:=(stat p hp).1
                simp only [decide_eq_true_eq]at XI;omega
              have fO:∀{k x},aO (bZ st.o (aR (vs.flatMap CV.cells++ms))) k=some x->aO (jq i9 {t:=dj (eZ st.t kill) bx vs (av st.c ks),n:=st.n,m:=bY st.m free ((av st.c ks).drop (vs.flatMap CV.cells).length),c:=aY st.c ks,o:=bu st.c ks++bZ st.o (aR (vs.flatMap CV.cells++ms)),r:=st.r,d:=st.d,k:=st.k,df:=st.df}).o k=some x/\k ∉ i9.map (·.2):=λ{k x} hx=>by
                have tk:=xi (k:=k) (by rw [hx];simp)
                have Up:∀p∈i9,k≠p.1/\k≠p.2:=λp hp=>by
                  obtain⟨s1,s2,s3,s4⟩:=stat p hp;refine⟨by omega,λe => ?_⟩;subst e;rw [yr,if_pos (List.of_mem_zip (vg p hp)).2]at hx;cases hx
                refine⟨?_,λhm => ?_⟩
                · rw [Ub i9 _ (λp hp => ?_) F3]
                  · simp only [D_];cases hg:aO (bu st.c ks) k with
                    |none=>exact hx
                    |some y=>have:=F1 (k:=k) (by rw [hg];simp);omega
                  · obtain⟨s1,s2,s3,s4⟩:=stat p hp;exact⟨by omega,s4,Up p hp⟩
                · obtain⟨p,hp,he⟩:=List.mem_map.1 hm;exact (Up p hp).2 he.symm
              generalize XJ:jq i9 {t:=dj (eZ st.t kill) bx vs (av st.c ks),n:=st.n,m:=bY st.m free ((av st.c ks).drop (vs.flatMap CV.cells).length),c:=aY st.c ks,o:=bu st.c ks++bZ st.o (aR (vs.flatMap CV.cells++ms)),r:=st.r,d:=st.d,k:=st.k,df:=st.df}=B5 at cH CG fS fO f1 f2 f3 f4 f5 f6 f7
              refine wpIn_loop_ghost (λk a w=>∃oO vB,Inv ((av st.c ks).map (vl (bu st.c ks) oO))/\μ ((av st.c ks).map (vl (bu st.c ks) oO))=k/\Env.aC st.c U oO/\(∀j,j<st.c.nk->vB j=β j) /\
                Core W R Z oO vB B5 a w /\
                exec (PA G.P W Q QM QP) G n rd yl b B5 (λe s=>match e with
                  | .normal=>match iM s.t bx,ka s.m s.o free with
                    |some ke,some mB =>
                      if pM B5 s bx free ((bu st.c ks).map (·.1)++i9.map (·.2))=true/\((aR (av st.c ks)).zip (aR (ke.flatMap CV.cells++mB))).all (fun p=>i9.all fun q=>q.1 != p.1 || q.2 == p.2)=true/\ke.map CV.shape=vs.map CV.shape/\eY s.o (ke.flatMap CV.cells++mB)=some ks/\(aR (ke.flatMap CV.cells++mB)).Nodup /\
                          (aR (ke.flatMap CV.cells++mB)).all (λk=>(bu st.c ks).any (λx=>x.1 == k) || (bZ st.o (aR (vs.flatMap CV.cells++ms))).all λx=>x.1 != k)=true then
                        (λJ=>Inv ((ke.flatMap CV.cells++mB).map (vl s.o J))/\μ ((ke.flatMap CV.cells++mB).map (vl s.o J))<μ ((av st.c ks).map (vl (bu st.c ks) oO)))
                      else (PA G.P W Q QM QP).fail "loop: not the same"
                    |_, _ => (PA G.P W Q QM QP).fail "loop: values"
                  |e=>K e s) oO) (μ ((vs.flatMap CV.cells++ms).map (vl st.o U))) ?_ ?_
              · obtain⟨oO,vB,q1,q2,q3,q4,q5,q6,q7,q8,q9⟩:=FF (bu st.c ks) st.o U β ks st.c β _ (λ_ _ h=>h) cH tX;refine⟨oO,vB,by rw [q5];exact h0,by rw [q5],q2,q3,CG ?_ (λp hp => ?_),q1 (by rw [q5];exact h0)⟩;rotate_left
                · obtain⟨⟨g0,g1,g2,g3⟩,_⟩:=q7 p (vg p hp);have s2:=(stat p hp).2.1;rw [g0,g1,g2,g3,q3 _ (by omega),q3 _ (by omega),q3 _ (by omega),q3 _ (by omega)];exact⟨rfl,rfl,rfl,rfl⟩
                refine FJ hC.wf hC.kn hC (Env.ao _ _) q2 q3 FK FK rfl AX q4 ⟨rfl,rfl,rfl,rfl⟩ (λi hi => ?_) (λk lN t hg => ?_) q6 q7 FZ (λk x hx => ?_) (λk hk => ?_)
                · rw [FH _ _ _ _ hi];rcases I9 st.t i kill with h|h
                  · exact .inl h
                  · exact .inr h.symm
                · obtain⟨pS,p1,p2,p3⟩:=yw free st.m _ hg;exact⟨pS,p1,p2,p3⟩
                · rw [yr]at hx;split at hx
                  · cases hx
                  · exact hx
                · rw [yr,if_pos hk]
              · intro k a1 w1 hI;obtain⟨oO,vB,hinv,XK,Uq,M7,XL,hex⟩:=hI;have fA:st.c.le B5.c:=by rw [f2];exact hle
                refine ih rd yl b _ _ oO hex R Z r m vB a1 w1 XL (hY.og fA Uq M7 (λ_ _=>rfl)) (o_.og fA M7) _ ?_;intro e s aB bB a2 w2 hk ho h1 h2 h3 dW;have l2:Env.aC st.c U aB:=Env.aj fA Uq h2;have b2:∀j,j<st.c.nk->bB j=β j:=λj hj=>(h3 j (Nat.lt_of_lt_of_le hj fA.k)).trans (M7 j hj);cases e with
                |exit id=>exact hn (.exit id) s aB bB a2 w2 hk ho (ar.le_trans fA h1) l2 b2 dW
                |ret=>exact hn .ret s aB bB a2 w2 hk ho (ar.le_trans fA h1) l2 b2 dW
                |jz i=>exact hn (.jz i) s aB bB a2 w2 hk ho (ar.le_trans fA h1) l2 b2 dW
                |normal =>
                  simp only at hk;generalize o8:iM s.t bx=u5 at hk;generalize Eb:ka s.m s.o free=u6 at hk;split at hk
                  · rename_i ke mB;split at hk
                    · rename_i ic;obtain⟨c1,XM,c2,c3,c4,c5⟩:=ic;obtain⟨yy,ct⟩:=hk;obtain⟨s1,s2,s3,s4⟩:=Xp c1;rw [f3,f4,f5,f7]at s1;rw [f1]at s3;obtain⟨AD,mK,q1,q2,q3,q4,q5,q6,q7,q8,q9⟩:=FF (bu st.c ks) s.o aB bB ks st.c bB _ (λ_ _ h=>h) cH c3;refine⟨μ ((ke.flatMap CV.cells++mB).map (vl s.o aB)),XK▸ct,AD,mK,by rw [q5];exact yy,by rw [q5],q2,λj hj=>(q3 j hj).trans (b2 j hj),CG ?_ (λp hp => ?_),q1 (by rw [q5];exact yy)⟩;rotate_left
                      · obtain⟨y,hy⟩:=MM _ _ q6 p.1 (List.of_mem_zip (vg p hp)).1
                        have hyp:p.2=y:=by
                          have h7:=List.all_eq_true.1 (List.all_eq_true.1 XM (p.1,y) hy) p hp;simpa using h7
                        subst hyp;obtain⟨⟨g0,g1,g2,g3⟩,_⟩:=q7 _ hy;simp only at g0 g1 g2 g3;have s2:=(stat p hp).2.1;rw [g0,g1,g2,g3,q3 _ (by omega),q3 _ (by omega),q3 _ (by omega),q3 _ (by omega)];exact⟨rfl,rfl,rfl,rfl⟩
                      refine FJ hC.wf hC.kn dW l2 q2 q3 FK o8 c2 Eb q4 s1 (λi hi => ?_) s3 q6 q7 c4 (λk x hx => ?_) (λk hk => ?_)
                      · rw [<-fS i hi];exact s2 i hi
                      · obtain⟨g1,g2⟩:=fO hx;have tk:=xi (k:=k) (by rw [hx];simp);refine s4 k x g1 λgK => ?_;rcases List.mem_append.1 gK with gK|gK;rotate_left
                        · exact g2 gK
                        obtain⟨y,hy,rfl⟩:=List.mem_map.1 gK
                        have:∀(l:List CK) (c:ar),(∀y∈bu c l,c.nk<=y.1):=by
                          intro l
                          induction l with
                          |nil=>intro c y hy;cases hy
                          |cons kd l ih =>
                            intro c y hy;have tl:y∈bu (bj c kd) l->c.nk<=y.1:=λhy=>Nat.le_trans (MJ c kd) (ih _ y hy)
                            cases kd<;>first
                              |exact tl hy
                              |skip
                            simp only [bu,List.mem_cons]at hy;rcases hy with rfl|hy
                            · exact Nat.le_refl _
                            · exact tl hy
                        have:=this ks st.c y hy
                        omega
                      · have:=List.all_eq_true.1 c5 k hk
                        simp only [Bool.or_eq_true,List.any_eq_true,beq_iff_eq,List.all_eq_true,bne_iff_ne,ne_eq]at this;rcases this with ⟨y,hy,he⟩|h
                        · cases hg:aO (bZ st.o (aR (vs.flatMap CV.cells++ms))) k with
                          |none=>rfl
                          |some x =>
                            have h5:=xi (k:=k) (by rw [hg];simp)
                            have:∀(l:List CK) (c:ar),(∀y∈bu c l,c.nk<=y.1):=by
                              intro l
                              induction l with
                              |nil=>intro c y hy;cases hy
                              |cons kd l ih =>
                                intro c y hy;have tl:y∈bu (bj c kd) l->c.nk<=y.1:=λhy=>Nat.le_trans (MJ c kd) (ih _ y hy)
                                cases kd<;>first
                                  |exact tl hy
                                  |skip
                                simp only [bu,List.mem_cons]at hy;rcases hy with rfl|hy
                                · exact Nat.le_refl _
                                · exact tl hy
                            have:=this ks st.c y hy
                            omega
                        · cases hg:aO (bZ st.o (aR (vs.flatMap CV.cells++ms))) k with
                          |none=>rfl
                          |some x=>exact (h _ (Ja hg) rfl).elim
                    · exact hk.elim
                  · exact hk.elim
        · exact h.elim
      · exact plain h
    |rangeFunc g ps assign body=>exact Xt hG ih (show exec (PA G.P W Q QM QP) G (n+1) rd yl (.rangeFunc g ps assign body) st K U by unfold exec;unfold wG wI;rw [KL];exact h) hC hY o_ hn
    |_=>exact h.elim
end Vc
set_option linter.unusedVariables false
namespace Vc
open Go Go.RowKit
variable {P:Program} {W:eJ} {Q:Value->Prop} {QM QP:World->Value->Prop}
inductive pT(U:Env)(s:St):St->Prop
 |refl:pT U s s
 |dp (x:Nat) (b:Bool) (e:BE) (h:ay s.t x=.cv (.one (.bool e))) (hb:e.den U=b):pT U s (s.dp x b)
def dM(ops:Array Oper)(U:Env)(s:St)(o:Oper)(b:Bool):Prop :=
 match o.guard with
 |none=>b=true
 |some (j,want)=>∃x,(ops[j]?).bind (·.dst)=some x/\((∃e,ay s.t x=.cv (.one (.bool e))/\(e.den U == want)=b)\/(ay s.t x=.dX/\b=false))
structure Ec(s1:St)(o:Oper)(s':St)(sv:SV)(C:List Nat):Prop where
 n:s'.n=s1.n
 rs:s'.r=s1.r
 ds:s'.d=s1.d
 IW:s1.c.le s'.c
 wf:s'.WF
 slot:∀t,ay s'.t t=if o.dst=some t then sv else ay s1.t t
 dst:∀d,o.dst=some d->d<s1.n
 lt:∀k∈C,k<s1.c.nk
 same:∀k,k<s1.c.nk->k ∉ C->aM s'.m s'.o k=aM s1.m s1.o k
 IV:s'.df=s1.df
theorem iO.fB{s1 s':St}{o:Oper}{U:Env}{sv:SV}{C:List Nat}(h:iO P W s1 o U s' sv C):Ec s1 o s' sv C :=
 ⟨h.n,h.rs,h.ds,h.IW,h.wf,h.slot,h.dst,λk hk=>(h.LJ k hk).2,h.same,h.IV⟩
theorem Ur{s1:St}{o:Oper}(hw:s1.WF)(hp:ji s1 o.dst .dX s1.c):Ec s1 o (s1.cd o.dst .dX s1.c) .dX []:=by
 obtain⟨q1,q2,q3,q4,q5,q6⟩:=kO s1 o.dst .dX s1.c;exact⟨q3,q5,q6,by rw [q1];exact ar.le_refl _,Fj hw (ar.le_refl _) hp,λt=>zl _ _ _ _ t,λd hd=>(hp d hd).1,λk hk=>(by cases hk),λk _ _=>(by rw [q2,q4]),(zk _ _ _ _).2⟩
inductive vL(P:Program)(W:eJ)(ops:Array Oper)(U:Env)(fz:Nat->Prop)(i:Nat)(rd wr:List (Nat × Nat))(s:St)(o:Oper):St->SV->List Nat->Prop
 |skip (s1:St) (k:pT U s s1) (w:dM ops U s o false) (p:ji s1 o.dst .dX s1.c):vL P W ops U fz i rd wr s o (s1.cd o.dst .dX s1.c) .dX []
 |run (s1 s':St) (sv:SV) (C:List Nat) (k:pT U s s1) (w:dM ops U s o true) (nd:∀c,o.op ≠ .defer c) (f:iO P W s1 o U s' sv C) (h1:∀k∈bd s1 o++a8 s1 o++di s1 o,fz k) (h2:∀x,o.dst=some x->∀k∈eX sv,fz k)
   (h4:∀k∈bd s1 o,(k,i)∈rd) (h5:∀k∈a8 s1 o,(k,i)∈wr):vL P W ops U fz i rd wr s o s' sv C
theorem pT.c{U:Env}{s s1:St}(h:pT U s s1):s1.c=s.c/\s1.m=s.m/\s1.n=s.n/\s1.o=s.o/\s1.r=s.r/\s1.d=s.d:=by cases h<;>exact⟨rfl,rfl,rfl,rfl,rfl,rfl⟩
theorem pT.k{U:Env}{s s1:St}(h:pT U s s1):s1.k=s.k/\s1.df=s.df:=by cases h<;>exact⟨rfl,rfl⟩
theorem vL.kn{ops:Array Oper}{U:Env}{fz:Nat->Prop}{i:Nat}{rd wr:List (Nat × Nat)}{s s':St}{o:Oper}{sv:SV}{C:List Nat}(h:vL P W ops U fz i rd wr s o s' sv C)(hk:cr.den s.k U):cr.den s'.k U:=by
 cases h with
 |skip s1 k w p=>rw [(zk _ _ _ _).1,k.k.1];exact hk
 |run s1 _ _ _ k w nd f=>exact f.kn (by rw [k.k.1];exact hk)
theorem pT.wf{U:Env}{s s1:St}(h:pT U s s1)(hw:s.WF):s1.WF:=by
  cases h with
  |refl=>exact hw
  |dp x b e h hb =>
    refine⟨λi => ?_,hw.m,hw.o,hw.ap,hw.r,hw.d,hw.k,hw.df⟩;simp only [St.dp,zj];by_cases hi:x=i
    · rw [if_pos hi];rfl
    · rw [if_neg hi];exact hw.t i
theorem vL.fB{ops:Array Oper}{U:Env}{fz:Nat->Prop}{i:Nat}{rd wr:List (Nat × Nat)}{s s':St}{o:Oper}{sv:SV}{C:List Nat}(hw:s.WF)(h:vL P W ops U fz i rd wr s o s' sv C):∃s1,pT U s s1/\Ec s1 o s' sv C:=by
 cases h with
 |skip s1 k w p=>exact⟨s1,k,Ur (k.wf hw) p⟩
 |run s1 _ _ _ k w nd f=>exact⟨s1,k,f.fB⟩
def fg(U:Env)(x y:SV):Prop:=x=y\/∃e b,x=.cv (.one (.bool e))/\y=.cv (.one (.bool (.lit b)))/\e.den U=b
theorem fg.trans{U:Env}{x y z:SV}(h:fg U x y)(h':fg U y z):fg U x z:=by
 rcases h with rfl|⟨e,b,rfl,rfl,hb⟩
 ·exact h'
 ·rcases h' with rfl|⟨e',b',he,rfl,gy⟩
  ·exact .inr ⟨e,b,rfl,rfl,hb⟩
  ·cases he;exact .inr ⟨e,b',rfl,rfl,hb.trans gy⟩
theorem fg.any{U:Env}{x y:SV}(h:fg U x y)(hy:y ≠ .any):x ≠ .any:=by
 rcases h with rfl|⟨e,b,rfl,rfl,hb⟩
 ·exact hy
 ·simp
theorem fg.M8{U:Env}{x y:SV}(h:fg U x y)(hx:x ≠ .any):y ≠ .any:=by
 rcases h with rfl|⟨e,b,rfl,rfl,hb⟩
 ·exact hx
 ·simp
theorem fg.den{U:Env}{x y:SV}(h:fg U x y)(β:Nat->Nat):x.den U β=y.den U β:=by
 rcases h with rfl|⟨e,b,rfl,rfl,hb⟩
 ·rfl
 ·simp only [SV.den,CV.den,At.den,BE.den,hb]
theorem fg.ids{U:Env}{x y:SV}(h:fg U x y){k:Nat}(hk:k∈eX y):k∈eX x:=by
 rcases h with rfl|⟨e,b,rfl,rfl,hb⟩
 ·exact hk
 ·simp [eX,CV.cells,aN]at hk
theorem pT.same{U:Env}{s s1:St}(h:pT U s s1)(t:Nat):fg U (ay s.t t) (ay s1.t t):=by
  cases h with
  |refl=>exact .inl rfl
  |dp x b e hx hb =>
    simp only [St.dp,zj];by_cases ht:x=t
    · subst ht;rw [if_pos rfl];exact .inr ⟨e,b,hx,rfl,hb⟩
    · rw [if_neg ht];exact .inl rfl
theorem Je(a:At)(l:List At):aN (a::l)=aN [a]++aN l:=by
 cases a<;>simp [aN]
theorem M9(x y:List At):aN (x++y)=aN x++aN y:=by
 induction x with
 |nil=>rfl
 |cons a x ih=>rw [List.cons_append,Je,ih,Je a x,List.append_assoc]
theorem Jf{β an:Nat->Nat}{l:List (Nat × Nat)}(h:∀k∈l.map (·.1),an k=β k):(l.map λc=>(.pointer (some ⟨an c.1,c.2,none⟩):Value))=l.map λc=>.pointer (some ⟨β c.1,c.2,none⟩) :=
 List.map_congr_left λc hc=>by rw [h c.1 (List.mem_map.2 ⟨c,hc,rfl⟩)]
theorem aW.je{U:Env}{β an:Nat->Nat}{a:aW}(h:∀k∈a.ids,an k=β k):a.den U an=a.den U β:=by
 cases a<;>first
  |rfl
  |skip
 case gP k o l m=>simp only [aW.den];rw [h k (by simp [aW.ids])]
 case own k=>simp only [aW.den];rw [h k (by simp [aW.ids]),h (k+1) (by simp [aW.ids]),h (k+2) (by simp [aW.ids]),h (k+3) (by simp [aW.ids])]
theorem At.je{U:Env}{β an:Nat->Nat}:∀{a:At},(∀k∈aN [a],an k=β k)->a.den U an=a.den U β:=by
 intro a h;cases a
 case own k=>show cG _ _ _ _=cG _ _ _ _;rw [h k (by simp [aN]),h (k+1) (by simp [aN]),h (k+2) (by simp [aN]),h (k+3) (by simp [aN])]
 case qR k=>simp only [At.den];rw [h k (by simp [aN]),h (k+1) (by simp [aN]),h (k+2) (by simp [aN])]
 case fn f aK =>
  simp only [At.den];rw [Jf λk hk=>h k (by simp only [aN,List.append_nil];exact hk)]
 case g_ f first aK =>
  simp only [At.den];rw [Jf (l:=first) λk hk=>h k (by simp only [aN,List.append_nil];exact List.mem_append.2 (.inl hk)),Jf (l:=aK) λk hk=>h k (by simp only [aN,List.append_nil];exact List.mem_append.2 (.inr hk))]
 case rT f first aK =>
  simp only [At.den];rw [Jf (l:=aK) λk hk=>h k (by simp only [aN,List.append_nil];exact List.mem_append.2 (.inr hk))]
  have:first.map (aW.den U an)=first.map (aW.den U β):=List.map_congr_left λx hx=>aW.je λk hk=>h k (by
   simp only [aN,List.append_nil];exact List.mem_append.2 (.inl (List.mem_flatMap.2 ⟨x,hx,hk⟩)))
  rw [this]
 all_goals first
  |rfl
  | (simp only [At.den];rw [h _ (by simp [aN];done)])
theorem Us{a:At}{k:Nat}:∀{l:List At},a∈l->k∈aN [a]->k∈aN l
  |b::l,h,hk=>by
    rw [Je];rcases List.mem_cons.1 h with rfl|h
    · exact List.mem_append.2 (.inl hk)
    · exact List.mem_append.2 (.inr (Us h hk))
theorem Jg{U:Env}{β an:Nat->Nat}{l:List At}(h:∀k∈aN l,an k=β k):l.map (At.den U an)=l.map (At.den U β) :=
 List.map_congr_left λa ha=>At.je λk hk=>h k (Us ha hk)
theorem SV.je{U:Env}{β an:Nat->Nat}:∀{x:SV},(∀k∈eX x,an k=β k)->x.den U an=x.den U β
  | .any,_=>rfl
  | .dX,_=>rfl
  | .cv (.one a),h=>At.je h
  | .cv (.agg l),h=>by simp only [SV.den,CV.den];rw [Jg (l:=l) h]
  | .cS l,h=>by
    simp only [SV.den];congr 2;apply List.map_congr_left;intro c hc
    have hm:∀k∈aN c.cells,an k=β k:=λk hk=>h k (by
      simp only [eX]
      have:∀(l1:List CV),c∈l1->k∈aN (l1.flatMap CV.cells):=by
        intro l1 h1
        induction l1 with
        |nil=>cases h1
        |cons d l1 ih =>
          rw [List.flatMap_cons,M9];rcases List.mem_cons.1 h1 with rfl|h1
          · exact List.mem_append.2 (.inl hk)
          · exact List.mem_append.2 (.inr (ih h1))
      exact this l hc)
    cases c with
    |one a=>exact At.je hm
    |agg l=>simp only [CV.den];rw [Jg (l:=l) hm]
theorem M_{U:Env}{β an:Nat->Nat}:∀{l:CE},(∀k∈l.flatMap cO,an k=β k)->aq U an l=aq U β l
  | [],_=>rfl
  | .cu l::r,h=>by
    simp only [aq,Sg.den];rw [Jg (l:=l) λk hk=>h k (by rw [List.flatMap_cons];exact List.mem_append.2 (.inl hk)),M_ (l:=r) λk hk=>h k (by rw [List.flatMap_cons];exact List.mem_append.2 (.inr hk))]
  | .var i::r,h=>by
    simp only [aq,Sg.den];rw [M_ (l:=r) λk hk=>h k (by rw [List.flatMap_cons];exact List.mem_append.2 (.inr hk))]
def dU(k:Nat):qB->List Nat
 | .fix .. => [k]
 | .row .. => [k,k+1,k+2,k+3]
theorem Holds.xj{U:Env}{β an:Nat->Nat}{k:Nat}{w w':World}:∀ {e:qB},Holds W U β k e w->(∀ j∈dU k e,an j=β j)->(∀ j∈fe e,an j=β j) ->
    (∀b,bM β k e=some b->w'.heap[b]? = w.heap[b]?)->Holds W U an k e w'
  | .fix cs t,h,hs,hi,hh=>by
    have h0:an k=β k:=hs k (by simp [dU]);refine⟨by rw [h0];exact h.1, ?_⟩;rw [h0,Jg hi,hh _ rfl];exact h.2
  | .row ce sz t,h,hs,hi,hh=>by
    simp only [Holds]at h ⊢;rw [hs k (by simp [dU]),hs (k+1) (by simp [dU]),hs (k+2) (by simp [dU]),hs (k+3) (by simp [dU]),M_ hi];exact h.heap λh2=>hh (β k) (by simp only [bM,h2,if_true])
theorem M'{β an:Nat->Nat}{k:Nat}:∀{e:qB},(∀j∈dU k e,an j=β j)->bM an k e=bM β k e
 | .fix ..,hb=>by simp only [bM,hb k (by simp [dU])]
 | .row ..,hb=>by simp only [bM,hb k (by simp [dU]),hb (k+1) (by simp [dU])]
theorem Jh{ops:Array Oper}{listed:Array Bool}(ju:∀ j oj,ops[j]? = some oj->listed.getD j false=true->∀ e∈oj.after,Region.binds .any e=true->listed.getD e.on false=true) :
    ∀(d i j:Nat) (o:Oper),ops[i]? = some o->(∀e∈o.after,Region.binds .any e=true->listed.getD e.on false=true)->reach ops d i j=true->listed.getD j false=true
  |0,i,j,o,ho,hi,h=>by cases h
  |d+1,i,j,o,ho,hi,h=>by
    simp only [reach,direct,ho,Bool.or_eq_true,Array.any_eq_true']at h;rcases h with ⟨e,he,hb⟩|⟨e,he,hb⟩
    · simp only [Bool.and_eq_true,decide_eq_true_eq]at hb;rw [<-hb.2];exact hi e he hb.1
    · simp only [Bool.and_eq_true]at hb;cases oe:ops[e.on]? with
      |none =>
        cases d with
        |zero=>simp [reach]at hb
        |succ d=>simp [reach,direct,oe]at hb
      |some o'=>exact Jh ju d e.on j o' oe (λe' kM gy=>ju e.on o' oe (hi e he hb.1) e' kM gy) hb.2
def oh(listed:Array Bool):Nat->Nat
 |0=>0
 |m+1=>oh listed m+if listed.getD m false=true then 0 else 1
theorem F4{listed:Array Bool}:∀{m:Nat},oh listed m=0->∀j,j<m->listed.getD j false=true
  |0,_,j,hj=>by omega
  |m+1,h,j,hj=>by
    simp only [oh]at h;by_cases hm:listed.getD m false=true
    · rw [if_pos hm]at h;by_cases Na:j=m
      · subst Na;exact hm
      · exact F4 (by omega) j (by omega)
    · rw [if_neg hm]at h;omega
theorem Ji{listed:Array Bool}:∀{m:Nat},0<oh listed m->∃j,j<m/\listed.getD j false=false/\∀i,i<j->listed.getD i false=true
  |0,h=>by simp [oh]at h
  |m+1,h=>by
    simp only [oh]at h;by_cases hp:0<oh listed m
    · obtain⟨j,h1,h2⟩:=Ji hp;exact⟨j,by omega,h2⟩
    · by_cases hm:listed.getD m false=true
      · rw [if_pos hm]at h;omega
      · exact⟨m,by omega,by simpa using hm,λi hi=>F4 (by omega) i hi⟩
theorem AY(listed:Array Bool)(i j:Nat)(hi:i<listed.size):(listed.setIfInBounds i true).getD j false=if i=j then true else listed.getD j false:=by
 simp only [Array.getD_eq_getD_getElem?,Array.getElem?_setIfInBounds];by_cases h:i=j
 ·subst h;simp [hi]
 ·simp [h]
theorem Jj{listed:Array Bool}{i:Nat}(hi:i<listed.size)(hl:listed.getD i false=false):∀m,oh (listed.setIfInBounds i true) m+(if i<m then 1 else 0)=oh listed m
  |0=>by simp [oh]
  |m+1=>by
    have ih:=Jj hi hl m;simp only [oh,AY listed i m hi];by_cases Jk:i=m
    · subst Jk;rw [if_pos rfl,hl];simp at ih ⊢;omega
    · rw [if_neg Jk];by_cases h2:i<m
      · have h3:i<m+1:=by omega
        simp only [h2,if_true]at ih;simp only [h3,if_true];omega
      · have h3:¬i<m+1:=by omega
        simp only [h2,if_false]at ih;simp only [h3,if_false];omega
end Vc
set_option linter.unusedVariables false
namespace Vc
open Go Go.RowKit
variable {P:Program} {W:eJ} {R:Nat->Loop} {Z:List Nat}
def laid(sts:Nat->St)(m k:Nat):Prop:=(sts m).c.nk<=k/\k<(sts (m+1)).c.nk
def uh(sts:Nat->St)(cs:Nat->List Nat)(m k:Nat):Prop:=k∈cs m\/laid sts m k
structure Way(P:Program)(W:eJ)(ops:Array Oper)(n:Nat)(U:Env)(sts:Nat->St)(gX:Nat->SV)(cs:Nat->List Nat)(rd wr:List (Nat × Nat)):Prop where
 le:n<=ops.size
 wf:∀i,i<=n->(sts i).WF
 F5:∀i o,i<n->ops[i]? = some o->vL P W ops U (λk=>∀m,m<i->laid sts m k->reach ops 3 i m=true) i rd wr (sts i) o (sts (i+1)) (gX i) (cs i)
 apart:∀k i j,((k,i)∈rd\/(k,i)∈wr)->(k,j)∈wr->i=j\/(j<i/\pH ops i j=true)\/(i<j/\pH ops j i=true)
 rows:∀i,i<=n->∀k ce sz t,aM (sts i).m (sts i).o k=some (.row ce sz t)->∀m,m<n->∀d,d<4->laid sts m (k+d)->laid sts m k
theorem F6{c:ar}:∀{l:List At},l.all (At.wf c)=true->∀k∈aN l,k<c.nk
  | [],_,k,h=>by cases h
  |a::l,hw,k,h=>by
    simp only [List.all_cons,Bool.and_eq_true]at hw;rw [Je]at h;replace h:=List.mem_append.1 h;rcases h with h|h
    · have ui:=hw.1
      have aK:∀{x:List (Nat × Nat)},(x.all λy=>decide (y.1<c.nk))=true->k∈x.map (·.1)->k<c.nk:=λhx hk=>by
        obtain⟨y,hy,rfl⟩:=List.mem_map.1 hk;simpa using List.all_eq_true.1 hx y hy
      cases a<;>simp only [aN,List.mem_cons,List.not_mem_nil,or_false,List.append_nil]at h
      case own j=>simp only [At.wf,decide_eq_true_eq]at ui;omega
      case omap j=>simp only [At.wf,decide_eq_true_eq]at ui;omega
      case qR j=>simp only [At.wf,decide_eq_true_eq]at ui;omega
      case fn f cp=>exact aK ui h
      case g_ f fi cp =>
        have vK:((fi.all λx=>decide (x.1<c.nk)) && cp.all λx=>decide (x.1<c.nk))=true:=ui;simp only [Bool.and_eq_true]at vK;rcases List.mem_append.1 h with h|h
        · exact aK vK.1 h
        · exact aK vK.2 h
      case rT f fi cp =>
        have vK:((fi.all λx=>x.wf c) && cp.all λx=>decide (x.1<c.nk))=true:=ui;simp only [Bool.and_eq_true]at vK;rcases List.mem_append.1 h with h|h
        · obtain⟨x,hx,hk⟩:=List.mem_flatMap.1 h;have IY:=List.all_eq_true.1 vK.1 x hx;cases x<;>simp only [aW.ids,List.mem_cons,List.not_mem_nil,or_false]at hk
          · simp only [aW.wf,decide_eq_true_eq]at IY;omega
          · simp only [aW.wf,decide_eq_true_eq]at IY;omega
        · exact aK vK.2 h
      all_goals (subst h;simp only [At.wf,Bool.and_eq_true,decide_eq_true_eq]at ui;first|exact ui|exact ui.1)
    · exact F6 hw.2 k h
theorem AZ{c:ar}{x:SV}(h:x.wf c=true):∀k∈eX x,k<c.nk:=by
  cases x with
  |any=>intro k hk;cases hk
  |dX=>intro k hk;cases hk
  |cv v=>exact F6 (CV.dK h)
  |cS l =>
    refine F6 (c:=c) ?_;refine List.all_eq_true.2 λa ha => ?_;obtain⟨v,hv,XN⟩:=List.mem_flatMap.1 ha;exact List.all_eq_true.1 (CV.dK (List.all_eq_true.1 h v hv)) a XN
theorem Nb{st:St}(h:st.WF){o:Oper}:∀k∈di st o,k<st.c.nk:=by
 intro k hk;unfold di at hk;split at hk
 ·exact AZ (h.ev _) k hk
 ·exact AZ (h.ev _) k hk
 ·exact (List.mem_append.1 hk).elim (AZ (h.ev _) k) (AZ (h.ev _) k)
 ·exact (List.mem_append.1 hk).elim (AZ (h.ev _) k) (AZ (h.ev _) k)
 ·obtain⟨p,_,hp⟩:=List.mem_flatMap.1 hk;exact AZ (h.ev _) k hp
 ·cases hk
section
variable {ops:Array Oper} {n:Nat} {U:Env} {sts:Nat->St} {gX:Nat->SV} {cs:Nat->List Nat} {rd wr:List (Nat × Nat)}
theorem Way.get(hw:Way P W ops n U sts gX cs rd wr){i:Nat}(hi:i<n):∃o,ops[i]? = some o:=⟨ops[i]'(Nat.lt_of_lt_of_le hi hw.le),Array.getElem?_eq_getElem _⟩
theorem Way.fB(hw:Way P W ops n U sts gX cs rd wr){i:Nat}{o:Oper}(hi:i<n)(ho:ops[i]? = some o):∃s1,pT U (sts i) s1/\Ec s1 o (sts (i+1)) (gX i) (cs i):=(hw.F5 i o hi ho).fB (hw.wf i (by omega))
theorem Way.step(hw:Way P W ops n U sts gX cs rd wr){i:Nat}{o:Oper}(hi:i<n)(ho:ops[i]? = some o) :
  (sts (i+1)).n=(sts i).n/\(sts (i+1)).r=(sts i).r/\(sts (i+1)).d=(sts i).d/\(sts i).c.le (sts (i+1)).c/\(∀t,o.dst≠some t->fg U (ay (sts i).t t) (ay (sts (i+1)).t t)) /\
   (∀t,o.dst=some t->ay (sts (i+1)).t t=gX i)/\(∀d,o.dst=some d->d<(sts i).n)/\(∀k∈cs i,k<(sts i).c.nk)/\(∀k,k<(sts i).c.nk->k ∉ cs i->aM (sts (i+1)).m (sts (i+1)).o k=aM (sts i).m (sts i).o k):=by
 obtain⟨s1,hk,h⟩:=hw.fB hi ho;obtain⟨k1,k2,k3,k4,k5,k6⟩:=hk.c;refine⟨h.n.trans k3,h.rs.trans k5,h.ds.trans k6,by rw [<-k1];exact h.IW,λt ht => ?_,λt ht=>by rw [h.slot,if_pos ht],λd hd=>by rw [<-k3];exact h.dst d hd,λk hk=>by rw [<-k1];exact h.lt k hk,λk hk hc=>by rw [h.same k (by rw [k1];exact hk) hc,k2,k4]⟩;rw [h.slot,if_neg ht];exact hk.same t
theorem Way.nk(hw:Way P W ops n U sts gX cs rd wr):∀(j i:Nat),i<=j->j<=n->(sts i).c.nk<=(sts j).c.nk
  | 0, i, h, _ => by obtain rfl:i=0:=by omega
                     exact Nat.le_refl _
  |j+1,i,h,hj=>by
    by_cases hi:i=j+1
    · subst hi;exact Nat.le_refl _
    · obtain⟨o,ho⟩:=hw.get (i:=j) (by omega);exact Nat.le_trans (hw.nk j i (by omega) (by omega)) (hw.step (by omega) ho).2.2.2.1.k
theorem Way.n0(hw:Way P W ops n U sts gX cs rd wr):∀j,j<=n->(sts j).n=(sts 0).n/\(sts j).r=(sts 0).r/\(sts j).d=(sts 0).d/\(sts 0).c.le (sts j).c
  |0,_=>⟨rfl,rfl,rfl,ar.le_refl _⟩
  |j+1,hj=>by
    obtain⟨o,ho⟩:=hw.get (i:=j) (by omega);obtain⟨h1,h2,h3,h4,_⟩:=hw.step (by omega) ho;obtain⟨g1,g2,g3,g4⟩:=hw.n0 j (by omega);exact⟨h1.trans g1,h2.trans g2,h3.trans g3,ar.le_trans g4 h4⟩
theorem Way.kn(hw:Way P W ops n U sts gX cs rd wr)(h0:cr.den (sts 0).k U):∀j,j<=n->cr.den (sts j).k U
  |0,_=>h0
  |j+1,hj=>by
    obtain⟨o,ho⟩:=hw.get (i:=j) (by omega);exact (hw.F5 j o (by omega) ho).kn (hw.kn h0 j (by omega))
theorem Way.df(hw:Way P W ops n U sts gX cs rd wr):∀j,j<=n->(sts j).df=(sts 0).df
  |0,_=>rfl
  |j+1,hj=>by
    obtain⟨o,ho⟩:=hw.get (i:=j) (by omega);obtain⟨s1,hk,h⟩:=hw.fB (by omega) ho;exact h.IV.trans (hk.k.2.trans (hw.df j (by omega)))
theorem Way.same(hw:Way P W ops n U sts gX cs rd wr){t:Nat}:∀(j i:Nat),i<=j->j<=n->(∀m,i<=m->m<j->∀o,ops[m]? = some o->o.dst≠some t)->fg U (ay (sts i).t t) (ay (sts j).t t)
  | 0, i, h, _, _ => by obtain rfl:i=0:=by omega
                        exact .inl rfl
  |j+1,i,h,hj,hd=>by
    by_cases hi:i=j+1
    · subst hi;exact .inl rfl
    · obtain⟨o,ho⟩:=hw.get (i:=j) (by omega);exact (hw.same j i (by omega) (by omega) (λm h1 h2=>hd m h1 (by omega))).trans ((hw.step (by omega) ho).2.2.2.2.1 t (hd j (by omega) (by omega) o ho))
theorem Way.eK(hw:Way P W ops n U sts gX cs rd wr){m k:Nat}(hm:m<n)(h:¬uh sts cs m k):aM (sts (m+1)).m (sts (m+1)).o k=aM (sts m).m (sts m).o k:=by
 obtain⟨o,ho⟩:=hw.get hm;by_cases hk:k<(sts m).c.nk
 ·exact (hw.step hm ho).2.2.2.2.2.2.2.2 k hk λhc=>h (.inl hc)
 ·have jW:(sts (m+1)).c.nk<=k:=by
   rcases Nat.lt_or_ge k (sts (m+1)).c.nk with h'|h'
   ·exact (h (.inr ⟨by omega,h'⟩)).elim
   ·exact h'
  rw [(hw.wf (m+1) (by omega)).beyond jW,(hw.wf m (by omega)).beyond (by omega)]
theorem Way.chain(hw:Way P W ops n U sts gX cs rd wr){k:Nat}:∀(j i:Nat),i<=j->j<=n->(∀m,i<=m->m<j->¬uh sts cs m k)->aM (sts j).m (sts j).o k=aM (sts i).m (sts i).o k
  | 0, i, h, _, _ => by obtain rfl:i=0:=by omega
                        rfl
  |j+1,i,h,hj,hd=>by
    by_cases hi:i=j+1
    · subst hi;rfl
    · rw [hw.eK (by omega) (hd j (by omega) (by omega))];exact hw.chain j i (by omega) (by omega) (λm h1 h2=>hd m h1 (by omega))
theorem Way.cls(hw:Way P W ops n U sts gX cs rd wr){m k:Nat}(hm:m<n)(h:k∈cs m):(k,m)∈wr/\k<(sts m).c.nk/\∀i,i<m->laid sts i k->reach ops 3 m i=true:=by
  obtain⟨o,ho⟩:=hw.get hm;have hl:=(hw.step hm ho).2.2.2.2.2.2.2.1 k h;have hf:=hw.F5 m o hm ho;generalize hC:cs m=C at hf h;generalize hS:gX m=sv at hf;generalize hs:sts (m+1)=s' at hf;cases hf with
  |skip=>cases h
  |run s1 _ _ _ kn w nd f h1 h2 h4 h5 =>
    have Jl:=(f.LJ k h).1;exact⟨h5 k Jl,hl,h1 k (List.mem_append.2 (.inl (List.mem_append.2 (.inr Jl))))⟩
theorem Way.dst(hw:Way P W ops n U sts gX cs rd wr){i:Nat}{o:Oper}(hi:i<n)(ho:ops[i]? = some o){x:Nat}(hx:o.dst=some x){k:Nat}(hk:k∈eX (gX i)){m:Nat}(hm:m<i)(hl:laid sts m k):reach ops 3 i m=true:=by
 have hf:=hw.F5 i o hi ho;generalize hC:cs i=C at hf;generalize hS:gX i=sv at hf hk;generalize hs:sts (i+1)=s' at hf;cases hf with
 |skip=>cases hk
 |run s1 _ _ _ kn w nd f h1 h2 h4 h5=>exact h2 x hx k hk m hm hl
theorem zz(h:dZ ops=true){i:Nat}{o:Oper}(ho:ops[i]? = some o) :
  (∀e∈o.after,Region.binds .any e=true->e.on<i)/\∀j p,ops[j]? = some p ->
   ∀d,p.dst=some d->(i=j\/o.dst≠some d)/\(d∈o.looksAt ops->(j<i/\direct ops i j=true)\/(i<j/\direct ops j i=true)):=by
 have hi:i<ops.size:=(Array.getElem?_eq_some_iff.1 ho).1;have h1:=List.all_eq_true.1 h i (List.mem_range.2 hi);simp only [ho,Bool.and_eq_true]at h1;refine⟨λe he hb => ?_,λj p hp d hd => ?_⟩
 ·have:=Array.all_eq_true_iff_forall_mem.1 h1.1 e he
  simpa [hb]using this
 ·have hj:j<ops.size:=(Array.getElem?_eq_some_iff.1 hp).1;have h2:=List.all_eq_true.1 h1.2 j (List.mem_range.2 hj);simp only [hp,hd,Bool.and_eq_true,decide_eq_true_eq,Bool.or_eq_true,Bool.not_eq_true']at h2;refine⟨h2.1,λhm => ?_⟩;rcases h2.2 with (h4|h4)|h4
  ·rw [List.contains_iff_mem.2 hm]at h4;cases h4
  ·exact .inl h4
  ·exact .inr h4
def cut(n:Nat)(sts:Nat->St)(cs:Nat->List Nat)(listed:Array Bool)(k i:Nat):Prop:=∀m,m<n->uh sts cs m k->(m<i↔listed.getD m false=true)
structure Inv(W:eJ)(R:Nat->Loop)(Z:List Nat)(ops:Array Oper)(n:Nat)(U:Env)(sts:Nat->St)(cs:Nat->List Nat)(a0:Act)(bI:Nat->Nat)(listed:Array Bool)(a:Act)(w:World)(β:Nat->Nat):Prop where
 ry:listed.size=ops.size
 closed:∀j oj,ops[j]? = some oj->listed.getD j false=true->∀e∈oj.after,Region.binds .any e=true->listed.getD e.on false=true
 only:∀j,n<=j->listed.getD j false=false
 size:a.tmps.size=(sts 0).n
 kE:a.defers=fW bI (sts 0).df++marksOf bI (sts 0).d
 below:dT W w
 s2:∀t i o,i<n->ops[i]? = some o->o.dst=some t->listed.getD i false=true->ay (sts n).t t ≠ .any->a.tmps[t]? = some ((ay (sts n).t t).den U β)
 s3:∀t,(∀i o,i<n->ops[i]? = some o->o.dst=some t->listed.getD i false=false)->a.tmps[t]? = a0.tmps[t]?
 mem:∀k i,i<=n->cut n sts cs listed k i->∀e,aM (sts i).m (sts i).o k=some e->Holds W U β k e w
 Nc:∀k i,i<=n->cut n sts cs listed k i->∀e,aM (sts i).m (sts i).o k=some e->∀x∈fe e,∀m,m<n->laid sts m x->listed.getD m false=true
 inj:∀k k' i i',i<=n->i'<=n->cut n sts cs listed k i->cut n sts cs listed k' i'->∀e e' b,aM (sts i).m (sts i).o k=some e->aM (sts i').m (sts i').o k'=some e'->bM β k e=some b->bM β k' e'=some b->k=k'
 fX:∀k e,fu (sts 0).r k=some e->w.heap[bI k]? = some (.loop (recAt (R k) e))
 gQ:∀b∈Z++(sts 0).d.map bI,w.heap[b]? = some (.deferred (some []))
 agree:∀k,k<(sts 0).c.nk->β k=bI k
theorem Nd(hw:Way P W ops n U sts gX cs rd wr)(hd:dZ ops=true){a0 a:Act}{bI β:Nat->Nat}{w0 w:World}(hC:Core W R Z U bI (sts 0) a0 w0){listed:Array Bool}
    (inv:Inv W R Z ops n U sts cs a0 bI listed a w β) {i:Nat} {o:Oper} (hi:i<n) (ho:ops[i]? = some o) (gA:listed.getD i false=false) (hr:∀e∈o.after,Region.binds .any e=true->listed.getD e.on false=true) {t:Nat} (ht:t∈o.looksAt ops) (hn:ay (sts i).t t ≠ .any) :
    a.tmps[t]? = some ((ay (sts i).t t).den U β):=by
  obtain⟨_,vJ⟩:=zz hd ho
  have early:(∀m o',m<n->ops[m]? = some o'->o'.dst=some t->listed.getD m false=false)->fg U (ay (sts 0).t t) (ay (sts i).t t)->a.tmps[t]? = some ((ay (sts i).t t).den U β):=λh1 gm=>by
    rw [inv.s3 t h1,hC.tmps t (gm.any hn),<-gm.den,SV.aa (Env.ao _ U) inv.agree (hC.wf.t t)]
  by_cases hx:∃(j:Nat) (p:Oper),ops[j]? = some p/\p.dst=some t
  · obtain⟨j,p,hp,qD⟩:=hx
    have one:∀m q,ops[m]? = some q->q.dst=some t->m=j:=λm q hq CH=>by
      rcases ((zz hd hq).2 j p hp t qD).1 with h4|h4
      · exact h4
      · exact (h4 CH).elim
    obtain⟨_,h2⟩:=vJ j p hp t qD;rcases h2 ht with ⟨rZ,xk⟩|⟨rz,xk⟩
    · have lP:listed.getD j false=true:=by
        simp only [direct,ho,Array.any_eq_true',Bool.and_eq_true,decide_eq_true_eq]at xk;obtain⟨e,he,hb,rfl⟩:=xk;exact hr e he hb
      have gm:fg U (ay (sts i).t t) (ay (sts n).t t):=hw.same n i (by omega) (Nat.le_refl _) λm h1 h3 q hq CH=>by
        have:=one m q hq CH;omega
      rw [inv.s2 t j p (by omega) hp qD lP (gm.M8 hn),gm.den]
    · have XO:listed.getD j false=false:=by
        cases lP:listed.getD j false with
        |false=>rfl
        |true =>
          simp only [direct,hp,Array.any_eq_true',Bool.and_eq_true,decide_eq_true_eq]at xk;obtain⟨e,he,hb,rfl⟩:=xk;rw [inv.closed j p hp lP e he hb]at gA;cases gA
      refine early (λm o' _ hm he=>by rw [one m o' hm he];exact XO) (hw.same i 0 (by omega) (by omega) λm h1 h3 q hq CH => ?_)
      have:=one m q hq CH;omega
  · have rA:∀(m:Nat) (o':Oper),ops[m]? = some o'->o'.dst≠some t:=λm o' hm he=>hx ⟨m,o',hm,he⟩;exact early (λm o' _ hm he=>(rA m o' hm he).elim) (hw.same i 0 (by omega) (by omega) λm _ _ q hq=>rA m q hq)
theorem Nf(hw:Way P W ops n U sts gX cs rd wr)(hd:dZ ops=true){a0 a:Act}{bI β:Nat->Nat}{w0 w:World}(hC:Core W R Z U bI (sts 0) a0 w0){listed:Array Bool}
    (inv:Inv W R Z ops n U sts cs a0 bI listed a w β) {i:Nat} {o:Oper} (hi:i<n) (ho:ops[i]? = some o) (gA:listed.getD i false=false) (hr:∀e∈o.after,Region.binds .any e=true->listed.getD e.on false=true) {s1:St} (hk:pT U (sts i) s1):dV s1 o U β a:=by
  intro x hx hn;cases x with
  |tmp t =>
    have hs:=hk.same t;have lO:ay s1.t t ≠ .any:=hn
    have:=Nd hw hd hC inv hi ho gA hr (t:=t) (by
      simp only [Oper.looksAt,List.mem_append];exact .inl (List.mem_filterMap.2 ⟨.tmp t,Array.mem_toList_iff.2 hx,rfl⟩)) (hs.any lO)
    show a.tmps.getD t undef=_;rw [Array.getD_eq_getD_getElem?,this,Option.getD_some];exact hs.den β
  |const v=>exact ((SV.cM v s1.c U β).2 hn).symm
  |global g=>exact LI (by rw [hk.k.1];exact hw.kn hC.kn i (by omega)) hn β
  |func f=>rfl
theorem Ut(hw:Way P W ops n U sts gX cs rd wr)(hd:dZ ops=true){a0 a:Act}{bI β:Nat->Nat}{w0 w:World}(hC:Core W R Z U bI (sts 0) a0 w0){listed:Array Bool}
    (inv:Inv W R Z ops n U sts cs a0 bI listed a w β) {i:Nat} {o:Oper} (hi:i<n) (ho:ops[i]? = some o) (gA:listed.getD i false=false) (hr:∀e∈o.after,Region.binds .any e=true->listed.getD e.on false=true) {b:Bool} (hb:dM ops U (sts i) o b):Region.wanted o (yielded ops a.tmps)=b:=by
  unfold dM at hb;cases hg:o.guard with
  |none=>rw [hg]at hb;simp only at hb;subst hb;simp [Region.wanted,hg]
  |some jw =>
    obtain⟨j,want⟩:=jw;rw [hg]at hb;obtain⟨x,hx,hb⟩:=hb
    have jF:x∈o.looksAt ops:=by
      simp only [Oper.looksAt,hg,List.mem_append];exact .inr (by simp [hx])
    rcases hb with ⟨e,he,hb⟩|⟨he,rfl⟩
    · have:=Nd hw hd hC inv hi ho gA hr jF (by rw [he];simp)
      rw [he]at this;have hy:=Mt (b:=e.den U) hx this;simp only [Region.wanted,hg,hy];exact hb
    · have:=Nd hw hd hC inv hi ho gA hr jF (by rw [he];simp)
      rw [he]at this;have hy:=Mu hx this;simp [Region.wanted,hg,hy]
theorem F7:∀(l acc:List Nat) {x:Nat},x∈i7 acc l->x∈acc\/x∈l
  | [],acc,x,h=>.inl h
  |y::l,acc,x,h=>by
    simp only [i7]at h;rcases F7 l _ h with h|h
    · split at h
      · exact .inl h
      · rcases List.mem_cons.1 h with rfl|h
        · exact .inr (by simp)
        · exact .inl h
    · exact .inr (by simp [h])
theorem Uu{ops:Array Oper}{listed:Array Bool}{i:Nat}{o:Oper}(ho:ops[i]? = some o)(hi:∀e∈o.after,Region.binds .any e=true->listed.getD e.on false=true):∀j∈du ops i,listed.getD j false=true:=by
 intro j hj;unfold du at hj;rw [ho]at hj;obtain⟨e,he,rfl⟩:=List.mem_map.1 hj;obtain⟨h1,h2⟩:=List.mem_filter.1 he;exact hi e (by simpa using h1) h2
theorem Uv{ops:Array Oper}{listed:Array Bool}(ju:∀ j oj,ops[j]? = some oj->listed.getD j false=true->∀ e∈oj.after,Region.binds .any e=true->listed.getD e.on false=true) :
    ∀(d:Nat) (acc:List Nat),(∀j∈acc,listed.getD j false=true)->∀j∈behind ops d acc,listed.getD j false=true
  |0,acc,h,j,hj=>h j hj
  |d+1,acc,h,j,hj=>by
    refine Uv ju d _ (λk hk => ?_) j hj;rcases F7 _ _ hk with hk|hk
    · exact h k hk
    · obtain⟨m,hm,Jm⟩:=List.mem_flatMap.1 hk;cases ho:ops[m]? with
      |none=>unfold du at Jm;rw [ho]at Jm;cases Jm
      |some o=>exact Uu ho (ju m o ho (h m hm)) k Jm
theorem Ng{ops:Array Oper}{listed:Array Bool}(ju:∀j oj,ops[j]? = some oj->listed.getD j false=true->∀e∈oj.after,Region.binds .any e=true->listed.getD e.on false=true){i j:Nat}{o:Oper}(ho:ops[i]? = some o)
  (hi:∀e∈o.after,Region.binds .any e=true->listed.getD e.on false=true) (h:DI ops i j=true):listed.getD j false=true:=by
 unfold DI at h;generalize hN:10=N at h;have hj:j∈behind ops N (i7 [] (du ops i)):=List.contains_iff_mem.1 h;refine Uv ju N _ (λk hk => ?_) j hj;rcases F7 _ _ hk with hk|hk
 ·cases hk
 ·exact Uu ho hi k hk
theorem XP{ops:Array Oper}{i j:Nat}{o:Oper}{listed:Array Bool}(ho:ops[i]? = some o)(hr:∀e∈o.after,Region.binds .any e=true->listed.getD e.on false=true)(h:direct ops i j=true):listed.getD j false=true:=by
 simp only [direct,ho,Array.any_eq_true',Bool.and_eq_true,decide_eq_true_eq]at h;obtain⟨e,he,hb,rfl⟩:=h;exact hr e he hb
theorem Uw{ops:Array Oper}{listed:Array Bool}(ju:∀j oj,ops[j]? = some oj->listed.getD j false=true->∀e∈oj.after,Region.binds .any e=true->listed.getD e.on false=true){i j:Nat}{o:Oper}(ho:ops[i]? = some o)
  (hi:∀e∈o.after,Region.binds .any e=true->listed.getD e.on false=true) (h:pH ops i j=true):listed.getD j false=true:=by
 unfold pH at h;rcases Bool.or_eq_true _ _▸h with h|h
 ·exact XP ho hi h
 ·exact Ng ju ho hi h
theorem later{a0 a:Act}{bI β:Nat->Nat}{w:World}{listed:Array Bool}(inv:Inv W R Z ops n U sts cs a0 bI listed a w β){i m:Nat}(gA:listed.getD i false=false)(hm:m<ops.size)(h:reach ops 3 m i=true):listed.getD m false=false:=by
  cases zH:listed.getD m false with
  |false=>rfl
  |true =>
    have F8:ops[m]? = some ops[m]:=Array.getElem?_eq_getElem hm;rw [Jh inv.closed 3 m i _ F8 (inv.closed m _ F8 zH) h]at gA;cases gA
theorem F9{a0 a:Act}{bI β:Nat->Nat}{w:World}{listed:Array Bool}(inv:Inv W R Z ops n U sts cs a0 bI listed a w β){i m:Nat}(gA:listed.getD i false=false)(hm:m<ops.size)(h:pH ops m i=true):listed.getD m false=false:=by
  cases zH:listed.getD m false with
  |false=>rfl
  |true =>
    have F8:ops[m]? = some ops[m]:=Array.getElem?_eq_getElem hm;rw [Uw inv.closed F8 (inv.closed m _ F8 zH) h]at gA;cases gA
theorem Nh(hw:Way P W ops n U sts gX cs rd wr){a0 a:Act}{bI β:Nat->Nat}{w:World}{listed:Array Bool}(inv:Inv W R Z ops n U sts cs a0 bI listed a w β){i:Nat}{o:Oper}(hi:i<n)(ho:ops[i]? = some o)
  (gA:listed.getD i false=false) (hr:∀e∈o.after,Region.binds .any e=true->listed.getD e.on false=true) {k:Nat} (hk:k<(sts i).c.nk) (Ft:(k,i)∈rd\/(k,i)∈wr) (hold:∀m,m<i->laid sts m k->reach ops 3 i m=true):cut n sts cs listed k i:=by
 intro m hm ht;have AX:m<ops.size:=Nat.lt_of_lt_of_le hm hw.le;rcases ht with hc|hl
 ·obtain⟨h1,_,_⟩:=hw.cls hm hc;rcases hw.apart k i m Ft h1 with rfl|⟨a1,a2⟩|⟨a1,a2⟩
  ·exact⟨λh=>by omega,λh=>by rw [h]at gA;cases gA⟩
  ·exact⟨λ_=>Uw inv.closed ho hr a2,λ_=>a1⟩
  ·refine⟨λh=>by omega,λh => ?_⟩;rw [F9 inv gA AX a2]at h;cases h
 ·refine⟨λh=>Jh inv.closed 3 i m o ho hr (hold m h hl),λh => ?_⟩;rcases Nat.lt_or_ge m i with h'|h'
  ·exact h'
  ·have:=hw.nk m i h' (by omega)
   have:=hl.1
   omega
end
end Vc
