import Derived.Test.YtdjgnbkclcjiiaaGreatDoorVcM
import Derived.LoopNIn
import Derived.Sort.LoopGhostIn
import Derived.RangeFuncIn
set_option linter.unusedVariables false
set_option linter.unusedSimpArgs false
namespace Vc
open Go Go.RowKit
variable {W:Wld} {Q:Value→Prop} {QM QP:World→Value→Prop}
theorem zrb(r:List (Nat × Option Ex))(j i:Nat)(v:Option Ex):getR ((j,v)::r) i=if j=i then some v else getR r i:=rfl
theorem zag:∀ (r:List (Nat × Option Ex)) (k i:Nat) (e:Option Ex),getR (setR r k e) i=if k=i then (getR r i).map (fun _=>e)else getR r i
  | [],k,i,e=>by simp [setR,getR]
  | (j,v)::r,k,i,e=>by
    simp only [setR];by_cases hj:j=k
    · subst hj;rw [if_pos rfl,zrb,zrb];by_cases hi:j=i
      · simp [hi]
      · rw [if_neg hi,if_neg hi,if_neg hi,zag r j i e,if_neg hi]
    · rw [if_neg hj,zrb,zrb,zag r k i e];by_cases hi:j=i
      · rw [if_pos hi,if_pos hi,if_neg (fun h=>hj (hi.trans h.symm))]
      · rw [if_neg hi,if_neg hi]
theorem zbg:∀ (r:List (Nat × Option Ex)) (k i:Nat),getR (delR r k) i=if k=i then none else getR r i
  | [],k,i=>by simp [delR,getR]
  | (j,v)::r,k,i=>by
    simp only [delR];by_cases hj:j=k
    · subst hj;rw [if_pos rfl,zbg r j i,zrb];by_cases hi:j=i
      · rw [if_pos hi,if_pos hi]
      · rw [if_neg hi,if_neg hi,if_neg hi]
    · rw [if_neg hj,zrb,zrb,zbg r k i];by_cases hi:j=i
      · rw [if_pos hi,if_pos hi,if_neg (fun h=>hj (hi.trans h.symm))]
      · rw [if_neg hi,if_neg hi]
section
variable {R:Nat→Loop} {Z:List Nat}
theorem Core.drop{ρ:Env}{β:Nat→Nat}{st:St}{a:Act}{w:World}(hC:Core W R Z ρ β st a w)(hdf:st.df=[]):Core W R Z ρ β {st with d := []} {a with defers := []} w :=
 ⟨hC.size,hC.tmps,by simp [closOf,marksOf,hdf],hC.below,hC.mem,hC.inj,hC.lps,hC.rin,fun b hb=>hC.ded b (List.mem_append.2 (.inl (by simpa using hb))),by simpa using (List.nodup_append.1 hC.dn).1,⟨hC.wf.t,hC.wf.m,hC.wf.o,hC.wf.ap,hC.wf.r,fun k hk=>(by cases hk),hC.wf.k,hC.wf.df⟩,hC.kn⟩
theorem Holds.put{ρ:Env}{β:Nat→Nat}{k:Nat}{w:World}{e:Ent}{c:Ctr}(h:Holds W ρ β k e w)(hw:entWf c k e){l:Nat}{r:Loop}(hl:w.heap[l]? = some (.loop r))(o:Obj):Holds W ρ β k e (w.putObj l o):=by
 refine h.keep hw (Env.like_refl _ _) (fun _ _=>rfl) fun b hb=>World.putObj_heap_other fun he => ?_;obtain⟨_,_,c,hc,hd⟩:=h.blk b hb;rw [he,hl]at hc;cases hc;exact hd
theorem Bel.putObj{w:World}(h:Bel W w){l:Nat}(hl:W.heap.size≤l)(o:Obj):Bel W (w.putObj l o) :=
 Bel.mk h.os h.tape h.output (by simpa using h.size) fun k hk hn=>by rw [World.putObj_heap_other (by omega)];exact h.block k hk hn
theorem zrq{ρ:Env}{β:Nat→Nat}{st:St}{a:Act}{w:World}(hC:Core W R Z ρ β st a w){k:Nat}{e e':Option Ex}(hg:getR st.r k=some e) :
  Core W R Z ρ β {st with r:=setR st.r k e'} a (w.putObj (β k) (.loop (recAt (R k) e'))):=by
 obtain⟨l1,l2⟩:=hC.lps k e hg;refine⟨hC.size,hC.tmps,hC.dfr,Bel.putObj hC.below l1 _,fun j x hj=>(hC.mem j x hj).put (hC.wf.ent hj) l2 _,hC.inj,fun j x hj => ?_,fun j j' x x' hj hj' he => ?_,fun b hb=>⟨(hC.ded b hb).1, ?_⟩,hC.dn,⟨hC.wf.t,hC.wf.m,hC.wf.o,hC.wf.ap,fun j x hj => ?_,hC.wf.d,hC.wf.k,hC.wf.df⟩,hC.kn⟩
 ·rw [zag]at hj;by_cases hk:k=j
  ·subst hk;rw [if_pos rfl,hg]at hj;simp only [Option.map_some,Option.some.injEq]at hj;subst hj;exact⟨l1,World.putObj_heap_same (heap_lt l2)⟩
  ·rw [if_neg hk]at hj;refine⟨(hC.lps j x hj).1, ?_⟩;rw [World.putObj_heap_other fun he=>hk (hC.rin j k x e hj hg he).symm];exact (hC.lps j x hj).2
 ·have f:∀ {j x},getR (setR st.r k e') j=some x→∃ y,getR st.r j=some y:=fun {j x} hj=>by
   rw [zag]at hj;by_cases hk:k=j
   ·exact⟨e,hk▸hg⟩
   ·rw [if_neg hk]at hj;exact⟨x,hj⟩
  obtain⟨y,hy⟩:=f hj;obtain⟨y',hy'⟩:=f hj';exact hC.rin j j' y y' hy hy' he
 ·rw [World.putObj_heap_other fun he => ?_]
  ·exact (hC.ded b hb).2
  ·have:=(hC.ded b hb).2
   rw [he,l2]at this;cases this
 ·rw [zag]at hj;by_cases hk:k=j
  ·exact hk▸hC.wf.r k e hg
  ·rw [if_neg hk]at hj;exact hC.wf.r j x hj
theorem zsq(ρ:Env)(β:Nat→Nat):∀ (ps:List Tmp) (args:List SV) (t:List (Nat × SV)) (tmps:Array Value),args.length=ps.length→(∀ p∈ps,p < tmps.size) →
    (∀ i,getS t i ≠ .any→tmps[i]? = some ((getS t i).den ρ β))→∀ i,getS (putSs t ps args) i ≠ .any →
      ((ps.zip (args.map (SV.den ρ β))).foldl (fun (x:Array Value) (y:Tmp × Value)=>x.setIfInBounds y.1 y.2) tmps)[i]? = some ((getS (putSs t ps args) i).den ρ β)
  | [],args,t,tmps,hl,_,h,i,hi=>by
    cases args with
    | nil=>exact h i hi
    | cons _ _=>simp at hl
  | p::ps,[],t,tmps,hl,_,_,_,_=>by simp at hl
  | p::ps,v::args,t,tmps,hl,hp,h,i,hi=>by
    simp only [putSs,List.map_cons,List.zip_cons_cons,List.foldl_cons]at hi ⊢;refine zsq ρ β ps args _ _ (by simpa using hl) (fun q hq=>by simpa using hp q (by simp [hq])) (fun j hj => ?_) i hi;rw [zq]at hj ⊢;by_cases hpj:p=j
    · subst hpj;rw [if_pos rfl]
      have:=hp p (by simp)
      simp [this]
    · rw [if_neg hpj]at hj ⊢;rw [Array.getElem?_setIfInBounds_ne hpj];exact h j hj
theorem zwn:∀ (l:List (Tmp × Value)) (tmps:Array Value),(l.foldl (fun (x:Array Value) (y:Tmp × Value)=>x.setIfInBounds y.1 y.2) tmps).size=tmps.size
 | [],_=>rfl
 | p::l,tmps=>by rw [List.foldl_cons,zwn l];simp
theorem zrt{c:Ctr}:∀ (ps:List Tmp) (args:List SV) (t:List (Nat × SV)),args.all (SV.wf c)=true→(∀ i,(getS t i).wf c=true)→∀ i,(getS (putSs t ps args) i).wf c=true
  | [],args,t,_,h,i=>by cases args <;> exact h i
  | p::ps,[],t,_,h,i=>h i
  | p::ps,v::args,t,ha,h,i=>by
    simp only [List.all_cons,Bool.and_eq_true]at ha;refine zrt ps args _ ha.2 (fun j => ?_) i;rw [zq];by_cases hj:p=j
    · rw [if_pos hj];exact ha.1
    · rw [if_neg hj];exact h j
end
def RdRel(rd r:Option Nat)(st:St)(β:Nat→Nat):Prop :=
 match rd with
 | none=>r=none
 | some k=>r=some (β k)∧k < st.c.nk
theorem RdRel.far{rd r:Option Nat}{st s:St}{β β':Nat→Nat}(h:RdRel rd r st β)(hc:st.c.le s.c)(hb:∀ k,k < st.c.nk→β' k=β k):RdRel rd r s β':=by
 cases rd with
 | none=>exact h
 | some k=>exact⟨by rw [hb k h.2];exact h.1,Nat.lt_of_lt_of_le h.2 hc.k⟩
def DrawOk(G:Cfg)(W:Wld)(Q:Value→Prop)(QM QP:World→Value→Prop):Prop :=
  ∀ (R:Nat→Loop) (Z:List Nat) (r:Option Nat) (n:Nat) (inl:Inl (Env→Prop)) (yl:Yl (Env→Prop)) (dok:Bool) (KP:Nat→St→Env→Prop) id ops st (K:St→Env→Prop) ρ,drawnX (PA G.P W Q QM QP) G inl yl dok KP ops st K ρ→∀ β a w,Core W R Z ρ β st a w→∀ (Q':Exit→Act→World→Prop),InlOk G W R Z st.c ρ β Q' inl→YlOk G.P W R st.c ρ β yl→(dok=true→r=none)→PanOk W R Z st.c ρ β Q' KP →
    ∀ (next:Act→World→Prop),(∀ a w,next a w→Q' .normal a w)→Nxt W R Z st ρ β K next→(Code.region id ops true).wpIn (Fr r) n G.P Q' a w
def ExecOk(G:Cfg)(W:Wld)(Q:Value→Prop)(QM QP:World→Value→Prop)(n:Nat):Prop :=
  ∀ (rd:Option Nat) (yl:Yl (Env→Prop)) (c:Code) (st:St) (K:Ex→St→Env→Prop) (ρ:Env),exec (PA G.P W Q QM QP) G n rd yl c st K ρ →
    ∀ (R:Nat→Loop) (Z:List Nat) (r:Option Nat) (m:Nat) (β:Nat→Nat) (a:Act) (w:World),Core W R Z ρ β st a w→YlOk G.P W R st.c ρ β yl→RdRel rd r st β→∀ Q':Exit→Act→World→Prop,NxtE W R Z st ρ β K Q'→c.wpIn (Fr r) m G.P Q' a w
theorem zmw{P:Program}{R:Nat→Loop}{Z:List Nat}{rd r:Option Nat}{st:St}{ρ:Env}{β:Nat→Nat}{a:Act}{w:World}(hC:Core W R Z ρ β st a w)(hRd:RdRel rd r st β)(hrd:rdRdy st.r rd=true)
    (fn:FuncId) (tmps:Array Value) (ps:Array Tmp) (assign body:Code) :
    ∃ l mark w1 D,(Instr.enterLoop fn tmps ps assign body (Fr r).round).run P w=.ok (l,mark) w1∧w1.heap[l]? = some (.loop {state := .ready,pending:=none,fn,tmps,params:=ps,assign,body,defers:=D})∧(∀ k,k < w.heap.size→w1.heap[k]? = w.heap[k]?) ∧
      w.heap.size≤l∧w1.os=w.os∧w1.tape=w.tape∧w1.output=w.output∧w.heap.size≤w1.heap.size ∧
      (rd.isSome=true→mark=[])∧(rd.isSome=false→mark=[{target := .collected w.heap.size,args := #[]}]∧w1.heap[w.heap.size]? = some (.deferred (some []))):=by
  cases rd with
  | none =>
    have hr:r=none:=hRd;subst hr;refine⟨_,_,_,w.heap.size,run_enterLoop_outer fn tmps ps assign body, ?_⟩;refine⟨?_,fun k hk => ?_,by simp,rfl,rfl,rfl,by simp;omega,(fun h=>nomatch h),fun (_:false=false)=>And.intro rfl ?_⟩
    · have:=World.alloc_heap_new (w.alloc (.deferred (some []))) (.loop {state := .ready,pending:=none,fn,tmps,params:=ps,assign,body,defers:=w.heap.size})
      rwa [World.size_alloc]at this
    · rw [Below.heap_alloc _ _ _ (by simp;omega),Below.heap_alloc _ _ _ hk]
    · rw [Below.heap_alloc _ _ _ (by simp)];exact World.alloc_heap_new w _
  | some k =>
    obtain⟨hr,hk⟩:=hRd;subst hr;obtain⟨e,he⟩:=Option.isSome_iff_exists.1 hrd;have hl:=(hC.lps k e he).2;refine⟨_,_,_,_,run_enterLoop_inner hl fn tmps ps assign body,World.alloc_heap_new w _,fun j hj=>Below.heap_alloc _ _ _ hj,Nat.le_refl _,rfl,rfl,rfl,by simp,fun _=>rfl,fun h=>(by cases h)⟩
theorem zls{G:Cfg}(hG:G.Ok){n:Nat}(ih:ExecOk G W Q QM QP n){rd:Option Nat}{yl:Yl (Env→Prop)}{g:Operand}{ps:Array Tmp}{assign body:Code}{st:St}{K:Ex→St→Env→Prop}{ρ:Env}
    (h:exec (PA G.P W Q QM QP) G (n + 1) rd yl (.rangeFunc g ps assign body) st K ρ) {R:Nat→Loop} {Z:List Nat} {r:Option Nat} {m:Nat} {β:Nat→Nat} {a:Act} {w:World} (hC:Core W R Z ρ β st a w) (hY:YlOk G.P W R st.c ρ β yl) (hRd:RdRel rd r st β)
    {Q':Exit→Act→World→Prop} (hn:NxtE W R Z st ρ β K Q'):(Code.rangeFunc g ps assign body).wpIn (Fr r) m G.P Q' a w:=by
  unfold exec at h;cases g with
  | tmp g =>
    simp only at h;unfold rangeX at h;generalize hg:getS st.t g=sv at h;split at h;rotate_left
    · exact h.elim
    rename_i f caps;by_cases hcond:(G.inl.contains f=true∧g < st.n∧rdRdy st.r rd=true∧st.df=[]);rotate_left
    · rw [if_neg hcond]at h;exact h.elim
    rw [if_pos hcond]at h;obtain⟨hf,hgn,hrdr,hdf0⟩:=hcond;generalize hfn:G.P.funcs[f]? = u at h;cases u with
    | none=>exact h.elim
    | some fn =>
    simp only at h;generalize hb:fn.body=u at h;cases u with
    | none=>exact h.elim
    | some b =>
    simp only at h;have hwg:(SV.cv (.one (.fn f caps))).wf st.c=true:=by rw [← hg];exact hC.wf.t g
    have hcaps:∀ x∈caps,x.1 < st.c.nk:=fun x hx=>by simpa using List.all_eq_true.1 hwg x hx
    have eg:a.eval (.tmp g)=.func (.func f) #[] (caps.map fun c=>.pointer (some ⟨β c.1,c.2,none⟩)).toArray:=by
      have:=hC.eval (.tmp g) (by show getS st.t g≠_;rw [hg];simp)
      rw [this];show (getS st.t g).den ρ β=_;rw [hg];rfl
    refine wpIn_rangeFunc fun fnid _ => ?_;obtain⟨l,mark,w1,D,hent,hrec,hold,hll,ho1,ho2,ho3,hsz,hm1,hm2⟩:=zmw (P:=G.P) hC hRd hrdr fnid a.tmps ps assign body;generalize hrr:({state := .ready,pending:=none,fn:=fnid,tmps:=a.tmps,params:=ps,assign:=assign,body:=body,defers:=D}:Loop)=rec at hrec;have hrec0:recAt rec none=rec:=by rw [← hrr];rfl
    have hrtmps:rec.tmps=a.tmps∧rec.params=ps∧rec.assign=assign∧rec.body=body:=by rw [← hrr];exact⟨rfl,rfl,rfl,rfl⟩
    let kr:=st.c.nk;let β1:Nat→Nat:=fun k=>if k=st.c.nk then l else if k=st.c.nk + 1 then w.heap.size else β k
    have hβ1:∀ k,k < st.c.nk→β1 k=β k:=fun k hk=>by
      show (if k=st.c.nk then l else if k=st.c.nk + 1 then w.heap.size else β k)=β k;rw [if_neg (by omega),if_neg (by omega)]
    have hβk:β1 st.c.nk=l:=if_pos rfl
    have hβd:β1 (st.c.nk + 1)=w.heap.size:=by
      show (if st.c.nk + 1=st.c.nk then l else if st.c.nk + 1=st.c.nk + 1 then w.heap.size else _)=_;rw [if_neg (by omega),if_pos rfl]
    let R1:Nat→Loop:=fun k=>if k=st.c.nk then rec else R k;have hR1:∀ k,k < st.c.nk→R1 k=R k:=fun k hk=>if_neg (by omega);have hR1k:R1 st.c.nk=rec:=if_pos rfl;have hlec:st.c.le {st.c with nk:=st.c.nk + 2}:=Ctr.le_nk st.c 2;let args:List SV:=SV.cv (.one (.yld st.c.nk))::caps.map locSV
    have hargw:args.all (SV.wf {st.c with nk:=st.c.nk + 2})=true:=by
      refine List.all_eq_true.2 fun x hx => ?_;rcases List.mem_cons.1 hx with rfl | hx
      · show decide (st.c.nk < st.c.nk + 2)=true;simp
      · obtain⟨y,hy,rfl⟩:=List.mem_map.1 hx
        have:=hcaps y hy
        show decide (y.1 < st.c.nk + 2)=true;simp;omega
    have hargs:(args.map (SV.den ρ β1)).toArray=#[.func (.yield l) #[] #[]]++(caps.map fun c=>(.pointer (some ⟨β c.1,c.2,none⟩):Value)).toArray:=by
      apply Array.ext';simp only [args,List.map_cons,Array.toList_append];show Value.func (.yield (β1 st.c.nk)) #[] #[]::_=_;rw [hβk];simp only [List.map_map,List.cons_append,List.nil_append,List.cons.injEq,true_and];apply List.map_congr_left;intro x hx;show Value.pointer (some ⟨β1 x.1,x.2,none⟩)=_;rw [hβ1 x.1 (hcaps x hx)]
    have hB1:Bel W w1:=Bel.mk (ho1.trans hC.below.os) (ho2.trans hC.below.tape) (ho3.trans hC.below.output) (Nat.le_trans hC.below.size hsz) fun k hk hn=>by
      rw [hold k (Nat.lt_of_lt_of_le hk hC.below.size)];exact hC.below.block k hk hn
    have hmapd:st.d.map β1=st.d.map β:=List.map_congr_left fun k hk=>hβ1 k (hC.wf.d k hk);have hsmall:∀ k∈Z++st.d.map β,k < w.heap.size:=fun k hk=>heap_lt (hC.ded k hk).2
    have holdH:∀ {k e},getE st.m st.o k=some e→Holds W ρ β1 k e w1:=fun {k e} hk =>
      (hC.mem k e hk).keep (hC.wf.ent hk) (Env.like_refl _ _) hβ1 fun b hb=>hold b ((hC.mem k e hk).blk b hb).2.1
    have base:Core W R1 (Z++st.d.map β++(if rd.isSome=true then []else [w.heap.size])) ρ β1 {t:=(List.range args.length).zip args,n:=args.length + (fn.ntmps - args.length),m:=st.m,c := {st.c with nk:=st.c.nk + 2},o:=st.o,r:=(st.c.nk,none)::st.r,d := [],k:=st.k}
        {tmps:=(args.map (SV.den ρ β1)).toArray++Array.replicate (fn.ntmps - (args.map (SV.den ρ β1)).toArray.size) undef,defers := []} w1:=by
      have g:=hC.wf.grow hlec;refine⟨by simp,fun i hi => ?_,rfl,hB1,fun k e hk=>holdH hk,fun k k' e e' b' hx hy hbx hby => ?_,fun k e hk => ?_,fun k k' e e' hx hy he => ?_,fun b' hb' => ?_, ?_,⟨fun i => ?_,g.m,g.o,g.ap,fun k e hk => ?_,fun k hk=>(by cases hk),g.k,fun x hx=>(by cases hx)⟩,hC.kn⟩
      · simp only [zvc]at hi ⊢;cases hi2:args[i]? with
        | none=>rw [hi2]at hi;exact (hi rfl).elim
        | some v =>
          have hlt:i < args.length:=(List.getElem?_eq_some_iff.1 hi2).1;rw [Array.getElem?_append_left (by simpa using hlt)];simp [hi2]
      · rw [zuf (hC.wf.ent hx) hβ1]at hbx;rw [zuf (hC.wf.ent hy) hβ1]at hby
        exact hC.inj k k' e e' b' hx hy hbx hby
      · rw [zrb]at hk;by_cases hkk:st.c.nk=k
        · rw [if_pos hkk]at hk;cases hk;subst hkk;rw [hβk,hR1k,hrec0];exact⟨Nat.le_trans hC.below.size hll,hrec⟩
        · rw [if_neg hkk]at hk;have hlt:=hC.wf.r k e hk;rw [hβ1 k hlt,hR1 k hlt,hold _ (heap_lt (hC.lps k e hk).2)];exact hC.lps k e hk
      · rw [zrb]at hx hy;by_cases h1:st.c.nk=k <;> by_cases h2:st.c.nk=k'
        · omega
        · rw [if_neg h2]at hy;rw [← h1,hβk,hβ1 k' (hC.wf.r k' e' hy)]at he
          have:=heap_lt (hC.lps k' e' hy).2
          omega
        · rw [if_neg h1]at hx;rw [← h2,hβk,hβ1 k (hC.wf.r k e hx)]at he
          have:=heap_lt (hC.lps k e hx).2
          omega
        · rw [if_neg h1]at hx;rw [if_neg h2]at hy;rw [hβ1 k (hC.wf.r k e hx),hβ1 k' (hC.wf.r k' e' hy)]at he;exact hC.rin k k' e e' hx hy he
      · simp only [List.map_nil,List.append_nil]at hb';rcases List.mem_append.1 hb' with hb' | hb'
        · exact⟨(hC.ded b' hb').1,by rw [hold b' (hsmall b' hb')];exact (hC.ded b' hb').2⟩
        · cases hrd:rd.isSome with
          | true=>rw [hrd]at hb';simp at hb'
          | false =>
            rw [hrd]at hb';simp at hb';subst hb';exact⟨hC.below.size,(hm2 hrd).2⟩
      · simp only [List.map_nil,List.append_nil];refine List.nodup_append.2 ⟨hC.dn,by split <;> simp,fun x hx y hy => ?_⟩
        have:=hsmall x hx
        split at hy
        · cases hy
        · simp at hy;omega
      · simp only [zvc];cases hi2:args[i]? with
        | none=>rfl
        | some v=>exact List.all_eq_true.1 hargw v (List.mem_of_getElem? hi2)
      · rw [zrb]at hk;by_cases hkk:st.c.nk=k
        · simp only;omega
        · rw [if_neg hkk]at hk
          have:=hC.wf.r k e hk
          simp only;omega
    have post:∀ (s':St) (ρ':Env) (β':Nat→Nat) (a':Act) (w':World),Core W R1 (Z++st.d.map β++(if rd.isSome=true then []else [w.heap.size])) ρ' β' {s' with d := []} a' w'→({st.c with nk:=st.c.nk + 2}:Ctr).le s'.c→Env.like {st.c with nk:=st.c.nk + 2} ρ ρ'→(∀ k,k < st.c.nk + 2→β' k=β1 k) →
        (match getR s'.r st.c.nk with
          | some none=>K .normal {t:=st.t,n:=st.n,m:=s'.m,c:=s'.c,o:=s'.o,r:=delR s'.r st.c.nk,d:=if rd.isSome=true then st.d else (st.c.nk + 1)::st.d,k:=s'.k}
          | some (some .normal) => (PA G.P W Q QM QP).fail "range: busy"
          | some (some (.pan _)) => (PA G.P W Q QM QP).fail "range: panic"
          | some (some e)=>K e {t:=st.t,n:=st.n,m:=s'.m,c:=s'.c,o:=s'.o,r:=delR s'.r st.c.nk,d:=if rd.isSome=true then st.d else (st.c.nk + 1)::st.d,k:=s'.k}
          | none => (PA G.P W Q QM QP).fail "range: record") ρ' → ∃ jump w4, (Instr.endLoop l).run G.P w' = .ok jump w4 ∧ (match jump with | none => Q' .normal { a with defers := mark ++ a.defers } w4 | some c => c.wpIn (Fr r) m G.P Q' { a with defers := mark ++ a.defers } w4) := by
      intro s' ρ' β' a' w' hC' hle' hl' hb' hk;have b1:∀ k,k < st.c.nk→β' k=β k:=fun k hk=>(hb' k (by omega)).trans (hβ1 k hk);have b2:β' st.c.nk=l:=(hb' _ (by omega)).trans hβk;have b3:β' (st.c.nk + 1)=w.heap.size:=(hb' _ (by omega)).trans hβd;have hlk:Env.like st.c ρ ρ':=⟨hl'.i,hl'.b,hl'.v,hl'.p,hl'.s,hl'.l⟩;have hle2:st.c.le s'.c:=Ctr.le_trans hlec hle'
      have back:∀ (e:Option Ex) (o:Obj),getR s'.r st.c.nk=some e→Core W R Z ρ' β' {t:=st.t,n:=st.n,m:=s'.m,c:=s'.c,o:=s'.o,r:=delR s'.r st.c.nk,d:=if rd.isSome=true then st.d else (st.c.nk + 1)::st.d,k:=s'.k} {a with defers:=mark++a.defers} (w'.putObj l o):=by
        intro e o hge;obtain⟨l1,l2⟩:=hC'.lps st.c.nk e hge;rw [b2]at l1 l2;have hmd:st.d.map β'=st.d.map β:=List.map_congr_left fun k hk=>b1 k (hC.wf.d k hk)
        have hd2:(if rd.isSome=true then st.d else (st.c.nk + 1)::st.d).map β'=(if rd.isSome=true then []else [w.heap.size])++st.d.map β:=by
          split
          · simpa using hmd
          · simp only [List.map_cons,b3,hmd,List.singleton_append]
        refine⟨hC.size,fun i hi => ?_, ?_,Bel.putObj hC'.below l1 _,fun k e hg=>(hC'.mem k e hg).put (hC'.wf.ent hg) l2 _,hC'.inj,fun k x hg => ?_,fun k k' x x' hg hg' he => ?_,fun b hb => ?_, ?_,
          ⟨fun i=>SV.wf_le hle2 (hC.wf.t i),hC'.wf.m,hC'.wf.o,hC'.wf.ap,fun k x hg => ?_,fun k hk => ?_,hC'.wf.k,fun x hx=>(by cases hx)⟩,hC'.kn⟩
        · rw [show ({a with defers:=mark++a.defers}:Act).tmps=a.tmps from rfl,hC.tmps i hi];exact congrArg some (SV.den_like hlk b1 (hC.wf.t i)).symm
        · show mark++a.defers=closOf β' []++_;rw [hC.dfr,hdf0];simp only [closOf,List.map_nil,List.nil_append]
          have hmk:marksOf β st.d=marksOf β' st.d:=by
            simp only [marksOf];exact List.map_congr_left fun k hk=>by rw [b1 k (hC.wf.d k hk)]
          cases hrd:rd.isSome with
          | true=>rw [hm1 hrd,hmk];rfl
          | false=>rw [(hm2 hrd).1,hmk];simp [marksOf,b3]
        · rw [zbg]at hg;split at hg
          · cases hg
          · rename_i hkk;have hlps:=hC'.lps k x hg;refine⟨hlps.1, ?_⟩;have hne:β' k≠l:=fun he=>hkk (hC'.rin st.c.nk k e x hge hg (by rw [b2,he]));rw [World.putObj_heap_other hne,hlps.2]
            have:R1 k=R k:=if_neg (fun he=>hkk he.symm)
            rw [this]
        · rw [zbg]at hg hg';split at hg
          · cases hg
          · split at hg'
            · cases hg'
            · exact hC'.rin k k' x x' hg hg' he
        · rw [hd2]at hb
          have hmem:b∈Z++st.d.map β++(if rd.isSome=true then []else [w.heap.size]):=by
            simp only [List.mem_append]at hb ⊢;rcases hb with hb | hb | hb
            · exact .inl (.inl hb)
            · exact .inr hb
            · exact .inl (.inr hb)
          have:=hC'.ded b (by simpa using hmem)
          refine⟨this.1, ?_⟩;rw [World.putObj_heap_other fun he => ?_]
          · exact this.2
          · have h2:=this.2;rw [he,l2]at h2;cases h2
        · rw [hd2]
          have:=hC'.dn
          simp only [List.map_nil,List.append_nil]at this;obtain⟨n1,n2,n3⟩:=List.nodup_append.1 this;obtain⟨n4,n5,n6⟩:=List.nodup_append.1 n1;refine List.nodup_append.2 ⟨n4,List.nodup_append.2 ⟨n2,n5,fun x hx y hy he=>n3 y (List.mem_append.2 (.inr hy)) x hx he.symm⟩,fun x hx y hy => ?_⟩;rcases List.mem_append.1 hy with hy | hy
          · exact n3 x (List.mem_append.2 (.inl hx)) y hy
          · exact n6 x hx y hy
        · rw [zbg]at hg;split at hg
          · cases hg
          · exact hC'.wf.r k x hg
        · have hs2:st.c.nk + 2≤s'.c.nk:=hle'.k;split at hk
          · have:=hC.wf.d k hk
            simp only;omega
          · rcases List.mem_cons.1 hk with rfl | hk
            · simp only;omega
            · have:=hC.wf.d k hk
              simp only;omega
      have ends:∀ (x:Option Ex),getR s'.r st.c.nk=some x→w'.heap[l]? = some (.loop (recAt rec x)):=fun x hx=>by
        have:=(hC'.lps st.c.nk x hx).2
        rw [b2,hR1k]at this;exact this
      generalize hgr:getR s'.r st.c.nk=gr at hk;cases gr with
      | none=>exact hk.elim
      | some x =>
        have hh:=ends x hgr;cases x with
        | none =>
          refine⟨none,_,(run_endLoop (P:=G.P) hh (by simp [recAt])).trans rfl, ?_⟩;exact hn .normal _ ρ' β' _ _ hk trivial hle2 hlk b1 (back none _ hgr)
        | some e =>
          cases e with
          | normal=>exact hk.elim
          | exit id =>
            refine⟨some (.exit id),_,(run_endLoop (P:=G.P) hh (by simp [recAt])).trans rfl, ?_⟩;exact wpIn_exit (hn (.exit id) _ ρ' β' _ _ hk trivial hle2 hlk b1 (back _ _ hgr))
          | ret =>
            refine⟨some .ret,_,(run_endLoop (P:=G.P) hh (by simp [recAt])).trans rfl, ?_⟩;exact wpIn_ret (hn .ret _ ρ' β' _ _ hk trivial hle2 hlk b1 (back _ _ hgr))
          | pan i=>exact hk.elim
    refine⟨l,mark,w1,{target := .fn (.func f) (caps.map fun c=>(.pointer (some ⟨β c.1,c.2,none⟩):Value)).toArray,args := #[.func (.yield l) #[] #[]]},w1,f,(args.map (SV.den ρ β1)).toArray,w1,hent, ?_,fun f' _=>zvj r f', ?_,zsi,zhs.2 (zpg (n:=0) hfn hb ?_)⟩
    · simp only [resolve,rangeCall,eg];simp [Deferred.ofValue,Act.eval]
    · simp only [invoke];rw [hargs];exact hG.inl f hf _ w1
    refine ih none _ b _ _ ρ h R1 _ none 0 β1 _ w1 base ?_ rfl _ ?_;rotate_left
    ·
      intro e s' ρ' β' a' w' hk _ h1 h2 h3 hC';by_cases hdf:s'.df=[];rotate_left
      · rw [if_pos hdf]at hk;exact hk.elim
      rw [if_neg (by simpa using hdf)]at hk
      have fin:(match resOf G.P s' fn.results.toList with
          | some _=>match getR s'.r st.c.nk with
            | some none=>K .normal {t:=st.t,n:=st.n,m:=s'.m,c:=s'.c,o:=s'.o,r:=delR s'.r st.c.nk,d:=if rd.isSome=true then st.d else (st.c.nk + 1)::st.d,k:=s'.k}
            | some (some .normal) => (PA G.P W Q QM QP).fail "range: busy"
            | some (some (.pan _)) => (PA G.P W Q QM QP).fail "range: panic"
            | some (some e)=>K e {t:=st.t,n:=st.n,m:=s'.m,c:=s'.c,o:=s'.o,r:=delR s'.r st.c.nk,d:=if rd.isSome=true then st.d else (st.c.nk + 1)::st.d,k:=s'.k}
            | none => (PA G.P W Q QM QP).fail "range: record"
          | none => (PA G.P W Q QM QP).fail "range: results") ρ' → LeavesInM (Fr none) 0 G.P fn a'.tmps (rangePost (Fr r) m G.P l Q' { a with defers := mark ++ a.defers }) a'.defers .returning w' := by
        intro hk;generalize hr:resOf G.P s' fn.results.toList=u at hk;cases u with
        | none=>exact hk.elim
        | some vs=>exact znt hC' hdf hr fun w3 hC4 _=>post s' ρ' β' _ w3 hC4 h1 h2 h3 hk
      cases e with
      | normal=>exact fin hk
      | ret=>exact fin hk
      | exit id=>exact hk.elim
      | pan i=>exact hk.elim
    ·
      intro k args2 s K' ρ2 hy hw2 hc2 hl2 R' hR' Z' β2 a2 w2 hb2 hC2 r2 n2 next' hn'
      have hcc:st.c.le s.c:=Ctr.le_trans hlec hc2;have hlk:Env.like st.c ρ ρ2:=⟨hl2.i,hl2.b,hl2.v,hl2.p,hl2.s,hl2.l⟩;have hbk:∀ k,k < st.c.nk→β2 k=β k:=fun k hk=>(hb2 k (by simp only;omega)).trans (hβ1 k hk);have hRk:∀ k,k < st.c.nk→R' k=R k:=fun k hk=>(hR' k (by simp only;omega)).trans (hR1 k hk);have hYf:YlOk G.P W R' s.c ρ2 β2 yl:=hY.far hcc hlk hbk hRk;split at hy;rotate_left
      · exact hYf k args2 s K' ρ2 hy hw2 (Ctr.le_refl _) (Env.like_refl _ _) R' (fun _ _=>rfl) Z' β2 a2 w2 (fun _ _=>rfl) hC2 r2 n2 next' hn'
      rename_i hkk;subst hkk;split at hy;rotate_left
      · exact hy.elim
      rename_i hcond2;obtain⟨hready,hasz,hpsn⟩:=hcond2;have hl2':β2 st.c.nk=l:=(hb2 _ (by simp only;omega)).trans hβk;have hRr:R' st.c.nk=rec:=(hR' _ (by simp only;omega)).trans hR1k
      have hh:w2.heap[l]? = some (.loop rec):=by
        have:=(hC2.lps _ _ hready).2
        rw [hl2',hRr,hrec0]at this;exact this
      have hyr:=run_yield (P:=G.P) (args:=(args2.map (SV.den ρ2 β2)).toArray) hh (by rw [hrtmps.2.1];simpa using hasz);rw [hrtmps.1,hrtmps.2.1,hrtmps.2.2.1,hrtmps.2.2.2]at hyr;refine⟨l,rec.fn,_,assign,body,by rw [hl2'];exact hyr,roundIn_of_wpIn (zvj r2 _) ?_⟩
      have hfr:Core W R' (Z'++s.d.map β2) ρ2 β2 {t:=putSs st.t ps.toList args2,n:=st.n,m:=s.m,c:=s.c,o:=s.o,r:=s.r,d := [],k:=s.k}
          {tmps:=(ps.zip (args2.map (SV.den ρ2 β2)).toArray).foldl (fun (tmps:Array Value) (x:Tmp × Value)=>tmps.setIfInBounds x.1 x.2) a.tmps,defers := []} w2:=by
        have hz:(ps.zip (args2.map (SV.den ρ2 β2)).toArray).foldl (fun (tmps:Array Value) (x:Tmp × Value)=>tmps.setIfInBounds x.1 x.2) a.tmps=(ps.toList.zip (args2.map (SV.den ρ2 β2))).foldl (fun (x:Array Value) (y:Tmp × Value)=>x.setIfInBounds y.1 y.2) a.tmps:=by
          rw [← Array.foldl_toList,Array.toList_zip]
        rw [hz];refine⟨by simp only [zwn];exact hC.size,fun i hi => ?_,rfl,hC2.below,hC2.mem,hC2.inj,hC2.lps,hC2.rin,fun b hb=>hC2.ded b (by simpa using hb),by simpa using hC2.dn,⟨fun i => ?_,hC2.wf.m,hC2.wf.o,hC2.wf.ap,hC2.wf.r,fun k hk=>(by cases hk),hC2.wf.k,fun x hx=>(by cases hx)⟩,hC2.kn⟩
        · refine zsq ρ2 β2 ps.toList args2 st.t a.tmps (by simpa using hasz) (fun p hp => ?_) (fun j hj => ?_) i hi
          · rw [hC.size]
            have:=Array.all_eq_true_iff_forall_mem.1 hpsn p (Array.mem_toList_iff.1 hp)
            simpa using this
          · rw [hC.tmps j hj];exact congrArg some (SV.den_like hlk hbk (hC.wf.t j)).symm
        · exact zrt ps.toList args2 st.t hw2 (fun j=>SV.wf_le hcc (hC.wf.t j)) i
      refine ih (some st.c.nk) yl assign _ _ ρ2 hy R' (Z'++s.d.map β2) (some l) n2 β2 _ w2 hfr hYf ⟨by rw [hl2'],by have:=hc2.k;simp only at this ⊢;omega⟩ _ ?_;intro e s1 ρ3 β3 a3 w3 hk _ h1 h2 h3 hC3;cases e with
      | exit id=>exact hk.elim
      | ret=>exact hk.elim
      | pan i=>exact hk.elim
      | normal =>
        simp only at hk;split at hk;rotate_left
        · exact hk.elim
        rename_i hready3;have hkr:st.c.nk < s.c.nk:=by have:=hc2.k;simp only at this;omega
        have hl3:β3 st.c.nk=l:=(h3 _ hkr).trans hl2'
        have hh3:w3.heap[l]? = some (.loop rec):=by
          have:=(hC3.lps _ _ hready3).2
          rw [hl3,hRr,hrec0]at this;exact this
        refine⟨_,run_beginRound (P:=G.P) hh3 (by rw [← hrr]), ?_⟩;have hC4:=zrq (e':=some .normal) hC3 hready3;rw [hl3,hRr]at hC4;have hrb:recAt rec (some .normal) = {rec with state := .busy}:=by rw [← hrr];rfl
        rw [hrb]at hC4;refine ih (some st.c.nk) yl body _ _ ρ3 hk R' (Z'++s.d.map β2) (some l) n2 β3 _ _ hC4 (hYf.far h1 h2 h3 (fun _ _=>rfl)) ⟨by rw [hl3],Nat.lt_of_lt_of_le hkr h1.k⟩ _ ?_;intro e s2 ρ4 β4 a4 w4 hk4 _ g1 g2 g3 hC5;have q1:s.c.le s2.c:=Ctr.le_trans h1 g1;have q2:Env.like s.c ρ2 ρ4:=Env.like_trans h1 h2 g2;have q3:∀ k,k < s.c.nk→β4 k=β2 k:=fun k hk=>(g3 k (Nat.lt_of_lt_of_le hk h1.k)).trans (h3 k hk);split at hk4;rotate_left
        · exact hk4.elim
        rename_i hbusy;obtain⟨hbusy,hdf5⟩:=hbusy;have hl4:β4 st.c.nk=l:=(q3 _ hkr).trans hl2'
        have hh4:w4.heap[l]? = some (.loop (recAt rec (some .normal))):=by
          have:=(hC5.lps _ _ hbusy).2
          rw [hl4,hRr]at this;exact this
        have again:∀ (x:Option Ex),Core W R' Z' ρ4 β4 {t:=s.t,n:=s.n,m:=s2.m,c:=s2.c,o:=s2.o,r:=setR s2.r st.c.nk x,d:=s.d,k:=s2.k,df:=s.df} a2 (w4.putObj l (.loop (recAt rec x))):=by
          intro x;have hC6:=zrq (e':=x) (hC5.drop hdf5) hbusy;rw [hl4,hRr]at hC6;exact zti hC2 (s' := {s2 with r:=setR s2.r st.c.nk x}) hC6 q1 q2 q3
        have endr:∀ (jump:Option Code),(Instr.endRound l jump).run G.P w4=.ok (.bool jump.isNone) (w4.putObj l (.loop {rec with state:=if jump.isNone then .ready else .done,pending:=jump})):=fun jump=>by
          have:=run_endRound (P:=G.P) jump hh4
          rw [this];simp only [recAt]
        cases e with
        | normal =>
          refine⟨_,_,endr none,_,rfl, ?_⟩
          have:=hn' (.cv (.one (.bool (.lit true)))) _ ρ4 β4 _ hk4 rfl (by simp) q1 q2 q3 (again none)
          rw [← hrr]at this ⊢;exact this
        | ret =>
          refine⟨_,_,endr (some .ret),_,rfl, ?_⟩
          have:=hn' (.cv (.one (.bool (.lit false)))) _ ρ4 β4 _ hk4 rfl (by simp) q1 q2 q3 (again (some .ret))
          rw [← hrr]at this ⊢;exact this
        | pan i=>exact hk4.elim
        | exit id =>
          refine⟨_,_,endr (some (.exit id)),_,rfl, ?_⟩
          have:=hn' (.cv (.one (.bool (.lit false)))) _ ρ4 β4 _ hk4 rfl (by simp) q1 q2 q3 (again (some (.exit id)))
          rw [← hrr]at this ⊢;exact this
  | _=>exact h.elim
theorem zne{G:Cfg}(hG:G.Ok)(hD:DrawOk G W Q QM QP):∀ (n:Nat) (rd:Option Nat) (yl:Yl (Env→Prop)) (c:Code) (st:St) (K:Ex→St→Env→Prop) (ρ:Env),exec (PA G.P W Q QM QP) G n rd yl c st K ρ →
    ∀ (R:Nat→Loop) (Z:List Nat) (r:Option Nat) (m:Nat) (β:Nat→Nat) (a:Act) (w:World),Core W R Z ρ β st a w→YlOk G.P W R st.c ρ β yl→RdRel rd r st β→∀ Q':Exit→Act→World→Prop,NxtE W R Z st ρ β K Q'→c.wpIn (Fr r) m G.P Q' a w
  | 0,rd,yl,c,st,K,ρ,h,_,_,_,_,_,_,_,_,_,_,_,_=>h.elim
  | n + 1,rd,yl,c,st,K,ρ,h,R,Z,r,m,β,a,w,hC,hY,hRd,Q',hn=>by
    have ih:=zne hG hD n;have here:∀ (e:Ex),e.ok st.c→K e st ρ→Q' (e.to ρ) a w:=fun e ho hk=>hn e st ρ β a w hk ho (Ctr.le_refl _) (Env.like_refl _ _) (fun _ _=>rfl) hC;unfold exec at h;unfold condX loopX at h;rw [zgl]at h;cases c with
    | skip=>exact wpIn_skip (here .normal trivial h)
    | label l=>exact wpIn_label (here .normal trivial h)
    | ret=>exact wpIn_ret (here .ret trivial h)
    | exit id=>exact wpIn_exit (here (.exit id) trivial h)
    | region id ops draw =>
      have nx:Nxt W R Z st ρ β (K .normal) (Q' .normal):=fun s ρ2 β2 a2 w2 hk h1 h2 h3 hC2=>hn .normal s ρ2 β2 a2 w2 hk trivial h1 h2 h3 hC2
      have hI0:InlOk G W R Z st.c ρ β Q' (fun f args s K'=>match G.P.funcs[f]? with
          | none => (PA G.P W Q QM QP).fail "inline: no such function"
          | some fn=>match fn.body with
            | none => (PA G.P W Q QM QP).fail "inline: no body"
            | some b =>
              exec (PA G.P W Q QM QP) G n none yl b {t:=(List.range args.length).zip args,n:=args.length + (fn.ntmps - args.length),m:=s.m,c:=s.c,o:=s.o,r:=s.r,d := [],k:=s.k} fun e s' =>
                leave (PA G.P W Q QM QP) G (exec (PA G.P W Q QM QP) G n none yl) fn e s' (fun v s2=>K' v (St.prune s.c.nk v {t:=s.t,n:=s.n,m:=s2.m,c:=s2.c,o:=s2.o,r:=s2.r,d:=s.d,k:=s2.k,df:=s.df}))
                  fun i s2=>K (.pan i) {t:=s.t,n:=s.n,m:=s2.m,c:=s2.c,o:=s2.o,r:=s2.r,d:=s.d,k:=s2.k,df:=s.df}):=by
        intro f args s K' ρ1 hi hw hc0 hl0 β1 a1 w1 hb1 hC1 next' hn'
        generalize hf:G.P.funcs[f]? = u at hi;cases u with
        | none=>exact hi.elim
        | some fn =>
          simp only at hi;generalize hb:fn.body=u at hi;cases u with
          | none=>exact hi.elim
          | some b =>
            refine zpg (n:=0) hf hb ?_;refine ih none yl b _ _ ρ1 hi R (Z++s.d.map β1) none 0 β1 _ w1 (zvn (n:=fn.ntmps) hC1 hw) (hY.far hc0 hl0 hb1 (fun _ _=>rfl)) rfl _ ?_;intro e s' ρ' β' a' w' hk hok h1 h2 h3 hC3
            have fin:=zth (Z:=Z++s.d.map β1) hG (c0:=st.c) (ρ0:=ρ) (β0:=β) (fun c st2 K2 ρ2 hx g1 g2 m2 β2 a2 w2 g3 g4 Q2 g5=>ih none yl c st2 K2 ρ2 hx R _ none m2 β2 a2 w2 g4 (hY.far g1 g2 g3 (fun _ _=>rfl)) rfl Q2 g5) hk (Ctr.le_trans hc0 h1) (Env.like_trans hc0 hl0 h2)
              (fun k hk=>(h3 k (Nat.lt_of_lt_of_le hk hc0.k)).trans (hb1 k hk)) hC3 hok 0 (T:=fun e w'=>match e with
                | .returned v=>next' v w'
                | .panicked ch=>Q' (.panic ch) a1 w'
                | .outgrown=>False)
              (fun v s2 ρ2 β2 w2 hk2 hwv hva q1 q2 q3 hC4=>by
                have hcb:=zti hC1 hC4 (Ctr.le_trans h1 q1) (Env.like_trans h1 h2 q2) (fun k hk=>(q3 k (Nat.lt_of_lt_of_le hk h1.k)).trans (h3 k hk));have hcp:=hcb.prune s.c.nk v;exact hn' v _ ρ2 β2 w2 hk2 (by rw [St.prune_c];exact hwv) hva (by rw [St.prune_c];exact Ctr.le_trans h1 q1) (Env.like_trans h1 h2 q2) (fun k hk=>(q3 k (Nat.lt_of_lt_of_le hk h1.k)).trans (h3 k hk)) hcp)
              (fun i s2 ρ2 β2 w2 hk2 hi2 q1 q2 q3 hC4=>by
                have l1:s.c.le s2.c:=Ctr.le_trans h1 q1;have l2:Env.like s.c ρ1 ρ2:=Env.like_trans h1 h2 q2;have l3:∀ k,k < s.c.nk→β2 k=β1 k:=fun k hk=>(q3 k (Nat.lt_of_lt_of_le hk h1.k)).trans (h3 k hk);exact hn (.pan i) _ ρ2 β2 a1 w2 hk2 hi2 (Ctr.le_trans hc0 l1) (Env.like_trans hc0 hl0 l2) (fun k hk=>(l3 k (Nat.lt_of_lt_of_le hk hc0.k)).trans (hb1 k hk)) (zti hC1 hC4 l1 l2 l3))
            cases e with
            | exit id=>exact (fin.1 id rfl).elim
            | normal=>exact fin.2
            | ret=>exact fin.2
            | pan i=>exact fin.2
      have hI:InlOk G W R Z st.c ρ β Q' (inlY (PA G.P W Q QM QP) G n (exec (PA G.P W Q QM QP) G n) yl K):=by
        intro f args s K' ρ1 hi;refine hI0 f args s K' ρ1 ?_
        have hi:inlX (PA G.P W Q QM QP) G (exec (PA G.P W Q QM QP) G n) yl K f args s K' ρ1:=by
          unfold inlY at hi;generalize hsu:G.sums=sl at hi;cases sl with
          | nil =>
            simp only at hi;generalize G.marks=ml at hi;cases ml with
            | nil=>exact hi
            | cons x ml =>
              simp only at hi;generalize (x::ml).contains f=b at hi;cases b with
              | true=>exact hi
              | false=>exact hi
          | cons x sl =>
            simp only at hi;generalize hfs:findSum n f args s (x::sl)=u at hi;cases u with
            | none=>exact hi
            | some e =>
              obtain⟨h1,rfl,rfl,rfl,rfl⟩:=zof hfs;rw [hG.sums e (hsu▸h1)];exact hi
        unfold inlX at hi;simp only [zhy,St.norm_eq]at hi;exact hi
      have hP:PanOk W R Z st.c ρ β Q' (fun i s=>K (.pan i) s):=fun i s ρ2 hk hi h1 h2 β2 a2 w2 h3 hC2=>hn (.pan i) s ρ2 β2 a2 w2 hk hi h1 h2 h3 hC2
      have hdok:rd.isNone=true→r=none:=fun h=>by
        cases rd with
        | none=>exact hRd
        | some k=>cases h
      cases draw with
      | true=>exact hD R Z r m _ yl _ _ id ops st _ ρ h β a w hC Q' hI hY hdok hP _ (fun _ _ q=>q) nx
      | false=>exact wpIn_region_list (zqh (zrh hG hI hY hdok hP) ops.toList st ρ h (Ctr.le_refl _) (Env.like_refl _ _) β a w (fun _ _=>rfl) hC _ (fun _ _ q=>q) nx)
    | seq x y =>
      refine wpIn_seq (ih rd yl x st _ ρ h R Z r m β a w hC hY hRd _ ?_);intro e s ρ2 β2 a2 w2 hk ho h1 h2 h3 hC2;cases e with
      | normal=>exact ih rd yl y s K ρ2 hk R Z r m β2 a2 w2 hC2 (hY.far h1 h2 h3 (fun _ _=>rfl)) (hRd.far h1 h3) Q' (hn.far h1 h2 h3)
      | exit id=>exact hn (.exit id) s ρ2 β2 a2 w2 hk ho h1 h2 h3 hC2
      | ret=>exact hn .ret s ρ2 β2 a2 w2 hk ho h1 h2 h3 hC2
      | pan i=>exact hn (.pan i) s ρ2 β2 a2 w2 hk ho h1 h2 h3 hC2
    | cond o x y =>
      cases o with
      | tmp d =>
        simp only at h;generalize hg:getS st.t d=sv at h;split at h
        · rename_i e;split at h
          · rename_i hd
            have he:a.eval (.tmp d)=.bool (e.den ρ):=by
              have:=hC.eval (.tmp d) (by show getS st.t d≠_;rw [hg];simp)
              rw [this];show (getS st.t d).den ρ β=_;rw [hg];rfl
            rcases zaa h with ⟨hb,h⟩ | ⟨hb,h⟩ <;> rw [St.norm_eq]at h
            · exact wpIn_cond_true (by rw [he,hb]) (ih rd yl x _ K ρ h R Z r m β a w (hC.know hg hb) hY hRd Q' (hn.st rfl))
            · exact wpIn_cond_false (by rw [he,hb]) (ih rd yl y _ K ρ h R Z r m β a w (hC.know hg hb) hY hRd Q' (hn.st rfl))
          · exact h.elim
        · exact h.elim
      | const v =>
        cases v with
        | bool t =>
          cases t with
          | true=>exact wpIn_cond_true rfl (ih rd yl x st K ρ h R Z r m β a w hC hY hRd Q' hn)
          | false=>exact wpIn_cond_false rfl (ih rd yl y st K ρ h R Z r m β a w hC hY hRd Q' hn)
        | _=>exact h.elim
      | _=>exact h.elim
    | block id b =>
      refine wpIn_block (ih rd yl b st _ ρ h R Z r m β a w hC hY hRd _ ?_);intro e s ρ2 β2 a2 w2 hk ho h1 h2 h3 hC2;cases e with
      | normal=>exact hn .normal s ρ2 β2 a2 w2 hk ho h1 h2 h3 hC2
      | ret=>exact hn .ret s ρ2 β2 a2 w2 hk ho h1 h2 h3 hC2
      | pan i=>exact hn (.pan i) s ρ2 β2 a2 w2 hk ho h1 h2 h3 hC2
      | exit i =>
        simp only at hk;simp only [Ex.to,Exit.inBlock];by_cases hi:i=id
        · rw [if_pos hi]at hk ⊢;exact hn .normal s ρ2 β2 a2 w2 hk trivial h1 h2 h3 hC2
        · rw [if_neg hi]at hk ⊢;exact hn (.exit i) s ρ2 β2 a2 w2 hk trivial h1 h2 h3 hC2
    | scope b =>
      simp only at h;split at h
      · rename_i hrd;subst hrd;have hr:r=none:=hRd;subst hr;refine wpIn_wide.2 (wp_scope_straight (wpIn_wide (n:=m).1 (ih none yl b st _ ρ h R Z none m β a w hC hY rfl _ ?_)));intro e s ρ2 β2 a2 w2 hk ho h1 h2 h3 hC2
        have:=hn e s ρ2 β2 a2 w2 hk ho h1 h2 h3 hC2
        cases e <;> exact this
      · exact h.elim
    | loop b =>
      have plain:unroll (PA G.P W Q QM QP) (exec (PA G.P W Q QM QP) G n rd yl b) K n st ρ→(Code.loop b).wpIn (Fr r) m G.P Q' a w:=by
        intro h;refine wpIn_loop_rounds n ?_
        have key:∀ (j:Nat) (st:St) (ρ:Env) (β:Nat→Nat) (a:Act) (w:World),unroll (PA G.P W Q QM QP) (exec (PA G.P W Q QM QP) G n rd yl b) K j st ρ→Core W R Z ρ β st a w→YlOk G.P W R st.c ρ β yl→RdRel rd r st β→NxtE W R Z st ρ β K Q'→Code.roundsIn (Fr r) m G.P b Q' j a w:=by
          intro j
          induction j with
          | zero=>intro st ρ β a w h _ _ _ _;exact h.elim
          | succ j ihj =>
            intro st ρ β a w h hC hY hRd hn;refine ih rd yl b st _ ρ h R Z r m β a w hC hY hRd _ ?_;intro e s ρ2 β2 a2 w2 hk ho h1 h2 h3 hC2;cases e with
            | normal =>
              simp only [St.slim_eq]at hk;exact ihj _ ρ2 β2 a2 w2 hk hC2.slim (hY.far h1 h2 h3 (fun _ _=>rfl)) (hRd.far h1 h3) (hn.far h1 h2 h3)
            | exit id=>exact hn (.exit id) s ρ2 β2 a2 w2 hk ho h1 h2 h3 hC2
            | ret=>exact hn .ret s ρ2 β2 a2 w2 hk ho h1 h2 h3 hC2
            | pan i=>exact hn (.pan i) s ρ2 β2 a2 w2 hk ho h1 h2 h3 hC2
        exact key n st ρ β a w h hC hY hRd hn
      simp only at h;generalize hh:(G.loops.lookup (keyOf b)).bind (LH.parts st.m)=hint at h;split at h
      · rename_i blks cells slots kill;generalize hca:cellsAt st cells=u1 at h;generalize hvs:readS st.t slots=u2 at h;split at h
        · rename_i fc vs;generalize hfree:blks++fc=free at h;generalize hms:readM st.m st.o free=u3 at h;split at h
          · exact h.elim
          · rename_i ms;generalize hks:kindsOf st.o (vs.flatMap CV.cells++ms)=u4 at h;split at h
            · exact h.elim
            · rename_i ks;split at h;rotate_left
              · exact h.elim
              rename_i hnd0;obtain⟨Inv,μ,h0,hall⟩:=h;have hle:=zeb ks st.c
              have hfoid:∀ {k},getO (delOs st.o (ownIds (vs.flatMap CV.cells++ms))) k≠none→k < st.c.nk:=fun {k} hk=>by
                rw [zqb]at hk;split at hk
                · exact (hk rfl).elim
                · cases hg:getO st.o k with
                  | none=>exact (hk hg).elim
                  | some x=>have:=(hC.wf.o k x.1 x.2.1 x.2.2 hg).1;omega
              generalize hprs:((ownIds (freshL st.c ks)).zip (ownIds (vs.flatMap CV.cells++ms))).filter (fun p=>(keepIds G st (keyOf b)).contains p.2 || isMap st.o p.2)=prs at hall
              have foid:∀ {k},getO (freshO st.c ks) k≠none→st.c.nk≤k:=fun {k} hk=>by
                cases hg:getO (freshO st.c ks) k with
                | none=>exact (hk hg).elim
                | some y=>exact (zdd ks st.c hg).1
              have prsm:∀ p∈prs,p∈(ownIds (freshL st.c ks)).zip (ownIds (vs.flatMap CV.cells++ms)):=fun p hp=>by
                rw [← hprs]at hp;exact (List.mem_filter.1 hp).1
              have prnd:(prs.map (·.2)).Nodup:=by
                rw [← hprs]
                have sub:∀ (l:List (Nat × Nat)) (f:Nat × Nat→Bool),(l.map (·.2)).Nodup→((l.filter f).map (·.2)).Nodup:=by
                  intro l f h;exact (List.Sublist.map _ (List.filter_sublist)).nodup h
                refine sub _ _ ?_
                have zs:∀ (x y:List Nat),y.Nodup→((x.zip y).map (·.2)).Nodup:=by
                  intro x
                  induction x with
                  | nil=>intro y _;simp
                  | cons a x ihx =>
                    intro y hy;cases y with
                    | nil=>simp
                    | cons b y =>
                      simp only [List.nodup_cons]at hy;simp only [List.zip_cons_cons,List.map_cons,List.nodup_cons];refine⟨fun hm => ?_,ihx y hy.2⟩;obtain⟨q,hq,he⟩:=List.mem_map.1 hm;exact hy.1 (he▸(List.of_mem_zip hq).2)
                exact zs _ _ hnd0
              have mnone:∀ {k},getM st.m k=none→getM (writeM st.m free ((freshL st.c ks).drop (vs.flatMap CV.cells).length)) k=none:=fun {k} hk=>by
                cases hg:getM (writeM st.m free ((freshL st.c ks).drop (vs.flatMap CV.cells).length)) k with
                | none=>rfl
                | some x =>
                  obtain⟨cs0,h1,_,_⟩:=zqa free st.m _ (show _=some (x.1,x.2) from hg);rw [hk]at h1;cases h1
              have stat:∀ p∈prs,st.c.nk≤p.1∧p.2 + 3 < st.c.nk∧getM st.m p.2=none∧getO (freshO st.c ks++delOs st.o (ownIds (vs.flatMap CV.cells++ms))) p.2=none:=fun p hp=>by
                obtain⟨ρx,βx,_,_,_,_,_,_,q7,q8,_⟩:=zzf (freshO st.c ks) st.o ρ β ks st.c β _ (fun _ _ h=>h) hall hks;obtain⟨_,n0,ce,sz,t,_,g2,_⟩:=q7 p (prsm p hp);have g3:=hC.wf.o p.2 ce sz t g2;refine⟨q8 p.1 (List.of_mem_zip (prsm p hp)).1,g3.1,hC.wf.ap p.2 _ g2, ?_⟩;simp only [zrg];cases hg:getO (freshO st.c ks) p.2 with
                | some y=>have:=foid (k:=p.2) (by rw [hg];simp);omega
                | none =>
                  simp only;rw [zqb,if_pos (List.of_mem_zip (prsm p hp)).2]
              have renC:∀ {ρn:Env} {βn:Nat→Nat} {a1:Act} {w1:World},Core W R Z ρn βn {t:=writeS (killS st.t kill) slots vs (freshL st.c ks),n:=st.n,m:=writeM st.m free ((freshL st.c ks).drop (vs.flatMap CV.cells).length),c:=freshLC st.c ks,o:=freshO st.c ks++delOs st.o (ownIds (vs.flatMap CV.cells++ms)),r:=st.r,d:=st.d,k:=st.k,df:=st.df} a1 w1 →
                  (∀ p∈prs,βn p.1=βn p.2∧βn (p.1 + 1)=βn (p.2 + 1)∧βn (p.1 + 2)=βn (p.2 + 2)∧βn (p.1 + 3)=βn (p.2 + 3)) →
                  Core W R Z ρn βn (renS prs {t:=writeS (killS st.t kill) slots vs (freshL st.c ks),n:=st.n,m:=writeM st.m free ((freshL st.c ks).drop (vs.flatMap CV.cells).length),c:=freshLC st.c ks,o:=freshO st.c ks++delOs st.o (ownIds (vs.flatMap CV.cells++ms)),r:=st.r,d:=st.d,k:=st.k,df:=st.df}) a1 w1:=fun hc hb =>
                zoq prs hc (fun p hp=>by
                  obtain⟨s1,s2,s3,s4⟩:=stat p hp;exact⟨by omega,hb p hp,mnone s3,s4,Nat.lt_of_lt_of_le s2 hle.k⟩) prnd
              obtain⟨f1,f2,f3,f4,f5,f6,f7⟩:=zhm prs {t:=writeS (killS st.t kill) slots vs (freshL st.c ks),n:=st.n,m:=writeM st.m free ((freshL st.c ks).drop (vs.flatMap CV.cells).length),c:=freshLC st.c ks,o:=freshO st.c ks++delOs st.o (ownIds (vs.flatMap CV.cells++ms)),r:=st.r,d:=st.d,k:=st.k,df:=st.df}
              have fS:∀ i,i ∉ slots→getS (renS prs {t:=writeS (killS st.t kill) slots vs (freshL st.c ks),n:=st.n,m:=writeM st.m free ((freshL st.c ks).drop (vs.flatMap CV.cells).length),c:=freshLC st.c ks,o:=freshO st.c ks++delOs st.o (ownIds (vs.flatMap CV.cells++ms)),r:=st.r,d:=st.d,k:=st.k,df:=st.df}).t i=getS (writeS (killS st.t kill) slots vs (freshL st.c ks)) i:=fun i hi=>by
                refine zpq prs _ fun p hp he => ?_;have he':getS (writeS (killS st.t kill) slots vs (freshL st.c ks)) i=.cv (.one (.own p.1)):=he;rw [zwc _ _ _ _ hi]at he'
                have hw:(getS (killS st.t kill) i).wf st.c=true:=by
                  rcases zui st.t i kill with h | h <;> rw [h]
                  · rfl
                  · exact hC.wf.t i
                rw [he']at hw;have hw':(decide (p.1 + 3 < st.c.nk))=true:=hw
                have:=(stat p hp).1
                simp only [decide_eq_true_eq]at hw';omega
              have fO:∀ {k x},getO (delOs st.o (ownIds (vs.flatMap CV.cells++ms))) k=some x→getO (renS prs {t:=writeS (killS st.t kill) slots vs (freshL st.c ks),n:=st.n,m:=writeM st.m free ((freshL st.c ks).drop (vs.flatMap CV.cells).length),c:=freshLC st.c ks,o:=freshO st.c ks++delOs st.o (ownIds (vs.flatMap CV.cells++ms)),r:=st.r,d:=st.d,k:=st.k,df:=st.df}).o k=some x∧k ∉ prs.map (·.2):=fun {k x} hx=>by
                have hlt2:=hfoid (k:=k) (by rw [hx];simp)
                have nk2:∀ p∈prs,k≠p.1∧k≠p.2:=fun p hp=>by
                  obtain⟨s1,s2,s3,s4⟩:=stat p hp;refine⟨by omega,fun e => ?_⟩;subst e;rw [zqb,if_pos (List.of_mem_zip (prsm p hp)).2]at hx;cases hx
                refine⟨?_,fun hm => ?_⟩
                · rw [zqq prs _ (fun p hp => ?_) prnd]
                  · simp only [zrg];cases hg:getO (freshO st.c ks) k with
                    | none=>exact hx
                    | some y=>have:=foid (k:=k) (by rw [hg];simp);omega
                  · obtain⟨s1,s2,s3,s4⟩:=stat p hp;exact⟨by omega,s4,nk2 p hp⟩
                · obtain⟨p,hp,he⟩:=List.mem_map.1 hm;exact (nk2 p hp).2 he.symm
              generalize hst1:renS prs {t:=writeS (killS st.t kill) slots vs (freshL st.c ks),n:=st.n,m:=writeM st.m free ((freshL st.c ks).drop (vs.flatMap CV.cells).length),c:=freshLC st.c ks,o:=freshO st.c ks++delOs st.o (ownIds (vs.flatMap CV.cells++ms)),r:=st.r,d:=st.d,k:=st.k,df:=st.df}=st1 at hall renC fS fO f1 f2 f3 f4 f5 f6 f7
              refine wpIn_loop_ghost (fun k a w=>∃ ρh βh,Inv ((freshL st.c ks).map (vl (freshO st.c ks) ρh))∧μ ((freshL st.c ks).map (vl (freshO st.c ks) ρh))=k∧Env.like st.c ρ ρh∧(∀ j,j < st.c.nk→βh j=β j) ∧
                Core W R Z ρh βh st1 a w ∧
                exec (PA G.P W Q QM QP) G n rd yl b st1 (fun e s=>match e with
                  | .normal=>match readS s.t slots,readM s.m s.o free with
                    | some vs',some ms' =>
                      if sameSt st1 s slots free ((freshO st.c ks).map (·.1)++prs.map (·.2))=true∧((ownIds (freshL st.c ks)).zip (ownIds (vs'.flatMap CV.cells++ms'))).all (fun p=>prs.all fun q=>q.1 != p.1 || q.2 == p.2)=true∧vs'.map CV.shape=vs.map CV.shape∧kindsOf s.o (vs'.flatMap CV.cells++ms')=some ks∧(ownIds (vs'.flatMap CV.cells++ms')).Nodup ∧
                          (ownIds (vs'.flatMap CV.cells++ms')).all (fun k=>(freshO st.c ks).any (fun x=>x.1 == k) || (delOs st.o (ownIds (vs.flatMap CV.cells++ms))).all fun x=>x.1 != k)=true then
                        (fun ρ''=>Inv ((vs'.flatMap CV.cells++ms').map (vl s.o ρ''))∧μ ((vs'.flatMap CV.cells++ms').map (vl s.o ρ'')) < μ ((freshL st.c ks).map (vl (freshO st.c ks) ρh)))
                      else (PA G.P W Q QM QP).fail "loop: not the same"
                    | _, _ => (PA G.P W Q QM QP).fail "loop: values"
                  | e=>K e s) ρh) (μ ((vs.flatMap CV.cells++ms).map (vl st.o ρ))) ?_ ?_
              · obtain⟨ρh,βh,q1,q2,q3,q4,q5,q6,q7,q8,q9⟩:=zzf (freshO st.c ks) st.o ρ β ks st.c β _ (fun _ _ h=>h) hall hks;refine⟨ρh,βh,by rw [q5];exact h0,by rw [q5],q2,q3,renC ?_ (fun p hp => ?_),q1 (by rw [q5];exact h0)⟩;rotate_left
                · obtain⟨⟨g0,g1,g2,g3⟩,_⟩:=q7 p (prsm p hp);have s2:=(stat p hp).2.1;rw [g0,g1,g2,g3,q3 _ (by omega),q3 _ (by omega),q3 _ (by omega),q3 _ (by omega)];exact⟨rfl,rfl,rfl,rfl⟩
                refine zlw hC.wf hC.kn hC (Env.like_refl _ _) q2 q3 hvs hvs rfl hms q4 ⟨rfl,rfl,rfl,rfl⟩ (fun i hi => ?_) (fun k cs1 t hg => ?_) q6 q7 hnd0 (fun k x hx => ?_) (fun k hk => ?_)
                · rw [zwc _ _ _ _ hi];rcases zui st.t i kill with h | h
                  · exact .inl h
                  · exact .inr h.symm
                · obtain⟨cs0,p1,p2,p3⟩:=zqa free st.m _ hg;exact⟨cs0,p1,p2,p3⟩
                · rw [zqb]at hx;split at hx
                  · cases hx
                  · exact hx
                · rw [zqb,if_pos hk]
              · intro k a1 w1 hI;obtain⟨ρh,βh,hinv,hmu,hlh,hbh,hCh,hex⟩:=hI;have hle1:st.c.le st1.c:=by rw [f2];exact hle
                refine ih rd yl b _ _ ρh hex R Z r m βh a1 w1 hCh (hY.far hle1 hlh hbh (fun _ _=>rfl)) (hRd.far hle1 hbh) _ ?_;intro e s ρ2 β2 a2 w2 hk ho h1 h2 h3 hC2;have l2:Env.like st.c ρ ρ2:=Env.like_trans hle1 hlh h2;have b2:∀ j,j < st.c.nk→β2 j=β j:=fun j hj=>(h3 j (Nat.lt_of_lt_of_le hj hle1.k)).trans (hbh j hj);cases e with
                | exit id=>exact hn (.exit id) s ρ2 β2 a2 w2 hk ho (Ctr.le_trans hle1 h1) l2 b2 hC2
                | ret=>exact hn .ret s ρ2 β2 a2 w2 hk ho (Ctr.le_trans hle1 h1) l2 b2 hC2
                | pan i=>exact hn (.pan i) s ρ2 β2 a2 w2 hk ho (Ctr.le_trans hle1 h1) l2 b2 hC2
                | normal =>
                  simp only at hk;generalize hv':readS s.t slots=u5 at hk;generalize hm':readM s.m s.o free=u6 at hk;split at hk
                  · rename_i vs' ms';split at hk
                    · rename_i hcond;obtain⟨c1,ckp,c2,c3,c4,c5⟩:=hcond;obtain⟨hi2,hlt⟩:=hk;obtain⟨s1,s2,s3,s4⟩:=zmq c1;rw [f3,f4,f5,f7]at s1;rw [f1]at s3;obtain⟨ρn,βn,q1,q2,q3,q4,q5,q6,q7,q8,q9⟩:=zzf (freshO st.c ks) s.o ρ2 β2 ks st.c β2 _ (fun _ _ h=>h) hall c3;refine⟨μ ((vs'.flatMap CV.cells++ms').map (vl s.o ρ2)),hmu▸hlt,ρn,βn,by rw [q5];exact hi2,by rw [q5],q2,fun j hj=>(q3 j hj).trans (b2 j hj),renC ?_ (fun p hp => ?_),q1 (by rw [q5];exact hi2)⟩;rotate_left
                      · obtain⟨y,hy⟩:=zks _ _ q6 p.1 (List.of_mem_zip (prsm p hp)).1
                        have hyp:p.2=y:=by
                          have h7:=List.all_eq_true.1 (List.all_eq_true.1 ckp (p.1,y) hy) p hp;simpa using h7
                        subst hyp;obtain⟨⟨g0,g1,g2,g3⟩,_⟩:=q7 _ hy;simp only at g0 g1 g2 g3;have s2:=(stat p hp).2.1;rw [g0,g1,g2,g3,q3 _ (by omega),q3 _ (by omega),q3 _ (by omega),q3 _ (by omega)];exact⟨rfl,rfl,rfl,rfl⟩
                      refine zlw hC.wf hC.kn hC2 l2 q2 q3 hvs hv' c2 hm' q4 s1 (fun i hi => ?_) s3 q6 q7 c4 (fun k x hx => ?_) (fun k hk => ?_)
                      · rw [← fS i hi];exact s2 i hi
                      · obtain⟨g1,g2⟩:=fO hx;have hlt2:=hfoid (k:=k) (by rw [hx];simp);refine s4 k x g1 fun hmem => ?_;rcases List.mem_append.1 hmem with hmem | hmem;rotate_left
                        · exact g2 hmem
                        obtain⟨y,hy,rfl⟩:=List.mem_map.1 hmem
                        have:∀ (l:List CK) (c:Ctr),(∀ y∈freshO c l,c.nk≤y.1):=by
                          intro l
                          induction l with
                          | nil=>intro c y hy;cases hy
                          | cons kd l ih =>
                            intro c y hy;have tl:y∈freshO (freshC c kd) l→c.nk≤y.1:=fun hy=>Nat.le_trans (zfm c kd) (ih _ y hy)
                            cases kd <;> first
                              | exact tl hy
                              | skip
                            simp only [freshO,List.mem_cons]at hy;rcases hy with rfl | hy
                            · exact Nat.le_refl _
                            · exact tl hy
                        have:=this ks st.c y hy
                        omega
                      · have:=List.all_eq_true.1 c5 k hk
                        simp only [Bool.or_eq_true,List.any_eq_true,beq_iff_eq,List.all_eq_true,bne_iff_ne,ne_eq]at this;rcases this with ⟨y,hy,he⟩ | h
                        · cases hg:getO (delOs st.o (ownIds (vs.flatMap CV.cells++ms))) k with
                          | none=>rfl
                          | some x =>
                            have h5:=hfoid (k:=k) (by rw [hg];simp)
                            have:∀ (l:List CK) (c:Ctr),(∀ y∈freshO c l,c.nk≤y.1):=by
                              intro l
                              induction l with
                              | nil=>intro c y hy;cases hy
                              | cons kd l ih =>
                                intro c y hy;have tl:y∈freshO (freshC c kd) l→c.nk≤y.1:=fun hy=>Nat.le_trans (zfm c kd) (ih _ y hy)
                                cases kd <;> first
                                  | exact tl hy
                                  | skip
                                simp only [freshO,List.mem_cons]at hy;rcases hy with rfl | hy
                                · exact Nat.le_refl _
                                · exact tl hy
                            have:=this ks st.c y hy
                            omega
                        · cases hg:getO (delOs st.o (ownIds (vs.flatMap CV.cells++ms))) k with
                          | none=>rfl
                          | some x=>exact (h _ (ztk hg) rfl).elim
                    · exact hk.elim
                  · exact hk.elim
        · exact h.elim
      · exact plain h
    | rangeFunc g ps assign body=>exact zls hG ih (show exec (PA G.P W Q QM QP) G (n + 1) rd yl (.rangeFunc g ps assign body) st K ρ by unfold exec;unfold condX loopX;rw [zgl];exact h) hC hY hRd hn
    | _=>exact h.elim
end Vc
set_option linter.unusedVariables false
namespace Vc
open Go Go.RowKit
variable {P:Program} {W:Wld} {Q:Value→Prop} {QM QP:World→Value→Prop}
inductive Knw(ρ:Env)(s:St):St→Prop
 | refl:Knw ρ s s
 | know (x:Nat) (b:Bool) (e:BE) (h:getS s.t x=.cv (.one (.bool e))) (hb:e.den ρ=b):Knw ρ s (s.know x b)
def Wants(ops:Array Oper)(ρ:Env)(s:St)(o:Oper)(b:Bool):Prop :=
 match o.guard with
 | none=>b=true
 | some (j,want)=>∃ x,(ops[j]?).bind (·.dst)=some x∧((∃ e,getS s.t x=.cv (.one (.bool e))∧(e.den ρ == want)=b)∨(getS s.t x=.und∧b=false))
structure Stp(s1:St)(o:Oper)(s':St)(sv:SV)(C:List Nat):Prop where
 n:s'.n=s1.n
 rs:s'.r=s1.r
 ds:s'.d=s1.d
 cle:s1.c.le s'.c
 wf:s'.WF
 slot:∀ t,getS s'.t t=if o.dst=some t then sv else getS s1.t t
 dst:∀ d,o.dst=some d→d < s1.n
 lt:∀ k∈C,k < s1.c.nk
 same:∀ k,k < s1.c.nk→k ∉ C→getE s'.m s'.o k=getE s1.m s1.o k
 dfs:s'.df=s1.df
theorem OFact.stp{s1 s':St}{o:Oper}{ρ:Env}{sv:SV}{C:List Nat}(h:OFact P W s1 o ρ s' sv C):Stp s1 o s' sv C :=
 ⟨h.n,h.rs,h.ds,h.cle,h.wf,h.slot,h.dst,fun k hk=>(h.chg k hk).2,h.same,h.dfs⟩
theorem zst{s1:St}{o:Oper}(hw:s1.WF)(hp:PutOk s1 o.dst .und s1.c):Stp s1 o (s1.putS o.dst .und s1.c) .und []:=by
 obtain⟨q1,q2,q3,q4,q5,q6⟩:=zfa s1 o.dst .und s1.c;exact⟨q3,q5,q6,by rw [q1];exact Ctr.le_refl _,ztl hw (Ctr.le_refl _) hp,fun t=>zt _ _ _ _ t,fun d hd=>(hp d hd).1,fun k hk=>(by cases hk),fun k _ _=>(by rw [q2,q4]),(zr _ _ _ _).2⟩
inductive Fct(P:Program)(W:Wld)(ops:Array Oper)(ρ:Env)(old:Nat→Prop)(i:Nat)(rd wr:List (Nat × Nat))(s:St)(o:Oper):St→SV→List Nat→Prop
 | skip (s1:St) (k:Knw ρ s s1) (w:Wants ops ρ s o false) (p:PutOk s1 o.dst .und s1.c):Fct P W ops ρ old i rd wr s o (s1.putS o.dst .und s1.c) .und []
 | run (s1 s':St) (sv:SV) (C:List Nat) (k:Knw ρ s s1) (w:Wants ops ρ s o true) (nd:∀ c,o.op ≠ .defer c) (f:OFact P W s1 o ρ s' sv C) (h1:∀ k∈readsOf s1 o++writesOf s1 o++valIds s1 o,old k) (h2:∀ x,o.dst=some x→∀ k∈svIds sv,old k)
   (h4:∀ k∈readsOf s1 o,(k,i)∈rd) (h5:∀ k∈writesOf s1 o,(k,i)∈wr):Fct P W ops ρ old i rd wr s o s' sv C
theorem Knw.c{ρ:Env}{s s1:St}(h:Knw ρ s s1):s1.c=s.c∧s1.m=s.m∧s1.n=s.n∧s1.o=s.o∧s1.r=s.r∧s1.d=s.d:=by cases h <;> exact⟨rfl,rfl,rfl,rfl,rfl,rfl⟩
theorem Knw.k{ρ:Env}{s s1:St}(h:Knw ρ s s1):s1.k=s.k∧s1.df=s.df:=by cases h <;> exact⟨rfl,rfl⟩
theorem Fct.kn{ops:Array Oper}{ρ:Env}{old:Nat→Prop}{i:Nat}{rd wr:List (Nat × Nat)}{s s':St}{o:Oper}{sv:SV}{C:List Nat}(h:Fct P W ops ρ old i rd wr s o s' sv C)(hk:KnL.den s.k ρ):KnL.den s'.k ρ:=by
 cases h with
 | skip s1 k w p=>rw [(zr _ _ _ _).1,k.k.1];exact hk
 | run s1 _ _ _ k w nd f=>exact f.kn (by rw [k.k.1];exact hk)
theorem Knw.wf{ρ:Env}{s s1:St}(h:Knw ρ s s1)(hw:s.WF):s1.WF:=by
  cases h with
  | refl=>exact hw
  | know x b e h hb =>
    refine⟨fun i => ?_,hw.m,hw.o,hw.ap,hw.r,hw.d,hw.k,hw.df⟩;simp only [St.know,zq];by_cases hi:x=i
    · rw [if_pos hi];rfl
    · rw [if_neg hi];exact hw.t i
theorem Fct.stp{ops:Array Oper}{ρ:Env}{old:Nat→Prop}{i:Nat}{rd wr:List (Nat × Nat)}{s s':St}{o:Oper}{sv:SV}{C:List Nat}(hw:s.WF)(h:Fct P W ops ρ old i rd wr s o s' sv C):∃ s1,Knw ρ s s1∧Stp s1 o s' sv C:=by
 cases h with
 | skip s1 k w p=>exact⟨s1,k,zst (k.wf hw) p⟩
 | run s1 _ _ _ k w nd f=>exact⟨s1,k,f.stp⟩
def SameS(ρ:Env)(x y:SV):Prop:=x=y∨∃ e b,x=.cv (.one (.bool e))∧y=.cv (.one (.bool (.lit b)))∧e.den ρ=b
theorem SameS.trans{ρ:Env}{x y z:SV}(h:SameS ρ x y)(h':SameS ρ y z):SameS ρ x z:=by
 rcases h with rfl | ⟨e,b,rfl,rfl,hb⟩
 ·exact h'
 ·rcases h' with rfl | ⟨e',b',he,rfl,hb'⟩
  ·exact .inr ⟨e,b,rfl,rfl,hb⟩
  ·cases he;exact .inr ⟨e,b',rfl,rfl,hb.trans hb'⟩
theorem SameS.any{ρ:Env}{x y:SV}(h:SameS ρ x y)(hy:y ≠ .any):x ≠ .any:=by
 rcases h with rfl | ⟨e,b,rfl,rfl,hb⟩
 ·exact hy
 ·simp
theorem SameS.any'{ρ:Env}{x y:SV}(h:SameS ρ x y)(hx:x ≠ .any):y ≠ .any:=by
 rcases h with rfl | ⟨e,b,rfl,rfl,hb⟩
 ·exact hx
 ·simp
theorem SameS.den{ρ:Env}{x y:SV}(h:SameS ρ x y)(β:Nat→Nat):x.den ρ β=y.den ρ β:=by
 rcases h with rfl | ⟨e,b,rfl,rfl,hb⟩
 ·rfl
 ·simp only [SV.den,CV.den,At.den,BE.den,hb]
theorem SameS.ids{ρ:Env}{x y:SV}(h:SameS ρ x y){k:Nat}(hk:k∈svIds y):k∈svIds x:=by
 rcases h with rfl | ⟨e,b,rfl,rfl,hb⟩
 ·exact hk
 ·simp [svIds,CV.cells,idsOf]at hk
theorem Knw.same{ρ:Env}{s s1:St}(h:Knw ρ s s1)(t:Nat):SameS ρ (getS s.t t) (getS s1.t t):=by
  cases h with
  | refl=>exact .inl rfl
  | know x b e hx hb =>
    simp only [St.know,zq];by_cases ht:x=t
    · subst ht;rw [if_pos rfl];exact .inr ⟨e,b,hx,rfl,hb⟩
    · rw [if_neg ht];exact .inl rfl
theorem zsg(a:At)(l:List At):idsOf (a::l)=idsOf [a]++idsOf l:=by
 cases a <;> simp [idsOf]
theorem znw(x y:List At):idsOf (x++y)=idsOf x++idsOf y:=by
 induction x with
 | nil=>rfl
 | cons a x ih=>rw [List.cons_append,zsg,ih,zsg a x,List.append_assoc]
theorem zuk{β β':Nat→Nat}{l:List (Nat × Nat)}(h:∀ k∈l.map (·.1),β' k=β k):(l.map fun c=>(.pointer (some ⟨β' c.1,c.2,none⟩):Value))=l.map fun c=>.pointer (some ⟨β c.1,c.2,none⟩) :=
 List.map_congr_left fun c hc=>by rw [h c.1 (List.mem_map.2 ⟨c,hc,rfl⟩)]
theorem Cell0.den_ids{ρ:Env}{β β':Nat→Nat}{a:Cell0}(h:∀ k∈a.ids,β' k=β k):a.den ρ β'=a.den ρ β:=by
 cases a <;> first
  | rfl
  | skip
 case lsl k o l m=>simp only [Cell0.den];rw [h k (by simp [Cell0.ids])]
 case own k=>simp only [Cell0.den];rw [h k (by simp [Cell0.ids]),h (k + 1) (by simp [Cell0.ids]),h (k + 2) (by simp [Cell0.ids]),h (k + 3) (by simp [Cell0.ids])]
theorem At.den_ids{ρ:Env}{β β':Nat→Nat}:∀ {a:At},(∀ k∈idsOf [a],β' k=β k)→a.den ρ β'=a.den ρ β:=by
 intro a h;cases a
 case own k=>show ownV _ _ _ _=ownV _ _ _ _;rw [h k (by simp [idsOf]),h (k + 1) (by simp [idsOf]),h (k + 2) (by simp [idsOf]),h (k + 3) (by simp [idsOf])]
 case bts k=>simp only [At.den];rw [h k (by simp [idsOf]),h (k + 1) (by simp [idsOf]),h (k + 2) (by simp [idsOf])]
 case fn f caps =>
  simp only [At.den];rw [zuk fun k hk=>h k (by simp only [idsOf,List.append_nil];exact hk)]
 case mfn f first caps =>
  simp only [At.den];rw [zuk (l:=first) fun k hk=>h k (by simp only [idsOf,List.append_nil];exact List.mem_append.2 (.inl hk)),zuk (l:=caps) fun k hk=>h k (by simp only [idsOf,List.append_nil];exact List.mem_append.2 (.inr hk))]
 case gfn f first caps =>
  simp only [At.den];rw [zuk (l:=caps) fun k hk=>h k (by simp only [idsOf,List.append_nil];exact List.mem_append.2 (.inr hk))]
  have:first.map (Cell0.den ρ β')=first.map (Cell0.den ρ β):=List.map_congr_left fun x hx=>Cell0.den_ids fun k hk=>h k (by
   simp only [idsOf,List.append_nil];exact List.mem_append.2 (.inl (List.mem_flatMap.2 ⟨x,hx,hk⟩)))
  rw [this]
 all_goals first
  | rfl
  | (simp only [At.den];rw [h _ (by simp [idsOf];done)])
theorem ztq{a:At}{k:Nat}:∀ {l:List At},a∈l→k∈idsOf [a]→k∈idsOf l
  | b::l,h,hk=>by
    rw [zsg];rcases List.mem_cons.1 h with rfl | h
    · exact List.mem_append.2 (.inl hk)
    · exact List.mem_append.2 (.inr (ztq h hk))
theorem zcf{ρ:Env}{β β':Nat→Nat}{l:List At}(h:∀ k∈idsOf l,β' k=β k):l.map (At.den ρ β')=l.map (At.den ρ β) :=
 List.map_congr_left fun a ha=>At.den_ids fun k hk=>h k (ztq ha hk)
theorem SV.den_ids{ρ:Env}{β β':Nat→Nat}:∀ {x:SV},(∀ k∈svIds x,β' k=β k)→x.den ρ β'=x.den ρ β
  | .any,_=>rfl
  | .und,_=>rfl
  | .cv (.one a),h=>At.den_ids h
  | .cv (.agg l),h=>by simp only [SV.den,CV.den];rw [zcf (l:=l) h]
  | .tup l,h=>by
    simp only [SV.den];congr 2;apply List.map_congr_left;intro c hc
    have hm:∀ k∈idsOf c.cells,β' k=β k:=fun k hk=>h k (by
      simp only [svIds]
      have:∀ (l1:List CV),c∈l1→k∈idsOf (l1.flatMap CV.cells):=by
        intro l1 h1
        induction l1 with
        | nil=>cases h1
        | cons d l1 ih =>
          rw [List.flatMap_cons,znw];rcases List.mem_cons.1 h1 with rfl | h1
          · exact List.mem_append.2 (.inl hk)
          · exact List.mem_append.2 (.inr (ih h1))
      exact this l hc)
    cases c with
    | one a=>exact At.den_ids hm
    | agg l=>simp only [CV.den];rw [zcf (l:=l) hm]
theorem zim{ρ:Env}{β β':Nat→Nat}:∀ {l:CE},(∀ k∈l.flatMap sgIds,β' k=β k)→ceDen ρ β' l=ceDen ρ β l
  | [],_=>rfl
  | .ats l::r,h=>by
    simp only [ceDen,Sg.den];rw [zcf (l:=l) fun k hk=>h k (by rw [List.flatMap_cons];exact List.mem_append.2 (.inl hk)),zim (l:=r) fun k hk=>h k (by rw [List.flatMap_cons];exact List.mem_append.2 (.inr hk))]
  | .var i::r,h=>by
    simp only [ceDen,Sg.den];rw [zim (l:=r) fun k hk=>h k (by rw [List.flatMap_cons];exact List.mem_append.2 (.inr hk))]
def entSelf(k:Nat):Ent→List Nat
 | .fix .. => [k]
 | .row .. => [k,k + 1,k + 2,k + 3]
theorem Holds.keepI{ρ:Env}{β β':Nat→Nat}{k:Nat}{w w':World}:∀ {e:Ent},Holds W ρ β k e w→(∀ j∈entSelf k e,β' j=β j)→(∀ j∈entIds e,β' j=β j) →
    (∀ b,blkE β k e=some b→w'.heap[b]? = w.heap[b]?)→Holds W ρ β' k e w'
  | .fix cs t,h,hs,hi,hh=>by
    have h0:β' k=β k:=hs k (by simp [entSelf]);refine⟨by rw [h0];exact h.1, ?_⟩;rw [h0,zcf hi,hh _ rfl];exact h.2
  | .row ce sz t,h,hs,hi,hh=>by
    simp only [Holds]at h ⊢;rw [hs k (by simp [entSelf]),hs (k + 1) (by simp [entSelf]),hs (k + 2) (by simp [entSelf]),hs (k + 3) (by simp [entSelf]),zim hi];exact h.heap fun h2=>hh (β k) (by simp only [blkE,h2,if_true])
theorem zwj{β β':Nat→Nat}{k:Nat}:∀ {e:Ent},(∀ j∈entSelf k e,β' j=β j)→blkE β' k e=blkE β k e
 | .fix ..,hb=>by simp only [blkE,hb k (by simp [entSelf])]
 | .row ..,hb=>by simp only [blkE,hb k (by simp [entSelf]),hb (k + 1) (by simp [entSelf])]
theorem zxd{ops:Array Oper}{listed:Array Bool}(hcl:∀ j oj,ops[j]? = some oj→listed.getD j false=true→∀ e∈oj.after,Region.binds .any e=true→listed.getD e.on false=true) :
    ∀ (d i j:Nat) (o:Oper),ops[i]? = some o→(∀ e∈o.after,Region.binds .any e=true→listed.getD e.on false=true)→reach ops d i j=true→listed.getD j false=true
  | 0,i,j,o,ho,hi,h=>by cases h
  | d + 1,i,j,o,ho,hi,h=>by
    simp only [reach,direct,ho,Bool.or_eq_true,Array.any_eq_true']at h;rcases h with ⟨e,he,hb⟩ | ⟨e,he,hb⟩
    · simp only [Bool.and_eq_true,decide_eq_true_eq]at hb;rw [← hb.2];exact hi e he hb.1
    · simp only [Bool.and_eq_true]at hb;cases hon:ops[e.on]? with
      | none =>
        cases d with
        | zero=>simp [reach]at hb
        | succ d=>simp [reach,direct,hon]at hb
      | some o'=>exact zxd hcl d e.on j o' hon (fun e' he' hb'=>hcl e.on o' hon (hi e he hb.1) e' he' hb') hb.2
def unl(listed:Array Bool):Nat→Nat
 | 0=>0
 | m + 1=>unl listed m + if listed.getD m false=true then 0 else 1
theorem zyi{listed:Array Bool}:∀ {m:Nat},unl listed m=0→∀ j,j < m→listed.getD j false=true
  | 0,_,j,hj=>by omega
  | m + 1,h,j,hj=>by
    simp only [unl]at h;by_cases hm:listed.getD m false=true
    · rw [if_pos hm]at h;by_cases hjm:j=m
      · subst hjm;exact hm
      · exact zyi (by omega) j (by omega)
    · rw [if_neg hm]at h;omega
theorem zto{listed:Array Bool}:∀ {m:Nat},0 < unl listed m→∃ j,j < m∧listed.getD j false=false∧∀ i,i < j→listed.getD i false=true
  | 0,h=>by simp [unl]at h
  | m + 1,h=>by
    simp only [unl]at h;by_cases hp:0 < unl listed m
    · obtain⟨j,h1,h2⟩:=zto hp;exact⟨j,by omega,h2⟩
    · by_cases hm:listed.getD m false=true
      · rw [if_pos hm]at h;omega
      · exact⟨m,by omega,by simpa using hm,fun i hi=>zyi (by omega) i hi⟩
theorem zyd(listed:Array Bool)(i j:Nat)(hi:i < listed.size):(listed.setIfInBounds i true).getD j false=if i=j then true else listed.getD j false:=by
 simp only [Array.getD_eq_getD_getElem?,Array.getElem?_setIfInBounds];by_cases h:i=j
 ·subst h;simp [hi]
 ·simp [h]
theorem zuo{listed:Array Bool}{i:Nat}(hi:i < listed.size)(hl:listed.getD i false=false):∀ m,unl (listed.setIfInBounds i true) m + (if i < m then 1 else 0)=unl listed m
  | 0=>by simp [unl]
  | m + 1=>by
    have ih:=zuo hi hl m;simp only [unl,zyd listed i m hi];by_cases him:i=m
    · subst him;rw [if_pos rfl,hl];simp at ih ⊢;omega
    · rw [if_neg him];by_cases h2:i < m
      · have h3:i < m + 1:=by omega
        simp only [h2,if_true]at ih;simp only [h3,if_true];omega
      · have h3:¬ i < m + 1:=by omega
        simp only [h2,if_false]at ih;simp only [h3,if_false];omega
end Vc
set_option linter.unusedVariables false
namespace Vc
open Go Go.RowKit
variable {P:Program} {W:Wld} {R:Nat→Loop} {Z:List Nat}
def laid(sts:Nat→St)(m k:Nat):Prop:=(sts m).c.nk≤k∧k < (sts (m + 1)).c.nk
def tch(sts:Nat→St)(cs:Nat→List Nat)(m k:Nat):Prop:=k∈cs m∨laid sts m k
structure Way(P:Program)(W:Wld)(ops:Array Oper)(n:Nat)(ρ:Env)(sts:Nat→St)(svs:Nat→SV)(cs:Nat→List Nat)(rd wr:List (Nat × Nat)):Prop where
 le:n≤ops.size
 wf:∀ i,i≤n→(sts i).WF
 fct:∀ i o,i < n→ops[i]? = some o→Fct P W ops ρ (fun k=>∀ m,m < i→laid sts m k→reach ops 3 i m=true) i rd wr (sts i) o (sts (i + 1)) (svs i) (cs i)
 apart:∀ k i j,((k,i)∈rd∨(k,i)∈wr)→(k,j)∈wr→i=j∨(j < i∧ordr ops i j=true)∨(i < j∧ordr ops j i=true)
 rows:∀ i,i≤n→∀ k ce sz t,getE (sts i).m (sts i).o k=some (.row ce sz t)→∀ m,m < n→∀ d,d < 4→laid sts m (k + d)→laid sts m k
theorem zuq{c:Ctr}:∀ {l:List At},l.all (At.wf c)=true→∀ k∈idsOf l,k < c.nk
  | [],_,k,h=>by cases h
  | a::l,hw,k,h=>by
    simp only [List.all_cons,Bool.and_eq_true]at hw;rw [zsg]at h;replace h:=List.mem_append.1 h;rcases h with h | h
    · have hw1:=hw.1
      have caps:∀ {x:List (Nat × Nat)},(x.all fun y=>decide (y.1 < c.nk))=true→k∈x.map (·.1)→k < c.nk:=fun hx hk=>by
        obtain⟨y,hy,rfl⟩:=List.mem_map.1 hk;simpa using List.all_eq_true.1 hx y hy
      cases a <;> simp only [idsOf,List.mem_cons,List.not_mem_nil,or_false,List.append_nil]at h
      case own j=>simp only [At.wf,decide_eq_true_eq]at hw1;omega
      case omap j=>simp only [At.wf,decide_eq_true_eq]at hw1;omega
      case bts j=>simp only [At.wf,decide_eq_true_eq]at hw1;omega
      case fn f cp=>exact caps hw1 h
      case mfn f fi cp =>
        have hw2:((fi.all fun x=>decide (x.1 < c.nk)) && cp.all fun x=>decide (x.1 < c.nk))=true:=hw1;simp only [Bool.and_eq_true]at hw2;rcases List.mem_append.1 h with h | h
        · exact caps hw2.1 h
        · exact caps hw2.2 h
      case gfn f fi cp =>
        have hw2:((fi.all fun x=>x.wf c) && cp.all fun x=>decide (x.1 < c.nk))=true:=hw1;simp only [Bool.and_eq_true]at hw2;rcases List.mem_append.1 h with h | h
        · obtain⟨x,hx,hk⟩:=List.mem_flatMap.1 h;have hwx:=List.all_eq_true.1 hw2.1 x hx;cases x <;> simp only [Cell0.ids,List.mem_cons,List.not_mem_nil,or_false]at hk
          · simp only [Cell0.wf,decide_eq_true_eq]at hwx;omega
          · simp only [Cell0.wf,decide_eq_true_eq]at hwx;omega
        · exact caps hw2.2 h
      all_goals (subst h;simp only [At.wf,Bool.and_eq_true,decide_eq_true_eq]at hw1;first | exact hw1 | exact hw1.1)
    · exact zuq hw.2 k h
theorem zzd{c:Ctr}{x:SV}(h:x.wf c=true):∀ k∈svIds x,k < c.nk:=by
  cases x with
  | any=>intro k hk;cases hk
  | und=>intro k hk;cases hk
  | cv v=>exact zuq (CV.wf_cells h)
  | tup l =>
    refine zuq (c:=c) ?_;refine List.all_eq_true.2 fun a ha => ?_;obtain⟨v,hv,hav⟩:=List.mem_flatMap.1 ha;exact List.all_eq_true.1 (CV.wf_cells (List.all_eq_true.1 h v hv)) a hav
theorem zow{st:St}(h:st.WF){o:Oper}:∀ k∈valIds st o,k < st.c.nk:=by
 intro k hk;unfold valIds at hk;split at hk
 ·exact zzd (h.ev _) k hk
 ·exact zzd (h.ev _) k hk
 ·exact (List.mem_append.1 hk).elim (zzd (h.ev _) k) (zzd (h.ev _) k)
 ·exact (List.mem_append.1 hk).elim (zzd (h.ev _) k) (zzd (h.ev _) k)
 ·obtain⟨p,_,hp⟩:=List.mem_flatMap.1 hk;exact zzd (h.ev _) k hp
 ·cases hk
section
variable {ops:Array Oper} {n:Nat} {ρ:Env} {sts:Nat→St} {svs:Nat→SV} {cs:Nat→List Nat} {rd wr:List (Nat × Nat)}
theorem Way.get(hw:Way P W ops n ρ sts svs cs rd wr){i:Nat}(hi:i < n):∃ o,ops[i]? = some o:=⟨ops[i]'(Nat.lt_of_lt_of_le hi hw.le),Array.getElem?_eq_getElem _⟩
theorem Way.stp(hw:Way P W ops n ρ sts svs cs rd wr){i:Nat}{o:Oper}(hi:i < n)(ho:ops[i]? = some o):∃ s1,Knw ρ (sts i) s1∧Stp s1 o (sts (i + 1)) (svs i) (cs i):=(hw.fct i o hi ho).stp (hw.wf i (by omega))
theorem Way.step(hw:Way P W ops n ρ sts svs cs rd wr){i:Nat}{o:Oper}(hi:i < n)(ho:ops[i]? = some o) :
  (sts (i + 1)).n=(sts i).n∧(sts (i + 1)).r=(sts i).r∧(sts (i + 1)).d=(sts i).d∧(sts i).c.le (sts (i + 1)).c∧(∀ t,o.dst≠some t→SameS ρ (getS (sts i).t t) (getS (sts (i + 1)).t t)) ∧
   (∀ t,o.dst=some t→getS (sts (i + 1)).t t=svs i)∧(∀ d,o.dst=some d→d < (sts i).n)∧(∀ k∈cs i,k < (sts i).c.nk)∧(∀ k,k < (sts i).c.nk→k ∉ cs i→getE (sts (i + 1)).m (sts (i + 1)).o k=getE (sts i).m (sts i).o k):=by
 obtain⟨s1,hk,h⟩:=hw.stp hi ho;obtain⟨k1,k2,k3,k4,k5,k6⟩:=hk.c;refine⟨h.n.trans k3,h.rs.trans k5,h.ds.trans k6,by rw [← k1];exact h.cle,fun t ht => ?_,fun t ht=>by rw [h.slot,if_pos ht],fun d hd=>by rw [← k3];exact h.dst d hd,fun k hk=>by rw [← k1];exact h.lt k hk,fun k hk hc=>by rw [h.same k (by rw [k1];exact hk) hc,k2,k4]⟩;rw [h.slot,if_neg ht];exact hk.same t
theorem Way.nk(hw:Way P W ops n ρ sts svs cs rd wr):∀ (j i:Nat),i≤j→j≤n→(sts i).c.nk≤(sts j).c.nk
  | 0, i, h, _ => by obtain rfl:i=0:=by omega
                     exact Nat.le_refl _
  | j + 1,i,h,hj=>by
    by_cases hi:i=j + 1
    · subst hi;exact Nat.le_refl _
    · obtain⟨o,ho⟩:=hw.get (i:=j) (by omega);exact Nat.le_trans (hw.nk j i (by omega) (by omega)) (hw.step (by omega) ho).2.2.2.1.k
theorem Way.n0(hw:Way P W ops n ρ sts svs cs rd wr):∀ j,j≤n→(sts j).n=(sts 0).n∧(sts j).r=(sts 0).r∧(sts j).d=(sts 0).d∧(sts 0).c.le (sts j).c
  | 0,_=>⟨rfl,rfl,rfl,Ctr.le_refl _⟩
  | j + 1,hj=>by
    obtain⟨o,ho⟩:=hw.get (i:=j) (by omega);obtain⟨h1,h2,h3,h4,_⟩:=hw.step (by omega) ho;obtain⟨g1,g2,g3,g4⟩:=hw.n0 j (by omega);exact⟨h1.trans g1,h2.trans g2,h3.trans g3,Ctr.le_trans g4 h4⟩
theorem Way.kn(hw:Way P W ops n ρ sts svs cs rd wr)(h0:KnL.den (sts 0).k ρ):∀ j,j≤n→KnL.den (sts j).k ρ
  | 0,_=>h0
  | j + 1,hj=>by
    obtain⟨o,ho⟩:=hw.get (i:=j) (by omega);exact (hw.fct j o (by omega) ho).kn (hw.kn h0 j (by omega))
theorem Way.df(hw:Way P W ops n ρ sts svs cs rd wr):∀ j,j≤n→(sts j).df=(sts 0).df
  | 0,_=>rfl
  | j + 1,hj=>by
    obtain⟨o,ho⟩:=hw.get (i:=j) (by omega);obtain⟨s1,hk,h⟩:=hw.stp (by omega) ho;exact h.dfs.trans (hk.k.2.trans (hw.df j (by omega)))
theorem Way.same(hw:Way P W ops n ρ sts svs cs rd wr){t:Nat}:∀ (j i:Nat),i≤j→j≤n→(∀ m,i≤m→m < j→∀ o,ops[m]? = some o→o.dst≠some t)→SameS ρ (getS (sts i).t t) (getS (sts j).t t)
  | 0, i, h, _, _ => by obtain rfl:i=0:=by omega
                        exact .inl rfl
  | j + 1,i,h,hj,hd=>by
    by_cases hi:i=j + 1
    · subst hi;exact .inl rfl
    · obtain⟨o,ho⟩:=hw.get (i:=j) (by omega);exact (hw.same j i (by omega) (by omega) (fun m h1 h2=>hd m h1 (by omega))).trans ((hw.step (by omega) ho).2.2.2.2.1 t (hd j (by omega) (by omega) o ho))
theorem Way.keep(hw:Way P W ops n ρ sts svs cs rd wr){m k:Nat}(hm:m < n)(h:¬ tch sts cs m k):getE (sts (m + 1)).m (sts (m + 1)).o k=getE (sts m).m (sts m).o k:=by
 obtain⟨o,ho⟩:=hw.get hm;by_cases hk:k < (sts m).c.nk
 ·exact (hw.step hm ho).2.2.2.2.2.2.2.2 k hk fun hc=>h (.inl hc)
 ·have hk2:(sts (m + 1)).c.nk≤k:=by
   rcases Nat.lt_or_ge k (sts (m + 1)).c.nk with h' | h'
   ·exact (h (.inr ⟨by omega,h'⟩)).elim
   ·exact h'
  rw [(hw.wf (m + 1) (by omega)).beyond hk2,(hw.wf m (by omega)).beyond (by omega)]
theorem Way.chain(hw:Way P W ops n ρ sts svs cs rd wr){k:Nat}:∀ (j i:Nat),i≤j→j≤n→(∀ m,i≤m→m < j→¬ tch sts cs m k)→getE (sts j).m (sts j).o k=getE (sts i).m (sts i).o k
  | 0, i, h, _, _ => by obtain rfl:i=0:=by omega
                        rfl
  | j + 1,i,h,hj,hd=>by
    by_cases hi:i=j + 1
    · subst hi;rfl
    · rw [hw.keep (by omega) (hd j (by omega) (by omega))];exact hw.chain j i (by omega) (by omega) (fun m h1 h2=>hd m h1 (by omega))
theorem Way.cls(hw:Way P W ops n ρ sts svs cs rd wr){m k:Nat}(hm:m < n)(h:k∈cs m):(k,m)∈wr∧k < (sts m).c.nk∧∀ i,i < m→laid sts i k→reach ops 3 m i=true:=by
  obtain⟨o,ho⟩:=hw.get hm;have hl:=(hw.step hm ho).2.2.2.2.2.2.2.1 k h;have hf:=hw.fct m o hm ho;generalize hC:cs m=C at hf h;generalize hS:svs m=sv at hf;generalize hs:sts (m + 1)=s' at hf;cases hf with
  | skip=>cases h
  | run s1 _ _ _ kn w nd f h1 h2 h4 h5 =>
    have hwk:=(f.chg k h).1;exact⟨h5 k hwk,hl,h1 k (List.mem_append.2 (.inl (List.mem_append.2 (.inr hwk))))⟩
theorem Way.dst(hw:Way P W ops n ρ sts svs cs rd wr){i:Nat}{o:Oper}(hi:i < n)(ho:ops[i]? = some o){x:Nat}(hx:o.dst=some x){k:Nat}(hk:k∈svIds (svs i)){m:Nat}(hm:m < i)(hl:laid sts m k):reach ops 3 i m=true:=by
 have hf:=hw.fct i o hi ho;generalize hC:cs i=C at hf;generalize hS:svs i=sv at hf hk;generalize hs:sts (i + 1)=s' at hf;cases hf with
 | skip=>cases hk
 | run s1 _ _ _ kn w nd f h1 h2 h4 h5=>exact h2 x hx k hk m hm hl
theorem zea(h:drawOk ops=true){i:Nat}{o:Oper}(ho:ops[i]? = some o) :
  (∀ e∈o.after,Region.binds .any e=true→e.on < i)∧∀ j p,ops[j]? = some p →
   ∀ d,p.dst=some d→(i=j∨o.dst≠some d)∧(d∈o.looksAt ops→(j < i∧direct ops i j=true)∨(i < j∧direct ops j i=true)):=by
 have hi:i < ops.size:=(Array.getElem?_eq_some_iff.1 ho).1;have h1:=List.all_eq_true.1 h i (List.mem_range.2 hi);simp only [ho,Bool.and_eq_true]at h1;refine⟨fun e he hb => ?_,fun j p hp d hd => ?_⟩
 ·have:=Array.all_eq_true_iff_forall_mem.1 h1.1 e he
  simpa [hb]using this
 ·have hj:j < ops.size:=(Array.getElem?_eq_some_iff.1 hp).1;have h2:=List.all_eq_true.1 h1.2 j (List.mem_range.2 hj);simp only [hp,hd,Bool.and_eq_true,decide_eq_true_eq,Bool.or_eq_true,Bool.not_eq_true']at h2;refine⟨h2.1,fun hm => ?_⟩;rcases h2.2 with (h4 | h4) | h4
  ·rw [List.contains_iff_mem.2 hm]at h4;cases h4
  ·exact .inl h4
  ·exact .inr h4
def cut(n:Nat)(sts:Nat→St)(cs:Nat→List Nat)(listed:Array Bool)(k i:Nat):Prop:=∀ m,m < n→tch sts cs m k→(m < i↔listed.getD m false=true)
structure Inv(W:Wld)(R:Nat→Loop)(Z:List Nat)(ops:Array Oper)(n:Nat)(ρ:Env)(sts:Nat→St)(cs:Nat→List Nat)(a0:Act)(β0:Nat→Nat)(listed:Array Bool)(a:Act)(w:World)(β:Nat→Nat):Prop where
 lsize:listed.size=ops.size
 closed:∀ j oj,ops[j]? = some oj→listed.getD j false=true→∀ e∈oj.after,Region.binds .any e=true→listed.getD e.on false=true
 only:∀ j,n≤j→listed.getD j false=false
 size:a.tmps.size=(sts 0).n
 dfr:a.defers=closOf β0 (sts 0).df++marksOf β0 (sts 0).d
 below:Bel W w
 s2:∀ t i o,i < n→ops[i]? = some o→o.dst=some t→listed.getD i false=true→getS (sts n).t t ≠ .any→a.tmps[t]? = some ((getS (sts n).t t).den ρ β)
 s3:∀ t,(∀ i o,i < n→ops[i]? = some o→o.dst=some t→listed.getD i false=false)→a.tmps[t]? = a0.tmps[t]?
 mem:∀ k i,i≤n→cut n sts cs listed k i→∀ e,getE (sts i).m (sts i).o k=some e→Holds W ρ β k e w
 std:∀ k i,i≤n→cut n sts cs listed k i→∀ e,getE (sts i).m (sts i).o k=some e→∀ x∈entIds e,∀ m,m < n→laid sts m x→listed.getD m false=true
 inj:∀ k k' i i',i≤n→i'≤n→cut n sts cs listed k i→cut n sts cs listed k' i'→∀ e e' b,getE (sts i).m (sts i).o k=some e→getE (sts i').m (sts i').o k'=some e'→blkE β k e=some b→blkE β k' e'=some b→k=k'
 lps:∀ k e,getR (sts 0).r k=some e→w.heap[β0 k]? = some (.loop (recAt (R k) e))
 ded:∀ b∈Z++(sts 0).d.map β0,w.heap[b]? = some (.deferred (some []))
 agree:∀ k,k < (sts 0).c.nk→β k=β0 k
theorem zms(hw:Way P W ops n ρ sts svs cs rd wr)(hd:drawOk ops=true){a0 a:Act}{β0 β:Nat→Nat}{w0 w:World}(hC:Core W R Z ρ β0 (sts 0) a0 w0){listed:Array Bool}
    (inv:Inv W R Z ops n ρ sts cs a0 β0 listed a w β) {i:Nat} {o:Oper} (hi:i < n) (ho:ops[i]? = some o) (hun:listed.getD i false=false) (hr:∀ e∈o.after,Region.binds .any e=true→listed.getD e.on false=true) {t:Nat} (ht:t∈o.looksAt ops) (hn:getS (sts i).t t ≠ .any) :
    a.tmps[t]? = some ((getS (sts i).t t).den ρ β):=by
  obtain⟨_,hd2⟩:=zea hd ho
  have early:(∀ m o',m < n→ops[m]? = some o'→o'.dst=some t→listed.getD m false=false)→SameS ρ (getS (sts 0).t t) (getS (sts i).t t)→a.tmps[t]? = some ((getS (sts i).t t).den ρ β):=fun h1 hsame=>by
    rw [inv.s3 t h1,hC.tmps t (hsame.any hn),← hsame.den,SV.den_like (Env.like_refl _ ρ) inv.agree (hC.wf.t t)]
  by_cases hx:∃ (j:Nat) (p:Oper),ops[j]? = some p∧p.dst=some t
  · obtain⟨j,p,hp,hpt⟩:=hx
    have one:∀ m q,ops[m]? = some q→q.dst=some t→m=j:=fun m q hq hqt=>by
      rcases ((zea hd hq).2 j p hp t hpt).1 with h4 | h4
      · exact h4
      · exact (h4 hqt).elim
    obtain⟨_,h2⟩:=hd2 j p hp t hpt;rcases h2 ht with ⟨hji,hdir⟩ | ⟨hij,hdir⟩
    · have hlj:listed.getD j false=true:=by
        simp only [direct,ho,Array.any_eq_true',Bool.and_eq_true,decide_eq_true_eq]at hdir;obtain⟨e,he,hb,rfl⟩:=hdir;exact hr e he hb
      have hsame:SameS ρ (getS (sts i).t t) (getS (sts n).t t):=hw.same n i (by omega) (Nat.le_refl _) fun m h1 h3 q hq hqt=>by
        have:=one m q hq hqt;omega
      rw [inv.s2 t j p (by omega) hp hpt hlj (hsame.any' hn),hsame.den]
    · have huj:listed.getD j false=false:=by
        cases hlj:listed.getD j false with
        | false=>rfl
        | true =>
          simp only [direct,hp,Array.any_eq_true',Bool.and_eq_true,decide_eq_true_eq]at hdir;obtain⟨e,he,hb,rfl⟩:=hdir;rw [inv.closed j p hp hlj e he hb]at hun;cases hun
      refine early (fun m o' _ hm he=>by rw [one m o' hm he];exact huj) (hw.same i 0 (by omega) (by omega) fun m h1 h3 q hq hqt => ?_)
      have:=one m q hq hqt;omega
  · have hnone:∀ (m:Nat) (o':Oper),ops[m]? = some o'→o'.dst≠some t:=fun m o' hm he=>hx ⟨m,o',hm,he⟩;exact early (fun m o' _ hm he=>(hnone m o' hm he).elim) (hw.same i 0 (by omega) (by omega) fun m _ _ q hq=>hnone m q hq)
theorem zbda(hw:Way P W ops n ρ sts svs cs rd wr)(hd:drawOk ops=true){a0 a:Act}{β0 β:Nat→Nat}{w0 w:World}(hC:Core W R Z ρ β0 (sts 0) a0 w0){listed:Array Bool}
    (inv:Inv W R Z ops n ρ sts cs a0 β0 listed a w β) {i:Nat} {o:Oper} (hi:i < n) (ho:ops[i]? = some o) (hun:listed.getD i false=false) (hr:∀ e∈o.after,Region.binds .any e=true→listed.getD e.on false=true) {s1:St} (hk:Knw ρ (sts i) s1):OpsOk s1 o ρ β a:=by
  intro x hx hn;cases x with
  | tmp t =>
    have hs:=hk.same t;have hn':getS s1.t t ≠ .any:=hn
    have:=zms hw hd hC inv hi ho hun hr (t:=t) (by
      simp only [Oper.looksAt,List.mem_append];exact .inl (List.mem_filterMap.2 ⟨.tmp t,Array.mem_toList_iff.2 hx,rfl⟩)) (hs.any hn')
    show a.tmps.getD t undef=_;rw [Array.getD_eq_getD_getElem?,this,Option.getD_some];exact hs.den β
  | const v=>exact ((SV.ofValue_den v s1.c ρ β).2 hn).symm
  | global g=>exact zsl (by rw [hk.k.1];exact hw.kn hC.kn i (by omega)) hn β
  | func f=>rfl
theorem zvq(hw:Way P W ops n ρ sts svs cs rd wr)(hd:drawOk ops=true){a0 a:Act}{β0 β:Nat→Nat}{w0 w:World}(hC:Core W R Z ρ β0 (sts 0) a0 w0){listed:Array Bool}
    (inv:Inv W R Z ops n ρ sts cs a0 β0 listed a w β) {i:Nat} {o:Oper} (hi:i < n) (ho:ops[i]? = some o) (hun:listed.getD i false=false) (hr:∀ e∈o.after,Region.binds .any e=true→listed.getD e.on false=true) {b:Bool} (hb:Wants ops ρ (sts i) o b):Region.wanted o (yielded ops a.tmps)=b:=by
  unfold Wants at hb;cases hg:o.guard with
  | none=>rw [hg]at hb;simp only at hb;subst hb;simp [Region.wanted,hg]
  | some jw =>
    obtain⟨j,want⟩:=jw;rw [hg]at hb;obtain⟨x,hx,hb⟩:=hb
    have hlook:x∈o.looksAt ops:=by
      simp only [Oper.looksAt,hg,List.mem_append];exact .inr (by simp [hx])
    rcases hb with ⟨e,he,hb⟩ | ⟨he,rfl⟩
    · have:=zms hw hd hC inv hi ho hun hr hlook (by rw [he];simp)
      rw [he]at this;have hy:=zxf (b:=e.den ρ) hx this;simp only [Region.wanted,hg,hy];exact hb
    · have:=zms hw hd hC inv hi ho hun hr hlook (by rw [he];simp)
      rw [he]at this;have hy:=zyf hx this;simp [Region.wanted,hg,hy]
theorem zoe:∀ (l acc:List Nat) {x:Nat},x∈addAll acc l→x∈acc∨x∈l
  | [],acc,x,h=>.inl h
  | y::l,acc,x,h=>by
    simp only [addAll]at h;rcases zoe l _ h with h | h
    · split at h
      · exact .inl h
      · rcases List.mem_cons.1 h with rfl | h
        · exact .inr (by simp)
        · exact .inl h
    · exact .inr (by simp [h])
theorem zjm{ops:Array Oper}{listed:Array Bool}{i:Nat}{o:Oper}(ho:ops[i]? = some o)(hi:∀ e∈o.after,Region.binds .any e=true→listed.getD e.on false=true):∀ j∈dirs ops i,listed.getD j false=true:=by
 intro j hj;unfold dirs at hj;rw [ho]at hj;obtain⟨e,he,rfl⟩:=List.mem_map.1 hj;obtain⟨h1,h2⟩:=List.mem_filter.1 he;exact hi e (by simpa using h1) h2
theorem zzi{ops:Array Oper}{listed:Array Bool}(hcl:∀ j oj,ops[j]? = some oj→listed.getD j false=true→∀ e∈oj.after,Region.binds .any e=true→listed.getD e.on false=true) :
    ∀ (d:Nat) (acc:List Nat),(∀ j∈acc,listed.getD j false=true)→∀ j∈behind ops d acc,listed.getD j false=true
  | 0,acc,h,j,hj=>h j hj
  | d + 1,acc,h,j,hj=>by
    refine zzi hcl d _ (fun k hk => ?_) j hj;rcases zoe _ _ hk with hk | hk
    · exact h k hk
    · obtain⟨m,hm,hkm⟩:=List.mem_flatMap.1 hk;cases ho:ops[m]? with
      | none=>unfold dirs at hkm;rw [ho]at hkm;cases hkm
      | some o=>exact zjm ho (hcl m o ho (h m hm)) k hkm
theorem zxj{ops:Array Oper}{listed:Array Bool}(hcl:∀ j oj,ops[j]? = some oj→listed.getD j false=true→∀ e∈oj.after,Region.binds .any e=true→listed.getD e.on false=true){i j:Nat}{o:Oper}(ho:ops[i]? = some o)
  (hi:∀ e∈o.after,Region.binds .any e=true→listed.getD e.on false=true) (h:beh ops i j=true):listed.getD j false=true:=by
 unfold beh at h;generalize hN:10=N at h;have hj:j∈behind ops N (addAll [] (dirs ops i)):=List.contains_iff_mem.1 h;refine zzi hcl N _ (fun k hk => ?_) j hj;rcases zoe _ _ hk with hk | hk
 ·cases hk
 ·exact zjm ho hi k hk
theorem zfn{ops:Array Oper}{i j:Nat}{o:Oper}{listed:Array Bool}(ho:ops[i]? = some o)(hr:∀ e∈o.after,Region.binds .any e=true→listed.getD e.on false=true)(h:direct ops i j=true):listed.getD j false=true:=by
 simp only [direct,ho,Array.any_eq_true',Bool.and_eq_true,decide_eq_true_eq]at h;obtain⟨e,he,hb,rfl⟩:=h;exact hr e he hb
theorem zkm{ops:Array Oper}{listed:Array Bool}(hcl:∀ j oj,ops[j]? = some oj→listed.getD j false=true→∀ e∈oj.after,Region.binds .any e=true→listed.getD e.on false=true){i j:Nat}{o:Oper}(ho:ops[i]? = some o)
  (hi:∀ e∈o.after,Region.binds .any e=true→listed.getD e.on false=true) (h:ordr ops i j=true):listed.getD j false=true:=by
 unfold ordr at h;rcases Bool.or_eq_true _ _▸h with h | h
 ·exact zfn ho hi h
 ·exact zxj hcl ho hi h
theorem later{a0 a:Act}{β0 β:Nat→Nat}{w:World}{listed:Array Bool}(inv:Inv W R Z ops n ρ sts cs a0 β0 listed a w β){i m:Nat}(hun:listed.getD i false=false)(hm:m < ops.size)(h:reach ops 3 m i=true):listed.getD m false=false:=by
  cases hlm:listed.getD m false with
  | false=>rfl
  | true =>
    have hom:ops[m]? = some ops[m]:=Array.getElem?_eq_getElem hm;rw [zxd inv.closed 3 m i _ hom (inv.closed m _ hom hlm) h]at hun;cases hun
theorem zoaa{a0 a:Act}{β0 β:Nat→Nat}{w:World}{listed:Array Bool}(inv:Inv W R Z ops n ρ sts cs a0 β0 listed a w β){i m:Nat}(hun:listed.getD i false=false)(hm:m < ops.size)(h:ordr ops m i=true):listed.getD m false=false:=by
  cases hlm:listed.getD m false with
  | false=>rfl
  | true =>
    have hom:ops[m]? = some ops[m]:=Array.getElem?_eq_getElem hm;rw [zkm inv.closed hom (inv.closed m _ hom hlm) h]at hun;cases hun
theorem zcda(hw:Way P W ops n ρ sts svs cs rd wr){a0 a:Act}{β0 β:Nat→Nat}{w:World}{listed:Array Bool}(inv:Inv W R Z ops n ρ sts cs a0 β0 listed a w β){i:Nat}{o:Oper}(hi:i < n)(ho:ops[i]? = some o)
  (hun:listed.getD i false=false) (hr:∀ e∈o.after,Region.binds .any e=true→listed.getD e.on false=true) {k:Nat} (hk:k < (sts i).c.nk) (hrw:(k,i)∈rd∨(k,i)∈wr) (hold:∀ m,m < i→laid sts m k→reach ops 3 i m=true):cut n sts cs listed k i:=by
 intro m hm ht;have hms:m < ops.size:=Nat.lt_of_lt_of_le hm hw.le;rcases ht with hc | hl
 ·obtain⟨h1,_,_⟩:=hw.cls hm hc;rcases hw.apart k i m hrw h1 with rfl | ⟨a1,a2⟩ | ⟨a1,a2⟩
  ·exact⟨fun h=>by omega,fun h=>by rw [h]at hun;cases hun⟩
  ·exact⟨fun _=>zkm inv.closed ho hr a2,fun _=>a1⟩
  ·refine⟨fun h=>by omega,fun h => ?_⟩;rw [zoaa inv hun hms a2]at h;cases h
 ·refine⟨fun h=>zxd inv.closed 3 i m o ho hr (hold m h hl),fun h => ?_⟩;rcases Nat.lt_or_ge m i with h' | h'
  ·exact h'
  ·have:=hw.nk m i h' (by omega)
   have:=hl.1
   omega
end
end Vc
