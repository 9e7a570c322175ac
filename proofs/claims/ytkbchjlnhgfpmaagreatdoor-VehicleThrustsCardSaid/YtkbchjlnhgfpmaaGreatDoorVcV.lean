import Derived.Test.YtkbchjlnhgfpmaaGreatDoorVcJ
import Derived.Laws.AppendOwn
import Derived.Laws.OwnMore
import Derived.Laws.MakeOwn
set_option linter.unusedVariables false
set_option linter.unusedSimpArgs false
namespace Vc
open Go Go.RowKit
variable {P:Program} {W:eJ} {Q:Value->Prop} {QM QP:World->Value->Prop}
def St.cd(st:St)(dst:Option Tmp)(v:SV)(c:ar):St :=
 match dst with
 |none => {st with c:=c}
 |some d => {st with t:=(d,v)::st.t,c:=c}
def ji(st:St)(dst:Option Tmp)(v:SV)(c:ar):Prop:=∀d,dst=some d->d<st.n/\v.wf c=true
theorem ze{st:St}{dst:Option Tmp}{v:SV}{c:ar}{K:St->Env->Prop}{U:Env}(h:St.put (PA P W Q QM QP) st dst v c K U):K (st.cd dst v c) U/\ji st dst v c:=by
  unfold St.put at h;cases dst with
  |none=>exact⟨h,λd hd=>by cases hd⟩
  |some d =>
    simp only at h;cases hb:Nat.blt d st.n with
    |false=>rw [hb]at h;exact h.elim
    |true =>
      rw [hb]at h;cases hw:v.wf c with
      |false=>simp only [hw]at h;exact h.elim
      |true =>
        simp only [hw,Ky]at h;exact⟨h,λd' he=>by cases he;exact⟨Nat.le_of_ble_eq_true hb,hw⟩⟩
theorem kO(st:St)(dst:Option Tmp)(v:SV)(c:ar):(st.cd dst v c).c=c/\(st.cd dst v c).m=st.m/\(st.cd dst v c).n=st.n/\(st.cd dst v c).o=st.o/\(st.cd dst v c).r=st.r/\(st.cd dst v c).d=st.d:=by
 unfold St.cd;split<;>exact⟨rfl,rfl,rfl,rfl,rfl,rfl⟩
theorem zk(st:St)(dst:Option Tmp)(v:SV)(c:ar):(st.cd dst v c).k=st.k/\(st.cd dst v c).df=st.df:=by
 unfold St.cd;split<;>exact⟨rfl,rfl⟩
theorem zl(st:St)(dst:Option Tmp)(v:SV)(c:ar)(t:Nat):ay (st.cd dst v c).t t=if dst=some t then v else ay st.t t:=by
 unfold St.cd;cases dst with
 |none=>simp
 |some d=>simp only [zj,Option.some.injEq]
theorem Fj{st:St}{dst:Option Tmp}{v:SV}{c:ar}(hw:st.WF)(hle:st.c.le c)(hp:ji st dst v c):(st.cd dst v c).WF:=by
 obtain⟨q1,q2,q3,q4,q5,q6⟩:=kO st dst v c;have g:=hw.grow hle;refine⟨λi => ?_,by rw [q2,q1];exact g.m,by rw [q4,q1];exact g.o,by rw [q2,q4];exact hw.ap,by rw [q5,q1];exact g.r,by rw [q6,q1];exact g.d,by rw [(zk _ _ _ _).1,q1];exact g.k,by rw [(zk _ _ _ _).2,q1];exact g.df⟩;rw [zl,q1];by_cases hd:dst=some i
 ·rw [if_pos hd];exact (hp i hd).2
 ·rw [if_neg hd];exact g.t i
theorem St.WF.beyond{st:St}(h:st.WF){k:Nat}(hk:st.c.nk<=k):aM st.m st.o k=none:=by
 cases hg:aM st.m st.o k with
 |none=>rfl
 |some e=>have:=DZ (h.eO hg);omega
def rp(P:Program)(W:eJ)(st:St)(o:Oper)(K:St->Env->Prop)(U:Env):Prop :=
 ∃s' ag sv C,K s' ag/\st.c.le s'.c/\Env.aC st.c U ag/\∀J,Env.aC s'.c ag J->iO P W st o J s' sv C
theorem LM{s1 s':St}{U:Env}{β:Nat->Nat}{w w':World}(h:s1.WF)(hm:aM s'.m s'.o=aM s1.m s1.o)(hb:Below w.heap.size w w'):AT W s1 s' U [] β β w w' where
 os:=hb.os
 tape:=hb.tape
 output:=hb.output
 size:=hb.size
 frame b hl _:=hb.block b hl
 off _ _:=rfl
 new k e' hk hg:=by
  rcases hk with hk|hk
  ·cases hk
  ·rw [hm,h.beyond hk]at hg;cases hg
 inj k k' e e' _ hk gE hg fx _ _:=by
  rcases hk with hk|hk
  ·cases hk
  ·rw [hm,h.beyond hk]at hg;cases hg
theorem LN{st:St}{o:Oper}{sv:SV}{c:ar}{U:Env}(wf:st.WF)(h1:bK P W st o sv U)(h2:st.c.le c)(h4:ji st o.dst sv c):iO P W st o U (st.cd o.dst sv c) sv []:=by
 obtain⟨q1,q2,q3,q4,q5,q6⟩:=kO st o.dst sv c;have hm:aM (st.cd o.dst sv c).m (st.cd o.dst sv c).o=aM st.m st.o:=by rw [q2,q4]
 refine⟨λhk=>by rw [(zk _ _ _ _).1];exact hk,(zk _ _ _ _).2,q3,q5,q6,by rw [q1];exact h2,Fj wf h2 h4,λt=>zl st o.dst sv c t,λd hd=>(h4 d hd).1,λk hk=>(by cases hk),λk _ _=>(by rw [hm]),λk e' hk hg => ?_,λβ a w hB ho hr _ next Q' hn => ?_⟩
 ·rcases hk with hk|hk
  ·cases hk
  ·rw [hm,wf.beyond hk]at hg;cases hg
 ·exact h1 β a w hB ho (λk hk e hg=>hr k (List.mem_append.2 (.inl hk)) e hg) next Q' λv w' hv hb=>hn β v w' hv (LM wf hm hb)
theorem LO{st:St}{o:Oper}{sv:SV}{c:ar}{U:Env}{kn:cr}(wf:st.WF)(h1:bK P W st o sv U)(h2:st.c.le c)(h4:ji {st with k:=kn} o.dst sv c)(hw:cr.wf kn c)(hk:cr.den st.k U->cr.den kn U):iO P W st o U (({st with k:=kn}:St).cd o.dst sv c) sv []:=by
 obtain⟨q1,q2,q3,q4,q5,q6⟩:=kO {st with k:=kn} o.dst sv c;have hm:aM (({st with k:=kn}:St).cd o.dst sv c).m (({st with k:=kn}:St).cd o.dst sv c).o=aM st.m st.o:=by rw [q2,q4]
 have g:=wf.grow h2;refine⟨λh=>by rw [(zk _ _ _ _).1];exact hk h,(zk _ _ _ _).2,q3,q5,q6,by rw [q1];exact h2,⟨λi => ?_,by rw [q2,q1];exact g.m,by rw [q4,q1];exact g.o,by rw [q2,q4];exact wf.ap,by rw [q5,q1];exact g.r,by rw [q6,q1];exact g.d,by rw [(zk _ _ _ _).1,q1];exact hw,by rw [(zk _ _ _ _).2,q1];exact g.df⟩,λt=>zl _ o.dst sv c t,λd hd=>(h4 d hd).1,λk hk=>(by cases hk),λk _ _=>(by rw [hm]),λk e' hk hg => ?_,λβ a w hB ho hr _ next Q' hn => ?_⟩
 ·rw [zl,q1];by_cases hd:o.dst=some i
  ·rw [if_pos hd];exact (h4 i hd).2
  ·rw [if_neg hd];exact g.t i
 ·rcases hk with hk|hk
  ·cases hk
  ·rw [hm,wf.beyond hk]at hg;cases hg
 ·exact h1 β a w hB ho (λk hk e hg=>hr k (List.mem_append.2 (.inl hk)) e hg) next Q' λv w' hv hb=>hn β v w' hv (LM wf hm hb)
theorem LQ{m:Mem}{o:bA}{nk:Nat}{cs:List At}{t:TypeId}(k:Nat):aM ((nk,cs,t)::m) o k=if nk=k then some (.fix cs t)else aM m o k:=by
 unfold aM;rw [DY];by_cases h:nk=k
 ·rw [if_pos h,if_pos h]
 ·rw [if_neg h,if_neg h]
theorem LR{st:St}{o:Oper}{cs:List At}{t:TypeId}{v:At}{vd:Nat->Value}{U:Env}(wf:st.WF)(h1:cs.all (At.wf st.c)=true)(kF:∀x∈aN cs,x∈di st o)(h2:∀β:Nat->Nat,v.den U β=vd (β st.c.nk))
  (h3:∀(β:Nat->Nat) (a:Act) (w:World),dV st o U β a->(execOp a.eval o).run P w=.ok (.value (vd w.heap.size)) (w.alloc (.cells (cs.map (At.den U β)).toArray t)))
  (h4:ji {st with m:=(st.c.nk,cs,t)::st.m} o.dst (.cv (.one v)) {st.c with nk:=st.c.nk+1}) :
  iO P W st o U ({st with m:=(st.c.nk,cs,t)::st.m}.cd o.dst (.cv (.one v)) {st.c with nk:=st.c.nk+1}) (.cv (.one v)) []:=by
 obtain⟨q1,q2,q3,q4,q5,q6⟩:=kO {st with m:=(st.c.nk,cs,t)::st.m} o.dst (.cv (.one v)) {st.c with nk:=st.c.nk+1};have hle:=ar.lV st.c 1
 have hm:∀k,aM ({st with m:=(st.c.nk,cs,t)::st.m}.cd o.dst (.cv (.one v)) {st.c with nk:=st.c.nk+1}).m ({st with m:=(st.c.nk,cs,t)::st.m}.cd o.dst (.cv (.one v)) {st.c with nk:=st.c.nk+1}).o k=if st.c.nk=k then some (.fix cs t)else aM st.m st.o k:=λk=>by
  rw [q2,q4];exact LQ k
 have wf1:({st with m:=(st.c.nk,cs,t)::st.m}:St).WF\/True := .inr trivial;refine⟨λhk=>by rw [(zk _ _ _ _).1];exact hk,(zk _ _ _ _).2,q3,q5,q6,by rw [q1];exact hle, ?_,λt'=>zl _ o.dst _ _ t',λd hd=>(h4 d hd).1,λk hk=>(by cases hk),λk hk _=>(by rw [hm,if_neg (by omega)]),λk e' hk hg x hx => ?_,λβ a w hB ho hr _ next Q' hn => ?_⟩
 ·have g:=wf.grow hle;refine⟨λi => ?_,λk jt t' hg => ?_,by rw [q4,q1];exact g.o,λk x hk => ?_,by rw [q5,q1];exact g.r,by rw [q6,q1];exact g.d,by rw [(zk _ _ _ _).1,q1];exact g.k,by rw [(zk _ _ _ _).2,q1];exact g.df⟩
  ·rw [zl,q1];by_cases hd:o.dst=some i
   ·rw [if_pos hd];exact (h4 i hd).2
   ·rw [if_neg hd];exact g.t i
  ·rw [q2,DY]at hg;rw [q1];by_cases hk:st.c.nk=k
   ·rw [if_pos hk]at hg;cases hg;exact⟨by simp [<-hk],BS hle h1⟩
   ·rw [if_neg hk]at hg;exact g.m k jt t' hg
  ·rw [q4]at hk;rw [q2,DY]
   have:=(wf.o k x.1 x.2.1 x.2.2 hk).1
   rw [if_neg (by omega)];exact wf.ap k x hk
 ·rcases hk with hk|hk
  ·cases hk
  ·rw [hm]at hg;by_cases cQ:st.c.nk=k
   ·rw [if_pos cQ]at hg;cases hg;exact .inl (kF x hx)
   ·rw [if_neg cQ,wf.beyond hk]at hg;cases hg
 ·unfold Oper.wp;rw [h3 β a w ho,Oper.upon_value];have LS:∀k,k<st.c.nk->(λk=>if k=st.c.nk then w.heap.size else β k) k=β k:=λk hk=>if_neg (Nat.ne_of_lt hk);refine hn (λk=>if k=st.c.nk then w.heap.size else β k) _ _ (λ_ => ?_) ⟨rfl,rfl,rfl,by simp,λb hb _ => ?_,λk hk => ?_,λk e' hk hg => ?_,λk k' e e' _ hk gE hg fx _ _ => ?_⟩
  ·show _=v.den U _;rw [h2];simp only [if_true]
  ·exact Below.heap_alloc _ _ _ hb
  ·rw [q1]at hk;exact if_neg (by intro he;subst he;simp at hk)
  ·rcases hk with hk|hk
   ·cases hk
   ·rw [hm]at hg;by_cases cQ:st.c.nk=k
    ·rw [if_pos cQ]at hg;cases hg;subst cQ;refine⟨⟨?_, ?_⟩,λb hb=>.inl ?_⟩
     ·simp only [if_true];exact fv.mk (.inr hB.size)
     ·simp only [if_true];rw [yJ (Env.ao _ U) LS h1];show (w.heap.push _)[w.heap.size]? = _;simp
     ·simp only [bM,if_true,Option.some.injEq]at hb;omega
    ·rw [if_neg cQ,wf.beyond hk]at hg;cases hg
  ·have one:∀{k e},(k∈([]:List Nat)\/st.c.nk<=k)->aM ({st with m:=(st.c.nk,cs,t)::st.m}.cd o.dst (.cv (.one v)) {st.c with nk:=st.c.nk+1}).m ({st with m:=(st.c.nk,cs,t)::st.m}.cd o.dst (.cv (.one v)) {st.c with nk:=st.c.nk+1}).o k=some e->k=st.c.nk:=by
    intro k e hk hg;rcases hk with hk|hk
    ·cases hk
    ·rw [hm]at hg;by_cases cQ:st.c.nk=k
     ·exact cQ.symm
     ·rw [if_neg cQ,wf.beyond hk]at hg;cases hg
   rw [one hk hg,one gE fx]
theorem LU{m:Mem}{o:bA}{k0:Nat}{cs jt:List At}{t:TypeId}(h:getM m k0=some (cs,t))(k:Nat):aM (jA m k0 jt) o k=if k0=k then some (.fix jt t)else aM m o k:=by
 unfold aM;rw [uW];by_cases hk:k0=k
 ·subst hk;rw [if_pos rfl,if_pos rfl,h];rfl
 ·rw [if_neg hk,if_neg hk]
theorem LV{st:St}{o:Oper}{U:Env}{k0:Nat}{cs jt:List At}{t:TypeId}(wf:st.WF)(dL:getM st.m k0=some (cs,t))(lj:k0∈a8 st o)(h3:jt.all (At.wf st.c)=true)(kF:∀x∈aN jt,x∈di st o\/x∈aN cs)
  (h4:∀(β:Nat->Nat) (a:Act) (w:World),dV st o U β a->w.heap[β k0]? = some (.cells (cs.map (At.den U β)).toArray t)->(execOp a.eval o).run P w=.ok .skip (w.setRow (β k0) (jt.map (At.den U β)).toArray))
  (h5:ji {st with m:=jA st.m k0 jt} o.dst .any st.c):iO P W st o U ({st with m:=jA st.m k0 jt}.cd o.dst .any st.c) .any [k0]:=by
 obtain⟨q1,q2,q3,q4,q5,q6⟩:=kO {st with m:=jA st.m k0 jt} o.dst .any st.c
 have hm:∀k,aM ({st with m:=jA st.m k0 jt}.cd o.dst .any st.c).m ({st with m:=jA st.m k0 jt}.cd o.dst .any st.c).o k=if k0=k then some (.fix jt t)else aM st.m st.o k:=λk=>by
  rw [q2,q4];exact LU dL k
 have oc:=(wf.m k0 cs t dL).1;refine⟨λhk=>by rw [(zk _ _ _ _).1];exact hk,(zk _ _ _ _).2,q3,q5,q6,by rw [q1];exact ar.le_refl _, ?_,λt'=>zl _ o.dst _ _ t',λd hd=>(h5 d hd).1,λk hk => ?_,λk _ hk => ?_,λk e' hk hg x hx => ?_,λβ a w hB ho hr _ next Q' hn => ?_⟩
 ·refine⟨λi => ?_,λk LW t2 hg => ?_,by rw [q4,q1];exact wf.o,λk x hk => ?_,by rw [q5,q1];exact wf.r,by rw [q6,q1];exact wf.d,by rw [(zk _ _ _ _).1,q1];exact wf.k,by rw [(zk _ _ _ _).2,q1];exact wf.df⟩
  ·rw [zl,q1];by_cases hd:o.dst=some i
   ·rw [if_pos hd];rfl
   ·rw [if_neg hd];exact wf.t i
  ·rw [q2,uW]at hg;rw [q1];by_cases hk:k0=k
   ·subst hk;rw [if_pos rfl,dL]at hg;simp only [Option.map_some,Option.some.injEq,Prod.mk.injEq]at hg;obtain⟨rfl,rfl⟩:=hg;exact⟨oc,h3⟩
   ·rw [if_neg hk]at hg;exact wf.m k LW t2 hg
  ·rw [q4]at hk;rw [q2,uW]
   have:=wf.ap k x hk
   by_cases cQ:k0=k
   ·subst cQ;rw [if_pos rfl,this];rfl
   ·rw [if_neg cQ];exact this
 ·simp only [List.mem_singleton]at hk;subst hk;exact⟨lj,oc⟩
 ·rw [hm,if_neg (λe=>hk (by simp [e]))]
 ·rw [hm]at hg;by_cases cQ:k0=k
  ·rw [if_pos cQ]at hg;cases hg;rcases kF x hx with h|h
   ·exact .inl h
   ·exact .inr ⟨k0,_,List.mem_append.2 (.inr lj),o5 dL,h⟩
  ·rw [if_neg cQ]at hg;rcases hk with hk|hk
   ·simp only [List.mem_singleton]at hk;exact (cQ hk.symm).elim
   ·rw [wf.beyond hk]at hg;cases hg
 ·obtain⟨m1,m2⟩:=hr k0 (List.mem_append.2 (.inr lj)) _ (o5 dL);unfold Oper.wp;rw [h4 β a w ho m2,Oper.upon_skip];refine hn β _ _ (λh=>(h rfl).elim) ⟨rfl,rfl,rfl,by rw [setRow_size];exact Nat.le_refl _,λb hb sX => ?_,λ_ _=>rfl,λk e' hk hg => ?_,λk k' e e' _ hk gE hg fx _ _ => ?_⟩
  ·exact LC _ _ _ _ λhe=>sX k0 _ (by simp) (o5 dL) (by simp [bM,he])
  ·rw [hm]at hg;by_cases cQ:k0=k
   ·rw [if_pos cQ]at hg;cases hg;subst cQ;refine⟨⟨m1,setRow_heap w _ _ _ _ _ m2⟩,λb hb=>.inr ⟨k0,_,by simp,o5 dL, ?_,.inl rfl⟩⟩;simpa [bM]using hb
   ·rw [if_neg cQ]at hg;rcases hk with hk|hk
    ·simp only [List.mem_singleton]at hk;exact (cQ hk.symm).elim
    ·rw [wf.beyond hk]at hg;cases hg
  ·have one:∀{k e},(k ∈ [k0]\/st.c.nk<=k)->aM ({st with m:=jA st.m k0 jt}.cd o.dst .any st.c).m ({st with m:=jA st.m k0 jt}.cd o.dst .any st.c).o k=some e->k=k0:=by
    intro k e hk hg;rcases hk with hk|hk
    ·simpa using hk
    ·rw [hm,if_neg (by omega),wf.beyond hk]at hg;cases hg
   rw [one hk hg,one gE fx]
theorem Fk{k:Nat}:∀{ns:List (Nat × List At × TypeId)} {m:Mem},k ∉ ns.map (·.1)->getM (gi m ns) k=getM m k
  | [],m,h=>rfl
  | (j,cs,t)::r,m,h=>by
    simp only [List.map_cons,List.mem_cons,not_or]at h;simp only [gi];rw [Fk h.2,uW,if_neg (λe=>h.1 e.symm)]
theorem LX{x:Nat × List At × TypeId}{cs:List At}{t:TypeId}:∀{ns:List (Nat × List At × TypeId)} {m:Mem},(ns.map (·.1)).Nodup->x∈ns->getM m x.1=some (cs,t)->getM (gi m ns) x.1=some (x.2.1,t)
  | [],m,_,h,_=>by cases h
  | (j,jt,t')::r,m,hn,h,hg=>by
    simp only [List.map_cons,List.nodup_cons]at hn;simp only [gi];rcases List.mem_cons.1 h with h|h
    · subst h;rw [Fk hn.1,uW,if_pos rfl,hg];rfl
    · refine LX (cs:=cs) hn.2 h ?_;rw [uW,if_neg λe=>hn.1 (List.mem_map.2 ⟨x,h,e.symm⟩)];exact hg
theorem LY{st:St}{o:Oper}{U:Env}{ns:List (Nat × List At × TypeId)}{sv:SV}{c:ar}(wf:st.WF)(h2:st.c.le c)(yv:(ns.map (·.1)).Nodup)(dL:∀ x∈ns,∃ cs,getM st.m x.1=some (cs,x.2.2)/\∀ y∈aN x.2.1,y∈aN cs)
    (lj:∀x∈ns,x.1∈a8 st o) (h3:∀x∈ns,x.2.1.all (At.wf c)=true)
    (h4:∀(β:Nat->Nat) (a:Act) (w:World),dT W w->dV st o U β a->fV W st.m st.o (bd st o++a8 st o) U β w->(ns.map λx=>β x.1).Nodup ->
      ∀(next:Act->World->Prop) (Q':Exit->Act->World->Prop),(∀v w',v=sv.den U β->wJ (ns.map λx=>β x.1) w w'->(∀x∈ns,w'.heap[β x.1]? = some (.cells (x.2.1.map (At.den U β)).toArray x.2.2))->next (a.put o.dst v) w')->o.wp P a w next Q')
    (h5:ji {st with m:=gi st.m ns} o.dst sv c):iO P W st o U ({st with m:=gi st.m ns}.cd o.dst sv c) sv (ns.map (·.1)):=by
  obtain⟨q1,q2,q3,q4,q5,q6⟩:=kO {st with m:=gi st.m ns} o.dst sv c
  have Tm:∀x∈ns,aM ({st with m:=gi st.m ns}.cd o.dst sv c).m ({st with m:=gi st.m ns}.cd o.dst sv c).o x.1=some (.fix x.2.1 x.2.2):=λx hx=>by
    obtain⟨cs,h,_⟩:=dL x hx;rw [q2,q4];exact o5 (LX yv hx h)
  have Cf:∀k,k ∉ ns.map (·.1)->aM ({st with m:=gi st.m ns}.cd o.dst sv c).m ({st with m:=gi st.m ns}.cd o.dst sv c).o k=aM st.m st.o k:=λk hk=>by
    rw [q2,q4];unfold aM;rw [Fk hk]
  have oc:∀x∈ns,x.1<st.c.nk:=λx hx=>by
    obtain⟨cs,h,_⟩:=dL x hx;exact (wf.m _ _ _ h).1
  have g:=wf.grow h2;refine⟨λhk=>by rw [(zk _ _ _ _).1];exact hk,(zk _ _ _ _).2,q3,q5,q6,by rw [q1];exact h2, ?_,λt'=>zl _ o.dst _ _ t',λd hd=>(h5 d hd).1,λk hk => ?_,λk _ hk=>Cf k hk,λk e' hk hg x hx => ?_,λβ a w hB ho hr lg next Q' hn => ?_⟩
  · refine⟨λi => ?_,λk LW t2 hg => ?_,by rw [q4,q1];exact g.o,λk x hk => ?_,by rw [q5,q1];exact g.r,by rw [q6,q1];exact g.d,by rw [(zk _ _ _ _).1,q1];exact g.k,by rw [(zk _ _ _ _).2,q1];exact g.df⟩
    · rw [zl,q1];by_cases hd:o.dst=some i
      · rw [if_pos hd];exact (h5 i hd).2
      · rw [if_neg hd];exact g.t i
    · rw [q2]at hg;rw [q1];by_cases hk:k∈ns.map (·.1)
      · obtain⟨x,hx,rfl⟩:=List.mem_map.1 hk;obtain⟨cs,h,_⟩:=dL x hx;rw [LX yv hx h]at hg;simp only [Option.some.injEq,Prod.mk.injEq]at hg;obtain⟨rfl,rfl⟩:=hg;exact⟨Nat.lt_of_lt_of_le (oc x hx) h2.k,h3 x hx⟩
      · rw [Fk hk]at hg;exact g.m k LW t2 hg
    · rw [q4]at hk;rw [q2]
      have:=wf.ap k x hk
      by_cases cQ:k∈ns.map (·.1)
      · obtain⟨y,hy,rfl⟩:=List.mem_map.1 cQ;obtain⟨cs,h,_⟩:=dL y hy;rw [h]at this;cases this
      · rw [Fk cQ];exact this
  · obtain⟨x,hx,rfl⟩:=List.mem_map.1 hk;exact⟨lj x hx,oc x hx⟩
  · by_cases cQ:k∈ns.map (·.1)
    · obtain⟨y,hy,rfl⟩:=List.mem_map.1 cQ;rw [Tm y hy]at hg;cases hg;obtain⟨cs,h,hi⟩:=dL y hy;exact .inr ⟨y.1,_,List.mem_append.2 (.inr (lj y hy)),o5 h,hi x hx⟩
    · rw [Cf k cQ]at hg;rcases hk with hk|hk
      · exact (cQ hk).elim
      · rw [wf.beyond hk]at hg;cases hg
  · have fz:∀ x∈ns,∃ cs,aM st.m st.o x.1=some (.fix cs x.2.2):=fun x hx=>by
      obtain⟨cs,h,_⟩:=dL x hx;exact⟨cs,o5 h⟩
    have LZ:∀{k e},(k∈ns.map (·.1)\/st.c.nk<=k)->aM ({st with m:=gi st.m ns}.cd o.dst sv c).m ({st with m:=gi st.m ns}.cd o.dst sv c).o k=some e->∃x∈ns,x.1=k/\e=.fix x.2.1 x.2.2:=λ{k e} hk hg=>by
      by_cases cQ:k∈ns.map (·.1)
      · obtain⟨y,hy,rfl⟩:=List.mem_map.1 cQ;rw [Tm y hy]at hg;cases hg;exact⟨y,hy,rfl,rfl⟩
      · rw [Cf k cQ]at hg;rcases hk with hk|hk
        · exact (cQ hk).elim
        · rw [wf.beyond hk]at hg;cases hg
    have nd:(ns.map λx=>β x.1).Nodup:=by
      have key:∀l:List (Nat × List At × TypeId),(∀x∈l,x∈ns)->(l.map (·.1)).Nodup->(l.map λx=>β x.1).Nodup:=by
        intro l
        induction l with
        |nil=>intro _ _;exact List.nodup_nil
        |cons x l ih =>
          intro rX hn;simp only [List.map_cons,List.nodup_cons]at hn ⊢;refine⟨λhm => ?_,ih (λy hy=>rX y (List.mem_cons_of_mem _ hy)) hn.2⟩;obtain⟨y,hy,he⟩:=List.mem_map.1 hm;obtain⟨cs,h⟩:=fz x (rX x (List.mem_cons_self ..));obtain⟨jt,h'⟩:=fz y (rX y (List.mem_cons_of_mem _ hy))
          have:=lg x.1 y.1 _ _ (β x.1) (lj x (rX x (List.mem_cons_self ..))) (lj y (rX y (List.mem_cons_of_mem _ hy))) h h' (by simp [bM]) (by simp [bM,he])
          exact hn.1 (List.mem_map.2 ⟨y,hy,this.symm⟩)
      exact key ns (λx hx=>hx) yv
    refine h4 β a w hB ho hr nd next Q' λv w' hv hx hb=>hn β v w' (λ_=>hv) ⟨hx.os,hx.tape,hx.output,hx.size,λb Tn sX => ?_,λ_ _=>rfl,λk e' hk hg => ?_,λk k' e e' b hk gE hg fx oF iP => ?_⟩
    · refine hx.block b Tn λhm => ?_;obtain⟨y,hy,he⟩:=List.mem_map.1 hm;obtain⟨cs,h⟩:=fz y hy;exact sX y.1 _ (List.mem_map.2 ⟨y,hy,rfl⟩) h (by simp [bM,he])
    · obtain⟨y,hy,rfl,rfl⟩:=LZ hk hg;obtain⟨cs,h⟩:=fz y hy;refine⟨⟨(hr y.1 (List.mem_append.2 (.inr (lj y hy))) _ h).1,hb y hy⟩,λb oF=>.inr ⟨y.1,_,List.mem_map.2 ⟨y,hy,rfl⟩,h, ?_,.inl rfl⟩⟩;simpa [bM]using oF
    · obtain⟨y,hy,rfl,rfl⟩:=LZ hk hg;obtain⟨y',fP,rfl,rfl⟩:=LZ gE fx;obtain⟨cs,h⟩:=fz y hy;obtain⟨jt,h'⟩:=fz y' fP;exact lg y.1 y'.1 _ _ b (lj y hy) (lj y' fP) h h' (by simpa [bM]using oF) (by simpa [bM]using iP)
theorem L0{m:Mem}{o:bA}{k0:Nat}{ce fN:CE}{sz:Nat}{el:TypeId}(hm:getM m k0=none)(h:aO o k0=some (ce,sz,el))(k:Nat):aM m (dS o k0 fN) k=if k0=k then some (.row fN sz el)else aM m o k:=by
 unfold aM;rw [Cd];by_cases hk:k0=k
 ·subst hk;rw [if_pos rfl,if_pos rfl,hm,h];rfl
 ·rw [if_neg hk,if_neg hk]
theorem L1{st:St}{o:Oper}{U:Env}{k0:Nat}{ce fN:CE}{sz:Nat}{el:TypeId}{sv:SV}{c:ar}(wf:st.WF)(hle:st.c.le c)(dL:aO st.o k0=some (ce,sz,el))(lj:k0∈a8 st o)(h3:cw c fN=true)(kF:fN.flatMap cO=[])
  (h4:∀(β:Nat->Nat) (a:Act) (w:World),dT W w->dV st o U β a->fV W st.m st.o (bd st o++a8 st o) U β w ->
   ∀(next:Act->World->Prop) (Q':Exit->Act->World->Prop),(∀v w',v=sv.den U β->(β (k0+1)<=1->Below w.heap.size w w')->(2<=β (k0+1)->yS (β k0) w w')->bT (λ_=>True) (β k0) (β (k0+1)) (β (k0+2)) (β (k0+3)) (aq U β fN) sz el w'->next (a.put o.dst v) w')->o.wp P a w next Q')
  (h5:ji {st with o:=dS st.o k0 fN} o.dst sv c):iO P W st o U ({st with o:=dS st.o k0 fN}.cd o.dst sv c) sv [k0]:=by
 obtain⟨q1,q2,q3,q4,q5,q6⟩:=kO {st with o:=dS st.o k0 fN} o.dst sv c;have me:=wf.ap k0 _ dL
 have hm:∀k,aM ({st with o:=dS st.o k0 fN}.cd o.dst sv c).m ({st with o:=dS st.o k0 fN}.cd o.dst sv c).o k=if k0=k then some (.row fN sz el)else aM st.m st.o k:=λk=>by
  rw [q2,q4];exact L0 me dL k
 have oc:=(wf.o k0 ce sz el dL).1;have g:=wf.grow hle;refine⟨λhk=>by rw [(zk _ _ _ _).1];exact hk,(zk _ _ _ _).2,q3,q5,q6,by rw [q1];exact hle, ?_,λt'=>zl _ o.dst _ _ t',λd hd=>(h5 d hd).1,λk hk => ?_,λk _ hk => ?_,λk e' hk hg x hx => ?_,λβ a w hB ho hr _ next Q' hn => ?_⟩
 ·refine⟨λi => ?_,by rw [q2,q1];exact g.m,λk L2 L3 t2 hg => ?_,λk x hk => ?_,by rw [q5,q1];exact g.r,by rw [q6,q1];exact g.d,by rw [(zk _ _ _ _).1,q1];exact g.k,by rw [(zk _ _ _ _).2,q1];exact g.df⟩
  ·rw [zl,q1];by_cases hd:o.dst=some i
   ·rw [if_pos hd];exact (h5 i hd).2
   ·rw [if_neg hd];exact g.t i
  ·rw [q4,Cd]at hg;rw [q1];by_cases hk:k0=k
   ·subst hk;rw [if_pos rfl,dL]at hg;simp only [Option.map_some,Option.some.injEq,Prod.mk.injEq]at hg;obtain⟨rfl,rfl,rfl⟩:=hg;exact⟨Nat.lt_of_lt_of_le oc hle.k,h3⟩
   ·rw [if_neg hk]at hg;exact g.o k L2 L3 t2 hg
  ·rw [q4,Cd]at hk;rw [q2];by_cases cQ:k0=k
   ·subst cQ;exact me
   ·rw [if_neg cQ]at hk;exact wf.ap k x hk
 ·simp only [List.mem_singleton]at hk;subst hk;exact⟨lj,by omega⟩
 ·rw [hm,if_neg (λe=>hk (by simp [e]))]
 ·rw [hm]at hg;by_cases cQ:k0=k
  ·rw [if_pos cQ]at hg;cases hg;simp only [fe,kF]at hx;cases hx
  ·rw [if_neg cQ]at hg;rcases hk with hk|hk
   ·simp only [List.mem_singleton]at hk;exact (cQ hk.symm).elim
   ·rw [wf.beyond hk]at hg;cases hg
 ·have hold:=hr k0 (List.mem_append.2 (.inr lj)) _ (lb me dL);simp only [Holds]at hold;refine h4 β a w hB ho hr next Q' λv w' hv iQ jS bD => ?_
  have base:w'.os=w.os/\w'.tape=w.tape/\w'.output=w.output/\w.heap.size<=w'.heap.size/\∀b,b<w.heap.size->(2<=β (k0+1)->b≠β k0)->w'.heap[b]? = w.heap[b]? := by
   by_cases hc:β (k0+1)<=1
   ·have h:=iQ hc;exact⟨h.os,h.tape,h.output,h.size,λb hb _=>h.block b hb⟩
   ·have h:=jS (by omega);exact⟨h.os,h.tape,h.output,h.size,λb hb hn=>h.block b hb (hn (by omega))⟩
  obtain⟨r3,r4,r5,r6,r7⟩:=base;refine hn β v w' (λ_=>hv) ⟨r3,r4,r5,r6,λb hb sX=>r7 b hb λh2 he=>sX k0 _ (by simp) (lb me dL) (by simp only [bM,h2,if_true,he]),λ_ _=>rfl,λk e' hk hg => ?_,λk k' e e' _ hk gE hg fx _ _ => ?_⟩
  ·rw [hm]at hg;by_cases cQ:k0=k
   ·rw [if_pos cQ]at hg;cases hg;subst cQ;refine⟨?_,λb hb=>.inr ⟨k0,_,by simp,lb me dL,hb,.inl rfl⟩⟩;simp only [Holds];exact bD.imp λh2 _=>bT.own hold h2
   ·rw [if_neg cQ]at hg;rcases hk with hk|hk
    ·simp only [List.mem_singleton]at hk;exact (cQ hk.symm).elim
    ·rw [wf.beyond hk]at hg;cases hg
  ·have one:∀{k e},(k ∈ [k0]\/st.c.nk<=k)->aM ({st with o:=dS st.o k0 fN}.cd o.dst sv c).m ({st with o:=dS st.o k0 fN}.cd o.dst sv c).o k=some e->k=k0:=by
    intro k e hk hg;rcases hk with hk|hk
    ·simpa using hk
    ·rw [hm,if_neg (by omega),wf.beyond hk]at hg;cases hg
   rw [one hk hg,one gE fx]
end Vc
set_option linter.unusedVariables false
namespace Vc
open Go Go.RowKit
variable {P:Program} {W:eJ} {Q:Value->Prop} {QM QP:World->Value->Prop}
theorem zd:∀(x y:List At),aN (x++y)=aN x++aN y
  | [],_=>rfl
  |a::x,y=>by
    have:=zd x y
    cases a<;>simp [aN,this]
theorem Cg{x:Nat}(l:List At)(n:Nat)(h:x∈aN (l.take n)):x∈aN l:=by
 have:=zd (l.take n) (l.drop n)
 rw [List.take_append_drop]at this;rw [this];exact List.mem_append.2 (.inl h)
theorem Ch{x:Nat}(l:List At)(n:Nat)(h:x∈aN (l.drop n)):x∈aN l:=by
 have:=zd (l.take n) (l.drop n)
 rw [List.take_append_drop]at this;rw [this];exact List.mem_append.2 (.inr h)
theorem To{v:Value}{a:At}(h:At.ofValue v=some a):aN [a]=[]:=by
  unfold At.ofValue at h
  split at h<;>first
    | (cases h;rfl)
    | (split at h
       · cases h;rfl
       · cases h)
    |cases h
theorem Tq:∀{l:List Value} {r:List At},lX l=some r->aN r=[]
  | [],r,h=>by simp only [lX,Option.some.injEq]at h;subst h;rfl
  |v::l,r,h=>by
    simp only [lX]at h;split at h
    · rename_i a r' h1 h2;simp only [Option.some.injEq]at h;subst h;rw [show a::r'=[a]++r' from rfl,zd,To h1,Tq h2];rfl
    · cases h
theorem L4{t:TypeId}{z:CV}(h:c_ P t=some z):aN z.cells=[]:=by
  unfold c_ at h;cases hi:P.info? t with
  |none=>simp [hi]at h
  |some i =>
    simp only [hi]at h;cases hz:i.zero with
    |none=>simp [hz]at h
    |some v =>
      simp only [hz]at h;generalize hs:SV.ofValue v=sv at h;cases sv with
      |cv x =>
        simp only [Option.some.injEq]at h;subst h;unfold SV.ofValue at hs;split at hs
        · split at hs
          · rename_i l hl;cases hs;exact Tq hl
          · cases hs
        · split at hs
          · rename_i a ha;cases hs;exact To ha
          · cases hs
      |_=>simp at h
theorem L5(l:List At)(h:aN l=[]):∀n,aN (times l n)=[]
 |0=>rfl
 |n+1=>by simp only [times,zd,h,L5 l h n,List.nil_append]
theorem Tr{place:Nat->Option (Nat × Nat)}{x:Nat}:∀(parts:List (Nat × SV)) (cells:List At) {cs:List At},cN place cells parts=some cs->x∈aN cs->x∈aN cells\/x∈parts.flatMap λp=>eX p.2
  | [],cells,cs,h,hx=>by simp only [cN,Option.some.injEq]at h;subst h;exact .inl hx
  | (i,.any)::r,_,_,h,_=>by simp [cN]at h
  | (i,.dX)::r,_,_,h,_=>by simp [cN]at h
  | (i,.cS l)::r,_,_,h,_=>by simp [cN]at h
  | (i,.cv v)::r,cells,cs,h,hx=>by
    simp only [cN]at h;split at h
    · rename_i off size _;split at h
      · rcases Tr r _ h hx with h1|h1
        · rw [zd,zd]at h1;rcases List.mem_append.1 h1 with h2|h2
          · rcases List.mem_append.1 h2 with h3|h3
            · exact .inl (Cg _ _ h3)
            · exact .inr (List.mem_flatMap.2 ⟨_,List.mem_cons_self,h3⟩)
          · exact .inl (Ch _ _ h2)
        · obtain⟨p,hp,L6⟩:=List.mem_flatMap.1 h1;exact .inr (List.mem_flatMap.2 ⟨p,List.mem_cons_of_mem _ hp,L6⟩)
      · cases h
    · cases h
theorem Ts{st:St}{o:Oper}{t el:TypeId}{len:Nat}{parts:Array (Nat × Operand)}(ho:o.op=.buildSlice t len parts)(hu:P.underlying t=some (.slice el)){g:Bool}{s:Nat}{z:CV}(hz:aQ P el=some (g,s))(wV:c_ P el=some z)
  (hc:z.cells.length=s/\0<s/\0<len/\len*s<=4096) {cs:List At} (hf:cN (λi=>some (i*s,s)) (times z.cells len) (parts.toList.map λp=>(p.1,st.ev p.2))=some cs) {J:Env} {β:Nat->Nat} {a:Act} {w:World} (bE:dV st o J β a) :
  (execOp a.eval o).run P w=.ok (.value (.slice (some ⟨w.heap.size,0,none⟩) len len)) (w.alloc (.cells (cs.map (At.den J β)).toArray el)):=by
 obtain⟨c1,c2,c3,c4⟩:=hc;have q1:=(AR wV J β w st.c).1;have q3:=II J β _ _ hf;have fw:=IN _ _ hf
 have e1:(parts.map λx=>(x.1,a.eval x.2)).toList=(parts.toList.map λp=>(p.1,st.ev p.2)).map λp=>(p.1,p.2.den J β):=by
  rw [List.map_map,Array.toList_map];apply List.map_congr_left;intro p hp
  have:=bE p.2 (by rw [ho];simp only [Op.operands];exact Ff (by simpa using ⟨p.1,Array.mem_toList_iff.1 hp⟩)) (fw (p.1,st.ev p.2) (List.mem_map.2 ⟨p,hp,rfl⟩))
  simp [this]
 have Fl:(z.den J β).cells.size=s:=by rw [CV.bG];simpa using c1
 have q4:=Tj (z.den J β).cells len (by rw [Fl];exact c2);rw [Fl]at q4;have n1:¬(len*s > 2 ^ 24):=by omega
 have n2:¬(len*s=0):=by
  have:=Nat.mul_pos c3 c2;omega
 simp only [execOp,ho,Instr.buildSlice,Sem.run_bind,run_underlying hu,Result.andThen_ok,ri hz,n1,n2,if_false,q1,Sem.run_pure,e1,Fl,q4];rw [show times (z.den J β).cells.toList len=(times z.cells len).map (At.den J β) by rw [LD,CV.bG],q3];simp [newRow]
theorem WU{G:bV}(hG:G.Ok){st:St}{o:Oper}{K:St->Env->Prop}{U:Env}(wf:st.WF)(gV:cr.den st.k U)(h:mv (PA G.P W Q QM QP) G st o K U):rp G.P W st o K U:=by
 have new:∀{cs:List At} {t:TypeId} {v:Nat->At} (vd:Nat->Value),St.new (PA G.P W Q QM QP) st o.dst cs t v K U->(∀x∈aN cs,x∈di st o)->(∀(J:Env) (β:Nat->Nat),(v st.c.nk).den J β=vd (β st.c.nk)) ->
   (∀J,Env.aC st.c U J->∀(β:Nat->Nat) (a:Act) (w:World),dV st o J β a->(execOp a.eval o).run G.P w=.ok (.value (vd w.heap.size)) (w.alloc (.cells (cs.map (At.den J β)).toArray t))) ->
   rp G.P W st o K U:=by
  intro cs t v vd h kF hv hr;unfold St.new at h;by_cases hw:cs.all (At.wf st.c)=true
  ·rw [if_pos hw,Iw]at h;obtain⟨h1,h2⟩:=ze h;have hc:=(kO {st with m:=(st.c.nk,cs,t)::st.m} o.dst (.cv (.one (v st.c.nk))) {st.c with nk:=st.c.nk+1}).1;have hle:=ar.lV st.c 1;refine⟨_,U,.cv (.one (v st.c.nk)),[],h1,by rw [hc];exact hle,Env.ao _ _,λJ hl => ?_⟩;rw [hc]at hl;have gj:Env.aC st.c U J:=⟨hl.i,hl.b,hl.v,hl.p,hl.s,hl.l⟩;exact LR wf hw kF (hv J) (hr J gj) h2
  ·rw [if_neg hw]at h;exact h.elim
 unfold mv at h;generalize ho:o.op=op at h;cases op
 case alloc t =>
  simp only at h;generalize hz:c_ G.P t=u at h;split at h
  ·rename_i z;refine new (λB=>.pointer (some ⟨B,0,none⟩)) h (by rw [L4 hz];intro x hx;cases hx) (λ_ _=>rfl) λJ hl β a w bE => ?_;have q1:=(AR hz J β w st.c).1;simp [execOp,ho,Instr.alloc,q1,newVar,newRow,CV.bG]
  ·exact h.elim
 case box t x =>
  simp only at h;generalize hx:st.ev x=sx at h;split at h
  ·rename_i v;refine new (λB=>.pointer (some ⟨B,0,none⟩)) h (λy hy=>by simp only [di,ho,hx];exact hy) (λ_ _=>rfl) λJ hl β a w bE => ?_;have e1:=bE x (by rw [ho];simp [Op.operands]) (by rw [hx];simp);rw [hx]at e1;simp [execOp,ho,e1,Instr.box,newVar,newRow,SV.den,CV.bG]
  ·exact h.elim
 case store t x y =>
  simp only at h;generalize hz:aQ G.P t=u1 at h;generalize hx:st.ev x=sx at h;generalize fP:st.ev y=sy at h;split at h
  ·rename_i g n k off v;generalize hm:getM st.m k=u2 at h;split at h
   ·rename_i cs ty;split at h
    ·rename_i hc;obtain⟨mS,jV,pQ⟩:=hc;obtain⟨h1,h2⟩:=ze h;have hc:=(kO {st with m:=jA st.m k (cs.take off++v.cells++cs.drop (off+n))} o.dst .any st.c).1;refine⟨_,U,.any,[k],h1,by rw [hc];exact ar.le_refl _,Env.ao _ _,λJ hl => ?_⟩;refine LV wf hm (by simp [a8,ho,hx,aV,CV.cells,aE]) ?_ (λy hy => ?_) (λβ a w bE m2 => ?_) h2
     ·have:=(wf.m k cs ty hm).2
      simp only [List.all_append,(zr this off).1,(zr this (off+n)).2,CV.dK pQ,Bool.and_self]
     ·rw [zd,zd]at hy;rcases List.mem_append.1 hy with hy|hy
      ·rcases List.mem_append.1 hy with hy|hy
       ·exact .inr (Cg _ _ hy)
       ·simp only [di,ho,fP];exact .inl hy
      ·exact .inr (Ch _ _ hy)
     ·have e1:=bE x (by rw [ho];simp [Op.operands]) (by rw [hx];simp);have e2:=bE y (by rw [ho];simp [Op.operands]) (by rw [fP];simp);rw [hx]at e1;rw [fP]at e2
      have hs:=Th (g:=g) hz w (β k) off (v.den J β) _ ty m2 (by rw [CV.bG];simpa using mS) (by simpa using jV) (by
       rw [CV.bG];intro z Fm;simp only [List.mem_map]at Fm;obtain⟨q,_,rfl⟩:=Fm;exact At.hJ J β q)
      rw [CV.bG]at hs;simp only [<-SU]at hs;have Ci:a.eval x=ptr (β k) off:=e1;have Cj:a.eval y=v.den J β:=e2;simp only [execOp,ho,Ci,Cj,Sem.run_bind,hs,Result.andThen_ok,Sem.run_pure]
    ·exact h.elim
   ·exact h.elim
  ·exact h.elim
 case makeInterface t x =>
  simp only at h;generalize hu:G.P.underlying t=u1 at h;generalize hx:st.ev x=sx at h;split at h
  ·exact h.elim
  ·rename_i d v wR;split at h
   ·rename_i hv;obtain⟨Ck,y7⟩:=hv;have h:=h ⟨.iface t (v.den U b0),rfl⟩ rfl;have hle:st.c.le {st.c with nv:=st.c.nv+1}:=zq st.c .vD;have dE:=ES st.c U ⟨.iface t (v.den U b0),rfl⟩;obtain⟨h1,h2⟩:=ze h;have hc:=(kO {st with k := .jy st.c.nv t v::st.k} o.dst (.cv (.one (.val st.c.nv))) {st.c with nv:=st.c.nv+1}).1;refine⟨_,_,.cv (.one (.val st.c.nv)),[],h1,by rw [hc];exact hle,dE,λJ hl => ?_⟩;rw [hc]at hl;have gj:Env.aC st.c U J:=Env.aj hle dE hl
    have e0:(J.v st.c.nv).1=.iface t (v.den J b0):=by
     rw [hl.v st.c.nv (Nat.lt_succ_self _),CV.aa gj (λ_ _=>rfl) y7];exact congrArg (λy:OV=>y.1) (if_pos rfl)
    refine LO wf (bK.run λβ a w hB bE hr=>⟨.iface t (v.den J β), ?_,λ_ => ?_⟩) hle h2 (λz hz => ?_) (λhk z hz => ?_)
    ·have e1:=bE x (by rw [ho];simp [Op.operands]) (by rw [hx];simp);rw [hx]at e1;simp only [execOp,ho,e1];refine zf _ w _ ?_
     cases d<;>first
      | (exact (wR _ rfl).elim)
      | (simp [Instr.makeInterface,run_underlying hu,SV.den])
    ·show _=(J.v st.c.nv).1;rw [e0,CV.bC J β b0 Ck]
    ·rcases List.mem_cons.1 hz with rfl|hz
     ·simp only [Kn.wf,Bool.and_eq_true,decide_eq_true_eq];exact⟨Nat.lt_succ_self _,CV.aU hle y7,Ck⟩
     ·exact Kn.aU hle (wf.k z hz)
    ·rcases List.mem_cons.1 hz with rfl|hz
     ·exact e0
     ·exact hk z hz
   ·exact h.elim
  ·exact h.elim
 case buildSlice t len parts =>
  simp only at h;generalize hu:G.P.underlying t=u1 at h;split at h
  ·rename_i el;generalize hz:aQ G.P el=u2 at h;generalize wV:c_ G.P el=u3 at h;split at h
   ·rename_i g s z;split at h
    ·rename_i hc;obtain⟨c1,c2,c3,c4⟩:=hc;generalize hf:cN (λi=>some (i*s,s)) (times z.cells len) (parts.toList.map λp=>(p.1,st.ev p.2))=u4 at h;split at h
     ·rename_i cs;refine new (λB=>.slice (some ⟨B,0,none⟩) len len) h (λy hy => ?_) (λ_ _=>rfl) λJ hl β a w bE => ?_
      ·rcases Tr _ _ hf hy with h1|h1
       ·rw [L5 _ (L4 wV)]at h1;cases h1
       ·simp only [di,ho];simpa [List.flatMap_map]using h1
      exact Ts ho hu hz wV ⟨c1,c2,c3,c4⟩ hf bE
     ·exact h.elim
    ·exact h.elim
   ·exact h.elim
  ·exact h.elim
 all_goals
  obtain⟨sv,c',ag,h1,h2,h3,h4⟩:=LA hG wf gV h;by_cases hk:c'.nk=st.c.nk
  ·rw [if_pos hk]at h1;obtain⟨q1,q2⟩:=ze h1;have hc:=(kO st o.dst sv c').1;refine⟨_,ag,sv,[],q1,by rw [hc];exact h2,h3,λJ hl => ?_⟩;rw [hc]at hl;exact LN wf (h4 J hl) h2 q2
  ·rw [if_neg hk]at h1;exact h1.elim
theorem Tt{p:At->Bool}:∀{cs:List At} {jU:List Nat} {l:List At},cs.all p=true->l.all p=true->(iC cs jU l).all p=true
  |cs,[],l,h,_=>by simpa [iC]using h
  |cs,i::r,[],h,_=>by simpa [iC]using h
  |cs,i::r,a::l,h,hl=>by
    simp only [List.all_cons,Bool.and_eq_true]at hl;refine Tt (cs:=cs.take i++a::cs.drop (i+1)) (List.all_eq_true.2 λx hx => ?_) hl.2;rcases List.mem_append.1 hx with hx|hx
    · exact List.all_eq_true.1 h x (List.mem_of_mem_take hx)
    · rcases List.mem_cons.1 hx with rfl|hx
      · exact hl.1
      · exact List.all_eq_true.1 h x (List.mem_of_mem_drop hx)
theorem Tu{x:Nat}:∀{cs:List At} {jU:List Nat} {l:List At},aN l=[]->x∈aN (iC cs jU l)->x∈aN cs
  |cs,[],l,_,h=>by simpa [iC]using h
  |cs,i::r,[],_,h=>by simpa [iC]using h
  |cs,i::r,a::l,hl,h=>by
    have e:=zd [a] l;rw [List.singleton_append,hl]at e;have e':=(List.append_eq_nil_iff.1 e.symm);have h2:=Tu (cs:=cs.take i++a::cs.drop (i+1)) e'.2 h;have e2:=zd [a] (cs.drop (i+1));rw [List.singleton_append,e'.1,List.nil_append]at e2;rw [zd,e2]at h2;rcases List.mem_append.1 h2 with h3|h3
    · exact Cg _ _ h3
    · exact Ch _ _ h3
theorem Tv:∀(ks:List CK) (c:ar),ks.all CK.plain=true->aN (av c ks)=[]
  | [],c,_=>rfl
  |k::l,c,h=>by
    simp only [List.all_cons,Bool.and_eq_true]at h;have ih:=Tv l (bj c k) h.2;cases k<;>first | (simp only [av,bF,aN];exact ih) | (simp [CK.plain]at h)
theorem Tw{l:List At}(h:aN l=[])(n:Nat):aN (l.drop n)=[]:=by
 have:=zd (l.take n) (l.drop n)
 rw [List.take_append_drop,h]at this;exact (List.append_eq_nil_iff.1 this.symm).2
theorem Tx{cs:List At}:∀{jU:List Nat} {ks:List CK},jQ cs jU=some ks->ks.all CK.plain=true
  | [],ks,h=>by simp only [jQ,Option.some.injEq]at h;subst h;rfl
  |i::r,ks,h=>by
    simp only [jQ]at h;split at h
    · rename_i k l hk hl;simp only [Option.some.injEq]at h;subst h;simp only [List.all_cons,Bool.and_eq_true];refine⟨?_,Tx hl⟩;cases hc:cs[i]? with
      |none=>rw [hc]at hk;cases hk
      |some a =>
        rw [hc]at hk;simp only [Option.bind_some]at hk;cases a<;>simp only [wu,Option.some.injEq,reduceCtorEq]at hk<;>(subst hk;rfl)
    · cases h
theorem Ty{k:Nat}:∀{l:List SV} {j:Nat},l[j]? = some (.cv (.one (.loc k 0)))->k∈eW l
  | [],j,h=>by simp at h
  |x::l,0,h=>by
    simp only [List.getElem?_cons_zero,Option.some.injEq]at h;subst h;simp [eW]
  |x::l,j+1,h=>by
    have:=Ty (l:=l) (j:=j) (by simpa using h)
    unfold eW;split
    · cases ‹_::_=[]›
    · rename_i heq;simp only [List.cons.injEq]at heq;obtain⟨_,rfl⟩:=heq;exact List.mem_cons_of_mem _ this
    · rename_i heq;simp only [List.cons.injEq]at heq;obtain⟨_,rfl⟩:=heq;exact List.mem_cons_of_mem _ this
    · rename_i heq;simp only [List.cons.injEq]at heq;obtain⟨_,rfl⟩:=heq;exact this
theorem L7{l:List At}(h:aN l=[])(n:Nat):aN (l.take n)=[]:=by
 have:=zd (l.take n) (l.drop n)
 rw [List.take_append_drop,h]at this;exact (List.append_eq_nil_iff.1 this.symm).1
theorem Tz{m:Mem}{args:List SV}:∀{jo:List (Nat × List Nat)} {bl:List wy},i0 m args jo=some bl->∀e∈bl,(∃j:Nat,args[j]? = some (SV.cv (.one (.loc e.k 0))))/\getM m e.k=some (e.cs,e.t)/\jQ e.cs e.jU=some e.ks
  | [],bl,h,e,he=>by simp only [i0,Option.some.injEq]at h;subst h;cases he
  | (j,jU)::r,bl,h,e,he=>by
    simp only [i0]at h;split at h
    · rename_i k l h1 h2;split at h
      · rename_i cs t h3;split at h
        · rename_i ks h4;simp only [Option.some.injEq]at h;subst h;rcases List.mem_cons.1 he with rfl|he
          · exact⟨⟨j,h1⟩,h3,h4⟩
          · exact Tz h2 e he
        · cases h
      · cases h
    · cases h
theorem TA{x:Nat × List At × TypeId}:∀{bl:List wy} {fr:List At},x∈kD bl fr->∃e∈bl,∃n m,x=(e.k,iC e.cs e.jU ((fr.drop n).take m),e.t)
  | [],fr,h=>by cases h
  |e::r,fr,h=>by
    rcases List.mem_cons.1 h with rfl|h
    · exact⟨e,List.mem_cons_self ..,0,e.ks.length,rfl⟩
    · obtain⟨e',h1,n,m,h2⟩:=TA h;exact⟨e',List.mem_cons_of_mem _ h1,e.ks.length+n,m,by rw [h2,List.drop_drop]⟩
theorem TB:∀(bl:List wy) (fr:List At),(kD bl fr).map (·.1)=bl.map (·.k)
 | [],fr=>rfl
 |e::r,fr=>by simp only [kD,List.map_cons,TB r]
theorem WV{G:bV}(hG:G.Ok){st:St}{o:Oper}{K:St->Env->Prop}{U:Env}(wf:st.WF)(gV:cr.den st.k U){g:Operand}{args:Array Operand}{cu:Array TypeId}(ho:o.op=.call ⟨.value g,args,cu⟩){f:FuncId}{aK:List (Nat × Nat)}(hg:st.ev g=.cv (.one (.fn f aK)))
  {jo:List (Nat × List Nat)} {all:List SV} (cH:all=args.toList.map st.ev++aK.map λx=>SV.cv (.one (.loc x.1 x.2))) (h:wz (PA G.P W Q QM QP) G st o.dst f all jo K U):rp G.P W st o K U:=by
 unfold wz at h;generalize hf:G.P.funcs[f]? = u1 at h;split at h
 ·exact h.elim
 ·rename_i fn;generalize hs:iA G.P fn.resultTypes.toList=u2 at h;generalize hj:i0 st.m all jo=u3 at h;split at h
  ·rename_i ss bl;simp only at h;split at h
   ·exact h.elim
   ·rename_i ha;simp only [not_or,Decidable.not_not]at ha;obtain⟨rj,pO⟩:=ha;split at h
    ·rename_i yv;split at h
     ·rename_i hc;generalize tX:cj ss++bl.flatMap (·.ks)=ks at h;have mT:=Tz hj
      have nF:ks.all CK.plain=true:=by
       rw [<-tX,List.all_append,IK _ hs,Bool.true_and];refine List.all_eq_true.2 λk hk => ?_;obtain⟨e,he,Cl⟩:=List.mem_flatMap.1 hk;exact List.all_eq_true.1 (Tx (mT e he).2.2) k Cl
      have D1:=B8 ks st.c;have WW:=Tv ks st.c nF;have mR:=EU ks st.c nF;have hle:=yi ks st.c;obtain⟨a_,l1,⟨h1,h3⟩⟩:=vF ks st.c h;generalize av st.c ks=fr at *;have kp:fa (cJ (bS ss fr))=true:=E4 (DU _ _ mR);have ja:(cJ (bS ss fr)).wf (aY st.c ks)=true:=DW (DV _ _ _ D1);obtain⟨h4,h5⟩:=ze h3;have WX:=TB bl (fr.drop (cj ss).length);have L8:∀x∈kD bl (fr.drop (cj ss).length),∃e∈bl,∃n m,x=(e.k,iC e.cs e.jU (((fr.drop (cj ss).length).drop n).take m),e.t):=λx hx=>TA hx;generalize kD bl (fr.drop (cj ss).length)=ns at *;have iR:=(kO {st with m:=gi st.m ns} o.dst (cJ (bS ss fr)) (aY st.c ks)).1
      have TC:∀x∈ns,x.2.1.all (At.wf (aY st.c ks))=true:=λx hx=>by
       obtain⟨e,he,n,m,rfl⟩:=L8 x hx;exact Tt (BS hle (wf.m _ _ _ (mT e he).2.1).2) (zr (zr (zr D1 _).2 n).2 m).1
      refine⟨_,a_,cJ (bS ss fr),ns.map (·.1),h4,by rw [iR];exact hle,l1,λJ hl => ?_⟩;rw [iR]at hl
      have gK:∀x∈ns,∃e∈bl,e.k=x.1:=λx hx=>by
       obtain⟨e,he,n,m,rfl⟩:=L8 x hx;exact⟨e,he,rfl⟩
      have wW:a8 st o=eW all:=by simp only [a8,ho,hg,cH]
      refine LY wf hle (by rw [WX];exact yv) (λx hx => ?_) (λx hx => ?_) TC (λβ a w hB bE hr lg next Q' hn => ?_) h5
      ·obtain⟨e,he,n,m,rfl⟩:=L8 x hx;exact⟨e.cs,(mT e he).2.1,λy hy=>Tu (L7 (Tw (Tw WW _) n) m) hy⟩
      ·obtain⟨e,he,hk⟩:=gK x hx;rw [wW,<-hk];obtain⟨j,WY⟩:=(mT e he).1;exact Ty WY
      ·have l3:Env.aC st.c U J:=Env.aj hle l1 hl
       have fw:∀x∈all,x ≠ .any:=by
        intro x hx he;subst he;exact rj (List.any_eq_true.2 ⟨_,hx,rfl⟩)
       have fM:all.map (SV.den J β)=all.map (SV.den U β) :=
        List.map_congr_left λx hx=>SV.aa l3 (λ_ _=>rfl) (List.all_eq_true.1 pO x hx)
       have eg:=bE g (by rw [ho];simp [Op.operands,Call.operands]) (by rw [hg];simp);rw [hg]at eg;have Cm:a.eval g=.func (.func f) #[] (aK.map λc=>.pointer (some ⟨β c.1,c.2,none⟩)).toArray:=eg
       have ea:(args.map a.eval).toList=(args.toList.map st.ev).map (SV.den J β):=by
        rw [Array.toList_map];exact zx _ λx hx=>bE x (by rw [ho];simp only [Op.operands,Call.operands];exact Array.mem_append.2 (.inr (Array.mem_toList_iff.1 hx))) (fw _ (by rw [cH];exact List.mem_append.2 (.inl (List.mem_map.2 ⟨x,hx,rfl⟩))))
       have ec:(#[]:Array Value)++args.map a.eval++(aK.map λc=>(.pointer (some ⟨β c.1,c.2,none⟩):Value)).toArray=(all.map (SV.den J β)).toArray:=by
        apply Array.ext';rw [Array.toList_append,Array.toList_append,ea,cH];simp [SV.den,CV.den,At.den,Function.comp_def]
       have hx:(execOp a.eval o).run G.P w=(callFunc f (all.map (SV.den J β)).toArray).run G.P w:=by
        simp only [execOp,ho,resolve,Cm,Deferred.ofValue,Sem.run_bind,Sem.run_pure,Result.andThen_ok,invoke];rw [<-ec]
       have d_:fV W st.m st.o (aE (cC st.m st.o all)) J β w:=λq hq=>hr q (List.mem_append.2 (.inl (by simp only [bd,ho,hg];rw [<-cH];exact hq)));unfold Oper.wp;rw [hx,hG.calls f hc _ w,Oper.upon_enter];rw [fM];refine ((h1 β w hB (Ca wf.ap l3 (λq cs t hq=>(wf.m q cs t hq).2) (λq ce sz t hq=>(wf.o q ce sz t hq).2) _ d_)).out (by simpa [List.map_map,Function.comp_def]using lg)).mono λe w' he => ?_;obtain⟨rfl,iQ,jS⟩:=he.out;refine hn _ w' ?_ (by simpa [List.map_map,Function.comp_def]using iQ) λx hx => ?_
       ·rw [SV.bC J β b0 kp,SV.aa hl (β:=b0) (λ_ _=>rfl) ja]
       ·rw [jS _ (List.mem_map.2 ⟨x,hx,rfl⟩),yJ hl (λ_ _=>rfl) (TC x hx)]
     ·exact h.elim
    ·exact h.elim
  ·exact h.elim
theorem L9{k:Nat}:∀{l:List SV} {j:Nat},l[j]? = some (.cv (.one (.own k)))->k∈eW l
  | [],j,h=>by simp at h
  |x::l,0,h=>by
    simp only [List.getElem?_cons_zero,Option.some.injEq]at h;subst h;simp [eW]
  |x::l,j+1,h=>by
    have:=L9 (l:=l) (j:=j) (by simpa using h)
    unfold eW;split
    · cases ‹_::_=[]›
    · rename_i heq;simp only [List.cons.injEq]at heq;obtain⟨_,rfl⟩:=heq;exact List.mem_cons_of_mem _ this
    · rename_i heq;simp only [List.cons.injEq]at heq;obtain⟨_,rfl⟩:=heq;exact List.mem_cons_of_mem _ this
    · rename_i heq;simp only [List.cons.injEq]at heq;obtain⟨_,rfl⟩:=heq;exact this
theorem WZ{G:bV}(hG:G.Ok){st:St}{o:Oper}{K:St->Env->Prop}{U:Env}(wf:st.WF)(gV:cr.den st.k U){g:Operand}{args:Array Operand}{cu:Array TypeId}(ho:o.op=.call ⟨.value g,args,cu⟩){f:FuncId}{aK:List (Nat × Nat)}(hg:st.ev g=.cv (.one (.fn f aK)))
  {j:Nat} {all:List SV} (cH:all=args.toList.map st.ev++aK.map λx=>SV.cv (.one (.loc x.1 x.2))) (h:sQ (PA G.P W Q QM QP) G st o.dst f all j K U):rp G.P W st o K U:=by
 unfold sQ at h;generalize hf:G.P.funcs[f]? = u1 at h;split at h
 ·exact h.elim
 ·rename_i fn;generalize hs:iA G.P fn.resultTypes.toList=u2 at h;generalize hj:all[j]? = u3 at h;split at h
  ·rename_i ss k;generalize hm:aO st.o k=u4 at h;split at h
   ·rename_i ce sz t;simp only at h;split at h
    ·exact h.elim
    ·rename_i ha;simp only [not_or,Decidable.not_not]at ha;obtain⟨rj,pO⟩:=ha;split at h
     ·rename_i hc;have fA:st.c.le {st.c with nl:=st.c.nl+1}:=⟨Nat.le_refl _,Nat.le_refl _,Nat.le_refl _,Nat.le_refl _,Nat.le_refl _,Nat.le_refl _,Nat.le_succ _⟩;generalize tX:cj ss=ks at h;have nF:ks.all CK.plain=true:=by rw [<-tX];exact IK _ hs
      have D1:=B8 ks {st.c with nl:=st.c.nl+1};have mR:=EU ks {st.c with nl:=st.c.nl+1} nF;have hle:=yi ks {st.c with nl:=st.c.nl+1};obtain⟨L,h⟩:=h;obtain⟨a_,l1,⟨h1,h3⟩⟩:=vF ks {st.c with nl:=st.c.nl+1} h;generalize av {st.c with nl:=st.c.nl+1} ks=fr at *;have kp:fa (cJ (bS ss fr))=true:=E4 (DU _ _ mR);have ja:(cJ (bS ss fr)).wf (aY {st.c with nl:=st.c.nl+1} ks)=true:=DW (DV _ _ _ D1);obtain⟨h4,h5⟩:=ze h3;have iR:=(kO {st with o:=dS st.o k [.var st.c.nl]} o.dst (cJ (bS ss fr)) (aY {st.c with nl:=st.c.nl+1} ks)).1;have l0:Env.aC st.c U a_:=Env.aj fA (tV st.c U L) l1;refine⟨_,a_,cJ (bS ss fr),[k],h4,by rw [iR];exact ar.le_trans fA hle,l0,λJ hl => ?_⟩;rw [iR]at hl;have wW:a8 st o=eW all:=by simp only [a8,ho,hg,cH]
      have eL:∀vz,aq J vz [.var st.c.nl]=L.map (·.1):=λvz=>by
       simp only [aq,Sg.den,List.append_nil];rw [hl.l st.c.nl (Nat.lt_of_lt_of_le (Nat.lt_succ_self _) hle.l),l1.l st.c.nl (Nat.lt_succ_self _)];exact congrArg (List.map λy:OV=>y.1) (if_pos rfl)
      refine L1 wf (ar.le_trans fA hle) hm (by rw [wW];exact L9 hj) ?_ rfl (λβ a w hB bE hr next Q' hn => ?_) h5
      ·have:st.c.nl<(aY {st.c with nl:=st.c.nl+1} ks).nl:=Nat.lt_of_lt_of_le (Nat.lt_succ_self _) hle.l
       simp [cw,Sg.wf,this]
      ·have l3:Env.aC st.c U J:=Env.aj (ar.le_trans fA hle) l0 hl
       have fw:∀x∈all,x ≠ .any:=by
        intro x hx he;subst he;exact rj (List.any_eq_true.2 ⟨_,hx,rfl⟩)
       have fM:all.map (SV.den J β)=all.map (SV.den U β) :=
        List.map_congr_left λx hx=>SV.aa l3 (λ_ _=>rfl) (List.all_eq_true.1 pO x hx)
       have eg:=bE g (by rw [ho];simp [Op.operands,Call.operands]) (by rw [hg];simp);rw [hg]at eg;have Cm:a.eval g=.func (.func f) #[] (aK.map λc=>.pointer (some ⟨β c.1,c.2,none⟩)).toArray:=eg
       have ea:(args.map a.eval).toList=(args.toList.map st.ev).map (SV.den J β):=by
        rw [Array.toList_map];exact zx _ λx hx=>bE x (by rw [ho];simp only [Op.operands,Call.operands];exact Array.mem_append.2 (.inr (Array.mem_toList_iff.1 hx))) (fw _ (by rw [cH];exact List.mem_append.2 (.inl (List.mem_map.2 ⟨x,hx,rfl⟩))))
       have ec:(#[]:Array Value)++args.map a.eval++(aK.map λc=>(.pointer (some ⟨β c.1,c.2,none⟩):Value)).toArray=(all.map (SV.den J β)).toArray:=by
        apply Array.ext';rw [Array.toList_append,Array.toList_append,ea,cH];simp [SV.den,CV.den,At.den,Function.comp_def]
       have hx:(execOp a.eval o).run G.P w=(callFunc f (all.map (SV.den J β)).toArray).run G.P w:=by
        simp only [execOp,ho,resolve,Cm,Deferred.ofValue,Sem.run_bind,Sem.run_pure,Result.andThen_ok,invoke];rw [<-ec]
       have d_:fV W st.m st.o (aE (cC st.m st.o all)) J β w:=λq hq=>hr q (List.mem_append.2 (.inl (by simp only [bd,ho,hg];rw [<-cH];exact hq)));unfold Oper.wp;rw [hx,hG.calls f hc _ w,Oper.upon_enter];rw [fM];have e0:U.kP st.c.nl L=U.kP st.c.nl L:=rfl;refine (h1 β w hB ?_).mono λe w' he => ?_
       ·exact Ca wf.ap l3 (λq cs t hq=>(wf.m q cs t hq).2) (λq ce sz t hq=>(wf.o q ce sz t hq).2) _ d_
       ·obtain⟨rfl,iQ,jS,qF⟩:=he;refine hn _ w' ?_ iQ jS (by rw [eL];exact qF);rw [SV.bC J β b0 kp,SV.aa hl (β:=b0) (λ_ _=>rfl) ja]
     ·exact h.elim
   ·exact h.elim
  ·exact h.elim
theorem TD{G:bV}(hG:G.Ok){st:St}{o:Oper}{K:St->Env->Prop}{U:Env}(wf:st.WF)(gV:cr.den st.k U)(h:n_ (PA G.P W Q QM QP) G st o K U):rp G.P W st o K U:=by
 unfold n_ at h;generalize he:qX G st o=u at h;split at h
 ·rename_i f args jo;unfold qX at he;split at he
  ·rename_i g xs cu heq;split at he
   ·rename_i f' aK hg;split at he
    ·split at he
     ·simp only [Option.some.injEq,Prod.mk.injEq]at he;obtain⟨rfl,rfl,rfl⟩:=he;exact WV hG wf gV heq hg rfl h
     ·cases he
    ·cases he
   ·cases he
  ·cases he
 ·clear he;generalize he:nt G st o=u at h;split at h
  ·rename_i f args j;unfold nt at he;split at he
   ·rename_i g xs cu heq;split at he
    ·rename_i f' aK hg;split at he
     ·split at he
      ·simp only [Option.some.injEq,Prod.mk.injEq]at he;obtain⟨rfl,rfl,rfl⟩:=he;exact WZ hG wf gV heq hg rfl h
      ·cases he
     ·cases he
    ·cases he
   ·cases he
  ·exact WU hG wf gV h
end Vc
set_option linter.unusedVariables false
namespace Vc
open Go Go.RowKit
variable {P:Program} {W:eJ} {Q:Value->Prop} {QM QP:World->Value->Prop}
theorem TE(a:Addr)(w:World):(loadCells a 0).run P w=.ok #[] w:=by
 have:=run_loadCells_list (P:=P) w a [] (λj v hj=>by simp at hj)
 simpa using this
theorem TF(w:World){t ty el:TypeId}{i:TypeInfo}(ht:P.underlying t=some (.slice el))(hi:P.info? el=some i)(base:Option Addr)(n c:Nat)(hc:n<=c)(x:Value)(hx:x=.slice none 0 0\/∃a k,x=.slice (some a) 0 k) :
  (Builtin.append_ #[t,t] ty #[.slice base n c,x]).run P w=.ok (.slice base n c) w:=by
 rcases hx with rfl|⟨a,k,rfl⟩
 ·cases base with
  |none=>simp [Builtin.append_,run_underlying ht,typeInfo,hi,Go.sizeOf,Builtin.lenOf,Builtin.firstCells,hc]
  |some b=>simp [Builtin.append_,run_underlying ht,typeInfo,hi,Go.sizeOf,Builtin.lenOf,Builtin.firstCells,hc,storeCells]
 ·cases base with
  |none=>simp [Builtin.append_,run_underlying ht,typeInfo,hi,Go.sizeOf,Builtin.lenOf,Builtin.firstCells,hc,TE]
  |some b=>simp [Builtin.append_,run_underlying ht,typeInfo,hi,Go.sizeOf,Builtin.lenOf,Builtin.firstCells,hc,TE,storeCells]
theorem TG{α:Type}(a b c:List α)(k:Nat)(h:(a++b).length=k):(a++b++c).take k=a++b:=by
 rw [<-h,List.take_left]
theorem L_(w:World){lo:Nat->Prop}{b code n base:Nat}{xs:List Value}{sz:Nat}{t ty el:TypeId}{i:TypeInfo}{z:Value}(ht:P.underlying t=some (.slice el))(hi:P.info? el=some i)(hz:i.zero=some z)(i_:i.size=sz)(Fl:z.cells.size=sz)
    (h:gJ lo b code n base xs sz el w) (x:Value) (m:Nat) (news:List Value) (hx:(x=.slice none 0 0/\m=0)\/∃a c,x=.slice (some a) m c/\∀j u,news[j]? = some u->w.cell? (a.add j)=some u) (hl:news.length=m*sz)
    (h1:∀u∈news,u.oneCell'=true) (W0:n+m<=maxLen) (mb:(n+m)*i.bytes<=140737488355328) (oE:lo w.heap.size) :
    ∃b' ll nI w',(Builtin.append_ #[t,t] ty #[cG b code n base,x]).run P w=.ok (cG b' ll (n+m) nI) w'/\gJ lo b' ll (n+m) nI (xs++news) sz el w' /\
      (w'.os=w.os/\w'.tape=w.tape/\w'.output=w.output/\w.heap.size<=w'.heap.size)/\(∀k,k<w.heap.size->(2<=code->k≠b)->w'.heap[k]? = w.heap[k]?)/\(2<=ll->w.heap.size<=b'\/(2<=code/\b'=b)):=by
  subst i_;obtain⟨r1,r2,r3⟩:=h;have Fo:(9223372036854775807:Nat)=maxLen:=by simp [maxLen]
  have rq:n<=code-1/\(code<=1->n=0):=by
    rcases r3 with ⟨_,h0⟩|⟨h2,_,_,h3,_⟩
    · exact⟨by omega,λ_=>h0⟩
    · exact⟨h3,λ_=>by omega⟩
  by_cases hm:m=0
  · subst hm;have hn:news=[]:=List.eq_nil_of_length_eq_zero (by simpa using hl);subst hn
    have AU:x=.slice none 0 0\/∃a k,x=.slice (some a) 0 k:=by
      rcases hx with ⟨h,_⟩|⟨a,c,h,_⟩
      · exact .inl h
      · exact .inr ⟨a,c,h⟩
    refine⟨b,code,base,w, ?_,⟨by simpa using r1,r2,by simpa using r3⟩,⟨rfl,rfl,rfl,Nat.le_refl _⟩,λ_ _ _=>rfl,λh=>.inr ⟨h,rfl⟩⟩;unfold cG;by_cases h0:code=0
    · have Fp:=rq.2 (by omega);subst Fp;simp only [h0,if_true,Nat.add_zero];exact TF w ht hi none 0 0 (Nat.le_refl _) x AU
    · simp only [h0,if_false,Nat.add_zero];exact TF w ht hi _ n (code-1) rq.1 x AU
  · obtain⟨a,c,rfl,dB⟩:∃ a c,x=.slice (some a) m c/\∀ j u,news[j]? = some u->w.cell? (a.add j)=some u:=by
      rcases hx with ⟨_,h⟩|h
      · exact (hm h).elim
      · exact h
    have lM:((n+m:Nat):Int)<=9223372036854775807:=by omega
    have hlen:(xs++news).length=(n+m)*i.size:=by rw [List.length_append,r1,hl,Nat.add_mul]
    have fresh:∀ fz,fz < n + m->gJ lo w.heap.size (grownCap w (n + m) fz el + 1) (n + m) 0 (xs++news) i.size el
        (w.drew.alloc (.cells (xs.toArray++news.toArray++Builtin.zeroCells z.cells (grownCap w (n+m) fz el-(n+m))) el)):=by
      intro fz ho;have kq:=grownCap_ge w (n+m) fz el;have W3:=grownCap_le_maxLen w (n+m) fz el W0;refine⟨hlen,r2,.inr ⟨by omega,rfl,oE,by omega,by simpa using W3,_,heap_alloc_new w.drew _, ?_, ?_⟩⟩
      · simp only [Array.size_append,List.size_toArray,size_zeroCells,Fl,r1,hl,<-Nat.add_mul,Nat.add_sub_cancel];congr 1;omega
      · simp only [Array.toList_append];exact TG xs news _ _ hlen
    have grow:∀ (s:Value) (fz:Nat),fz < n + m->(∀ w0:World,w0=w->(Builtin.append_ #[t,t] ty #[s,.slice (some a) m c]).run P w =
        .ok (.slice (some ⟨w.heap.size,0,none⟩) (n+m) (grownCap w (n+m) fz el)) (w.drew.alloc (.cells (xs.toArray++news.toArray++Builtin.zeroCells z.cells (grownCap w (n+m) fz el-(n+m))) el))) ->
        ∃b' ll nI w',(Builtin.append_ #[t,t] ty #[s,.slice (some a) m c]).run P w=.ok (cG b' ll (n+m) nI) w'/\gJ lo b' ll (n+m) nI (xs++news) i.size el w' /\
          (w'.os=w.os/\w'.tape=w.tape/\w'.output=w.output/\w.heap.size<=w'.heap.size)/\(∀k,k<w.heap.size->(2<=code->k≠b)->w'.heap[k]? = w.heap[k]?)/\(2<=ll->w.heap.size<=b'\/(2<=code/\b'=b)):=by
      intro s fz ho iN;refine⟨w.heap.size,grownCap w (n+m) fz el+1,0,_, ?_,fresh fz ho,⟨rfl,rfl,rfl,by simp⟩,λk hk _=>Below.heap_alloc w.drew _ k hk,λ_=>.inl (Nat.le_refl _)⟩;rw [iN w rfl];simp [cG]
    by_cases h0:code=0
    · have Fp:=rq.2 (by omega);subst Fp;have qG:xs=[]:=List.eq_nil_of_length_eq_zero (by simpa using r1);subst qG;have hv:cG b code 0 base=.slice none 0 0:=by simp [cG,h0]
      rw [hv];refine grow _ 0 (by omega) λw0 _ => ?_
      have:=run_append_nil (P:=P) w t ty el i z ht hi hz a m c news hl dB (by omega) (by simpa using lM) (by simp at mb;omega)
      simpa using this
    · by_cases W4:code=1
      · have Fp:=rq.2 (by omega);subst Fp;have qG:xs=[]:=List.eq_nil_of_length_eq_zero (by simpa using r1);subst qG;have hv:cG b code 0 base=.slice (some ⟨b,base,none⟩) 0 0:=by simp [cG,W4]
        rw [hv];refine grow _ 0 (by omega) λw0 _ => ?_;exact run_append_grow (P:=P) w t ty el i z ht hi hz ⟨b,base,none⟩ 0 0 [] (by simp) (λj v hj=>by simp at hj) a m c news hl dB (by omega) lM (growslice_fits (by omega) mb)
      · obtain⟨q1,q2,q3,q4,q5,cur,q6,q7,q8⟩:2<=code/\base=0/\lo b/\n<=code - 1/\code - 1<=maxLen/\∃ cur,w.heap[b]? = some (.cells cur el (0,0))/\cur.size=(code - 1) * i.size/\cur.toList.take (n * i.size)=xs:=by
          rcases r3 with ⟨h,_⟩|h
          · omega
          · exact h
        have hv:cG b code n base=.slice (some ⟨b,0,none⟩) n (code-1):=by simp [cG,h0,q2]
        rw [hv];by_cases wX:n+m<=code-1
        · have L':n * i.size + news.length<=cur.size:=by
            rw [hl,q7,<-Nat.add_mul];exact Nat.mul_le_mul_right _ wX
          have:=run_append_room (P:=P) w t ty el i ht hi b n (code-1) cur q6 a m c news hl dB h1 wX L'
          refine⟨b,code,0,w.setRow b (cur.toList.take (n*i.size)++news++cur.toList.drop (n*i.size+news.length)).toArray, ?_,⟨hlen,r2,.inr ⟨q1,rfl,q3,wX,q5,_,setRow_heap w b _ _ _ _ q6, ?_, ?_⟩⟩,⟨rfl,rfl,rfl,by rw [setRow_size];exact Nat.le_refl _⟩,λk hk dt=>LC _ _ _ _ (dt q1),λ_=>.inr ⟨q1,rfl⟩⟩
          · rw [this];simp [cG,h0]
          · simp only [List.size_toArray,List.length_append,List.length_take,List.length_drop,Array.length_toList];omega
          · rw [q8];exact TG xs news _ _ hlen
        · refine grow _ (code-1) (by omega) λw0 _ => ?_
          have holds:∀j v,xs[j]? = some v->w.cell? ((⟨b,0,none⟩:Addr).add j)=some v:=by
            intro j v hj;rw [uR,Nat.zero_add,yW q6];rw [<-q8,List.getElem?_take]at hj;split at hj
            · simpa using hj
            · cases hj
          exact run_append_grow (P:=P) w t ty el i z ht hi hz ⟨b,0,none⟩ n (code-1) xs r1 holds a m c news hl dB (by omega) lM (growslice_fits (by omega) mb)
end Vc
