import Derived.Test.YtocleppbcngcjaaGreatDoorVcJ
import Derived.Laws.AppendOwn
import Derived.Laws.OwnMore
import Derived.Laws.MakeOwn
set_option linter.unusedVariables false
set_option linter.unusedSimpArgs false
namespace Vc
open Go Go.RowKit
variable {P:Program} {W:dR} {Q:Value->Prop} {QM QP:World->Value->Prop}
def St.bN(st:St)(dst:Option Tmp)(v:SV)(c:ar):St :=
 match dst with
 |none => {st with c:=c}
 |some d => {st with t:=(d,v)::st.t,c:=c}
def iA(st:St)(dst:Option Tmp)(v:SV)(c:ar):Prop:=∀d,dst=some d->d<st.n/\v.wf c=true
theorem zh{st:St}{dst:Option Tmp}{v:SV}{c:ar}{K:St->Env->Prop}{U:Env}(h:St.put (PA P W Q QM QP) st dst v c K U):K (st.bN dst v c) U/\iA st dst v c:=by
  unfold St.put at h;cases dst with
  |none=>exact⟨h,λd hd=>by cases hd⟩
  |some d =>
    simp only at h;cases hb:Nat.blt d st.n with
    |false=>rw [hb]at h;exact h.elim
    |true =>
      rw [hb]at h;cases hw:v.wf c with
      |false=>simp only [hw]at h;exact h.elim
      |true =>
        simp only [hw,T9]at h;exact⟨h,λd' he=>by cases he;exact⟨Nat.le_of_ble_eq_true hb,hw⟩⟩
theorem zz(st:St)(dst:Option Tmp)(v:SV)(c:ar):(st.bN dst v c).c=c/\(st.bN dst v c).m=st.m/\(st.bN dst v c).n=st.n/\(st.bN dst v c).o=st.o/\(st.bN dst v c).r=st.r/\(st.bN dst v c).d=st.d:=by
 unfold St.bN;split<;>exact⟨rfl,rfl,rfl,rfl,rfl,rfl⟩
theorem zn(st:St)(dst:Option Tmp)(v:SV)(c:ar):(st.bN dst v c).k=st.k/\(st.bN dst v c).df=st.df:=by
 unfold St.bN;split<;>exact⟨rfl,rfl⟩
theorem zo(st:St)(dst:Option Tmp)(v:SV)(c:ar)(t:Nat):av (st.bN dst v c).t t=if dst=some t then v else av st.t t:=by
 unfold St.bN;cases dst with
 |none=>simp
 |some d=>simp only [zl,Option.some.injEq]
theorem Ef{st:St}{dst:Option Tmp}{v:SV}{c:ar}(hw:st.WF)(hle:st.c.le c)(hp:iA st dst v c):(st.bN dst v c).WF:=by
 obtain⟨q1,q2,q3,q4,q5,q6⟩:=zz st dst v c;have g:=hw.grow hle;refine⟨λi => ?_,by rw [q2,q1];exact g.m,by rw [q4,q1];exact g.o,by rw [q2,q4];exact hw.ap,by rw [q5,q1];exact g.r,by rw [q6,q1];exact g.d,by rw [(zn _ _ _ _).1,q1];exact g.k,by rw [(zn _ _ _ _).2,q1];exact g.df⟩;rw [zo,q1];by_cases hd:dst=some i
 ·rw [if_pos hd];exact (hp i hd).2
 ·rw [if_neg hd];exact g.t i
theorem St.WF.beyond{st:St}(h:st.WF){k:Nat}(hk:st.c.nk<=k):aE st.m st.o k=none:=by
 cases hg:aE st.m st.o k with
 |none=>rfl
 |some e=>have:=CU (h.dU hg);omega
def pL(P:Program)(W:dR)(st:St)(o:Oper)(K:St->Env->Prop)(U:Env):Prop :=
 ∃s' af sv C,K s' af/\st.c.le s'.c/\Env.ay st.c U af/\∀J,Env.ay s'.c af J->gT P W st o J s' sv C
theorem Jy{s1 s':St}{U:Env}{β:Nat->Nat}{w w':World}(h:s1.WF)(hm:aE s'.m s'.o=aE s1.m s1.o)(hb:Below w.heap.size w w'):zG W s1 s' U [] β β w w' where
 os:=hb.os
 tape:=hb.tape
 output:=hb.output
 size:=hb.size
 frame b hl _:=hb.block b hl
 off _ _:=rfl
 new k e' hk hg:=by
  rcases hk with hk|hk
  ·cases hk
  ·rw [hm,h.beyond hk]at hg;cases hg
 inj k k' e e' _ hk gi hg ep _ _:=by
  rcases hk with hk|hk
  ·cases hk
  ·rw [hm,h.beyond hk]at hg;cases hg
theorem Jz{st:St}{o:Oper}{sv:SV}{c:ar}{U:Env}(wf:st.WF)(h1:bB P W st o sv U)(h2:st.c.le c)(h4:iA st o.dst sv c):gT P W st o U (st.bN o.dst sv c) sv []:=by
 obtain⟨q1,q2,q3,q4,q5,q6⟩:=zz st o.dst sv c;have hm:aE (st.bN o.dst sv c).m (st.bN o.dst sv c).o=aE st.m st.o:=by rw [q2,q4]
 refine⟨λhk=>by rw [(zn _ _ _ _).1];exact hk,(zn _ _ _ _).2,q3,q5,q6,by rw [q1];exact h2,Ef wf h2 h4,λt=>zo st o.dst sv c t,λd hd=>(h4 d hd).1,λk hk=>(by cases hk),λk _ _=>(by rw [hm]),λk e' hk hg => ?_,λβ a w hB ho hr _ next Q' hn => ?_⟩
 ·rcases hk with hk|hk
  ·cases hk
  ·rw [hm,wf.beyond hk]at hg;cases hg
 ·exact h1 β a w hB ho (λk hk e hg=>hr k (List.mem_append.2 (.inl hk)) e hg) next Q' λv w' hv hb=>hn β v w' hv (Jy wf hm hb)
theorem UT{st:St}{o:Oper}{sv:SV}{c:ar}{U:Env}{kn:bV}(wf:st.WF)(h1:bB P W st o sv U)(h2:st.c.le c)(h4:iA {st with k:=kn} o.dst sv c)(hw:bV.wf kn c)(hk:bV.den st.k U->bV.den kn U):gT P W st o U (({st with k:=kn}:St).bN o.dst sv c) sv []:=by
 obtain⟨q1,q2,q3,q4,q5,q6⟩:=zz {st with k:=kn} o.dst sv c;have hm:aE (({st with k:=kn}:St).bN o.dst sv c).m (({st with k:=kn}:St).bN o.dst sv c).o=aE st.m st.o:=by rw [q2,q4]
 have g:=wf.grow h2;refine⟨λh=>by rw [(zn _ _ _ _).1];exact hk h,(zn _ _ _ _).2,q3,q5,q6,by rw [q1];exact h2,⟨λi => ?_,by rw [q2,q1];exact g.m,by rw [q4,q1];exact g.o,by rw [q2,q4];exact wf.ap,by rw [q5,q1];exact g.r,by rw [q6,q1];exact g.d,by rw [(zn _ _ _ _).1,q1];exact hw,by rw [(zn _ _ _ _).2,q1];exact g.df⟩,λt=>zo _ o.dst sv c t,λd hd=>(h4 d hd).1,λk hk=>(by cases hk),λk _ _=>(by rw [hm]),λk e' hk hg => ?_,λβ a w hB ho hr _ next Q' hn => ?_⟩
 ·rw [zo,q1];by_cases hd:o.dst=some i
  ·rw [if_pos hd];exact (h4 i hd).2
  ·rw [if_neg hd];exact g.t i
 ·rcases hk with hk|hk
  ·cases hk
  ·rw [hm,wf.beyond hk]at hg;cases hg
 ·exact h1 β a w hB ho (λk hk e hg=>hr k (List.mem_append.2 (.inl hk)) e hg) next Q' λv w' hv hb=>hn β v w' hv (Jy wf hm hb)
theorem JA{m:Mem}{o:ba}{nk:Nat}{cs:List At}{t:TypeId}(k:Nat):aE ((nk,cs,t)::m) o k=if nk=k then some (.fix cs t)else aE m o k:=by
 unfold aE;rw [CT];by_cases h:nk=k
 ·rw [if_pos h,if_pos h]
 ·rw [if_neg h,if_neg h]
theorem JB{st:St}{o:Oper}{cs:List At}{t:TypeId}{v:At}{vd:Nat->Value}{U:Env}(wf:st.WF)(h1:cs.all (At.wf st.c)=true)(jG:∀x∈aF cs,x∈cN st o)(h2:∀β:Nat->Nat,v.den U β=vd (β st.c.nk))
  (h3:∀(β:Nat->Nat) (a:Act) (w:World),dD st o U β a->(execOp a.eval o).run P w=.ok (.value (vd w.heap.size)) (w.alloc (.cells (cs.map (At.den U β)).toArray t)))
  (h4:iA {st with m:=(st.c.nk,cs,t)::st.m} o.dst (.cv (.one v)) {st.c with nk:=st.c.nk+1}) :
  gT P W st o U ({st with m:=(st.c.nk,cs,t)::st.m}.bN o.dst (.cv (.one v)) {st.c with nk:=st.c.nk+1}) (.cv (.one v)) []:=by
 obtain⟨q1,q2,q3,q4,q5,q6⟩:=zz {st with m:=(st.c.nk,cs,t)::st.m} o.dst (.cv (.one v)) {st.c with nk:=st.c.nk+1};have hle:=ar.jV st.c 1
 have hm:∀k,aE ({st with m:=(st.c.nk,cs,t)::st.m}.bN o.dst (.cv (.one v)) {st.c with nk:=st.c.nk+1}).m ({st with m:=(st.c.nk,cs,t)::st.m}.bN o.dst (.cv (.one v)) {st.c with nk:=st.c.nk+1}).o k=if st.c.nk=k then some (.fix cs t)else aE st.m st.o k:=λk=>by
  rw [q2,q4];exact JA k
 have Zb:({st with m:=(st.c.nk,cs,t)::st.m}:St).WF∨True := .inr trivial;refine⟨λhk=>by rw [(zn _ _ _ _).1];exact hk,(zn _ _ _ _).2,q3,q5,q6,by rw [q1];exact hle, ?_,λt'=>zo _ o.dst _ _ t',λd hd=>(h4 d hd).1,λk hk=>(by cases hk),λk hk _=>(by rw [hm,if_neg (by omega)]),λk e' hk hg x hx => ?_,λβ a w hB ho hr _ next Q' hn => ?_⟩
 ·have g:=wf.grow hle;refine⟨λi => ?_,λk iK t' hg => ?_,by rw [q4,q1];exact g.o,λk x hk => ?_,by rw [q5,q1];exact g.r,by rw [q6,q1];exact g.d,by rw [(zn _ _ _ _).1,q1];exact g.k,by rw [(zn _ _ _ _).2,q1];exact g.df⟩
  ·rw [zo,q1];by_cases hd:o.dst=some i
   ·rw [if_pos hd];exact (h4 i hd).2
   ·rw [if_neg hd];exact g.t i
  ·rw [q2,CT]at hg;rw [q1];by_cases hk:st.c.nk=k
   ·rw [if_pos hk]at hg;cases hg;exact⟨by simp [<-hk],AB hle h1⟩
   ·rw [if_neg hk]at hg;exact g.m k iK t' hg
  ·rw [q4]at hk;rw [q2,CT]
   have:=(wf.o k x.1 x.2.1 x.2.2 hk).1
   rw [if_neg (by omega)];exact wf.ap k x hk
 ·rcases hk with hk|hk
  ·cases hk
  ·rw [hm]at hg;by_cases cC:st.c.nk=k
   ·rw [if_pos cC]at hg;cases hg;exact .inl (jG x hx)
   ·rw [if_neg cC,wf.beyond hk]at hg;cases hg
 ·unfold Oper.wp;rw [h3 β a w ho,Oper.upon_value];have JC:∀k,k<st.c.nk->(λk=>if k=st.c.nk then w.heap.size else β k) k=β k:=λk hk=>if_neg (Nat.ne_of_lt hk);refine hn (λk=>if k=st.c.nk then w.heap.size else β k) _ _ (λ_ => ?_) ⟨rfl,rfl,rfl,by simp,λb hb _ => ?_,λk hk => ?_,λk e' hk hg => ?_,λk k' e e' _ hk gi hg ep _ _ => ?_⟩
  ·show _=v.den U _;rw [h2];simp only [if_true]
  ·exact Below.heap_alloc _ _ _ hb
  ·rw [q1]at hk;exact if_neg (by intro he;subst he;simp at hk)
  ·rcases hk with hk|hk
   ·cases hk
   ·rw [hm]at hg;by_cases cC:st.c.nk=k
    ·rw [if_pos cC]at hg;cases hg;subst cC;refine⟨⟨?_, ?_⟩,λb hb=>.inl ?_⟩
     ·simp only [if_true];exact ek.mk (.inr hB.size)
     ·simp only [if_true];rw [xF (Env.an _ U) JC h1];show (w.heap.push _)[w.heap.size]? = _;simp
     ·simp only [bD,if_true,Option.some.injEq]at hb;omega
    ·rw [if_neg cC,wf.beyond hk]at hg;cases hg
  ·have one:∀{k e},(k∈([]:List Nat)∨st.c.nk<=k)->aE ({st with m:=(st.c.nk,cs,t)::st.m}.bN o.dst (.cv (.one v)) {st.c with nk:=st.c.nk+1}).m ({st with m:=(st.c.nk,cs,t)::st.m}.bN o.dst (.cv (.one v)) {st.c with nk:=st.c.nk+1}).o k=some e->k=st.c.nk:=by
    intro k e hk hg;rcases hk with hk|hk
    ·cases hk
    ·rw [hm]at hg;by_cases cC:st.c.nk=k
     ·exact cC.symm
     ·rw [if_neg cC,wf.beyond hk]at hg;cases hg
   rw [one hk hg,one gi ep]
theorem JD{m:Mem}{o:ba}{k0:Nat}{cs iK:List At}{t:TypeId}(h:getM m k0=some (cs,t))(k:Nat):aE (iQ m k0 iK) o k=if k0=k then some (.fix iK t)else aE m o k:=by
 unfold aE;rw [tT];by_cases hk:k0=k
 ·subst hk;rw [if_pos rfl,if_pos rfl,h];rfl
 ·rw [if_neg hk,if_neg hk]
theorem JE{st:St}{o:Oper}{U:Env}{k0:Nat}{cs iK:List At}{t:TypeId}(wf:st.WF)(ji:getM st.m k0=some (cs,t))(kz:k0∈aQ st o)(h3:iK.all (At.wf st.c)=true)(jG:∀x∈aF iK,x∈cN st o∨x∈aF cs)
  (h4:∀(β:Nat->Nat) (a:Act) (w:World),dD st o U β a->w.heap[β k0]? = some (.cells (cs.map (At.den U β)).toArray t)->(execOp a.eval o).run P w=.ok .skip (w.setRow (β k0) (iK.map (At.den U β)).toArray))
  (h5:iA {st with m:=iQ st.m k0 iK} o.dst .any st.c):gT P W st o U ({st with m:=iQ st.m k0 iK}.bN o.dst .any st.c) .any [k0]:=by
 obtain⟨q1,q2,q3,q4,q5,q6⟩:=zz {st with m:=iQ st.m k0 iK} o.dst .any st.c
 have hm:∀k,aE ({st with m:=iQ st.m k0 iK}.bN o.dst .any st.c).m ({st with m:=iQ st.m k0 iK}.bN o.dst .any st.c).o k=if k0=k then some (.fix iK t)else aE st.m st.o k:=λk=>by
  rw [q2,q4];exact JD ji k
 have oa:=(wf.m k0 cs t ji).1;refine⟨λhk=>by rw [(zn _ _ _ _).1];exact hk,(zn _ _ _ _).2,q3,q5,q6,by rw [q1];exact ar.le_refl _, ?_,λt'=>zo _ o.dst _ _ t',λd hd=>(h5 d hd).1,λk hk => ?_,λk _ hk => ?_,λk e' hk hg x hx => ?_,λβ a w hB ho hr _ next Q' hn => ?_⟩
 ·refine⟨λi => ?_,λk JF t2 hg => ?_,by rw [q4,q1];exact wf.o,λk x hk => ?_,by rw [q5,q1];exact wf.r,by rw [q6,q1];exact wf.d,by rw [(zn _ _ _ _).1,q1];exact wf.k,by rw [(zn _ _ _ _).2,q1];exact wf.df⟩
  ·rw [zo,q1];by_cases hd:o.dst=some i
   ·rw [if_pos hd];rfl
   ·rw [if_neg hd];exact wf.t i
  ·rw [q2,tT]at hg;rw [q1];by_cases hk:k0=k
   ·subst hk;rw [if_pos rfl,ji]at hg;simp only [Option.map_some,Option.some.injEq,Prod.mk.injEq]at hg;obtain⟨rfl,rfl⟩:=hg;exact⟨oa,h3⟩
   ·rw [if_neg hk]at hg;exact wf.m k JF t2 hg
  ·rw [q4]at hk;rw [q2,tT]
   have:=wf.ap k x hk
   by_cases cC:k0=k
   ·subst cC;rw [if_pos rfl,this];rfl
   ·rw [if_neg cC];exact this
 ·simp only [List.mem_singleton]at hk;subst hk;exact⟨kz,oa⟩
 ·rw [hm,if_neg (λe=>hk (by simp [e]))]
 ·rw [hm]at hg;by_cases cC:k0=k
  ·rw [if_pos cC]at hg;cases hg;rcases jG x hx with h|h
   ·exact .inl h
   ·exact .inr ⟨k0,_,List.mem_append.2 (.inr kz),n_ ji,h⟩
  ·rw [if_neg cC]at hg;rcases hk with hk|hk
   ·simp only [List.mem_singleton]at hk;exact (cC hk.symm).elim
   ·rw [wf.beyond hk]at hg;cases hg
 ·obtain⟨m1,m2⟩:=hr k0 (List.mem_append.2 (.inr kz)) _ (n_ ji);unfold Oper.wp;rw [h4 β a w ho m2,Oper.upon_skip];refine hn β _ _ (λh=>(h rfl).elim) ⟨rfl,rfl,rfl,by rw [setRow_size];exact Nat.le_refl _,λb hb qq => ?_,λ_ _=>rfl,λk e' hk hg => ?_,λk k' e e' _ hk gi hg ep _ _ => ?_⟩
  ·exact Jr _ _ _ _ λhe=>qq k0 _ (by simp) (n_ ji) (by simp [bD,he])
  ·rw [hm]at hg;by_cases cC:k0=k
   ·rw [if_pos cC]at hg;cases hg;subst cC;refine⟨⟨m1,setRow_heap w _ _ _ _ _ m2⟩,λb hb=>.inr ⟨k0,_,by simp,n_ ji, ?_,.inl rfl⟩⟩;simpa [bD]using hb
   ·rw [if_neg cC]at hg;rcases hk with hk|hk
    ·simp only [List.mem_singleton]at hk;exact (cC hk.symm).elim
    ·rw [wf.beyond hk]at hg;cases hg
  ·have one:∀{k e},(k ∈ [k0]∨st.c.nk<=k)->aE ({st with m:=iQ st.m k0 iK}.bN o.dst .any st.c).m ({st with m:=iQ st.m k0 iK}.bN o.dst .any st.c).o k=some e->k=k0:=by
    intro k e hk hg;rcases hk with hk|hk
    ·simpa using hk
    ·rw [hm,if_neg (by omega),wf.beyond hk]at hg;cases hg
   rw [one hk hg,one gi ep]
theorem Eg{k:Nat}:∀{ns:List (Nat × List At × TypeId)} {m:Mem},k ∉ ns.map (·.1)->getM (fD m ns) k=getM m k
  | [],m,h=>rfl
  | (j,cs,t)::r,m,h=>by
    simp only [List.map_cons,List.mem_cons,not_or]at h;simp only [fD];rw [Eg h.2,tT,if_neg (λe=>h.1 e.symm)]
theorem JG{x:Nat × List At × TypeId}{cs:List At}{t:TypeId}:∀{ns:List (Nat × List At × TypeId)} {m:Mem},(ns.map (·.1)).Nodup->x∈ns->getM m x.1=some (cs,t)->getM (fD m ns) x.1=some (x.2.1,t)
  | [],m,_,h,_=>by cases h
  | (j,iK,t')::r,m,hn,h,hg=>by
    simp only [List.map_cons,List.nodup_cons]at hn;simp only [fD];rcases List.mem_cons.1 h with h|h
    · subst h;rw [Eg hn.1,tT,if_pos rfl,hg];rfl
    · refine JG (cs:=cs) hn.2 h ?_;rw [tT,if_neg λe=>hn.1 (List.mem_map.2 ⟨x,h,e.symm⟩)];exact hg
theorem JH{st:St}{o:Oper}{U:Env}{ns:List (Nat × List At × TypeId)}{sv:SV}{c:ar}(wf:st.WF)(h2:st.c.le c)(xw:(ns.map (·.1)).Nodup)(ji:∀ x∈ns,∃ cs,getM st.m x.1=some (cs,x.2.2)/\∀ y∈aF x.2.1,y∈aF cs)
    (kz:∀x∈ns,x.1∈aQ st o) (h3:∀x∈ns,x.2.1.all (At.wf c)=true)
    (h4:∀(β:Nat->Nat) (a:Act) (w:World),dz W w->dD st o U β a->fk W st.m st.o (aU st o++aQ st o) U β w->(ns.map λx=>β x.1).Nodup ->
      ∀(next:Act->World->Prop) (Q':Exit->Act->World->Prop),(∀v w',v=sv.den U β->vx (ns.map λx=>β x.1) w w'->(∀x∈ns,w'.heap[β x.1]? = some (.cells (x.2.1.map (At.den U β)).toArray x.2.2))->next (a.put o.dst v) w')->o.wp P a w next Q')
    (h5:iA {st with m:=fD st.m ns} o.dst sv c):gT P W st o U ({st with m:=fD st.m ns}.bN o.dst sv c) sv (ns.map (·.1)):=by
  obtain⟨q1,q2,q3,q4,q5,q6⟩:=zz {st with m:=fD st.m ns} o.dst sv c
  have Qy:∀x∈ns,aE ({st with m:=fD st.m ns}.bN o.dst sv c).m ({st with m:=fD st.m ns}.bN o.dst sv c).o x.1=some (.fix x.2.1 x.2.2):=λx hx=>by
    obtain⟨cs,h,_⟩:=ji x hx;rw [q2,q4];exact n_ (JG xw hx h)
  have A3:∀k,k ∉ ns.map (·.1)->aE ({st with m:=fD st.m ns}.bN o.dst sv c).m ({st with m:=fD st.m ns}.bN o.dst sv c).o k=aE st.m st.o k:=λk hk=>by
    rw [q2,q4];unfold aE;rw [Eg hk]
  have oa:∀x∈ns,x.1<st.c.nk:=λx hx=>by
    obtain⟨cs,h,_⟩:=ji x hx;exact (wf.m _ _ _ h).1
  have g:=wf.grow h2;refine⟨λhk=>by rw [(zn _ _ _ _).1];exact hk,(zn _ _ _ _).2,q3,q5,q6,by rw [q1];exact h2, ?_,λt'=>zo _ o.dst _ _ t',λd hd=>(h5 d hd).1,λk hk => ?_,λk _ hk=>A3 k hk,λk e' hk hg x hx => ?_,λβ a w hB ho hr kx next Q' hn => ?_⟩
  · refine⟨λi => ?_,λk JF t2 hg => ?_,by rw [q4,q1];exact g.o,λk x hk => ?_,by rw [q5,q1];exact g.r,by rw [q6,q1];exact g.d,by rw [(zn _ _ _ _).1,q1];exact g.k,by rw [(zn _ _ _ _).2,q1];exact g.df⟩
    · rw [zo,q1];by_cases hd:o.dst=some i
      · rw [if_pos hd];exact (h5 i hd).2
      · rw [if_neg hd];exact g.t i
    · rw [q2]at hg;rw [q1];by_cases hk:k∈ns.map (·.1)
      · obtain⟨x,hx,rfl⟩:=List.mem_map.1 hk;obtain⟨cs,h,_⟩:=ji x hx;rw [JG xw hx h]at hg;simp only [Option.some.injEq,Prod.mk.injEq]at hg;obtain⟨rfl,rfl⟩:=hg;exact⟨Nat.lt_of_lt_of_le (oa x hx) h2.k,h3 x hx⟩
      · rw [Eg hk]at hg;exact g.m k JF t2 hg
    · rw [q4]at hk;rw [q2]
      have:=wf.ap k x hk
      by_cases cC:k∈ns.map (·.1)
      · obtain⟨y,hy,rfl⟩:=List.mem_map.1 cC;obtain⟨cs,h,_⟩:=ji y hy;rw [h]at this;cases this
      · rw [Eg cC];exact this
  · obtain⟨x,hx,rfl⟩:=List.mem_map.1 hk;exact⟨kz x hx,oa x hx⟩
  · by_cases cC:k∈ns.map (·.1)
    · obtain⟨y,hy,rfl⟩:=List.mem_map.1 cC;rw [Qy y hy]at hg;cases hg;obtain⟨cs,h,hi⟩:=ji y hy;exact .inr ⟨y.1,_,List.mem_append.2 (.inr (kz y hy)),n_ h,hi x hx⟩
    · rw [A3 k cC]at hg;rcases hk with hk|hk
      · exact (cC hk).elim
      · rw [wf.beyond hk]at hg;cases hg
  · have eI:∀ x∈ns,∃ cs,aE st.m st.o x.1=some (.fix cs x.2.2):=fun x hx=>by
      obtain⟨cs,h,_⟩:=ji x hx;exact⟨cs,n_ h⟩
    have JI:∀{k e},(k∈ns.map (·.1)∨st.c.nk<=k)->aE ({st with m:=fD st.m ns}.bN o.dst sv c).m ({st with m:=fD st.m ns}.bN o.dst sv c).o k=some e->∃x∈ns,x.1=k/\e=.fix x.2.1 x.2.2:=λ{k e} hk hg=>by
      by_cases cC:k∈ns.map (·.1)
      · obtain⟨y,hy,rfl⟩:=List.mem_map.1 cC;rw [Qy y hy]at hg;cases hg;exact⟨y,hy,rfl,rfl⟩
      · rw [A3 k cC]at hg;rcases hk with hk|hk
        · exact (cC hk).elim
        · rw [wf.beyond hk]at hg;cases hg
    have nd:(ns.map λx=>β x.1).Nodup:=by
      have key:∀l:List (Nat × List At × TypeId),(∀x∈l,x∈ns)->(l.map (·.1)).Nodup->(l.map λx=>β x.1).Nodup:=by
        intro l
        induction l with
        |nil=>intro _ _;exact List.nodup_nil
        |cons x l ih =>
          intro pM hn;simp only [List.map_cons,List.nodup_cons]at hn ⊢;refine⟨λhm => ?_,ih (λy hy=>pM y (List.mem_cons_of_mem _ hy)) hn.2⟩;obtain⟨y,hy,he⟩:=List.mem_map.1 hm;obtain⟨cs,h⟩:=eI x (pM x (List.mem_cons_self ..));obtain⟨iK,h'⟩:=eI y (pM y (List.mem_cons_of_mem _ hy))
          have:=kx x.1 y.1 _ _ (β x.1) (kz x (pM x (List.mem_cons_self ..))) (kz y (pM y (List.mem_cons_of_mem _ hy))) h h' (by simp [bD]) (by simp [bD,he])
          exact hn.1 (List.mem_map.2 ⟨y,hy,this.symm⟩)
      exact key ns (λx hx=>hx) xw
    refine h4 β a w hB ho hr nd next Q' λv w' hv hx hb=>hn β v w' (λ_=>hv) ⟨hx.os,hx.tape,hx.output,hx.size,λb Eh qq => ?_,λ_ _=>rfl,λk e' hk hg => ?_,λk k' e e' b hk gi hg ep k_ gU => ?_⟩
    · refine hx.block b Eh λhm => ?_;obtain⟨y,hy,he⟩:=List.mem_map.1 hm;obtain⟨cs,h⟩:=eI y hy;exact qq y.1 _ (List.mem_map.2 ⟨y,hy,rfl⟩) h (by simp [bD,he])
    · obtain⟨y,hy,rfl,rfl⟩:=JI hk hg;obtain⟨cs,h⟩:=eI y hy;refine⟨⟨(hr y.1 (List.mem_append.2 (.inr (kz y hy))) _ h).1,hb y hy⟩,λb k_=>.inr ⟨y.1,_,List.mem_map.2 ⟨y,hy,rfl⟩,h, ?_,.inl rfl⟩⟩;simpa [bD]using k_
    · obtain⟨y,hy,rfl,rfl⟩:=JI hk hg;obtain⟨y',eZ,rfl,rfl⟩:=JI gi ep;obtain⟨cs,h⟩:=eI y hy;obtain⟨iK,h'⟩:=eI y' eZ;exact kx y.1 y'.1 _ _ b (kz y hy) (kz y' eZ) h h' (by simpa [bD]using k_) (by simpa [bD]using gU)
theorem UU{m:Mem}{o:ba}{k0:Nat}{ce eY:CE}{sz:Nat}{el:TypeId}(hm:getM m k0=none)(h:aG o k0=some (ce,sz,el))(k:Nat):aE m (dw o k0 eY) k=if k0=k then some (.row eY sz el)else aE m o k:=by
 unfold aE;rw [A1];by_cases hk:k0=k
 ·subst hk;rw [if_pos rfl,if_pos rfl,hm,h];rfl
 ·rw [if_neg hk,if_neg hk]
theorem UW{st:St}{o:Oper}{U:Env}{k0:Nat}{ce eY:CE}{sz:Nat}{el:TypeId}{sv:SV}{c:ar}(wf:st.WF)(hle:st.c.le c)(ji:aG st.o k0=some (ce,sz,el))(kz:k0∈aQ st o)(h3:bW c eY=true)(jG:eY.flatMap cm=[])
  (h4:∀(β:Nat->Nat) (a:Act) (w:World),dz W w->dD st o U β a->fk W st.m st.o (aU st o++aQ st o) U β w ->
   ∀(next:Act->World->Prop) (Q':Exit->Act->World->Prop),(∀v w',v=sv.den U β->(β (k0+1)<=1->Below w.heap.size w w')->(2<=β (k0+1)->xO (β k0) w w')->bH (λ_=>True) (β k0) (β (k0+1)) (β (k0+2)) (β (k0+3)) (aq U β eY) sz el w'->next (a.put o.dst v) w')->o.wp P a w next Q')
  (h5:iA {st with o:=dw st.o k0 eY} o.dst sv c):gT P W st o U ({st with o:=dw st.o k0 eY}.bN o.dst sv c) sv [k0]:=by
 obtain⟨q1,q2,q3,q4,q5,q6⟩:=zz {st with o:=dw st.o k0 eY} o.dst sv c;have kA:=wf.ap k0 _ ji
 have hm:∀k,aE ({st with o:=dw st.o k0 eY}.bN o.dst sv c).m ({st with o:=dw st.o k0 eY}.bN o.dst sv c).o k=if k0=k then some (.row eY sz el)else aE st.m st.o k:=λk=>by
  rw [q2,q4];exact UU kA ji k
 have oa:=(wf.o k0 ce sz el ji).1;have g:=wf.grow hle;refine⟨λhk=>by rw [(zn _ _ _ _).1];exact hk,(zn _ _ _ _).2,q3,q5,q6,by rw [q1];exact hle, ?_,λt'=>zo _ o.dst _ _ t',λd hd=>(h5 d hd).1,λk hk => ?_,λk _ hk => ?_,λk e' hk hg x hx => ?_,λβ a w hB ho hr _ next Q' hn => ?_⟩
 ·refine⟨λi => ?_,by rw [q2,q1];exact g.m,λk JJ JK t2 hg => ?_,λk x hk => ?_,by rw [q5,q1];exact g.r,by rw [q6,q1];exact g.d,by rw [(zn _ _ _ _).1,q1];exact g.k,by rw [(zn _ _ _ _).2,q1];exact g.df⟩
  ·rw [zo,q1];by_cases hd:o.dst=some i
   ·rw [if_pos hd];exact (h5 i hd).2
   ·rw [if_neg hd];exact g.t i
  ·rw [q4,A1]at hg;rw [q1];by_cases hk:k0=k
   ·subst hk;rw [if_pos rfl,ji]at hg;simp only [Option.map_some,Option.some.injEq,Prod.mk.injEq]at hg;obtain⟨rfl,rfl,rfl⟩:=hg;exact⟨Nat.lt_of_lt_of_le oa hle.k,h3⟩
   ·rw [if_neg hk]at hg;exact g.o k JJ JK t2 hg
  ·rw [q4,A1]at hk;rw [q2];by_cases cC:k0=k
   ·subst cC;exact kA
   ·rw [if_neg cC]at hk;exact wf.ap k x hk
 ·simp only [List.mem_singleton]at hk;subst hk;exact⟨kz,by omega⟩
 ·rw [hm,if_neg (λe=>hk (by simp [e]))]
 ·rw [hm]at hg;by_cases cC:k0=k
  ·rw [if_pos cC]at hg;cases hg;simp only [dS,jG]at hx;cases hx
  ·rw [if_neg cC]at hg;rcases hk with hk|hk
   ·simp only [List.mem_singleton]at hk;exact (cC hk.symm).elim
   ·rw [wf.beyond hk]at hg;cases hg
 ·have hold:=hr k0 (List.mem_append.2 (.inr kz)) _ (kt kA ji);simp only [Holds]at hold;refine h4 β a w hB ho hr next Q' λv w' hv fy dL bj => ?_
  have base:w'.os=w.os/\w'.tape=w.tape/\w'.output=w.output/\w.heap.size<=w'.heap.size/\∀b,b<w.heap.size->(2<=β (k0+1)->b≠β k0)->w'.heap[b]? = w.heap[b]? := by
   by_cases hc:β (k0+1)<=1
   ·have h:=fy hc;exact⟨h.os,h.tape,h.output,h.size,λb hb _=>h.block b hb⟩
   ·have h:=dL (by omega);exact⟨h.os,h.tape,h.output,h.size,λb hb hn=>h.block b hb (hn (by omega))⟩
  obtain⟨r3,r4,r5,r6,r7⟩:=base;refine hn β v w' (λ_=>hv) ⟨r3,r4,r5,r6,λb hb qq=>r7 b hb λh2 he=>qq k0 _ (by simp) (kt kA ji) (by simp only [bD,h2,if_true,he]),λ_ _=>rfl,λk e' hk hg => ?_,λk k' e e' _ hk gi hg ep _ _ => ?_⟩
  ·rw [hm]at hg;by_cases cC:k0=k
   ·rw [if_pos cC]at hg;cases hg;subst cC;refine⟨?_,λb hb=>.inr ⟨k0,_,by simp,kt kA ji,hb,.inl rfl⟩⟩;simp only [Holds];exact bj.imp λh2 _=>bH.own hold h2
   ·rw [if_neg cC]at hg;rcases hk with hk|hk
    ·simp only [List.mem_singleton]at hk;exact (cC hk.symm).elim
    ·rw [wf.beyond hk]at hg;cases hg
  ·have one:∀{k e},(k ∈ [k0]∨st.c.nk<=k)->aE ({st with o:=dw st.o k0 eY}.bN o.dst sv c).m ({st with o:=dw st.o k0 eY}.bN o.dst sv c).o k=some e->k=k0:=by
    intro k e hk hg;rcases hk with hk|hk
    ·simpa using hk
    ·rw [hm,if_neg (by omega),wf.beyond hk]at hg;cases hg
   rw [one hk hg,one gi ep]
end Vc
set_option linter.unusedVariables false
namespace Vc
open Go Go.RowKit
variable {P:Program} {W:dR} {Q:Value->Prop} {QM QP:World->Value->Prop}
theorem zd:∀(x y:List At),aF (x++y)=aF x++aF y
  | [],_=>rfl
  |a::x,y=>by
    have:=zd x y
    cases a<;>simp [aF,this]
theorem A4{x:Nat}(l:List At)(n:Nat)(h:x∈aF (l.take n)):x∈aF l:=by
 have:=zd (l.take n) (l.drop n)
 rw [List.take_append_drop]at this;rw [this];exact List.mem_append.2 (.inl h)
theorem A5{x:Nat}(l:List At)(n:Nat)(h:x∈aF (l.drop n)):x∈aF l:=by
 have:=zd (l.take n) (l.drop n)
 rw [List.take_append_drop]at this;rw [this];exact List.mem_append.2 (.inr h)
theorem Qz{v:Value}{a:At}(h:At.ofValue v=some a):aF [a]=[]:=by
  unfold At.ofValue at h
  split at h<;>first
    | (cases h;rfl)
    | (split at h
       · cases h;rfl
       · cases h)
    |cases h
theorem QA:∀{l:List Value} {r:List At},la l=some r->aF r=[]
  | [],r,h=>by simp only [la,Option.some.injEq]at h;subst h;rfl
  |v::l,r,h=>by
    simp only [la]at h;split at h
    · rename_i a r' h1 h2;simp only [Option.some.injEq]at h;subst h;rw [show a::r'=[a]++r' from rfl,zd,Qz h1,QA h2];rfl
    · cases h
theorem JL{t:TypeId}{z:CV}(h:cx P t=some z):aF z.cells=[]:=by
  unfold cx at h;cases hi:P.info? t with
  |none=>simp [hi]at h
  |some i =>
    simp only [hi]at h;cases hz:i.zero with
    |none=>simp [hz]at h
    |some v =>
      simp only [hz]at h;generalize hs:SV.ofValue v=sv at h;cases sv with
      |cv x =>
        simp only [Option.some.injEq]at h;subst h;unfold SV.ofValue at hs;split at hs
        · split at hs
          · rename_i l hl;cases hs;exact QA hl
          · cases hs
        · split at hs
          · rename_i a ha;cases hs;exact Qz ha
          · cases hs
      |_=>simp at h
theorem JM(l:List At)(h:aF l=[]):∀n,aF (times l n)=[]
 |0=>rfl
 |n+1=>by simp only [times,zd,h,JM l h n,List.nil_append]
theorem QB{place:Nat->Option (Nat × Nat)}{x:Nat}:∀(parts:List (Nat × SV)) (cells:List At) {cs:List At},cw place cells parts=some cs->x∈aF cs->x∈aF cells∨x∈parts.flatMap λp=>d_ p.2
  | [],cells,cs,h,hx=>by simp only [cw,Option.some.injEq]at h;subst h;exact .inl hx
  | (i,.any)::r,_,_,h,_=>by simp [cw]at h
  | (i,.dF)::r,_,_,h,_=>by simp [cw]at h
  | (i,.cE l)::r,_,_,h,_=>by simp [cw]at h
  | (i,.cv v)::r,cells,cs,h,hx=>by
    simp only [cw]at h;split at h
    · rename_i off size _;split at h
      · rcases QB r _ h hx with h1|h1
        · rw [zd,zd]at h1;rcases List.mem_append.1 h1 with h2|h2
          · rcases List.mem_append.1 h2 with h3|h3
            · exact .inl (A4 _ _ h3)
            · exact .inr (List.mem_flatMap.2 ⟨_,List.mem_cons_self,h3⟩)
          · exact .inl (A5 _ _ h2)
        · obtain⟨p,hp,JN⟩:=List.mem_flatMap.1 h1;exact .inr (List.mem_flatMap.2 ⟨p,List.mem_cons_of_mem _ hp,JN⟩)
      · cases h
    · cases h
theorem QC{st:St}{o:Oper}{t el:TypeId}{len:Nat}{parts:Array (Nat × Operand)}(ho:o.op=.buildSlice t len parts)(hu:P.underlying t=some (.slice el)){g:Bool}{s:Nat}{z:CV}(hz:aH P el=some (g,s))(vJ:cx P el=some z)
  (hc:z.cells.length=s/\0<s/\0<len/\len*s<=4096) {cs:List At} (hf:cw (λi=>some (i*s,s)) (times z.cells len) (parts.toList.map λp=>(p.1,st.ev p.2))=some cs) {J:Env} {β:Nat->Nat} {a:Act} {w:World} (bh:dD st o J β a) :
  (execOp a.eval o).run P w=.ok (.value (.slice (some ⟨w.heap.size,0,none⟩) len len)) (w.alloc (.cells (cs.map (At.den J β)).toArray el)):=by
 obtain⟨c1,c2,c3,c4⟩:=hc;have q1:=(xS vJ J β w st.c).1;have q3:=GX J β _ _ hf;have eG:=G0 _ _ hf
 have e1:(parts.map λx=>(x.1,a.eval x.2)).toList=(parts.toList.map λp=>(p.1,st.ev p.2)).map λp=>(p.1,p.2.den J β):=by
  rw [List.map_map,Array.toList_map];apply List.map_congr_left;intro p hp
  have:=bh p.2 (by rw [ho];simp only [Op.operands];exact Qm (by simpa using ⟨p.1,Array.mem_toList_iff.1 hp⟩)) (eG (p.1,st.ev p.2) (List.mem_map.2 ⟨p,hp,rfl⟩))
  simp [this]
 have Ei:(z.den J β).cells.size=s:=by rw [CV.bp];simpa using c1
 have q4:=Qw (z.den J β).cells len (by rw [Ei];exact c2);rw [Ei]at q4;have n1:¬(len*s > 2 ^ 24):=by omega
 have n2:¬(len*s=0):=by
  have:=Nat.mul_pos c3 c2;omega
 simp only [execOp,ho,Instr.buildSlice,Sem.run_bind,run_underlying hu,Result.andThen_ok,qm hz,n1,n2,if_false,q1,Sem.run_pure,e1,Ei,q4];rw [show times (z.den J β).cells.toList len=(times z.cells len).map (At.den J β) by rw [Js,CV.bp],q3];simp [newRow]
theorem UX{G:bF}(hG:G.Ok){st:St}{o:Oper}{K:St->Env->Prop}{U:Env}(wf:st.WF)(eR:bV.den st.k U)(h:lE (PA G.P W Q QM QP) G st o K U):pL G.P W st o K U:=by
 have new:∀{cs:List At} {t:TypeId} {v:Nat->At} (vd:Nat->Value),St.new (PA G.P W Q QM QP) st o.dst cs t v K U->(∀x∈aF cs,x∈cN st o)->(∀(J:Env) (β:Nat->Nat),(v st.c.nk).den J β=vd (β st.c.nk)) ->
   (∀J,Env.ay st.c U J->∀(β:Nat->Nat) (a:Act) (w:World),dD st o J β a->(execOp a.eval o).run G.P w=.ok (.value (vd w.heap.size)) (w.alloc (.cells (cs.map (At.den J β)).toArray t))) ->
   pL G.P W st o K U:=by
  intro cs t v vd h jG hv hr;unfold St.new at h;by_cases hw:cs.all (At.wf st.c)=true
  ·rw [if_pos hw,GM]at h;obtain⟨h1,h2⟩:=zh h;have hc:=(zz {st with m:=(st.c.nk,cs,t)::st.m} o.dst (.cv (.one (v st.c.nk))) {st.c with nk:=st.c.nk+1}).1;have hle:=ar.jV st.c 1;refine⟨_,U,.cv (.one (v st.c.nk)),[],h1,by rw [hc];exact hle,Env.an _ _,λJ hl => ?_⟩;rw [hc]at hl;have fX:Env.ay st.c U J:=⟨hl.i,hl.b,hl.v,hl.p,hl.s,hl.l⟩;exact JB wf hw jG (hv J) (hr J fX) h2
  ·rw [if_neg hw]at h;exact h.elim
 unfold lE at h;generalize ho:o.op=op at h;cases op
 case alloc t =>
  simp only at h;generalize hz:cx G.P t=u at h;split at h
  ·rename_i z;refine new (λB=>.pointer (some ⟨B,0,none⟩)) h (by rw [JL hz];intro x hx;cases hx) (λ_ _=>rfl) λJ hl β a w bh => ?_;have q1:=(xS hz J β w st.c).1;simp [execOp,ho,Instr.alloc,q1,newVar,newRow,CV.bp]
  ·exact h.elim
 case box t x =>
  simp only at h;generalize hx:st.ev x=sx at h;split at h
  ·rename_i v;refine new (λB=>.pointer (some ⟨B,0,none⟩)) h (λy hy=>by simp only [cN,ho,hx];exact hy) (λ_ _=>rfl) λJ hl β a w bh => ?_;have e1:=bh x (by rw [ho];simp [Op.operands]) (by rw [hx];simp);rw [hx]at e1;simp [execOp,ho,e1,Instr.box,newVar,newRow,SV.den,CV.bp]
  ·exact h.elim
 case store t x y =>
  simp only at h;generalize hz:aH G.P t=u1 at h;generalize hx:st.ev x=sx at h;generalize eZ:st.ev y=sy at h;split at h
  ·rename_i g n k off v;generalize hm:getM st.m k=u2 at h;split at h
   ·rename_i cs ty;split at h
    ·rename_i hc;obtain⟨kV,iI,oP⟩:=hc;obtain⟨h1,h2⟩:=zh h;have hc:=(zz {st with m:=iQ st.m k (cs.take off++v.cells++cs.drop (off+n))} o.dst .any st.c).1;refine⟨_,U,.any,[k],h1,by rw [hc];exact ar.le_refl _,Env.an _ _,λJ hl => ?_⟩;refine JE wf hm (by simp [aQ,ho,hx,aM,CV.cells,az]) ?_ (λy hy => ?_) (λβ a w bh m2 => ?_) h2
     ·have:=(wf.m k cs ty hm).2
      simp only [List.all_append,(zu this off).1,(zu this (off+n)).2,CV.dk oP,Bool.and_self]
     ·rw [zd,zd]at hy;rcases List.mem_append.1 hy with hy|hy
      ·rcases List.mem_append.1 hy with hy|hy
       ·exact .inr (A4 _ _ hy)
       ·simp only [cN,ho,eZ];exact .inl hy
      ·exact .inr (A5 _ _ hy)
     ·have e1:=bh x (by rw [ho];simp [Op.operands]) (by rw [hx];simp);have e2:=bh y (by rw [ho];simp [Op.operands]) (by rw [eZ];simp);rw [hx]at e1;rw [eZ]at e2
      have hs:=Qu (g:=g) hz w (β k) off (v.den J β) _ ty m2 (by rw [CV.bp];simpa using kV) (by simpa using iI) (by
       rw [CV.bp];intro z Ej;simp only [List.mem_map]at Ej;obtain⟨q,_,rfl⟩:=Ej;exact At.gp J β q)
      rw [CV.bp]at hs;simp only [<-P5]at hs;have A6:a.eval x=ptr (β k) off:=e1;have A7:a.eval y=v.den J β:=e2;simp only [execOp,ho,A6,A7,Sem.run_bind,hs,Result.andThen_ok,Sem.run_pure]
    ·exact h.elim
   ·exact h.elim
  ·exact h.elim
 case makeInterface t x =>
  simp only at h;generalize hu:G.P.underlying t=u1 at h;generalize hx:st.ev x=sx at h;split at h
  ·exact h.elim
  ·rename_i d v vF;split at h
   ·rename_i hv;obtain⟨A8,AZ⟩:=hv;have h:=h ⟨.iface t (v.den U b0),rfl⟩ rfl;have hle:st.c.le {st.c with nv:=st.c.nv+1}:=zr st.c .uA;have cX:=DQ st.c U ⟨.iface t (v.den U b0),rfl⟩;obtain⟨h1,h2⟩:=zh h;have hc:=(zz {st with k := .iO st.c.nv t v::st.k} o.dst (.cv (.one (.val st.c.nv))) {st.c with nv:=st.c.nv+1}).1;refine⟨_,_,.cv (.one (.val st.c.nv)),[],h1,by rw [hc];exact hle,cX,λJ hl => ?_⟩;rw [hc]at hl;have fX:Env.ay st.c U J:=Env.ah hle cX hl
    have e0:(J.v st.c.nv).1=.iface t (v.den J b0):=by
     rw [hl.v st.c.nv (Nat.lt_succ_self _),CV.aa fX (λ_ _=>rfl) AZ];exact congrArg (λy:OV=>y.1) (if_pos rfl)
    refine UT wf (bB.run λβ a w hB bh hr=>⟨.iface t (v.den J β), ?_,λ_ => ?_⟩) hle h2 (λz hz => ?_) (λhk z hz => ?_)
    ·have e1:=bh x (by rw [ho];simp [Op.operands]) (by rw [hx];simp);rw [hx]at e1;simp only [execOp,ho,e1];refine zi _ w _ ?_
     cases d<;>first
      | (exact (vF _ rfl).elim)
      | (simp [Instr.makeInterface,run_underlying hu,SV.den])
    ·show _=(J.v st.c.nv).1;rw [e0,CV.bg J β b0 A8]
    ·rcases List.mem_cons.1 hz with rfl|hz
     ·simp only [Kn.wf,Bool.and_eq_true,decide_eq_true_eq];exact⟨Nat.lt_succ_self _,CV.aL hle AZ,A8⟩
     ·exact Kn.aL hle (wf.k z hz)
    ·rcases List.mem_cons.1 hz with rfl|hz
     ·exact e0
     ·exact hk z hz
   ·exact h.elim
  ·exact h.elim
 case buildSlice t len parts =>
  simp only at h;generalize hu:G.P.underlying t=u1 at h;split at h
  ·rename_i el;generalize hz:aH G.P el=u2 at h;generalize vJ:cx G.P el=u3 at h;split at h
   ·rename_i g s z;split at h
    ·rename_i hc;obtain⟨c1,c2,c3,c4⟩:=hc;generalize hf:cw (λi=>some (i*s,s)) (times z.cells len) (parts.toList.map λp=>(p.1,st.ev p.2))=u4 at h;split at h
     ·rename_i cs;refine new (λB=>.slice (some ⟨B,0,none⟩) len len) h (λy hy => ?_) (λ_ _=>rfl) λJ hl β a w bh => ?_
      ·rcases QB _ _ hf hy with h1|h1
       ·rw [JM _ (JL vJ)]at h1;cases h1
       ·simp only [cN,ho];simpa [List.flatMap_map]using h1
      exact QC ho hu hz vJ ⟨c1,c2,c3,c4⟩ hf bh
     ·exact h.elim
    ·exact h.elim
   ·exact h.elim
  ·exact h.elim
 all_goals
  obtain⟨sv,c',af,h1,h2,h3,h4⟩:=Jp hG wf eR h;by_cases hk:c'.nk=st.c.nk
  ·rw [if_pos hk]at h1;obtain⟨q1,q2⟩:=zh h1;have hc:=(zz st o.dst sv c').1;refine⟨_,af,sv,[],q1,by rw [hc];exact h2,h3,λJ hl => ?_⟩;rw [hc]at hl;exact Jz wf (h4 J hl) h2 q2
  ·rw [if_neg hk]at h1;exact h1.elim
theorem QD{p:At->Bool}:∀{cs:List At} {jj:List Nat} {l:List At},cs.all p=true->l.all p=true->(gG cs jj l).all p=true
  |cs,[],l,h,_=>by simpa [gG]using h
  |cs,i::r,[],h,_=>by simpa [gG]using h
  |cs,i::r,a::l,h,hl=>by
    simp only [List.all_cons,Bool.and_eq_true]at hl;refine QD (cs:=cs.take i++a::cs.drop (i+1)) (List.all_eq_true.2 λx hx => ?_) hl.2;rcases List.mem_append.1 hx with hx|hx
    · exact List.all_eq_true.1 h x (List.mem_of_mem_take hx)
    · rcases List.mem_cons.1 hx with rfl|hx
      · exact hl.1
      · exact List.all_eq_true.1 h x (List.mem_of_mem_drop hx)
theorem QF{x:Nat}:∀{cs:List At} {jj:List Nat} {l:List At},aF l=[]->x∈aF (gG cs jj l)->x∈aF cs
  |cs,[],l,_,h=>by simpa [gG]using h
  |cs,i::r,[],_,h=>by simpa [gG]using h
  |cs,i::r,a::l,hl,h=>by
    have e:=zd [a] l;rw [List.singleton_append,hl]at e;have e':=(List.append_eq_nil_iff.1 e.symm);have h2:=QF (cs:=cs.take i++a::cs.drop (i+1)) e'.2 h;have e2:=zd [a] (cs.drop (i+1));rw [List.singleton_append,e'.1,List.nil_append]at e2;rw [zd,e2]at h2;rcases List.mem_append.1 h2 with h3|h3
    · exact A4 _ _ h3
    · exact A5 _ _ h3
theorem QG:∀(ks:List CK) (c:ar),ks.all CK.plain=true->aF (au c ks)=[]
  | [],c,_=>rfl
  |k::l,c,h=>by
    simp only [List.all_cons,Bool.and_eq_true]at h;have ih:=QG l (aV c k) h.2;cases k<;>first | (simp only [au,bo,aF];exact ih) | (simp [CK.plain]at h)
theorem QH{l:List At}(h:aF l=[])(n:Nat):aF (l.drop n)=[]:=by
 have:=zd (l.take n) (l.drop n)
 rw [List.take_append_drop,h]at this;exact (List.append_eq_nil_iff.1 this.symm).2
theorem QI{cs:List At}:∀{jj:List Nat} {ks:List CK},jh cs jj=some ks->ks.all CK.plain=true
  | [],ks,h=>by simp only [jh,Option.some.injEq]at h;subst h;rfl
  |i::r,ks,h=>by
    simp only [jh]at h;split at h
    · rename_i k l hk hl;simp only [Option.some.injEq]at h;subst h;simp only [List.all_cons,Bool.and_eq_true];refine⟨?_,QI hl⟩;cases hc:cs[i]? with
      |none=>rw [hc]at hk;cases hk
      |some a =>
        rw [hc]at hk;simp only [Option.bind_some]at hk;cases a<;>simp only [vh,Option.some.injEq,reduceCtorEq]at hk<;>(subst hk;rfl)
    · cases h
theorem QJ{k:Nat}:∀{l:List SV} {j:Nat},l[j]? = some (.cv (.one (.loc k 0)))->k∈dZ l
  | [],j,h=>by simp at h
  |x::l,0,h=>by
    simp only [List.getElem?_cons_zero,Option.some.injEq]at h;subst h;simp [dZ]
  |x::l,j+1,h=>by
    have:=QJ (l:=l) (j:=j) (by simpa using h)
    unfold dZ;split
    · cases ‹_::_=[]›
    · rename_i heq;simp only [List.cons.injEq]at heq;obtain⟨_,rfl⟩:=heq;exact List.mem_cons_of_mem _ this
    · rename_i heq;simp only [List.cons.injEq]at heq;obtain⟨_,rfl⟩:=heq;exact List.mem_cons_of_mem _ this
    · rename_i heq;simp only [List.cons.injEq]at heq;obtain⟨_,rfl⟩:=heq;exact this
theorem JO{l:List At}(h:aF l=[])(n:Nat):aF (l.take n)=[]:=by
 have:=zd (l.take n) (l.drop n)
 rw [List.take_append_drop,h]at this;exact (List.append_eq_nil_iff.1 this.symm).1
theorem QK{m:Mem}{args:List SV}:∀{jo:List (Nat × List Nat)} {bl:List vi},hZ m args jo=some bl->∀e∈bl,(∃j:Nat,args[j]? = some (SV.cv (.one (.loc e.k 0))))/\getM m e.k=some (e.cs,e.t)/\jh e.cs e.jj=some e.ks
  | [],bl,h,e,he=>by simp only [hZ,Option.some.injEq]at h;subst h;cases he
  | (j,jj)::r,bl,h,e,he=>by
    simp only [hZ]at h;split at h
    · rename_i k l h1 h2;split at h
      · rename_i cs t h3;split at h
        · rename_i ks h4;simp only [Option.some.injEq]at h;subst h;rcases List.mem_cons.1 he with rfl|he
          · exact⟨⟨j,h1⟩,h3,h4⟩
          · exact QK h2 e he
        · cases h
      · cases h
    · cases h
theorem QL{x:Nat × List At × TypeId}:∀{bl:List vi} {fr:List At},x∈jE bl fr->∃e∈bl,∃n m,x=(e.k,gG e.cs e.jj ((fr.drop n).take m),e.t)
  | [],fr,h=>by cases h
  |e::r,fr,h=>by
    rcases List.mem_cons.1 h with rfl|h
    · exact⟨e,List.mem_cons_self ..,0,e.ks.length,rfl⟩
    · obtain⟨e',h1,n,m,h2⟩:=QL h;exact⟨e',List.mem_cons_of_mem _ h1,e.ks.length+n,m,by rw [h2,List.drop_drop]⟩
theorem QN:∀(bl:List vi) (fr:List At),(jE bl fr).map (·.1)=bl.map (·.k)
 | [],fr=>rfl
 |e::r,fr=>by simp only [jE,List.map_cons,QN r]
theorem UY{G:bF}(hG:G.Ok){st:St}{o:Oper}{K:St->Env->Prop}{U:Env}(wf:st.WF)(eR:bV.den st.k U){g:Operand}{args:Array Operand}{bT:Array TypeId}(ho:o.op=.call ⟨.value g,args,bT⟩){f:FuncId}{aB:List (Nat × Nat)}(hg:st.ev g=.cv (.one (.fn f aB)))
  {jo:List (Nat × List Nat)} {all:List SV} (cf:all=args.toList.map st.ev++aB.map λx=>SV.cv (.one (.loc x.1 x.2))) (h:vj (PA G.P W Q QM QP) G st o.dst f all jo K U):pL G.P W st o K U:=by
 unfold vj at h;generalize hf:G.P.funcs[f]? = u1 at h;split at h
 ·exact h.elim
 ·rename_i fn;generalize hs:gE G.P fn.resultTypes.toList=u2 at h;generalize hj:hZ st.m all jo=u3 at h;split at h
  ·rename_i ss bl;simp only at h;split at h
   ·exact h.elim
   ·rename_i ha;simp only [not_or,Decidable.not_not]at ha;obtain⟨qn,sQ⟩:=ha;split at h
    ·rename_i xw;split at h
     ·rename_i hc;generalize sR:bQ ss++bl.flatMap (·.ks)=ks at h;have jS:=QK hj
      have mH:ks.all CK.plain=true:=by
       rw [<-sR,List.all_append,GY _ hs,Bool.true_and];refine List.all_eq_true.2 λk hk => ?_;obtain⟨e,he,oQ⟩:=List.mem_flatMap.1 hk;exact List.all_eq_true.1 (QI (jS e he).2.2) k oQ
      have CW:=AS ks st.c;have UZ:=QG ks st.c mH;have kT:=DT ks st.c mH;have hle:=xk ks st.c;obtain⟨aR,l1,⟨h1,h3⟩⟩:=uC ks st.c h;generalize au st.c ks=fr at *;have jy:eo (cq (bG ss fr))=true:=DZ (CM _ _ kT);have ic:(cq (bG ss fr)).wf (aP st.c ks)=true:=CO (CN _ _ _ CW);obtain⟨h4,h5⟩:=zh h3;have U0:=QN bl (fr.drop (bQ ss).length);have JP:∀x∈jE bl (fr.drop (bQ ss).length),∃e∈bl,∃n m,x=(e.k,gG e.cs e.jj (((fr.drop (bQ ss).length).drop n).take m),e.t):=λx hx=>QL hx;generalize jE bl (fr.drop (bQ ss).length)=ns at *;have gw:=(zz {st with m:=fD st.m ns} o.dst (cq (bG ss fr)) (aP st.c ks)).1
      have qU:∀x∈ns,x.2.1.all (At.wf (aP st.c ks))=true:=λx hx=>by
       obtain⟨e,he,n,m,rfl⟩:=JP x hx;exact QD (AB hle (wf.m _ _ _ (jS e he).2.1).2) (zu (zu (zu CW _).2 n).2 m).1
      refine⟨_,aR,cq (bG ss fr),ns.map (·.1),h4,by rw [gw];exact hle,l1,λJ hl => ?_⟩;rw [gw]at hl
      have fY:∀x∈ns,∃e∈bl,e.k=x.1:=λx hx=>by
       obtain⟨e,he,n,m,rfl⟩:=JP x hx;exact⟨e,he,rfl⟩
      have vK:aQ st o=dZ all:=by simp only [aQ,ho,hg,cf]
      refine JH wf hle (by rw [U0];exact xw) (λx hx => ?_) (λx hx => ?_) qU (λβ a w hB bh hr kx next Q' hn => ?_) h5
      ·obtain⟨e,he,n,m,rfl⟩:=JP x hx;exact⟨e.cs,(jS e he).2.1,λy hy=>QF (JO (QH (QH UZ _) n) m) hy⟩
      ·obtain⟨e,he,hk⟩:=fY x hx;rw [vK,<-hk];obtain⟨j,U1⟩:=(jS e he).1;exact QJ U1
      ·have l3:Env.ay st.c U J:=Env.ah hle l1 hl
       have eG:∀x∈all,x ≠ .any:=by
        intro x hx he;subst he;exact qn (List.any_eq_true.2 ⟨_,hx,rfl⟩)
       have eu:all.map (SV.den J β)=all.map (SV.den U β) :=
        List.map_congr_left λx hx=>SV.aa l3 (λ_ _=>rfl) (List.all_eq_true.1 sQ x hx)
       have eg:=bh g (by rw [ho];simp [Op.operands,Call.operands]) (by rw [hg];simp);rw [hg]at eg;have xZ:a.eval g=.func (.func f) #[] (aB.map λc=>.pointer (some ⟨β c.1,c.2,none⟩)).toArray:=eg
       have ea:(args.map a.eval).toList=(args.toList.map st.ev).map (SV.den J β):=by
        rw [Array.toList_map];exact zt _ λx hx=>bh x (by rw [ho];simp only [Op.operands,Call.operands];exact Array.mem_append.2 (.inr (Array.mem_toList_iff.1 hx))) (eG _ (by rw [cf];exact List.mem_append.2 (.inl (List.mem_map.2 ⟨x,hx,rfl⟩))))
       have ec:(#[]:Array Value)++args.map a.eval++(aB.map λc=>(.pointer (some ⟨β c.1,c.2,none⟩):Value)).toArray=(all.map (SV.den J β)).toArray:=by
        apply Array.ext';rw [Array.toList_append,Array.toList_append,ea,cf];simp [SV.den,CV.den,At.den,Function.comp_def]
       have hx:(execOp a.eval o).run G.P w=(callFunc f (all.map (SV.den J β)).toArray).run G.P w:=by
        simp only [execOp,ho,resolve,xZ,Deferred.ofValue,Sem.run_bind,Sem.run_pure,Result.andThen_ok,invoke];rw [<-ec]
       have dC:fk W st.m st.o (az (cj st.m st.o all)) J β w:=λq hq=>hr q (List.mem_append.2 (.inl (by simp only [aU,ho,hg];rw [<-cf];exact hq)));unfold Oper.wp;rw [hx,hG.calls f hc _ w,Oper.upon_enter];rw [eu];refine ((h1 β w hB (AW wf.ap l3 (λq cs t hq=>(wf.m q cs t hq).2) (λq ce sz t hq=>(wf.o q ce sz t hq).2) _ dC)).out (by simpa [List.map_map,Function.comp_def]using kx)).mono λe w' he => ?_;obtain⟨rfl,fy,dL⟩:=he.out;refine hn _ w' ?_ (by simpa [List.map_map,Function.comp_def]using fy) λx hx => ?_
       ·rw [SV.bg J β b0 jy,SV.aa hl (β:=b0) (λ_ _=>rfl) ic]
       ·rw [dL _ (List.mem_map.2 ⟨x,hx,rfl⟩),xF hl (λ_ _=>rfl) (qU x hx)]
     ·exact h.elim
    ·exact h.elim
  ·exact h.elim
theorem JQ{k:Nat}:∀{l:List SV} {j:Nat},l[j]? = some (.cv (.one (.own k)))->k∈dZ l
  | [],j,h=>by simp at h
  |x::l,0,h=>by
    simp only [List.getElem?_cons_zero,Option.some.injEq]at h;subst h;simp [dZ]
  |x::l,j+1,h=>by
    have:=JQ (l:=l) (j:=j) (by simpa using h)
    unfold dZ;split
    · cases ‹_::_=[]›
    · rename_i heq;simp only [List.cons.injEq]at heq;obtain⟨_,rfl⟩:=heq;exact List.mem_cons_of_mem _ this
    · rename_i heq;simp only [List.cons.injEq]at heq;obtain⟨_,rfl⟩:=heq;exact List.mem_cons_of_mem _ this
    · rename_i heq;simp only [List.cons.injEq]at heq;obtain⟨_,rfl⟩:=heq;exact this
theorem U2{G:bF}(hG:G.Ok){st:St}{o:Oper}{K:St->Env->Prop}{U:Env}(wf:st.WF)(eR:bV.den st.k U){g:Operand}{args:Array Operand}{bT:Array TypeId}(ho:o.op=.call ⟨.value g,args,bT⟩){f:FuncId}{aB:List (Nat × Nat)}(hg:st.ev g=.cv (.one (.fn f aB)))
  {j:Nat} {all:List SV} (cf:all=args.toList.map st.ev++aB.map λx=>SV.cv (.one (.loc x.1 x.2))) (h:rC (PA G.P W Q QM QP) G st o.dst f all j K U):pL G.P W st o K U:=by
 unfold rC at h;generalize hf:G.P.funcs[f]? = u1 at h;split at h
 ·exact h.elim
 ·rename_i fn;generalize hs:gE G.P fn.resultTypes.toList=u2 at h;generalize hj:all[j]? = u3 at h;split at h
  ·rename_i ss k;generalize hm:aG st.o k=u4 at h;split at h
   ·rename_i ce sz t;simp only at h;split at h
    ·exact h.elim
    ·rename_i ha;simp only [not_or,Decidable.not_not]at ha;obtain⟨qn,sQ⟩:=ha;split at h
     ·rename_i hc;have eJ:st.c.le {st.c with nl:=st.c.nl+1}:=⟨Nat.le_refl _,Nat.le_refl _,Nat.le_refl _,Nat.le_refl _,Nat.le_refl _,Nat.le_refl _,Nat.le_succ _⟩;generalize sR:bQ ss=ks at h;have mH:ks.all CK.plain=true:=by rw [<-sR];exact GY _ hs
      have CW:=AS ks {st.c with nl:=st.c.nl+1};have kT:=DT ks {st.c with nl:=st.c.nl+1} mH;have hle:=xk ks {st.c with nl:=st.c.nl+1};obtain⟨L,h⟩:=h;obtain⟨aR,l1,⟨h1,h3⟩⟩:=uC ks {st.c with nl:=st.c.nl+1} h;generalize au {st.c with nl:=st.c.nl+1} ks=fr at *;have jy:eo (cq (bG ss fr))=true:=DZ (CM _ _ kT);have ic:(cq (bG ss fr)).wf (aP {st.c with nl:=st.c.nl+1} ks)=true:=CO (CN _ _ _ CW);obtain⟨h4,h5⟩:=zh h3;have gw:=(zz {st with o:=dw st.o k [.var st.c.nl]} o.dst (cq (bG ss fr)) (aP {st.c with nl:=st.c.nl+1} ks)).1;have l0:Env.ay st.c U aR:=Env.ah eJ (sP st.c U L) l1;refine⟨_,aR,cq (bG ss fr),[k],h4,by rw [gw];exact ar.le_trans eJ hle,l0,λJ hl => ?_⟩;rw [gw]at hl;have vK:aQ st o=dZ all:=by simp only [aQ,ho,hg,cf]
      have eL:∀uu,aq J uu [.var st.c.nl]=L.map (·.1):=λuu=>by
       simp only [aq,Sg.den,List.append_nil];rw [hl.l st.c.nl (Nat.lt_of_lt_of_le (Nat.lt_succ_self _) hle.l),l1.l st.c.nl (Nat.lt_succ_self _)];exact congrArg (List.map λy:OV=>y.1) (if_pos rfl)
      refine UW wf (ar.le_trans eJ hle) hm (by rw [vK];exact JQ hj) ?_ rfl (λβ a w hB bh hr next Q' hn => ?_) h5
      ·have:st.c.nl<(aP {st.c with nl:=st.c.nl+1} ks).nl:=Nat.lt_of_lt_of_le (Nat.lt_succ_self _) hle.l
       simp [bW,Sg.wf,this]
      ·have l3:Env.ay st.c U J:=Env.ah (ar.le_trans eJ hle) l0 hl
       have eG:∀x∈all,x ≠ .any:=by
        intro x hx he;subst he;exact qn (List.any_eq_true.2 ⟨_,hx,rfl⟩)
       have eu:all.map (SV.den J β)=all.map (SV.den U β) :=
        List.map_congr_left λx hx=>SV.aa l3 (λ_ _=>rfl) (List.all_eq_true.1 sQ x hx)
       have eg:=bh g (by rw [ho];simp [Op.operands,Call.operands]) (by rw [hg];simp);rw [hg]at eg;have xZ:a.eval g=.func (.func f) #[] (aB.map λc=>.pointer (some ⟨β c.1,c.2,none⟩)).toArray:=eg
       have ea:(args.map a.eval).toList=(args.toList.map st.ev).map (SV.den J β):=by
        rw [Array.toList_map];exact zt _ λx hx=>bh x (by rw [ho];simp only [Op.operands,Call.operands];exact Array.mem_append.2 (.inr (Array.mem_toList_iff.1 hx))) (eG _ (by rw [cf];exact List.mem_append.2 (.inl (List.mem_map.2 ⟨x,hx,rfl⟩))))
       have ec:(#[]:Array Value)++args.map a.eval++(aB.map λc=>(.pointer (some ⟨β c.1,c.2,none⟩):Value)).toArray=(all.map (SV.den J β)).toArray:=by
        apply Array.ext';rw [Array.toList_append,Array.toList_append,ea,cf];simp [SV.den,CV.den,At.den,Function.comp_def]
       have hx:(execOp a.eval o).run G.P w=(callFunc f (all.map (SV.den J β)).toArray).run G.P w:=by
        simp only [execOp,ho,resolve,xZ,Deferred.ofValue,Sem.run_bind,Sem.run_pure,Result.andThen_ok,invoke];rw [<-ec]
       have dC:fk W st.m st.o (az (cj st.m st.o all)) J β w:=λq hq=>hr q (List.mem_append.2 (.inl (by simp only [aU,ho,hg];rw [<-cf];exact hq)));unfold Oper.wp;rw [hx,hG.calls f hc _ w,Oper.upon_enter];rw [eu];have e0:U.jU st.c.nl L=U.jU st.c.nl L:=rfl;refine (h1 β w hB ?_).mono λe w' he => ?_
       ·exact AW wf.ap l3 (λq cs t hq=>(wf.m q cs t hq).2) (λq ce sz t hq=>(wf.o q ce sz t hq).2) _ dC
       ·obtain⟨rfl,fy,dL,pN⟩:=he;refine hn _ w' ?_ fy dL (by rw [eL];exact pN);rw [SV.bg J β b0 jy,SV.aa hl (β:=b0) (λ_ _=>rfl) ic]
     ·exact h.elim
   ·exact h.elim
  ·exact h.elim
theorem QO{G:bF}(hG:G.Ok){st:St}{o:Oper}{K:St->Env->Prop}{U:Env}(wf:st.WF)(eR:bV.den st.k U)(h:nc (PA G.P W Q QM QP) G st o K U):pL G.P W st o K U:=by
 unfold nc at h;generalize he:qf G st o=u at h;split at h
 ·rename_i f args jo;unfold qf at he;split at he
  ·rename_i g xs bT heq;split at he
   ·rename_i f' aB hg;split at he
    ·split at he
     ·simp only [Option.some.injEq,Prod.mk.injEq]at he;obtain⟨rfl,rfl,rfl⟩:=he;exact UY hG wf eR heq hg rfl h
     ·cases he
    ·cases he
   ·cases he
  ·cases he
 ·clear he;generalize he:mw G st o=u at h;split at h
  ·rename_i f args j;unfold mw at he;split at he
   ·rename_i g xs bT heq;split at he
    ·rename_i f' aB hg;split at he
     ·split at he
      ·simp only [Option.some.injEq,Prod.mk.injEq]at he;obtain⟨rfl,rfl,rfl⟩:=he;exact U2 hG wf eR heq hg rfl h
      ·cases he
     ·cases he
    ·cases he
   ·cases he
  ·exact UX hG wf eR h
end Vc
set_option linter.unusedVariables false
namespace Vc
open Go Go.RowKit
variable {P:Program} {W:dR} {Q:Value->Prop} {QM QP:World->Value->Prop}
theorem QQ(a:Addr)(w:World):(loadCells a 0).run P w=.ok #[] w:=by
 have:=run_loadCells_list (P:=P) w a [] (λj v hj=>by simp at hj)
 simpa using this
theorem QR(w:World){t ty el:TypeId}{i:TypeInfo}(ht:P.underlying t=some (.slice el))(hi:P.info? el=some i)(base:Option Addr)(n c:Nat)(hc:n<=c)(x:Value)(hx:x=.slice none 0 0∨∃a k,x=.slice (some a) 0 k) :
  (Builtin.append_ #[t,t] ty #[.slice base n c,x]).run P w=.ok (.slice base n c) w:=by
 rcases hx with rfl|⟨a,k,rfl⟩
 ·cases base with
  |none=>simp [Builtin.append_,run_underlying ht,typeInfo,hi,Go.sizeOf,Builtin.lenOf,Builtin.firstCells,hc]
  |some b=>simp [Builtin.append_,run_underlying ht,typeInfo,hi,Go.sizeOf,Builtin.lenOf,Builtin.firstCells,hc,storeCells]
 ·cases base with
  |none=>simp [Builtin.append_,run_underlying ht,typeInfo,hi,Go.sizeOf,Builtin.lenOf,Builtin.firstCells,hc,QQ]
  |some b=>simp [Builtin.append_,run_underlying ht,typeInfo,hi,Go.sizeOf,Builtin.lenOf,Builtin.firstCells,hc,QQ,storeCells]
theorem QS{α:Type}(a b c:List α)(k:Nat)(h:(a++b).length=k):(a++b++c).take k=a++b:=by
 rw [<-h,List.take_left]
theorem U3(w:World){lo:Nat->Prop}{b code n base:Nat}{xs:List Value}{sz:Nat}{t ty el:TypeId}{i:TypeInfo}{z:Value}(ht:P.underlying t=some (.slice el))(hi:P.info? el=some i)(hz:i.zero=some z)(fW:i.size=sz)(Ei:z.cells.size=sz)
    (h:fV lo b code n base xs sz el w) (x:Value) (m:Nat) (news:List Value) (hx:(x=.slice none 0 0/\m=0)∨∃a c,x=.slice (some a) m c/\∀j u,news[j]? = some u->w.cell? (a.add j)=some u) (hl:news.length=m*sz)
    (h1:∀u∈news,u.oneCell'=true) (U4:n+m<=maxLen) (lh:(n+m)*i.bytes<=140737488355328) (nh:lo w.heap.size) :
    ∃b' kB mM w',(Builtin.append_ #[t,t] ty #[cG b code n base,x]).run P w=.ok (cG b' kB (n+m) mM) w'/\fV lo b' kB (n+m) mM (xs++news) sz el w' /\
      (w'.os=w.os/\w'.tape=w.tape/\w'.output=w.output/\w.heap.size<=w'.heap.size)/\(∀k,k<w.heap.size->(2<=code->k≠b)->w'.heap[k]? = w.heap[k]?)/\(2<=kB->w.heap.size<=b'∨(2<=code/\b'=b)):=by
  subst fW;obtain⟨r1,r2,r3⟩:=h;have A9:(9223372036854775807:Nat)=maxLen:=by simp [maxLen]
  have gV:n<=code-1/\(code<=1->n=0):=by
    rcases r3 with ⟨_,h0⟩|⟨h2,_,_,h3,_⟩
    · exact⟨by omega,λ_=>h0⟩
    · exact⟨h3,λ_=>by omega⟩
  by_cases hm:m=0
  · subst hm;have hn:news=[]:=List.eq_nil_of_length_eq_zero (by simpa using hl);subst hn
    have zJ:x=.slice none 0 0∨∃a k,x=.slice (some a) 0 k:=by
      rcases hx with ⟨h,_⟩|⟨a,c,h,_⟩
      · exact .inl h
      · exact .inr ⟨a,c,h⟩
    refine⟨b,code,base,w, ?_,⟨by simpa using r1,r2,by simpa using r3⟩,⟨rfl,rfl,rfl,Nat.le_refl _⟩,λ_ _ _=>rfl,λh=>.inr ⟨h,rfl⟩⟩;unfold cG;by_cases h0:code=0
    · have Ek:=gV.2 (by omega);subst Ek;simp only [h0,if_true,Nat.add_zero];exact QR w ht hi none 0 0 (Nat.le_refl _) x zJ
    · simp only [h0,if_false,Nat.add_zero];exact QR w ht hi _ n (code-1) gV.1 x zJ
  · obtain⟨a,c,rfl,bY⟩:∃ a c,x=.slice (some a) m c/\∀ j u,news[j]? = some u->w.cell? (a.add j)=some u:=by
      rcases hx with ⟨_,h⟩|h
      · exact (hm h).elim
      · exact h
    have kW:((n+m:Nat):Int)<=9223372036854775807:=by omega
    have hlen:(xs++news).length=(n+m)*i.size:=by rw [List.length_append,r1,hl,Nat.add_mul]
    have fresh:∀ eI,eI < n + m->fV lo w.heap.size (grownCap w (n + m) eI el + 1) (n + m) 0 (xs++news) i.size el
        (w.drew.alloc (.cells (xs.toArray++news.toArray++Builtin.zeroCells z.cells (grownCap w (n+m) eI el-(n+m))) el)):=by
      intro eI ho;have kU:=grownCap_ge w (n+m) eI el;have U5:=grownCap_le_maxLen w (n+m) eI el U4;refine⟨hlen,r2,.inr ⟨by omega,rfl,nh,by omega,by simpa using U5,_,heap_alloc_new w.drew _, ?_, ?_⟩⟩
      · simp only [Array.size_append,List.size_toArray,size_zeroCells,Ei,r1,hl,<-Nat.add_mul,Nat.add_sub_cancel];congr 1;omega
      · simp only [Array.toList_append];exact QS xs news _ _ hlen
    have grow:∀ (s:Value) (eI:Nat),eI < n + m->(∀ w0:World,w0=w->(Builtin.append_ #[t,t] ty #[s,.slice (some a) m c]).run P w =
        .ok (.slice (some ⟨w.heap.size,0,none⟩) (n+m) (grownCap w (n+m) eI el)) (w.drew.alloc (.cells (xs.toArray++news.toArray++Builtin.zeroCells z.cells (grownCap w (n+m) eI el-(n+m))) el))) ->
        ∃b' kB mM w',(Builtin.append_ #[t,t] ty #[s,.slice (some a) m c]).run P w=.ok (cG b' kB (n+m) mM) w'/\fV lo b' kB (n+m) mM (xs++news) i.size el w' /\
          (w'.os=w.os/\w'.tape=w.tape/\w'.output=w.output/\w.heap.size<=w'.heap.size)/\(∀k,k<w.heap.size->(2<=code->k≠b)->w'.heap[k]? = w.heap[k]?)/\(2<=kB->w.heap.size<=b'∨(2<=code/\b'=b)):=by
      intro s eI ho gS;refine⟨w.heap.size,grownCap w (n+m) eI el+1,0,_, ?_,fresh eI ho,⟨rfl,rfl,rfl,by simp⟩,λk hk _=>Below.heap_alloc w.drew _ k hk,λ_=>.inl (Nat.le_refl _)⟩;rw [gS w rfl];simp [cG]
    by_cases h0:code=0
    · have Ek:=gV.2 (by omega);subst Ek;have pO:xs=[]:=List.eq_nil_of_length_eq_zero (by simpa using r1);subst pO;have hv:cG b code 0 base=.slice none 0 0:=by simp [cG,h0]
      rw [hv];refine grow _ 0 (by omega) λw0 _ => ?_
      have:=run_append_nil (P:=P) w t ty el i z ht hi hz a m c news hl bY (by omega) (by simpa using kW) (by simp at lh;omega)
      simpa using this
    · by_cases U6:code=1
      · have Ek:=gV.2 (by omega);subst Ek;have pO:xs=[]:=List.eq_nil_of_length_eq_zero (by simpa using r1);subst pO;have hv:cG b code 0 base=.slice (some ⟨b,base,none⟩) 0 0:=by simp [cG,U6]
        rw [hv];refine grow _ 0 (by omega) λw0 _ => ?_;exact run_append_grow (P:=P) w t ty el i z ht hi hz ⟨b,base,none⟩ 0 0 [] (by simp) (λj v hj=>by simp at hj) a m c news hl bY (by omega) kW (growslice_fits (by omega) lh)
      · obtain⟨q1,q2,q3,q4,q5,cur,q6,q7,q8⟩:2<=code/\base=0/\lo b/\n<=code - 1/\code - 1<=maxLen/\∃ cur,w.heap[b]? = some (.cells cur el (0,0))/\cur.size=(code - 1) * i.size/\cur.toList.take (n * i.size)=xs:=by
          rcases r3 with ⟨h,_⟩|h
          · omega
          · exact h
        have hv:cG b code n base=.slice (some ⟨b,0,none⟩) n (code-1):=by simp [cG,h0,q2]
        rw [hv];by_cases vL:n+m<=code-1
        · have JR:n * i.size + news.length<=cur.size:=by
            rw [hl,q7,<-Nat.add_mul];exact Nat.mul_le_mul_right _ vL
          have:=run_append_room (P:=P) w t ty el i ht hi b n (code-1) cur q6 a m c news hl bY h1 vL JR
          refine⟨b,code,0,w.setRow b (cur.toList.take (n*i.size)++news++cur.toList.drop (n*i.size+news.length)).toArray, ?_,⟨hlen,r2,.inr ⟨q1,rfl,q3,vL,q5,_,setRow_heap w b _ _ _ _ q6, ?_, ?_⟩⟩,⟨rfl,rfl,rfl,by rw [setRow_size];exact Nat.le_refl _⟩,λk hk cW=>Jr _ _ _ _ (cW q1),λ_=>.inr ⟨q1,rfl⟩⟩
          · rw [this];simp [cG,h0]
          · simp only [List.size_toArray,List.length_append,List.length_take,List.length_drop,Array.length_toList];omega
          · rw [q8];exact QS xs news _ _ hlen
        · refine grow _ (code-1) (by omega) λw0 _ => ?_
          have holds:∀j v,xs[j]? = some v->w.cell? ((⟨b,0,none⟩:Addr).add j)=some v:=by
            intro j v hj;rw [tQ,Nat.zero_add,cell_of_heap q6];rw [<-q8,List.getElem?_take]at hj;split at hj
            · simpa using hj
            · cases hj
          exact run_append_grow (P:=P) w t ty el i z ht hi hz ⟨b,0,none⟩ n (code-1) xs r1 holds a m c news hl bY (by omega) kW (growslice_fits (by omega) lh)
end Vc
