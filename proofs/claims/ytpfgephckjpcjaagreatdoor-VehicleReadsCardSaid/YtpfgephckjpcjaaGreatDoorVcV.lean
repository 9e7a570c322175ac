import Derived.Test.YtpfgephckjpcjaaGreatDoorVcJ
import Derived.Laws.AppendOwn
import Derived.Laws.OwnMore
import Derived.Laws.MakeOwn
set_option linter.unusedVariables false
set_option linter.unusedSimpArgs false
namespace Vc
open Go Go.RowKit
variable {P:Program} {W:e_} {Q:Value->Prop} {QM QP:World->Value->Prop}
def St.cr(st:St)(dst:Option Tmp)(v:SV)(c:aw):St :=
 match dst with
 |none => {st with c:=c}
 |some d => {st with t:=(d,v)::st.t,c:=c}
def jQ(st:St)(dst:Option Tmp)(v:SV)(c:aw):Prop:=∀d,dst=some d->d<st.n/\v.wf c=true
theorem zi{st:St}{dst:Option Tmp}{v:SV}{c:aw}{K:St->Env->Prop}{ρ:Env}(h:St.put (PA P W Q QM QP) st dst v c K ρ):K (st.cr dst v c) ρ/\jQ st dst v c:=by
  unfold St.put at h;cases dst with
  |none=>exact⟨h,λd hd=>by cases hd⟩
  |some d =>
    simp only at h;cases hb:Nat.blt d st.n with
    |false=>rw [hb]at h;exact h.elim
    |true =>
      rw [hb]at h;cases hw:v.wf c with
      |false=>simp only [hw]at h;exact h.elim
      |true =>
        simp only [hw,SA]at h;exact⟨h,λd' he=>by cases he;exact⟨Nat.le_of_ble_eq_true hb,hw⟩⟩
theorem lg(st:St)(dst:Option Tmp)(v:SV)(c:aw):(st.cr dst v c).c=c/\(st.cr dst v c).m=st.m/\(st.cr dst v c).n=st.n/\(st.cr dst v c).o=st.o/\(st.cr dst v c).r=st.r/\(st.cr dst v c).d=st.d:=by
 unfold St.cr;split<;>exact⟨rfl,rfl,rfl,rfl,rfl,rfl⟩
theorem zm(st:St)(dst:Option Tmp)(v:SV)(c:aw):(st.cr dst v c).k=st.k/\(st.cr dst v c).df=st.df:=by
 unfold St.cr;split<;>exact⟨rfl,rfl⟩
theorem zn(st:St)(dst:Option Tmp)(v:SV)(c:aw)(t:Nat):ay (st.cr dst v c).t t=if dst=some t then v else ay st.t t:=by
 unfold St.cr;cases dst with
 |none=>simp
 |some d=>simp only [zl,Option.some.injEq]
theorem DZ{st:St}{dst:Option Tmp}{v:SV}{c:aw}(hw:st.WF)(hle:st.c.le c)(hp:jQ st dst v c):(st.cr dst v c).WF:=by
 obtain⟨q1,q2,q3,q4,q5,q6⟩:=lg st dst v c;have g:=hw.grow hle;refine⟨λi => ?_,by rw [q2,q1];exact g.m,by rw [q4,q1];exact g.o,by rw [q2,q4];exact hw.ap,by rw [q5,q1];exact g.r,by rw [q6,q1];exact g.d,by rw [(zm _ _ _ _).1,q1];exact g.k,by rw [(zm _ _ _ _).2,q1];exact g.df⟩;rw [zn,q1];by_cases hd:dst=some i
 ·rw [if_pos hd];exact (hp i hd).2
 ·rw [if_neg hd];exact g.t i
theorem St.WF.beyond{st:St}(h:st.WF){k:Nat}(hk:st.c.nk<=k):aK st.m st.o k=none:=by
 cases hg:aK st.m st.o k with
 |none=>rfl
 |some e=>have:=CT (h.pq hg);omega
def re(P:Program)(W:e_)(st:St)(o:Oper)(K:St->Env->Prop)(ρ:Env):Prop :=
 ∃s' ah sv C,K s' ah/\st.c.le s'.c/\Env.aE st.c ρ ah/\∀U,Env.aE s'.c ah U->jg P W st o U s' sv C
theorem I2{s1 s':St}{ρ:Env}{β:Nat->Nat}{w w':World}(h:s1.WF)(hm:aK s'.m s'.o=aK s1.m s1.o)(hb:Below w.heap.size w w'):z6 W s1 s' ρ [] β β w w' where
 os:=hb.os
 tape:=hb.tape
 output:=hb.output
 size:=hb.size
 frame b hl _:=hb.block b hl
 off _ _:=rfl
 new k e' hk hg:=by
  rcases hk with hk|hk
  ·cases hk
  ·rw [hm,h.beyond hk]at hg;cases hg
 inj k k' e e' _ hk oI hg fM _ _:=by
  rcases hk with hk|hk
  ·cases hk
  ·rw [hm,h.beyond hk]at hg;cases hg
theorem I3{st:St}{o:Oper}{sv:SV}{c:aw}{ρ:Env}(wf:st.WF)(h1:bL P W st o sv ρ)(h2:st.c.le c)(h4:jQ st o.dst sv c):jg P W st o ρ (st.cr o.dst sv c) sv []:=by
 obtain⟨q1,q2,q3,q4,q5,q6⟩:=lg st o.dst sv c;have hm:aK (st.cr o.dst sv c).m (st.cr o.dst sv c).o=aK st.m st.o:=by rw [q2,q4]
 refine⟨λhk=>by rw [(zm _ _ _ _).1];exact hk,(zm _ _ _ _).2,q3,q5,q6,by rw [q1];exact h2,DZ wf h2 h4,λt=>zn st o.dst sv c t,λd hd=>(h4 d hd).1,λk hk=>(by cases hk),λk _ _=>(by rw [hm]),λk e' hk hg => ?_,λβ a w hB ho hr _ next Q' hn => ?_⟩
 ·rcases hk with hk|hk
  ·cases hk
  ·rw [hm,wf.beyond hk]at hg;cases hg
 ·exact h1 β a w hB ho (λk hk e hg=>hr k (List.mem_append.2 (.inl hk)) e hg) next Q' λv w' hv hb=>hn β v w' hv (I2 wf hm hb)
theorem Tp{st:St}{o:Oper}{sv:SV}{c:aw}{ρ:Env}{kn:cd}(wf:st.WF)(h1:bL P W st o sv ρ)(h2:st.c.le c)(h4:jQ {st with k:=kn} o.dst sv c)(hw:cd.wf kn c)(hk:cd.den st.k ρ->cd.den kn ρ):jg P W st o ρ (({st with k:=kn}:St).cr o.dst sv c) sv []:=by
 obtain⟨q1,q2,q3,q4,q5,q6⟩:=lg {st with k:=kn} o.dst sv c;have hm:aK (({st with k:=kn}:St).cr o.dst sv c).m (({st with k:=kn}:St).cr o.dst sv c).o=aK st.m st.o:=by rw [q2,q4]
 have g:=wf.grow h2;refine⟨λh=>by rw [(zm _ _ _ _).1];exact hk h,(zm _ _ _ _).2,q3,q5,q6,by rw [q1];exact h2,⟨λi => ?_,by rw [q2,q1];exact g.m,by rw [q4,q1];exact g.o,by rw [q2,q4];exact wf.ap,by rw [q5,q1];exact g.r,by rw [q6,q1];exact g.d,by rw [(zm _ _ _ _).1,q1];exact hw,by rw [(zm _ _ _ _).2,q1];exact g.df⟩,λt=>zn _ o.dst sv c t,λd hd=>(h4 d hd).1,λk hk=>(by cases hk),λk _ _=>(by rw [hm]),λk e' hk hg => ?_,λβ a w hB ho hr _ next Q' hn => ?_⟩
 ·rw [zn,q1];by_cases hd:o.dst=some i
  ·rw [if_pos hd];exact (h4 i hd).2
  ·rw [if_neg hd];exact g.t i
 ·rcases hk with hk|hk
  ·cases hk
  ·rw [hm,wf.beyond hk]at hg;cases hg
 ·exact h1 β a w hB ho (λk hk e hg=>hr k (List.mem_append.2 (.inl hk)) e hg) next Q' λv w' hv hb=>hn β v w' hv (I2 wf hm hb)
theorem I4{m:Mem}{o:bq}{nk:Nat}{cs:List At}{t:TypeId}(k:Nat):aK ((nk,cs,t)::m) o k=if nk=k then some (.fix cs t)else aK m o k:=by
 unfold aK;rw [zZ];by_cases h:nk=k
 ·rw [if_pos h,if_pos h]
 ·rw [if_neg h,if_neg h]
theorem I5{st:St}{o:Oper}{cs:List At}{t:TypeId}{v:At}{vd:Nat->Value}{ρ:Env}(wf:st.WF)(h1:cs.all (At.wf st.c)=true)(kX:∀x∈aN cs,x∈dM st o)(h2:∀β:Nat->Nat,v.den ρ β=vd (β st.c.nk))
  (h3:∀(β:Nat->Nat) (a:Act) (w:World),eG st o ρ β a->(execOp a.eval o).run P w=.ok (.value (vd w.heap.size)) (w.alloc (.cells (cs.map (At.den ρ β)).toArray t)))
  (h4:jQ {st with m:=(st.c.nk,cs,t)::st.m} o.dst (.cv (.one v)) {st.c with nk:=st.c.nk+1}) :
  jg P W st o ρ ({st with m:=(st.c.nk,cs,t)::st.m}.cr o.dst (.cv (.one v)) {st.c with nk:=st.c.nk+1}) (.cv (.one v)) []:=by
 obtain⟨q1,q2,q3,q4,q5,q6⟩:=lg {st with m:=(st.c.nk,cs,t)::st.m} o.dst (.cv (.one v)) {st.c with nk:=st.c.nk+1};have hle:=aw.mC st.c 1
 have hm:∀k,aK ({st with m:=(st.c.nk,cs,t)::st.m}.cr o.dst (.cv (.one v)) {st.c with nk:=st.c.nk+1}).m ({st with m:=(st.c.nk,cs,t)::st.m}.cr o.dst (.cv (.one v)) {st.c with nk:=st.c.nk+1}).o k=if st.c.nk=k then some (.fix cs t)else aK st.m st.o k:=λk=>by
  rw [q2,q4];exact I4 k
 have Xk:({st with m:=(st.c.nk,cs,t)::st.m}:St).WF∨True := .inr trivial;refine⟨λhk=>by rw [(zm _ _ _ _).1];exact hk,(zm _ _ _ _).2,q3,q5,q6,by rw [q1];exact hle, ?_,λt'=>zn _ o.dst _ _ t',λd hd=>(h4 d hd).1,λk hk=>(by cases hk),λk hk _=>(by rw [hm,if_neg (by omega)]),λk e' hk hg x hx => ?_,λβ a w hB ho hr _ next Q' hn => ?_⟩
 ·have g:=wf.grow hle;refine⟨λi => ?_,λk gS t' hg => ?_,by rw [q4,q1];exact g.o,λk x hk => ?_,by rw [q5,q1];exact g.r,by rw [q6,q1];exact g.d,by rw [(zm _ _ _ _).1,q1];exact g.k,by rw [(zm _ _ _ _).2,q1];exact g.df⟩
  ·rw [zn,q1];by_cases hd:o.dst=some i
   ·rw [if_pos hd];exact (h4 i hd).2
   ·rw [if_neg hd];exact g.t i
  ·rw [q2,zZ]at hg;rw [q1];by_cases hk:st.c.nk=k
   ·rw [if_pos hk]at hg;cases hg;exact⟨by simp [<-hk],AY hle h1⟩
   ·rw [if_neg hk]at hg;exact g.m k gS t' hg
  ·rw [q4]at hk;rw [q2,zZ]
   have:=(wf.o k x.1 x.2.1 x.2.2 hk).1
   rw [if_neg (by omega)];exact wf.ap k x hk
 ·rcases hk with hk|hk
  ·cases hk
  ·rw [hm]at hg;by_cases dq:st.c.nk=k
   ·rw [if_pos dq]at hg;cases hg;exact .inl (kX x hx)
   ·rw [if_neg dq,wf.beyond hk]at hg;cases hg
 ·unfold Oper.wp;rw [h3 β a w ho,Oper.upon_value];have I6:∀k,k<st.c.nk->(λk=>if k=st.c.nk then w.heap.size else β k) k=β k:=λk hk=>if_neg (Nat.ne_of_lt hk);refine hn (λk=>if k=st.c.nk then w.heap.size else β k) _ _ (λ_ => ?_) ⟨rfl,rfl,rfl,by simp,λb hb _ => ?_,λk hk => ?_,λk e' hk hg => ?_,λk k' e e' _ hk oI hg fM _ _ => ?_⟩
  ·show _=v.den ρ _;rw [h2];simp only [if_true]
  ·exact Below.heap_alloc _ _ _ hb
  ·rw [q1]at hk;exact if_neg (by intro he;subst he;simp at hk)
  ·rcases hk with hk|hk
   ·cases hk
   ·rw [hm]at hg;by_cases dq:st.c.nk=k
    ·rw [if_pos dq]at hg;cases hg;subst dq;refine⟨⟨?_, ?_⟩,λb hb=>.inl ?_⟩
     ·simp only [if_true];exact fA.mk (.inr hB.size)
     ·simp only [if_true];rw [xZ (Env.aq _ ρ) I6 h1];show (w.heap.push _)[w.heap.size]? = _;simp
     ·simp only [bK,if_true,Option.some.injEq]at hb;omega
    ·rw [if_neg dq,wf.beyond hk]at hg;cases hg
  ·have one:∀{k e},(k∈([]:List Nat)∨st.c.nk<=k)->aK ({st with m:=(st.c.nk,cs,t)::st.m}.cr o.dst (.cv (.one v)) {st.c with nk:=st.c.nk+1}).m ({st with m:=(st.c.nk,cs,t)::st.m}.cr o.dst (.cv (.one v)) {st.c with nk:=st.c.nk+1}).o k=some e->k=st.c.nk:=by
    intro k e hk hg;rcases hk with hk|hk
    ·cases hk
    ·rw [hm]at hg;by_cases dq:st.c.nk=k
     ·exact dq.symm
     ·rw [if_neg dq,wf.beyond hk]at hg;cases hg
   rw [one hk hg,one oI fM]
theorem I7{m:Mem}{o:bq}{k0:Nat}{cs gS:List At}{t:TypeId}(h:getM m k0=some (cs,t))(k:Nat):aK (j9 m k0 gS) o k=if k0=k then some (.fix gS t)else aK m o k:=by
 unfold aK;rw [ux];by_cases hk:k0=k
 ·subst hk;rw [if_pos rfl,if_pos rfl,h];rfl
 ·rw [if_neg hk,if_neg hk]
theorem I8{st:St}{o:Oper}{ρ:Env}{k0:Nat}{cs gS:List At}{t:TypeId}(wf:st.WF)(j7:getM st.m k0=some (cs,t))(lO:k0∈aY st o)(h3:gS.all (At.wf st.c)=true)(kX:∀x∈aN gS,x∈dM st o∨x∈aN cs)
  (h4:∀(β:Nat->Nat) (a:Act) (w:World),eG st o ρ β a->w.heap[β k0]? = some (.cells (cs.map (At.den ρ β)).toArray t)->(execOp a.eval o).run P w=.ok .skip (w.setRow (β k0) (gS.map (At.den ρ β)).toArray))
  (h5:jQ {st with m:=j9 st.m k0 gS} o.dst .any st.c):jg P W st o ρ ({st with m:=j9 st.m k0 gS}.cr o.dst .any st.c) .any [k0]:=by
 obtain⟨q1,q2,q3,q4,q5,q6⟩:=lg {st with m:=j9 st.m k0 gS} o.dst .any st.c
 have hm:∀k,aK ({st with m:=j9 st.m k0 gS}.cr o.dst .any st.c).m ({st with m:=j9 st.m k0 gS}.cr o.dst .any st.c).o k=if k0=k then some (.fix gS t)else aK st.m st.o k:=λk=>by
  rw [q2,q4];exact I7 j7 k
 have lU:=(wf.m k0 cs t j7).1;refine⟨λhk=>by rw [(zm _ _ _ _).1];exact hk,(zm _ _ _ _).2,q3,q5,q6,by rw [q1];exact aw.le_refl _, ?_,λt'=>zn _ o.dst _ _ t',λd hd=>(h5 d hd).1,λk hk => ?_,λk _ hk => ?_,λk e' hk hg x hx => ?_,λβ a w hB ho hr _ next Q' hn => ?_⟩
 ·refine⟨λi => ?_,λk I9 t2 hg => ?_,by rw [q4,q1];exact wf.o,λk x hk => ?_,by rw [q5,q1];exact wf.r,by rw [q6,q1];exact wf.d,by rw [(zm _ _ _ _).1,q1];exact wf.k,by rw [(zm _ _ _ _).2,q1];exact wf.df⟩
  ·rw [zn,q1];by_cases hd:o.dst=some i
   ·rw [if_pos hd];rfl
   ·rw [if_neg hd];exact wf.t i
  ·rw [q2,ux]at hg;rw [q1];by_cases hk:k0=k
   ·subst hk;rw [if_pos rfl,j7]at hg;simp only [Option.map_some,Option.some.injEq,Prod.mk.injEq]at hg;obtain⟨rfl,rfl⟩:=hg;exact⟨lU,h3⟩
   ·rw [if_neg hk]at hg;exact wf.m k I9 t2 hg
  ·rw [q4]at hk;rw [q2,ux]
   have:=wf.ap k x hk
   by_cases dq:k0=k
   ·subst dq;rw [if_pos rfl,this];rfl
   ·rw [if_neg dq];exact this
 ·simp only [List.mem_singleton]at hk;subst hk;exact⟨lO,lU⟩
 ·rw [hm,if_neg (λe=>hk (by simp [e]))]
 ·rw [hm]at hg;by_cases dq:k0=k
  ·rw [if_pos dq]at hg;cases hg;rcases kX x hx with h|h
   ·exact .inl h
   ·exact .inr ⟨k0,_,List.mem_append.2 (.inr lO),pk j7,h⟩
  ·rw [if_neg dq]at hg;rcases hk with hk|hk
   ·simp only [List.mem_singleton]at hk;exact (dq hk.symm).elim
   ·rw [wf.beyond hk]at hg;cases hg
 ·obtain⟨m1,m2⟩:=hr k0 (List.mem_append.2 (.inr lO)) _ (pk j7);unfold Oper.wp;rw [h4 β a w ho m2,Oper.upon_skip];refine hn β _ _ (λh=>(h rfl).elim) ⟨rfl,rfl,rfl,by rw [setRow_size];exact Nat.le_refl _,λb hb sD => ?_,λ_ _=>rfl,λk e' hk hg => ?_,λk k' e e' _ hk oI hg fM _ _ => ?_⟩
  ·exact IU _ _ _ _ λhe=>sD k0 _ (by simp) (pk j7) (by simp [bK,he])
  ·rw [hm]at hg;by_cases dq:k0=k
   ·rw [if_pos dq]at hg;cases hg;subst dq;refine⟨⟨m1,setRow_heap w _ _ _ _ _ m2⟩,λb hb=>.inr ⟨k0,_,by simp,pk j7, ?_,.inl rfl⟩⟩;simpa [bK]using hb
   ·rw [if_neg dq]at hg;rcases hk with hk|hk
    ·simp only [List.mem_singleton]at hk;exact (dq hk.symm).elim
    ·rw [wf.beyond hk]at hg;cases hg
  ·have one:∀{k e},(k ∈ [k0]∨st.c.nk<=k)->aK ({st with m:=j9 st.m k0 gS}.cr o.dst .any st.c).m ({st with m:=j9 st.m k0 gS}.cr o.dst .any st.c).o k=some e->k=k0:=by
    intro k e hk hg;rcases hk with hk|hk
    ·simpa using hk
    ·rw [hm,if_neg (by omega),wf.beyond hk]at hg;cases hg
   rw [one hk hg,one oI fM]
theorem D0{k:Nat}:∀{ns:List (Nat × List At × TypeId)} {m:Mem},k ∉ ns.map (·.1)->getM (gN m ns) k=getM m k
  | [],m,h=>rfl
  | (j,cs,t)::r,m,h=>by
    simp only [List.map_cons,List.mem_cons,not_or]at h;simp only [gN];rw [D0 h.2,ux,if_neg (λe=>h.1 e.symm)]
theorem I_{x:Nat × List At × TypeId}{cs:List At}{t:TypeId}:∀{ns:List (Nat × List At × TypeId)} {m:Mem},(ns.map (·.1)).Nodup->x∈ns->getM m x.1=some (cs,t)->getM (gN m ns) x.1=some (x.2.1,t)
  | [],m,_,h,_=>by cases h
  | (j,gS,t')::r,m,hn,h,hg=>by
    simp only [List.map_cons,List.nodup_cons]at hn;simp only [gN];rcases List.mem_cons.1 h with h|h
    · subst h;rw [D0 hn.1,ux,if_pos rfl,hg];rfl
    · refine I_ (cs:=cs) hn.2 h ?_;rw [ux,if_neg λe=>hn.1 (List.mem_map.2 ⟨x,h,e.symm⟩)];exact hg
theorem I'{st:St}{o:Oper}{ρ:Env}{ns:List (Nat × List At × TypeId)}{sv:SV}{c:aw}(wf:st.WF)(h2:st.c.le c)(tF:(ns.map (·.1)).Nodup)(j7:∀ x∈ns,∃ cs,getM st.m x.1=some (cs,x.2.2)/\∀ y∈aN x.2.1,y∈aN cs)
    (lO:∀x∈ns,x.1∈aY st o) (h3:∀x∈ns,x.2.1.all (At.wf c)=true)
    (h4:∀(β:Nat->Nat) (a:Act) (w:World),dT W w->eG st o ρ β a->gF W st.m st.o (ba st o++aY st o) ρ β w->(ns.map λx=>β x.1).Nodup ->
      ∀(next:Act->World->Prop) (Q':Exit->Act->World->Prop),(∀v w',v=sv.den ρ β->vQ (ns.map λx=>β x.1) w w'->(∀x∈ns,w'.heap[β x.1]? = some (.cells (x.2.1.map (At.den ρ β)).toArray x.2.2))->next (a.put o.dst v) w')->o.wp P a w next Q')
    (h5:jQ {st with m:=gN st.m ns} o.dst sv c):jg P W st o ρ ({st with m:=gN st.m ns}.cr o.dst sv c) sv (ns.map (·.1)):=by
  obtain⟨q1,q2,q3,q4,q5,q6⟩:=lg {st with m:=gN st.m ns} o.dst sv c
  have Pk:∀x∈ns,aK ({st with m:=gN st.m ns}.cr o.dst sv c).m ({st with m:=gN st.m ns}.cr o.dst sv c).o x.1=some (.fix x.2.1 x.2.2):=λx hx=>by
    obtain⟨cs,h,_⟩:=j7 x hx;rw [q2,q4];exact pk (I_ tF hx h)
  have Bn:∀k,k ∉ ns.map (·.1)->aK ({st with m:=gN st.m ns}.cr o.dst sv c).m ({st with m:=gN st.m ns}.cr o.dst sv c).o k=aK st.m st.o k:=λk hk=>by
    rw [q2,q4];unfold aK;rw [D0 hk]
  have lU:∀x∈ns,x.1<st.c.nk:=λx hx=>by
    obtain⟨cs,h,_⟩:=j7 x hx;exact (wf.m _ _ _ h).1
  have g:=wf.grow h2;refine⟨λhk=>by rw [(zm _ _ _ _).1];exact hk,(zm _ _ _ _).2,q3,q5,q6,by rw [q1];exact h2, ?_,λt'=>zn _ o.dst _ _ t',λd hd=>(h5 d hd).1,λk hk => ?_,λk _ hk=>Bn k hk,λk e' hk hg x hx => ?_,λβ a w hB ho hr gR next Q' hn => ?_⟩
  · refine⟨λi => ?_,λk I9 t2 hg => ?_,by rw [q4,q1];exact g.o,λk x hk => ?_,by rw [q5,q1];exact g.r,by rw [q6,q1];exact g.d,by rw [(zm _ _ _ _).1,q1];exact g.k,by rw [(zm _ _ _ _).2,q1];exact g.df⟩
    · rw [zn,q1];by_cases hd:o.dst=some i
      · rw [if_pos hd];exact (h5 i hd).2
      · rw [if_neg hd];exact g.t i
    · rw [q2]at hg;rw [q1];by_cases hk:k∈ns.map (·.1)
      · obtain⟨x,hx,rfl⟩:=List.mem_map.1 hk;obtain⟨cs,h,_⟩:=j7 x hx;rw [I_ tF hx h]at hg;simp only [Option.some.injEq,Prod.mk.injEq]at hg;obtain⟨rfl,rfl⟩:=hg;exact⟨Nat.lt_of_lt_of_le (lU x hx) h2.k,h3 x hx⟩
      · rw [D0 hk]at hg;exact g.m k I9 t2 hg
    · rw [q4]at hk;rw [q2]
      have:=wf.ap k x hk
      by_cases dq:k∈ns.map (·.1)
      · obtain⟨y,hy,rfl⟩:=List.mem_map.1 dq;obtain⟨cs,h,_⟩:=j7 y hy;rw [h]at this;cases this
      · rw [D0 dq];exact this
  · obtain⟨x,hx,rfl⟩:=List.mem_map.1 hk;exact⟨lO x hx,lU x hx⟩
  · by_cases dq:k∈ns.map (·.1)
    · obtain⟨y,hy,rfl⟩:=List.mem_map.1 dq;rw [Pk y hy]at hg;cases hg;obtain⟨cs,h,hi⟩:=j7 y hy;exact .inr ⟨y.1,_,List.mem_append.2 (.inr (lO y hy)),pk h,hi x hx⟩
    · rw [Bn k dq]at hg;rcases hk with hk|hk
      · exact (dq hk).elim
      · rw [wf.beyond hk]at hg;cases hg
  · have fh:∀ x∈ns,∃ cs,aK st.m st.o x.1=some (.fix cs x.2.2):=fun x hx=>by
      obtain⟨cs,h,_⟩:=j7 x hx;exact⟨cs,pk h⟩
    have Ja:∀{k e},(k∈ns.map (·.1)∨st.c.nk<=k)->aK ({st with m:=gN st.m ns}.cr o.dst sv c).m ({st with m:=gN st.m ns}.cr o.dst sv c).o k=some e->∃x∈ns,x.1=k/\e=.fix x.2.1 x.2.2:=λ{k e} hk hg=>by
      by_cases dq:k∈ns.map (·.1)
      · obtain⟨y,hy,rfl⟩:=List.mem_map.1 dq;rw [Pk y hy]at hg;cases hg;exact⟨y,hy,rfl,rfl⟩
      · rw [Bn k dq]at hg;rcases hk with hk|hk
        · exact (dq hk).elim
        · rw [wf.beyond hk]at hg;cases hg
    have nd:(ns.map λx=>β x.1).Nodup:=by
      have key:∀l:List (Nat × List At × TypeId),(∀x∈l,x∈ns)->(l.map (·.1)).Nodup->(l.map λx=>β x.1).Nodup:=by
        intro l
        induction l with
        |nil=>intro _ _;exact List.nodup_nil
        |cons x l ih =>
          intro nz hn;simp only [List.map_cons,List.nodup_cons]at hn ⊢;refine⟨λhm => ?_,ih (λy hy=>nz y (List.mem_cons_of_mem _ hy)) hn.2⟩;obtain⟨y,hy,he⟩:=List.mem_map.1 hm;obtain⟨cs,h⟩:=fh x (nz x (List.mem_cons_self ..));obtain⟨gS,h'⟩:=fh y (nz y (List.mem_cons_of_mem _ hy))
          have:=gR x.1 y.1 _ _ (β x.1) (lO x (nz x (List.mem_cons_self ..))) (lO y (nz y (List.mem_cons_of_mem _ hy))) h h' (by simp [bK]) (by simp [bK,he])
          exact hn.1 (List.mem_map.2 ⟨y,hy,this.symm⟩)
      exact key ns (λx hx=>hx) tF
    refine h4 β a w hB ho hr nd next Q' λv w' hv hx hb=>hn β v w' (λ_=>hv) ⟨hx.os,hx.tape,hx.output,hx.size,λb Pl sD => ?_,λ_ _=>rfl,λk e' hk hg => ?_,λk k' e e' b hk oI hg fM lV jh => ?_⟩
    · refine hx.block b Pl λhm => ?_;obtain⟨y,hy,he⟩:=List.mem_map.1 hm;obtain⟨cs,h⟩:=fh y hy;exact sD y.1 _ (List.mem_map.2 ⟨y,hy,rfl⟩) h (by simp [bK,he])
    · obtain⟨y,hy,rfl,rfl⟩:=Ja hk hg;obtain⟨cs,h⟩:=fh y hy;refine⟨⟨(hr y.1 (List.mem_append.2 (.inr (lO y hy))) _ h).1,hb y hy⟩,λb lV=>.inr ⟨y.1,_,List.mem_map.2 ⟨y,hy,rfl⟩,h, ?_,.inl rfl⟩⟩;simpa [bK]using lV
    · obtain⟨y,hy,rfl,rfl⟩:=Ja hk hg;obtain⟨y',gv,rfl,rfl⟩:=Ja oI fM;obtain⟨cs,h⟩:=fh y hy;obtain⟨gS,h'⟩:=fh y' gv;exact gR y.1 y'.1 _ _ b (lO y hy) (lO y' gv) h h' (by simpa [bK]using lV) (by simpa [bK]using jh)
theorem Tq{m:Mem}{o:bq}{k0:Nat}{ce gu:CE}{sz:Nat}{el:TypeId}(hm:getM m k0=none)(h:aM o k0=some (ce,sz,el))(k:Nat):aK m (eC o k0 gu) k=if k0=k then some (.row gu sz el)else aK m o k:=by
 unfold aK;rw [Bl];by_cases hk:k0=k
 ·subst hk;rw [if_pos rfl,if_pos rfl,hm,h];rfl
 ·rw [if_neg hk,if_neg hk]
theorem Tr{st:St}{o:Oper}{ρ:Env}{k0:Nat}{ce gu:CE}{sz:Nat}{el:TypeId}{sv:SV}{c:aw}(wf:st.WF)(hle:st.c.le c)(j7:aM st.o k0=some (ce,sz,el))(lO:k0∈aY st o)(h3:cH c gu=true)(kX:gu.flatMap di=[])
  (h4:∀(β:Nat->Nat) (a:Act) (w:World),dT W w->eG st o ρ β a->gF W st.m st.o (ba st o++aY st o) ρ β w ->
   ∀(next:Act->World->Prop) (Q':Exit->Act->World->Prop),(∀v w',v=sv.den ρ β->(β (k0+1)<=1->Below w.heap.size w w')->(2<=β (k0+1)->bg (β k0) w w')->bY (λ_=>True) (β k0) (β (k0+1)) (β (k0+2)) (β (k0+3)) (av ρ β gu) sz el w'->next (a.put o.dst v) w')->o.wp P a w next Q')
  (h5:jQ {st with o:=eC st.o k0 gu} o.dst sv c):jg P W st o ρ ({st with o:=eC st.o k0 gu}.cr o.dst sv c) sv [k0]:=by
 obtain⟨q1,q2,q3,q4,q5,q6⟩:=lg {st with o:=eC st.o k0 gu} o.dst sv c;have mJ:=wf.ap k0 _ j7
 have hm:∀k,aK ({st with o:=eC st.o k0 gu}.cr o.dst sv c).m ({st with o:=eC st.o k0 gu}.cr o.dst sv c).o k=if k0=k then some (.row gu sz el)else aK st.m st.o k:=λk=>by
  rw [q2,q4];exact Tq mJ j7 k
 have lU:=(wf.o k0 ce sz el j7).1;have g:=wf.grow hle;refine⟨λhk=>by rw [(zm _ _ _ _).1];exact hk,(zm _ _ _ _).2,q3,q5,q6,by rw [q1];exact hle, ?_,λt'=>zn _ o.dst _ _ t',λd hd=>(h5 d hd).1,λk hk => ?_,λk _ hk => ?_,λk e' hk hg x hx => ?_,λβ a w hB ho hr _ next Q' hn => ?_⟩
 ·refine⟨λi => ?_,by rw [q2,q1];exact g.m,λk Jb Jc t2 hg => ?_,λk x hk => ?_,by rw [q5,q1];exact g.r,by rw [q6,q1];exact g.d,by rw [(zm _ _ _ _).1,q1];exact g.k,by rw [(zm _ _ _ _).2,q1];exact g.df⟩
  ·rw [zn,q1];by_cases hd:o.dst=some i
   ·rw [if_pos hd];exact (h5 i hd).2
   ·rw [if_neg hd];exact g.t i
  ·rw [q4,Bl]at hg;rw [q1];by_cases hk:k0=k
   ·subst hk;rw [if_pos rfl,j7]at hg;simp only [Option.map_some,Option.some.injEq,Prod.mk.injEq]at hg;obtain⟨rfl,rfl,rfl⟩:=hg;exact⟨Nat.lt_of_lt_of_le lU hle.k,h3⟩
   ·rw [if_neg hk]at hg;exact g.o k Jb Jc t2 hg
  ·rw [q4,Bl]at hk;rw [q2];by_cases dq:k0=k
   ·subst dq;exact mJ
   ·rw [if_neg dq]at hk;exact wf.ap k x hk
 ·simp only [List.mem_singleton]at hk;subst hk;exact⟨lO,by omega⟩
 ·rw [hm,if_neg (λe=>hk (by simp [e]))]
 ·rw [hm]at hg;by_cases dq:k0=k
  ·rw [if_pos dq]at hg;cases hg;simp only [fD,kX]at hx;cases hx
  ·rw [if_neg dq]at hg;rcases hk with hk|hk
   ·simp only [List.mem_singleton]at hk;exact (dq hk.symm).elim
   ·rw [wf.beyond hk]at hg;cases hg
 ·have hold:=hr k0 (List.mem_append.2 (.inr lO)) _ (lK mJ j7);simp only [Holds]at hold;refine h4 β a w hB ho hr next Q' λv w' hv ji mZ br => ?_
  have base:w'.os=w.os/\w'.tape=w.tape/\w'.output=w.output/\w.heap.size<=w'.heap.size/\∀b,b<w.heap.size->(2<=β (k0+1)->b≠β k0)->w'.heap[b]? = w.heap[b]? := by
   by_cases hc:β (k0+1)<=1
   ·have h:=ji hc;exact⟨h.os,h.tape,h.output,h.size,λb hb _=>h.block b hb⟩
   ·have h:=mZ (by omega);exact⟨h.os,h.tape,h.output,h.size,λb hb hn=>h.block b hb (hn (by omega))⟩
  obtain⟨r3,r4,r5,r6,r7⟩:=base;refine hn β v w' (λ_=>hv) ⟨r3,r4,r5,r6,λb hb sD=>r7 b hb λh2 he=>sD k0 _ (by simp) (lK mJ j7) (by simp only [bK,h2,if_true,he]),λ_ _=>rfl,λk e' hk hg => ?_,λk k' e e' _ hk oI hg fM _ _ => ?_⟩
  ·rw [hm]at hg;by_cases dq:k0=k
   ·rw [if_pos dq]at hg;cases hg;subst dq;refine⟨?_,λb hb=>.inr ⟨k0,_,by simp,lK mJ j7,hb,.inl rfl⟩⟩;simp only [Holds];exact br.imp λh2 _=>bY.own hold h2
   ·rw [if_neg dq]at hg;rcases hk with hk|hk
    ·simp only [List.mem_singleton]at hk;exact (dq hk.symm).elim
    ·rw [wf.beyond hk]at hg;cases hg
  ·have one:∀{k e},(k ∈ [k0]∨st.c.nk<=k)->aK ({st with o:=eC st.o k0 gu}.cr o.dst sv c).m ({st with o:=eC st.o k0 gu}.cr o.dst sv c).o k=some e->k=k0:=by
    intro k e hk hg;rcases hk with hk|hk
    ·simpa using hk
    ·rw [hm,if_neg (by omega),wf.beyond hk]at hg;cases hg
   rw [one hk hg,one oI fM]
end Vc
set_option linter.unusedVariables false
namespace Vc
open Go Go.RowKit
variable {P:Program} {W:e_} {Q:Value->Prop} {QM QP:World->Value->Prop}
theorem zg:∀(x y:List At),aN (x++y)=aN x++aN y
  | [],_=>rfl
  |a::x,y=>by
    have:=zg x y
    cases a<;>simp [aN,this]
theorem Bo{x:Nat}(l:List At)(n:Nat)(h:x∈aN (l.take n)):x∈aN l:=by
 have:=zg (l.take n) (l.drop n)
 rw [List.take_append_drop]at this;rw [this];exact List.mem_append.2 (.inl h)
theorem Bp{x:Nat}(l:List At)(n:Nat)(h:x∈aN (l.drop n)):x∈aN l:=by
 have:=zg (l.take n) (l.drop n)
 rw [List.take_append_drop]at this;rw [this];exact List.mem_append.2 (.inr h)
theorem Pm{v:Value}{a:At}(h:At.ofValue v=some a):aN [a]=[]:=by
  unfold At.ofValue at h
  split at h<;>first
    | (cases h;rfl)
    | (split at h
       · cases h;rfl
       · cases h)
    |cases h
theorem Pn:∀{l:List Value} {r:List At},mD l=some r->aN r=[]
  | [],r,h=>by simp only [mD,Option.some.injEq]at h;subst h;rfl
  |v::l,r,h=>by
    simp only [mD]at h;split at h
    · rename_i a r' h1 h2;simp only [Option.some.injEq]at h;subst h;rw [show a::r'=[a]++r' from rfl,zg,Pm h1,Pn h2];rfl
    · cases h
theorem Jd{t:TypeId}{z:CV}(h:de P t=some z):aN z.cells=[]:=by
  unfold de at h;cases hi:P.info? t with
  |none=>simp [hi]at h
  |some i =>
    simp only [hi]at h;cases hz:i.zero with
    |none=>simp [hz]at h
    |some v =>
      simp only [hz]at h;generalize hs:SV.ofValue v=sv at h;cases sv with
      |cv x =>
        simp only [Option.some.injEq]at h;subst h;unfold SV.ofValue at hs;split at hs
        · split at hs
          · rename_i l hl;cases hs;exact Pn hl
          · cases hs
        · split at hs
          · rename_i a ha;cases hs;exact Pm ha
          · cases hs
      |_=>simp at h
theorem Je(l:List At)(h:aN l=[]):∀n,aN (times l n)=[]
 |0=>rfl
 |n+1=>by simp only [times,zg,h,Je l h n,List.nil_append]
theorem Po{place:Nat->Option (Nat × Nat)}{x:Nat}:∀(parts:List (Nat × SV)) (cells:List At) {cs:List At},dc place cells parts=some cs->x∈aN cs->x∈aN cells∨x∈parts.flatMap λp=>fx p.2
  | [],cells,cs,h,hx=>by simp only [dc,Option.some.injEq]at h;subst h;exact .inl hx
  | (i,.any)::r,_,_,h,_=>by simp [dc]at h
  | (i,.eH)::r,_,_,h,_=>by simp [dc]at h
  | (i,.dt l)::r,_,_,h,_=>by simp [dc]at h
  | (i,.cv v)::r,cells,cs,h,hx=>by
    simp only [dc]at h;split at h
    · rename_i off size _;split at h
      · rcases Po r _ h hx with h1|h1
        · rw [zg,zg]at h1;rcases List.mem_append.1 h1 with h2|h2
          · rcases List.mem_append.1 h2 with h3|h3
            · exact .inl (Bo _ _ h3)
            · exact .inr (List.mem_flatMap.2 ⟨_,List.mem_cons_self,h3⟩)
          · exact .inl (Bp _ _ h2)
        · obtain⟨p,hp,Jf⟩:=List.mem_flatMap.1 h1;exact .inr (List.mem_flatMap.2 ⟨p,List.mem_cons_of_mem _ hp,Jf⟩)
      · cases h
    · cases h
theorem Pp{st:St}{o:Oper}{t el:TypeId}{len:Nat}{parts:Array (Nat × Operand)}(ho:o.op=.buildSlice t len parts)(hu:P.underlying t=some (.slice el)){g:Bool}{s:Nat}{z:CV}(hz:aP P el=some (g,s))(wj:de P el=some z)
  (hc:z.cells.length=s/\0<s/\0<len/\len*s<=4096) {cs:List At} (hf:dc (λi=>some (i*s,s)) (times z.cells len) (parts.toList.map λp=>(p.1,st.ev p.2))=some cs) {U:Env} {β:Nat->Nat} {a:Act} {w:World} (bx:eG st o U β a) :
  (execOp a.eval o).run P w=.ok (.value (.slice (some ⟨w.heap.size,0,none⟩) len len)) (w.alloc (.cells (cs.map (At.den U β)).toArray el)):=by
 obtain⟨c1,c2,c3,c4⟩:=hc;have q1:=(ym wj U β w st.c).1;have q3:=Gv U β _ _ hf;have fJ:=Gz _ _ hf
 have e1:(parts.map λx=>(x.1,a.eval x.2)).toList=(parts.toList.map λp=>(p.1,st.ev p.2)).map λp=>(p.1,p.2.den U β):=by
  rw [List.map_map,Array.toList_map];apply List.map_congr_left;intro p hp
  have:=bx p.2 (by rw [ho];simp only [Op.operands];exact O_ (by simpa using ⟨p.1,Array.mem_toList_iff.1 hp⟩)) (fJ (p.1,st.ev p.2) (List.mem_map.2 ⟨p,hp,rfl⟩))
  simp [this]
 have D1:(z.den U β).cells.size=s:=by rw [CV.bB];simpa using c1
 have q4:=Ph (z.den U β).cells len (by rw [D1];exact c2);rw [D1]at q4;have n1:¬(len*s > 2 ^ 24):=by omega
 have n2:¬(len*s=0):=by
  have:=Nat.mul_pos c3 c2;omega
 simp only [execOp,ho,Instr.buildSlice,Sem.run_bind,run_underlying hu,Result.andThen_ok,qY hz,n1,n2,if_false,q1,Sem.run_pure,e1,D1,q4];rw [show times (z.den U β).cells.toList len=(times z.cells len).map (At.den U β) by rw [IV,CV.bB],q3];simp [newRow]
theorem Ts{G:bW}(hG:G.Ok){st:St}{o:Oper}{K:St->Env->Prop}{ρ:Env}(wf:st.WF)(ga:cd.den st.k ρ)(h:mQ (PA G.P W Q QM QP) G st o K ρ):re G.P W st o K ρ:=by
 have new:∀{cs:List At} {t:TypeId} {v:Nat->At} (vd:Nat->Value),St.new (PA G.P W Q QM QP) st o.dst cs t v K ρ->(∀x∈aN cs,x∈dM st o)->(∀(U:Env) (β:Nat->Nat),(v st.c.nk).den U β=vd (β st.c.nk)) ->
   (∀U,Env.aE st.c ρ U->∀(β:Nat->Nat) (a:Act) (w:World),eG st o U β a->(execOp a.eval o).run G.P w=.ok (.value (vd w.heap.size)) (w.alloc (.cells (cs.map (At.den U β)).toArray t))) ->
   re G.P W st o K ρ:=by
  intro cs t v vd h kX hv hr;unfold St.new at h;by_cases hw:cs.all (At.wf st.c)=true
  ·rw [if_pos hw,Gi]at h;obtain⟨h1,h2⟩:=zi h;have hc:=(lg {st with m:=(st.c.nk,cs,t)::st.m} o.dst (.cv (.one (v st.c.nk))) {st.c with nk:=st.c.nk+1}).1;have hle:=aw.mC st.c 1;refine⟨_,ρ,.cv (.one (v st.c.nk)),[],h1,by rw [hc];exact hle,Env.aq _ _,λU hl => ?_⟩;rw [hc]at hl;have jH:Env.aE st.c ρ U:=⟨hl.i,hl.b,hl.v,hl.p,hl.s,hl.l⟩;exact I5 wf hw kX (hv U) (hr U jH) h2
  ·rw [if_neg hw]at h;exact h.elim
 unfold mQ at h;generalize ho:o.op=op at h;cases op
 case alloc t =>
  simp only at h;generalize hz:de G.P t=u at h;split at h
  ·rename_i z;refine new (λB=>.pointer (some ⟨B,0,none⟩)) h (by rw [Jd hz];intro x hx;cases hx) (λ_ _=>rfl) λU hl β a w bx => ?_;have q1:=(ym hz U β w st.c).1;simp [execOp,ho,Instr.alloc,q1,newVar,newRow,CV.bB]
  ·exact h.elim
 case box t x =>
  simp only at h;generalize hx:st.ev x=sx at h;split at h
  ·rename_i v;refine new (λB=>.pointer (some ⟨B,0,none⟩)) h (λy hy=>by simp only [dM,ho,hx];exact hy) (λ_ _=>rfl) λU hl β a w bx => ?_;have e1:=bx x (by rw [ho];simp [Op.operands]) (by rw [hx];simp);rw [hx]at e1;simp [execOp,ho,e1,Instr.box,newVar,newRow,SV.den,CV.bB]
  ·exact h.elim
 case store t x y =>
  simp only at h;generalize hz:aP G.P t=u1 at h;generalize hx:st.ev x=sx at h;generalize gv:st.ev y=sy at h;split at h
  ·rename_i g n k off v;generalize hm:getM st.m k=u2 at h;split at h
   ·rename_i cs ty;split at h
    ·rename_i hc;obtain⟨gA,eS,pQ⟩:=hc;obtain⟨h1,h2⟩:=zi h;have hc:=(lg {st with m:=j9 st.m k (cs.take off++v.cells++cs.drop (off+n))} o.dst .any st.c).1;refine⟨_,ρ,.any,[k],h1,by rw [hc];exact aw.le_refl _,Env.aq _ _,λU hl => ?_⟩;refine I8 wf hm (by simp [aY,ho,hx,aV,CV.cells,aF]) ?_ (λy hy => ?_) (λβ a w bx m2 => ?_) h2
     ·have:=(wf.m k cs ty hm).2
      simp only [List.all_append,(zr this off).1,(zr this (off+n)).2,CV.eu pQ,Bool.and_self]
     ·rw [zg,zg]at hy;rcases List.mem_append.1 hy with hy|hy
      ·rcases List.mem_append.1 hy with hy|hy
       ·exact .inr (Bo _ _ hy)
       ·simp only [dM,ho,gv];exact .inl hy
      ·exact .inr (Bp _ _ hy)
     ·have e1:=bx x (by rw [ho];simp [Op.operands]) (by rw [hx];simp);have e2:=bx y (by rw [ho];simp [Op.operands]) (by rw [gv];simp);rw [hx]at e1;rw [gv]at e2
      have hs:=Pf (g:=g) hz w (β k) off (v.den U β) _ ty m2 (by rw [CV.bB];simpa using gA) (by simpa using eS) (by
       rw [CV.bB];intro z D3;simp only [List.mem_map]at D3;obtain⟨q,_,rfl⟩:=D3;exact At.iz U β q)
      rw [CV.bB]at hs;simp only [<-OQ]at hs;have Bq:a.eval x=ptr (β k) off:=e1;have Br:a.eval y=v.den U β:=e2;simp only [execOp,ho,Bq,Br,Sem.run_bind,hs,Result.andThen_ok,Sem.run_pure]
    ·exact h.elim
   ·exact h.elim
  ·exact h.elim
 case makeInterface t x =>
  simp only at h;generalize hu:G.P.underlying t=u1 at h;generalize hx:st.ev x=sx at h;split at h
  ·exact h.elim
  ·rename_i d v vZ;split at h
   ·rename_i hv;obtain⟨D4,Bj⟩:=hv;have h:=h ⟨.iface t (v.den ρ b0),rfl⟩ rfl;have hle:st.c.le {st.c with nv:=st.c.nv+1}:=zq st.c .uY;have d_:=Dz st.c ρ ⟨.iface t (v.den ρ b0),rfl⟩;obtain⟨h1,h2⟩:=zi h;have hc:=(lg {st with k := .j8 st.c.nv t v::st.k} o.dst (.cv (.one (.val st.c.nv))) {st.c with nv:=st.c.nv+1}).1;refine⟨_,_,.cv (.one (.val st.c.nv)),[],h1,by rw [hc];exact hle,d_,λU hl => ?_⟩;rw [hc]at hl;have jH:Env.aE st.c ρ U:=Env.aj hle d_ hl
    have e0:(U.v st.c.nv).1=.iface t (v.den U b0):=by
     rw [hl.v st.c.nv (Nat.lt_succ_self _),CV.ae jH (λ_ _=>rfl) Bj];exact congrArg (λy:OV=>y.1) (if_pos rfl)
    refine Tp wf (bL.run λβ a w hB bx hr=>⟨.iface t (v.den U β), ?_,λ_ => ?_⟩) hle h2 (λz hz => ?_) (λhk z hz => ?_)
    ·have e1:=bx x (by rw [ho];simp [Op.operands]) (by rw [hx];simp);rw [hx]at e1;simp only [execOp,ho,e1];refine zj _ w _ ?_
     cases d<;>first
      | (exact (vZ _ rfl).elim)
      | (simp [Instr.makeInterface,run_underlying hu,SV.den])
    ·show _=(U.v st.c.nv).1;rw [e0,CV.bn U β b0 D4]
    ·rcases List.mem_cons.1 hz with rfl|hz
     ·simp only [Kn.wf,Bool.and_eq_true,decide_eq_true_eq];exact⟨Nat.lt_succ_self _,CV.aT hle Bj,D4⟩
     ·exact Kn.aT hle (wf.k z hz)
    ·rcases List.mem_cons.1 hz with rfl|hz
     ·exact e0
     ·exact hk z hz
   ·exact h.elim
  ·exact h.elim
 case buildSlice t len parts =>
  simp only at h;generalize hu:G.P.underlying t=u1 at h;split at h
  ·rename_i el;generalize hz:aP G.P el=u2 at h;generalize wj:de G.P el=u3 at h;split at h
   ·rename_i g s z;split at h
    ·rename_i hc;obtain⟨c1,c2,c3,c4⟩:=hc;generalize hf:dc (λi=>some (i*s,s)) (times z.cells len) (parts.toList.map λp=>(p.1,st.ev p.2))=u4 at h;split at h
     ·rename_i cs;refine new (λB=>.slice (some ⟨B,0,none⟩) len len) h (λy hy => ?_) (λ_ _=>rfl) λU hl β a w bx => ?_
      ·rcases Po _ _ hf hy with h1|h1
       ·rw [Je _ (Jd wj)]at h1;cases h1
       ·simp only [dM,ho];simpa [List.flatMap_map]using h1
      exact Pp ho hu hz wj ⟨c1,c2,c3,c4⟩ hf bx
     ·exact h.elim
    ·exact h.elim
   ·exact h.elim
  ·exact h.elim
 all_goals
  obtain⟨sv,c',ah,h1,h2,h3,h4⟩:=IS hG wf ga h;by_cases hk:c'.nk=st.c.nk
  ·rw [if_pos hk]at h1;obtain⟨q1,q2⟩:=zi h1;have hc:=(lg st o.dst sv c').1;refine⟨_,ah,sv,[],q1,by rw [hc];exact h2,h3,λU hl => ?_⟩;rw [hc]at hl;exact I3 wf (h4 U hl) h2 q2
  ·rw [if_neg hk]at h1;exact h1.elim
theorem Pq{p:At->Bool}:∀{cs:List At} {kE:List Nat} {l:List At},cs.all p=true->l.all p=true->(iQ cs kE l).all p=true
  |cs,[],l,h,_=>by simpa [iQ]using h
  |cs,i::r,[],h,_=>by simpa [iQ]using h
  |cs,i::r,a::l,h,hl=>by
    simp only [List.all_cons,Bool.and_eq_true]at hl;refine Pq (cs:=cs.take i++a::cs.drop (i+1)) (List.all_eq_true.2 λx hx => ?_) hl.2;rcases List.mem_append.1 hx with hx|hx
    · exact List.all_eq_true.1 h x (List.mem_of_mem_take hx)
    · rcases List.mem_cons.1 hx with rfl|hx
      · exact hl.1
      · exact List.all_eq_true.1 h x (List.mem_of_mem_drop hx)
theorem Ps{x:Nat}:∀{cs:List At} {kE:List Nat} {l:List At},aN l=[]->x∈aN (iQ cs kE l)->x∈aN cs
  |cs,[],l,_,h=>by simpa [iQ]using h
  |cs,i::r,[],_,h=>by simpa [iQ]using h
  |cs,i::r,a::l,hl,h=>by
    have e:=zg [a] l;rw [List.singleton_append,hl]at e;have e':=(List.append_eq_nil_iff.1 e.symm);have h2:=Ps (cs:=cs.take i++a::cs.drop (i+1)) e'.2 h;have e2:=zg [a] (cs.drop (i+1));rw [List.singleton_append,e'.1,List.nil_append]at e2;rw [zg,e2]at h2;rcases List.mem_append.1 h2 with h3|h3
    · exact Bo _ _ h3
    · exact Bp _ _ h3
theorem Pt:∀(ks:List CK) (c:aw),ks.all CK.plain=true->aN (ax c ks)=[]
  | [],c,_=>rfl
  |k::l,c,h=>by
    simp only [List.all_cons,Bool.and_eq_true]at h;have ih:=Pt l (bd c k) h.2;cases k<;>first | (simp only [ax,bz,aN];exact ih) | (simp [CK.plain]at h)
theorem Pu{l:List At}(h:aN l=[])(n:Nat):aN (l.drop n)=[]:=by
 have:=zg (l.take n) (l.drop n)
 rw [List.take_append_drop,h]at this;exact (List.append_eq_nil_iff.1 this.symm).2
theorem Pv{cs:List At}:∀{kE:List Nat} {ks:List CK},kB cs kE=some ks->ks.all CK.plain=true
  | [],ks,h=>by simp only [kB,Option.some.injEq]at h;subst h;rfl
  |i::r,ks,h=>by
    simp only [kB]at h;split at h
    · rename_i k l hk hl;simp only [Option.some.injEq]at h;subst h;simp only [List.all_cons,Bool.and_eq_true];refine⟨?_,Pv hl⟩;cases hc:cs[i]? with
      |none=>rw [hc]at hk;cases hk
      |some a =>
        rw [hc]at hk;simp only [Option.bind_some]at hk;cases a<;>simp only [vE,Option.some.injEq,reduceCtorEq]at hk<;>(subst hk;rfl)
    · cases h
theorem Pw{k:Nat}:∀{l:List SV} {j:Nat},l[j]? = some (.cv (.one (.loc k 0)))->k∈fw l
  | [],j,h=>by simp at h
  |x::l,0,h=>by
    simp only [List.getElem?_cons_zero,Option.some.injEq]at h;subst h;simp [fw]
  |x::l,j+1,h=>by
    have:=Pw (l:=l) (j:=j) (by simpa using h)
    unfold fw;split
    · cases ‹_::_=[]›
    · rename_i heq;simp only [List.cons.injEq]at heq;obtain⟨_,rfl⟩:=heq;exact List.mem_cons_of_mem _ this
    · rename_i heq;simp only [List.cons.injEq]at heq;obtain⟨_,rfl⟩:=heq;exact List.mem_cons_of_mem _ this
    · rename_i heq;simp only [List.cons.injEq]at heq;obtain⟨_,rfl⟩:=heq;exact this
theorem Jg{l:List At}(h:aN l=[])(n:Nat):aN (l.take n)=[]:=by
 have:=zg (l.take n) (l.drop n)
 rw [List.take_append_drop,h]at this;exact (List.append_eq_nil_iff.1 this.symm).1
theorem Px{m:Mem}{args:List SV}:∀{jo:List (Nat × List Nat)} {bl:List vF},jC m args jo=some bl->∀e∈bl,(∃j:Nat,args[j]? = some (SV.cv (.one (.loc e.k 0))))/\getM m e.k=some (e.cs,e.t)/\kB e.cs e.kE=some e.ks
  | [],bl,h,e,he=>by simp only [jC,Option.some.injEq]at h;subst h;cases he
  | (j,kE)::r,bl,h,e,he=>by
    simp only [jC]at h;split at h
    · rename_i k l h1 h2;split at h
      · rename_i cs t h3;split at h
        · rename_i ks h4;simp only [Option.some.injEq]at h;subst h;rcases List.mem_cons.1 he with rfl|he
          · exact⟨⟨j,h1⟩,h3,h4⟩
          · exact Px h2 e he
        · cases h
      · cases h
    · cases h
theorem Py{x:Nat × List At × TypeId}:∀{bl:List vF} {fr:List At},x∈kW bl fr->∃e∈bl,∃n m,x=(e.k,iQ e.cs e.kE ((fr.drop n).take m),e.t)
  | [],fr,h=>by cases h
  |e::r,fr,h=>by
    rcases List.mem_cons.1 h with rfl|h
    · exact⟨e,List.mem_cons_self ..,0,e.ks.length,rfl⟩
    · obtain⟨e',h1,n,m,h2⟩:=Py h;exact⟨e',List.mem_cons_of_mem _ h1,e.ks.length+n,m,by rw [h2,List.drop_drop]⟩
theorem Pz:∀(bl:List vF) (fr:List At),(kW bl fr).map (·.1)=bl.map (·.k)
 | [],fr=>rfl
 |e::r,fr=>by simp only [kW,List.map_cons,Pz r]
theorem Tt{G:bW}(hG:G.Ok){st:St}{o:Oper}{K:St->Env->Prop}{ρ:Env}(wf:st.WF)(ga:cd.den st.k ρ){g:Operand}{args:Array Operand}{cG:Array TypeId}(ho:o.op=.call ⟨.value g,args,cG⟩){f:FuncId}{aI:List (Nat × Nat)}(hg:st.ev g=.cv (.one (.fn f aI)))
  {jo:List (Nat × List Nat)} {all:List SV} (cX:all=args.toList.map st.ev++aI.map λx=>SV.cv (.one (.loc x.1 x.2))) (h:vG (PA G.P W Q QM QP) G st o.dst f all jo K ρ):re G.P W st o K ρ:=by
 unfold vG at h;generalize hf:G.P.funcs[f]? = u1 at h;split at h
 ·exact h.elim
 ·rename_i fn;generalize hs:iO G.P fn.resultTypes.toList=u2 at h;generalize hj:jC st.m all jo=u3 at h;split at h
  ·rename_i ss bl;simp only at h;split at h
   ·exact h.elim
   ·rename_i ha;simp only [not_or,Decidable.not_not]at ha;obtain⟨tC,sw⟩:=ha;split at h
    ·rename_i tF;split at h
     ·rename_i hc;generalize yw:cw ss++bl.flatMap (·.ks)=ks at h;have GI:=Px hj
      have mg:ks.all CK.plain=true:=by
       rw [<-yw,List.all_append,Gx _ hs,Bool.true_and];refine List.all_eq_true.2 λk hk => ?_;obtain⟨e,he,Bs⟩:=List.mem_flatMap.1 hk;exact List.all_eq_true.1 (Pv (GI e he).2.2) k Bs
      have CU:=Ba ks st.c;have Tu:=Pt ks st.c mg;have lN:=DB ks st.c mg;have hle:=xF ks st.c;obtain⟨a8,l1,⟨h1,h3⟩⟩:=u7 ks st.c h;generalize ax st.c ks=fr at *;have kN:fB (cZ (bX ss fr))=true:=DH (CN _ _ lN);have jG:(cZ (bX ss fr)).wf (aX st.c ks)=true:=CP (CO _ _ _ CU);obtain⟨h4,h5⟩:=zi h3;have Tv:=Pz bl (fr.drop (cw ss).length);have Jh:∀x∈kW bl (fr.drop (cw ss).length),∃e∈bl,∃n m,x=(e.k,iQ e.cs e.kE (((fr.drop (cw ss).length).drop n).take m),e.t):=λx hx=>Py hx;generalize kW bl (fr.drop (cw ss).length)=ns at *;have jj:=(lg {st with m:=gN st.m ns} o.dst (cZ (bX ss fr)) (aX st.c ks)).1
      have PD:∀x∈ns,x.2.1.all (At.wf (aX st.c ks))=true:=λx hx=>by
       obtain⟨e,he,n,m,rfl⟩:=Jh x hx;exact Pq (AY hle (wf.m _ _ _ (GI e he).2.1).2) (zr (zr (zr CU _).2 n).2 m).1
      refine⟨_,a8,cZ (bX ss fr),ns.map (·.1),h4,by rw [jj];exact hle,l1,λU hl => ?_⟩;rw [jj]at hl
      have h_:∀x∈ns,∃e∈bl,e.k=x.1:=λx hx=>by
       obtain⟨e,he,n,m,rfl⟩:=Jh x hx;exact⟨e,he,rfl⟩
      have wo:aY st o=fw all:=by simp only [aY,ho,hg,cX]
      refine I' wf hle (by rw [Tv];exact tF) (λx hx => ?_) (λx hx => ?_) PD (λβ a w hB bx hr gR next Q' hn => ?_) h5
      ·obtain⟨e,he,n,m,rfl⟩:=Jh x hx;exact⟨e.cs,(GI e he).2.1,λy hy=>Ps (Jg (Pu (Pu Tu _) n) m) hy⟩
      ·obtain⟨e,he,hk⟩:=h_ x hx;rw [wo,<-hk];obtain⟨j,Tw⟩:=(GI e he).1;exact Pw Tw
      ·have l3:Env.aE st.c ρ U:=Env.aj hle l1 hl
       have fJ:∀x∈all,x ≠ .any:=by
        intro x hx he;subst he;exact tC (List.any_eq_true.2 ⟨_,hx,rfl⟩)
       have gq:all.map (SV.den U β)=all.map (SV.den ρ β) :=
        List.map_congr_left λx hx=>SV.ae l3 (λ_ _=>rfl) (List.all_eq_true.1 sw x hx)
       have eg:=bx g (by rw [ho];simp [Op.operands,Call.operands]) (by rw [hg];simp);rw [hg]at eg;have Bt:a.eval g=.func (.func f) #[] (aI.map λc=>.pointer (some ⟨β c.1,c.2,none⟩)).toArray:=eg
       have ea:(args.map a.eval).toList=(args.toList.map st.ev).map (SV.den U β):=by
        rw [Array.toList_map];exact zy _ λx hx=>bx x (by rw [ho];simp only [Op.operands,Call.operands];exact Array.mem_append.2 (.inr (Array.mem_toList_iff.1 hx))) (fJ _ (by rw [cX];exact List.mem_append.2 (.inl (List.mem_map.2 ⟨x,hx,rfl⟩))))
       have ec:(#[]:Array Value)++args.map a.eval++(aI.map λc=>(.pointer (some ⟨β c.1,c.2,none⟩):Value)).toArray=(all.map (SV.den U β)).toArray:=by
        apply Array.ext';rw [Array.toList_append,Array.toList_append,ea,cX];simp [SV.den,CV.den,At.den,Function.comp_def]
       have hx:(execOp a.eval o).run G.P w=(callFunc f (all.map (SV.den U β)).toArray).run G.P w:=by
        simp only [execOp,ho,resolve,Bt,Deferred.ofValue,Sem.run_bind,Sem.run_pure,Result.andThen_ok,invoke];rw [<-ec]
       have eK:gF W st.m st.o (aF (cR st.m st.o all)) U β w:=λq hq=>hr q (List.mem_append.2 (.inl (by simp only [ba,ho,hg];rw [<-cX];exact hq)));unfold Oper.wp;rw [hx,hG.calls f hc _ w,Oper.upon_enter];rw [gq];refine ((h1 β w hB (Bf wf.ap l3 (λq cs t hq=>(wf.m q cs t hq).2) (λq ce sz t hq=>(wf.o q ce sz t hq).2) _ eK)).out (by simpa [List.map_map,Function.comp_def]using gR)).mono λe w' he => ?_;obtain⟨rfl,ji,mZ⟩:=he.out;refine hn _ w' ?_ (by simpa [List.map_map,Function.comp_def]using ji) λx hx => ?_
       ·rw [SV.bn U β b0 kN,SV.ae hl (β:=b0) (λ_ _=>rfl) jG]
       ·rw [mZ _ (List.mem_map.2 ⟨x,hx,rfl⟩),xZ hl (λ_ _=>rfl) (PD x hx)]
     ·exact h.elim
    ·exact h.elim
  ·exact h.elim
theorem Ji{k:Nat}:∀{l:List SV} {j:Nat},l[j]? = some (.cv (.one (.own k)))->k∈fw l
  | [],j,h=>by simp at h
  |x::l,0,h=>by
    simp only [List.getElem?_cons_zero,Option.some.injEq]at h;subst h;simp [fw]
  |x::l,j+1,h=>by
    have:=Ji (l:=l) (j:=j) (by simpa using h)
    unfold fw;split
    · cases ‹_::_=[]›
    · rename_i heq;simp only [List.cons.injEq]at heq;obtain⟨_,rfl⟩:=heq;exact List.mem_cons_of_mem _ this
    · rename_i heq;simp only [List.cons.injEq]at heq;obtain⟨_,rfl⟩:=heq;exact List.mem_cons_of_mem _ this
    · rename_i heq;simp only [List.cons.injEq]at heq;obtain⟨_,rfl⟩:=heq;exact this
theorem Tx{G:bW}(hG:G.Ok){st:St}{o:Oper}{K:St->Env->Prop}{ρ:Env}(wf:st.WF)(ga:cd.den st.k ρ){g:Operand}{args:Array Operand}{cG:Array TypeId}(ho:o.op=.call ⟨.value g,args,cG⟩){f:FuncId}{aI:List (Nat × Nat)}(hg:st.ev g=.cv (.one (.fn f aI)))
  {j:Nat} {all:List SV} (cX:all=args.toList.map st.ev++aI.map λx=>SV.cv (.one (.loc x.1 x.2))) (h:sd (PA G.P W Q QM QP) G st o.dst f all j K ρ):re G.P W st o K ρ:=by
 unfold sd at h;generalize hf:G.P.funcs[f]? = u1 at h;split at h
 ·exact h.elim
 ·rename_i fn;generalize hs:iO G.P fn.resultTypes.toList=u2 at h;generalize hj:all[j]? = u3 at h;split at h
  ·rename_i ss k;generalize hm:aM st.o k=u4 at h;split at h
   ·rename_i ce sz t;simp only at h;split at h
    ·exact h.elim
    ·rename_i ha;simp only [not_or,Decidable.not_not]at ha;obtain⟨tC,sw⟩:=ha;split at h
     ·rename_i hc;have fQ:st.c.le {st.c with nl:=st.c.nl+1}:=⟨Nat.le_refl _,Nat.le_refl _,Nat.le_refl _,Nat.le_refl _,Nat.le_refl _,Nat.le_refl _,Nat.le_succ _⟩;generalize yw:cw ss=ks at h;have mg:ks.all CK.plain=true:=by rw [<-yw];exact Gx _ hs
      have CU:=Ba ks {st.c with nl:=st.c.nl+1};have lN:=DB ks {st.c with nl:=st.c.nl+1} mg;have hle:=xF ks {st.c with nl:=st.c.nl+1};obtain⟨L,h⟩:=h;obtain⟨a8,l1,⟨h1,h3⟩⟩:=u7 ks {st.c with nl:=st.c.nl+1} h;generalize ax {st.c with nl:=st.c.nl+1} ks=fr at *;have kN:fB (cZ (bX ss fr))=true:=DH (CN _ _ lN);have jG:(cZ (bX ss fr)).wf (aX {st.c with nl:=st.c.nl+1} ks)=true:=CP (CO _ _ _ CU);obtain⟨h4,h5⟩:=zi h3;have jj:=(lg {st with o:=eC st.o k [.var st.c.nl]} o.dst (cZ (bX ss fr)) (aX {st.c with nl:=st.c.nl+1} ks)).1;have l0:Env.aE st.c ρ a8:=Env.aj fQ (tB st.c ρ L) l1;refine⟨_,a8,cZ (bX ss fr),[k],h4,by rw [jj];exact aw.le_trans fQ hle,l0,λU hl => ?_⟩;rw [jj]at hl;have wo:aY st o=fw all:=by simp only [aY,ho,hg,cX]
      have eL:∀uU,av U uU [.var st.c.nl]=L.map (·.1):=λuU=>by
       simp only [av,Sg.den,List.append_nil];rw [hl.l st.c.nl (Nat.lt_of_lt_of_le (Nat.lt_succ_self _) hle.l),l1.l st.c.nl (Nat.lt_succ_self _)];exact congrArg (List.map λy:OV=>y.1) (if_pos rfl)
      refine Tr wf (aw.le_trans fQ hle) hm (by rw [wo];exact Ji hj) ?_ rfl (λβ a w hB bx hr next Q' hn => ?_) h5
      ·have:st.c.nl<(aX {st.c with nl:=st.c.nl+1} ks).nl:=Nat.lt_of_lt_of_le (Nat.lt_succ_self _) hle.l
       simp [cH,Sg.wf,this]
      ·have l3:Env.aE st.c ρ U:=Env.aj (aw.le_trans fQ hle) l0 hl
       have fJ:∀x∈all,x ≠ .any:=by
        intro x hx he;subst he;exact tC (List.any_eq_true.2 ⟨_,hx,rfl⟩)
       have gq:all.map (SV.den U β)=all.map (SV.den ρ β) :=
        List.map_congr_left λx hx=>SV.ae l3 (λ_ _=>rfl) (List.all_eq_true.1 sw x hx)
       have eg:=bx g (by rw [ho];simp [Op.operands,Call.operands]) (by rw [hg];simp);rw [hg]at eg;have Bt:a.eval g=.func (.func f) #[] (aI.map λc=>.pointer (some ⟨β c.1,c.2,none⟩)).toArray:=eg
       have ea:(args.map a.eval).toList=(args.toList.map st.ev).map (SV.den U β):=by
        rw [Array.toList_map];exact zy _ λx hx=>bx x (by rw [ho];simp only [Op.operands,Call.operands];exact Array.mem_append.2 (.inr (Array.mem_toList_iff.1 hx))) (fJ _ (by rw [cX];exact List.mem_append.2 (.inl (List.mem_map.2 ⟨x,hx,rfl⟩))))
       have ec:(#[]:Array Value)++args.map a.eval++(aI.map λc=>(.pointer (some ⟨β c.1,c.2,none⟩):Value)).toArray=(all.map (SV.den U β)).toArray:=by
        apply Array.ext';rw [Array.toList_append,Array.toList_append,ea,cX];simp [SV.den,CV.den,At.den,Function.comp_def]
       have hx:(execOp a.eval o).run G.P w=(callFunc f (all.map (SV.den U β)).toArray).run G.P w:=by
        simp only [execOp,ho,resolve,Bt,Deferred.ofValue,Sem.run_bind,Sem.run_pure,Result.andThen_ok,invoke];rw [<-ec]
       have eK:gF W st.m st.o (aF (cR st.m st.o all)) U β w:=λq hq=>hr q (List.mem_append.2 (.inl (by simp only [ba,ho,hg];rw [<-cX];exact hq)));unfold Oper.wp;rw [hx,hG.calls f hc _ w,Oper.upon_enter];rw [gq];have e0:ρ.lh st.c.nl L=ρ.lh st.c.nl L:=rfl;refine (h1 β w hB ?_).mono λe w' he => ?_
       ·exact Bf wf.ap l3 (λq cs t hq=>(wf.m q cs t hq).2) (λq ce sz t hq=>(wf.o q ce sz t hq).2) _ eK
       ·obtain⟨rfl,ji,mZ,sE⟩:=he;refine hn _ w' ?_ ji mZ (by rw [eL];exact sE);rw [SV.bn U β b0 kN,SV.ae hl (β:=b0) (λ_ _=>rfl) jG]
     ·exact h.elim
   ·exact h.elim
  ·exact h.elim
theorem PE{G:bW}(hG:G.Ok){st:St}{o:Oper}{K:St->Env->Prop}{ρ:Env}(wf:st.WF)(ga:cd.den st.k ρ)(h:oG (PA G.P W Q QM QP) G st o K ρ):re G.P W st o K ρ:=by
 unfold oG at h;generalize he:qR G st o=u at h;split at h
 ·rename_i f args jo;unfold qR at he;split at he
  ·rename_i g xs cG heq;split at he
   ·rename_i f' aI hg;split at he
    ·split at he
     ·simp only [Option.some.injEq,Prod.mk.injEq]at he;obtain⟨rfl,rfl,rfl⟩:=he;exact Tt hG wf ga heq hg rfl h
     ·cases he
    ·cases he
   ·cases he
  ·cases he
 ·clear he;generalize he:nR G st o=u at h;split at h
  ·rename_i f args j;unfold nR at he;split at he
   ·rename_i g xs cG heq;split at he
    ·rename_i f' aI hg;split at he
     ·split at he
      ·simp only [Option.some.injEq,Prod.mk.injEq]at he;obtain⟨rfl,rfl,rfl⟩:=he;exact Tx hG wf ga heq hg rfl h
      ·cases he
     ·cases he
    ·cases he
   ·cases he
  ·exact Ts hG wf ga h
end Vc
set_option linter.unusedVariables false
namespace Vc
open Go Go.RowKit
variable {P:Program} {W:e_} {Q:Value->Prop} {QM QP:World->Value->Prop}
theorem PF(a:Addr)(w:World):(loadCells a 0).run P w=.ok #[] w:=by
 have:=run_loadCells_list (P:=P) w a [] (λj v hj=>by simp at hj)
 simpa using this
theorem PG(w:World){t ty el:TypeId}{i:TypeInfo}(ht:P.underlying t=some (.slice el))(hi:P.info? el=some i)(base:Option Addr)(n c:Nat)(hc:n<=c)(x:Value)(hx:x=.slice none 0 0∨∃a k,x=.slice (some a) 0 k) :
  (Builtin.append_ #[t,t] ty #[.slice base n c,x]).run P w=.ok (.slice base n c) w:=by
 rcases hx with rfl|⟨a,k,rfl⟩
 ·cases base with
  |none=>simp [Builtin.append_,run_underlying ht,typeInfo,hi,Go.sizeOf,Builtin.lenOf,Builtin.firstCells,hc]
  |some b=>simp [Builtin.append_,run_underlying ht,typeInfo,hi,Go.sizeOf,Builtin.lenOf,Builtin.firstCells,hc,storeCells]
 ·cases base with
  |none=>simp [Builtin.append_,run_underlying ht,typeInfo,hi,Go.sizeOf,Builtin.lenOf,Builtin.firstCells,hc,PF]
  |some b=>simp [Builtin.append_,run_underlying ht,typeInfo,hi,Go.sizeOf,Builtin.lenOf,Builtin.firstCells,hc,PF,storeCells]
theorem PH{α:Type}(a b c:List α)(k:Nat)(h:(a++b).length=k):(a++b++c).take k=a++b:=by
 rw [<-h,List.take_left]
theorem Ty(w:World){lo:Nat->Prop}{b code n base:Nat}{xs:List Value}{sz:Nat}{t ty el:TypeId}{i:TypeInfo}{z:Value}(ht:P.underlying t=some (.slice el))(hi:P.info? el=some i)(hz:i.zero=some z)(lJ:i.size=sz)(D1:z.cells.size=sz)
    (h:hZ lo b code n base xs sz el w) (x:Value) (m:Nat) (news:List Value) (hx:(x=.slice none 0 0/\m=0)∨∃a c,x=.slice (some a) m c/\∀j u,news[j]? = some u->w.cell? (a.add j)=some u) (hl:news.length=m*sz)
    (h1:∀u∈news,u.oneCell'=true) (Tz:n+m<=maxLen) (mI:(n+m)*i.bytes<=140737488355328) (tD:lo w.heap.size) :
    ∃b' lP oa w',(Builtin.append_ #[t,t] ty #[dC b code n base,x]).run P w=.ok (dC b' lP (n+m) oa) w'/\hZ lo b' lP (n+m) oa (xs++news) sz el w' /\
      (w'.os=w.os/\w'.tape=w.tape/\w'.output=w.output/\w.heap.size<=w'.heap.size)/\(∀k,k<w.heap.size->(2<=code->k≠b)->w'.heap[k]? = w.heap[k]?)/\(2<=lP->w.heap.size<=b'∨(2<=code/\b'=b)):=by
  subst lJ;obtain⟨r1,r2,r3⟩:=h;have TA:(9223372036854775807:Nat)=maxLen:=by simp [maxLen]
  have uy:n<=code-1/\(code<=1->n=0):=by
    rcases r3 with ⟨_,h0⟩|⟨h2,_,_,h3,_⟩
    · exact⟨by omega,λ_=>h0⟩
    · exact⟨h3,λ_=>by omega⟩
  by_cases hm:m=0
  · subst hm;have hn:news=[]:=List.eq_nil_of_length_eq_zero (by simpa using hl);subst hn
    have z7:x=.slice none 0 0∨∃a k,x=.slice (some a) 0 k:=by
      rcases hx with ⟨h,_⟩|⟨a,c,h,_⟩
      · exact .inl h
      · exact .inr ⟨a,c,h⟩
    refine⟨b,code,base,w, ?_,⟨by simpa using r1,r2,by simpa using r3⟩,⟨rfl,rfl,rfl,Nat.le_refl _⟩,λ_ _ _=>rfl,λh=>.inr ⟨h,rfl⟩⟩;unfold dC;by_cases h0:code=0
    · have D5:=uy.2 (by omega);subst D5;simp only [h0,if_true,Nat.add_zero];exact PG w ht hi none 0 0 (Nat.le_refl _) x z7
    · simp only [h0,if_false,Nat.add_zero];exact PG w ht hi _ n (code-1) uy.1 x z7
  · obtain⟨a,c,rfl,kP⟩:∃ a c,x=.slice (some a) m c/\∀ j u,news[j]? = some u->w.cell? (a.add j)=some u:=by
      rcases hx with ⟨_,h⟩|h
      · exact (hm h).elim
      · exact h
    have mi:((n+m:Nat):Int)<=9223372036854775807:=by omega
    have hlen:(xs++news).length=(n+m)*i.size:=by rw [List.length_append,r1,hl,Nat.add_mul]
    have fresh:∀ fh,fh < n + m->hZ lo w.heap.size (grownCap w (n + m) fh el + 1) (n + m) 0 (xs++news) i.size el
        (w.drew.alloc (.cells (xs.toArray++news.toArray++Builtin.zeroCells z.cells (grownCap w (n+m) fh el-(n+m))) el)):=by
      intro fh ho;have oV:=grownCap_ge w (n+m) fh el;have TB:=grownCap_le_maxLen w (n+m) fh el Tz;refine⟨hlen,r2,.inr ⟨by omega,rfl,tD,by omega,by simpa using TB,_,heap_alloc_new w.drew _, ?_, ?_⟩⟩
      · simp only [Array.size_append,List.size_toArray,size_zeroCells,D1,r1,hl,<-Nat.add_mul,Nat.add_sub_cancel];congr 1;omega
      · simp only [Array.toList_append];exact PH xs news _ _ hlen
    have grow:∀ (s:Value) (fh:Nat),fh < n + m->(∀ w0:World,w0=w->(Builtin.append_ #[t,t] ty #[s,.slice (some a) m c]).run P w =
        .ok (.slice (some ⟨w.heap.size,0,none⟩) (n+m) (grownCap w (n+m) fh el)) (w.drew.alloc (.cells (xs.toArray++news.toArray++Builtin.zeroCells z.cells (grownCap w (n+m) fh el-(n+m))) el))) ->
        ∃b' lP oa w',(Builtin.append_ #[t,t] ty #[s,.slice (some a) m c]).run P w=.ok (dC b' lP (n+m) oa) w'/\hZ lo b' lP (n+m) oa (xs++news) i.size el w' /\
          (w'.os=w.os/\w'.tape=w.tape/\w'.output=w.output/\w.heap.size<=w'.heap.size)/\(∀k,k<w.heap.size->(2<=code->k≠b)->w'.heap[k]? = w.heap[k]?)/\(2<=lP->w.heap.size<=b'∨(2<=code/\b'=b)):=by
      intro s fh ho je;refine⟨w.heap.size,grownCap w (n+m) fh el+1,0,_, ?_,fresh fh ho,⟨rfl,rfl,rfl,by simp⟩,λk hk _=>Below.heap_alloc w.drew _ k hk,λ_=>.inl (Nat.le_refl _)⟩;rw [je w rfl];simp [dC]
    by_cases h0:code=0
    · have D5:=uy.2 (by omega);subst D5;have qE:xs=[]:=List.eq_nil_of_length_eq_zero (by simpa using r1);subst qE;have hv:dC b code 0 base=.slice none 0 0:=by simp [dC,h0]
      rw [hv];refine grow _ 0 (by omega) λw0 _ => ?_
      have:=run_append_nil (P:=P) w t ty el i z ht hi hz a m c news hl kP (by omega) (by simpa using mi) (by simp at mI;omega)
      simpa using this
    · by_cases TC:code=1
      · have D5:=uy.2 (by omega);subst D5;have qE:xs=[]:=List.eq_nil_of_length_eq_zero (by simpa using r1);subst qE;have hv:dC b code 0 base=.slice (some ⟨b,base,none⟩) 0 0:=by simp [dC,TC]
        rw [hv];refine grow _ 0 (by omega) λw0 _ => ?_;exact run_append_grow (P:=P) w t ty el i z ht hi hz ⟨b,base,none⟩ 0 0 [] (by simp) (λj v hj=>by simp at hj) a m c news hl kP (by omega) mi (growslice_fits (by omega) mI)
      · obtain⟨q1,q2,q3,q4,q5,cur,q6,q7,q8⟩:2<=code/\base=0/\lo b/\n<=code - 1/\code - 1<=maxLen/\∃ cur,w.heap[b]? = some (.cells cur el (0,0))/\cur.size=(code - 1) * i.size/\cur.toList.take (n * i.size)=xs:=by
          rcases r3 with ⟨h,_⟩|h
          · omega
          · exact h
        have hv:dC b code n base=.slice (some ⟨b,0,none⟩) n (code-1):=by simp [dC,h0,q2]
        rw [hv];by_cases wq:n+m<=code-1
        · have Jj:n * i.size + news.length<=cur.size:=by
            rw [hl,q7,<-Nat.add_mul];exact Nat.mul_le_mul_right _ wq
          have:=run_append_room (P:=P) w t ty el i ht hi b n (code-1) cur q6 a m c news hl kP h1 wq Jj
          refine⟨b,code,0,w.setRow b (cur.toList.take (n*i.size)++news++cur.toList.drop (n*i.size+news.length)).toArray, ?_,⟨hlen,r2,.inr ⟨q1,rfl,q3,wq,q5,_,setRow_heap w b _ _ _ _ q6, ?_, ?_⟩⟩,⟨rfl,rfl,rfl,by rw [setRow_size];exact Nat.le_refl _⟩,λk hk iS=>IU _ _ _ _ (iS q1),λ_=>.inr ⟨q1,rfl⟩⟩
          · rw [this];simp [dC,h0]
          · simp only [List.size_toArray,List.length_append,List.length_take,List.length_drop,Array.length_toList];omega
          · rw [q8];exact PH xs news _ _ hlen
        · refine grow _ (code-1) (by omega) λw0 _ => ?_
          have holds:∀j v,xs[j]? = some v->w.cell? ((⟨b,0,none⟩:Addr).add j)=some v:=by
            intro j v hj;rw [vU,Nat.zero_add,yn q6];rw [<-q8,List.getElem?_take]at hj;split at hj
            · simpa using hj
            · cases hj
          exact run_append_grow (P:=P) w t ty el i z ht hi hz ⟨b,0,none⟩ n (code-1) xs r1 holds a m c news hl kP (by omega) mi (growslice_fits (by omega) mI)
end Vc
