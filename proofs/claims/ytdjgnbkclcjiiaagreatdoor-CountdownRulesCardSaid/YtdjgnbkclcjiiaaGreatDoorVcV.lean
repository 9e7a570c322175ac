import Derived.Test.YtdjgnbkclcjiiaaGreatDoorVcJ
import Derived.Laws.AppendOwn
import Derived.Laws.OwnMore
import Derived.Laws.MakeOwn
set_option linter.unusedVariables false
set_option linter.unusedSimpArgs false
namespace Vc
open Go Go.RowKit
variable {P:Program} {W:Wld} {Q:Value→Prop} {QM QP:World→Value→Prop}
def St.putS(st:St)(dst:Option Tmp)(v:SV)(c:Ctr):St :=
 match dst with
 | none => {st with c:=c}
 | some d => {st with t:=(d,v)::st.t,c:=c}
def PutOk(st:St)(dst:Option Tmp)(v:SV)(c:Ctr):Prop:=∀ d,dst=some d→d < st.n∧v.wf c=true
theorem zj{st:St}{dst:Option Tmp}{v:SV}{c:Ctr}{K:St→Env→Prop}{ρ:Env}(h:St.put (PA P W Q QM QP) st dst v c K ρ):K (st.putS dst v c) ρ∧PutOk st dst v c:=by
  unfold St.put at h;cases dst with
  | none=>exact⟨h,fun d hd=>by cases hd⟩
  | some d =>
    simp only at h;cases hb:Nat.blt d st.n with
    | false=>rw [hb]at h;exact h.elim
    | true =>
      rw [hb]at h;cases hw:v.wf c with
      | false=>simp only [hw]at h;exact h.elim
      | true =>
        simp only [hw,zxu]at h;exact⟨h,fun d' he=>by cases he;exact⟨Nat.le_of_ble_eq_true hb,hw⟩⟩
theorem zfa(st:St)(dst:Option Tmp)(v:SV)(c:Ctr):(st.putS dst v c).c=c∧(st.putS dst v c).m=st.m∧(st.putS dst v c).n=st.n∧(st.putS dst v c).o=st.o∧(st.putS dst v c).r=st.r∧(st.putS dst v c).d=st.d:=by
 unfold St.putS;split <;> exact⟨rfl,rfl,rfl,rfl,rfl,rfl⟩
theorem zr(st:St)(dst:Option Tmp)(v:SV)(c:Ctr):(st.putS dst v c).k=st.k∧(st.putS dst v c).df=st.df:=by
 unfold St.putS;split <;> exact⟨rfl,rfl⟩
theorem zt(st:St)(dst:Option Tmp)(v:SV)(c:Ctr)(t:Nat):getS (st.putS dst v c).t t=if dst=some t then v else getS st.t t:=by
 unfold St.putS;cases dst with
 | none=>simp
 | some d=>simp only [zq,Option.some.injEq]
theorem ztl{st:St}{dst:Option Tmp}{v:SV}{c:Ctr}(hw:st.WF)(hle:st.c.le c)(hp:PutOk st dst v c):(st.putS dst v c).WF:=by
 obtain⟨q1,q2,q3,q4,q5,q6⟩:=zfa st dst v c;have g:=hw.grow hle;refine⟨fun i => ?_,by rw [q2,q1];exact g.m,by rw [q4,q1];exact g.o,by rw [q2,q4];exact hw.ap,by rw [q5,q1];exact g.r,by rw [q6,q1];exact g.d,by rw [(zr _ _ _ _).1,q1];exact g.k,by rw [(zr _ _ _ _).2,q1];exact g.df⟩;rw [zt,q1];by_cases hd:dst=some i
 ·rw [if_pos hd];exact (hp i hd).2
 ·rw [if_neg hd];exact g.t i
theorem St.WF.beyond{st:St}(h:st.WF){k:Nat}(hk:st.c.nk≤k):getE st.m st.o k=none:=by
 cases hg:getE st.m st.o k with
 | none=>rfl
 | some e=>have:=zog (h.ent hg);omega
def Rsv(P:Program)(W:Wld)(st:St)(o:Oper)(K:St→Env→Prop)(ρ:Env):Prop :=
 ∃ s' ρ' sv C,K s' ρ'∧st.c.le s'.c∧Env.like st.c ρ ρ'∧∀ ρ'',Env.like s'.c ρ' ρ''→OFact P W st o ρ'' s' sv C
theorem zul{s1 s':St}{ρ:Env}{β:Nat→Nat}{w w':World}(h:s1.WF)(hm:getE s'.m s'.o=getE s1.m s1.o)(hb:Below w.heap.size w w'):Chg W s1 s' ρ [] β β w w' where
 os:=hb.os
 tape:=hb.tape
 output:=hb.output
 size:=hb.size
 frame b hl _:=hb.block b hl
 off _ _:=rfl
 new k e' hk hg:=by
  rcases hk with hk | hk
  ·cases hk
  ·rw [hm,h.beyond hk]at hg;cases hg
 inj k k' e e' _ hk hk' hg hg' _ _:=by
  rcases hk with hk | hk
  ·cases hk
  ·rw [hm,h.beyond hk]at hg;cases hg
theorem zoy{st:St}{o:Oper}{sv:SV}{c:Ctr}{ρ:Env}(wf:st.WF)(h1:ValOk P W st o sv ρ)(h2:st.c.le c)(h4:PutOk st o.dst sv c):OFact P W st o ρ (st.putS o.dst sv c) sv []:=by
 obtain⟨q1,q2,q3,q4,q5,q6⟩:=zfa st o.dst sv c;have hm:getE (st.putS o.dst sv c).m (st.putS o.dst sv c).o=getE st.m st.o:=by rw [q2,q4]
 refine⟨fun hk=>by rw [(zr _ _ _ _).1];exact hk,(zr _ _ _ _).2,q3,q5,q6,by rw [q1];exact h2,ztl wf h2 h4,fun t=>zt st o.dst sv c t,fun d hd=>(h4 d hd).1,fun k hk=>(by cases hk),fun k _ _=>(by rw [hm]),fun k e' hk hg => ?_,fun β a w hB ho hr _ next Q' hn => ?_⟩
 ·rcases hk with hk | hk
  ·cases hk
  ·rw [hm,wf.beyond hk]at hg;cases hg
 ·exact h1 β a w hB ho (fun k hk e hg=>hr k (List.mem_append.2 (.inl hk)) e hg) next Q' fun v w' hv hb=>hn β v w' hv (zul wf hm hb)
theorem zgw{st:St}{o:Oper}{sv:SV}{c:Ctr}{ρ:Env}{kn:KnL}(wf:st.WF)(h1:ValOk P W st o sv ρ)(h2:st.c.le c)(h4:PutOk {st with k:=kn} o.dst sv c)(hw:KnL.wf kn c)(hk:KnL.den st.k ρ→KnL.den kn ρ):OFact P W st o ρ (({st with k:=kn}:St).putS o.dst sv c) sv []:=by
 obtain⟨q1,q2,q3,q4,q5,q6⟩:=zfa {st with k:=kn} o.dst sv c;have hm:getE (({st with k:=kn}:St).putS o.dst sv c).m (({st with k:=kn}:St).putS o.dst sv c).o=getE st.m st.o:=by rw [q2,q4]
 have g:=wf.grow h2;refine⟨fun h=>by rw [(zr _ _ _ _).1];exact hk h,(zr _ _ _ _).2,q3,q5,q6,by rw [q1];exact h2,⟨fun i => ?_,by rw [q2,q1];exact g.m,by rw [q4,q1];exact g.o,by rw [q2,q4];exact wf.ap,by rw [q5,q1];exact g.r,by rw [q6,q1];exact g.d,by rw [(zr _ _ _ _).1,q1];exact hw,by rw [(zr _ _ _ _).2,q1];exact g.df⟩,fun t=>zt _ o.dst sv c t,fun d hd=>(h4 d hd).1,fun k hk=>(by cases hk),fun k _ _=>(by rw [hm]),fun k e' hk hg => ?_,fun β a w hB ho hr _ next Q' hn => ?_⟩
 ·rw [zt,q1];by_cases hd:o.dst=some i
  ·rw [if_pos hd];exact (h4 i hd).2
  ·rw [if_neg hd];exact g.t i
 ·rcases hk with hk | hk
  ·cases hk
  ·rw [hm,wf.beyond hk]at hg;cases hg
 ·exact h1 β a w hB ho (fun k hk e hg=>hr k (List.mem_append.2 (.inl hk)) e hg) next Q' fun v w' hv hb=>hn β v w' hv (zul wf hm hb)
theorem zpy{m:Mem}{o:OMem}{nk:Nat}{cs:List At}{t:TypeId}(k:Nat):getE ((nk,cs,t)::m) o k=if nk=k then some (.fix cs t)else getE m o k:=by
 unfold getE;rw [zuc];by_cases h:nk=k
 ·rw [if_pos h,if_pos h]
 ·rw [if_neg h,if_neg h]
theorem zqy{st:St}{o:Oper}{cs:List At}{t:TypeId}{v:At}{vd:Nat→Value}{ρ:Env}(wf:st.WF)(h1:cs.all (At.wf st.c)=true)(hids:∀ x∈idsOf cs,x∈valIds st o)(h2:∀ β:Nat→Nat,v.den ρ β=vd (β st.c.nk))
  (h3:∀ (β:Nat→Nat) (a:Act) (w:World),OpsOk st o ρ β a→(execOp a.eval o).run P w=.ok (.value (vd w.heap.size)) (w.alloc (.cells (cs.map (At.den ρ β)).toArray t)))
  (h4:PutOk {st with m:=(st.c.nk,cs,t)::st.m} o.dst (.cv (.one v)) {st.c with nk:=st.c.nk + 1}) :
  OFact P W st o ρ ({st with m:=(st.c.nk,cs,t)::st.m}.putS o.dst (.cv (.one v)) {st.c with nk:=st.c.nk + 1}) (.cv (.one v)) []:=by
 obtain⟨q1,q2,q3,q4,q5,q6⟩:=zfa {st with m:=(st.c.nk,cs,t)::st.m} o.dst (.cv (.one v)) {st.c with nk:=st.c.nk + 1};have hle:=Ctr.le_nk st.c 1
 have hm:∀ k,getE ({st with m:=(st.c.nk,cs,t)::st.m}.putS o.dst (.cv (.one v)) {st.c with nk:=st.c.nk + 1}).m ({st with m:=(st.c.nk,cs,t)::st.m}.putS o.dst (.cv (.one v)) {st.c with nk:=st.c.nk + 1}).o k=if st.c.nk=k then some (.fix cs t)else getE st.m st.o k:=fun k=>by
  rw [q2,q4];exact zpy k
 have wf1:({st with m:=(st.c.nk,cs,t)::st.m}:St).WF∨True := .inr trivial;refine⟨fun hk=>by rw [(zr _ _ _ _).1];exact hk,(zr _ _ _ _).2,q3,q5,q6,by rw [q1];exact hle, ?_,fun t'=>zt _ o.dst _ _ t',fun d hd=>(h4 d hd).1,fun k hk=>(by cases hk),fun k hk _=>(by rw [hm,if_neg (by omega)]),fun k e' hk hg x hx => ?_,fun β a w hB ho hr _ next Q' hn => ?_⟩
 ·have g:=wf.grow hle;refine⟨fun i => ?_,fun k cs' t' hg => ?_,by rw [q4,q1];exact g.o,fun k x hk => ?_,by rw [q5,q1];exact g.r,by rw [q6,q1];exact g.d,by rw [(zr _ _ _ _).1,q1];exact g.k,by rw [(zr _ _ _ _).2,q1];exact g.df⟩
  ·rw [zt,q1];by_cases hd:o.dst=some i
   ·rw [if_pos hd];exact (h4 i hd).2
   ·rw [if_neg hd];exact g.t i
  ·rw [q2,zuc]at hg;rw [q1];by_cases hk:st.c.nk=k
   ·rw [if_pos hk]at hg;cases hg;exact⟨by simp [← hk],zed hle h1⟩
   ·rw [if_neg hk]at hg;exact g.m k cs' t' hg
  ·rw [q4]at hk;rw [q2,zuc]
   have:=(wf.o k x.1 x.2.1 x.2.2 hk).1
   rw [if_neg (by omega)];exact wf.ap k x hk
 ·rcases hk with hk | hk
  ·cases hk
  ·rw [hm]at hg;by_cases hkk:st.c.nk=k
   ·rw [if_pos hkk]at hg;cases hg;exact .inl (hids x hx)
   ·rw [if_neg hkk,wf.beyond hk]at hg;cases hg
 ·unfold Oper.wp;rw [h3 β a w ho,Oper.upon_value];have hβn:∀ k,k < st.c.nk→(fun k=>if k=st.c.nk then w.heap.size else β k) k=β k:=fun k hk=>if_neg (Nat.ne_of_lt hk);refine hn (fun k=>if k=st.c.nk then w.heap.size else β k) _ _ (fun _ => ?_) ⟨rfl,rfl,rfl,by simp,fun b hb _ => ?_,fun k hk => ?_,fun k e' hk hg => ?_,fun k k' e e' _ hk hk' hg hg' _ _ => ?_⟩
  ·show _=v.den ρ _;rw [h2];simp only [if_true]
  ·exact Below.heap_alloc _ _ _ hb
  ·rw [q1]at hk;exact if_neg (by intro he;subst he;simp at hk)
  ·rcases hk with hk | hk
   ·cases hk
   ·rw [hm]at hg;by_cases hkk:st.c.nk=k
    ·rw [if_pos hkk]at hg;cases hg;subst hkk;refine⟨⟨?_, ?_⟩,fun b hb=>.inl ?_⟩
     ·simp only [if_true];exact OwnB.mk (.inr hB.size)
     ·simp only [if_true];rw [zha (Env.like_refl _ ρ) hβn h1];show (w.heap.push _)[w.heap.size]? = _;simp
     ·simp only [blkE,if_true,Option.some.injEq]at hb;omega
    ·rw [if_neg hkk,wf.beyond hk]at hg;cases hg
  ·have one:∀ {k e},(k∈([]:List Nat)∨st.c.nk≤k)→getE ({st with m:=(st.c.nk,cs,t)::st.m}.putS o.dst (.cv (.one v)) {st.c with nk:=st.c.nk + 1}).m ({st with m:=(st.c.nk,cs,t)::st.m}.putS o.dst (.cv (.one v)) {st.c with nk:=st.c.nk + 1}).o k=some e→k=st.c.nk:=by
    intro k e hk hg;rcases hk with hk | hk
    ·cases hk
    ·rw [hm]at hg;by_cases hkk:st.c.nk=k
     ·exact hkk.symm
     ·rw [if_neg hkk,wf.beyond hk]at hg;cases hg
   rw [one hk hg,one hk' hg']
theorem zry{m:Mem}{o:OMem}{k0:Nat}{cs cs':List At}{t:TypeId}(h:getM m k0=some (cs,t))(k:Nat):getE (setM m k0 cs') o k=if k0=k then some (.fix cs' t)else getE m o k:=by
 unfold getE;rw [zsa];by_cases hk:k0=k
 ·subst hk;rw [if_pos rfl,if_pos rfl,h];rfl
 ·rw [if_neg hk,if_neg hk]
theorem zsy{st:St}{o:Oper}{ρ:Env}{k0:Nat}{cs cs':List At}{t:TypeId}(wf:st.WF)(hg0:getM st.m k0=some (cs,t))(hwr:k0∈writesOf st o)(h3:cs'.all (At.wf st.c)=true)(hids:∀ x∈idsOf cs',x∈valIds st o∨x∈idsOf cs)
  (h4:∀ (β:Nat→Nat) (a:Act) (w:World),OpsOk st o ρ β a→w.heap[β k0]? = some (.cells (cs.map (At.den ρ β)).toArray t)→(execOp a.eval o).run P w=.ok .skip (w.setRow (β k0) (cs'.map (At.den ρ β)).toArray))
  (h5:PutOk {st with m:=setM st.m k0 cs'} o.dst .any st.c):OFact P W st o ρ ({st with m:=setM st.m k0 cs'}.putS o.dst .any st.c) .any [k0]:=by
 obtain⟨q1,q2,q3,q4,q5,q6⟩:=zfa {st with m:=setM st.m k0 cs'} o.dst .any st.c
 have hm:∀ k,getE ({st with m:=setM st.m k0 cs'}.putS o.dst .any st.c).m ({st with m:=setM st.m k0 cs'}.putS o.dst .any st.c).o k=if k0=k then some (.fix cs' t)else getE st.m st.o k:=fun k=>by
  rw [q2,q4];exact zry hg0 k
 have hk0:=(wf.m k0 cs t hg0).1;refine⟨fun hk=>by rw [(zr _ _ _ _).1];exact hk,(zr _ _ _ _).2,q3,q5,q6,by rw [q1];exact Ctr.le_refl _, ?_,fun t'=>zt _ o.dst _ _ t',fun d hd=>(h5 d hd).1,fun k hk => ?_,fun k _ hk => ?_,fun k e' hk hg x hx => ?_,fun β a w hB ho hr _ next Q' hn => ?_⟩
 ·refine⟨fun i => ?_,fun k cs2 t2 hg => ?_,by rw [q4,q1];exact wf.o,fun k x hk => ?_,by rw [q5,q1];exact wf.r,by rw [q6,q1];exact wf.d,by rw [(zr _ _ _ _).1,q1];exact wf.k,by rw [(zr _ _ _ _).2,q1];exact wf.df⟩
  ·rw [zt,q1];by_cases hd:o.dst=some i
   ·rw [if_pos hd];rfl
   ·rw [if_neg hd];exact wf.t i
  ·rw [q2,zsa]at hg;rw [q1];by_cases hk:k0=k
   ·subst hk;rw [if_pos rfl,hg0]at hg;simp only [Option.map_some,Option.some.injEq,Prod.mk.injEq]at hg;obtain⟨rfl,rfl⟩:=hg;exact⟨hk0,h3⟩
   ·rw [if_neg hk]at hg;exact wf.m k cs2 t2 hg
  ·rw [q4]at hk;rw [q2,zsa]
   have:=wf.ap k x hk
   by_cases hkk:k0=k
   ·subst hkk;rw [if_pos rfl,this];rfl
   ·rw [if_neg hkk];exact this
 ·simp only [List.mem_singleton]at hk;subst hk;exact⟨hwr,hk0⟩
 ·rw [hm,if_neg (fun e=>hk (by simp [e]))]
 ·rw [hm]at hg;by_cases hkk:k0=k
  ·rw [if_pos hkk]at hg;cases hg;rcases hids x hx with h | h
   ·exact .inl h
   ·exact .inr ⟨k0,_,List.mem_append.2 (.inr hwr),zwb hg0,h⟩
  ·rw [if_neg hkk]at hg;rcases hk with hk | hk
   ·simp only [List.mem_singleton]at hk;exact (hkk hk.symm).elim
   ·rw [wf.beyond hk]at hg;cases hg
 ·obtain⟨m1,m2⟩:=hr k0 (List.mem_append.2 (.inr hwr)) _ (zwb hg0);unfold Oper.wp;rw [h4 β a w ho m2,Oper.upon_skip];refine hn β _ _ (fun h=>(h rfl).elim) ⟨rfl,rfl,rfl,by rw [setRow_size];exact Nat.le_refl _,fun b hb hnb => ?_,fun _ _=>rfl,fun k e' hk hg => ?_,fun k k' e e' _ hk hk' hg hg' _ _ => ?_⟩
  ·exact zee _ _ _ _ fun he=>hnb k0 _ (by simp) (zwb hg0) (by simp [blkE,he])
  ·rw [hm]at hg;by_cases hkk:k0=k
   ·rw [if_pos hkk]at hg;cases hg;subst hkk;refine⟨⟨m1,setRow_heap w _ _ _ _ _ m2⟩,fun b hb=>.inr ⟨k0,_,by simp,zwb hg0, ?_,.inl rfl⟩⟩;simpa [blkE]using hb
   ·rw [if_neg hkk]at hg;rcases hk with hk | hk
    ·simp only [List.mem_singleton]at hk;exact (hkk hk.symm).elim
    ·rw [wf.beyond hk]at hg;cases hg
  ·have one:∀ {k e},(k ∈ [k0]∨st.c.nk≤k)→getE ({st with m:=setM st.m k0 cs'}.putS o.dst .any st.c).m ({st with m:=setM st.m k0 cs'}.putS o.dst .any st.c).o k=some e→k=k0:=by
    intro k e hk hg;rcases hk with hk | hk
    ·simpa using hk
    ·rw [hm,if_neg (by omega),wf.beyond hk]at hg;cases hg
   rw [one hk hg,one hk' hg']
theorem zvf{k:Nat}:∀ {ns:List (Nat × List At × TypeId)} {m:Mem},k ∉ ns.map (·.1)→getM (setMs m ns) k=getM m k
  | [],m,h=>rfl
  | (j,cs,t)::r,m,h=>by
    simp only [List.map_cons,List.mem_cons,not_or]at h;simp only [setMs];rw [zvf h.2,zsa,if_neg (fun e=>h.1 e.symm)]
theorem zno{x:Nat × List At × TypeId}{cs:List At}{t:TypeId}:∀ {ns:List (Nat × List At × TypeId)} {m:Mem},(ns.map (·.1)).Nodup→x∈ns→getM m x.1=some (cs,t)→getM (setMs m ns) x.1=some (x.2.1,t)
  | [],m,_,h,_=>by cases h
  | (j,cs',t')::r,m,hn,h,hg=>by
    simp only [List.map_cons,List.nodup_cons]at hn;simp only [setMs];rcases List.mem_cons.1 h with h | h
    · subst h;rw [zvf hn.1,zsa,if_pos rfl,hg];rfl
    · refine zno (cs:=cs) hn.2 h ?_;rw [zsa,if_neg fun e=>hn.1 (List.mem_map.2 ⟨x,h,e.symm⟩)];exact hg
theorem zty{st:St}{o:Oper}{ρ:Env}{ns:List (Nat × List At × TypeId)}{sv:SV}{c:Ctr}(wf:st.WF)(h2:st.c.le c)(hnd:(ns.map (·.1)).Nodup)(hg0:∀ x∈ns,∃ cs,getM st.m x.1=some (cs,x.2.2)∧∀ y∈idsOf x.2.1,y∈idsOf cs)
    (hwr:∀ x∈ns,x.1∈writesOf st o) (h3:∀ x∈ns,x.2.1.all (At.wf c)=true)
    (h4:∀ (β:Nat→Nat) (a:Act) (w:World),Bel W w→OpsOk st o ρ β a→RdOk W st.m st.o (readsOf st o++writesOf st o) ρ β w→(ns.map fun x=>β x.1).Nodup →
      ∀ (next:Act→World→Prop) (Q':Exit→Act→World→Prop),(∀ v w',v=sv.den ρ β→BelL (ns.map fun x=>β x.1) w w'→(∀ x∈ns,w'.heap[β x.1]? = some (.cells (x.2.1.map (At.den ρ β)).toArray x.2.2))→next (a.put o.dst v) w')→o.wp P a w next Q')
    (h5:PutOk {st with m:=setMs st.m ns} o.dst sv c):OFact P W st o ρ ({st with m:=setMs st.m ns}.putS o.dst sv c) sv (ns.map (·.1)):=by
  obtain⟨q1,q2,q3,q4,q5,q6⟩:=zfa {st with m:=setMs st.m ns} o.dst sv c
  have gin:∀ x∈ns,getE ({st with m:=setMs st.m ns}.putS o.dst sv c).m ({st with m:=setMs st.m ns}.putS o.dst sv c).o x.1=some (.fix x.2.1 x.2.2):=fun x hx=>by
    obtain⟨cs,h,_⟩:=hg0 x hx;rw [q2,q4];exact zwb (zno hnd hx h)
  have gout:∀ k,k ∉ ns.map (·.1)→getE ({st with m:=setMs st.m ns}.putS o.dst sv c).m ({st with m:=setMs st.m ns}.putS o.dst sv c).o k=getE st.m st.o k:=fun k hk=>by
    rw [q2,q4];unfold getE;rw [zvf hk]
  have hk0:∀ x∈ns,x.1 < st.c.nk:=fun x hx=>by
    obtain⟨cs,h,_⟩:=hg0 x hx;exact (wf.m _ _ _ h).1
  have g:=wf.grow h2;refine⟨fun hk=>by rw [(zr _ _ _ _).1];exact hk,(zr _ _ _ _).2,q3,q5,q6,by rw [q1];exact h2, ?_,fun t'=>zt _ o.dst _ _ t',fun d hd=>(h5 d hd).1,fun k hk => ?_,fun k _ hk=>gout k hk,fun k e' hk hg x hx => ?_,fun β a w hB ho hr hap next Q' hn => ?_⟩
  · refine⟨fun i => ?_,fun k cs2 t2 hg => ?_,by rw [q4,q1];exact g.o,fun k x hk => ?_,by rw [q5,q1];exact g.r,by rw [q6,q1];exact g.d,by rw [(zr _ _ _ _).1,q1];exact g.k,by rw [(zr _ _ _ _).2,q1];exact g.df⟩
    · rw [zt,q1];by_cases hd:o.dst=some i
      · rw [if_pos hd];exact (h5 i hd).2
      · rw [if_neg hd];exact g.t i
    · rw [q2]at hg;rw [q1];by_cases hk:k∈ns.map (·.1)
      · obtain⟨x,hx,rfl⟩:=List.mem_map.1 hk;obtain⟨cs,h,_⟩:=hg0 x hx;rw [zno hnd hx h]at hg;simp only [Option.some.injEq,Prod.mk.injEq]at hg;obtain⟨rfl,rfl⟩:=hg;exact⟨Nat.lt_of_lt_of_le (hk0 x hx) h2.k,h3 x hx⟩
      · rw [zvf hk]at hg;exact g.m k cs2 t2 hg
    · rw [q4]at hk;rw [q2]
      have:=wf.ap k x hk
      by_cases hkk:k∈ns.map (·.1)
      · obtain⟨y,hy,rfl⟩:=List.mem_map.1 hkk;obtain⟨cs,h,_⟩:=hg0 y hy;rw [h]at this;cases this
      · rw [zvf hkk];exact this
  · obtain⟨x,hx,rfl⟩:=List.mem_map.1 hk;exact⟨hwr x hx,hk0 x hx⟩
  · by_cases hkk:k∈ns.map (·.1)
    · obtain⟨y,hy,rfl⟩:=List.mem_map.1 hkk;rw [gin y hy]at hg;cases hg;obtain⟨cs,h,hi⟩:=hg0 y hy;exact .inr ⟨y.1,_,List.mem_append.2 (.inr (hwr y hy)),zwb h,hi x hx⟩
    · rw [gout k hkk]at hg;rcases hk with hk | hk
      · exact (hkk hk).elim
      · rw [wf.beyond hk]at hg;cases hg
  · have old:∀ x∈ns,∃ cs,getE st.m st.o x.1=some (.fix cs x.2.2):=fun x hx=>by
      obtain⟨cs,h,_⟩:=hg0 x hx;exact⟨cs,zwb h⟩
    have inC:∀ {k e},(k∈ns.map (·.1)∨st.c.nk≤k)→getE ({st with m:=setMs st.m ns}.putS o.dst sv c).m ({st with m:=setMs st.m ns}.putS o.dst sv c).o k=some e→∃ x∈ns,x.1=k∧e=.fix x.2.1 x.2.2:=fun {k e} hk hg=>by
      by_cases hkk:k∈ns.map (·.1)
      · obtain⟨y,hy,rfl⟩:=List.mem_map.1 hkk;rw [gin y hy]at hg;cases hg;exact⟨y,hy,rfl,rfl⟩
      · rw [gout k hkk]at hg;rcases hk with hk | hk
        · exact (hkk hk).elim
        · rw [wf.beyond hk]at hg;cases hg
    have nd:(ns.map fun x=>β x.1).Nodup:=by
      have key:∀ l:List (Nat × List At × TypeId),(∀ x∈l,x∈ns)→(l.map (·.1)).Nodup→(l.map fun x=>β x.1).Nodup:=by
        intro l
        induction l with
        | nil=>intro _ _;exact List.nodup_nil
        | cons x l ih =>
          intro hin hn;simp only [List.map_cons,List.nodup_cons]at hn ⊢;refine⟨fun hm => ?_,ih (fun y hy=>hin y (List.mem_cons_of_mem _ hy)) hn.2⟩;obtain⟨y,hy,he⟩:=List.mem_map.1 hm;obtain⟨cs,h⟩:=old x (hin x (List.mem_cons_self ..));obtain⟨cs',h'⟩:=old y (hin y (List.mem_cons_of_mem _ hy))
          have:=hap x.1 y.1 _ _ (β x.1) (hwr x (hin x (List.mem_cons_self ..))) (hwr y (hin y (List.mem_cons_of_mem _ hy))) h h' (by simp [blkE]) (by simp [blkE,he])
          exact hn.1 (List.mem_map.2 ⟨y,hy,this.symm⟩)
      exact key ns (fun x hx=>hx) hnd
    refine h4 β a w hB ho hr nd next Q' fun v w' hv hx hb=>hn β v w' (fun _=>hv) ⟨hx.os,hx.tape,hx.output,hx.size,fun b hbl hnb => ?_,fun _ _=>rfl,fun k e' hk hg => ?_,fun k k' e e' b hk hk' hg hg' hbk hbk' => ?_⟩
    · refine hx.block b hbl fun hm => ?_;obtain⟨y,hy,he⟩:=List.mem_map.1 hm;obtain⟨cs,h⟩:=old y hy;exact hnb y.1 _ (List.mem_map.2 ⟨y,hy,rfl⟩) h (by simp [blkE,he])
    · obtain⟨y,hy,rfl,rfl⟩:=inC hk hg;obtain⟨cs,h⟩:=old y hy;refine⟨⟨(hr y.1 (List.mem_append.2 (.inr (hwr y hy))) _ h).1,hb y hy⟩,fun b hbk=>.inr ⟨y.1,_,List.mem_map.2 ⟨y,hy,rfl⟩,h, ?_,.inl rfl⟩⟩;simpa [blkE]using hbk
    · obtain⟨y,hy,rfl,rfl⟩:=inC hk hg;obtain⟨y',hy',rfl,rfl⟩:=inC hk' hg';obtain⟨cs,h⟩:=old y hy;obtain⟨cs',h'⟩:=old y' hy';exact hap y.1 y'.1 _ _ b (hwr y hy) (hwr y' hy') h h' (by simpa [blkE]using hbk) (by simpa [blkE]using hbk')
theorem zbv{m:Mem}{o:OMem}{k0:Nat}{ce ce':CE}{sz:Nat}{el:TypeId}(hm:getM m k0=none)(h:getO o k0=some (ce,sz,el))(k:Nat):getE m (setO o k0 ce') k=if k0=k then some (.row ce' sz el)else getE m o k:=by
 unfold getE;rw [zkd];by_cases hk:k0=k
 ·subst hk;rw [if_pos rfl,if_pos rfl,hm,h];rfl
 ·rw [if_neg hk,if_neg hk]
theorem zhw{st:St}{o:Oper}{ρ:Env}{k0:Nat}{ce ce':CE}{sz:Nat}{el:TypeId}{sv:SV}{c:Ctr}(wf:st.WF)(hle:st.c.le c)(hg0:getO st.o k0=some (ce,sz,el))(hwr:k0∈writesOf st o)(h3:ceWf c ce'=true)(hids:ce'.flatMap sgIds=[])
  (h4:∀ (β:Nat→Nat) (a:Act) (w:World),Bel W w→OpsOk st o ρ β a→RdOk W st.m st.o (readsOf st o++writesOf st o) ρ β w →
   ∀ (next:Act→World→Prop) (Q':Exit→Act→World→Prop),(∀ v w',v=sv.den ρ β→(β (k0 + 1)≤1→Below w.heap.size w w')→(2≤β (k0 + 1)→BelX (β k0) w w')→RowOkP (fun _=>True) (β k0) (β (k0 + 1)) (β (k0 + 2)) (β (k0 + 3)) (ceDen ρ β ce') sz el w'→next (a.put o.dst v) w')→o.wp P a w next Q')
  (h5:PutOk {st with o:=setO st.o k0 ce'} o.dst sv c):OFact P W st o ρ ({st with o:=setO st.o k0 ce'}.putS o.dst sv c) sv [k0]:=by
 obtain⟨q1,q2,q3,q4,q5,q6⟩:=zfa {st with o:=setO st.o k0 ce'} o.dst sv c;have hmn:=wf.ap k0 _ hg0
 have hm:∀ k,getE ({st with o:=setO st.o k0 ce'}.putS o.dst sv c).m ({st with o:=setO st.o k0 ce'}.putS o.dst sv c).o k=if k0=k then some (.row ce' sz el)else getE st.m st.o k:=fun k=>by
  rw [q2,q4];exact zbv hmn hg0 k
 have hk0:=(wf.o k0 ce sz el hg0).1;have g:=wf.grow hle;refine⟨fun hk=>by rw [(zr _ _ _ _).1];exact hk,(zr _ _ _ _).2,q3,q5,q6,by rw [q1];exact hle, ?_,fun t'=>zt _ o.dst _ _ t',fun d hd=>(h5 d hd).1,fun k hk => ?_,fun k _ hk => ?_,fun k e' hk hg x hx => ?_,fun β a w hB ho hr _ next Q' hn => ?_⟩
 ·refine⟨fun i => ?_,by rw [q2,q1];exact g.m,fun k ce2 sz2 t2 hg => ?_,fun k x hk => ?_,by rw [q5,q1];exact g.r,by rw [q6,q1];exact g.d,by rw [(zr _ _ _ _).1,q1];exact g.k,by rw [(zr _ _ _ _).2,q1];exact g.df⟩
  ·rw [zt,q1];by_cases hd:o.dst=some i
   ·rw [if_pos hd];exact (h5 i hd).2
   ·rw [if_neg hd];exact g.t i
  ·rw [q4,zkd]at hg;rw [q1];by_cases hk:k0=k
   ·subst hk;rw [if_pos rfl,hg0]at hg;simp only [Option.map_some,Option.some.injEq,Prod.mk.injEq]at hg;obtain⟨rfl,rfl,rfl⟩:=hg;exact⟨Nat.lt_of_lt_of_le hk0 hle.k,h3⟩
   ·rw [if_neg hk]at hg;exact g.o k ce2 sz2 t2 hg
  ·rw [q4,zkd]at hk;rw [q2];by_cases hkk:k0=k
   ·subst hkk;exact hmn
   ·rw [if_neg hkk]at hk;exact wf.ap k x hk
 ·simp only [List.mem_singleton]at hk;subst hk;exact⟨hwr,by omega⟩
 ·rw [hm,if_neg (fun e=>hk (by simp [e]))]
 ·rw [hm]at hg;by_cases hkk:k0=k
  ·rw [if_pos hkk]at hg;cases hg;simp only [entIds,hids]at hx;cases hx
  ·rw [if_neg hkk]at hg;rcases hk with hk | hk
   ·simp only [List.mem_singleton]at hk;exact (hkk hk.symm).elim
   ·rw [wf.beyond hk]at hg;cases hg
 ·have hold:=hr k0 (List.mem_append.2 (.inr hwr)) _ (zla hmn hg0);simp only [Holds]at hold;refine h4 β a w hB ho hr next Q' fun v w' hv hb1 hb2 hrow => ?_
  have base:w'.os=w.os∧w'.tape=w.tape∧w'.output=w.output∧w.heap.size≤w'.heap.size∧∀ b,b < w.heap.size→(2≤β (k0 + 1)→b≠β k0)→w'.heap[b]? = w.heap[b]? := by
   by_cases hc:β (k0 + 1)≤1
   ·have h:=hb1 hc;exact⟨h.os,h.tape,h.output,h.size,fun b hb _=>h.block b hb⟩
   ·have h:=hb2 (by omega);exact⟨h.os,h.tape,h.output,h.size,fun b hb hn=>h.block b hb (hn (by omega))⟩
  obtain⟨r3,r4,r5,r6,r7⟩:=base;refine hn β v w' (fun _=>hv) ⟨r3,r4,r5,r6,fun b hb hnb=>r7 b hb fun h2 he=>hnb k0 _ (by simp) (zla hmn hg0) (by simp only [blkE,h2,if_true,he]),fun _ _=>rfl,fun k e' hk hg => ?_,fun k k' e e' _ hk hk' hg hg' _ _ => ?_⟩
  ·rw [hm]at hg;by_cases hkk:k0=k
   ·rw [if_pos hkk]at hg;cases hg;subst hkk;refine⟨?_,fun b hb=>.inr ⟨k0,_,by simp,zla hmn hg0,hb,.inl rfl⟩⟩;simp only [Holds];exact hrow.imp fun h2 _=>RowOkP.own hold h2
   ·rw [if_neg hkk]at hg;rcases hk with hk | hk
    ·simp only [List.mem_singleton]at hk;exact (hkk hk.symm).elim
    ·rw [wf.beyond hk]at hg;cases hg
  ·have one:∀ {k e},(k ∈ [k0]∨st.c.nk≤k)→getE ({st with o:=setO st.o k0 ce'}.putS o.dst sv c).m ({st with o:=setO st.o k0 ce'}.putS o.dst sv c).o k=some e→k=k0:=by
    intro k e hk hg;rcases hk with hk | hk
    ·simpa using hk
    ·rw [hm,if_neg (by omega),wf.beyond hk]at hg;cases hg
   rw [one hk hg,one hk' hg']
end Vc
set_option linter.unusedVariables false
namespace Vc
open Go Go.RowKit
variable {P:Program} {W:Wld} {Q:Value→Prop} {QM QP:World→Value→Prop}
theorem zd:∀ (x y:List At),idsOf (x++y)=idsOf x++idsOf y
  | [],_=>rfl
  | a::x,y=>by
    have:=zd x y
    cases a <;> simp [idsOf,this]
theorem znc{x:Nat}(l:List At)(n:Nat)(h:x∈idsOf (l.take n)):x∈idsOf l:=by
 have:=zd (l.take n) (l.drop n)
 rw [List.take_append_drop]at this;rw [this];exact List.mem_append.2 (.inl h)
theorem zoc{x:Nat}(l:List At)(n:Nat)(h:x∈idsOf (l.drop n)):x∈idsOf l:=by
 have:=zd (l.take n) (l.drop n)
 rw [List.take_append_drop]at this;rw [this];exact List.mem_append.2 (.inr h)
theorem zvl{v:Value}{a:At}(h:At.ofValue v=some a):idsOf [a]=[]:=by
  unfold At.ofValue at h
  split at h <;> first
    | (cases h;rfl)
    | (split at h
       · cases h;rfl
       · cases h)
    | cases h
theorem zzp:∀ {l:List Value} {r:List At},atsOf l=some r→idsOf r=[]
  | [],r,h=>by simp only [atsOf,Option.some.injEq]at h;subst h;rfl
  | v::l,r,h=>by
    simp only [atsOf]at h;split at h
    · rename_i a r' h1 h2;simp only [Option.some.injEq]at h;subst h;rw [show a::r'=[a]++r' from rfl,zd,zvl h1,zzp h2];rfl
    · cases h
theorem zwl{t:TypeId}{z:CV}(h:zeroA P t=some z):idsOf z.cells=[]:=by
  unfold zeroA at h;cases hi:P.info? t with
  | none=>simp [hi]at h
  | some i =>
    simp only [hi]at h;cases hz:i.zero with
    | none=>simp [hz]at h
    | some v =>
      simp only [hz]at h;generalize hs:SV.ofValue v=sv at h;cases sv with
      | cv x =>
        simp only [Option.some.injEq]at h;subst h;unfold SV.ofValue at hs;split at hs
        · split at hs
          · rename_i l hl;cases hs;exact zzp hl
          · cases hs
        · split at hs
          · rename_i a ha;cases hs;exact zvl ha
          · cases hs
      | _=>simp at h
theorem zxl(l:List At)(h:idsOf l=[]):∀ n,idsOf (times l n)=[]
 | 0=>rfl
 | n + 1=>by simp only [times,zd,h,zxl l h n,List.nil_append]
theorem zaq{place:Nat→Option (Nat × Nat)}{x:Nat}:∀ (parts:List (Nat × SV)) (cells:List At) {cs:List At},fillA place cells parts=some cs→x∈idsOf cs→x∈idsOf cells∨x∈parts.flatMap fun p=>svIds p.2
  | [],cells,cs,h,hx=>by simp only [fillA,Option.some.injEq]at h;subst h;exact .inl hx
  | (i,.any)::r,_,_,h,_=>by simp [fillA]at h
  | (i,.und)::r,_,_,h,_=>by simp [fillA]at h
  | (i,.tup l)::r,_,_,h,_=>by simp [fillA]at h
  | (i,.cv v)::r,cells,cs,h,hx=>by
    simp only [fillA]at h;split at h
    · rename_i off size _;split at h
      · rcases zaq r _ h hx with h1 | h1
        · rw [zd,zd]at h1;rcases List.mem_append.1 h1 with h2 | h2
          · rcases List.mem_append.1 h2 with h3 | h3
            · exact .inl (znc _ _ h3)
            · exact .inr (List.mem_flatMap.2 ⟨_,List.mem_cons_self,h3⟩)
          · exact .inl (zoc _ _ h2)
        · obtain⟨p,hp,hp2⟩:=List.mem_flatMap.1 h1;exact .inr (List.mem_flatMap.2 ⟨p,List.mem_cons_of_mem _ hp,hp2⟩)
      · cases h
    · cases h
theorem zbq{st:St}{o:Oper}{t el:TypeId}{len:Nat}{parts:Array (Nat × Operand)}(ho:o.op=.buildSlice t len parts)(hu:P.underlying t=some (.slice el)){g:Bool}{s:Nat}{z:CV}(hz:szAgg P el=some (g,s))(hzz:zeroA P el=some z)
  (hc:z.cells.length=s∧0 < s∧0 < len∧len * s≤4096) {cs:List At} (hf:fillA (fun i=>some (i * s,s)) (times z.cells len) (parts.toList.map fun p=>(p.1,st.ev p.2))=some cs) {ρ'':Env} {β:Nat→Nat} {a:Act} {w:World} (hops:OpsOk st o ρ'' β a) :
  (execOp a.eval o).run P w=.ok (.value (.slice (some ⟨w.heap.size,0,none⟩) len len)) (w.alloc (.cells (cs.map (At.den ρ'' β)).toArray el)):=by
 obtain⟨c1,c2,c3,c4⟩:=hc;have q1:=(zjb hzz ρ'' β w st.c).1;have q3:=zmg ρ'' β _ _ hf;have hany:=zqi _ _ hf
 have e1:(parts.map fun x=>(x.1,a.eval x.2)).toList=(parts.toList.map fun p=>(p.1,st.ev p.2)).map fun p=>(p.1,p.2.den ρ'' β):=by
  rw [List.map_map,Array.toList_map];apply List.map_congr_left;intro p hp
  have:=hops p.2 (by rw [ho];simp only [Op.operands];exact zew (by simpa using ⟨p.1,Array.mem_toList_iff.1 hp⟩)) (hany (p.1,st.ev p.2) (List.mem_map.2 ⟨p,hp,rfl⟩))
  simp [this]
 have hzs:(z.den ρ'' β).cells.size=s:=by rw [CV.cells_den];simpa using c1
 have q4:=zqn (z.den ρ'' β).cells len (by rw [hzs];exact c2);rw [hzs]at q4;have n1:¬ (len * s > 2 ^ 24):=by omega
 have n2:¬ (len * s=0):=by
  have:=Nat.mul_pos c3 c2;omega
 simp only [execOp,ho,Instr.buildSlice,Sem.run_bind,run_underlying hu,Result.andThen_ok,zka hz,n1,n2,if_false,q1,Sem.run_pure,e1,hzs,q4];rw [show times (z.den ρ'' β).cells.toList len=(times z.cells len).map (At.den ρ'' β) by rw [zrl,CV.cells_den],q3];simp [newRow]
theorem zcq{G:Cfg}(hG:G.Ok){st:St}{o:Oper}{K:St→Env→Prop}{ρ:Env}(wf:st.WF)(hkn:KnL.den st.k ρ)(h:opm0 (PA G.P W Q QM QP) G st o K ρ):Rsv G.P W st o K ρ:=by
 have new:∀ {cs:List At} {t:TypeId} {v:Nat→At} (vd:Nat→Value),St.new (PA G.P W Q QM QP) st o.dst cs t v K ρ→(∀ x∈idsOf cs,x∈valIds st o)→(∀ (ρ'':Env) (β:Nat→Nat),(v st.c.nk).den ρ'' β=vd (β st.c.nk)) →
   (∀ ρ'',Env.like st.c ρ ρ''→∀ (β:Nat→Nat) (a:Act) (w:World),OpsOk st o ρ'' β a→(execOp a.eval o).run G.P w=.ok (.value (vd w.heap.size)) (w.alloc (.cells (cs.map (At.den ρ'' β)).toArray t))) →
   Rsv G.P W st o K ρ:=by
  intro cs t v vd h hids hv hr;unfold St.new at h;by_cases hw:cs.all (At.wf st.c)=true
  ·rw [if_pos hw,zlg]at h;obtain⟨h1,h2⟩:=zj h;have hc:=(zfa {st with m:=(st.c.nk,cs,t)::st.m} o.dst (.cv (.one (v st.c.nk))) {st.c with nk:=st.c.nk + 1}).1;have hle:=Ctr.le_nk st.c 1;refine⟨_,ρ,.cv (.one (v st.c.nk)),[],h1,by rw [hc];exact hle,Env.like_refl _ _,fun ρ'' hl => ?_⟩;rw [hc]at hl;have hl2:Env.like st.c ρ ρ'':=⟨hl.i,hl.b,hl.v,hl.p,hl.s,hl.l⟩;exact zqy wf hw hids (hv ρ'') (hr ρ'' hl2) h2
  ·rw [if_neg hw]at h;exact h.elim
 unfold opm0 at h;generalize ho:o.op=op at h;cases op
 case alloc t =>
  simp only at h;generalize hz:zeroA G.P t=u at h;split at h
  ·rename_i z;refine new (fun B=>.pointer (some ⟨B,0,none⟩)) h (by rw [zwl hz];intro x hx;cases hx) (fun _ _=>rfl) fun ρ'' hl β a w hops => ?_;have q1:=(zjb hz ρ'' β w st.c).1;simp [execOp,ho,Instr.alloc,q1,newVar,newRow,CV.cells_den]
  ·exact h.elim
 case box t x =>
  simp only at h;generalize hx:st.ev x=sx at h;split at h
  ·rename_i v;refine new (fun B=>.pointer (some ⟨B,0,none⟩)) h (fun y hy=>by simp only [valIds,ho,hx];exact hy) (fun _ _=>rfl) fun ρ'' hl β a w hops => ?_;have e1:=hops x (by rw [ho];simp [Op.operands]) (by rw [hx];simp);rw [hx]at e1;simp [execOp,ho,e1,Instr.box,newVar,newRow,SV.den,CV.cells_den]
  ·exact h.elim
 case store t x y =>
  simp only at h;generalize hz:szAgg G.P t=u1 at h;generalize hx:st.ev x=sx at h;generalize hy':st.ev y=sy at h;split at h
  ·rename_i g n k off v;generalize hm:getM st.m k=u2 at h;split at h
   ·rename_i cs ty;split at h
    ·rename_i hc;obtain⟨hc1,hc2,hc3⟩:=hc;obtain⟨h1,h2⟩:=zj h;have hc:=(zfa {st with m:=setM st.m k (cs.take off++v.cells++cs.drop (off + n))} o.dst .any st.c).1;refine⟨_,ρ,.any,[k],h1,by rw [hc];exact Ctr.le_refl _,Env.like_refl _ _,fun ρ'' hl => ?_⟩;refine zsy wf hm (by simp [writesOf,ho,hx,svCells,CV.cells,blksOf]) ?_ (fun y hy => ?_) (fun β a w hops m2 => ?_) h2
     ·have:=(wf.m k cs ty hm).2
      simp only [List.all_append,(zy this off).1,(zy this (off + n)).2,CV.wf_cells hc3,Bool.and_self]
     ·rw [zd,zd]at hy;rcases List.mem_append.1 hy with hy | hy
      ·rcases List.mem_append.1 hy with hy | hy
       ·exact .inr (znc _ _ hy)
       ·simp only [valIds,ho,hy'];exact .inl hy
      ·exact .inr (zoc _ _ hy)
     ·have e1:=hops x (by rw [ho];simp [Op.operands]) (by rw [hx];simp);have e2:=hops y (by rw [ho];simp [Op.operands]) (by rw [hy'];simp);rw [hx]at e1;rw [hy']at e2
      have hs:=zql (g:=g) hz w (β k) off (v.den ρ'' β) _ ty m2 (by rw [CV.cells_den];simpa using hc1) (by simpa using hc2) (by
       rw [CV.cells_den];intro z hz';simp only [List.mem_map]at hz';obtain⟨q,_,rfl⟩:=hz';exact At.den_one ρ'' β q)
      rw [CV.cells_den]at hs;simp only [← zoi]at hs;have e1':a.eval x=ptr (β k) off:=e1;have e2':a.eval y=v.den ρ'' β:=e2;simp only [execOp,ho,e1',e2',Sem.run_bind,hs,Result.andThen_ok,Sem.run_pure]
    ·exact h.elim
   ·exact h.elim
  ·exact h.elim
 case makeInterface t x =>
  simp only at h;generalize hu:G.P.underlying t=u1 at h;generalize hx:st.ev x=sx at h;split at h
  ·exact h.elim
  ·rename_i d v hni;split at h
   ·rename_i hv;obtain⟨hv1,hv2⟩:=hv;have h:=h ⟨.iface t (v.den ρ b0),rfl⟩ rfl;have hle:st.c.le {st.c with nv:=st.c.nv + 1}:=zx st.c .oth;have hlk:=zpf st.c ρ ⟨.iface t (v.den ρ b0),rfl⟩;obtain⟨h1,h2⟩:=zj h;have hc:=(zfa {st with k := .ifc st.c.nv t v::st.k} o.dst (.cv (.one (.val st.c.nv))) {st.c with nv:=st.c.nv + 1}).1;refine⟨_,_,.cv (.one (.val st.c.nv)),[],h1,by rw [hc];exact hle,hlk,fun ρ'' hl => ?_⟩;rw [hc]at hl;have hl2:Env.like st.c ρ ρ'':=Env.like_trans hle hlk hl
    have e0:(ρ''.v st.c.nv).1=.iface t (v.den ρ'' b0):=by
     rw [hl.v st.c.nv (Nat.lt_succ_self _),CV.den_like hl2 (fun _ _=>rfl) hv2];exact congrArg (fun y:OV=>y.1) (if_pos rfl)
    refine zgw wf (ValOk.run fun β a w hB hops hr=>⟨.iface t (v.den ρ'' β), ?_,fun _ => ?_⟩) hle h2 (fun z hz => ?_) (fun hk z hz => ?_)
    ·have e1:=hops x (by rw [ho];simp [Op.operands]) (by rw [hx];simp);rw [hx]at e1;simp only [execOp,ho,e1];refine zl _ w _ ?_
     cases d <;> first
      | (exact (hni _ rfl).elim)
      | (simp [Instr.makeInterface,run_underlying hu,SV.den])
    ·show _=(ρ''.v st.c.nv).1;rw [e0,CV.den_flat ρ'' β b0 hv1]
    ·rcases List.mem_cons.1 hz with rfl | hz
     ·simp only [Kn.wf,Bool.and_eq_true,decide_eq_true_eq];exact⟨Nat.lt_succ_self _,CV.wf_le hle hv2,hv1⟩
     ·exact Kn.wf_le hle (wf.k z hz)
    ·rcases List.mem_cons.1 hz with rfl | hz
     ·exact e0
     ·exact hk z hz
   ·exact h.elim
  ·exact h.elim
 case buildSlice t len parts =>
  simp only at h;generalize hu:G.P.underlying t=u1 at h;split at h
  ·rename_i el;generalize hz:szAgg G.P el=u2 at h;generalize hzz:zeroA G.P el=u3 at h;split at h
   ·rename_i g s z;split at h
    ·rename_i hc;obtain⟨c1,c2,c3,c4⟩:=hc;generalize hf:fillA (fun i=>some (i * s,s)) (times z.cells len) (parts.toList.map fun p=>(p.1,st.ev p.2))=u4 at h;split at h
     ·rename_i cs;refine new (fun B=>.slice (some ⟨B,0,none⟩) len len) h (fun y hy => ?_) (fun _ _=>rfl) fun ρ'' hl β a w hops => ?_
      ·rcases zaq _ _ hf hy with h1 | h1
       ·rw [zxl _ (zwl hzz)]at h1;cases h1
       ·simp only [valIds,ho];simpa [List.flatMap_map]using h1
      exact zbq ho hu hz hzz ⟨c1,c2,c3,c4⟩ hf hops
     ·exact h.elim
    ·exact h.elim
   ·exact h.elim
  ·exact h.elim
 all_goals
  obtain⟨sv,c',ρ',h1,h2,h3,h4⟩:=zpl hG wf hkn h;by_cases hk:c'.nk=st.c.nk
  ·rw [if_pos hk]at h1;obtain⟨q1,q2⟩:=zj h1;have hc:=(zfa st o.dst sv c').1;refine⟨_,ρ',sv,[],q1,by rw [hc];exact h2,h3,fun ρ'' hl => ?_⟩;rw [hc]at hl;exact zoy wf (h4 ρ'' hl) h2 q2
  ·rw [if_neg hk]at h1;exact h1.elim
theorem zrn{p:At→Bool}:∀ {cs:List At} {offs:List Nat} {l:List At},cs.all p=true→l.all p=true→(setAts cs offs l).all p=true
  | cs,[],l,h,_=>by simpa [setAts]using h
  | cs,i::r,[],h,_=>by simpa [setAts]using h
  | cs,i::r,a::l,h,hl=>by
    simp only [List.all_cons,Bool.and_eq_true]at hl;refine zrn (cs:=cs.take i++a::cs.drop (i + 1)) (List.all_eq_true.2 fun x hx => ?_) hl.2;rcases List.mem_append.1 hx with hx | hx
    · exact List.all_eq_true.1 h x (List.mem_of_mem_take hx)
    · rcases List.mem_cons.1 hx with rfl | hx
      · exact hl.1
      · exact List.all_eq_true.1 h x (List.mem_of_mem_drop hx)
theorem zsn{x:Nat}:∀ {cs:List At} {offs:List Nat} {l:List At},idsOf l=[]→x∈idsOf (setAts cs offs l)→x∈idsOf cs
  | cs,[],l,_,h=>by simpa [setAts]using h
  | cs,i::r,[],_,h=>by simpa [setAts]using h
  | cs,i::r,a::l,hl,h=>by
    have e:=zd [a] l;rw [List.singleton_append,hl]at e;have e':=(List.append_eq_nil_iff.1 e.symm);have h2:=zsn (cs:=cs.take i++a::cs.drop (i + 1)) e'.2 h;have e2:=zd [a] (cs.drop (i + 1));rw [List.singleton_append,e'.1,List.nil_append]at e2;rw [zd,e2]at h2;rcases List.mem_append.1 h2 with h3 | h3
    · exact znc _ _ h3
    · exact zoc _ _ h3
theorem zdq:∀ (ks:List CK) (c:Ctr),ks.all CK.plain=true→idsOf (freshL c ks)=[]
  | [],c,_=>rfl
  | k::l,c,h=>by
    simp only [List.all_cons,Bool.and_eq_true]at h;have ih:=zdq l (freshC c k) h.2;cases k <;> first | (simp only [freshL,fresh1,idsOf];exact ih) | (simp [CK.plain]at h)
theorem zgt{l:List At}(h:idsOf l=[])(n:Nat):idsOf (l.drop n)=[]:=by
 have:=zd (l.take n) (l.drop n)
 rw [List.take_append_drop,h]at this;exact (List.append_eq_nil_iff.1 this.symm).2
theorem zri{cs:List At}:∀ {offs:List Nat} {ks:List CK},kindsAt cs offs=some ks→ks.all CK.plain=true
  | [],ks,h=>by simp only [kindsAt,Option.some.injEq]at h;subst h;rfl
  | i::r,ks,h=>by
    simp only [kindsAt]at h;split at h
    · rename_i k l hk hl;simp only [Option.some.injEq]at h;subst h;simp only [List.all_cons,Bool.and_eq_true];refine⟨?_,zri hl⟩;cases hc:cs[i]? with
      | none=>rw [hc]at hk;cases hk
      | some a =>
        rw [hc]at hk;simp only [Option.bind_some]at hk;cases a <;> simp only [kindAt,Option.some.injEq,reduceCtorEq]at hk <;> (subst hk;rfl)
    · cases h
theorem zht{k:Nat}:∀ {l:List SV} {j:Nat},l[j]? = some (.cv (.one (.loc k 0)))→k∈ptrsOf l
  | [],j,h=>by simp at h
  | x::l,0,h=>by
    simp only [List.getElem?_cons_zero,Option.some.injEq]at h;subst h;simp [ptrsOf]
  | x::l,j + 1,h=>by
    have:=zht (l:=l) (j:=j) (by simpa using h)
    unfold ptrsOf;split
    · cases ‹_::_=[]›
    · rename_i heq;simp only [List.cons.injEq]at heq;obtain⟨_,rfl⟩:=heq;exact List.mem_cons_of_mem _ this
    · rename_i heq;simp only [List.cons.injEq]at heq;obtain⟨_,rfl⟩:=heq;exact List.mem_cons_of_mem _ this
    · rename_i heq;simp only [List.cons.injEq]at heq;obtain⟨_,rfl⟩:=heq;exact this
theorem zuy{l:List At}(h:idsOf l=[])(n:Nat):idsOf (l.take n)=[]:=by
 have:=zd (l.take n) (l.drop n)
 rw [List.take_append_drop,h]at this;exact (List.append_eq_nil_iff.1 this.symm).1
theorem zmk{m:Mem}{args:List SV}:∀ {jo:List (Nat × List Nat)} {bl:List EBlk},effBlks m args jo=some bl→∀ e∈bl,(∃ j:Nat,args[j]? = some (SV.cv (.one (.loc e.k 0))))∧getM m e.k=some (e.cs,e.t)∧kindsAt e.cs e.offs=some e.ks
  | [],bl,h,e,he=>by simp only [effBlks,Option.some.injEq]at h;subst h;cases he
  | (j,offs)::r,bl,h,e,he=>by
    simp only [effBlks]at h;split at h
    · rename_i k l h1 h2;split at h
      · rename_i cs t h3;split at h
        · rename_i ks h4;simp only [Option.some.injEq]at h;subst h;rcases List.mem_cons.1 he with rfl | he
          · exact⟨⟨j,h1⟩,h3,h4⟩
          · exact zmk h2 e he
        · cases h
      · cases h
    · cases h
theorem zyl{x:Nat × List At × TypeId}:∀ {bl:List EBlk} {fr:List At},x∈effNew bl fr→∃ e∈bl,∃ n m,x=(e.k,setAts e.cs e.offs ((fr.drop n).take m),e.t)
  | [],fr,h=>by cases h
  | e::r,fr,h=>by
    rcases List.mem_cons.1 h with rfl | h
    · exact⟨e,List.mem_cons_self ..,0,e.ks.length,rfl⟩
    · obtain⟨e',h1,n,m,h2⟩:=zyl h;exact⟨e',List.mem_cons_of_mem _ h1,e.ks.length + n,m,by rw [h2,List.drop_drop]⟩
theorem ztn:∀ (bl:List EBlk) (fr:List At),(effNew bl fr).map (·.1)=bl.map (·.k)
 | [],fr=>rfl
 | e::r,fr=>by simp only [effNew,List.map_cons,ztn r]
theorem zes{G:Cfg}(hG:G.Ok){st:St}{o:Oper}{K:St→Env→Prop}{ρ:Env}(wf:st.WF)(hkn:KnL.den st.k ρ){g:Operand}{args:Array Operand}{ats:Array TypeId}(ho:o.op=.call ⟨.value g,args,ats⟩){f:FuncId}{caps:List (Nat × Nat)}(hg:st.ev g=.cv (.one (.fn f caps)))
  {jo:List (Nat × List Nat)} {all:List SV} (hall:all=args.toList.map st.ev++caps.map fun x=>SV.cv (.one (.loc x.1 x.2))) (h:doEff (PA G.P W Q QM QP) G st o.dst f all jo K ρ):Rsv G.P W st o K ρ:=by
 unfold doEff at h;generalize hf:G.P.funcs[f]? = u1 at h;split at h
 ·exact h.elim
 ·rename_i fn;generalize hs:shapes G.P fn.resultTypes.toList=u2 at h;generalize hj:effBlks st.m all jo=u3 at h;split at h
  ·rename_i ss bl;simp only at h;split at h
   ·exact h.elim
   ·rename_i ha;simp only [not_or,Decidable.not_not]at ha;obtain⟨ha1,ha2⟩:=ha;split at h
    ·rename_i hnd;split at h
     ·rename_i hc;generalize hks:shapeK ss++bl.flatMap (·.ks)=ks at h;have hsp:=zmk hj
      have hpl:ks.all CK.plain=true:=by
       rw [← hks,List.all_append,zud _ hs,Bool.true_and];refine List.all_eq_true.2 fun k hk => ?_;obtain⟨e,he,hke⟩:=List.mem_flatMap.1 hk;exact List.all_eq_true.1 (zri (hsp e he).2.2) k hke
      have hfw:=zgd ks st.c;have hff:=zdq ks st.c hpl;have hfl:=zhd ks st.c hpl;have hle:=zeb ks st.c;obtain⟨ρ1,l1,⟨h1,h3⟩⟩:=zbb ks st.c h;generalize freshL st.c ks=fr at *;have hflat:svFlat (resV (shapeV ss fr))=true:=zrf (zmc _ _ hfl);have hwf:(resV (shapeV ss fr)).wf (freshLC st.c ks)=true:=ztj (zke _ _ _ hfw);obtain⟨h4,h5⟩:=zj h3;have hmp:=ztn bl (fr.drop (shapeK ss).length);have hns:∀ x∈effNew bl (fr.drop (shapeK ss).length),∃ e∈bl,∃ n m,x=(e.k,setAts e.cs e.offs (((fr.drop (shapeK ss).length).drop n).take m),e.t):=fun x hx=>zyl hx;generalize effNew bl (fr.drop (shapeK ss).length)=ns at *;have hcc:=(zfa {st with m:=setMs st.m ns} o.dst (resV (shapeV ss fr)) (freshLC st.c ks)).1
      have hwc:∀ x∈ns,x.2.1.all (At.wf (freshLC st.c ks))=true:=fun x hx=>by
       obtain⟨e,he,n,m,rfl⟩:=hns x hx;exact zrn (zed hle (wf.m _ _ _ (hsp e he).2.1).2) (zy (zy (zy hfw _).2 n).2 m).1
      refine⟨_,ρ1,resV (shapeV ss fr),ns.map (·.1),h4,by rw [hcc];exact hle,l1,fun ρ'' hl => ?_⟩;rw [hcc]at hl
      have hmem:∀ x∈ns,∃ e∈bl,e.k=x.1:=fun x hx=>by
       obtain⟨e,he,n,m,rfl⟩:=hns x hx;exact⟨e,he,rfl⟩
      have hwrs:writesOf st o=ptrsOf all:=by simp only [writesOf,ho,hg,hall]
      refine zty wf hle (by rw [hmp];exact hnd) (fun x hx => ?_) (fun x hx => ?_) hwc (fun β a w hB hops hr hap next Q' hn => ?_) h5
      ·obtain⟨e,he,n,m,rfl⟩:=hns x hx;exact⟨e.cs,(hsp e he).2.1,fun y hy=>zsn (zuy (zgt (zgt hff _) n) m) hy⟩
      ·obtain⟨e,he,hk⟩:=hmem x hx;rw [hwrs,← hk];obtain⟨j,hjj⟩:=(hsp e he).1;exact zht hjj
      ·have l3:Env.like st.c ρ ρ'':=Env.like_trans hle l1 hl
       have hany:∀ x∈all,x ≠ .any:=by
        intro x hx he;subst he;exact ha1 (List.any_eq_true.2 ⟨_,hx,rfl⟩)
       have hargs:all.map (SV.den ρ'' β)=all.map (SV.den ρ β) :=
        List.map_congr_left fun x hx=>SV.den_like l3 (fun _ _=>rfl) (List.all_eq_true.1 ha2 x hx)
       have eg:=hops g (by rw [ho];simp [Op.operands,Call.operands]) (by rw [hg];simp);rw [hg]at eg;have eg':a.eval g=.func (.func f) #[] (caps.map fun c=>.pointer (some ⟨β c.1,c.2,none⟩)).toArray:=eg
       have ea:(args.map a.eval).toList=(args.toList.map st.ev).map (SV.den ρ'' β):=by
        rw [Array.toList_map];exact zca _ fun x hx=>hops x (by rw [ho];simp only [Op.operands,Call.operands];exact Array.mem_append.2 (.inr (Array.mem_toList_iff.1 hx))) (hany _ (by rw [hall];exact List.mem_append.2 (.inl (List.mem_map.2 ⟨x,hx,rfl⟩))))
       have ec:(#[]:Array Value)++args.map a.eval++(caps.map fun c=>(.pointer (some ⟨β c.1,c.2,none⟩):Value)).toArray=(all.map (SV.den ρ'' β)).toArray:=by
        apply Array.ext';rw [Array.toList_append,Array.toList_append,ea,hall];simp [SV.den,CV.den,At.den,Function.comp_def]
       have hx:(execOp a.eval o).run G.P w=(callFunc f (all.map (SV.den ρ'' β)).toArray).run G.P w:=by
        simp only [execOp,ho,resolve,eg',Deferred.ofValue,Sem.run_bind,Sem.run_pure,Result.andThen_ok,invoke];rw [← ec]
       have hrd:RdOk W st.m st.o (blksOf (deepSV st.m st.o all)) ρ'' β w:=fun q hq=>hr q (List.mem_append.2 (.inl (by simp only [readsOf,ho,hg];rw [← hall];exact hq)));unfold Oper.wp;rw [hx,hG.calls f hc _ w,Oper.upon_enter];rw [hargs];refine ((h1 β w hB (zkb wf.ap l3 (fun q cs t hq=>(wf.m q cs t hq).2) (fun q ce sz t hq=>(wf.o q ce sz t hq).2) _ hrd)).out (by simpa [List.map_map,Function.comp_def]using hap)).mono fun e w' he => ?_;obtain⟨rfl,hb1,hb2⟩:=he.out;refine hn _ w' ?_ (by simpa [List.map_map,Function.comp_def]using hb1) fun x hx => ?_
       ·rw [SV.den_flat ρ'' β b0 hflat,SV.den_like hl (β:=b0) (fun _ _=>rfl) hwf]
       ·rw [hb2 _ (List.mem_map.2 ⟨x,hx,rfl⟩),zha hl (fun _ _=>rfl) (hwc x hx)]
     ·exact h.elim
    ·exact h.elim
  ·exact h.elim
theorem zoo{k:Nat}:∀ {l:List SV} {j:Nat},l[j]? = some (.cv (.one (.own k)))→k∈ptrsOf l
  | [],j,h=>by simp at h
  | x::l,0,h=>by
    simp only [List.getElem?_cons_zero,Option.some.injEq]at h;subst h;simp [ptrsOf]
  | x::l,j + 1,h=>by
    have:=zoo (l:=l) (j:=j) (by simpa using h)
    unfold ptrsOf;split
    · cases ‹_::_=[]›
    · rename_i heq;simp only [List.cons.injEq]at heq;obtain⟨_,rfl⟩:=heq;exact List.mem_cons_of_mem _ this
    · rename_i heq;simp only [List.cons.injEq]at heq;obtain⟨_,rfl⟩:=heq;exact List.mem_cons_of_mem _ this
    · rename_i heq;simp only [List.cons.injEq]at heq;obtain⟨_,rfl⟩:=heq;exact this
theorem zeq{G:Cfg}(hG:G.Ok){st:St}{o:Oper}{K:St→Env→Prop}{ρ:Env}(wf:st.WF)(hkn:KnL.den st.k ρ){g:Operand}{args:Array Operand}{ats:Array TypeId}(ho:o.op=.call ⟨.value g,args,ats⟩){f:FuncId}{caps:List (Nat × Nat)}(hg:st.ev g=.cv (.one (.fn f caps)))
  {j:Nat} {all:List SV} (hall:all=args.toList.map st.ev++caps.map fun x=>SV.cv (.one (.loc x.1 x.2))) (h:doEffR (PA G.P W Q QM QP) G st o.dst f all j K ρ):Rsv G.P W st o K ρ:=by
 unfold doEffR at h;generalize hf:G.P.funcs[f]? = u1 at h;split at h
 ·exact h.elim
 ·rename_i fn;generalize hs:shapes G.P fn.resultTypes.toList=u2 at h;generalize hj:all[j]? = u3 at h;split at h
  ·rename_i ss k;generalize hm:getO st.o k=u4 at h;split at h
   ·rename_i ce sz t;simp only at h;split at h
    ·exact h.elim
    ·rename_i ha;simp only [not_or,Decidable.not_not]at ha;obtain⟨ha1,ha2⟩:=ha;split at h
     ·rename_i hc;have hle1:st.c.le {st.c with nl:=st.c.nl + 1}:=⟨Nat.le_refl _,Nat.le_refl _,Nat.le_refl _,Nat.le_refl _,Nat.le_refl _,Nat.le_refl _,Nat.le_succ _⟩;generalize hks:shapeK ss=ks at h;have hpl:ks.all CK.plain=true:=by rw [← hks];exact zud _ hs
      have hfw:=zgd ks {st.c with nl:=st.c.nl + 1};have hfl:=zhd ks {st.c with nl:=st.c.nl + 1} hpl;have hle:=zeb ks {st.c with nl:=st.c.nl + 1};obtain⟨L,h⟩:=h;obtain⟨ρ1,l1,⟨h1,h3⟩⟩:=zbb ks {st.c with nl:=st.c.nl + 1} h;generalize freshL {st.c with nl:=st.c.nl + 1} ks=fr at *;have hflat:svFlat (resV (shapeV ss fr))=true:=zrf (zmc _ _ hfl);have hwf:(resV (shapeV ss fr)).wf (freshLC {st.c with nl:=st.c.nl + 1} ks)=true:=ztj (zke _ _ _ hfw);obtain⟨h4,h5⟩:=zj h3;have hcc:=(zfa {st with o:=setO st.o k [.var st.c.nl]} o.dst (resV (shapeV ss fr)) (freshLC {st.c with nl:=st.c.nl + 1} ks)).1;have l0:Env.like st.c ρ ρ1:=Env.like_trans hle1 (zia st.c ρ L) l1;refine⟨_,ρ1,resV (shapeV ss fr),[k],h4,by rw [hcc];exact Ctr.le_trans hle1 hle,l0,fun ρ'' hl => ?_⟩;rw [hcc]at hl;have hwrs:writesOf st o=ptrsOf all:=by simp only [writesOf,ho,hg,hall]
      have eL:∀ βx,ceDen ρ'' βx [.var st.c.nl]=L.map (·.1):=fun βx=>by
       simp only [ceDen,Sg.den,List.append_nil];rw [hl.l st.c.nl (Nat.lt_of_lt_of_le (Nat.lt_succ_self _) hle.l),l1.l st.c.nl (Nat.lt_succ_self _)];exact congrArg (List.map fun y:OV=>y.1) (if_pos rfl)
      refine zhw wf (Ctr.le_trans hle1 hle) hm (by rw [hwrs];exact zoo hj) ?_ rfl (fun β a w hB hops hr next Q' hn => ?_) h5
      ·have:st.c.nl < (freshLC {st.c with nl:=st.c.nl + 1} ks).nl:=Nat.lt_of_lt_of_le (Nat.lt_succ_self _) hle.l
       simp [ceWf,Sg.wf,this]
      ·have l3:Env.like st.c ρ ρ'':=Env.like_trans (Ctr.le_trans hle1 hle) l0 hl
       have hany:∀ x∈all,x ≠ .any:=by
        intro x hx he;subst he;exact ha1 (List.any_eq_true.2 ⟨_,hx,rfl⟩)
       have hargs:all.map (SV.den ρ'' β)=all.map (SV.den ρ β) :=
        List.map_congr_left fun x hx=>SV.den_like l3 (fun _ _=>rfl) (List.all_eq_true.1 ha2 x hx)
       have eg:=hops g (by rw [ho];simp [Op.operands,Call.operands]) (by rw [hg];simp);rw [hg]at eg;have eg':a.eval g=.func (.func f) #[] (caps.map fun c=>.pointer (some ⟨β c.1,c.2,none⟩)).toArray:=eg
       have ea:(args.map a.eval).toList=(args.toList.map st.ev).map (SV.den ρ'' β):=by
        rw [Array.toList_map];exact zca _ fun x hx=>hops x (by rw [ho];simp only [Op.operands,Call.operands];exact Array.mem_append.2 (.inr (Array.mem_toList_iff.1 hx))) (hany _ (by rw [hall];exact List.mem_append.2 (.inl (List.mem_map.2 ⟨x,hx,rfl⟩))))
       have ec:(#[]:Array Value)++args.map a.eval++(caps.map fun c=>(.pointer (some ⟨β c.1,c.2,none⟩):Value)).toArray=(all.map (SV.den ρ'' β)).toArray:=by
        apply Array.ext';rw [Array.toList_append,Array.toList_append,ea,hall];simp [SV.den,CV.den,At.den,Function.comp_def]
       have hx:(execOp a.eval o).run G.P w=(callFunc f (all.map (SV.den ρ'' β)).toArray).run G.P w:=by
        simp only [execOp,ho,resolve,eg',Deferred.ofValue,Sem.run_bind,Sem.run_pure,Result.andThen_ok,invoke];rw [← ec]
       have hrd:RdOk W st.m st.o (blksOf (deepSV st.m st.o all)) ρ'' β w:=fun q hq=>hr q (List.mem_append.2 (.inl (by simp only [readsOf,ho,hg];rw [← hall];exact hq)));unfold Oper.wp;rw [hx,hG.calls f hc _ w,Oper.upon_enter];rw [hargs];have e0:ρ.setL st.c.nl L=ρ.setL st.c.nl L:=rfl;refine (h1 β w hB ?_).mono fun e w' he => ?_
       ·exact zkb wf.ap l3 (fun q cs t hq=>(wf.m q cs t hq).2) (fun q ce sz t hq=>(wf.o q ce sz t hq).2) _ hrd
       ·obtain⟨rfl,hb1,hb2,hb3⟩:=he;refine hn _ w' ?_ hb1 hb2 (by rw [eL];exact hb3);rw [SV.den_flat ρ'' β b0 hflat,SV.den_like hl (β:=b0) (fun _ _=>rfl) hwf]
     ·exact h.elim
   ·exact h.elim
  ·exact h.elim
theorem zzl{G:Cfg}(hG:G.Ok){st:St}{o:Oper}{K:St→Env→Prop}{ρ:Env}(wf:st.WF)(hkn:KnL.den st.k ρ)(h:opm (PA G.P W Q QM QP) G st o K ρ):Rsv G.P W st o K ρ:=by
 unfold opm at h;generalize he:effOf G st o=u at h;split at h
 ·rename_i f args jo;unfold effOf at he;split at he
  ·rename_i g xs ats heq;split at he
   ·rename_i f' caps hg;split at he
    ·split at he
     ·simp only [Option.some.injEq,Prod.mk.injEq]at he;obtain⟨rfl,rfl,rfl⟩:=he;exact zes hG wf hkn heq hg rfl h
     ·cases he
    ·cases he
   ·cases he
  ·cases he
 ·clear he;generalize he:effROf G st o=u at h;split at h
  ·rename_i f args j;unfold effROf at he;split at he
   ·rename_i g xs ats heq;split at he
    ·rename_i f' caps hg;split at he
     ·split at he
      ·simp only [Option.some.injEq,Prod.mk.injEq]at he;obtain⟨rfl,rfl,rfl⟩:=he;exact zeq hG wf hkn heq hg rfl h
      ·cases he
     ·cases he
    ·cases he
   ·cases he
  ·exact zcq hG wf hkn h
end Vc
set_option linter.unusedVariables false
namespace Vc
open Go Go.RowKit
variable {P:Program} {W:Wld} {Q:Value→Prop} {QM QP:World→Value→Prop}
theorem zwd(a:Addr)(w:World):(loadCells a 0).run P w=.ok #[] w:=by
 have:=run_loadCells_list (P:=P) w a [] (fun j v hj=>by simp at hj)
 simpa using this
theorem zam(w:World){t ty el:TypeId}{i:TypeInfo}(ht:P.underlying t=some (.slice el))(hi:P.info? el=some i)(base:Option Addr)(n c:Nat)(hc:n≤c)(x:Value)(hx:x=.slice none 0 0∨∃ a k,x=.slice (some a) 0 k) :
  (Builtin.append_ #[t,t] ty #[.slice base n c,x]).run P w=.ok (.slice base n c) w:=by
 rcases hx with rfl | ⟨a,k,rfl⟩
 ·cases base with
  | none=>simp [Builtin.append_,run_underlying ht,typeInfo,hi,Go.sizeOf,Builtin.lenOf,Builtin.firstCells,hc]
  | some b=>simp [Builtin.append_,run_underlying ht,typeInfo,hi,Go.sizeOf,Builtin.lenOf,Builtin.firstCells,hc,storeCells]
 ·cases base with
  | none=>simp [Builtin.append_,run_underlying ht,typeInfo,hi,Go.sizeOf,Builtin.lenOf,Builtin.firstCells,hc,zwd]
  | some b=>simp [Builtin.append_,run_underlying ht,typeInfo,hi,Go.sizeOf,Builtin.lenOf,Builtin.firstCells,hc,zwd,storeCells]
theorem zit{α:Type}(a b c:List α)(k:Nat)(h:(a++b).length=k):(a++b++c).take k=a++b:=by
 rw [← h,List.take_left]
theorem zcv(w:World){lo:Nat→Prop}{b code n base:Nat}{xs:List Value}{sz:Nat}{t ty el:TypeId}{i:TypeInfo}{z:Value}(ht:P.underlying t=some (.slice el))(hi:P.info? el=some i)(hz:i.zero=some z)(hsz:i.size=sz)(hzs:z.cells.size=sz)
    (h:RowOld lo b code n base xs sz el w) (x:Value) (m:Nat) (news:List Value) (hx:(x=.slice none 0 0∧m=0)∨∃ a c,x=.slice (some a) m c∧∀ j u,news[j]? = some u→w.cell? (a.add j)=some u) (hl:news.length=m * sz)
    (h1:∀ u∈news,u.oneCell'=true) (h63:n + m≤maxLen) (hby:(n + m) * i.bytes≤140737488355328) (hlo:lo w.heap.size) :
    ∃ b' code' base' w',(Builtin.append_ #[t,t] ty #[ownV b code n base,x]).run P w=.ok (ownV b' code' (n + m) base') w'∧RowOld lo b' code' (n + m) base' (xs++news) sz el w' ∧
      (w'.os=w.os∧w'.tape=w.tape∧w'.output=w.output∧w.heap.size≤w'.heap.size)∧(∀ k,k < w.heap.size→(2≤code→k≠b)→w'.heap[k]? = w.heap[k]?)∧(2≤code'→w.heap.size≤b'∨(2≤code∧b'=b)):=by
  subst hsz;obtain⟨r1,r2,r3⟩:=h;have hml:(9223372036854775807:Nat)=maxLen:=by simp [maxLen]
  have hcap:n≤code - 1∧(code≤1→n=0):=by
    rcases r3 with ⟨_,h0⟩ | ⟨h2,_,_,h3,_⟩
    · exact⟨by omega,fun _=>h0⟩
    · exact⟨h3,fun _=>by omega⟩
  by_cases hm:m=0
  · subst hm;have hn:news=[]:=List.eq_nil_of_length_eq_zero (by simpa using hl);subst hn
    have hx':x=.slice none 0 0∨∃ a k,x=.slice (some a) 0 k:=by
      rcases hx with ⟨h,_⟩ | ⟨a,c,h,_⟩
      · exact .inl h
      · exact .inr ⟨a,c,h⟩
    refine⟨b,code,base,w, ?_,⟨by simpa using r1,r2,by simpa using r3⟩,⟨rfl,rfl,rfl,Nat.le_refl _⟩,fun _ _ _=>rfl,fun h=>.inr ⟨h,rfl⟩⟩;unfold ownV;by_cases h0:code=0
    · have hn0:=hcap.2 (by omega);subst hn0;simp only [h0,if_true,Nat.add_zero];exact zam w ht hi none 0 0 (Nat.le_refl _) x hx'
    · simp only [h0,if_false,Nat.add_zero];exact zam w ht hi _ n (code - 1) hcap.1 x hx'
  · obtain⟨a,c,rfl,hcell⟩:∃ a c,x=.slice (some a) m c∧∀ j u,news[j]? = some u→w.cell? (a.add j)=some u:=by
      rcases hx with ⟨_,h⟩ | h
      · exact (hm h).elim
      · exact h
    have hsmall:((n + m:Nat):Int)≤9223372036854775807:=by omega
    have hlen:(xs++news).length=(n + m) * i.size:=by rw [List.length_append,r1,hl,Nat.add_mul]
    have fresh:∀ old,old < n + m→RowOld lo w.heap.size (grownCap w (n + m) old el + 1) (n + m) 0 (xs++news) i.size el
        (w.drew.alloc (.cells (xs.toArray++news.toArray++Builtin.zeroCells z.cells (grownCap w (n + m) old el - (n + m))) el)):=by
      intro old ho;have hge:=grownCap_ge w (n + m) old el;have hcm:=grownCap_le_maxLen w (n + m) old el h63;refine⟨hlen,r2,.inr ⟨by omega,rfl,hlo,by omega,by simpa using hcm,_,heap_alloc_new w.drew _, ?_, ?_⟩⟩
      · simp only [Array.size_append,List.size_toArray,size_zeroCells,hzs,r1,hl,← Nat.add_mul,Nat.add_sub_cancel];congr 1;omega
      · simp only [Array.toList_append];exact zit xs news _ _ hlen
    have grow:∀ (s:Value) (old:Nat),old < n + m→(∀ w0:World,w0=w→(Builtin.append_ #[t,t] ty #[s,.slice (some a) m c]).run P w =
        .ok (.slice (some ⟨w.heap.size,0,none⟩) (n + m) (grownCap w (n + m) old el)) (w.drew.alloc (.cells (xs.toArray++news.toArray++Builtin.zeroCells z.cells (grownCap w (n + m) old el - (n + m))) el))) →
        ∃ b' code' base' w',(Builtin.append_ #[t,t] ty #[s,.slice (some a) m c]).run P w=.ok (ownV b' code' (n + m) base') w'∧RowOld lo b' code' (n + m) base' (xs++news) i.size el w' ∧
          (w'.os=w.os∧w'.tape=w.tape∧w'.output=w.output∧w.heap.size≤w'.heap.size)∧(∀ k,k < w.heap.size→(2≤code→k≠b)→w'.heap[k]? = w.heap[k]?)∧(2≤code'→w.heap.size≤b'∨(2≤code∧b'=b)):=by
      intro s old ho hrun;refine⟨w.heap.size,grownCap w (n + m) old el + 1,0,_, ?_,fresh old ho,⟨rfl,rfl,rfl,by simp⟩,fun k hk _=>Below.heap_alloc w.drew _ k hk,fun _=>.inl (Nat.le_refl _)⟩;rw [hrun w rfl];simp [ownV]
    by_cases h0:code=0
    · have hn0:=hcap.2 (by omega);subst hn0;have hxs:xs=[]:=List.eq_nil_of_length_eq_zero (by simpa using r1);subst hxs;have hv:ownV b code 0 base=.slice none 0 0:=by simp [ownV,h0]
      rw [hv];refine grow _ 0 (by omega) fun w0 _ => ?_
      have:=run_append_nil (P:=P) w t ty el i z ht hi hz a m c news hl hcell (by omega) (by simpa using hsmall) (by simp at hby;omega)
      simpa using this
    · by_cases h1c:code=1
      · have hn0:=hcap.2 (by omega);subst hn0;have hxs:xs=[]:=List.eq_nil_of_length_eq_zero (by simpa using r1);subst hxs;have hv:ownV b code 0 base=.slice (some ⟨b,base,none⟩) 0 0:=by simp [ownV,h1c]
        rw [hv];refine grow _ 0 (by omega) fun w0 _ => ?_;exact run_append_grow (P:=P) w t ty el i z ht hi hz ⟨b,base,none⟩ 0 0 [] (by simp) (fun j v hj=>by simp at hj) a m c news hl hcell (by omega) hsmall (growslice_fits (by omega) hby)
      · obtain⟨q1,q2,q3,q4,q5,cur,q6,q7,q8⟩:2≤code∧base=0∧lo b∧n≤code - 1∧code - 1≤maxLen∧∃ cur,w.heap[b]? = some (.cells cur el (0,0))∧cur.size=(code - 1) * i.size∧cur.toList.take (n * i.size)=xs:=by
          rcases r3 with ⟨h,_⟩ | h
          · omega
          · exact h
        have hv:ownV b code n base=.slice (some ⟨b,0,none⟩) n (code - 1):=by simp [ownV,h0,q2]
        rw [hv];by_cases hroom:n + m≤code - 1
        · have hfit:n * i.size + news.length≤cur.size:=by
            rw [hl,q7,← Nat.add_mul];exact Nat.mul_le_mul_right _ hroom
          have:=run_append_room (P:=P) w t ty el i ht hi b n (code - 1) cur q6 a m c news hl hcell h1 hroom hfit
          refine⟨b,code,0,w.setRow b (cur.toList.take (n * i.size)++news++cur.toList.drop (n * i.size + news.length)).toArray, ?_,⟨hlen,r2,.inr ⟨q1,rfl,q3,hroom,q5,_,setRow_heap w b _ _ _ _ q6, ?_, ?_⟩⟩,⟨rfl,rfl,rfl,by rw [setRow_size];exact Nat.le_refl _⟩,fun k hk hne=>zee _ _ _ _ (hne q1),fun _=>.inr ⟨q1,rfl⟩⟩
          · rw [this];simp [ownV,h0]
          · simp only [List.size_toArray,List.length_append,List.length_take,List.length_drop,Array.length_toList];omega
          · rw [q8];exact zit xs news _ _ hlen
        · refine grow _ (code - 1) (by omega) fun w0 _ => ?_
          have holds:∀ j v,xs[j]? = some v→w.cell? ((⟨b,0,none⟩:Addr).add j)=some v:=by
            intro j v hj;rw [zob,Nat.zero_add,zma q6];rw [← q8,List.getElem?_take]at hj;split at hj
            · simpa using hj
            · cases hj
          exact run_append_grow (P:=P) w t ty el i z ht hi hz ⟨b,0,none⟩ n (code - 1) xs r1 holds a m c news hl hcell (by omega) hsmall (growslice_fits (by omega) hby)
end Vc
