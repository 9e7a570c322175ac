import Derived.Test.YtnjpiipdgapakaaGreatDoorVcJ
import Derived.Laws.AppendOwn
import Derived.Laws.OwnMore
import Derived.Laws.MakeOwn
set_option linter.unusedVariables false
set_option linter.unusedSimpArgs false
namespace Vc
open Go Go.RowKit
variable {P:Program} {W:dN} {Q:Value->Prop} {QM QP:World->Value->Prop}
def St.bM(st:St)(dst:Option Tmp)(v:SV)(c:an):St :=
 match dst with
 |none => {st with c:=c}
 |some d => {st with t:=(d,v)::st.t,c:=c}
def iw(st:St)(dst:Option Tmp)(v:SV)(c:an):Prop:=∀d,dst=some d->d<st.n/\v.wf c=true
theorem zf{st:St}{dst:Option Tmp}{v:SV}{c:an}{K:St->Env->Prop}{J:Env}(h:St.put (PA P W Q QM QP) st dst v c K J):K (st.bM dst v c) J/\iw st dst v c:=by
  unfold St.put at h;cases dst with
  |none=>exact⟨h,λd hd=>by cases hd⟩
  |some d =>
    simp only at h;cases hb:Nat.blt d st.n with
    |false=>rw [hb]at h;exact h.elim
    |true =>
      rw [hb]at h;cases hw:v.wf c with
      |false=>simp only [hw]at h;exact h.elim
      |true =>
        simp only [hw,RF]at h;exact⟨h,λd' he=>by cases he;exact⟨Nat.le_of_ble_eq_true hb,hw⟩⟩
theorem zu(st:St)(dst:Option Tmp)(v:SV)(c:an):(st.bM dst v c).c=c/\(st.bM dst v c).m=st.m/\(st.bM dst v c).n=st.n/\(st.bM dst v c).o=st.o/\(st.bM dst v c).r=st.r/\(st.bM dst v c).d=st.d:=by
 unfold St.bM;split<;>exact⟨rfl,rfl,rfl,rfl,rfl,rfl⟩
theorem zk(st:St)(dst:Option Tmp)(v:SV)(c:an):(st.bM dst v c).k=st.k/\(st.bM dst v c).df=st.df:=by
 unfold St.bM;split<;>exact⟨rfl,rfl⟩
theorem zl(st:St)(dst:Option Tmp)(v:SV)(c:an)(t:Nat):aq (st.bM dst v c).t t=if dst=some t then v else aq st.t t:=by
 unfold St.bM;cases dst with
 |none=>simp
 |some d=>simp only [zi,Option.some.injEq]
theorem CT{st:St}{dst:Option Tmp}{v:SV}{c:an}(hw:st.WF)(hle:st.c.le c)(hp:iw st dst v c):(st.bM dst v c).WF:=by
 obtain⟨q1,q2,q3,q4,q5,q6⟩:=zu st dst v c;have g:=hw.grow hle;refine⟨λi => ?_,by rw [q2,q1];exact g.m,by rw [q4,q1];exact g.o,by rw [q2,q4];exact hw.ap,by rw [q5,q1];exact g.r,by rw [q6,q1];exact g.d,by rw [(zk _ _ _ _).1,q1];exact g.k,by rw [(zk _ _ _ _).2,q1];exact g.df⟩;rw [zl,q1];by_cases hd:dst=some i
 ·rw [if_pos hd];exact (hp i hd).2
 ·rw [if_neg hd];exact g.t i
theorem St.WF.beyond{st:St}(h:st.WF){k:Nat}(hk:st.c.nk<=k):aC st.m st.o k=none:=by
 cases hg:aC st.m st.o k with
 |none=>rfl
 |some e=>have:=Bm (h.dR hg);omega
def oI(P:Program)(W:dN)(st:St)(o:Oper)(K:St->Env->Prop)(J:Env):Prop :=
 ∃s' aa sv C,K s' aa/\st.c.le s'.c/\Env.au st.c J aa/\∀I,Env.au s'.c aa I->gS P W st o I s' sv C
theorem Ii{s1 s':St}{J:Env}{β:Nat->Nat}{w w':World}(h:s1.WF)(hm:aC s'.m s'.o=aC s1.m s1.o)(hb:Below w.heap.size w w'):xJ W s1 s' J [] β β w w' where
 os:=hb.os
 tape:=hb.tape
 output:=hb.output
 size:=hb.size
 frame b hl _:=hb.block b hl
 off _ _:=rfl
 new k e' hk hg:=by
  rcases hk with hk|hk
  ·cases hk
  ·rw [hm,h.beyond hk]at hg;cases hg
 inj k k' e e' _ hk gJ hg eF _ _:=by
  rcases hk with hk|hk
  ·cases hk
  ·rw [hm,h.beyond hk]at hg;cases hg
theorem Ij{st:St}{o:Oper}{sv:SV}{c:an}{J:Env}(wf:st.WF)(h1:bx P W st o sv J)(h2:st.c.le c)(h4:iw st o.dst sv c):gS P W st o J (st.bM o.dst sv c) sv []:=by
 obtain⟨q1,q2,q3,q4,q5,q6⟩:=zu st o.dst sv c;have hm:aC (st.bM o.dst sv c).m (st.bM o.dst sv c).o=aC st.m st.o:=by rw [q2,q4]
 refine⟨λhk=>by rw [(zk _ _ _ _).1];exact hk,(zk _ _ _ _).2,q3,q5,q6,by rw [q1];exact h2,CT wf h2 h4,λt=>zl st o.dst sv c t,λd hd=>(h4 d hd).1,λk hk=>(by cases hk),λk _ _=>(by rw [hm]),λk e' hk hg => ?_,λβ a w hB ho hr _ next Q' hn => ?_⟩
 ·rcases hk with hk|hk
  ·cases hk
  ·rw [hm,wf.beyond hk]at hg;cases hg
 ·exact h1 β a w hB ho (λk hk e hg=>hr k (List.mem_append.2 (.inl hk)) e hg) next Q' λv w' hv hb=>hn β v w' hv (Ii wf hm hb)
theorem Ik{st:St}{o:Oper}{sv:SV}{c:an}{J:Env}{kn:bK}(wf:st.WF)(h1:bx P W st o sv J)(h2:st.c.le c)(h4:iw {st with k:=kn} o.dst sv c)(hw:bK.wf kn c)(hk:bK.den st.k J->bK.den kn J):gS P W st o J (({st with k:=kn}:St).bM o.dst sv c) sv []:=by
 obtain⟨q1,q2,q3,q4,q5,q6⟩:=zu {st with k:=kn} o.dst sv c;have hm:aC (({st with k:=kn}:St).bM o.dst sv c).m (({st with k:=kn}:St).bM o.dst sv c).o=aC st.m st.o:=by rw [q2,q4]
 have g:=wf.grow h2;refine⟨λh=>by rw [(zk _ _ _ _).1];exact hk h,(zk _ _ _ _).2,q3,q5,q6,by rw [q1];exact h2,⟨λi => ?_,by rw [q2,q1];exact g.m,by rw [q4,q1];exact g.o,by rw [q2,q4];exact wf.ap,by rw [q5,q1];exact g.r,by rw [q6,q1];exact g.d,by rw [(zk _ _ _ _).1,q1];exact hw,by rw [(zk _ _ _ _).2,q1];exact g.df⟩,λt=>zl _ o.dst sv c t,λd hd=>(h4 d hd).1,λk hk=>(by cases hk),λk _ _=>(by rw [hm]),λk e' hk hg => ?_,λβ a w hB ho hr _ next Q' hn => ?_⟩
 ·rw [zl,q1];by_cases hd:o.dst=some i
  ·rw [if_pos hd];exact (h4 i hd).2
  ·rw [if_neg hd];exact g.t i
 ·rcases hk with hk|hk
  ·cases hk
  ·rw [hm,wf.beyond hk]at hg;cases hg
 ·exact h1 β a w hB ho (λk hk e hg=>hr k (List.mem_append.2 (.inl hk)) e hg) next Q' λv w' hv hb=>hn β v w' hv (Ii wf hm hb)
theorem Il{m:Mem}{o:aY}{nk:Nat}{cs:List At}{t:TypeId}(k:Nat):aC ((nk,cs,t)::m) o k=if nk=k then some (.fix cs t)else aC m o k:=by
 unfold aC;rw [xI];by_cases h:nk=k
 ·rw [if_pos h,if_pos h]
 ·rw [if_neg h,if_neg h]
theorem Im{st:St}{o:Oper}{cs:List At}{t:TypeId}{v:At}{vd:Nat->Value}{J:Env}(wf:st.WF)(h1:cs.all (At.wf st.c)=true)(jk:∀x∈aE cs,x∈cN st o)(h2:∀β:Nat->Nat,v.den J β=vd (β st.c.nk))
  (h3:∀(β:Nat->Nat) (a:Act) (w:World),dt st o J β a->(execOp a.eval o).run P w=.ok (.value (vd w.heap.size)) (w.alloc (.cells (cs.map (At.den J β)).toArray t)))
  (h4:iw {st with m:=(st.c.nk,cs,t)::st.m} o.dst (.cv (.one v)) {st.c with nk:=st.c.nk+1}) :
  gS P W st o J ({st with m:=(st.c.nk,cs,t)::st.m}.bM o.dst (.cv (.one v)) {st.c with nk:=st.c.nk+1}) (.cv (.one v)) []:=by
 obtain⟨q1,q2,q3,q4,q5,q6⟩:=zu {st with m:=(st.c.nk,cs,t)::st.m} o.dst (.cv (.one v)) {st.c with nk:=st.c.nk+1};have hle:=an.jz st.c 1
 have hm:∀k,aC ({st with m:=(st.c.nk,cs,t)::st.m}.bM o.dst (.cv (.one v)) {st.c with nk:=st.c.nk+1}).m ({st with m:=(st.c.nk,cs,t)::st.m}.bM o.dst (.cv (.one v)) {st.c with nk:=st.c.nk+1}).o k=if st.c.nk=k then some (.fix cs t)else aC st.m st.o k:=λk=>by
  rw [q2,q4];exact Il k
 have W4:({st with m:=(st.c.nk,cs,t)::st.m}:St).WF∨True := .inr trivial;refine⟨λhk=>by rw [(zk _ _ _ _).1];exact hk,(zk _ _ _ _).2,q3,q5,q6,by rw [q1];exact hle, ?_,λt'=>zl _ o.dst _ _ t',λd hd=>(h4 d hd).1,λk hk=>(by cases hk),λk hk _=>(by rw [hm,if_neg (by omega)]),λk e' hk hg x hx => ?_,λβ a w hB ho hr _ next Q' hn => ?_⟩
 ·have g:=wf.grow hle;refine⟨λi => ?_,λk fH t' hg => ?_,by rw [q4,q1];exact g.o,λk x hk => ?_,by rw [q5,q1];exact g.r,by rw [q6,q1];exact g.d,by rw [(zk _ _ _ _).1,q1];exact g.k,by rw [(zk _ _ _ _).2,q1];exact g.df⟩
  ·rw [zl,q1];by_cases hd:o.dst=some i
   ·rw [if_pos hd];exact (h4 i hd).2
   ·rw [if_neg hd];exact g.t i
  ·rw [q2,xI]at hg;rw [q1];by_cases hk:st.c.nk=k
   ·rw [if_pos hk]at hg;cases hg;exact⟨by simp [<-hk],yE hle h1⟩
   ·rw [if_neg hk]at hg;exact g.m k fH t' hg
  ·rw [q4]at hk;rw [q2,xI]
   have:=(wf.o k x.1 x.2.1 x.2.2 hk).1
   rw [if_neg (by omega)];exact wf.ap k x hk
 ·rcases hk with hk|hk
  ·cases hk
  ·rw [hm]at hg;by_cases ct:st.c.nk=k
   ·rw [if_pos ct]at hg;cases hg;exact .inl (jk x hx)
   ·rw [if_neg ct,wf.beyond hk]at hg;cases hg
 ·unfold Oper.wp;rw [h3 β a w ho,Oper.upon_value];have Io:∀k,k<st.c.nk->(λk=>if k=st.c.nk then w.heap.size else β k) k=β k:=λk hk=>if_neg (Nat.ne_of_lt hk);refine hn (λk=>if k=st.c.nk then w.heap.size else β k) _ _ (λ_ => ?_) ⟨rfl,rfl,rfl,by simp,λb hb _ => ?_,λk hk => ?_,λk e' hk hg => ?_,λk k' e e' _ hk gJ hg eF _ _ => ?_⟩
  ·show _=v.den J _;rw [h2];simp only [if_true]
  ·exact Below.heap_alloc _ _ _ hb
  ·rw [q1]at hk;exact if_neg (by intro he;subst he;simp at hk)
  ·rcases hk with hk|hk
   ·cases hk
   ·rw [hm]at hg;by_cases ct:st.c.nk=k
    ·rw [if_pos ct]at hg;cases hg;subst ct;refine⟨⟨?_, ?_⟩,λb hb=>.inl ?_⟩
     ·simp only [if_true];exact dT.mk (.inr hB.size)
     ·simp only [if_true];rw [vP (Env.ah _ J) Io h1];show (w.heap.push _)[w.heap.size]? = _;simp
     ·simp only [bu,if_true,Option.some.injEq]at hb;omega
    ·rw [if_neg ct,wf.beyond hk]at hg;cases hg
  ·have one:∀{k e},(k∈([]:List Nat)∨st.c.nk<=k)->aC ({st with m:=(st.c.nk,cs,t)::st.m}.bM o.dst (.cv (.one v)) {st.c with nk:=st.c.nk+1}).m ({st with m:=(st.c.nk,cs,t)::st.m}.bM o.dst (.cv (.one v)) {st.c with nk:=st.c.nk+1}).o k=some e->k=st.c.nk:=by
    intro k e hk hg;rcases hk with hk|hk
    ·cases hk
    ·rw [hm]at hg;by_cases ct:st.c.nk=k
     ·exact ct.symm
     ·rw [if_neg ct,wf.beyond hk]at hg;cases hg
   rw [one hk hg,one gJ eF]
theorem Ip{m:Mem}{o:aY}{k0:Nat}{cs fH:List At}{t:TypeId}(h:getM m k0=some (cs,t))(k:Nat):aC (iE m k0 fH) o k=if k0=k then some (.fix fH t)else aC m o k:=by
 unfold aC;rw [sq];by_cases hk:k0=k
 ·subst hk;rw [if_pos rfl,if_pos rfl,h];rfl
 ·rw [if_neg hk,if_neg hk]
theorem Iq{st:St}{o:Oper}{J:Env}{k0:Nat}{cs fH:List At}{t:TypeId}(wf:st.WF)(eK:getM st.m k0=some (cs,t))(jT:k0∈aL st o)(h3:fH.all (At.wf st.c)=true)(jk:∀x∈aE fH,x∈cN st o∨x∈aE cs)
  (h4:∀(β:Nat->Nat) (a:Act) (w:World),dt st o J β a->w.heap[β k0]? = some (.cells (cs.map (At.den J β)).toArray t)->(execOp a.eval o).run P w=.ok .skip (w.setRow (β k0) (fH.map (At.den J β)).toArray))
  (h5:iw {st with m:=iE st.m k0 fH} o.dst .any st.c):gS P W st o J ({st with m:=iE st.m k0 fH}.bM o.dst .any st.c) .any [k0]:=by
 obtain⟨q1,q2,q3,q4,q5,q6⟩:=zu {st with m:=iE st.m k0 fH} o.dst .any st.c
 have hm:∀k,aC ({st with m:=iE st.m k0 fH}.bM o.dst .any st.c).m ({st with m:=iE st.m k0 fH}.bM o.dst .any st.c).o k=if k0=k then some (.fix fH t)else aC st.m st.o k:=λk=>by
  rw [q2,q4];exact Ip eK k
 have nB:=(wf.m k0 cs t eK).1;refine⟨λhk=>by rw [(zk _ _ _ _).1];exact hk,(zk _ _ _ _).2,q3,q5,q6,by rw [q1];exact an.le_refl _, ?_,λt'=>zl _ o.dst _ _ t',λd hd=>(h5 d hd).1,λk hk => ?_,λk _ hk => ?_,λk e' hk hg x hx => ?_,λβ a w hB ho hr _ next Q' hn => ?_⟩
 ·refine⟨λi => ?_,λk Ir t2 hg => ?_,by rw [q4,q1];exact wf.o,λk x hk => ?_,by rw [q5,q1];exact wf.r,by rw [q6,q1];exact wf.d,by rw [(zk _ _ _ _).1,q1];exact wf.k,by rw [(zk _ _ _ _).2,q1];exact wf.df⟩
  ·rw [zl,q1];by_cases hd:o.dst=some i
   ·rw [if_pos hd];rfl
   ·rw [if_neg hd];exact wf.t i
  ·rw [q2,sq]at hg;rw [q1];by_cases hk:k0=k
   ·subst hk;rw [if_pos rfl,eK]at hg;simp only [Option.map_some,Option.some.injEq,Prod.mk.injEq]at hg;obtain⟨rfl,rfl⟩:=hg;exact⟨nB,h3⟩
   ·rw [if_neg hk]at hg;exact wf.m k Ir t2 hg
  ·rw [q4]at hk;rw [q2,sq]
   have:=wf.ap k x hk
   by_cases ct:k0=k
   ·subst ct;rw [if_pos rfl,this];rfl
   ·rw [if_neg ct];exact this
 ·simp only [List.mem_singleton]at hk;subst hk;exact⟨jT,nB⟩
 ·rw [hm,if_neg (λe=>hk (by simp [e]))]
 ·rw [hm]at hg;by_cases ct:k0=k
  ·rw [if_pos ct]at hg;cases hg;rcases jk x hx with h|h
   ·exact .inl h
   ·exact .inr ⟨k0,_,List.mem_append.2 (.inr jT),nA eK,h⟩
  ·rw [if_neg ct]at hg;rcases hk with hk|hk
   ·simp only [List.mem_singleton]at hk;exact (ct hk.symm).elim
   ·rw [wf.beyond hk]at hg;cases hg
 ·obtain⟨m1,m2⟩:=hr k0 (List.mem_append.2 (.inr jT)) _ (nA eK);unfold Oper.wp;rw [h4 β a w ho m2,Oper.upon_skip];refine hn β _ _ (λh=>(h rfl).elim) ⟨rfl,rfl,rfl,by rw [setRow_size];exact Nat.le_refl _,λb hb pj => ?_,λ_ _=>rfl,λk e' hk hg => ?_,λk k' e e' _ hk gJ hg eF _ _ => ?_⟩
  ·exact H_ _ _ _ _ λhe=>pj k0 _ (by simp) (nA eK) (by simp [bu,he])
  ·rw [hm]at hg;by_cases ct:k0=k
   ·rw [if_pos ct]at hg;cases hg;subst ct;refine⟨⟨m1,setRow_heap w _ _ _ _ _ m2⟩,λb hb=>.inr ⟨k0,_,by simp,nA eK, ?_,.inl rfl⟩⟩;simpa [bu]using hb
   ·rw [if_neg ct]at hg;rcases hk with hk|hk
    ·simp only [List.mem_singleton]at hk;exact (ct hk.symm).elim
    ·rw [wf.beyond hk]at hg;cases hg
  ·have one:∀{k e},(k ∈ [k0]∨st.c.nk<=k)->aC ({st with m:=iE st.m k0 fH}.bM o.dst .any st.c).m ({st with m:=iE st.m k0 fH}.bM o.dst .any st.c).o k=some e->k=k0:=by
    intro k e hk hg;rcases hk with hk|hk
    ·simpa using hk
    ·rw [hm,if_neg (by omega),wf.beyond hk]at hg;cases hg
   rw [one hk hg,one gJ eF]
theorem CU{k:Nat}:∀{ns:List (Nat × List At × TypeId)} {m:Mem},k ∉ ns.map (·.1)->getM (fz m ns) k=getM m k
  | [],m,h=>rfl
  | (j,cs,t)::r,m,h=>by
    simp only [List.map_cons,List.mem_cons,not_or]at h;simp only [fz];rw [CU h.2,sq,if_neg (λe=>h.1 e.symm)]
theorem Is{x:Nat × List At × TypeId}{cs:List At}{t:TypeId}:∀{ns:List (Nat × List At × TypeId)} {m:Mem},(ns.map (·.1)).Nodup->x∈ns->getM m x.1=some (cs,t)->getM (fz m ns) x.1=some (x.2.1,t)
  | [],m,_,h,_=>by cases h
  | (j,fH,t')::r,m,hn,h,hg=>by
    simp only [List.map_cons,List.nodup_cons]at hn;simp only [fz];rcases List.mem_cons.1 h with h|h
    · subst h;rw [CU hn.1,sq,if_pos rfl,hg];rfl
    · refine Is (cs:=cs) hn.2 h ?_;rw [sq,if_neg λe=>hn.1 (List.mem_map.2 ⟨x,h,e.symm⟩)];exact hg
theorem It{st:St}{o:Oper}{J:Env}{ns:List (Nat × List At × TypeId)}{sv:SV}{c:an}(wf:st.WF)(h2:st.c.le c)(rj:(ns.map (·.1)).Nodup)(eK:∀ x∈ns,∃ cs,getM st.m x.1=some (cs,x.2.2)/\∀ y∈aE x.2.1,y∈aE cs)
    (jT:∀x∈ns,x.1∈aL st o) (h3:∀x∈ns,x.2.1.all (At.wf c)=true)
    (h4:∀(β:Nat->Nat) (a:Act) (w:World),cS W w->dt st o J β a->fj W st.m st.o (aP st o++aL st o) J β w->(ns.map λx=>β x.1).Nodup ->
      ∀(next:Act->World->Prop) (Q':Exit->Act->World->Prop),(∀v w',v=sv.den J β->ua (ns.map λx=>β x.1) w w'->(∀x∈ns,w'.heap[β x.1]? = some (.cells (x.2.1.map (At.den J β)).toArray x.2.2))->next (a.put o.dst v) w')->o.wp P a w next Q')
    (h5:iw {st with m:=fz st.m ns} o.dst sv c):gS P W st o J ({st with m:=fz st.m ns}.bM o.dst sv c) sv (ns.map (·.1)):=by
  obtain⟨q1,q2,q3,q4,q5,q6⟩:=zu {st with m:=fz st.m ns} o.dst sv c
  have Ox:∀x∈ns,aC ({st with m:=fz st.m ns}.bM o.dst sv c).m ({st with m:=fz st.m ns}.bM o.dst sv c).o x.1=some (.fix x.2.1 x.2.2):=λx hx=>by
    obtain⟨cs,h,_⟩:=eK x hx;rw [q2,q4];exact nA (Is rj hx h)
  have zA:∀k,k ∉ ns.map (·.1)->aC ({st with m:=fz st.m ns}.bM o.dst sv c).m ({st with m:=fz st.m ns}.bM o.dst sv c).o k=aC st.m st.o k:=λk hk=>by
    rw [q2,q4];unfold aC;rw [CU hk]
  have nB:∀x∈ns,x.1<st.c.nk:=λx hx=>by
    obtain⟨cs,h,_⟩:=eK x hx;exact (wf.m _ _ _ h).1
  have g:=wf.grow h2;refine⟨λhk=>by rw [(zk _ _ _ _).1];exact hk,(zk _ _ _ _).2,q3,q5,q6,by rw [q1];exact h2, ?_,λt'=>zl _ o.dst _ _ t',λd hd=>(h5 d hd).1,λk hk => ?_,λk _ hk=>zA k hk,λk e' hk hg x hx => ?_,λβ a w hB ho hr jR next Q' hn => ?_⟩
  · refine⟨λi => ?_,λk Ir t2 hg => ?_,by rw [q4,q1];exact g.o,λk x hk => ?_,by rw [q5,q1];exact g.r,by rw [q6,q1];exact g.d,by rw [(zk _ _ _ _).1,q1];exact g.k,by rw [(zk _ _ _ _).2,q1];exact g.df⟩
    · rw [zl,q1];by_cases hd:o.dst=some i
      · rw [if_pos hd];exact (h5 i hd).2
      · rw [if_neg hd];exact g.t i
    · rw [q2]at hg;rw [q1];by_cases hk:k∈ns.map (·.1)
      · obtain⟨x,hx,rfl⟩:=List.mem_map.1 hk;obtain⟨cs,h,_⟩:=eK x hx;rw [Is rj hx h]at hg;simp only [Option.some.injEq,Prod.mk.injEq]at hg;obtain⟨rfl,rfl⟩:=hg;exact⟨Nat.lt_of_lt_of_le (nB x hx) h2.k,h3 x hx⟩
      · rw [CU hk]at hg;exact g.m k Ir t2 hg
    · rw [q4]at hk;rw [q2]
      have:=wf.ap k x hk
      by_cases ct:k∈ns.map (·.1)
      · obtain⟨y,hy,rfl⟩:=List.mem_map.1 ct;obtain⟨cs,h,_⟩:=eK y hy;rw [h]at this;cases this
      · rw [CU ct];exact this
  · obtain⟨x,hx,rfl⟩:=List.mem_map.1 hk;exact⟨jT x hx,nB x hx⟩
  · by_cases ct:k∈ns.map (·.1)
    · obtain⟨y,hy,rfl⟩:=List.mem_map.1 ct;rw [Ox y hy]at hg;cases hg;obtain⟨cs,h,hi⟩:=eK y hy;exact .inr ⟨y.1,_,List.mem_append.2 (.inr (jT y hy)),nA h,hi x hx⟩
    · rw [zA k ct]at hg;rcases hk with hk|hk
      · exact (ct hk).elim
      · rw [wf.beyond hk]at hg;cases hg
  · have eB:∀ x∈ns,∃ cs,aC st.m st.o x.1=some (.fix cs x.2.2):=fun x hx=>by
      obtain⟨cs,h,_⟩:=eK x hx;exact⟨cs,nA h⟩
    have Iu:∀{k e},(k∈ns.map (·.1)∨st.c.nk<=k)->aC ({st with m:=fz st.m ns}.bM o.dst sv c).m ({st with m:=fz st.m ns}.bM o.dst sv c).o k=some e->∃x∈ns,x.1=k/\e=.fix x.2.1 x.2.2:=λ{k e} hk hg=>by
      by_cases ct:k∈ns.map (·.1)
      · obtain⟨y,hy,rfl⟩:=List.mem_map.1 ct;rw [Ox y hy]at hg;cases hg;exact⟨y,hy,rfl,rfl⟩
      · rw [zA k ct]at hg;rcases hk with hk|hk
        · exact (ct hk).elim
        · rw [wf.beyond hk]at hg;cases hg
    have nd:(ns.map λx=>β x.1).Nodup:=by
      have key:∀l:List (Nat × List At × TypeId),(∀x∈l,x∈ns)->(l.map (·.1)).Nodup->(l.map λx=>β x.1).Nodup:=by
        intro l
        induction l with
        |nil=>intro _ _;exact List.nodup_nil
        |cons x l ih =>
          intro su hn;simp only [List.map_cons,List.nodup_cons]at hn ⊢;refine⟨λhm => ?_,ih (λy hy=>su y (List.mem_cons_of_mem _ hy)) hn.2⟩;obtain⟨y,hy,he⟩:=List.mem_map.1 hm;obtain⟨cs,h⟩:=eB x (su x (List.mem_cons_self ..));obtain⟨fH,h'⟩:=eB y (su y (List.mem_cons_of_mem _ hy))
          have:=jR x.1 y.1 _ _ (β x.1) (jT x (su x (List.mem_cons_self ..))) (jT y (su y (List.mem_cons_of_mem _ hy))) h h' (by simp [bu]) (by simp [bu,he])
          exact hn.1 (List.mem_map.2 ⟨y,hy,this.symm⟩)
      exact key ns (λx hx=>hx) rj
    refine h4 β a w hB ho hr nd next Q' λv w' hv hx hb=>hn β v w' (λ_=>hv) ⟨hx.os,hx.tape,hx.output,hx.size,λb Oy pj => ?_,λ_ _=>rfl,λk e' hk hg => ?_,λk k' e e' b hk gJ hg eF jX gT => ?_⟩
    · refine hx.block b Oy λhm => ?_;obtain⟨y,hy,he⟩:=List.mem_map.1 hm;obtain⟨cs,h⟩:=eB y hy;exact pj y.1 _ (List.mem_map.2 ⟨y,hy,rfl⟩) h (by simp [bu,he])
    · obtain⟨y,hy,rfl,rfl⟩:=Iu hk hg;obtain⟨cs,h⟩:=eB y hy;refine⟨⟨(hr y.1 (List.mem_append.2 (.inr (jT y hy))) _ h).1,hb y hy⟩,λb jX=>.inr ⟨y.1,_,List.mem_map.2 ⟨y,hy,rfl⟩,h, ?_,.inl rfl⟩⟩;simpa [bu]using jX
    · obtain⟨y,hy,rfl,rfl⟩:=Iu hk hg;obtain⟨y',e_,rfl,rfl⟩:=Iu gJ eF;obtain⟨cs,h⟩:=eB y hy;obtain⟨fH,h'⟩:=eB y' e_;exact jR y.1 y'.1 _ _ b (jT y hy) (jT y' e_) h h' (by simpa [bu]using jX) (by simpa [bu]using gT)
theorem Sn{m:Mem}{o:aY}{k0:Nat}{ce eZ:CE}{sz:Nat}{el:TypeId}(hm:getM m k0=none)(h:aD o k0=some (ce,sz,el))(k:Nat):aC m (dk o k0 eZ) k=if k0=k then some (.row eZ sz el)else aC m o k:=by
 unfold aC;rw [y9];by_cases hk:k0=k
 ·subst hk;rw [if_pos rfl,if_pos rfl,hm,h];rfl
 ·rw [if_neg hk,if_neg hk]
theorem Iv{st:St}{o:Oper}{J:Env}{k0:Nat}{ce eZ:CE}{sz:Nat}{el:TypeId}{sv:SV}{c:an}(wf:st.WF)(hle:st.c.le c)(eK:aD st.o k0=some (ce,sz,el))(jT:k0∈aL st o)(h3:bP c eZ=true)(jk:eZ.flatMap cc=[])
  (h4:∀(β:Nat->Nat) (a:Act) (w:World),cS W w->dt st o J β a->fj W st.m st.o (aP st o++aL st o) J β w ->
   ∀(next:Act->World->Prop) (Q':Exit->Act->World->Prop),(∀v w',v=sv.den J β->(β (k0+1)<=1->Below w.heap.size w w')->(2<=β (k0+1)->bn (β k0) w w')->bF (λ_=>True) (β k0) (β (k0+1)) (β (k0+2)) (β (k0+3)) (ak J β eZ) sz el w'->next (a.put o.dst v) w')->o.wp P a w next Q')
  (h5:iw {st with o:=dk st.o k0 eZ} o.dst sv c):gS P W st o J ({st with o:=dk st.o k0 eZ}.bM o.dst sv c) sv [k0]:=by
 obtain⟨q1,q2,q3,q4,q5,q6⟩:=zu {st with o:=dk st.o k0 eZ} o.dst sv c;have j_:=wf.ap k0 _ eK
 have hm:∀k,aC ({st with o:=dk st.o k0 eZ}.bM o.dst sv c).m ({st with o:=dk st.o k0 eZ}.bM o.dst sv c).o k=if k0=k then some (.row eZ sz el)else aC st.m st.o k:=λk=>by
  rw [q2,q4];exact Sn j_ eK k
 have nB:=(wf.o k0 ce sz el eK).1;have g:=wf.grow hle;refine⟨λhk=>by rw [(zk _ _ _ _).1];exact hk,(zk _ _ _ _).2,q3,q5,q6,by rw [q1];exact hle, ?_,λt'=>zl _ o.dst _ _ t',λd hd=>(h5 d hd).1,λk hk => ?_,λk _ hk => ?_,λk e' hk hg x hx => ?_,λβ a w hB ho hr _ next Q' hn => ?_⟩
 ·refine⟨λi => ?_,by rw [q2,q1];exact g.m,λk Iw Ix t2 hg => ?_,λk x hk => ?_,by rw [q5,q1];exact g.r,by rw [q6,q1];exact g.d,by rw [(zk _ _ _ _).1,q1];exact g.k,by rw [(zk _ _ _ _).2,q1];exact g.df⟩
  ·rw [zl,q1];by_cases hd:o.dst=some i
   ·rw [if_pos hd];exact (h5 i hd).2
   ·rw [if_neg hd];exact g.t i
  ·rw [q4,y9]at hg;rw [q1];by_cases hk:k0=k
   ·subst hk;rw [if_pos rfl,eK]at hg;simp only [Option.map_some,Option.some.injEq,Prod.mk.injEq]at hg;obtain⟨rfl,rfl,rfl⟩:=hg;exact⟨Nat.lt_of_lt_of_le nB hle.k,h3⟩
   ·rw [if_neg hk]at hg;exact g.o k Iw Ix t2 hg
  ·rw [q4,y9]at hk;rw [q2];by_cases ct:k0=k
   ·subst ct;exact j_
   ·rw [if_neg ct]at hk;exact wf.ap k x hk
 ·simp only [List.mem_singleton]at hk;subst hk;exact⟨jT,by omega⟩
 ·rw [hm,if_neg (λe=>hk (by simp [e]))]
 ·rw [hm]at hg;by_cases ct:k0=k
  ·rw [if_pos ct]at hg;cases hg;simp only [dP,jk]at hx;cases hx
  ·rw [if_neg ct]at hg;rcases hk with hk|hk
   ·simp only [List.mem_singleton]at hk;exact (ct hk.symm).elim
   ·rw [wf.beyond hk]at hg;cases hg
 ·have hold:=hr k0 (List.mem_append.2 (.inr jT)) _ (jP j_ eK);simp only [Holds]at hold;refine h4 β a w hB ho hr next Q' λv w' hv gd jc aZ => ?_
  have base:w'.os=w.os/\w'.tape=w.tape/\w'.output=w.output/\w.heap.size<=w'.heap.size/\∀b,b<w.heap.size->(2<=β (k0+1)->b≠β k0)->w'.heap[b]? = w.heap[b]? := by
   by_cases hc:β (k0+1)<=1
   ·have h:=gd hc;exact⟨h.os,h.tape,h.output,h.size,λb hb _=>h.block b hb⟩
   ·have h:=jc (by omega);exact⟨h.os,h.tape,h.output,h.size,λb hb hn=>h.block b hb (hn (by omega))⟩
  obtain⟨r3,r4,r5,r6,r7⟩:=base;refine hn β v w' (λ_=>hv) ⟨r3,r4,r5,r6,λb hb pj=>r7 b hb λh2 he=>pj k0 _ (by simp) (jP j_ eK) (by simp only [bu,h2,if_true,he]),λ_ _=>rfl,λk e' hk hg => ?_,λk k' e e' _ hk gJ hg eF _ _ => ?_⟩
  ·rw [hm]at hg;by_cases ct:k0=k
   ·rw [if_pos ct]at hg;cases hg;subst ct;refine⟨?_,λb hb=>.inr ⟨k0,_,by simp,jP j_ eK,hb,.inl rfl⟩⟩;simp only [Holds];exact aZ.imp λh2 _=>bF.own hold h2
   ·rw [if_neg ct]at hg;rcases hk with hk|hk
    ·simp only [List.mem_singleton]at hk;exact (ct hk.symm).elim
    ·rw [wf.beyond hk]at hg;cases hg
  ·have one:∀{k e},(k ∈ [k0]∨st.c.nk<=k)->aC ({st with o:=dk st.o k0 eZ}.bM o.dst sv c).m ({st with o:=dk st.o k0 eZ}.bM o.dst sv c).o k=some e->k=k0:=by
    intro k e hk hg;rcases hk with hk|hk
    ·simpa using hk
    ·rw [hm,if_neg (by omega),wf.beyond hk]at hg;cases hg
   rw [one hk hg,one gJ eF]
end Vc
set_option linter.unusedVariables false
namespace Vc
open Go Go.RowKit
variable {P:Program} {W:dN} {Q:Value->Prop} {QM QP:World->Value->Prop}
theorem zd:∀(x y:List At),aE (x++y)=aE x++aE y
  | [],_=>rfl
  |a::x,y=>by
    have:=zd x y
    cases a<;>simp [aE,this]
theorem zB{x:Nat}(l:List At)(n:Nat)(h:x∈aE (l.take n)):x∈aE l:=by
 have:=zd (l.take n) (l.drop n)
 rw [List.take_append_drop]at this;rw [this];exact List.mem_append.2 (.inl h)
theorem zC{x:Nat}(l:List At)(n:Nat)(h:x∈aE (l.drop n)):x∈aE l:=by
 have:=zd (l.take n) (l.drop n)
 rw [List.take_append_drop]at this;rw [this];exact List.mem_append.2 (.inr h)
theorem Oz{v:Value}{a:At}(h:At.ofValue v=some a):aE [a]=[]:=by
  unfold At.ofValue at h
  split at h<;>first
    | (cases h;rfl)
    | (split at h
       · cases h;rfl
       · cases h)
    |cases h
theorem OA:∀{l:List Value} {r:List At},ky l=some r->aE r=[]
  | [],r,h=>by simp only [ky,Option.some.injEq]at h;subst h;rfl
  |v::l,r,h=>by
    simp only [ky]at h;split at h
    · rename_i a r' h1 h2;simp only [Option.some.injEq]at h;subst h;rw [show a::r'=[a]++r' from rfl,zd,Oz h1,OA h2];rfl
    · cases h
theorem Iy{t:TypeId}{z:CV}(h:cq P t=some z):aE z.cells=[]:=by
  unfold cq at h;cases hi:P.info? t with
  |none=>simp [hi]at h
  |some i =>
    simp only [hi]at h;cases hz:i.zero with
    |none=>simp [hz]at h
    |some v =>
      simp only [hz]at h;generalize hs:SV.ofValue v=sv at h;cases sv with
      |cv x =>
        simp only [Option.some.injEq]at h;subst h;unfold SV.ofValue at hs;split at hs
        · split at hs
          · rename_i l hl;cases hs;exact OA hl
          · cases hs
        · split at hs
          · rename_i a ha;cases hs;exact Oz ha
          · cases hs
      |_=>simp at h
theorem Iz(l:List At)(h:aE l=[]):∀n,aE (times l n)=[]
 |0=>rfl
 |n+1=>by simp only [times,zd,h,Iz l h n,List.nil_append]
theorem OB{place:Nat->Option (Nat × Nat)}{x:Nat}:∀(parts:List (Nat × SV)) (cells:List At) {cs:List At},cn place cells parts=some cs->x∈aE cs->x∈aE cells∨x∈parts.flatMap λp=>dW p.2
  | [],cells,cs,h,hx=>by simp only [cn,Option.some.injEq]at h;subst h;exact .inl hx
  | (i,.any)::r,_,_,h,_=>by simp [cn]at h
  | (i,.fJ)::r,_,_,h,_=>by simp [cn]at h
  | (i,.kx l)::r,_,_,h,_=>by simp [cn]at h
  | (i,.cv v)::r,cells,cs,h,hx=>by
    simp only [cn]at h;split at h
    · rename_i off size _;split at h
      · rcases OB r _ h hx with h1|h1
        · rw [zd,zd]at h1;rcases List.mem_append.1 h1 with h2|h2
          · rcases List.mem_append.1 h2 with h3|h3
            · exact .inl (zB _ _ h3)
            · exact .inr (List.mem_flatMap.2 ⟨_,List.mem_cons_self,h3⟩)
          · exact .inl (zC _ _ h2)
        · obtain⟨p,hp,IA⟩:=List.mem_flatMap.1 h1;exact .inr (List.mem_flatMap.2 ⟨p,List.mem_cons_of_mem _ hp,IA⟩)
      · cases h
    · cases h
theorem OC{st:St}{o:Oper}{t el:TypeId}{len:Nat}{parts:Array (Nat × Operand)}(ho:o.op=.buildSlice t len parts)(hu:P.underlying t=some (.slice el)){g:Bool}{s:Nat}{z:CV}(hz:aF P el=some (g,s))(um:cq P el=some z)
  (hc:z.cells.length=s/\0<s/\0<len/\len*s<=4096) {cs:List At} (hf:cn (λi=>some (i*s,s)) (times z.cells len) (parts.toList.map λp=>(p.1,st.ev p.2))=some cs) {I:Env} {β:Nat->Nat} {a:Act} {w:World} (aX:dt st o I β a) :
  (execOp a.eval o).run P w=.ok (.value (.slice (some ⟨w.heap.size,0,none⟩) len len)) (w.alloc (.cells (cs.map (At.den I β)).toArray el)):=by
 obtain⟨c1,c2,c3,c4⟩:=hc;have q1:=(v8 um I β w st.c).1;have q3:=Ft I β _ _ hf;have eD:=Fx _ _ hf
 have e1:(parts.map λx=>(x.1,a.eval x.2)).toList=(parts.toList.map λp=>(p.1,st.ev p.2)).map λp=>(p.1,p.2.den I β):=by
  rw [List.map_map,Array.toList_map];apply List.map_congr_left;intro p hp
  have:=aX p.2 (by rw [ho];simp only [Op.operands];exact CO (by simpa using ⟨p.1,Array.mem_toList_iff.1 hp⟩)) (eD (p.1,st.ev p.2) (List.mem_map.2 ⟨p,hp,rfl⟩))
  simp [this]
 have Bo:(z.den I β).cells.size=s:=by rw [CV.ba];simpa using c1
 have q4:=Ov (z.den I β).cells len (by rw [Bo];exact c2);rw [Bo]at q4;have n1:¬(len*s > 2 ^ 24):=by omega
 have n2:¬(len*s=0):=by
  have:=Nat.mul_pos c3 c2;omega
 simp only [execOp,ho,Instr.buildSlice,Sem.run_bind,run_underlying hu,Result.andThen_ok,pc hz,n1,n2,if_false,q1,Sem.run_pure,e1,Bo,q4];rw [show times (z.den I β).cells.toList len=(times z.cells len).map (At.den I β) by rw [H',CV.ba],q3];simp [newRow]
theorem So{G:bY}(hG:G.Ok){st:St}{o:Oper}{K:St->Env->Prop}{J:Env}(wf:st.WF)(fA:bK.den st.k J)(h:kN (PA G.P W Q QM QP) G st o K J):oI G.P W st o K J:=by
 have new:∀{cs:List At} {t:TypeId} {v:Nat->At} (vd:Nat->Value),St.new (PA G.P W Q QM QP) st o.dst cs t v K J->(∀x∈aE cs,x∈cN st o)->(∀(I:Env) (β:Nat->Nat),(v st.c.nk).den I β=vd (β st.c.nk)) ->
   (∀I,Env.au st.c J I->∀(β:Nat->Nat) (a:Act) (w:World),dt st o I β a->(execOp a.eval o).run G.P w=.ok (.value (vd w.heap.size)) (w.alloc (.cells (cs.map (At.den I β)).toArray t))) ->
   oI G.P W st o K J:=by
  intro cs t v vd h jk hv hr;unfold St.new at h;by_cases hw:cs.all (At.wf st.c)=true
  ·rw [if_pos hw,Fh]at h;obtain⟨h1,h2⟩:=zf h;have hc:=(zu {st with m:=(st.c.nk,cs,t)::st.m} o.dst (.cv (.one (v st.c.nk))) {st.c with nk:=st.c.nk+1}).1;have hle:=an.jz st.c 1;refine⟨_,J,.cv (.one (v st.c.nk)),[],h1,by rw [hc];exact hle,Env.ah _ _,λI hl => ?_⟩;rw [hc]at hl;have fZ:Env.au st.c J I:=⟨hl.i,hl.b,hl.v,hl.p,hl.s,hl.l⟩;exact Im wf hw jk (hv I) (hr I fZ) h2
  ·rw [if_neg hw]at h;exact h.elim
 unfold kN at h;generalize ho:o.op=op at h;cases op
 case alloc t =>
  simp only at h;generalize hz:cq G.P t=u at h;split at h
  ·rename_i z;refine new (λB=>.pointer (some ⟨B,0,none⟩)) h (by rw [Iy hz];intro x hx;cases hx) (λ_ _=>rfl) λI hl β a w aX => ?_;have q1:=(v8 hz I β w st.c).1;simp [execOp,ho,Instr.alloc,q1,newVar,newRow,CV.ba]
  ·exact h.elim
 case box t x =>
  simp only at h;generalize hx:st.ev x=sx at h;split at h
  ·rename_i v;refine new (λB=>.pointer (some ⟨B,0,none⟩)) h (λy hy=>by simp only [cN,ho,hx];exact hy) (λ_ _=>rfl) λI hl β a w aX => ?_;have e1:=aX x (by rw [ho];simp [Op.operands]) (by rw [hx];simp);rw [hx]at e1;simp [execOp,ho,e1,Instr.box,newVar,newRow,SV.den,CV.ba]
  ·exact h.elim
 case store t x y =>
  simp only at h;generalize hz:aF G.P t=u1 at h;generalize hx:st.ev x=sx at h;generalize e_:st.ev y=sy at h;split at h
  ·rename_i g n k off v;generalize hm:getM st.m k=u2 at h;split at h
   ·rename_i cs ty;split at h
    ·rename_i hc;obtain⟨kD,iT,od⟩:=hc;obtain⟨h1,h2⟩:=zf h;have hc:=(zu {st with m:=iE st.m k (cs.take off++v.cells++cs.drop (off+n))} o.dst .any st.c).1;refine⟨_,J,.any,[k],h1,by rw [hc];exact an.le_refl _,Env.ah _ _,λI hl => ?_⟩;refine Iq wf hm (by simp [aL,ho,hx,aI,CV.cells,av]) ?_ (λy hy => ?_) (λβ a w aX m2 => ?_) h2
     ·have:=(wf.m k cs ty hm).2
      simp only [List.all_append,(zp this off).1,(zp this (off+n)).2,CV.di od,Bool.and_self]
     ·rw [zd,zd]at hy;rcases List.mem_append.1 hy with hy|hy
      ·rcases List.mem_append.1 hy with hy|hy
       ·exact .inr (zB _ _ hy)
       ·simp only [cN,ho,e_];exact .inl hy
      ·exact .inr (zC _ _ hy)
     ·have e1:=aX x (by rw [ho];simp [Op.operands]) (by rw [hx];simp);have e2:=aX y (by rw [ho];simp [Op.operands]) (by rw [e_];simp);rw [hx]at e1;rw [e_]at e2
      have hs:=Ot (g:=g) hz w (β k) off (v.den I β) _ ty m2 (by rw [CV.ba];simpa using kD) (by simpa using iT) (by
       rw [CV.ba];intro z CW;simp only [List.mem_map]at CW;obtain⟨q,_,rfl⟩:=CW;exact At.gi I β q)
      rw [CV.ba]at hs;simp only [<-N3]at hs;have zD:a.eval x=ptr (β k) off:=e1;have zE:a.eval y=v.den I β:=e2;simp only [execOp,ho,zD,zE,Sem.run_bind,hs,Result.andThen_ok,Sem.run_pure]
    ·exact h.elim
   ·exact h.elim
  ·exact h.elim
 case makeInterface t x =>
  simp only at h;generalize hu:G.P.underlying t=u1 at h;generalize hx:st.ev x=sx at h;split at h
  ·exact h.elim
  ·rename_i d v uh;split at h
   ·rename_i hv;obtain⟨zF,wo⟩:=hv;have h:=h ⟨.iface t (v.den J b0),rfl⟩ rfl;have hle:st.c.le {st.c with nv:=st.c.nv+1}:=zn st.c .tf;have cX:=Co st.c J ⟨.iface t (v.den J b0),rfl⟩;obtain⟨h1,h2⟩:=zf h;have hc:=(zu {st with k := .k_ st.c.nv t v::st.k} o.dst (.cv (.one (.val st.c.nv))) {st.c with nv:=st.c.nv+1}).1;refine⟨_,_,.cv (.one (.val st.c.nv)),[],h1,by rw [hc];exact hle,cX,λI hl => ?_⟩;rw [hc]at hl;have fZ:Env.au st.c J I:=Env.ae hle cX hl
    have e0:(I.v st.c.nv).1=.iface t (v.den I b0):=by
     rw [hl.v st.c.nv (Nat.lt_succ_self _),CV.U fZ (λ_ _=>rfl) wo];exact congrArg (λy:OV=>y.1) (if_pos rfl)
    refine Ik wf (bx.run λβ a w hB aX hr=>⟨.iface t (v.den I β), ?_,λ_ => ?_⟩) hle h2 (λz hz => ?_) (λhk z hz => ?_)
    ·have e1:=aX x (by rw [ho];simp [Op.operands]) (by rw [hx];simp);rw [hx]at e1;simp only [execOp,ho,e1];refine zg _ w _ ?_
     cases d<;>first
      | (exact (uh _ rfl).elim)
      | (simp [Instr.makeInterface,run_underlying hu,SV.den])
    ·show _=(I.v st.c.nv).1;rw [e0,CV.aU I β b0 zF]
    ·rcases List.mem_cons.1 hz with rfl|hz
     ·simp only [Kn.wf,Bool.and_eq_true,decide_eq_true_eq];exact⟨Nat.lt_succ_self _,CV.aH hle wo,zF⟩
     ·exact Kn.aH hle (wf.k z hz)
    ·rcases List.mem_cons.1 hz with rfl|hz
     ·exact e0
     ·exact hk z hz
   ·exact h.elim
  ·exact h.elim
 case buildSlice t len parts =>
  simp only at h;generalize hu:G.P.underlying t=u1 at h;split at h
  ·rename_i el;generalize hz:aF G.P el=u2 at h;generalize um:cq G.P el=u3 at h;split at h
   ·rename_i g s z;split at h
    ·rename_i hc;obtain⟨c1,c2,c3,c4⟩:=hc;generalize hf:cn (λi=>some (i*s,s)) (times z.cells len) (parts.toList.map λp=>(p.1,st.ev p.2))=u4 at h;split at h
     ·rename_i cs;refine new (λB=>.slice (some ⟨B,0,none⟩) len len) h (λy hy => ?_) (λ_ _=>rfl) λI hl β a w aX => ?_
      ·rcases OB _ _ hf hy with h1|h1
       ·rw [Iz _ (Iy um)]at h1;cases h1
       ·simp only [cN,ho];simpa [List.flatMap_map]using h1
      exact OC ho hu hz um ⟨c1,c2,c3,c4⟩ hf aX
     ·exact h.elim
    ·exact h.elim
   ·exact h.elim
  ·exact h.elim
 all_goals
  obtain⟨sv,c',aa,h1,h2,h3,h4⟩:=H7 hG wf fA h;by_cases hk:c'.nk=st.c.nk
  ·rw [if_pos hk]at h1;obtain⟨q1,q2⟩:=zf h1;have hc:=(zu st o.dst sv c').1;refine⟨_,aa,sv,[],q1,by rw [hc];exact h2,h3,λI hl => ?_⟩;rw [hc]at hl;exact Ij wf (h4 I hl) h2 q2
  ·rw [if_neg hk]at h1;exact h1.elim
theorem OD{p:At->Bool}:∀{cs:List At} {iR:List Nat} {l:List At},cs.all p=true->l.all p=true->(gH cs iR l).all p=true
  |cs,[],l,h,_=>by simpa [gH]using h
  |cs,i::r,[],h,_=>by simpa [gH]using h
  |cs,i::r,a::l,h,hl=>by
    simp only [List.all_cons,Bool.and_eq_true]at hl;refine OD (cs:=cs.take i++a::cs.drop (i+1)) (List.all_eq_true.2 λx hx => ?_) hl.2;rcases List.mem_append.1 hx with hx|hx
    · exact List.all_eq_true.1 h x (List.mem_of_mem_take hx)
    · rcases List.mem_cons.1 hx with rfl|hx
      · exact hl.1
      · exact List.all_eq_true.1 h x (List.mem_of_mem_drop hx)
theorem OE{x:Nat}:∀{cs:List At} {iR:List Nat} {l:List At},aE l=[]->x∈aE (gH cs iR l)->x∈aE cs
  |cs,[],l,_,h=>by simpa [gH]using h
  |cs,i::r,[],_,h=>by simpa [gH]using h
  |cs,i::r,a::l,hl,h=>by
    have e:=zd [a] l;rw [List.singleton_append,hl]at e;have e':=(List.append_eq_nil_iff.1 e.symm);have h2:=OE (cs:=cs.take i++a::cs.drop (i+1)) e'.2 h;have e2:=zd [a] (cs.drop (i+1));rw [List.singleton_append,e'.1,List.nil_append]at e2;rw [zd,e2]at h2;rcases List.mem_append.1 h2 with h3|h3
    · exact zB _ _ h3
    · exact zC _ _ h3
theorem OF:∀(ks:List CK) (c:an),ks.all CK.plain=true->aE (ao c ks)=[]
  | [],c,_=>rfl
  |k::l,c,h=>by
    simp only [List.all_cons,Bool.and_eq_true]at h;have ih:=OF l (aS c k) h.2;cases k<;>first | (simp only [ao,a8,aE];exact ih) | (simp [CK.plain]at h)
theorem OG{l:List At}(h:aE l=[])(n:Nat):aE (l.drop n)=[]:=by
 have:=zd (l.take n) (l.drop n)
 rw [List.take_append_drop,h]at this;exact (List.append_eq_nil_iff.1 this.symm).2
theorem OH{cs:List At}:∀{iR:List Nat} {ks:List CK},iO cs iR=some ks->ks.all CK.plain=true
  | [],ks,h=>by simp only [iO,Option.some.injEq]at h;subst h;rfl
  |i::r,ks,h=>by
    simp only [iO]at h;split at h
    · rename_i k l hk hl;simp only [Option.some.injEq]at h;subst h;simp only [List.all_cons,Bool.and_eq_true];refine⟨?_,OH hl⟩;cases hc:cs[i]? with
      |none=>rw [hc]at hk;cases hk
      |some a =>
        rw [hc]at hk;simp only [Option.bind_some]at hk;cases a<;>simp only [tN,Option.some.injEq,reduceCtorEq]at hk<;>(subst hk;rfl)
    · cases h
theorem OI{k:Nat}:∀{l:List SV} {j:Nat},l[j]? = some (.cv (.one (.loc k 0)))->k∈dV l
  | [],j,h=>by simp at h
  |x::l,0,h=>by
    simp only [List.getElem?_cons_zero,Option.some.injEq]at h;subst h;simp [dV]
  |x::l,j+1,h=>by
    have:=OI (l:=l) (j:=j) (by simpa using h)
    unfold dV;split
    · cases ‹_::_=[]›
    · rename_i heq;simp only [List.cons.injEq]at heq;obtain⟨_,rfl⟩:=heq;exact List.mem_cons_of_mem _ this
    · rename_i heq;simp only [List.cons.injEq]at heq;obtain⟨_,rfl⟩:=heq;exact List.mem_cons_of_mem _ this
    · rename_i heq;simp only [List.cons.injEq]at heq;obtain⟨_,rfl⟩:=heq;exact this
theorem IB{l:List At}(h:aE l=[])(n:Nat):aE (l.take n)=[]:=by
 have:=zd (l.take n) (l.drop n)
 rw [List.take_append_drop,h]at this;exact (List.append_eq_nil_iff.1 this.symm).1
theorem OJ{m:Mem}{args:List SV}:∀{jo:List (Nat × List Nat)} {bl:List tO},h_ m args jo=some bl->∀e∈bl,(∃j:Nat,args[j]? = some (SV.cv (.one (.loc e.k 0))))/\getM m e.k=some (e.cs,e.t)/\iO e.cs e.iR=some e.ks
  | [],bl,h,e,he=>by simp only [h_,Option.some.injEq]at h;subst h;cases he
  | (j,iR)::r,bl,h,e,he=>by
    simp only [h_]at h;split at h
    · rename_i k l h1 h2;split at h
      · rename_i cs t h3;split at h
        · rename_i ks h4;simp only [Option.some.injEq]at h;subst h;rcases List.mem_cons.1 he with rfl|he
          · exact⟨⟨j,h1⟩,h3,h4⟩
          · exact OJ h2 e he
        · cases h
      · cases h
    · cases h
theorem OK{x:Nat × List At × TypeId}:∀{bl:List tO} {fr:List At},x∈jj bl fr->∃e∈bl,∃n m,x=(e.k,gH e.cs e.iR ((fr.drop n).take m),e.t)
  | [],fr,h=>by cases h
  |e::r,fr,h=>by
    rcases List.mem_cons.1 h with rfl|h
    · exact⟨e,List.mem_cons_self ..,0,e.ks.length,rfl⟩
    · obtain⟨e',h1,n,m,h2⟩:=OK h;exact⟨e',List.mem_cons_of_mem _ h1,e.ks.length+n,m,by rw [h2,List.drop_drop]⟩
theorem OL:∀(bl:List tO) (fr:List At),(jj bl fr).map (·.1)=bl.map (·.k)
 | [],fr=>rfl
 |e::r,fr=>by simp only [jj,List.map_cons,OL r]
theorem Sq{G:bY}(hG:G.Ok){st:St}{o:Oper}{K:St->Env->Prop}{J:Env}(wf:st.WF)(fA:bK.den st.k J){g:Operand}{args:Array Operand}{cE:Array TypeId}(ho:o.op=.call ⟨.value g,args,cE⟩){f:FuncId}{az:List (Nat × Nat)}(hg:st.ev g=.cv (.one (.fn f az)))
  {jo:List (Nat × List Nat)} {all:List SV} (bQ:all=args.toList.map st.ev++az.map λx=>SV.cv (.one (.loc x.1 x.2))) (h:tP (PA G.P W Q QM QP) G st o.dst f all jo K J):oI G.P W st o K J:=by
 unfold tP at h;generalize hf:G.P.funcs[f]? = u1 at h;split at h
 ·exact h.elim
 ·rename_i fn;generalize hs:gF G.P fn.resultTypes.toList=u2 at h;generalize hj:h_ st.m all jo=u3 at h;split at h
  ·rename_i ss bl;simp only at h;split at h
   ·exact h.elim
   ·rename_i ha;simp only [not_or,Decidable.not_not]at ha;obtain⟨pd,rf⟩:=ha;split at h
    ·rename_i rj;split at h
     ·rename_i hc;generalize rk:bN ss++bl.flatMap (·.ks)=ks at h;have ln:=OJ hj
      have lj:ks.all CK.plain=true:=by
       rw [<-rk,List.all_append,Fv _ hs,Bool.true_and];refine List.all_eq_true.2 λk hk => ?_;obtain⟨e,he,IC⟩:=List.mem_flatMap.1 hk;exact List.all_eq_true.1 (OH (ln e he).2.2) k IC
      have Bp:=yU ks st.c;have Sr:=OF ks st.c lj;have jS:=Cq ks st.c lj;have hle:=vo ks st.c;obtain⟨aM,l1,⟨h1,h3⟩⟩:=ti ks st.c h;generalize ao st.c ks=fr at *;have i9:dZ (cd (bE ss fr))=true:=Cy (Bg _ _ jS);have il:(cd (bE ss fr)).wf (aK st.c ks)=true:=Bi (Bh _ _ _ Bp);obtain⟨h4,h5⟩:=zf h3;have Ss:=OL bl (fr.drop (bN ss).length);have ID:∀x∈jj bl (fr.drop (bN ss).length),∃e∈bl,∃n m,x=(e.k,gH e.cs e.iR (((fr.drop (bN ss).length).drop n).take m),e.t):=λx hx=>OK hx;generalize jj bl (fr.drop (bN ss).length)=ns at *;have gq:=(zu {st with m:=fz st.m ns} o.dst (cd (bE ss fr)) (aK st.c ks)).1
      have OM:∀x∈ns,x.2.1.all (At.wf (aK st.c ks))=true:=λx hx=>by
       obtain⟨e,he,n,m,rfl⟩:=ID x hx;exact OD (yE hle (wf.m _ _ _ (ln e he).2.1).2) (zp (zp (zp Bp _).2 n).2 m).1
      refine⟨_,aM,cd (bE ss fr),ns.map (·.1),h4,by rw [gq];exact hle,l1,λI hl => ?_⟩;rw [gq]at hl
      have fQ:∀x∈ns,∃e∈bl,e.k=x.1:=λx hx=>by
       obtain⟨e,he,n,m,rfl⟩:=ID x hx;exact⟨e,he,rfl⟩
      have uo:aL st o=dV all:=by simp only [aL,ho,hg,bQ]
      refine It wf hle (by rw [Ss];exact rj) (λx hx => ?_) (λx hx => ?_) OM (λβ a w hB aX hr jR next Q' hn => ?_) h5
      ·obtain⟨e,he,n,m,rfl⟩:=ID x hx;exact⟨e.cs,(ln e he).2.1,λy hy=>OE (IB (OG (OG Sr _) n) m) hy⟩
      ·obtain⟨e,he,hk⟩:=fQ x hx;rw [uo,<-hk];obtain⟨j,Su⟩:=(ln e he).1;exact OI Su
      ·have l3:Env.au st.c J I:=Env.ae hle l1 hl
       have eD:∀x∈all,x ≠ .any:=by
        intro x hx he;subst he;exact pd (List.any_eq_true.2 ⟨_,hx,rfl⟩)
       have d_:all.map (SV.den I β)=all.map (SV.den J β) :=
        List.map_congr_left λx hx=>SV.U l3 (λ_ _=>rfl) (List.all_eq_true.1 rf x hx)
       have eg:=aX g (by rw [ho];simp [Op.operands,Call.operands]) (by rw [hg];simp);rw [hg]at eg;have wy:a.eval g=.func (.func f) #[] (az.map λc=>.pointer (some ⟨β c.1,c.2,none⟩)).toArray:=eg
       have ea:(args.map a.eval).toList=(args.toList.map st.ev).map (SV.den I β):=by
        rw [Array.toList_map];exact zo _ λx hx=>aX x (by rw [ho];simp only [Op.operands,Call.operands];exact Array.mem_append.2 (.inr (Array.mem_toList_iff.1 hx))) (eD _ (by rw [bQ];exact List.mem_append.2 (.inl (List.mem_map.2 ⟨x,hx,rfl⟩))))
       have ec:(#[]:Array Value)++args.map a.eval++(az.map λc=>(.pointer (some ⟨β c.1,c.2,none⟩):Value)).toArray=(all.map (SV.den I β)).toArray:=by
        apply Array.ext';rw [Array.toList_append,Array.toList_append,ea,bQ];simp [SV.den,CV.den,At.den,Function.comp_def]
       have hx:(execOp a.eval o).run G.P w=(callFunc f (all.map (SV.den I β)).toArray).run G.P w:=by
        simp only [execOp,ho,resolve,wy,Deferred.ofValue,Sem.run_bind,Sem.run_pure,Result.andThen_ok,invoke];rw [<-ec]
       have dq:fj W st.m st.o (av (bT st.m st.o all)) I β w:=λq hq=>hr q (List.mem_append.2 (.inl (by simp only [aP,ho,hg];rw [<-bQ];exact hq)));unfold Oper.wp;rw [hx,hG.calls f hc _ w,Oper.upon_enter];rw [d_];refine ((h1 β w hB (yY wf.ap l3 (λq cs t hq=>(wf.m q cs t hq).2) (λq ce sz t hq=>(wf.o q ce sz t hq).2) _ dq)).out (by simpa [List.map_map,Function.comp_def]using jR)).mono λe w' he => ?_;obtain⟨rfl,gd,jc⟩:=he.out;refine hn _ w' ?_ (by simpa [List.map_map,Function.comp_def]using gd) λx hx => ?_
       ·rw [SV.aU I β b0 i9,SV.U hl (β:=b0) (λ_ _=>rfl) il]
       ·rw [jc _ (List.mem_map.2 ⟨x,hx,rfl⟩),vP hl (λ_ _=>rfl) (OM x hx)]
     ·exact h.elim
    ·exact h.elim
  ·exact h.elim
theorem IF{k:Nat}:∀{l:List SV} {j:Nat},l[j]? = some (.cv (.one (.own k)))->k∈dV l
  | [],j,h=>by simp at h
  |x::l,0,h=>by
    simp only [List.getElem?_cons_zero,Option.some.injEq]at h;subst h;simp [dV]
  |x::l,j+1,h=>by
    have:=IF (l:=l) (j:=j) (by simpa using h)
    unfold dV;split
    · cases ‹_::_=[]›
    · rename_i heq;simp only [List.cons.injEq]at heq;obtain⟨_,rfl⟩:=heq;exact List.mem_cons_of_mem _ this
    · rename_i heq;simp only [List.cons.injEq]at heq;obtain⟨_,rfl⟩:=heq;exact List.mem_cons_of_mem _ this
    · rename_i heq;simp only [List.cons.injEq]at heq;obtain⟨_,rfl⟩:=heq;exact this
theorem Sv{G:bY}(hG:G.Ok){st:St}{o:Oper}{K:St->Env->Prop}{J:Env}(wf:st.WF)(fA:bK.den st.k J){g:Operand}{args:Array Operand}{cE:Array TypeId}(ho:o.op=.call ⟨.value g,args,cE⟩){f:FuncId}{az:List (Nat × Nat)}(hg:st.ev g=.cv (.one (.fn f az)))
  {j:Nat} {all:List SV} (bQ:all=args.toList.map st.ev++az.map λx=>SV.cv (.one (.loc x.1 x.2))) (h:qm (PA G.P W Q QM QP) G st o.dst f all j K J):oI G.P W st o K J:=by
 unfold qm at h;generalize hf:G.P.funcs[f]? = u1 at h;split at h
 ·exact h.elim
 ·rename_i fn;generalize hs:gF G.P fn.resultTypes.toList=u2 at h;generalize hj:all[j]? = u3 at h;split at h
  ·rename_i ss k;generalize hm:aD st.o k=u4 at h;split at h
   ·rename_i ce sz t;simp only at h;split at h
    ·exact h.elim
    ·rename_i ha;simp only [not_or,Decidable.not_not]at ha;obtain⟨pd,rf⟩:=ha;split at h
     ·rename_i hc;have eJ:st.c.le {st.c with nl:=st.c.nl+1}:=⟨Nat.le_refl _,Nat.le_refl _,Nat.le_refl _,Nat.le_refl _,Nat.le_refl _,Nat.le_refl _,Nat.le_succ _⟩;generalize rk:bN ss=ks at h;have lj:ks.all CK.plain=true:=by rw [<-rk];exact Fv _ hs
      have Bp:=yU ks {st.c with nl:=st.c.nl+1};have jS:=Cq ks {st.c with nl:=st.c.nl+1} lj;have hle:=vo ks {st.c with nl:=st.c.nl+1};obtain⟨L,h⟩:=h;obtain⟨aM,l1,⟨h1,h3⟩⟩:=ti ks {st.c with nl:=st.c.nl+1} h;generalize ao {st.c with nl:=st.c.nl+1} ks=fr at *;have i9:dZ (cd (bE ss fr))=true:=Cy (Bg _ _ jS);have il:(cd (bE ss fr)).wf (aK {st.c with nl:=st.c.nl+1} ks)=true:=Bi (Bh _ _ _ Bp);obtain⟨h4,h5⟩:=zf h3;have gq:=(zu {st with o:=dk st.o k [.var st.c.nl]} o.dst (cd (bE ss fr)) (aK {st.c with nl:=st.c.nl+1} ks)).1;have l0:Env.au st.c J aM:=Env.ae eJ (re st.c J L) l1;refine⟨_,aM,cd (bE ss fr),[k],h4,by rw [gq];exact an.le_trans eJ hle,l0,λI hl => ?_⟩;rw [gq]at hl;have uo:aL st o=dV all:=by simp only [aL,ho,hg,bQ]
      have eL:∀s_,ak I s_ [.var st.c.nl]=L.map (·.1):=λs_=>by
       simp only [ak,Sg.den,List.append_nil];rw [hl.l st.c.nl (Nat.lt_of_lt_of_le (Nat.lt_succ_self _) hle.l),l1.l st.c.nl (Nat.lt_succ_self _)];exact congrArg (List.map λy:OV=>y.1) (if_pos rfl)
      refine Iv wf (an.le_trans eJ hle) hm (by rw [uo];exact IF hj) ?_ rfl (λβ a w hB aX hr next Q' hn => ?_) h5
      ·have:st.c.nl<(aK {st.c with nl:=st.c.nl+1} ks).nl:=Nat.lt_of_lt_of_le (Nat.lt_succ_self _) hle.l
       simp [bP,Sg.wf,this]
      ·have l3:Env.au st.c J I:=Env.ae (an.le_trans eJ hle) l0 hl
       have eD:∀x∈all,x ≠ .any:=by
        intro x hx he;subst he;exact pd (List.any_eq_true.2 ⟨_,hx,rfl⟩)
       have d_:all.map (SV.den I β)=all.map (SV.den J β) :=
        List.map_congr_left λx hx=>SV.U l3 (λ_ _=>rfl) (List.all_eq_true.1 rf x hx)
       have eg:=aX g (by rw [ho];simp [Op.operands,Call.operands]) (by rw [hg];simp);rw [hg]at eg;have wy:a.eval g=.func (.func f) #[] (az.map λc=>.pointer (some ⟨β c.1,c.2,none⟩)).toArray:=eg
       have ea:(args.map a.eval).toList=(args.toList.map st.ev).map (SV.den I β):=by
        rw [Array.toList_map];exact zo _ λx hx=>aX x (by rw [ho];simp only [Op.operands,Call.operands];exact Array.mem_append.2 (.inr (Array.mem_toList_iff.1 hx))) (eD _ (by rw [bQ];exact List.mem_append.2 (.inl (List.mem_map.2 ⟨x,hx,rfl⟩))))
       have ec:(#[]:Array Value)++args.map a.eval++(az.map λc=>(.pointer (some ⟨β c.1,c.2,none⟩):Value)).toArray=(all.map (SV.den I β)).toArray:=by
        apply Array.ext';rw [Array.toList_append,Array.toList_append,ea,bQ];simp [SV.den,CV.den,At.den,Function.comp_def]
       have hx:(execOp a.eval o).run G.P w=(callFunc f (all.map (SV.den I β)).toArray).run G.P w:=by
        simp only [execOp,ho,resolve,wy,Deferred.ofValue,Sem.run_bind,Sem.run_pure,Result.andThen_ok,invoke];rw [<-ec]
       have dq:fj W st.m st.o (av (bT st.m st.o all)) I β w:=λq hq=>hr q (List.mem_append.2 (.inl (by simp only [aP,ho,hg];rw [<-bQ];exact hq)));unfold Oper.wp;rw [hx,hG.calls f hc _ w,Oper.upon_enter];rw [d_];have e0:J.jy st.c.nl L=J.jy st.c.nl L:=rfl;refine (h1 β w hB ?_).mono λe w' he => ?_
       ·exact yY wf.ap l3 (λq cs t hq=>(wf.m q cs t hq).2) (λq ce sz t hq=>(wf.o q ce sz t hq).2) _ dq
       ·obtain⟨rfl,gd,jc,oJ⟩:=he;refine hn _ w' ?_ gd jc (by rw [eL];exact oJ);rw [SV.aU I β b0 i9,SV.U hl (β:=b0) (λ_ _=>rfl) il]
     ·exact h.elim
   ·exact h.elim
  ·exact h.elim
theorem ON{G:bY}(hG:G.Ok){st:St}{o:Oper}{K:St->Env->Prop}{J:Env}(wf:st.WF)(fA:bK.den st.k J)(h:mw (PA G.P W Q QM QP) G st o K J):oI G.P W st o K J:=by
 unfold mw at h;generalize he:o0 G st o=u at h;split at h
 ·rename_i f args jo;unfold o0 at he;split at he
  ·rename_i g xs cE heq;split at he
   ·rename_i f' az hg;split at he
    ·split at he
     ·simp only [Option.some.injEq,Prod.mk.injEq]at he;obtain⟨rfl,rfl,rfl⟩:=he;exact Sq hG wf fA heq hg rfl h
     ·cases he
    ·cases he
   ·cases he
  ·cases he
 ·clear he;generalize he:lJ G st o=u at h;split at h
  ·rename_i f args j;unfold lJ at he;split at he
   ·rename_i g xs cE heq;split at he
    ·rename_i f' az hg;split at he
     ·split at he
      ·simp only [Option.some.injEq,Prod.mk.injEq]at he;obtain⟨rfl,rfl,rfl⟩:=he;exact Sv hG wf fA heq hg rfl h
      ·cases he
     ·cases he
    ·cases he
   ·cases he
  ·exact So hG wf fA h
end Vc
set_option linter.unusedVariables false
namespace Vc
open Go Go.RowKit
variable {P:Program} {W:dN} {Q:Value->Prop} {QM QP:World->Value->Prop}
theorem OO(a:Addr)(w:World):(loadCells a 0).run P w=.ok #[] w:=by
 have:=run_loadCells_list (P:=P) w a [] (λj v hj=>by simp at hj)
 simpa using this
theorem OP(w:World){t ty el:TypeId}{i:TypeInfo}(ht:P.underlying t=some (.slice el))(hi:P.info? el=some i)(base:Option Addr)(n c:Nat)(hc:n<=c)(x:Value)(hx:x=.slice none 0 0∨∃a k,x=.slice (some a) 0 k) :
  (Builtin.append_ #[t,t] ty #[.slice base n c,x]).run P w=.ok (.slice base n c) w:=by
 rcases hx with rfl|⟨a,k,rfl⟩
 ·cases base with
  |none=>simp [Builtin.append_,run_underlying ht,typeInfo,hi,Go.sizeOf,Builtin.lenOf,Builtin.firstCells,hc]
  |some b=>simp [Builtin.append_,run_underlying ht,typeInfo,hi,Go.sizeOf,Builtin.lenOf,Builtin.firstCells,hc,storeCells]
 ·cases base with
  |none=>simp [Builtin.append_,run_underlying ht,typeInfo,hi,Go.sizeOf,Builtin.lenOf,Builtin.firstCells,hc,OO]
  |some b=>simp [Builtin.append_,run_underlying ht,typeInfo,hi,Go.sizeOf,Builtin.lenOf,Builtin.firstCells,hc,OO,storeCells]
theorem OQ{α:Type}(a b c:List α)(k:Nat)(h:(a++b).length=k):(a++b++c).take k=a++b:=by
 rw [<-h,List.take_left]
theorem Sw(w:World){lo:Nat->Prop}{b code n base:Nat}{xs:List Value}{sz:Nat}{t ty el:TypeId}{i:TypeInfo}{z:Value}(ht:P.underlying t=some (.slice el))(hi:P.info? el=some i)(hz:i.zero=some z)(iS:i.size=sz)(Bo:z.cells.size=sz)
    (h:fN lo b code n base xs sz el w) (x:Value) (m:Nat) (news:List Value) (hx:(x=.slice none 0 0/\m=0)∨∃a c,x=.slice (some a) m c/\∀j u,news[j]? = some u->w.cell? (a.add j)=some u) (hl:news.length=m*sz)
    (h1:∀u∈news,u.oneCell'=true) (Sx:n+m<=maxLen) (kC:(n+m)*i.bytes<=140737488355328) (rh:lo w.heap.size) :
    ∃b' jU lY w',(Builtin.append_ #[t,t] ty #[cj b code n base,x]).run P w=.ok (cj b' jU (n+m) lY) w'/\fN lo b' jU (n+m) lY (xs++news) sz el w' /\
      (w'.os=w.os/\w'.tape=w.tape/\w'.output=w.output/\w.heap.size<=w'.heap.size)/\(∀k,k<w.heap.size->(2<=code->k≠b)->w'.heap[k]? = w.heap[k]?)/\(2<=jU->w.heap.size<=b'∨(2<=code/\b'=b)):=by
  subst iS;obtain⟨r1,r2,r3⟩:=h;have W5:(9223372036854775807:Nat)=maxLen:=by simp [maxLen]
  have pk:n<=code-1/\(code<=1->n=0):=by
    rcases r3 with ⟨_,h0⟩|⟨h2,_,_,h3,_⟩
    · exact⟨by omega,λ_=>h0⟩
    · exact⟨h3,λ_=>by omega⟩
  by_cases hm:m=0
  · subst hm;have hn:news=[]:=List.eq_nil_of_length_eq_zero (by simpa using hl);subst hn
    have vB:x=.slice none 0 0∨∃a k,x=.slice (some a) 0 k:=by
      rcases hx with ⟨h,_⟩|⟨a,c,h,_⟩
      · exact .inl h
      · exact .inr ⟨a,c,h⟩
    refine⟨b,code,base,w, ?_,⟨by simpa using r1,r2,by simpa using r3⟩,⟨rfl,rfl,rfl,Nat.le_refl _⟩,λ_ _ _=>rfl,λh=>.inr ⟨h,rfl⟩⟩;unfold cj;by_cases h0:code=0
    · have CX:=pk.2 (by omega);subst CX;simp only [h0,if_true,Nat.add_zero];exact OP w ht hi none 0 0 (Nat.le_refl _) x vB
    · simp only [h0,if_false,Nat.add_zero];exact OP w ht hi _ n (code-1) pk.1 x vB
  · obtain⟨a,c,rfl,fB⟩:∃ a c,x=.slice (some a) m c/\∀ j u,news[j]? = some u->w.cell? (a.add j)=some u:=by
      rcases hx with ⟨_,h⟩|h
      · exact (hm h).elim
      · exact h
    have ka:((n+m:Nat):Int)<=9223372036854775807:=by omega
    have hlen:(xs++news).length=(n+m)*i.size:=by rw [List.length_append,r1,hl,Nat.add_mul]
    have fresh:∀ eB,eB < n + m->fN lo w.heap.size (grownCap w (n + m) eB el + 1) (n + m) 0 (xs++news) i.size el
        (w.drew.alloc (.cells (xs.toArray++news.toArray++Builtin.zeroCells z.cells (grownCap w (n+m) eB el-(n+m))) el)):=by
      intro eB ho;have mN:=grownCap_ge w (n+m) eB el;have Sy:=grownCap_le_maxLen w (n+m) eB el Sx;refine⟨hlen,r2,.inr ⟨by omega,rfl,rh,by omega,by simpa using Sy,_,heap_alloc_new w.drew _, ?_, ?_⟩⟩
      · simp only [Array.size_append,List.size_toArray,size_zeroCells,Bo,r1,hl,<-Nat.add_mul,Nat.add_sub_cancel];congr 1;omega
      · simp only [Array.toList_append];exact OQ xs news _ _ hlen
    have grow:∀ (s:Value) (eB:Nat),eB < n + m->(∀ w0:World,w0=w->(Builtin.append_ #[t,t] ty #[s,.slice (some a) m c]).run P w =
        .ok (.slice (some ⟨w.heap.size,0,none⟩) (n+m) (grownCap w (n+m) eB el)) (w.drew.alloc (.cells (xs.toArray++news.toArray++Builtin.zeroCells z.cells (grownCap w (n+m) eB el-(n+m))) el))) ->
        ∃b' jU lY w',(Builtin.append_ #[t,t] ty #[s,.slice (some a) m c]).run P w=.ok (cj b' jU (n+m) lY) w'/\fN lo b' jU (n+m) lY (xs++news) i.size el w' /\
          (w'.os=w.os/\w'.tape=w.tape/\w'.output=w.output/\w.heap.size<=w'.heap.size)/\(∀k,k<w.heap.size->(2<=code->k≠b)->w'.heap[k]? = w.heap[k]?)/\(2<=jU->w.heap.size<=b'∨(2<=code/\b'=b)):=by
      intro s eB ho gQ;refine⟨w.heap.size,grownCap w (n+m) eB el+1,0,_, ?_,fresh eB ho,⟨rfl,rfl,rfl,by simp⟩,λk hk _=>Below.heap_alloc w.drew _ k hk,λ_=>.inl (Nat.le_refl _)⟩;rw [gQ w rfl];simp [cj]
    by_cases h0:code=0
    · have CX:=pk.2 (by omega);subst CX;have oK:xs=[]:=List.eq_nil_of_length_eq_zero (by simpa using r1);subst oK;have hv:cj b code 0 base=.slice none 0 0:=by simp [cj,h0]
      rw [hv];refine grow _ 0 (by omega) λw0 _ => ?_
      have:=run_append_nil (P:=P) w t ty el i z ht hi hz a m c news hl fB (by omega) (by simpa using ka) (by simp at kC;omega)
      simpa using this
    · by_cases Sz:code=1
      · have CX:=pk.2 (by omega);subst CX;have oK:xs=[]:=List.eq_nil_of_length_eq_zero (by simpa using r1);subst oK;have hv:cj b code 0 base=.slice (some ⟨b,base,none⟩) 0 0:=by simp [cj,Sz]
        rw [hv];refine grow _ 0 (by omega) λw0 _ => ?_;exact run_append_grow (P:=P) w t ty el i z ht hi hz ⟨b,base,none⟩ 0 0 [] (by simp) (λj v hj=>by simp at hj) a m c news hl fB (by omega) ka (growslice_fits (by omega) kC)
      · obtain⟨q1,q2,q3,q4,q5,cur,q6,q7,q8⟩:2<=code/\base=0/\lo b/\n<=code - 1/\code - 1<=maxLen/\∃ cur,w.heap[b]? = some (.cells cur el (0,0))/\cur.size=(code - 1) * i.size/\cur.toList.take (n * i.size)=xs:=by
          rcases r3 with ⟨h,_⟩|h
          · omega
          · exact h
        have hv:cj b code n base=.slice (some ⟨b,0,none⟩) n (code-1):=by simp [cj,h0,q2]
        rw [hv];by_cases uq:n+m<=code-1
        · have IG:n * i.size + news.length<=cur.size:=by
            rw [hl,q7,<-Nat.add_mul];exact Nat.mul_le_mul_right _ uq
          have:=run_append_room (P:=P) w t ty el i ht hi b n (code-1) cur q6 a m c news hl fB h1 uq IG
          refine⟨b,code,0,w.setRow b (cur.toList.take (n*i.size)++news++cur.toList.drop (n*i.size+news.length)).toArray, ?_,⟨hlen,r2,.inr ⟨q1,rfl,q3,uq,q5,_,setRow_heap w b _ _ _ _ q6, ?_, ?_⟩⟩,⟨rfl,rfl,rfl,by rw [setRow_size];exact Nat.le_refl _⟩,λk hk dO=>H_ _ _ _ _ (dO q1),λ_=>.inr ⟨q1,rfl⟩⟩
          · rw [this];simp [cj,h0]
          · simp only [List.size_toArray,List.length_append,List.length_take,List.length_drop,Array.length_toList];omega
          · rw [q8];exact OQ xs news _ _ hlen
        · refine grow _ (code-1) (by omega) λw0 _ => ?_
          have holds:∀j v,xs[j]? = some v->w.cell? ((⟨b,0,none⟩:Addr).add j)=some v:=by
            intro j v hj;rw [sf,Nat.zero_add,v_ q6];rw [<-q8,List.getElem?_take]at hj;split at hj
            · simpa using hj
            · cases hj
          exact run_append_grow (P:=P) w t ty el i z ht hi hz ⟨b,0,none⟩ n (code-1) xs r1 holds a m c news hl fB (by omega) ka (growslice_fits (by omega) kC)
end Vc
