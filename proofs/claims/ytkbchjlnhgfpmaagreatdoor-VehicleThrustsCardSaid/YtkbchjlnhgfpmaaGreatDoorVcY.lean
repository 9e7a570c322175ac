import Derived.Test.YtkbchjlnhgfpmaaGreatDoorVcV
import Derived.Laws.IdiomStrings
set_option linter.unusedVariables false
set_option linter.unusedSimpArgs false
namespace Vc
open Go Go.RowKit
variable {P:Program} {W:eJ} {Q:Value->Prop} {QM QP:World->Value->Prop}
theorem Ma{m:Mem}{o:bA}{nk:Nat}{ce:CE}{sz:Nat}{el:TypeId}{i5:List Nat}(hm:getM m nk=none)(k:Nat) :
    aM m ((nk,ce,sz,el)::bZ o i5) k=if nk=k then some (.row ce sz el)else match getM m k with
      |some (cs,t)=>some (.fix cs t)
      |none=>if k∈i5 then none else aM m o k:=by
  unfold aM;rw [zy,yr];by_cases h:nk=k
  · subst h;rw [if_pos rfl,if_pos rfl,hm]
  · rw [if_neg h,if_neg h];cases hg:getM m k with
    |some x=>rfl
    |none =>
      by_cases he:k∈i5
      · rw [if_pos he,if_pos he]
      · rw [if_neg he,if_neg he]
theorem Fq{o:Oper}{a:Act}{w:World}{md:Nat}{A B C D:Nat->Nat->Nat->Nat->World->Prop}(h:∃b code n base w',(execOp a.eval o).run P w=.ok (.value (ow md b code n base)) w'/\A b code n base w'/\B b code n base w'/\C b code n base w'/\D b code n base w')
  (next:Act->World->Prop) (Q':Exit->Act->World->Prop) (hn:∀b code n base w',A b code n base w'->B b code n base w'->C b code n base w'->D b code n base w'->next (a.put o.dst (ow md b code n base)) w'):o.wp P a w next Q':=by
 obtain⟨b,code,n,base,w',r1,r2,r3,r4,r5⟩:=h;unfold Oper.wp;rw [r1,Oper.upon_value];exact hn b code n base w' r2 r3 r4 r5
theorem Mb{st:St}{o:Oper}{U:Env}{i5:List Nat}{ce:CE}{sz:Nat}{el:TypeId}{c:ar}(md:Nat)(wf:st.WF)(hle:st.c.le c)(uX:c.nk=st.c.nk)(rk:cw c ce=true)(sY:∀ k∈i5,k∈a8 st o/\(aO st.o k).isSome=true)
    (kF:∀x∈fe (.row ce sz el),x∈di st o\/∃j e,j∈bd st o++a8 st o/\aM st.m st.o j=some e/\x∈fe e)
    (iN:∀(β:Nat->Nat) (a:Act) (w:World),dT W w->dV st o U β a->fV W st.m st.o (bd st o++a8 st o) U β w ->
      ∀(next:Act->World->Prop) (Q':Exit->Act->World->Prop),(∀b code n base w',bT (fv W) b code n base (aq U β ce) sz el w'->(w'.os=w.os/\w'.tape=w.tape/\w'.output=w.output/\w.heap.size<=w'.heap.size) ->
        (∀x,x<w.heap.size->(∀k e,k∈i5->aM st.m st.o k=some e->bM β k e≠some x)->w'.heap[x]? = w.heap[x]?)->(2<=code->w.heap.size<=b\/∃j e,j∈i5/\aM st.m st.o j=some e/\bM β j e=some b) ->
        next (a.put o.dst (ow md b code n base)) w')->o.wp P a w next Q')
    (hp:ji {st with o:=(c.nk,ce,sz,el)::bZ st.o i5} o.dst (.cv (.one (rowAt md c.nk))) {c with nk:=c.nk+4}) :
    iO P W st o U ({st with o:=(c.nk,ce,sz,el)::bZ st.o i5}.cd o.dst (.cv (.one (rowAt md c.nk))) {c with nk:=c.nk+4}) (.cv (.one (rowAt md c.nk))) i5:=by
  obtain⟨q1,q2,q3,q4,q5,q6⟩:=kO {st with o:=(c.nk,ce,sz,el)::bZ st.o i5} o.dst (.cv (.one (rowAt md c.nk))) {c with nk:=c.nk+4};have nJ:st.c.le {c with nk:=c.nk+4}:=ar.le_trans hle (ar.lV c 4)
  have me:getM st.m c.nk=none:=by
    have:=wf.beyond (k:=c.nk) (by omega)
    unfold aM at this;cases hg:getM st.m c.nk with
    |none=>rfl
    |some x=>rw [hg]at this;cases this
  have hm:∀ k,aM ({st with o:=(c.nk,ce,sz,el)::bZ st.o i5}.cd o.dst (.cv (.one (rowAt md c.nk))) {c with nk:=c.nk + 4}).m ({st with o:=(c.nk,ce,sz,el)::bZ st.o i5}.cd o.dst (.cv (.one (rowAt md c.nk))) {c with nk:=c.nk + 4}).o k =
      if c.nk=k then some (.row ce sz el)else match getM st.m k with
      |some (cs,t)=>some (.fix cs t)
      |none=>if k∈i5 then none else aM st.m st.o k:=λk=>by rw [q2,q4];exact Ma me k
  have AV:∀k∈i5,getM st.m k=none:=λk hk=>by
    obtain⟨x,hx⟩:=Option.isSome_iff_exists.1 (sY k hk).2;exact wf.ap k x hx
  have gm:∀k,k<st.c.nk->k ∉ i5->aM ({st with o:=(c.nk,ce,sz,el)::bZ st.o i5}.cd o.dst (.cv (.one (rowAt md c.nk))) {c with nk:=c.nk+4}).m ({st with o:=(c.nk,ce,sz,el)::bZ st.o i5}.cd o.dst (.cv (.one (rowAt md c.nk))) {c with nk:=c.nk+4}).o k=aM st.m st.o k:=λk hk he=>by
    rw [hm,if_neg (by omega)];cases hg:getM st.m k with
    |some x=>exact (o5 hg).symm
    |none=>simp only [if_neg he]
  have one:∀{k e},(k∈i5\/st.c.nk<=k)->aM ({st with o:=(c.nk,ce,sz,el)::bZ st.o i5}.cd o.dst (.cv (.one (rowAt md c.nk))) {c with nk:=c.nk+4}).m ({st with o:=(c.nk,ce,sz,el)::bZ st.o i5}.cd o.dst (.cv (.one (rowAt md c.nk))) {c with nk:=c.nk+4}).o k=some e->k=c.nk/\e=.row ce sz el:=by
    intro k e hk hg;rw [hm]at hg;by_cases cQ:c.nk=k
    · rw [if_pos cQ]at hg;cases hg;exact⟨cQ.symm,rfl⟩
    · rw [if_neg cQ]at hg;rcases hk with hk|hk
      · rw [AV k hk]at hg;simp only [if_pos hk]at hg;cases hg
      · have:=wf.beyond hk
        unfold aM at this;cases tY:getM st.m k with
        |some x=>rw [tY]at this;cases this
        |none =>
          rw [tY]at hg;simp only at hg;split at hg
          · cases hg
          · rw [wf.beyond hk]at hg;cases hg
  refine⟨λhk=>by rw [(zk _ _ _ _).1];exact hk,(zk _ _ _ _).2,q3,q5,q6,by rw [q1];exact nJ, ?_,λt'=>zl _ o.dst _ _ t',λd hd=>(hp d hd).1,λk hk=>⟨(sY k hk).1, ?_⟩,gm,λk e' hk hg x hx => ?_,λβ a w hB ho hr _ next Q' hn => ?_⟩
  · have g:=wf.grow nJ;refine⟨λi => ?_,by rw [q2,q1];exact g.m,λk fN vE t' hg => ?_,λk x hk => ?_,by rw [q5,q1];exact g.r,by rw [q6,q1];exact g.d,by rw [(zk _ _ _ _).1,q1];exact g.k,by rw [(zk _ _ _ _).2,q1];exact g.df⟩
    · rw [zl,q1];by_cases hd:o.dst=some i
      · rw [if_pos hd];exact (hp i hd).2
      · rw [if_neg hd];exact g.t i
    · rw [q4,zy]at hg;rw [q1];by_cases hk:c.nk=k
      · rw [if_pos hk]at hg;cases hg;exact⟨by simp only;omega,BV (ar.lV c 4) rk⟩
      · rw [if_neg hk,yr]at hg;split at hg
        · cases hg
        · exact g.o k fN vE t' hg
    · rw [q4,zy]at hk;rw [q2];by_cases cQ:c.nk=k
      · rw [<-cQ];exact me
      · rw [if_neg cQ,yr]at hk;split at hk
        · cases hk
        · exact wf.ap k x hk
  · obtain⟨x,hx⟩:=Option.isSome_iff_exists.1 (sY k hk).2
    have:=(wf.o k x.1 x.2.1 x.2.2 hx).1
    omega
  · obtain⟨rfl,rfl⟩:=one hk hg;exact kF x hx
  · refine iN β a w hB ho hr next Q' λb code n base w' r2 r0 r7 r8 => ?_
    obtain⟨r3,r4,r5,r6⟩:=r0;let an:Nat->Nat:=λk=>if k=c.nk then b else if k=c.nk+1 then code else if k=c.nk+2 then n else if k=c.nk+3 then base else β k;have Mc:an c.nk=b:=if_pos rfl;have Md:an (c.nk+1)=code:=by show (if c.nk+1=c.nk then b else if c.nk+1=c.nk+1 then code else _)=code;rw [if_neg (by omega),if_pos rfl]
    have IX:an (c.nk+2)=n:=by
      show (if c.nk+2=c.nk then b else if c.nk+2=c.nk+1 then code else if c.nk+2=c.nk+2 then n else _)=n;rw [if_neg (by omega),if_neg (by omega),if_pos rfl]
    have TH:an (c.nk+3)=base:=by
      show (if c.nk+3=c.nk then b else if c.nk+3=c.nk+1 then code else if c.nk+3=c.nk+2 then n else if c.nk+3=c.nk+3 then base else _)=base;rw [if_neg (by omega),if_neg (by omega),if_neg (by omega),if_pos rfl]
    have sZ:∀k,¬(c.nk<=k/\k<c.nk+4)->an k=β k:=λk hk=>by
      show (if k=c.nk then b else if k=c.nk+1 then code else if k=c.nk+2 then n else if k=c.nk+3 then base else β k)=β k;rw [if_neg (by omega),if_neg (by omega),if_neg (by omega),if_neg (by omega)]
    refine hn an _ _ (λ_ => ?_) ⟨r3,r4,r5,r6,λx hx Me=>r7 x hx Me,λk hk=>sZ k (by rw [q1]at hk;simp only at hk;omega),λk e' hk hg => ?_,λk k' e e' _ hk gE hg fx _ _ => ?_⟩
    · show _=(rowAt md c.nk).den U an;rw [Ko,Mc,Md,IX,TH]
    · obtain⟨rfl,rfl⟩:=one hk hg;refine⟨?_,λx hx => ?_⟩
      · simp only [Holds];rw [Mc,Md,IX,TH,vC (Env.ao c U) (λk hk=>sZ k (by omega)) rk];exact r2
      · simp only [bM,Mc,Md]at hx;split at hx
        · rename_i h2;simp only [Option.some.injEq]at hx;subst hx;rcases r8 h2 with h|⟨j,e,h3,h4,h5⟩
          · exact .inl h
          · refine .inr ⟨j,e,h3,h4,h5,.inr ?_⟩;rw [hm,if_neg (by have:=DZ (wf.eO h4);omega),AV j h3];simp only [if_pos h3]
        · cases hx
    · rw [(one hk hg).1,(one gE fx).1]
theorem Fs:∀(x y:CE) {i:Nat},i∈(cT x y).flatMap cO->i∈x.flatMap cO\/i∈y.flatMap cO
  | [],y,i,h=>.inr h
  | [.cu l],[],i,h=>.inl h
  | [.cu l],.cu l'::y,i,h=>by
    simp only [cT,List.flatMap_cons,cO,zd,List.mem_append,List.flatMap_nil,List.append_nil]at h ⊢;rcases h with (h|h)|h
    · exact .inl h
    · exact .inr (.inl h)
    · exact .inr (.inr h)
  | [.cu l],.var j::y,i,h=>by
    simp only [cT,List.flatMap_cons,List.mem_append,List.flatMap_nil,List.append_nil]at h ⊢;exact h
  | [.var j],y,i,h=>by
    simp only [cT,List.flatMap_cons,List.mem_append,List.flatMap_nil,List.append_nil]at h ⊢;exact h
  | .cu l::t::r,y,i,h=>by
    simp only [cT]at h;rw [List.flatMap_cons]at h ⊢;rcases List.mem_append.1 h with h|h
    · exact .inl (List.mem_append.2 (.inl h))
    · rcases Fs (t::r) y h with h|h
      · exact .inl (List.mem_append.2 (.inr h))
      · exact .inr h
  | .var j::t::r,y,i,h=>by
    simp only [cT]at h;rw [List.flatMap_cons]at h ⊢;rcases List.mem_append.1 h with h|h
    · exact .inl (List.mem_append.2 (.inl h))
    · rcases Fs (t::r) y h with h|h
      · exact .inl (List.mem_append.2 (.inr h))
      · exact .inr h
theorem TI{t:TypeId}{z:CV}(h:c_ P t=some z):∃i v,P.info? t=some i/\i.zero=some v/\∀U β,z.den U β=v:=by
  unfold c_ at h;cases hi:P.info? t with
  |none=>simp [hi]at h
  |some i =>
    simp only [hi]at h;cases hz:i.zero with
    |none=>simp [hz]at h
    |some v =>
      simp only [hz]at h;have h2:=λU β=>(SV.cM v ⟨0,0,0,0,0,0,0⟩ U β).2;generalize hs:SV.ofValue v=sv at h h2;cases sv with
      |cv x =>
        simp only [Option.some.injEq]at h;subst h;exact⟨i,v,rfl,hz,λU β=>h2 U β (by simp)⟩
      |_=>simp at h
def Src(W:eJ)(st:St)(sz:Nat)(y:SV)(add:CE)(c:ar)(U:Env):Prop :=
  ∀(J:Env) (β:Nat->Nat) (w:World),Env.aC c U J->dT W w->fV W st.m st.o (aE (aV y)) J β w ->
    ∃m,((y.den J β=.slice none 0 0/\m=0)\/∃a k,y.den J β=.slice (some a) m k/\∀j u,(aq J β add)[j]? = some u->w.cell? (a.add j)=some u)/\(aq J β add).length=m*sz
theorem W5{st:St}{sz:Nat}{i5:List Nat}{y:SV}{K:CE->ar->Env->Prop}{U:Env}(wf:st.WF)(i_:0 < sz)(hy:y.wf st.c=true)(h:wB (PA P W Q QM QP) st sz i5 y K U) :
    ∃add c' ag,K add c' ag/\st.c.le c'/\c'.nk=st.c.nk/\Env.aC st.c U ag/\cw c' add=true/\y ≠ .any/\Src W st sz y add c' ag /\
      ∀x∈add.flatMap cO,∃j e,j∈aE (aV y)/\aM st.m st.o j=some e/\x∈fe e:=by
  unfold wB at h;split at h
  · exact⟨[],_,U,h,ar.le_refl _,rfl,Env.ao _ _,rfl,by simp,λJ β w _ _ _=>⟨0,.inl ⟨rfl,rfl⟩,by simp [aq]⟩,λx hx=>by cases hx⟩
  · rename_i k off len cap;generalize hg:getM st.m k=u at h;split at h
    · rename_i cs t;split at h
      · rename_i hb;refine⟨_,_,U,h,ar.le_refl _,rfl,Env.ao _ _, ?_,by simp,λJ β w _ _ hr=>⟨len,.inr ⟨⟨β k,off,none⟩,cap,rfl,λj u hj => ?_⟩, ?_⟩,λx hx => ?_⟩
        · simp only [cw,List.all_cons,List.all_nil,Bool.and_true,Sg.wf];exact (zr (zr (wf.m k cs t hg).2 off).2 _).1
        · obtain⟨_,hh⟩:=hr k (by simp [aV,CV.cells,aE]) _ (o5 hg);simp only [aq,Sg.den,List.append_nil,List.getElem?_map,Option.map_eq_some_iff]at hj;obtain⟨a,ha,rfl⟩:=hj
          have yX:j<len*sz:=by
            rcases Nat.lt_or_ge j (len*sz)with h'|h'
            · exact h'
            · rw [List.getElem?_eq_none (by simp;omega)]at ha;cases ha
          rw [List.getElem?_take_of_lt yX,List.getElem?_drop]at ha;rw [uR,yW hh];simp [ha]
        · simp only [aq,Sg.den,List.append_nil,List.length_map,List.length_take,List.length_drop];omega
        · simp only [List.flatMap_cons,cO,List.flatMap_nil,List.append_nil]at hx;exact⟨k,_,by simp [aV,CV.cells,aE],o5 hg,Ch _ _ (Cg _ _ hx)⟩
      · exact h.elim
    · exact h.elim
  · rename_i k;generalize hg:aO st.o k=u at h;split at h
    · rename_i ce s t;split at h
      · rename_i hc;obtain⟨rfl,dt⟩:=hc;refine⟨ce,_,U,h,ar.le_refl _,rfl,Env.ao _ _,(wf.o k ce s t hg).2,by simp,λJ β w _ _ hr => ?_,λx hx=>⟨k,_,by simp [aV,CV.cells,aE],lb (wf.ap k _ hg) hg,hx⟩⟩;have bD:=(hr k (by simp [aV,CV.cells,aE]) _ (lb (wf.ap k _ hg) hg)).fz i_;refine⟨β (k+2), ?_,bD.1⟩;show (cG (β k) (β (k+1)) (β (k+2)) (β (k+3))=_/\_)\/∃a k',cG (β k) (β (k+1)) (β (k+2)) (β (k+3))=_/\_;unfold cG;by_cases h0:β (k+1)=0
        · rw [if_pos h0];refine .inl ⟨rfl, ?_⟩;rcases bD.2.2 with ⟨_,h1⟩|⟨h1,_⟩
          · exact h1
          · omega
        · rw [if_neg h0];refine .inr ⟨_,_,rfl,λj u hj => ?_⟩;have h1:=Li bD hj;rcases bD.2.2 with ⟨_,h2⟩|⟨_,h2,_⟩
          · have:(aq J β ce).length=0:=by rw [bD.1,h2];omega
            have:=(List.getElem?_eq_some_iff.1 hj).1
            omega
          · rw [uR,h2,Nat.zero_add];exact h1
      · exact h.elim
    · exact h.elim
  · rename_i x _ _ _
    have ext:∀ (s:Nat),(∀ J β an,x.den J β=x.den J an)->aE [x]=[]->x.wf st.c=true->(PA P W Q QM QP).It st.c.nl x sz (K [.var st.c.nl] {st.c with nl:=st.c.nl + 1}) U ->
        ∃add c' ag,K add c' ag/\st.c.le c'/\c'.nk=st.c.nk/\Env.aC st.c U ag/\cw c' add=true/\(SV.cv (.one x)) ≠ .any/\Src W st sz (.cv (.one x)) add c' ag /\
          ∀i∈add.flatMap cO,∃j e,j∈aE (aV (.cv (.one x)))/\aM st.m st.o j=some e/\i∈fe e:=by
      intro s mR Tn IY h;obtain⟨L,h1,h2⟩:=h;have hle:=ar.qO st.c 1;refine⟨_,_,_,h2,hle,rfl,tV st.c U L,by simp [cw,Sg.wf],by simp,λJ β w hl hB hr => ?_,λi hi=>by simp [cO]at hi⟩
      have e1:J.l st.c.nl=L:=by
        rw [hl.l st.c.nl (Nat.lt_succ_self _)];exact if_pos rfl
      have e2:aq J β [.var st.c.nl]=L.map (·.1):=by simp only [aq,Sg.den,List.append_nil,e1]
      have e3:x.den J β=x.den U b0:=by
        rw [At.aa (Env.aj hle (tV st.c U L) hl) (β:=β) (λ_ _=>rfl) IY];exact mR U β b0
      rw [e2];rcases h1 with ⟨h3,h4⟩|⟨a0,h3,h4⟩|⟨b,o,len,cap,h3,h4,h5⟩
      · exact⟨0,.inl ⟨e3.trans h3,rfl⟩,by rw [h4];simp⟩
      · exact⟨0,.inr ⟨a0,0,e3.trans h3,λj u hj=>by rw [h4]at hj;simp at hj⟩,by rw [h4];simp⟩
      · refine⟨len,.inr ⟨_,_,e3.trans h3,λj u hj => ?_⟩,h4⟩
        have:=h5 j u hj
        rw [uR];exact hB.cell this
    split at h
    · rename_i p ix s len cap;split at h
      · rename_i hc;exact ext 0 (λ_ _ _=>rfl) rfl hc.2 h
      · exact h.elim
    · rename_i q p s len cap;split at h
      · rename_i hc;exact ext 0 (λ_ _ _=>rfl) rfl hc.2 h
      · exact h.elim
    · exact h.elim
  · exact h.elim
theorem Mf{o:bA}{sz:Nat}{el:TypeId}{x:SV}{ce:CE}{i5:List Nat}(h:rowOf o sz el x=some (ce,i5)) :
  (x=.cv (.one .eR)/\ce=[]/\i5=[])\/∃k,x=.cv (.one (.own k))/\aO o k=some (ce,sz,el)/\i5=[k]:=by
 unfold rowOf at h;split at h
 ·simp only [Option.some.injEq,Prod.mk.injEq]at h;exact .inl ⟨rfl,h.1.symm,h.2.symm⟩
 ·rename_i k;split at h
  ·rename_i fN s t hg;split at h
   ·rename_i hc;obtain⟨rfl,rfl⟩:=hc;simp only [Option.some.injEq,Prod.mk.injEq]at h;obtain⟨rfl,rfl⟩:=h;exact .inr ⟨k,rfl,hg,rfl⟩
   ·cases h
  ·cases h
 ·cases h
theorem TJ{G:bV}{st:St}{o:Oper}{K:St->Env->Prop}{U:Env}(wf:st.WF)(h:AI (PA G.P W Q QM QP) G st o K U):rp G.P W st o K U:=by
 unfold AI at h;obtain⟨dst,op,type,pos,after,guard⟩:=o;cases op<;>first|exact h.elim|skip
 rename_i cl;obtain⟨callee,args,argTypes⟩:=cl;cases callee<;>first|exact h.elim|skip
 rename_i bi;cases bi<;>first|exact h.elim|skip
 simp only at h;generalize ha:args.toList=al at h;generalize ht:argTypes.toList=tl at h;split at h;rotate_left
 ·exact h.elim
 rename_i x y t t';have ea:args=#[x,y]:=by apply Array.ext';rw [ha]
 have et:argTypes=#[t,t']:=by apply Array.ext';rw [ht]
 subst ea et;generalize hu:G.P.underlying t=u at h;split at h;rotate_left
 ·exact h.elim
 rename_i el;generalize hi:G.P.info? el=u2 at h;generalize wV:c_ G.P el=u3 at h;split at h;rotate_left
 ·exact h.elim
 rename_i i z;split at h;rotate_left
 ·exact h.elim
 rename_i hc;obtain⟨rfl,c1,c2,c3⟩:=hc;generalize W6:rowOf st.o i.size el (st.ev x)=u4 at h;split at h;rotate_left
 ·exact h.elim
 rename_i ce i5
 obtain⟨add,ca,ρa,h,a1,a2,a3,a4,a5,a6,a7⟩:=W5 wf c1 (wf.ev y) h;obtain⟨nl,cb,kK,h,b1,b2,b3,b4,b5⟩:=AQ h;obtain⟨W7,h⟩:=za h;have hle:=ar.le_trans a1 b1;have dE:=Env.aj a1 a3 b3;unfold St.jn at h;split at h;rotate_left
 ·exact h.elim
 rename_i uY;obtain⟨h1,h2⟩:=ze h;have iR:=(kO {st with o:=(cb.nk,cT ce add,i.size,el)::bZ st.o i5} dst (.cv (.one (rowAt 0 cb.nk))) {cb with nk:=cb.nk+4}).1;refine⟨_,kK,.cv (.one (rowAt 0 cb.nk)),i5,h1,by rw [iR];exact ar.le_trans hle (ar.lV cb 4),dE,λJ hl => ?_⟩;rw [iR]at hl;have tZ:Env.aC cb kK J:=⟨hl.i,hl.b,hl.v,hl.p,hl.s,hl.l⟩
 have Ft:∀k,k∈aE (aV (st.ev x))\/k∈aE (aV (st.ev y))->k∈bd st ⟨dst,.call ⟨.builtin .append,#[x,y],#[t',t']⟩,type,pos,after,guard⟩:=λk hk=>by
  have app:∀(l1 l2:List At),aE (l1++l2)=aE l1++aE l2:=by
   intro l1 l2
   induction l1 with
   |nil=>rfl
   |cons a l1 ih=>cases a<;>simp [aE,ih]
  simp only [bd,List.map_cons,List.map_nil,List.flatMap_cons,List.flatMap_nil,List.append_nil,app];exact List.mem_append.2 hk
 have zC:=Mf W6
 have sY:∀k∈i5,k∈a8 st ⟨dst,.call ⟨.builtin .append,#[x,y],#[t',t']⟩,type,pos,after,guard⟩/\(aO st.o k).isSome=true:=λk hk=>by
  rcases zC with ⟨_,_,rfl⟩|⟨k0,hx,hg,rfl⟩
  ·cases hk
  ·simp only [List.mem_singleton]at hk;subst hk;exact⟨by simp [a8,hx,aV,CV.cells,aE],by rw [hg];rfl⟩
 refine Mb 0 wf hle (b2.trans a2) uY sY (λv hv=>.inr ?_) (λβ a w hB bE d_=>Fq ?_) h2
 ·simp only [fe]at hv;rcases Fs ce add hv with hv|hv
  ·rcases zC with ⟨_,rfl,_⟩|⟨k0,hx,hg,rfl⟩
   ·cases hv
   ·exact⟨k0,_,List.mem_append.2 (.inr (sY k0 (by simp)).1),lb (wf.ap k0 _ hg) hg,hv⟩
  ·obtain⟨j,e,j1,j2,j3⟩:=a7 v hv;exact⟨j,e,List.mem_append.2 (.inl (Ft j (.inr j1))),j2,j3⟩
 ·
  have hz:∃z0,i.zero=some z0/\z0.cells.size=i.size:=by
   obtain⟨i',v,q1,q2,q3⟩:=TI wV;rw [hi]at q1;cases q1;refine⟨v,q2, ?_⟩;rw [<-q3 J β,CV.bG];simpa using c2
  obtain⟨z0,Mg,TK⟩:=hz;have ey:=bE y (by simp [Op.operands,Call.operands]) a5
  have ex:a.eval x=(st.ev x).den J β:=bE x (by simp [Op.operands,Call.operands]) (by
   rcases zC with ⟨hx,_⟩|⟨k0,hx,_⟩<;>rw [hx]<;>simp)
  obtain⟨m,s1,s2⟩:=a6 J β w (Env.aj b1 b3 tZ) hB (λk hk e hg=>d_ k (List.mem_append.2 (.inl (Ft k (.inr hk)))) e hg);have hn:=b5 J β tZ;have Cn:nl.den J<=fU:=by rw [IE.aa tZ b4];exact W7
  rw [hn,EB,List.length_append,s2]at Cn;have oE:fv W w.heap.size:=fv.mk (.inr hB.size)
  obtain⟨b,code,n,base,hv,bD,oF⟩:∃b code n base,(st.ev x).den J β=cG b code n base/\gJ (fv W) b code n base (aq J β ce) i.size el w /\
    (2<=code->∃j e,j∈i5/\aM st.m st.o j=some e/\bM β j e=some b):=by
   rcases zC with ⟨hx,rfl,rfl⟩|⟨k0,hx,hg,rfl⟩
   ·exact⟨0,0,0,0,by rw [hx];rfl,⟨by simp [aq],c1,.inl ⟨by omega,rfl⟩⟩,λh=>by omega⟩
   ·have hE:=lb (wf.ap k0 _ hg) hg
    have:=d_ k0 (List.mem_append.2 (.inr (sY k0 (by simp)).1)) _ hE
    exact⟨β k0,β (k0+1),β (k0+2),β (k0+3),by rw [hx];rfl,bT.fz this c1,λh=>⟨k0,_,by simp,hE,by simp only [bM,h,if_true]⟩⟩
  have W8:n+m<=1073741824:=by
   rw [bD.1,<-Nat.add_mul,Nat.mul_div_cancel _ c1]at Cn;simp only [fU]at Cn;omega
  obtain⟨b',ll,nI,w',p1,p2,p3,p4,p5⟩:=L_ (P:=G.P) (t:=t') (ty:=type) w hu hi Mg rfl TK bD ((st.ev y).den J β) m (aq J β add) s1 s2 (vY J β add) (by simp [maxLen];omega)
   (by
    have h1:(n+m)*i.bytes<=1073741824*131072:=Nat.mul_le_mul W8 c3
    omega) oE
  refine⟨b',ll,n+m,nI,w', ?_,by rw [EB];exact .inl p2,p3,λk hk uX=>p4 k hk λh2 he => ?_,λh2 => ?_⟩
  ·simp [execOp,resolve,invoke,builtin,ex,ey,hv,p1,ow]
  ·obtain⟨j,e,j1,j2,j3⟩:=oF h2;exact uX j e j1 j2 (by rw [j3,he])
  ·rcases p5 h2 with h3|⟨h3,rfl⟩
   ·exact .inl h3
   ·obtain⟨j,e,j1,j2,j3⟩:=oF h3;exact .inr ⟨j,e,j1,j2,j3⟩
end Vc
set_option linter.unusedVariables false
namespace Vc
open Go Go.RowKit
variable {P:Program} {W:eJ} {Q:Value->Prop} {QM QP:World->Value->Prop}
theorem W9{ce:CE}{ix:IE}{sz off:Nat}{cs:List At}{p:Nat}(h:ia ce ix sz off=some (cs,p)):eo ce=some cs:=by
 unfold ia at h;split at h
 ·rename_i j jt h1;simp only [Option.some.injEq,Prod.mk.injEq]at h;rw [<-h.1];exact h1
 ·cases h
theorem Mh{α:Type}(A V:List α)(p n L:Nat)(h1:p+n<=L)(h2:L<=A.length)(hv:V.length=n):(A.take p++V++A.drop (p+n)).take L=(A.take L).take p++V++(A.take L).drop (p+n):=by
 apply List.ext_getElem?;intro i;simp only [List.getElem?_take,List.getElem?_append,List.length_take,List.length_append,List.getElem?_drop,hv];have a1:min p A.length=p:=Nat.min_eq_left (by omega);have a2:min p (min L A.length)=p:=by omega
 simp only [a1,a2];by_cases hi:i<L
 ·rw [if_pos hi];by_cases hp:i<p+n
  ·rw [if_pos hp,if_pos hp];by_cases hq:i<p
   ·simp only [hq,if_true];rw [if_pos hi]
   ·simp only [hq,if_false]
  ·rw [if_neg hp,if_neg hp,if_pos (by omega)]
 ·rw [if_neg hi];have hp:¬i<p+n:=by omega
  rw [if_neg hp,if_neg (by omega)]
theorem Mi{m:Mem}{o:bA}{k0:Nat}{ce fN:CE}{sz:Nat}{el:TypeId}(hm:getM m k0=none)(h:aO o k0=some (ce,sz,el))(k:Nat):aM m (dS o k0 fN) k=if k0=k then some (.row fN sz el)else aM m o k:=by
 unfold aM;rw [Cd];by_cases hk:k0=k
 ·subst hk;rw [if_pos rfl,if_pos rfl,hm,h];rfl
 ·rw [if_neg hk,if_neg hk]
theorem D3{st:St}{o:Oper}{U:Env}{k0:Nat}{ce fN:CE}{sz:Nat}{el:TypeId}{c:ar}(wf:st.WF)(hle:st.c.le c)(uX:c.nk=st.c.nk)(dL:aO st.o k0=some (ce,sz,el))(lj:k0∈a8 st o)(h3:cw c fN=true)
  (kF:∀x∈fN.flatMap cO,x∈di st o\/x∈ce.flatMap cO)
  (h4:∀(β:Nat->Nat) (a:Act) (w:World),dV st o U β a->Holds W U β k0 (.row ce sz el) w ->
   ∃w',(execOp a.eval o).run P w=.ok .skip w'/\Holds W U β k0 (.row fN sz el) w'/\(w'.os=w.os/\w'.tape=w.tape/\w'.output=w.output/\w.heap.size<=w'.heap.size)/\(∀b,b<w.heap.size->bM β k0 (.row ce sz el)≠some b->w'.heap[b]? = w.heap[b]?))
  (h5:ji {st with o:=dS st.o k0 fN} o.dst .any c):iO P W st o U ({st with o:=dS st.o k0 fN}.cd o.dst .any c) .any [k0]:=by
 obtain⟨q1,q2,q3,q4,q5,q6⟩:=kO {st with o:=dS st.o k0 fN} o.dst .any c;have me:=wf.ap k0 _ dL
 have hm:∀k,aM ({st with o:=dS st.o k0 fN}.cd o.dst .any c).m ({st with o:=dS st.o k0 fN}.cd o.dst .any c).o k=if k0=k then some (.row fN sz el)else aM st.m st.o k:=λk=>by
  rw [q2,q4];exact Mi me dL k
 have oc:=(wf.o k0 ce sz el dL).1;have g:=wf.grow hle;refine⟨λhk=>by rw [(zk _ _ _ _).1];exact hk,(zk _ _ _ _).2,q3,q5,q6,by rw [q1];exact hle, ?_,λt'=>zl _ o.dst _ _ t',λd hd=>(h5 d hd).1,λk hk => ?_,λk _ hk => ?_,λk e' hk hg x hx => ?_,λβ a w hB ho hr _ next Q' hn => ?_⟩
 ·refine⟨λi => ?_,by rw [q2,q1];exact g.m,λk L2 L3 t2 hg => ?_,λk x hk => ?_,by rw [q5,q1];exact g.r,by rw [q6,q1];exact g.d,by rw [(zk _ _ _ _).1,q1];exact g.k,by rw [(zk _ _ _ _).2,q1];exact g.df⟩
  ·rw [zl,q1];by_cases hd:o.dst=some i
   ·rw [if_pos hd];rfl
   ·rw [if_neg hd];exact g.t i
  ·rw [q4,Cd]at hg;rw [q1];by_cases hk:k0=k
   ·subst hk;rw [if_pos rfl,dL]at hg;simp only [Option.map_some,Option.some.injEq,Prod.mk.injEq]at hg;obtain⟨rfl,rfl,rfl⟩:=hg;exact⟨by omega,h3⟩
   ·rw [if_neg hk]at hg;exact g.o k L2 L3 t2 hg
  ·rw [q4,Cd]at hk;rw [q2];by_cases cQ:k0=k
   ·subst cQ;exact me
   ·rw [if_neg cQ]at hk;exact wf.ap k x hk
 ·simp only [List.mem_singleton]at hk;subst hk;exact⟨lj,by omega⟩
 ·rw [hm,if_neg (λe=>hk (by simp [e]))]
 ·rw [hm]at hg;by_cases cQ:k0=k
  ·rw [if_pos cQ]at hg;cases hg;rcases kF x hx with h|h
   ·exact .inl h
   ·exact .inr ⟨k0,_,List.mem_append.2 (.inr lj),lb me dL,h⟩
  ·rw [if_neg cQ]at hg;rcases hk with hk|hk
   ·simp only [List.mem_singleton]at hk;exact (cQ hk.symm).elim
   ·rw [wf.beyond hk]at hg;cases hg
 ·have hold:=hr k0 (List.mem_append.2 (.inr lj)) _ (lb me dL);obtain⟨w',r1,r2,⟨r3,r4,r5,r6⟩,r7⟩:=h4 β a w ho hold;unfold Oper.wp;rw [r1,Oper.upon_skip];refine hn β _ _ (λh=>(h rfl).elim) ⟨r3,r4,r5,r6,λb hb sX=>r7 b hb (sX k0 _ (by simp) (lb me dL)),λ_ _=>rfl,λk e' hk hg => ?_,λk k' e e' _ hk gE hg fx _ _ => ?_⟩
  ·rw [hm]at hg;by_cases cQ:k0=k
   ·rw [if_pos cQ]at hg;cases hg;subst cQ;exact⟨r2,λb hb=>.inr ⟨k0,_,by simp,lb me dL,hb,.inl rfl⟩⟩
   ·rw [if_neg cQ]at hg;rcases hk with hk|hk
    ·simp only [List.mem_singleton]at hk;exact (cQ hk.symm).elim
    ·rw [wf.beyond hk]at hg;cases hg
  ·have one:∀{k e},(k ∈ [k0]\/st.c.nk<=k)->aM ({st with o:=dS st.o k0 fN}.cd o.dst .any c).m ({st with o:=dS st.o k0 fN}.cd o.dst .any c).o k=some e->k=k0:=by
    intro k e hk hg;rcases hk with hk|hk
    ·simpa using hk
    ·rw [hm,if_neg (by omega),wf.beyond hk]at hg;cases hg
   rw [one hk hg,one gE fx]
theorem TL{lo:Nat->Prop}{w:World}{z:Array Value}{n c sz:Nat}{el:TypeId}(hs:0<sz)(hz:z.size=sz)(oE:lo w.heap.size)(hc:c<=maxLen)(hn:n=0\/n=c) :
  gJ lo w.heap.size (c+1) n 0 (times z.toList n) sz el (w.alloc (.cells (madeCells z (c*sz)) el)):=by
 refine⟨by rw [IT];simp [hz],hs, ?_⟩;by_cases h0:c=0
 ·exact .inl ⟨by omega,by omega⟩
 ·refine .inr ⟨by omega,rfl,oE,by omega,by simpa using hc,madeCells z (c*sz),heap_alloc_new w _,by simp [size_madeCells], ?_⟩
  have nL:madeCells z (c*sz)=(times z.toList c).toArray:=by
   rw [<-hz];exact Tj z c (by omega)
  rw [nL];rcases hn with rfl|rfl
  ·simp [times]
  ·have:(times z.toList n).length=n*sz:=by rw [IT];simp [hz]
   rw [<-this,List.take_length]
theorem Mj{s:Sem Value}{w w':World}{v:Value}(h:s.run P w=.ok v w'):((do pure (Next.value (<-s))):Sem Next).run P w=.ok (.value v) w':=by
 simp [h]
theorem IZ(l:List Value)(H:∀x:{x // x∈l},x.1.oneCell'=true):(l.attach.map λx=>(⟨x.1,H x⟩:OV)).map (λy:OV=>y.1)=l:=by
 rw [List.map_map];exact List.attach_map_subtype_val l
theorem W_{s d e:TypeId}(h:gH P s d=some e):P.underlying s=some .string/\P.underlying d=some (.slice e)/\P.underlying e=some (.int .u8):=by
 unfold gH at h;split at h
 ·rename_i h1 h2;split at h
  ·rename_i h3;simp only [Option.some.injEq]at h;subst h;exact⟨h1,h2,h3⟩
  ·cases h
 ·cases h
theorem Mk(l:List UInt8):aN (nr l)=[]:=by
 induction l with
 |nil=>rfl
 |cons b l ih=>simpa [nr,aN]using ih
theorem Ml(U:Env)(β:Nat->Nat)(l:List UInt8):(nr l).map (At.den U β)=l.map DK:=by
 simp only [nr,List.map_map];rfl
theorem TM{c:ar}:∀{ce:CE} {cs:List At},eo ce=some cs->cw c ce=true->cs.all (At.wf c)=true/\∀y∈aN cs,y∈ce.flatMap cO
  | [],cs,h,_=>by simp only [eo,Option.some.injEq]at h;subst h;exact⟨rfl,λy hy=>by cases hy⟩
  | .var j::r,cs,h,_=>by simp [eo]at h
  | .cu l::r,cs,h,hw=>by
    simp only [eo,Option.map_eq_some_iff]at h;obtain⟨l',h1,rfl⟩:=h;simp only [cw,List.all_cons,Bool.and_eq_true]at hw;obtain⟨i1,i2⟩:=TM h1 (show cw c r=true from hw.2);have hl:l.all (At.wf c)=true:=hw.1;refine⟨by rw [List.all_append,hl,i1];rfl,λy hy => ?_⟩;rw [zd]at hy;rw [List.flatMap_cons];rcases List.mem_append.1 hy with hy|hy
    · exact List.mem_append.2 (.inl hy)
    · exact List.mem_append.2 (.inr (i2 y hy))
theorem TN{G:bV}{st:St}{o:Oper}{K:St->Env->Prop}{U:Env}(wf:st.WF){t:TypeId}{m k v:Operand}(ho:o.op=.mapUpdate t m k v\/o.op=.insert t m k v)
    (h:k9 (PA G.P W Q QM QP) G st o.dst t (st.ev m) (st.ev k) (st.ev v) K U):rp G.P W st o K U:=by
  unfold k9 at h;generalize hx:gg G.P t=u1 at h;generalize hm:st.ev m=sm at h;generalize hk:st.ev k=sk at h;generalize hv:st.ev v=sv at h;split at h;rotate_left
  · exact h.elim
  rename_i x j kv vv;generalize hg:aO st.o j=u2 at h;split at h;rotate_left
  · exact h.elim
  rename_i ce sz tc;generalize rk:eo ce=u4 at h;split at h;rotate_left
  · clear rk;split at h;rotate_left
    · exact h.elim
    rename_i hc;obtain⟨c1,c2,rfl,rfl,c5,c6⟩:=hc;obtain⟨g1,g2,g3,g4,g5,a_,h1,oC,oD⟩:=S9 h;obtain⟨m1,m2,m3,m4,m5,m6,m7,m8⟩:=ym hx;have fA:st.c.le {st.c with ni:=st.c.ni+1}:=ar.tH st.c 1;have IM:cw {st.c with ni:=st.c.ni+1} ce=true:=BV fA g4;have wk:kv.wf st.c=true:=by have:=wf.ev k;rw [hk]at this;exact this
    have wv:vv.wf st.c=true:=by have:=wf.ev v;rw [hv]at this;exact this
    have lj:j∈a8 st o:=by rcases ho with ho|ho<;>simp [a8,ho,hm,aV,CV.cells,aE]
    have I0:di st o=aN kv.cells++aN vv.cells:=by rcases ho with ho|ho<;>simp [di,ho,hk,hv,eX]
    have run:∀ (J:Env),Env.aC {st.c with ni:=st.c.ni + 1} a_ J->∀ (β:Nat->Nat) (a:Act) (w:World) (fN:CE),dV st o J β a->Holds W J β j (.row ce 0 x.no) w ->
        aq J β fN=(match cB x.ks.length (x.ks.length+x.ne) (kv.cells.map (At.den J β)) (aq J β ce).length (aq J β ce)with
          |some i=>(aq J β ce).take (i*(x.ks.length+x.ne)+x.ks.length)++vv.cells.map (At.den J β)++(aq J β ce).drop (i*(x.ks.length+x.ne)+x.ks.length+x.ne)
          |none=>aq J β ce++(kv.cells.map (At.den J β)++vv.cells.map (At.den J β))) ->
        ∃w',(execOp a.eval o).run G.P w=.ok .skip w'/\Holds W J β j (.row fN 0 x.no) w'/\(w'.os=w.os/\w'.tape=w.tape/\w'.output=w.output/\w.heap.size<=w'.heap.size)/\(∀b,b<w.heap.size->bM β j (.row ce 0 x.no)≠some b->w'.heap[b]? = w.heap[b]?):=by
      intro J hl β a w fN bE bD nM;have e1:=bE m (by rcases ho with ho|ho<;>rw [ho]<;>simp [Op.operands]) (by rw [hm];simp);have e2:=bE k (by rcases ho with ho|ho<;>rw [ho]<;>simp [Op.operands]) (by rw [hk];simp);have e3:=bE v (by rcases ho with ho|ho<;>rw [ho]<;>simp [Op.operands]) (by rw [hv];simp);rw [hm]at e1;rw [hk]at e2;rw [hv]at e3;have Ci:a.eval m=.map (some (β j)):=e1;have Cj:a.eval k=kv.den J β:=e2;have Mm:a.eval v=vv.den J β:=e3;rcases bD with bD|⟨_,own,code,Mn⟩
      · exact absurd bD.2.1 (by omega)
      obtain⟨es,clock,hb,eM,gW⟩:=(yY hx).1 Mn;obtain⟨k1,k2⟩:=IL hx c1 J β
      have hlen:es.toList.length<=(aq J β ce).length:=by
        rw [<-eM,E8 es.toList gW];exact Nat.le_mul_of_pos_right _ (by omega)
      obtain⟨f1,f2⟩:=Lt hx g1 (w:=w) k1 es.toList _ 0 hlen gW (by rw [eM];exact (oD J hl β).1);rw [eM]at f1 f2;generalize wP:cB x.ks.length (x.ks.length+x.ne) (kv.cells.map (At.den J β)) (aq J β ce).length (aq J β ce)=r0 at f1 f2 nM
      have Co:=S6 hx hb (vv:=vv.den J β) k1 k2 f1 (λi v' hr=>by
        simp only [Option.map_eq_some_iff,Prod.mk.injEq,Nat.zero_add]at hr;obtain⟨j0,yp,rfl,_⟩:=hr;exact f2 _ yp)
      obtain⟨Fu,_⟩:=uS c1 J β;obtain⟨Fv,_⟩:=uS c2 J β;have ct:β j<w.heap.size:=uV hb
      have fin:∀ (uZ:Array MapEntry) (jb:Nat),(Instr.mapUpdate t (.map (some (β j))) (kv.den J β) (vv.den J β)).run G.P w=.ok () {w with heap:=w.heap.setIfInBounds (β j) (.map uZ jb)} ->
          uZ.toList.flatMap aJ=aq J β fN->(∀e∈uZ.toList,dJ (cZ x.gk x.ks.length) e.key/\dJ (cZ x.ge x.ne) e.val) ->
          ∃w',(execOp a.eval o).run G.P w=.ok .skip w'/\Holds W J β j (.row fN 0 x.no) w'/\(w'.os=w.os/\w'.tape=w.tape/\w'.output=w.output/\w.heap.size<=w'.heap.size)/\(∀b,b<w.heap.size->bM β j (.row ce 0 x.no)≠some b->w'.heap[b]? = w.heap[b]?):=by
        intro uZ jb iN nL Cp;refine⟨{w with heap:=w.heap.setIfInBounds (β j) (.map uZ jb)}, ?_,.inr ⟨rfl,own,code,(yY hx).2 ⟨uZ,jb, ?_,nL,Cp⟩⟩,⟨rfl,rfl,rfl,by simp⟩,λb gy sX => ?_⟩
        · rcases ho with ho|ho<;>simp only [execOp,ho,Ci,Cj,Mm,Sem.run_bind,iN,Result.andThen_ok,Sem.run_pure]
        · simp [ct]
        · have dt:β j≠b:=λhe=>sX (by simp only [bM,code,if_true,he]);exact Array.getElem?_setIfInBounds_ne dt
      cases r0 with
      |none =>
        simp only at nM;refine fin _ _ Co ?_ λe he => ?_
        · rw [nM];simp only [Array.toList_push,List.flatMap_append,eM,List.flatMap_cons,List.flatMap_nil,List.append_nil,aJ,CV.bG]
        · simp only [Array.toList_push,List.mem_append,List.mem_singleton]at he;rcases he with he|rfl
          · exact gW e he
          · exact⟨Fu,Fv⟩
      |some i =>
        obtain⟨e,q1,q2,q3⟩:=f2 i rfl;simp only at nM;simp only [Option.map_some,Nat.zero_add]at Co;refine fin _ _ Co ?_ λe' he => ?_
        · rw [nM,Array.toList_modify,Lp es.toList i q1 q2 gW,eM,CV.bG]
        · rw [Array.toList_modify]at he;obtain⟨n,hn⟩:=List.mem_iff_getElem?.1 he;rw [List.getElem?_modify]at hn;simp only [Option.map_eq_map,Option.map_eq_some_iff]at hn;obtain⟨e0,h0,rfl⟩:=hn
          have:=gW e0 (List.mem_of_getElem? h0)
          split
          · exact⟨Fu,Fv⟩
          · exact this
    have Cq:vv.cells.length=x.ne:=(uS c2 U b0).2;have IG:(IE.var st.c.ni).wf {st.c with ni:=st.c.ni+1}=true:=by show decide (st.c.ni<st.c.ni+1)=true;simp
    rcases zt h1 with ⟨e1,h1⟩|⟨e1,h1⟩
    ·
      have u7:∀v∈(LP.set ce (IE.var st.c.ni) (x.ks.length+x.ne) x.ks.length vv.cells).den a_,v.oneCell'=true:=λv hv=>by
        simp only [LP.den,List.mem_append]at hv;rcases hv with (hv|hv)|hv
        · exact vY _ _ _ _ (List.mem_of_mem_take hv)
        · obtain⟨a,_,rfl⟩:=List.mem_map.1 hv;exact At.hJ _ _ _
        · exact vY _ _ _ _ (List.mem_of_mem_drop hv)
      have hL:=h1 (((LP.set ce (IE.var st.c.ni) (x.ks.length+x.ne) x.ks.length vv.cells).den a_).attach.map λy=>(⟨y.1,u7 y.1 y.2⟩:OV)) (IZ _ λx=>u7 x.1 x.2);generalize Xa:(((LP.set ce (IE.var st.c.ni) (x.ks.length+x.ne) x.ks.length vv.cells).den a_).attach.map λy=>(⟨y.1,u7 y.1 y.2⟩:OV))=L at hL;have Xb:L.map (·.1)=(LP.set ce (IE.var st.c.ni) (x.ks.length+x.ne) x.ks.length vv.cells).den a_:=by rw [<-Xa];exact IZ _ λx=>u7 x.1 x.2
      obtain⟨p1,p2⟩:=ze hL;have iR:=(kO {st with o:=dS st.o j [.var st.c.nl]} o.dst .any {st.c with ni:=st.c.ni+1,nl:=st.c.nl+1}).1;have nJ:ar.le {st.c with ni:=st.c.ni+1} {st.c with ni:=st.c.ni+1,nl:=st.c.nl+1}:=ar.qO {st.c with ni:=st.c.ni+1} 1;refine⟨_,a_.kP st.c.nl L,.any,[j],p1,by rw [iR];exact ar.le_trans fA nJ,Env.aj fA oC (tV {st.c with ni:=st.c.ni+1} a_ L),λJ dE => ?_⟩;rw [iR]at dE;have wY:Env.aC {st.c with ni:=st.c.ni+1} a_ J:=Env.aj nJ (tV {st.c with ni:=st.c.ni+1} a_ L) dE;refine D3 wf (ar.le_trans fA nJ) rfl hg lj ?_ (λy fP => ?_) (λβ a w bE bD=>run J wY β a w _ bE bD ?_) p2
      · simp [cw,Sg.wf]
      · simp [cO]at fP
      · have gj:J.l st.c.nl=L:=by
          have:=dE.l st.c.nl (by show st.c.nl<st.c.nl+1;omega)
          rw [this];simp [Env.kP]
        have iE:=(oD J wY β).2;have e0:(IE.var st.c.ni).den J=(IE.var st.c.ni).den a_:=IE.aa wY IG
        have kq:0<=(IE.var st.c.ni).den J:=by
          rw [e0];simpa [BE.den,iz,IE.den]using e1
        unfold gh at iE;cases wP:cB x.ks.length (x.ks.length+x.ne) (kv.cells.map (At.den J β)) (aq J β ce).length (aq J β ce)with
        |none=>rw [wP]at iE;simp only at iE;omega
        |some i =>
          rw [wP]at iE;simp only at iE;have D4:((IE.var st.c.ni).den a_).toNat=i:=by rw [<-e0,iE];rfl
          have q1:aq a_ b0 ce=aq J β ce:=by rw [B' a_ b0 β g2,vC (β:=β) (an:=β) wY (λ_ _=>rfl) IM]
          have q2:vv.cells.map (At.den a_ b0)=vv.cells.map (At.den J β):=by
            have Mo:vv.cells.all At.flat=true:=by
              cases vv with
              |one a=>simpa [CV.cells,CV.flat]using c5
              |agg l=>exact c5
            rw [DQ a_ b0 β Mo,yJ (β:=β) (an:=β) wY (λ_ _=>rfl) (List.all_eq_true.2 λy hy=>At.aU fA (List.all_eq_true.1 (CV.dK wv) y hy))]
          simp only [aq,Sg.den,List.append_nil,gj,Xb,LP.den,q1,q2,D4,Cq]
    ·
      obtain⟨p1,p2⟩:=ze h1;have iR:=(kO {st with o:=dS st.o j (cT ce [.cu (kv.cells++vv.cells)])} o.dst .any {st.c with ni:=st.c.ni+1}).1;refine⟨_,a_,.any,[j],p1,by rw [iR];exact fA,oC,λJ dE => ?_⟩;rw [iR]at dE;refine D3 wf fA rfl hg lj ?_ (λy fP => ?_) (λβ a w bE bD=>run J dE β a w _ bE bD ?_) p2
      · refine Kq _ _ _ IM ?_;simp only [cw,List.all_cons,List.all_nil,Bool.and_true,Sg.wf,List.all_append];rw [List.all_eq_true.2 λy hy=>At.aU fA (List.all_eq_true.1 (CV.dK wk) y hy),List.all_eq_true.2 λy hy=>At.aU fA (List.all_eq_true.1 (CV.dK wv) y hy)];rfl
      · rcases Fs _ _ fP with fP|fP
        · exact .inr fP
        · simp only [List.flatMap_cons,cO,List.flatMap_nil,List.append_nil,zd]at fP;rw [I0];exact .inl fP
      · have iE:=(oD J dE β).2;have e0:(IE.var st.c.ni).den J=(IE.var st.c.ni).den a_:=IE.aa dE IG
        have kq:¬0<=(IE.var st.c.ni).den J:=by
          rw [e0];simpa [BE.den,iz,IE.den]using e1
        unfold gh at iE;cases wP:cB x.ks.length (x.ks.length+x.ne) (kv.cells.map (At.den J β)) (aq J β ce).length (aq J β ce)with
        |some i=>rw [wP]at iE;simp only at iE;omega
        |none=>simp only [EB,aq,Sg.den,List.append_nil,List.map_append]
  rename_i cs;split at h;rotate_left
  · exact h.elim
  rename_i hc;obtain⟨c1,c2,rfl,rfl⟩:=hc;obtain⟨r,h1,h2⟩:=Lm hx _ _ _ h;have wk:kv.wf st.c=true:=by have:=wf.ev k;rw [hk]at this;exact this
  have wv:vv.wf st.c=true:=by have:=wf.ev v;rw [hv]at this;exact this
  have lj:j∈a8 st o:=by rcases ho with ho|ho<;>simp [a8,ho,hm,aV,CV.cells,aE]
  have I0:di st o=aN kv.cells++aN vv.cells:=by rcases ho with ho|ho<;>simp [di,ho,hk,hv,eX]
  obtain⟨Fw,Mp⟩:=TM rk (wf.o j ce _ _ hg).2
  have run:∀ (J:Env),Env.aC st.c U J->∀ (β:Nat->Nat) (a:Act) (w:World) (fN:CE),dV st o J β a->Holds W J β j (.row ce 0 x.no) w ->
      aq J β fN=(match r with
        |some (i,_)=>(cs.map (At.den J β)).take (i*(x.ks.length+x.ne)+x.ks.length)++vv.cells.map (At.den J β)++(cs.map (At.den J β)).drop (i*(x.ks.length+x.ne)+x.ks.length+x.ne)
        |none=>cs.map (At.den J β)++(kv.cells.map (At.den J β)++vv.cells.map (At.den J β))) ->
      ∃w',(execOp a.eval o).run G.P w=.ok .skip w'/\Holds W J β j (.row fN 0 x.no) w'/\(w'.os=w.os/\w'.tape=w.tape/\w'.output=w.output/\w.heap.size<=w'.heap.size)/\(∀b,b<w.heap.size->bM β j (.row ce 0 x.no)≠some b->w'.heap[b]? = w.heap[b]?):=by
    intro J hl β a w fN bE bD nM;have e1:=bE m (by rcases ho with ho|ho<;>rw [ho]<;>simp [Op.operands]) (by rw [hm];simp);have e2:=bE k (by rcases ho with ho|ho<;>rw [ho]<;>simp [Op.operands]) (by rw [hk];simp);have e3:=bE v (by rcases ho with ho|ho<;>rw [ho]<;>simp [Op.operands]) (by rw [hv];simp);rw [hm]at e1;rw [hk]at e2;rw [hv]at e3;have Ci:a.eval m=.map (some (β j)):=e1;have Cj:a.eval k=kv.den J β:=e2;have Mm:a.eval v=vv.den J β:=e3;rcases bD with bD|⟨_,own,code,Mn⟩
    · exact absurd bD.2.1 (by omega)
    obtain⟨es,clock,hb,eM,gW⟩:=(yY hx).1 Mn;rw [EC J β rk]at eM;obtain⟨k1,k2⟩:=IL hx c1 J β;obtain⟨f1,f2⟩:=h2 J hl β w _ es.toList k1 eM gW
    have Co:=S6 hx hb (vv:=vv.den J β) k1 k2 f1 (λi v' hr=>by
      cases r with
      |none=>cases hr
      |some q =>
        simp only [Option.map_some,Option.some.injEq,Prod.mk.injEq,Nat.zero_add]at hr;obtain⟨rfl,_⟩:=hr;exact f2 q.1 q.2 rfl)
    obtain⟨Fu,_⟩:=uS c1 J β;obtain⟨Fv,_⟩:=uS c2 J β;have ct:β j<w.heap.size:=uV hb
    have fin:∀ (uZ:Array MapEntry) (jb:Nat),(Instr.mapUpdate t (.map (some (β j))) (kv.den J β) (vv.den J β)).run G.P w=.ok () {w with heap:=w.heap.setIfInBounds (β j) (.map uZ jb)} ->
        uZ.toList.flatMap aJ=aq J β fN->(∀e∈uZ.toList,dJ (cZ x.gk x.ks.length) e.key/\dJ (cZ x.ge x.ne) e.val) ->
        ∃w',(execOp a.eval o).run G.P w=.ok .skip w'/\Holds W J β j (.row fN 0 x.no) w'/\(w'.os=w.os/\w'.tape=w.tape/\w'.output=w.output/\w.heap.size<=w'.heap.size)/\(∀b,b<w.heap.size->bM β j (.row ce 0 x.no)≠some b->w'.heap[b]? = w.heap[b]?):=by
      intro uZ jb iN nL Cp;refine⟨{w with heap:=w.heap.setIfInBounds (β j) (.map uZ jb)}, ?_,.inr ⟨rfl,own,code,(yY hx).2 ⟨uZ,jb, ?_,nL,Cp⟩⟩,⟨rfl,rfl,rfl,by simp⟩,λb gy sX => ?_⟩
      · rcases ho with ho|ho<;>simp only [execOp,ho,Ci,Cj,Mm,Sem.run_bind,iN,Result.andThen_ok,Sem.run_pure]
      · simp [ct]
      · have dt:β j≠b:=λhe=>sX (by simp only [bM,code,if_true,he]);exact Array.getElem?_setIfInBounds_ne dt
    cases r with
    |none =>
      refine fin _ _ Co ?_ λe he => ?_
      · rw [nM];simp only [Array.toList_push,List.flatMap_append,eM,List.flatMap_cons,List.flatMap_nil,List.append_nil,aJ,CV.bG]
      · simp only [Array.toList_push,List.mem_append,List.mem_singleton]at he;rcases he with he|rfl
        · exact gW e he
        · exact⟨Fu,Fv⟩
    |some q =>
      obtain⟨i,vs⟩:=q;obtain⟨e,g1,g2,g3⟩:=f2 i vs rfl;simp only [Option.map_some,Nat.zero_add]at Co;refine fin _ _ Co ?_ λe' he => ?_
      · rw [nM,Array.toList_modify,Lp es.toList i g1 g2 gW,eM,CV.bG]
      · rw [Array.toList_modify]at he;obtain⟨n,hn⟩:=List.mem_iff_getElem?.1 he;rw [List.getElem?_modify]at hn;simp only [Option.map_eq_map,Option.map_eq_some_iff]at hn;obtain⟨e0,h0,rfl⟩:=hn
        have:=gW e0 (List.mem_of_getElem? h0)
        split
        · exact⟨Fu,Fv⟩
        · exact this
  cases r with
  |none =>
    obtain⟨p1,p2⟩:=ze h1;have iR:=(kO {st with o:=dS st.o j [.cu (cs++(kv.cells++vv.cells))]} o.dst .any st.c).1;refine⟨_,U,.any,[j],p1,by rw [iR];exact ar.le_refl _,Env.ao _ _,λJ dE => ?_⟩;rw [iR]at dE;refine D3 wf (ar.le_refl _) rfl hg lj ?_ (λy fP => ?_) (λβ a w bE bD=>run J dE β a w _ bE bD ?_) p2
    · simp only [cw,List.all_cons,List.all_nil,Bool.and_true,Sg.wf,List.all_append,Fw,CV.dK wk,CV.dK wv,Bool.and_self]
    · simp only [List.flatMap_cons,cO,List.flatMap_nil,List.append_nil,zd]at fP;rw [I0];rcases List.mem_append.1 fP with fP|fP
      · exact .inr (Mp y fP)
      · exact .inl fP
    · simp only [aq,Sg.den,List.append_nil,List.map_append]
  |some q =>
    obtain⟨i,vs⟩:=q;simp only [Nat.zero_add]at h1;obtain⟨p1,p2⟩:=ze h1;have iR:=(kO {st with o:=dS st.o j [.cu (cs.take (i*(x.ks.length+x.ne)+x.ks.length)++vv.cells++cs.drop (i*(x.ks.length+x.ne)+x.ks.length+x.ne))]} o.dst .any st.c).1;refine⟨_,U,.any,[j],p1,by rw [iR];exact ar.le_refl _,Env.ao _ _,λJ dE => ?_⟩;rw [iR]at dE;refine D3 wf (ar.le_refl _) rfl hg lj ?_ (λy fP => ?_) (λβ a w bE bD=>run J dE β a w _ bE bD ?_) p2
    · simp only [cw,List.all_cons,List.all_nil,Bool.and_true,Sg.wf,List.all_append,(zr Fw _).1,(zr Fw (i*(x.ks.length+x.ne)+x.ks.length+x.ne)).2,CV.dK wv,Bool.and_self]
    · simp only [List.flatMap_cons,cO,List.flatMap_nil,List.append_nil,zd]at fP;rw [I0];rcases List.mem_append.1 fP with fP|fP
      · rcases List.mem_append.1 fP with fP|fP
        · exact .inr (Mp y (Cg _ _ fP))
        · exact .inl (List.mem_append.2 (.inr fP))
      · exact .inr (Mp y (Ch _ _ fP))
    · simp only [aq,Sg.den,List.append_nil,List.map_append,List.map_take,List.map_drop]
theorem Xc{G:bV}(hG:G.Ok){st:St}{o:Oper}{K:St->Env->Prop}{U:Env}(wf:st.WF){g:Operand}{args:Array Operand}{cu:Array TypeId}(ho:o.op=.call ⟨.value g,args,cu⟩){f:FuncId}(hg:st.ev g=.cv (.one (.fn f [])))
  (h:sS (PA G.P W Q QM QP) G st o.dst f (args.toList.map st.ev) K U):rp G.P W st o K U:=by
 unfold sS at h;generalize cH:args.toList.map st.ev=all at h;split at h;rotate_left
 ·exact h.elim
 rename_i k ik k2 off n cp;generalize jr:aO st.o k=u1 at h;generalize tY:getM st.m k2=u2 at h;split at h;rotate_left
 ·exact h.elim
 rename_i ce sz t cs t2;split at h;rotate_left
 ·exact h.elim
 rename_i hc;obtain⟨c1,c2,c3,c4⟩:=hc;obtain⟨h1,h⟩:=h;unfold St.jn at h;split at h;rotate_left
 ·exact h.elim
 rename_i uY;obtain⟨p1,p2⟩:=ze h;have iR:=(kO {st with o:=(st.c.nk,cT [.cu ((cs.drop off).take (n*sz))] ce,sz,t)::bZ st.o [k]} o.dst (.cv (.one (rowAt 0 st.c.nk))) {st.c with nk:=st.c.nk+4}).1;refine⟨_,U,.cv (.one (rowAt 0 st.c.nk)),[k],p1,by rw [iR];exact ar.lV st.c 4,Env.ao _ _,λJ hl => ?_⟩;rw [iR]at hl;have tZ:Env.aC st.c U J:=⟨hl.i,hl.b,hl.v,hl.p,hl.s,hl.l⟩
 have Fx:bd st o=aE (cC st.m st.o (SV.cv (.one (.own k))::SV.cv (.one (.int ik (.lit 0)))::SV.cv (.one (.gP k2 off n cp)) :: [])):=by
  simp only [bd,ho,hg,List.map_nil,List.append_nil,cH]
 have wW:a8 st o=eW (SV.cv (.one (.own k))::SV.cv (.one (.int ik (.lit 0)))::SV.cv (.one (.gP k2 off n cp)) :: []):=by
  simp only [a8,ho,hg,List.map_nil,List.append_nil,cH]
 have wQ:k∈a8 st o:=by rw [wW];exact L9 (j:=0) rfl
 have jW:k2∈bd st o:=by
  rw [Fx];simp [cC,deep,aE,aV,CV.cells]
 have I1:=lb (wf.ap k _ jr) jr;refine Mb 0 wf (ar.le_refl _) rfl uY (λj hj => ?_) (λx hx=>.inr ?_) (λβ a w hB bE d_ next Q' hn => ?_) p2
 ·simp only [List.mem_singleton]at hj;subst hj;exact⟨wQ,by rw [jr];rfl⟩
 ·simp only [fe]at hx;rcases Fs _ _ hx with hx|hx
  ·simp only [List.flatMap_cons,cO,List.flatMap_nil,List.append_nil]at hx;exact⟨k2,_,List.mem_append.2 (.inl jW),o5 tY,Ch _ _ (Cg _ _ hx)⟩
  ·exact⟨k,_,List.mem_append.2 (.inr wQ),I1,hx⟩
 ·have fM:(SV.cv (.one (.own k))::SV.cv (.one (.int ik (.lit 0)))::SV.cv (.one (.gP k2 off n cp)) :: []).map (SV.den J β)=(SV.cv (.one (.own k))::SV.cv (.one (.int ik (.lit 0)))::SV.cv (.one (.gP k2 off n cp)) :: []).map (SV.den U β) :=
   List.map_congr_left λx hx=>SV.aa tZ (λ_ _=>rfl) (List.all_eq_true.1 c3 x hx)
  have eg:=bE g (by rw [ho];simp [Op.operands,Call.operands]) (by rw [hg];simp);rw [hg]at eg;have Cm:a.eval g=.func (.func f) #[] #[]:=eg
  have ea:(args.map a.eval).toList=(args.toList.map st.ev).map (SV.den J β):=by
   rw [Array.toList_map]
   exact zx _ λx hx=>bE x (by rw [ho];simp only [Op.operands,Call.operands];exact Array.mem_append.2 (.inr (Array.mem_toList_iff.1 hx))) (by
    have:st.ev x∈args.toList.map st.ev:=List.mem_map.2 ⟨x,hx,rfl⟩
    rw [cH]at this;simp only [List.mem_cons,List.not_mem_nil,or_false]at this;rcases this with h|h|h<;>rw [h]<;>simp)
  rw [cH]at ea
  have ec:(#[]:Array Value)++args.map a.eval ++ #[]=((SV.cv (.one (.own k))::SV.cv (.one (.int ik (.lit 0)))::SV.cv (.one (.gP k2 off n cp)) :: []).map (SV.den J β)).toArray:=by
   apply Array.ext';rw [Array.toList_append,Array.toList_append,ea];simp
  have hx:(execOp a.eval o).run G.P w=(callFunc f ((SV.cv (.one (.own k))::SV.cv (.one (.int ik (.lit 0)))::SV.cv (.one (.gP k2 off n cp)) :: []).map (SV.den J β)).toArray).run G.P w:=by
   simp only [execOp,ho,resolve,Cm,Deferred.ofValue,Sem.run_bind,Sem.run_pure,Result.andThen_ok,invoke];rw [<-ec]
  have bD:=d_ k (List.mem_append.2 (.inr wQ)) _ I1;unfold Oper.wp;rw [hx,hG.calls f c4 _ w,Oper.upon_enter,fM];refine (h1 β w hB ?_).mono λe w' he => ?_
  ·exact Ca wf.ap tZ (λq cs t hq=>(wf.m q cs t hq).2) (λq ce sz t hq=>(wf.o q ce sz t hq).2) _ λq hq=>d_ q (List.mem_append.2 (.inl (by rw [Fx];exact hq)))
  ·obtain⟨b,code,n',base,rfl,q1,q2,q3,q4⟩:=he;refine hn b code n' base w' ?_ q2 (λx hx Me=>q3 x hx λh2 he=>Me k _ (by simp) I1 (by simp only [bM,h2,if_true,he])) λh2 => ?_
   ·rw [vC tZ (λ_ _=>rfl) uY];refine q1.imp λh2 _ => ?_;rcases q4 h2 with h|⟨h,rfl⟩
    ·exact fv.mk (.inr (Nat.le_trans hB.size h))
    ·exact bT.own bD h
   ·rcases q4 h2 with h|⟨h,rfl⟩
    ·exact .inl h
    ·exact .inr ⟨k,_,by simp,I1,by simp only [bM,h,if_true]⟩
theorem TO{G:bV}{st:St}{o:Oper}{K:St->Env->Prop}{U:Env}(wf:st.WF)(h:oa (PA G.P W Q QM QP) G st o K U):rp G.P W st o K U:=by
  have zD:∀ (md:Nat) {ce:CE} {sz:Nat} {el:TypeId} {c:ar} {a_:Env},St.jn (PA G.P W Q QM QP) st o.dst [] ce sz el c K md a_->st.c.le c->c.nk=st.c.nk->Env.aC st.c U a_->ce.flatMap cO=[] ->
      (∀J,Env.aC c a_ J->∀(β:Nat->Nat) (a:Act) (w:World),dT W w->dV st o J β a ->
        ∃b code n base w',(execOp a.eval o).run G.P w=.ok (.value (ow md b code n base)) w'/\bT (fv W) b code n base (aq J β ce) sz el w'/\(w'=w\/∃ob w0,w'=w0.alloc ob/\(w0=w\/w0=w.drew))/\(2<=code->w.heap.size<=b))->rp G.P W st o K U:=by
    intro md ce sz el c a_ h hle uX hl Fy hr;unfold St.jn at h;split at h
    · rename_i uY;obtain⟨h1,h2⟩:=ze h;have iR:=(kO {st with o:=(c.nk,ce,sz,el)::bZ st.o []} o.dst (.cv (.one (rowAt md c.nk))) {c with nk:=c.nk+4}).1;refine⟨_,a_,.cv (.one (rowAt md c.nk)),[],h1,by rw [iR];exact ar.le_trans hle (ar.lV c 4),hl,λJ dE => ?_⟩;rw [iR]at dE;have tZ:Env.aC c a_ J:=⟨dE.i,dE.b,dE.v,dE.p,dE.s,dE.l⟩;refine Mb md wf hle uX uY (λk hk=>by cases hk) (λx hx=>by simp only [fe,Fy]at hx;cases hx) (λβ a w hB bE _=>Fq ?_) h2;obtain⟨b,code,n,base,w',r1,r2,r3,r4⟩:=hr J tZ β a w hB bE;refine⟨b,code,n,base,w',r1,r2, ?_,λx hx _ => ?_,λh2=>.inl (r4 h2)⟩
      · rcases r3 with rfl|⟨ob,w0,rfl,rfl|rfl⟩
        · exact⟨rfl,rfl,rfl,Nat.le_refl _⟩
        · exact⟨rfl,rfl,rfl,by simp⟩
        · exact⟨rfl,rfl,rfl,by simp⟩
      · rcases r3 with rfl|⟨ob,w0,rfl,rfl|rfl⟩
        · rfl
        · exact Below.heap_alloc _ _ _ hx
        · exact Below.heap_alloc w.drew _ _ hx
    · exact h.elim
  have fin:∀ {ce:CE} {sz:Nat} {el:TypeId} {c:ar} {a_:Env},St.jn (PA G.P W Q QM QP) st o.dst [] ce sz el c K 0 a_->st.c.le c->c.nk=st.c.nk->Env.aC st.c U a_->ce.flatMap cO=[] ->
      (∀J,Env.aC c a_ J->∀(β:Nat->Nat) (a:Act) (w:World),dT W w->dV st o J β a ->
        ∃b code n base w',(execOp a.eval o).run G.P w=.ok (.value (cG b code n base)) w'/\bT (fv W) b code n base (aq J β ce) sz el w'/\(w'=w\/∃ob,w'=w.alloc ob)/\(2<=code->w.heap.size<=b))->rp G.P W st o K U :=
    λh h1 h2 h3 h4 h5=>zD 0 h h1 h2 h3 h4 λJ hl β a w hB ho=>by
      obtain⟨b,code,n,base,w',r1,r2,r3,r4⟩:=h5 J hl β a w hB ho;exact⟨b,code,n,base,w',r1,r2,r3.imp id (fun⟨ob,h⟩=>⟨ob,w,h,.inl rfl⟩),r4⟩
  unfold oa at h;generalize ho:o.op=op at h;cases op<;>first|exact h.elim|skip
  case convert src dst x =>
    simp only at h;generalize hx:st.ev x=sx at h;generalize mc:gH G.P src dst=u0 at h;rcases u0 with _|e
    · exact h.elim
    obtain⟨hs,hd,he⟩:=W_ mc
    have bytes:∀ (J:Env) (β:Nat->Nat) (a:Act) (w:World) (l:List UInt8),dT W w->dV st o J β a->sx ≠ .any->sx.den J β=.string ⟨l.toArray⟩ ->
        ∃b code n base w',(execOp a.eval o).run G.P w=.ok (.value (ow 2 b code n base)) w'/\bT (fv W) b code n base (l.map DK) 0 0 w'/\(w'=w\/∃ob w0,w'=w0.alloc ob/\(w0=w\/w0=w.drew))/\(2<=code->w.heap.size<=b):=by
      intro J β a w l hB bE dt mE;have e1:=bE x (by rw [ho];simp [Op.operands]) (by rw [hx];exact dt);rw [hx,mE]at e1;have iN:=run_bytes_of_string (P:=G.P) w src dst e ⟨l.toArray⟩ hs hd he;have i_:(⟨l.toArray⟩:ByteArray).size=l.length:=by show l.toArray.size=_;simp
      rw [i_]at iN;refine⟨w.heap.size,grownCap w l.length 0 e+2,l.length,0,w.drew.alloc (.cells (bytesRow ⟨l.toArray⟩ (grownCap w l.length 0 e)) e ((bytesRow ⟨l.toArray⟩ (grownCap w l.length 0 e)).size,(bytesRow ⟨l.toArray⟩ (grownCap w l.length 0 e)).size+1)), ?_,.inr ⟨rfl,fv.mk (.inr hB.size),by omega, ?_⟩,.inr ⟨_,w.drew,rfl,.inr rfl⟩,λ_=>Nat.le_refl _⟩
      · have:ow 2 w.heap.size (grownCap w l.length 0 e+2) l.length 0=.slice (some ⟨w.heap.size,0,none⟩) l.length (grownCap w l.length 0 e):=by simp [ow]
        rw [this];simp only [execOp,ho,e1];exact Mj iN
      · refine⟨by simp,bytesRow ⟨l.toArray⟩ (grownCap w l.length 0 e),e,_,heap_alloc_new w.drew _, ?_⟩;unfold bytesRow;simp only [Array.toList_append,Array.toList_map,List.length_map];rw [List.take_left' (by simp)];rfl
    clear mc;generalize some e=so at h;split at h
    · rename_i l;refine zD 2 h (ar.le_refl _) rfl (Env.ao _ _) (by simp [cO,Mk]) λJ dE β a w hB bE => ?_
      have:=bytes J β a w l hB bE (by simp) rfl
      simpa only [aq,Sg.den,List.append_nil,Ml]using this
    · rename_i i;have wi:i<st.c.ns:=by have:=wf.ev x;rw [hx]at this;simpa [SV.wf,CV.wf,At.wf]using this
      have hH:∀x:{x // x∈(U.s i).map DK},x.1.oneCell'=true:=λx=>by
        obtain⟨q,_,hq⟩:=List.mem_map.1 x.2;rw [<-hq];rfl
      have hL:=h (((U.s i).map DK).attach.map λx=>⟨x.1,hH x⟩) (IZ _ hH);have hle:=ar.qO st.c 1;refine zD 2 hL hle rfl (tV st.c U _) rfl λJ dE β a w hB bE => ?_;have Cr:=Env.aj hle (tV st.c U _) dE
      have:=bytes J β a w (J.s i) hB bE (by simp) rfl
      have e1:J.l st.c.nl=_:=dE.l st.c.nl (Nat.lt_succ_self _)
      have e2:aq J β [.var st.c.nl]=(J.s i).map DK:=by
        simp only [aq,Sg.den,List.append_nil,e1,Env.kP,if_true];rw [Cr.s i wi];exact IZ _ hH
      rw [e2];exact this
    · exact h.elim
  case mapUpdate t m k v=>exact TN wf (.inl ho) h
  case insert t m k v=>exact TN wf (.inr ho) h
  case makeMap t rs =>
    cases rs with
    |some r=>exact h.elim
    |none =>
      simp only at h;generalize hx:gg G.P t=u1 at h;split at h;rotate_left
      · exact h.elim
      rename_i x;refine zD 1 h (ar.le_refl _) rfl (Env.ao _ _) rfl λJ dE β a w hB bE => ?_;refine⟨w.heap.size,2,0,0,w.alloc (.map #[] 0), ?_,.inr ⟨rfl,fv.mk (.inr hB.size),Nat.le_refl _,(yY hx).2 ⟨#[],0,heap_alloc_new w _,rfl,λe he=>by simp at he⟩⟩,.inr ⟨_,w,rfl,.inl rfl⟩,λ_=>Nat.le_refl _⟩;simp [execOp,ho,Instr.makeMap,ow]
  case makeSlice t l cp =>
    simp only at h;generalize hu:G.P.underlying t=u1 at h;split at h;rotate_left
    · exact h.elim
    rename_i el;generalize hi:G.P.info? el=u2 at h;generalize wV:c_ G.P el=u3 at h;split at h;rotate_left
    · exact h.elim
    rename_i i z;split at h;rotate_left
    · exact h.elim
    rename_i hc;obtain⟨c1,c2,c3,c4,c5⟩:=hc;obtain⟨i',v0,z1,z2,z3⟩:=TI wV;rw [hi]at z1;cases z1;have zs:∀U β,v0.cells=(z.cells.map (At.den U β)).toArray:=λU β=>by rw [<-z3 U β,CV.bG]
    have TP:v0.cells.size=i.size:=by rw [zs U b0];simpa using c2
    generalize hl:st.ev l=sl at h;generalize Fz:st.ev cp=sc at h;split at h;rotate_left
    · exact h.elim
    rename_i kl e kc e2;have we:e.wf st.c=true:=by have:=wf.ev l;rw [hl]at this;exact this
    have TQ:e2.wf st.c=true:=by have:=wf.ev cp;rw [Fz]at this;exact this
    have run:∀ (J:Env) (β:Nat->Nat) (a:Act) (w:World),dV st o J β a->0<=e.den J->e.den J<=e2.den J->e2.den J<=fU ->
        (execOp a.eval o).run G.P w=.ok (.value (.slice (some ⟨w.heap.size,0,none⟩) (e.den J).toNat (e2.den J).toNat)) (w.alloc (.cells (madeCells v0.cells ((e2.den J).toNat*i.size)) el)):=by
      intro J β a w bE h0 h1 h2;have e1:=bE l (by rw [ho];simp [Op.operands]) (by rw [hl];simp);have e3:=bE cp (by rw [ho];simp [Op.operands]) (by rw [Fz];simp);rw [hl]at e1;rw [Fz]at e3;simp only [SV.den,CV.den,At.den]at e1 e3
      have mb:(i.bytes:Int)*e2.den J<=281474976710656:=by
        have:(i.bytes:Int)*e2.den J<=131072*1073741824:=Int.mul_le_mul (by omega) (by simpa [fU]using h2) (by omega) (by omega)
        omega
      have:=run_make (P:=G.P) w t el i v0 hu hi z2 kl kc (e.den J) (e2.den J) h0 h1 mb (by simp [fU]at h2;omega)
      simp only [execOp,ho,e1,e3];exact Mj this
    split at h
    · rename_i Mq;subst Mq;obtain⟨q1,h⟩:=za h;obtain⟨q2,h⟩:=za h;refine fin h (ar.le_refl _) rfl (Env.ao _ _) rfl λJ dE β a w hB bE => ?_;have p1:0<=e2.den J:=by rw [IE.aa dE TQ];exact q1
      have p2:e2.den J<=fU:=by rw [IE.aa dE TQ];exact q2
      refine⟨w.heap.size,(e2.den J).toNat+1,0,0,w.alloc (.cells (madeCells v0.cells ((e2.den J).toNat*i.size)) el), ?_, ?_,.inr ⟨_,rfl⟩,λ_=>Nat.le_refl _⟩
      · rw [run J β a w bE (by simp [oA]) (by simpa [oA]using p1) p2];simp [cG,oA]
      · have:=TL (lo:=fv W) (w:=w) (z:=v0.cells) (n:=0) (c:=(e2.den J).toNat) (el:=el) c1 TP (fv.mk (.inr hB.size)) (by simp [maxLen,fU]at p2 ⊢;omega) (.inl rfl)
        exact .inl (by simpa [times,aq]using this)
    · split at h;rotate_left
      · exact h.elim
      rename_i he;subst he;obtain⟨q1,h⟩:=za h;obtain⟨q2,h⟩:=za h
      have row:∀ (J:Env) (β:Nat->Nat) (a:Act) (w:World) (xs:List Value),dT W w->dV st o J β a->0<=e.den J->e.den J<=fU->xs=times v0.cells.toList (e.den J).toNat ->
          ∃b code n base w',(execOp a.eval o).run G.P w=.ok (.value (cG b code n base)) w'/\bT (fv W) b code n base xs i.size el w'/\(w'=w\/∃ob,w'=w.alloc ob)/\(2<=code->w.heap.size<=b):=by
        intro J β a w xs hB bE p1 p2 qG;refine⟨w.heap.size,(e.den J).toNat+1,(e.den J).toNat,0,w.alloc (.cells (madeCells v0.cells ((e.den J).toNat*i.size)) el), ?_, ?_,.inr ⟨_,rfl⟩,λ_=>Nat.le_refl _⟩
        · rw [run J β a w bE p1 (Int.le_refl _) p2];simp [cG]
        · rw [qG];exact .inl (TL c1 TP (fv.mk (.inr hB.size)) (by simp [maxLen,fU]at p2 ⊢;omega) (.inr rfl))
      split at h
      · rename_i n;refine fin h (ar.le_refl _) rfl (Env.ao _ _) (by simp [cO,L5 _ (L4 wV)]) λJ dE β a w hB bE => ?_;refine row J β a w _ hB bE q1 q2 ?_;simp only [aq,Sg.den,List.append_nil,LD,zs J β,oA]
      · rw [if_pos we]at h
        have hL:=h (((times (z.cells.map (At.den U b0)) (e.den U).toNat)).attach.map λx=>⟨x.1,by
          have:∀(l:List Value) (m:Nat),(∀v∈l,v.oneCell'=true)->∀v∈times l m,v.oneCell'=true:=by
            intro l m hl
            induction m with
            |zero=>intro v hv;cases hv
            |succ m ih=>intro v hv;simp only [times,List.mem_append]at hv;rcases hv with hv|hv;exact hl v hv;exact ih v hv
          refine this _ _ (λv hv => ?_) x.1 x.2;obtain⟨q,_,rfl⟩:=List.mem_map.1 hv;exact At.hJ U b0 q⟩) (by simp [LP.den])
        have hle:=ar.qO st.c 1;refine fin hL hle rfl (tV st.c U _) rfl λJ dE β a w hB bE => ?_;have Cr:=Env.aj hle (tV st.c U _) dE;have d1:e.den J=e.den U:=IE.aa Cr we;refine row J β a w _ hB bE (by rw [d1];exact q1) (by rw [d1];exact q2) ?_;have e1:J.l st.c.nl=_:=dE.l st.c.nl (Nat.lt_succ_self _);simp only [aq,Sg.den,List.append_nil,e1,Env.kP,if_true];rw [zs U b0,d1];simp
  case buildSlice t len parts =>
    simp only at h;generalize hu:G.P.underlying t=u1 at h;split at h;rotate_left
    · exact h.elim
    rename_i el;generalize hi:G.P.info? el=u2 at h;split at h;rotate_left
    · exact h.elim
    rename_i i;split at h
    · rename_i hc;obtain⟨rfl,c2,c3⟩:=hc
      have hp:parts=#[]:=by
        have:parts.toList=[]:=List.eq_nil_of_length_eq_zero c2
        exact Array.toList_eq_nil_iff.1 this
      subst hp;refine fin h (ar.le_refl _) rfl (Env.ao _ _) rfl λJ dE β a w hB bE => ?_;refine⟨w.heap.size,1,0,0,w.alloc (.cells #[] el), ?_,.inl ⟨by simp [aq],c3,.inl ⟨by omega,rfl⟩⟩,.inr ⟨.cells #[] el,rfl⟩,λh=>by omega⟩;simp [execOp,ho,Instr.buildSlice,run_underlying hu,Go.sizeOf,typeInfo,hi,Instr.fill,newRow,cG]
      have:Array.range 0=#[]:=rfl
      simp [this]
    · clear hi;generalize hz:aQ G.P el=u2 at h;generalize wV:c_ G.P el=u3 at h;split at h;rotate_left
      · exact h.elim
      rename_i g s z;split at h;rotate_left
      · exact h.elim
      rename_i hc;generalize hf:cN (λi=>some (i*s,s)) (times z.cells len) (parts.toList.map λp=>(p.1,st.ev p.2))=u4 at h;split at h;rotate_left
      · exact h.elim
      rename_i cs;split at h;rotate_left
      · exact h.elim
      rename_i jV;refine fin h (ar.le_refl _) rfl (Env.ao _ _) (by simp [cO,jV.2]) λJ dE β a w hB bE => ?_;obtain⟨c1,c2,c3,c4⟩:=hc;have hlen:(aq J β [.cu cs]).length=len*s:=by simp only [aq,Sg.den,List.append_nil,List.length_map];exact jV.1
      have WB:len<=len*s:=Nat.le_mul_of_pos_right _ c2;refine⟨w.heap.size,len+1,len,0,w.alloc (.cells (cs.map (At.den J β)).toArray el), ?_,.inl ⟨hlen,c2,.inr ⟨by omega,rfl,fv.mk (.inr hB.size),by omega,by simp [maxLen];omega,(cs.map (At.den J β)).toArray,heap_alloc_new w _, ?_, ?_⟩⟩,.inr ⟨_,rfl⟩,λ_=>Nat.le_refl _⟩
      · rw [Ts ho hu hz wV ⟨c1,c2,c3,c4⟩ hf bE];simp [cG]
      · simp [jV.1]
      · have:(cs.map (At.den J β)).length=len*s:=by simpa using jV.1
        simp only [aq,Sg.den,List.append_nil];exact List.take_of_length_le (Nat.le_of_eq this)
  case assign x =>
    simp only at h;generalize hx:st.ev x=sx at h;generalize hnh:mM G o.dst=u1 at h;split at h;rotate_left
    · exact h.elim
    rename_i el;generalize hi:G.P.info? el=u2 at h;split at h;rotate_left
    · exact h.elim
    rename_i i;split at h;rotate_left
    · exact h.elim
    rename_i hc;refine fin h (ar.le_refl _) rfl (Env.ao _ _) rfl λJ dE β a w hB bE => ?_;have e1:=bE x (by rw [ho];simp [Op.operands]) (by rw [hx];simp);rw [hx]at e1;refine⟨0,0,0,0,w, ?_,.inl ⟨by simp [aq],hc,.inl ⟨by omega,rfl⟩⟩,.inl rfl,λh=>by omega⟩;simp only [SV.den,CV.den,At.den]at e1;simp [execOp,ho,e1,cG]
  case slice t x lo hi mx =>
    cases hi with
    |none=>exact h.elim
    |some hi =>
    cases mx with
    |none=>exact h.elim
    |some mx =>
    simp only at h;generalize hu:G.P.underlying t=u1 at h;generalize hh:st.ev hi=sh at h;generalize hm:st.ev mx=sm at h;generalize oE:dc (.lit 0) (lo.map st.ev)=u4 at h;split at h;rotate_left
    · exact h.elim
    rename_i el kh km;generalize wZ:G.P.info? el=u5 at h;generalize hx:st.ev x=sx at h
    have key:∀i,G.P.info? el=some i->0<i.size->sx ≠ .any->(∀J β,sx.den J β=.slice none 0 0\/∃b o n c,sx.den J β=.slice (some ⟨b,o,none⟩) n c)->St.jn (PA G.P W Q QM QP) st o.dst [] [] i.size el st.c K 0 U->rp G.P W st o K U:=by
      intro i wZ i_ fw hv h;refine fin h (ar.le_refl _) rfl (Env.ao _ _) rfl λJ dE β a w hB bE => ?_;have e1:=bE hi (by rw [ho];simp [Op.operands]) (by rw [hh];simp);have e2:=bE mx (by rw [ho];simp [Op.operands]) (by rw [hm];simp);have e3:=bE x (by rw [ho];simp [Op.operands]) (by rw [hx];exact fw);rw [hh]at e1;rw [hm]at e2;rw [hx]at e3;simp only [SV.den,CV.den,At.den,oA]at e1 e2
      have e4:lo.map a.eval=none\/∃k,lo.map a.eval=some (.int k 0):=by
        rcases yq oE with ⟨h1,_⟩|⟨k,h1⟩
        · cases lo with
          |none=>exact .inl rfl
          |some l=>simp at h1
        · cases lo with
          |none=>simp at h1
          |some l =>
            simp only [Option.map_some,Option.some.injEq]at h1
            have:=bE l (by rw [ho];simp [Op.operands]) (by rw [h1];simp)
            rw [h1]at this;exact .inr ⟨k,by simp only [Option.map_some,this];rfl⟩
      have size:(Go.sizeOf el).run G.P w=.ok i.size w:=by simp [Go.sizeOf,typeInfo,wZ]
      have run:∀(ad:Option Addr) (n c:Nat),a.eval x=.slice ad n c->(execOp a.eval o).run G.P w=.ok (.value (.slice ad 0 0)) w:=by
        intro ad n c he;simp only [execOp,ho,he,Option.map_some,e1,e2];refine Mj ?_;rcases e4 with e4|⟨k,e4⟩
        · simp [Instr.sliceAt,Instr.slice,Instr.sliceBounds,Instr.sliceBound,asIntOf,run_underlying hu,size,e4]
        · simp [Instr.sliceAt,Instr.slice,Instr.sliceBounds,Instr.sliceBound,asIntOf,run_underlying hu,size,e4]
      rcases hv J β with h1|⟨b,of,n,c,h1⟩
      · exact⟨0,0,0,0,w,by rw [run none 0 0 (by rw [e3,h1])];rfl,.inl ⟨by simp [aq],i_,.inl ⟨by omega,rfl⟩⟩,.inl rfl,λh=>by omega⟩
      · exact⟨b,1,0,of,w,by rw [run _ n c (by rw [e3,h1])];rfl,.inl ⟨by simp [aq],i_,.inl ⟨by omega,rfl⟩⟩,.inl rfl,λh=>by omega⟩
    split at h
    · rename_i i p ix s l c;split at h
      · rename_i hc;exact key i wZ hc (by simp) (λJ β=>.inr ⟨_,_,_,_,rfl⟩) h
      · exact h.elim
    · rename_i i k;split at h
      · rename_i hc;refine key i wZ hc (by simp) (λJ β => ?_) h;simp only [SV.den,CV.den,At.den,cG];split
        · exact .inl rfl
        · exact .inr ⟨_,_,_,_,rfl⟩
      · exact h.elim
    · rename_i i;split at h
      · rename_i hc;exact key i wZ hc (by simp) (λJ β=>.inl rfl) h
      · exact h.elim
    · exact h.elim
  case store t x y =>
    simp only at h;generalize hz:aQ G.P t=u1 at h;generalize hx:st.ev x=sx at h;generalize hy:st.ev y=sy at h;split at h;rotate_left
    · exact h.elim
    rename_i g n k ix sz off v;generalize hg:aO st.o k=u2 at h;split at h;rotate_left
    · exact h.elim
    rename_i ce s el;split at h;rotate_left
    · exact h.elim
    rename_i hc;obtain⟨rfl,c1,c2,c3,c4,c5,c6⟩:=hc;obtain⟨m,cb,kK,h,b1,b2,b3,b4,b5⟩:=AQ h;obtain⟨q1,h⟩:=za h;obtain⟨q2,h⟩:=za h;have lj:k∈a8 st o:=by simp [a8,ho,hx,aV,CV.cells,aE]
    have run:∀ (J:Env) (β:Nat->Nat) (a:Act) (w:World) (fN:CE),Env.aC cb kK J->dV st o J β a->Holds W J β k (.row ce s el) w ->
        aq J β fN=(aq J β ce).take ((ix.den J).toNat*s+off)++v.cells.map (At.den J β)++(aq J β ce).drop ((ix.den J).toNat*s+off+n) ->
        ∃w',(execOp a.eval o).run G.P w=.ok .skip w'/\Holds W J β k (.row fN s el) w'/\(w'.os=w.os/\w'.tape=w.tape/\w'.output=w.output/\w.heap.size<=w'.heap.size)/\(∀b,b<w.heap.size->bM β k (.row ce s el)≠some b->w'.heap[b]? = w.heap[b]?):=by
      intro J β a w fN hl bE bD nM;have e1:=bE x (by rw [ho];simp [Op.operands]) (by rw [hx];simp);have e2:=bE y (by rw [ho];simp [Op.operands]) (by rw [hy];simp);rw [hx]at e1;rw [hy]at e2;have gx:=Env.aj b1 b3 hl;have p1:0<=ix.den J:=by rw [IE.aa hl (IE.aU b1 c5)];exact q1
      have p2:ix.den J<m.den J:=by rw [IE.aa hl (IE.aU b1 c5),IE.aa hl b4];exact q2
      have bD:=bT.fz bD c3;rw [b5 J β hl,Lf bD]at p2;obtain⟨a1,a2,a3⟩:=bD
      obtain⟨r1,r2,r3,r4,r5,cur,r6,r7,r8⟩:2<=β (k+1)/\β (k+3)=0/\fv W (β k)/\β (k+2)<=β (k+1)-1/\β (k+1)-1<=maxLen/\∃cur,w.heap[β k]? = some (.cells cur el (0,0))/\cur.size=(β (k+1)-1)*s/\cur.toList.take (β (k+2)*s)=aq J β ce:=by
        rcases a3 with ⟨_,h0⟩|h0
        · omega
        · exact h0
      have u9:(ix.den J).toNat*s+off+n<=β (k+2)*s:=by
        have h1:(ix.den J).toNat+1<=β (k+2):=by omega
        have h2:=Nat.mul_le_mul_right s h1;rw [Nat.succ_mul]at h2;omega
      have rq:β (k+2)*s<=cur.size:=by rw [r7];exact Nat.mul_le_mul_right _ r4
      have hs:=Th (P:=G.P) hz w (β k) ((ix.den J).toNat*s+off) (v.den J β) cur el r6 (by rw [CV.bG];simpa using c1) (by omega) (by
        rw [CV.bG];intro z Fm;simp only [List.mem_map]at Fm;obtain⟨q,_,rfl⟩:=Fm;exact At.hJ J β q)
      rw [CV.bG]at hs;have Cq:(v.cells.map (At.den J β)).length=n:=by simpa using c1
      refine⟨w.setRow (β k) (cur.toList.take ((ix.den J).toNat*s+off)++v.cells.map (At.den J β)++cur.toList.drop ((ix.den J).toNat*s+off+n)).toArray, ?_,.inl ⟨?_,a2,.inr ⟨r1,r2,r3,r4,r5,_,setRow_heap w (β k) _ _ _ _ r6, ?_, ?_⟩⟩,⟨rfl,rfl,rfl,by rw [setRow_size];exact Nat.le_refl _⟩,λb hb sX=>LC _ _ _ _ (λhe=>sX (by simp only [bM,r1,if_true,he]))⟩
      · have Ci:a.eval x=ptr (β k) ((ix.den J).toNat*s+off):=e1;have Cj:a.eval y=v.den J β:=e2;simp only [execOp,ho,Ci,Cj,Sem.run_bind,hs,Result.andThen_ok,Sem.run_pure]
      · rw [nM,<-a1];simp only [List.length_append,List.length_take,List.length_drop,Cq];omega
      · simp only [List.size_toArray,List.length_append,List.length_take,List.length_drop,Array.length_toList,Cq];omega
      · rw [nM,<-r8];exact Mh cur.toList _ _ n _ u9 (by simpa using rq) Cq
    generalize gV:ia ce ix s off=u5 at h;rcases u5 with _|⟨cs,p⟩;rotate_left
    · simp only at h;obtain⟨Xd,Xe⟩:=SZ gV;obtain⟨h1,h2⟩:=ze h;have iR:=(kO {st with o:=dS st.o k [.cu (cs.take p++v.cells++cs.drop (p+n))]} o.dst .any cb).1;refine⟨_,kK,.any,[k],h1,by rw [iR];exact b1,b3,λJ dE => ?_⟩;rw [iR]at dE
      have FA:∀x∈cs,x.wf st.c=true/\(∀y∈aN [x],y∈ce.flatMap cO):=by
        have:∀(ce:CE) (cs:List At),eo ce=some cs->cw st.c ce=true->∀x∈cs,x.wf st.c=true/\(∀y∈aN [x],y∈ce.flatMap cO):=by
          intro ce
          induction ce with
          |nil=>intro cs h _ x hx;simp only [eo,Option.some.injEq]at h;subst h;cases hx
          |cons s r ih =>
            intro cs h hw x hx;cases s with
            |var j=>simp [eo]at h
            |cu l =>
              simp only [eo,Option.map_eq_some_iff]at h;obtain⟨l',h1,rfl⟩:=h;simp only [cw,List.all_cons,Bool.and_eq_true]at hw;rcases List.mem_append.1 hx with hx|hx
              · exact⟨List.all_eq_true.1 hw.1 x hx,fun y hy=>by
                  rw [List.flatMap_cons];refine List.mem_append.2 (.inl ?_);show y∈aN l;obtain⟨a,b,rfl⟩:=List.append_of_mem hx;rw [zd,show x::b=[x]++b from rfl,zd];exact List.mem_append.2 (.inr (List.mem_append.2 (.inl hy)))⟩
              · obtain⟨i1,i2⟩:=ih l' h1 hw.2 x hx;exact⟨i1,λy hy=>by rw [List.flatMap_cons];exact List.mem_append.2 (.inr (i2 y hy))⟩
        exact this ce _ (W9 gV) c6
      have FB:∀y∈aN cs,y∈ce.flatMap cO:=by
        intro y hy
        have:∀(l:List At),y∈aN l->∃x∈l,y∈aN [x]:=by
          intro l
          induction l with
          |nil=>intro h;cases h
          |cons a l ih =>
            intro h;rw [show a::l=[a]++l from rfl,zd]at h;rcases List.mem_append.1 h with h|h
            · exact⟨a,by simp,h⟩
            · obtain⟨x,h1,h2⟩:=ih h;exact⟨x,by simp [h1],h2⟩
        obtain⟨x,D0,zA⟩:=this cs hy;exact (FA x D0).2 y zA
      refine D3 wf b1 b2 hg lj ?_ (λy fP => ?_) (λβ a w bE bD=>run J β a w _ dE bE bD ?_) h2
      · have w5:cs.all (At.wf cb)=true:=List.all_eq_true.2 λx AU=>At.aU b1 (FA x AU).1;simp only [cw,List.all_cons,List.all_nil,Bool.and_true,Sg.wf,List.all_append,(zr w5 p).1,(zr w5 (p+n)).2,CV.dK (CV.aU b1 c4),Bool.and_self]
      · simp only [List.flatMap_cons,cO,List.flatMap_nil,List.append_nil,zd]at fP;rcases List.mem_append.1 fP with fP|fP
        · rcases List.mem_append.1 fP with fP|fP
          · exact .inr (FB y (Cg _ _ fP))
          · simp only [di,ho,hy];exact .inl fP
        · exact .inr (FB y (Ch _ _ fP))
      · rw [Xd J,Xe J β];simp only [aq,Sg.den,List.append_nil,List.map_append,List.map_take,List.map_drop]
    · simp only at h;split at h;rotate_left
      · exact h.elim
      rename_i mR;obtain⟨IS,I2⟩:=mR
      have u7:∀v'∈(LP.set ce ix s off v.cells).den kK,v'.oneCell'=true:=by
        intro v' o8;simp only [LP.den,List.mem_append]at o8;rcases o8 with (o8|o8)|o8
        · exact vY kK b0 ce v' (List.mem_of_mem_take o8)
        · obtain⟨q,_,rfl⟩:=List.mem_map.1 o8;exact At.hJ kK b0 q
        · exact vY kK b0 ce v' (List.mem_of_mem_drop o8)
      have hL:=h (((LP.set ce ix s off v.cells).den kK).attach.map λx=>⟨x.1,u7 x.1 x.2⟩) (by simp);have hle:=ar.qO cb 1;obtain⟨h1,h2⟩:=ze hL;have iR:=(kO {st with o:=dS st.o k [.var cb.nl]} o.dst .any {cb with nl:=cb.nl+1}).1;refine⟨_,_,.any,[k],h1,by rw [iR];exact ar.le_trans b1 hle,Env.aj b1 b3 (tV cb kK _),λJ dE => ?_⟩;rw [iR]at dE;have tZ:=Env.aj hle (tV cb kK _) dE;refine D3 wf (ar.le_trans b1 hle) b2 hg lj (by simp [cw,Sg.wf]) (λy fP=>by simp [cO]at fP) (λβ a w bE bD=>run J β a w _ tZ bE bD ?_) h2;have e1:J.l cb.nl=_:=dE.l cb.nl (Nat.lt_succ_self _);have f1:aq J β ce=aq kK b0 ce:=by rw [B' J β b0 IS,vC tZ (β:=b0) (λ_ _=>rfl) (BV b1 c6)]
      have f2:v.cells.map (At.den J β)=v.cells.map (At.den kK b0):=by
        have Mo:v.cells.all At.flat=true:=by
          cases v with
          |one a=>simpa [CV.cells,CV.flat]using I2
          |agg l=>exact I2
        rw [DQ J β b0 Mo,yJ tZ (β:=b0) (λ_ _=>rfl) (BS b1 (CV.dK c4))]
      have f3:ix.den J=ix.den kK:=IE.aa tZ (IE.aU b1 c5);simp only [aq,Sg.den,List.append_nil,e1,Env.kP,if_true,f1,f2,f3]
      have f4:∀(l:List Value) (hl:∀v'∈l,v'.oneCell'=true),(l.attach.map λx=>(⟨x.1,hl x.1 x.2⟩:OV)).map (·.1)=l:=λl hl=>by
        rw [List.map_map];exact List.attach_map_subtype_val l
      rw [f4];simp only [LP.den,c1]
end Vc
