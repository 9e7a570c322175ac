import Derived.Test.YtpfgephckjpcjaaGreatDoorVcV
import Derived.Laws.IdiomStrings
set_option linter.unusedVariables false
set_option linter.unusedSimpArgs false
namespace Vc
open Go Go.RowKit
variable {P:Program} {W:e_} {Q:Value->Prop} {QM QP:World->Value->Prop}
theorem Jk{m:Mem}{o:bq}{nk:Nat}{ce:CE}{sz:Nat}{el:TypeId}{jD:List Nat}(hm:getM m nk=none)(k:Nat) :
    aK m ((nk,ce,sz,el)::cf o jD) k=if nk=k then some (.row ce sz el)else match getM m k with
      |some (cs,t)=>some (.fix cs t)
      |none=>if k∈jD then none else aK m o k:=by
  unfold aK;rw [zz,xL];by_cases h:nk=k
  · subst h;rw [if_pos rfl,if_pos rfl,hm]
  · rw [if_neg h,if_neg h];cases hg:getM m k with
    |some x=>rfl
    |none =>
      by_cases he:k∈jD
      · rw [if_pos he,if_pos he]
      · rw [if_neg he,if_neg he]
theorem D6{o:Oper}{a:Act}{w:World}{md:Nat}{A B C D:Nat->Nat->Nat->Nat->World->Prop}(h:∃b code n base w',(execOp a.eval o).run P w=.ok (.value (oR md b code n base)) w'/\A b code n base w'/\B b code n base w'/\C b code n base w'/\D b code n base w')
  (next:Act->World->Prop) (Q':Exit->Act->World->Prop) (hn:∀b code n base w',A b code n base w'->B b code n base w'->C b code n base w'->D b code n base w'->next (a.put o.dst (oR md b code n base)) w'):o.wp P a w next Q':=by
 obtain⟨b,code,n,base,w',r1,r2,r3,r4,r5⟩:=h;unfold Oper.wp;rw [r1,Oper.upon_value];exact hn b code n base w' r2 r3 r4 r5
theorem Jl{st:St}{o:Oper}{ρ:Env}{jD:List Nat}{ce:CE}{sz:Nat}{el:TypeId}{c:aw}(md:Nat)(wf:st.WF)(hle:st.c.le c)(uz:c.nk=st.c.nk)(qZ:cH c ce=true)(sF:∀ k∈jD,k∈aY st o/\(aM st.o k).isSome=true)
    (kX:∀x∈fD (.row ce sz el),x∈dM st o∨∃j e,j∈ba st o++aY st o/\aK st.m st.o j=some e/\x∈fD e)
    (je:∀(β:Nat->Nat) (a:Act) (w:World),dT W w->eG st o ρ β a->gF W st.m st.o (ba st o++aY st o) ρ β w ->
      ∀(next:Act->World->Prop) (Q':Exit->Act->World->Prop),(∀b code n base w',bY (fA W) b code n base (av ρ β ce) sz el w'->(w'.os=w.os/\w'.tape=w.tape/\w'.output=w.output/\w.heap.size<=w'.heap.size) ->
        (∀x,x<w.heap.size->(∀k e,k∈jD->aK st.m st.o k=some e->bK β k e≠some x)->w'.heap[x]? = w.heap[x]?)->(2<=code->w.heap.size<=b∨∃j e,j∈jD/\aK st.m st.o j=some e/\bK β j e=some b) ->
        next (a.put o.dst (oR md b code n base)) w')->o.wp P a w next Q')
    (hp:jQ {st with o:=(c.nk,ce,sz,el)::cf st.o jD} o.dst (.cv (.one (rowAt md c.nk))) {c with nk:=c.nk+4}) :
    jg P W st o ρ ({st with o:=(c.nk,ce,sz,el)::cf st.o jD}.cr o.dst (.cv (.one (rowAt md c.nk))) {c with nk:=c.nk+4}) (.cv (.one (rowAt md c.nk))) jD:=by
  obtain⟨q1,q2,q3,q4,q5,q6⟩:=lg {st with o:=(c.nk,ce,sz,el)::cf st.o jD} o.dst (.cv (.one (rowAt md c.nk))) {c with nk:=c.nk+4};have oc:st.c.le {c with nk:=c.nk+4}:=aw.le_trans hle (aw.mC c 4)
  have mJ:getM st.m c.nk=none:=by
    have:=wf.beyond (k:=c.nk) (by omega)
    unfold aK at this;cases hg:getM st.m c.nk with
    |none=>rfl
    |some x=>rw [hg]at this;cases this
  have hm:∀ k,aK ({st with o:=(c.nk,ce,sz,el)::cf st.o jD}.cr o.dst (.cv (.one (rowAt md c.nk))) {c with nk:=c.nk + 4}).m ({st with o:=(c.nk,ce,sz,el)::cf st.o jD}.cr o.dst (.cv (.one (rowAt md c.nk))) {c with nk:=c.nk + 4}).o k =
      if c.nk=k then some (.row ce sz el)else match getM st.m k with
      |some (cs,t)=>some (.fix cs t)
      |none=>if k∈jD then none else aK st.m st.o k:=λk=>by rw [q2,q4];exact Jk mJ k
  have z8:∀k∈jD,getM st.m k=none:=λk hk=>by
    obtain⟨x,hx⟩:=Option.isSome_iff_exists.1 (sF k hk).2;exact wf.ap k x hx
  have gO:∀k,k<st.c.nk->k ∉ jD->aK ({st with o:=(c.nk,ce,sz,el)::cf st.o jD}.cr o.dst (.cv (.one (rowAt md c.nk))) {c with nk:=c.nk+4}).m ({st with o:=(c.nk,ce,sz,el)::cf st.o jD}.cr o.dst (.cv (.one (rowAt md c.nk))) {c with nk:=c.nk+4}).o k=aK st.m st.o k:=λk hk he=>by
    rw [hm,if_neg (by omega)];cases hg:getM st.m k with
    |some x=>exact (pk hg).symm
    |none=>simp only [if_neg he]
  have one:∀{k e},(k∈jD∨st.c.nk<=k)->aK ({st with o:=(c.nk,ce,sz,el)::cf st.o jD}.cr o.dst (.cv (.one (rowAt md c.nk))) {c with nk:=c.nk+4}).m ({st with o:=(c.nk,ce,sz,el)::cf st.o jD}.cr o.dst (.cv (.one (rowAt md c.nk))) {c with nk:=c.nk+4}).o k=some e->k=c.nk/\e=.row ce sz el:=by
    intro k e hk hg;rw [hm]at hg;by_cases dq:c.nk=k
    · rw [if_pos dq]at hg;cases hg;exact⟨dq.symm,rfl⟩
    · rw [if_neg dq]at hg;rcases hk with hk|hk
      · rw [z8 k hk]at hg;simp only [if_pos hk]at hg;cases hg
      · have:=wf.beyond hk
        unfold aK at this;cases tG:getM st.m k with
        |some x=>rw [tG]at this;cases this
        |none =>
          rw [tG]at hg;simp only at hg;split at hg
          · cases hg
          · rw [wf.beyond hk]at hg;cases hg
  refine⟨λhk=>by rw [(zm _ _ _ _).1];exact hk,(zm _ _ _ _).2,q3,q5,q6,by rw [q1];exact oc, ?_,λt'=>zn _ o.dst _ _ t',λd hd=>(hp d hd).1,λk hk=>⟨(sF k hk).1, ?_⟩,gO,λk e' hk hg x hx => ?_,λβ a w hB ho hr _ next Q' hn => ?_⟩
  · have g:=wf.grow oc;refine⟨λi => ?_,by rw [q2,q1];exact g.m,λk gu uZ t' hg => ?_,λk x hk => ?_,by rw [q5,q1];exact g.r,by rw [q6,q1];exact g.d,by rw [(zm _ _ _ _).1,q1];exact g.k,by rw [(zm _ _ _ _).2,q1];exact g.df⟩
    · rw [zn,q1];by_cases hd:o.dst=some i
      · rw [if_pos hd];exact (hp i hd).2
      · rw [if_neg hd];exact g.t i
    · rw [q4,zz]at hg;rw [q1];by_cases hk:c.nk=k
      · rw [if_pos hk]at hg;cases hg;exact⟨by simp only;omega,A0 (aw.mC c 4) qZ⟩
      · rw [if_neg hk,xL]at hg;split at hg
        · cases hg
        · exact g.o k gu uZ t' hg
    · rw [q4,zz]at hk;rw [q2];by_cases dq:c.nk=k
      · rw [<-dq];exact mJ
      · rw [if_neg dq,xL]at hk;split at hk
        · cases hk
        · exact wf.ap k x hk
  · obtain⟨x,hx⟩:=Option.isSome_iff_exists.1 (sF k hk).2
    have:=(wf.o k x.1 x.2.1 x.2.2 hx).1
    omega
  · obtain⟨rfl,rfl⟩:=one hk hg;exact kX x hx
  · refine je β a w hB ho hr next Q' λb code n base w' r2 r0 r7 r8 => ?_
    obtain⟨r3,r4,r5,r6⟩:=r0;let an:Nat->Nat:=λk=>if k=c.nk then b else if k=c.nk+1 then code else if k=c.nk+2 then n else if k=c.nk+3 then base else β k;have Jm:an c.nk=b:=if_pos rfl;have Jn:an (c.nk+1)=code:=by show (if c.nk+1=c.nk then b else if c.nk+1=c.nk+1 then code else _)=code;rw [if_neg (by omega),if_pos rfl]
    have GJ:an (c.nk+2)=n:=by
      show (if c.nk+2=c.nk then b else if c.nk+2=c.nk+1 then code else if c.nk+2=c.nk+2 then n else _)=n;rw [if_neg (by omega),if_neg (by omega),if_pos rfl]
    have PI:an (c.nk+3)=base:=by
      show (if c.nk+3=c.nk then b else if c.nk+3=c.nk+1 then code else if c.nk+3=c.nk+2 then n else if c.nk+3=c.nk+3 then base else _)=base;rw [if_neg (by omega),if_neg (by omega),if_neg (by omega),if_pos rfl]
    have sG:∀k,¬(c.nk<=k/\k<c.nk+4)->an k=β k:=λk hk=>by
      show (if k=c.nk then b else if k=c.nk+1 then code else if k=c.nk+2 then n else if k=c.nk+3 then base else β k)=β k;rw [if_neg (by omega),if_neg (by omega),if_neg (by omega),if_neg (by omega)]
    refine hn an _ _ (λ_ => ?_) ⟨r3,r4,r5,r6,λx hx Jo=>r7 x hx Jo,λk hk=>sG k (by rw [q1]at hk;simp only at hk;omega),λk e' hk hg => ?_,λk k' e e' _ hk oI hg fM _ _ => ?_⟩
    · show _=(rowAt md c.nk).den ρ an;rw [Sy,Jm,Jn,GJ,PI]
    · obtain⟨rfl,rfl⟩:=one hk hg;refine⟨?_,λx hx => ?_⟩
      · simp only [Holds];rw [Jm,Jn,GJ,PI,uX (Env.aq c ρ) (λk hk=>sG k (by omega)) qZ];exact r2
      · simp only [bK,Jm,Jn]at hx;split at hx
        · rename_i h2;simp only [Option.some.injEq]at hx;subst hx;rcases r8 h2 with h|⟨j,e,h3,h4,h5⟩
          · exact .inl h
          · refine .inr ⟨j,e,h3,h4,h5,.inr ?_⟩;rw [hm,if_neg (by have:=CT (wf.pq h4);omega),z8 j h3];simp only [if_pos h3]
        · cases hx
    · rw [(one hk hg).1,(one oI fM).1]
theorem D7:∀(x y:CE) {i:Nat},i∈(dw x y).flatMap di->i∈x.flatMap di∨i∈y.flatMap di
  | [],y,i,h=>.inr h
  | [.cG l],[],i,h=>.inl h
  | [.cG l],.cG l'::y,i,h=>by
    simp only [dw,List.flatMap_cons,di,zg,List.mem_append,List.flatMap_nil,List.append_nil]at h ⊢;rcases h with (h|h)|h
    · exact .inl h
    · exact .inr (.inl h)
    · exact .inr (.inr h)
  | [.cG l],.var j::y,i,h=>by
    simp only [dw,List.flatMap_cons,List.mem_append,List.flatMap_nil,List.append_nil]at h ⊢;exact h
  | [.var j],y,i,h=>by
    simp only [dw,List.flatMap_cons,List.mem_append,List.flatMap_nil,List.append_nil]at h ⊢;exact h
  | .cG l::t::r,y,i,h=>by
    simp only [dw]at h;rw [List.flatMap_cons]at h ⊢;rcases List.mem_append.1 h with h|h
    · exact .inl (List.mem_append.2 (.inl h))
    · rcases D7 (t::r) y h with h|h
      · exact .inl (List.mem_append.2 (.inr h))
      · exact .inr h
  | .var j::t::r,y,i,h=>by
    simp only [dw]at h;rw [List.flatMap_cons]at h ⊢;rcases List.mem_append.1 h with h|h
    · exact .inl (List.mem_append.2 (.inl h))
    · rcases D7 (t::r) y h with h|h
      · exact .inl (List.mem_append.2 (.inr h))
      · exact .inr h
theorem PJ{t:TypeId}{z:CV}(h:de P t=some z):∃i v,P.info? t=some i/\i.zero=some v/\∀ρ β,z.den ρ β=v:=by
  unfold de at h;cases hi:P.info? t with
  |none=>simp [hi]at h
  |some i =>
    simp only [hi]at h;cases hz:i.zero with
    |none=>simp [hz]at h
    |some v =>
      simp only [hz]at h;have h2:=λρ β=>(SV.db v ⟨0,0,0,0,0,0,0⟩ ρ β).2;generalize hs:SV.ofValue v=sv at h h2;cases sv with
      |cv x =>
        simp only [Option.some.injEq]at h;subst h;exact⟨i,v,rfl,hz,λρ β=>h2 ρ β (by simp)⟩
      |_=>simp at h
def Src(W:e_)(st:St)(sz:Nat)(y:SV)(add:CE)(c:aw)(ρ:Env):Prop :=
  ∀(U:Env) (β:Nat->Nat) (w:World),Env.aE c ρ U->dT W w->gF W st.m st.o (aF (aV y)) U β w ->
    ∃m,((y.den U β=.slice none 0 0/\m=0)∨∃a k,y.den U β=.slice (some a) m k/\∀j u,(av U β add)[j]? = some u->w.cell? (a.add j)=some u)/\(av U β add).length=m*sz
theorem TD{st:St}{sz:Nat}{jD:List Nat}{y:SV}{K:CE->aw->Env->Prop}{ρ:Env}(wf:st.WF)(lJ:0 < sz)(hy:y.wf st.c=true)(h:vI (PA P W Q QM QP) st sz jD y K ρ) :
    ∃add c' ah,K add c' ah/\st.c.le c'/\c'.nk=st.c.nk/\Env.aE st.c ρ ah/\cH c' add=true/\y ≠ .any/\Src W st sz y add c' ah /\
      ∀x∈add.flatMap di,∃j e,j∈aF (aV y)/\aK st.m st.o j=some e/\x∈fD e:=by
  unfold vI at h;split at h
  · exact⟨[],_,ρ,h,aw.le_refl _,rfl,Env.aq _ _,rfl,by simp,λU β w _ _ _=>⟨0,.inl ⟨rfl,rfl⟩,by simp [av]⟩,λx hx=>by cases hx⟩
  · rename_i k off len cap;generalize hg:getM st.m k=u at h;split at h
    · rename_i cs t;split at h
      · rename_i hb;refine⟨_,_,ρ,h,aw.le_refl _,rfl,Env.aq _ _, ?_,by simp,λU β w _ _ hr=>⟨len,.inr ⟨⟨β k,off,none⟩,cap,rfl,λj u hj => ?_⟩, ?_⟩,λx hx => ?_⟩
        · simp only [cH,List.all_cons,List.all_nil,Bool.and_true,Sg.wf];exact (zr (zr (wf.m k cs t hg).2 off).2 _).1
        · obtain⟨_,hh⟩:=hr k (by simp [aV,CV.cells,aF]) _ (pk hg);simp only [av,Sg.den,List.append_nil,List.getElem?_map,Option.map_eq_some_iff]at hj;obtain⟨a,ha,rfl⟩:=hj
          have yp:j<len*sz:=by
            rcases Nat.lt_or_ge j (len*sz)with h'|h'
            · exact h'
            · rw [List.getElem?_eq_none (by simp;omega)]at ha;cases ha
          rw [List.getElem?_take_of_lt yp,List.getElem?_drop]at ha;rw [vU,yn hh];simp [ha]
        · simp only [av,Sg.den,List.append_nil,List.length_map,List.length_take,List.length_drop];omega
        · simp only [List.flatMap_cons,di,List.flatMap_nil,List.append_nil]at hx;exact⟨k,_,by simp [aV,CV.cells,aF],pk hg,Bp _ _ (Bo _ _ hx)⟩
      · exact h.elim
    · exact h.elim
  · rename_i k;generalize hg:aM st.o k=u at h;split at h
    · rename_i ce s t;split at h
      · rename_i hc;obtain⟨rfl,iS⟩:=hc;refine⟨ce,_,ρ,h,aw.le_refl _,rfl,Env.aq _ _,(wf.o k ce s t hg).2,by simp,λU β w _ _ hr => ?_,λx hx=>⟨k,_,by simp [aV,CV.cells,aF],lK (wf.ap k _ hg) hg,hx⟩⟩;have br:=(hr k (by simp [aV,CV.cells,aF]) _ (lK (wf.ap k _ hg) hg)).fh lJ;refine⟨β (k+2), ?_,br.1⟩;show (dC (β k) (β (k+1)) (β (k+2)) (β (k+3))=_/\_)∨∃a k',dC (β k) (β (k+1)) (β (k+2)) (β (k+3))=_/\_;unfold dC;by_cases h0:β (k+1)=0
        · rw [if_pos h0];refine .inl ⟨rfl, ?_⟩;rcases br.2.2 with ⟨_,h1⟩|⟨h1,_⟩
          · exact h1
          · omega
        · rw [if_neg h0];refine .inr ⟨_,_,rfl,λj u hj => ?_⟩;have h1:=Iy br hj;rcases br.2.2 with ⟨_,h2⟩|⟨_,h2,_⟩
          · have:(av U β ce).length=0:=by rw [br.1,h2];omega
            have:=(List.getElem?_eq_some_iff.1 hj).1
            omega
          · rw [vU,h2,Nat.zero_add];exact h1
      · exact h.elim
    · exact h.elim
  · rename_i x _ _ _
    have ext:∀ (s:Nat),(∀ U β an,x.den U β=x.den U an)->aF [x]=[]->x.wf st.c=true->(PA P W Q QM QP).Gf st.c.nl x sz (K [.var st.c.nl] {st.c with nl:=st.c.nl + 1}) ρ ->
        ∃add c' ah,K add c' ah/\st.c.le c'/\c'.nk=st.c.nk/\Env.aE st.c ρ ah/\cH c' add=true/\(SV.cv (.one x)) ≠ .any/\Src W st sz (.cv (.one x)) add c' ah /\
          ∀i∈add.flatMap di,∃j e,j∈aF (aV (.cv (.one x)))/\aK st.m st.o j=some e/\i∈fD e:=by
      intro s lN Pl GK h;obtain⟨L,h1,h2⟩:=h;have hle:=aw.qI st.c 1;refine⟨_,_,_,h2,hle,rfl,tB st.c ρ L,by simp [cH,Sg.wf],by simp,λU β w hl hB hr => ?_,λi hi=>by simp [di]at hi⟩
      have e1:U.l st.c.nl=L:=by
        rw [hl.l st.c.nl (Nat.lt_succ_self _)];exact if_pos rfl
      have e2:av U β [.var st.c.nl]=L.map (·.1):=by simp only [av,Sg.den,List.append_nil,e1]
      have e3:x.den U β=x.den ρ b0:=by
        rw [At.ae (Env.aj hle (tB st.c ρ L) hl) (β:=β) (λ_ _=>rfl) GK];exact lN ρ β b0
      rw [e2];rcases h1 with ⟨h3,h4⟩|⟨a0,h3,h4⟩|⟨b,o,len,cap,h3,h4,h5⟩
      · exact⟨0,.inl ⟨e3.trans h3,rfl⟩,by rw [h4];simp⟩
      · exact⟨0,.inr ⟨a0,0,e3.trans h3,λj u hj=>by rw [h4]at hj;simp at hj⟩,by rw [h4];simp⟩
      · refine⟨len,.inr ⟨_,_,e3.trans h3,λj u hj => ?_⟩,h4⟩
        have:=h5 j u hj
        rw [vU];exact hB.cell this
    split at h
    · rename_i p ix s len cap;split at h
      · rename_i hc;exact ext 0 (λ_ _ _=>rfl) rfl hc.2 h
      · exact h.elim
    · rename_i q p s len cap;split at h
      · rename_i hc;exact ext 0 (λ_ _ _=>rfl) rfl hc.2 h
      · exact h.elim
    · exact h.elim
  · exact h.elim
theorem TE{o:bq}{sz:Nat}{el:TypeId}{x:SV}{ce:CE}{jD:List Nat}(h:rowOf o sz el x=some (ce,jD)) :
  (x=.cv (.one .dK)/\ce=[]/\jD=[])∨∃k,x=.cv (.one (.own k))/\aM o k=some (ce,sz,el)/\jD=[k]:=by
 unfold rowOf at h;split at h
 ·simp only [Option.some.injEq,Prod.mk.injEq]at h;exact .inl ⟨rfl,h.1.symm,h.2.symm⟩
 ·rename_i k;split at h
  ·rename_i gu s t hg;split at h
   ·rename_i hc;obtain⟨rfl,rfl⟩:=hc;simp only [Option.some.injEq,Prod.mk.injEq]at h;obtain⟨rfl,rfl⟩:=h;exact .inr ⟨k,rfl,hg,rfl⟩
   ·cases h
  ·cases h
 ·cases h
theorem PK{G:bW}{st:St}{o:Oper}{K:St->Env->Prop}{ρ:Env}(wf:st.WF)(h:zQ (PA G.P W Q QM QP) G st o K ρ):re G.P W st o K ρ:=by
 unfold zQ at h;obtain⟨dst,op,type,pos,after,guard⟩:=o;cases op<;>first|exact h.elim|skip
 rename_i cl;obtain⟨callee,args,argTypes⟩:=cl;cases callee<;>first|exact h.elim|skip
 rename_i bi;cases bi<;>first|exact h.elim|skip
 simp only at h;generalize ha:args.toList=al at h;generalize ht:argTypes.toList=tl at h;split at h;rotate_left
 ·exact h.elim
 rename_i x y t t';have ea:args=#[x,y]:=by apply Array.ext';rw [ha]
 have et:argTypes=#[t,t']:=by apply Array.ext';rw [ht]
 subst ea et;generalize hu:G.P.underlying t=u at h;split at h;rotate_left
 ·exact h.elim
 rename_i el;generalize hi:G.P.info? el=u2 at h;generalize wj:de G.P el=u3 at h;split at h;rotate_left
 ·exact h.elim
 rename_i i z;split at h;rotate_left
 ·exact h.elim
 rename_i hc;obtain⟨rfl,c1,c2,c3⟩:=hc;generalize TF:rowOf st.o i.size el (st.ev x)=u4 at h;split at h;rotate_left
 ·exact h.elim
 rename_i ce jD
 obtain⟨add,ca,Xe,h,a1,a2,a3,a4,a5,a6,a7⟩:=TD wf c1 (wf.ev y) h;obtain⟨nl,cb,la,h,b1,b2,b3,b4,b5⟩:=zW h;obtain⟨TG,h⟩:=zb h;have hle:=aw.le_trans a1 b1;have d_:=Env.aj a1 a3 b3;unfold St.jS at h;split at h;rotate_left
 ·exact h.elim
 rename_i uA;obtain⟨h1,h2⟩:=zi h;have jj:=(lg {st with o:=(cb.nk,dw ce add,i.size,el)::cf st.o jD} dst (.cv (.one (rowAt 0 cb.nk))) {cb with nk:=cb.nk+4}).1;refine⟨_,la,.cv (.one (rowAt 0 cb.nk)),jD,h1,by rw [jj];exact aw.le_trans hle (aw.mC cb 4),d_,λU hl => ?_⟩;rw [jj]at hl;have tH:Env.aE cb la U:=⟨hl.i,hl.b,hl.v,hl.p,hl.s,hl.l⟩
 have D8:∀k,k∈aF (aV (st.ev x))∨k∈aF (aV (st.ev y))->k∈ba st ⟨dst,.call ⟨.builtin .append,#[x,y],#[t',t']⟩,type,pos,after,guard⟩:=λk hk=>by
  have app:∀(l1 l2:List At),aF (l1++l2)=aF l1++aF l2:=by
   intro l1 l2
   induction l1 with
   |nil=>rfl
   |cons a l1 ih=>cases a<;>simp [aF,ih]
  simp only [ba,List.map_cons,List.map_nil,List.flatMap_cons,List.flatMap_nil,List.append_nil,app];exact List.mem_append.2 hk
 have yx:=TE TF
 have sF:∀k∈jD,k∈aY st ⟨dst,.call ⟨.builtin .append,#[x,y],#[t',t']⟩,type,pos,after,guard⟩/\(aM st.o k).isSome=true:=λk hk=>by
  rcases yx with ⟨_,_,rfl⟩|⟨k0,hx,hg,rfl⟩
  ·cases hk
  ·simp only [List.mem_singleton]at hk;subst hk;exact⟨by simp [aY,hx,aV,CV.cells,aF],by rw [hg];rfl⟩
 refine Jl 0 wf hle (b2.trans a2) uA sF (λv hv=>.inr ?_) (λβ a w hB bx eK=>D6 ?_) h2
 ·simp only [fD]at hv;rcases D7 ce add hv with hv|hv
  ·rcases yx with ⟨_,rfl,_⟩|⟨k0,hx,hg,rfl⟩
   ·cases hv
   ·exact⟨k0,_,List.mem_append.2 (.inr (sF k0 (by simp)).1),lK (wf.ap k0 _ hg) hg,hv⟩
  ·obtain⟨j,e,j1,j2,j3⟩:=a7 v hv;exact⟨j,e,List.mem_append.2 (.inl (D8 j (.inr j1))),j2,j3⟩
 ·
  have hz:∃z0,i.zero=some z0/\z0.cells.size=i.size:=by
   obtain⟨i',v,q1,q2,q3⟩:=PJ wj;rw [hi]at q1;cases q1;refine⟨v,q2, ?_⟩;rw [<-q3 U β,CV.bB];simpa using c2
  obtain⟨z0,TH,TI⟩:=hz;have ey:=bx y (by simp [Op.operands,Call.operands]) a5
  have ex:a.eval x=(st.ev x).den U β:=bx x (by simp [Op.operands,Call.operands]) (by
   rcases yx with ⟨hx,_⟩|⟨k0,hx,_⟩<;>rw [hx]<;>simp)
  obtain⟨m,s1,s2⟩:=a6 U β w (Env.aj b1 b3 tH) hB (λk hk e hg=>eK k (List.mem_append.2 (.inl (D8 k (.inr hk)))) e hg);have hn:=b5 U β tH;have Bu:nl.den U<=gE:=by rw [IE.ae tH b4];exact TG
  rw [hn,Dk,List.length_append,s2]at Bu;have tD:fA W w.heap.size:=fA.mk (.inr hB.size)
  obtain⟨b,code,n,base,hv,br,lV⟩:∃b code n base,(st.ev x).den U β=dC b code n base/\hZ (fA W) b code n base (av U β ce) i.size el w /\
    (2<=code->∃j e,j∈jD/\aK st.m st.o j=some e/\bK β j e=some b):=by
   rcases yx with ⟨hx,rfl,rfl⟩|⟨k0,hx,hg,rfl⟩
   ·exact⟨0,0,0,0,by rw [hx];rfl,⟨by simp [av],c1,.inl ⟨by omega,rfl⟩⟩,λh=>by omega⟩
   ·have hE:=lK (wf.ap k0 _ hg) hg
    have:=eK k0 (List.mem_append.2 (.inr (sF k0 (by simp)).1)) _ hE
    exact⟨β k0,β (k0+1),β (k0+2),β (k0+3),by rw [hx];rfl,bY.fh this c1,λh=>⟨k0,_,by simp,hE,by simp only [bK,h,if_true]⟩⟩
  have TJ:n+m<=1073741824:=by
   rw [br.1,<-Nat.add_mul,Nat.mul_div_cancel _ c1]at Bu;simp only [gE]at Bu;omega
  obtain⟨b',lP,oa,w',p1,p2,p3,p4,p5⟩:=Ty (P:=G.P) (t:=t') (ty:=type) w hu hi TH rfl TI br ((st.ev y).den U β) m (av U β add) s1 s2 (vu U β add) (by simp [maxLen];omega)
   (by
    have h1:(n+m)*i.bytes<=1073741824*131072:=Nat.mul_le_mul TJ c3
    omega) tD
  refine⟨b',lP,n+m,oa,w', ?_,by rw [Dk];exact .inl p2,p3,λk hk uz=>p4 k hk λh2 he => ?_,λh2 => ?_⟩
  ·simp [execOp,resolve,invoke,builtin,ex,ey,hv,p1,oR]
  ·obtain⟨j,e,j1,j2,j3⟩:=lV h2;exact uz j e j1 j2 (by rw [j3,he])
  ·rcases p5 h2 with h3|⟨h3,rfl⟩
   ·exact .inl h3
   ·obtain⟨j,e,j1,j2,j3⟩:=lV h3;exact .inr ⟨j,e,j1,j2,j3⟩
end Vc
set_option linter.unusedVariables false
namespace Vc
open Go Go.RowKit
variable {P:Program} {W:e_} {Q:Value->Prop} {QM QP:World->Value->Prop}
theorem TK{ce:CE}{ix:IE}{sz off:Nat}{cs:List At}{p:Nat}(h:iC ce ix sz off=some (cs,p)):eR ce=some cs:=by
 unfold iC at h;split at h
 ·rename_i j gS h1;simp only [Option.some.injEq,Prod.mk.injEq]at h;rw [<-h.1];exact h1
 ·cases h
theorem Jp{α:Type}(A V:List α)(p n L:Nat)(h1:p+n<=L)(h2:L<=A.length)(hv:V.length=n):(A.take p++V++A.drop (p+n)).take L=(A.take L).take p++V++(A.take L).drop (p+n):=by
 apply List.ext_getElem?;intro i;simp only [List.getElem?_take,List.getElem?_append,List.length_take,List.length_append,List.getElem?_drop,hv];have a1:min p A.length=p:=Nat.min_eq_left (by omega);have a2:min p (min L A.length)=p:=by omega
 simp only [a1,a2];by_cases hi:i<L
 ·rw [if_pos hi];by_cases hp:i<p+n
  ·rw [if_pos hp,if_pos hp];by_cases hq:i<p
   ·simp only [hq,if_true];rw [if_pos hi]
   ·simp only [hq,if_false]
  ·rw [if_neg hp,if_neg hp,if_pos (by omega)]
 ·rw [if_neg hi];have hp:¬i<p+n:=by omega
  rw [if_neg hp,if_neg (by omega)]
theorem TL{m:Mem}{o:bq}{k0:Nat}{ce gu:CE}{sz:Nat}{el:TypeId}(hm:getM m k0=none)(h:aM o k0=some (ce,sz,el))(k:Nat):aK m (eC o k0 gu) k=if k0=k then some (.row gu sz el)else aK m o k:=by
 unfold aK;rw [Bl];by_cases hk:k0=k
 ·subst hk;rw [if_pos rfl,if_pos rfl,hm,h];rfl
 ·rw [if_neg hk,if_neg hk]
theorem CW{st:St}{o:Oper}{ρ:Env}{k0:Nat}{ce gu:CE}{sz:Nat}{el:TypeId}{c:aw}(wf:st.WF)(hle:st.c.le c)(uz:c.nk=st.c.nk)(j7:aM st.o k0=some (ce,sz,el))(lO:k0∈aY st o)(h3:cH c gu=true)
  (kX:∀x∈gu.flatMap di,x∈dM st o∨x∈ce.flatMap di)
  (h4:∀(β:Nat->Nat) (a:Act) (w:World),eG st o ρ β a->Holds W ρ β k0 (.row ce sz el) w ->
   ∃w',(execOp a.eval o).run P w=.ok .skip w'/\Holds W ρ β k0 (.row gu sz el) w'/\(w'.os=w.os/\w'.tape=w.tape/\w'.output=w.output/\w.heap.size<=w'.heap.size)/\(∀b,b<w.heap.size->bK β k0 (.row ce sz el)≠some b->w'.heap[b]? = w.heap[b]?))
  (h5:jQ {st with o:=eC st.o k0 gu} o.dst .any c):jg P W st o ρ ({st with o:=eC st.o k0 gu}.cr o.dst .any c) .any [k0]:=by
 obtain⟨q1,q2,q3,q4,q5,q6⟩:=lg {st with o:=eC st.o k0 gu} o.dst .any c;have mJ:=wf.ap k0 _ j7
 have hm:∀k,aK ({st with o:=eC st.o k0 gu}.cr o.dst .any c).m ({st with o:=eC st.o k0 gu}.cr o.dst .any c).o k=if k0=k then some (.row gu sz el)else aK st.m st.o k:=λk=>by
  rw [q2,q4];exact TL mJ j7 k
 have lU:=(wf.o k0 ce sz el j7).1;have g:=wf.grow hle;refine⟨λhk=>by rw [(zm _ _ _ _).1];exact hk,(zm _ _ _ _).2,q3,q5,q6,by rw [q1];exact hle, ?_,λt'=>zn _ o.dst _ _ t',λd hd=>(h5 d hd).1,λk hk => ?_,λk _ hk => ?_,λk e' hk hg x hx => ?_,λβ a w hB ho hr _ next Q' hn => ?_⟩
 ·refine⟨λi => ?_,by rw [q2,q1];exact g.m,λk Jb Jc t2 hg => ?_,λk x hk => ?_,by rw [q5,q1];exact g.r,by rw [q6,q1];exact g.d,by rw [(zm _ _ _ _).1,q1];exact g.k,by rw [(zm _ _ _ _).2,q1];exact g.df⟩
  ·rw [zn,q1];by_cases hd:o.dst=some i
   ·rw [if_pos hd];rfl
   ·rw [if_neg hd];exact g.t i
  ·rw [q4,Bl]at hg;rw [q1];by_cases hk:k0=k
   ·subst hk;rw [if_pos rfl,j7]at hg;simp only [Option.map_some,Option.some.injEq,Prod.mk.injEq]at hg;obtain⟨rfl,rfl,rfl⟩:=hg;exact⟨by omega,h3⟩
   ·rw [if_neg hk]at hg;exact g.o k Jb Jc t2 hg
  ·rw [q4,Bl]at hk;rw [q2];by_cases dq:k0=k
   ·subst dq;exact mJ
   ·rw [if_neg dq]at hk;exact wf.ap k x hk
 ·simp only [List.mem_singleton]at hk;subst hk;exact⟨lO,by omega⟩
 ·rw [hm,if_neg (λe=>hk (by simp [e]))]
 ·rw [hm]at hg;by_cases dq:k0=k
  ·rw [if_pos dq]at hg;cases hg;rcases kX x hx with h|h
   ·exact .inl h
   ·exact .inr ⟨k0,_,List.mem_append.2 (.inr lO),lK mJ j7,h⟩
  ·rw [if_neg dq]at hg;rcases hk with hk|hk
   ·simp only [List.mem_singleton]at hk;exact (dq hk.symm).elim
   ·rw [wf.beyond hk]at hg;cases hg
 ·have hold:=hr k0 (List.mem_append.2 (.inr lO)) _ (lK mJ j7);obtain⟨w',r1,r2,⟨r3,r4,r5,r6⟩,r7⟩:=h4 β a w ho hold;unfold Oper.wp;rw [r1,Oper.upon_skip];refine hn β _ _ (λh=>(h rfl).elim) ⟨r3,r4,r5,r6,λb hb sD=>r7 b hb (sD k0 _ (by simp) (lK mJ j7)),λ_ _=>rfl,λk e' hk hg => ?_,λk k' e e' _ hk oI hg fM _ _ => ?_⟩
  ·rw [hm]at hg;by_cases dq:k0=k
   ·rw [if_pos dq]at hg;cases hg;subst dq;exact⟨r2,λb hb=>.inr ⟨k0,_,by simp,lK mJ j7,hb,.inl rfl⟩⟩
   ·rw [if_neg dq]at hg;rcases hk with hk|hk
    ·simp only [List.mem_singleton]at hk;exact (dq hk.symm).elim
    ·rw [wf.beyond hk]at hg;cases hg
  ·have one:∀{k e},(k ∈ [k0]∨st.c.nk<=k)->aK ({st with o:=eC st.o k0 gu}.cr o.dst .any c).m ({st with o:=eC st.o k0 gu}.cr o.dst .any c).o k=some e->k=k0:=by
    intro k e hk hg;rcases hk with hk|hk
    ·simpa using hk
    ·rw [hm,if_neg (by omega),wf.beyond hk]at hg;cases hg
   rw [one hk hg,one oI fM]
theorem PL{lo:Nat->Prop}{w:World}{z:Array Value}{n c sz:Nat}{el:TypeId}(hs:0<sz)(hz:z.size=sz)(tD:lo w.heap.size)(hc:c<=maxLen)(hn:n=0∨n=c) :
  hZ lo w.heap.size (c+1) n 0 (times z.toList n) sz el (w.alloc (.cells (madeCells z (c*sz)) el)):=by
 refine⟨by rw [GC];simp [hz],hs, ?_⟩;by_cases h0:c=0
 ·exact .inl ⟨by omega,by omega⟩
 ·refine .inr ⟨by omega,rfl,tD,by omega,by simpa using hc,madeCells z (c*sz),heap_alloc_new w _,by simp [size_madeCells], ?_⟩
  have od:madeCells z (c*sz)=(times z.toList c).toArray:=by
   rw [<-hz];exact Ph z c (by omega)
  rw [od];rcases hn with rfl|rfl
  ·simp [times]
  ·have:(times z.toList n).length=n*sz:=by rw [GC];simp [hz]
   rw [<-this,List.take_length]
theorem Jq{s:Sem Value}{w w':World}{v:Value}(h:s.run P w=.ok v w'):((do pure (Next.value (<-s))):Sem Next).run P w=.ok (.value v) w':=by
 simp [h]
theorem GL(l:List Value)(H:∀x:{x // x∈l},x.1.oneCell'=true):(l.attach.map λx=>(⟨x.1,H x⟩:OV)).map (λy:OV=>y.1)=l:=by
 rw [List.map_map];exact List.attach_map_subtype_val l
theorem TM{s d e:TypeId}(h:hU P s d=some e):P.underlying s=some .string/\P.underlying d=some (.slice e)/\P.underlying e=some (.int .u8):=by
 unfold hU at h;split at h
 ·rename_i h1 h2;split at h
  ·rename_i h3;simp only [Option.some.injEq]at h;subst h;exact⟨h1,h2,h3⟩
  ·cases h
 ·cases h
theorem TN(l:List UInt8):aN (nQ l)=[]:=by
 induction l with
 |nil=>rfl
 |cons b l ih=>simpa [nQ,aN]using ih
theorem TO(ρ:Env)(β:Nat->Nat)(l:List UInt8):(nQ l).map (At.den ρ β)=l.map CD:=by
 simp only [nQ,List.map_map];rfl
theorem PM{c:aw}:∀{ce:CE} {cs:List At},eR ce=some cs->cH c ce=true->cs.all (At.wf c)=true/\∀y∈aN cs,y∈ce.flatMap di
  | [],cs,h,_=>by simp only [eR,Option.some.injEq]at h;subst h;exact⟨rfl,λy hy=>by cases hy⟩
  | .var j::r,cs,h,_=>by simp [eR]at h
  | .cG l::r,cs,h,hw=>by
    simp only [eR,Option.map_eq_some_iff]at h;obtain⟨l',h1,rfl⟩:=h;simp only [cH,List.all_cons,Bool.and_eq_true]at hw;obtain⟨i1,i2⟩:=PM h1 (show cH c r=true from hw.2);have hl:l.all (At.wf c)=true:=hw.1;refine⟨by rw [List.all_append,hl,i1];rfl,λy hy => ?_⟩;rw [zg]at hy;rw [List.flatMap_cons];rcases List.mem_append.1 hy with hy|hy
    · exact List.mem_append.2 (.inl hy)
    · exact List.mem_append.2 (.inr (i2 y hy))
theorem PN{G:bW}{st:St}{o:Oper}{K:St->Env->Prop}{ρ:Env}(wf:st.WF){t:TypeId}{m k v:Operand}(ho:o.op=.mapUpdate t m k v∨o.op=.insert t m k v)
    (h:lH (PA G.P W Q QM QP) G st o.dst t (st.ev m) (st.ev k) (st.ev v) K ρ):re G.P W st o K ρ:=by
  unfold lH at h;generalize hx:gi G.P t=u1 at h;generalize hm:st.ev m=sm at h;generalize hk:st.ev k=sk at h;generalize hv:st.ev v=sv at h;split at h;rotate_left
  · exact h.elim
  rename_i x j kv vv;generalize hg:aM st.o j=u2 at h;split at h;rotate_left
  · exact h.elim
  rename_i ce sz tc;generalize qZ:eR ce=u4 at h;split at h;rotate_left
  · clear qZ;split at h;rotate_left
    · exact h.elim
    rename_i hc;obtain⟨c1,c2,rfl,rfl,c5,c6⟩:=hc;obtain⟨g1,g2,g3,g4,g5,a8,h1,su,fK⟩:=O5 h;obtain⟨m1,m2,m3,m4,m5,m6,m7,m8⟩:=vV hx;have fQ:st.c.le {st.c with ni:=st.c.ni+1}:=aw.tf st.c 1;have Gy:cH {st.c with ni:=st.c.ni+1} ce=true:=A0 fQ g4;have wk:kv.wf st.c=true:=by have:=wf.ev k;rw [hk]at this;exact this
    have wv:vv.wf st.c=true:=by have:=wf.ev v;rw [hv]at this;exact this
    have lO:j∈aY st o:=by rcases ho with ho|ho<;>simp [aY,ho,hm,aV,CV.cells,aF]
    have GM:dM st o=aN kv.cells++aN vv.cells:=by rcases ho with ho|ho<;>simp [dM,ho,hk,hv,fx]
    have run:∀ (U:Env),Env.aE {st.c with ni:=st.c.ni + 1} a8 U->∀ (β:Nat->Nat) (a:Act) (w:World) (gu:CE),eG st o U β a->Holds W U β j (.row ce 0 x.no) w ->
        av U β gu=(match du x.ks.length (x.ks.length+x.ne) (kv.cells.map (At.den U β)) (av U β ce).length (av U β ce)with
          |some i=>(av U β ce).take (i*(x.ks.length+x.ne)+x.ks.length)++vv.cells.map (At.den U β)++(av U β ce).drop (i*(x.ks.length+x.ne)+x.ks.length+x.ne)
          |none=>av U β ce++(kv.cells.map (At.den U β)++vv.cells.map (At.den U β))) ->
        ∃w',(execOp a.eval o).run G.P w=.ok .skip w'/\Holds W U β j (.row gu 0 x.no) w'/\(w'.os=w.os/\w'.tape=w.tape/\w'.output=w.output/\w.heap.size<=w'.heap.size)/\(∀b,b<w.heap.size->bK β j (.row ce 0 x.no)≠some b->w'.heap[b]? = w.heap[b]?):=by
      intro U hl β a w gu bx br oe;have e1:=bx m (by rcases ho with ho|ho<;>rw [ho]<;>simp [Op.operands]) (by rw [hm];simp);have e2:=bx k (by rcases ho with ho|ho<;>rw [ho]<;>simp [Op.operands]) (by rw [hk];simp);have e3:=bx v (by rcases ho with ho|ho<;>rw [ho]<;>simp [Op.operands]) (by rw [hv];simp);rw [hm]at e1;rw [hk]at e2;rw [hv]at e3;have Bq:a.eval m=.map (some (β j)):=e1;have Br:a.eval k=kv.den U β:=e2;have Jr:a.eval v=vv.den U β:=e3;rcases br with br|⟨_,own,code,Js⟩
      · exact absurd br.2.1 (by omega)
      obtain⟨es,clock,hb,j5,iv⟩:=(yq hx).1 Js;obtain⟨k1,k2⟩:=DN hx c1 U β
      have hlen:es.toList.length<=(av U β ce).length:=by
        rw [<-j5,DM es.toList iv];exact Nat.le_mul_of_pos_right _ (by omega)
      obtain⟨f1,f2⟩:=II hx g1 (w:=w) k1 es.toList _ 0 hlen iv (by rw [j5];exact (fK U hl β).1);rw [j5]at f1 f2;generalize vY:du x.ks.length (x.ks.length+x.ne) (kv.cells.map (At.den U β)) (av U β ce).length (av U β ce)=r0 at f1 f2 oe
      have Bv:=O2 hx hb (vv:=vv.den U β) k1 k2 f1 (λi v' hr=>by
        simp only [Option.map_eq_some_iff,Prod.mk.injEq,Nat.zero_add]at hr;obtain⟨j0,DQ,rfl,_⟩:=hr;exact f2 _ DQ)
      obtain⟨D9,_⟩:=CR c1 U β;obtain⟨D_,_⟩:=CR c2 U β;have eD:β j<w.heap.size:=uw hb
      have fin:∀ (uB:Array MapEntry) (jI:Nat),(Instr.mapUpdate t (.map (some (β j))) (kv.den U β) (vv.den U β)).run G.P w=.ok () {w with heap:=w.heap.setIfInBounds (β j) (.map uB jI)} ->
          uB.toList.flatMap aJ=av U β gu->(∀e∈uB.toList,eo (dD x.gk x.ks.length) e.key/\eo (dD x.ge x.ne) e.val) ->
          ∃w',(execOp a.eval o).run G.P w=.ok .skip w'/\Holds W U β j (.row gu 0 x.no) w'/\(w'.os=w.os/\w'.tape=w.tape/\w'.output=w.output/\w.heap.size<=w'.heap.size)/\(∀b,b<w.heap.size->bK β j (.row ce 0 x.no)≠some b->w'.heap[b]? = w.heap[b]?):=by
        intro uB jI je od Bw;refine⟨{w with heap:=w.heap.setIfInBounds (β j) (.map uB jI)}, ?_,.inr ⟨rfl,own,code,(yq hx).2 ⟨uB,jI, ?_,od,Bw⟩⟩,⟨rfl,rfl,rfl,by simp⟩,λb il sD => ?_⟩
        · rcases ho with ho|ho<;>simp only [execOp,ho,Bq,Br,Jr,Sem.run_bind,je,Result.andThen_ok,Sem.run_pure]
        · simp [eD]
        · have iS:β j≠b:=λhe=>sD (by simp only [bK,code,if_true,he]);exact Array.getElem?_setIfInBounds_ne iS
      cases r0 with
      |none =>
        simp only at oe;refine fin _ _ Bv ?_ λe he => ?_
        · rw [oe];simp only [Array.toList_push,List.flatMap_append,j5,List.flatMap_cons,List.flatMap_nil,List.append_nil,aJ,CV.bB]
        · simp only [Array.toList_push,List.mem_append,List.mem_singleton]at he;rcases he with he|rfl
          · exact iv e he
          · exact⟨D9,D_⟩
      |some i =>
        obtain⟨e,q1,q2,q3⟩:=f2 i rfl;simp only at oe;simp only [Option.map_some,Nat.zero_add]at Bv;refine fin _ _ Bv ?_ λe' he => ?_
        · rw [oe,Array.toList_modify,IF es.toList i q1 q2 iv,j5,CV.bB]
        · rw [Array.toList_modify]at he;obtain⟨n,hn⟩:=List.mem_iff_getElem?.1 he;rw [List.getElem?_modify]at hn;simp only [Option.map_eq_map,Option.map_eq_some_iff]at hn;obtain⟨e0,h0,rfl⟩:=hn
          have:=iv e0 (List.mem_of_getElem? h0)
          split
          · exact⟨D9,D_⟩
          · exact this
    have Bx:vv.cells.length=x.ne:=(CR c2 ρ b0).2;have Gu:(IE.var st.c.ni).wf {st.c with ni:=st.c.ni+1}=true:=by show decide (st.c.ni<st.c.ni+1)=true;simp
    rcases zw h1 with ⟨e1,h1⟩|⟨e1,h1⟩
    ·
      have uC:∀v∈(LP.set ce (IE.var st.c.ni) (x.ks.length+x.ne) x.ks.length vv.cells).den a8,v.oneCell'=true:=λv hv=>by
        simp only [LP.den,List.mem_append]at hv;rcases hv with (hv|hv)|hv
        · exact vu _ _ _ _ (List.mem_of_mem_take hv)
        · obtain⟨a,_,rfl⟩:=List.mem_map.1 hv;exact At.iz _ _ _
        · exact vu _ _ _ _ (List.mem_of_mem_drop hv)
      have hL:=h1 (((LP.set ce (IE.var st.c.ni) (x.ks.length+x.ne) x.ks.length vv.cells).den a8).attach.map λy=>(⟨y.1,uC y.1 y.2⟩:OV)) (GL _ λx=>uC x.1 x.2);generalize TP:(((LP.set ce (IE.var st.c.ni) (x.ks.length+x.ne) x.ks.length vv.cells).den a8).attach.map λy=>(⟨y.1,uC y.1 y.2⟩:OV))=L at hL;have TQ:L.map (·.1)=(LP.set ce (IE.var st.c.ni) (x.ks.length+x.ne) x.ks.length vv.cells).den a8:=by rw [<-TP];exact GL _ λx=>uC x.1 x.2
      obtain⟨p1,p2⟩:=zi hL;have jj:=(lg {st with o:=eC st.o j [.var st.c.nl]} o.dst .any {st.c with ni:=st.c.ni+1,nl:=st.c.nl+1}).1;have oc:aw.le {st.c with ni:=st.c.ni+1} {st.c with ni:=st.c.ni+1,nl:=st.c.nl+1}:=aw.qI {st.c with ni:=st.c.ni+1} 1;refine⟨_,a8.lh st.c.nl L,.any,[j],p1,by rw [jj];exact aw.le_trans fQ oc,Env.aj fQ su (tB {st.c with ni:=st.c.ni+1} a8 L),λU d_ => ?_⟩;rw [jj]at d_;have wu:Env.aE {st.c with ni:=st.c.ni+1} a8 U:=Env.aj oc (tB {st.c with ni:=st.c.ni+1} a8 L) d_;refine CW wf (aw.le_trans fQ oc) rfl hg lO ?_ (λy gv => ?_) (λβ a w bx br=>run U wu β a w _ bx br ?_) p2
      · simp [cH,Sg.wf]
      · simp [di]at gv
      · have jH:U.l st.c.nl=L:=by
          have:=d_.l st.c.nl (by show st.c.nl<st.c.nl+1;omega)
          rw [this];simp [Env.lh]
        have iT:=(fK U wu β).2;have e0:(IE.var st.c.ni).den U=(IE.var st.c.ni).den a8:=IE.ae wu Gu
        have oV:0<=(IE.var st.c.ni).den U:=by
          rw [e0];simpa [BE.den,iN,IE.den]using e1
        unfold nH at iT;cases vY:du x.ks.length (x.ks.length+x.ne) (kv.cells.map (At.den U β)) (av U β ce).length (av U β ce)with
        |none=>rw [vY]at iT;simp only at iT;omega
        |some i =>
          rw [vY]at iT;simp only at iT;have D':((IE.var st.c.ni).den a8).toNat=i:=by rw [<-e0,iT];rfl
          have q1:av a8 b0 ce=av U β ce:=by rw [Be a8 b0 β g2,uX (β:=β) (an:=β) wu (λ_ _=>rfl) Gy]
          have q2:vv.cells.map (At.den a8 b0)=vv.cells.map (At.den U β):=by
            have Jt:vv.cells.all At.flat=true:=by
              cases vv with
              |one a=>simpa [CV.cells,CV.flat]using c5
              |agg l=>exact c5
            rw [CJ a8 b0 β Jt,xZ (β:=β) (an:=β) wu (λ_ _=>rfl) (List.all_eq_true.2 λy hy=>At.aT fQ (List.all_eq_true.1 (CV.eu wv) y hy))]
          simp only [av,Sg.den,List.append_nil,jH,TQ,LP.den,q1,q2,D',Bx]
    ·
      obtain⟨p1,p2⟩:=zi h1;have jj:=(lg {st with o:=eC st.o j (dw ce [.cG (kv.cells++vv.cells)])} o.dst .any {st.c with ni:=st.c.ni+1}).1;refine⟨_,a8,.any,[j],p1,by rw [jj];exact fQ,su,λU d_ => ?_⟩;rw [jj]at d_;refine CW wf fQ rfl hg lO ?_ (λy gv => ?_) (λβ a w bx br=>run U d_ β a w _ bx br ?_) p2
      · refine HS _ _ _ Gy ?_;simp only [cH,List.all_cons,List.all_nil,Bool.and_true,Sg.wf,List.all_append];rw [List.all_eq_true.2 λy hy=>At.aT fQ (List.all_eq_true.1 (CV.eu wk) y hy),List.all_eq_true.2 λy hy=>At.aT fQ (List.all_eq_true.1 (CV.eu wv) y hy)];rfl
      · rcases D7 _ _ gv with gv|gv
        · exact .inr gv
        · simp only [List.flatMap_cons,di,List.flatMap_nil,List.append_nil,zg]at gv;rw [GM];exact .inl gv
      · have iT:=(fK U d_ β).2;have e0:(IE.var st.c.ni).den U=(IE.var st.c.ni).den a8:=IE.ae d_ Gu
        have oV:¬0<=(IE.var st.c.ni).den U:=by
          rw [e0];simpa [BE.den,iN,IE.den]using e1
        unfold nH at iT;cases vY:du x.ks.length (x.ks.length+x.ne) (kv.cells.map (At.den U β)) (av U β ce).length (av U β ce)with
        |some i=>rw [vY]at iT;simp only at iT;omega
        |none=>simp only [Dk,av,Sg.den,List.append_nil,List.map_append]
  rename_i cs;split at h;rotate_left
  · exact h.elim
  rename_i hc;obtain⟨c1,c2,rfl,rfl⟩:=hc;obtain⟨r,h1,h2⟩:=IC hx _ _ _ h;have wk:kv.wf st.c=true:=by have:=wf.ev k;rw [hk]at this;exact this
  have wv:vv.wf st.c=true:=by have:=wf.ev v;rw [hv]at this;exact this
  have lO:j∈aY st o:=by rcases ho with ho|ho<;>simp [aY,ho,hm,aV,CV.cells,aF]
  have GM:dM st o=aN kv.cells++aN vv.cells:=by rcases ho with ho|ho<;>simp [dM,ho,hk,hv,fx]
  obtain⟨Ea,Ju⟩:=PM qZ (wf.o j ce _ _ hg).2
  have run:∀ (U:Env),Env.aE st.c ρ U->∀ (β:Nat->Nat) (a:Act) (w:World) (gu:CE),eG st o U β a->Holds W U β j (.row ce 0 x.no) w ->
      av U β gu=(match r with
        |some (i,_)=>(cs.map (At.den U β)).take (i*(x.ks.length+x.ne)+x.ks.length)++vv.cells.map (At.den U β)++(cs.map (At.den U β)).drop (i*(x.ks.length+x.ne)+x.ks.length+x.ne)
        |none=>cs.map (At.den U β)++(kv.cells.map (At.den U β)++vv.cells.map (At.den U β))) ->
      ∃w',(execOp a.eval o).run G.P w=.ok .skip w'/\Holds W U β j (.row gu 0 x.no) w'/\(w'.os=w.os/\w'.tape=w.tape/\w'.output=w.output/\w.heap.size<=w'.heap.size)/\(∀b,b<w.heap.size->bK β j (.row ce 0 x.no)≠some b->w'.heap[b]? = w.heap[b]?):=by
    intro U hl β a w gu bx br oe;have e1:=bx m (by rcases ho with ho|ho<;>rw [ho]<;>simp [Op.operands]) (by rw [hm];simp);have e2:=bx k (by rcases ho with ho|ho<;>rw [ho]<;>simp [Op.operands]) (by rw [hk];simp);have e3:=bx v (by rcases ho with ho|ho<;>rw [ho]<;>simp [Op.operands]) (by rw [hv];simp);rw [hm]at e1;rw [hk]at e2;rw [hv]at e3;have Bq:a.eval m=.map (some (β j)):=e1;have Br:a.eval k=kv.den U β:=e2;have Jr:a.eval v=vv.den U β:=e3;rcases br with br|⟨_,own,code,Js⟩
    · exact absurd br.2.1 (by omega)
    obtain⟨es,clock,hb,j5,iv⟩:=(yq hx).1 Js;rw [Dl U β qZ]at j5;obtain⟨k1,k2⟩:=DN hx c1 U β;obtain⟨f1,f2⟩:=h2 U hl β w _ es.toList k1 j5 iv
    have Bv:=O2 hx hb (vv:=vv.den U β) k1 k2 f1 (λi v' hr=>by
      cases r with
      |none=>cases hr
      |some q =>
        simp only [Option.map_some,Option.some.injEq,Prod.mk.injEq,Nat.zero_add]at hr;obtain⟨rfl,_⟩:=hr;exact f2 q.1 q.2 rfl)
    obtain⟨D9,_⟩:=CR c1 U β;obtain⟨D_,_⟩:=CR c2 U β;have eD:β j<w.heap.size:=uw hb
    have fin:∀ (uB:Array MapEntry) (jI:Nat),(Instr.mapUpdate t (.map (some (β j))) (kv.den U β) (vv.den U β)).run G.P w=.ok () {w with heap:=w.heap.setIfInBounds (β j) (.map uB jI)} ->
        uB.toList.flatMap aJ=av U β gu->(∀e∈uB.toList,eo (dD x.gk x.ks.length) e.key/\eo (dD x.ge x.ne) e.val) ->
        ∃w',(execOp a.eval o).run G.P w=.ok .skip w'/\Holds W U β j (.row gu 0 x.no) w'/\(w'.os=w.os/\w'.tape=w.tape/\w'.output=w.output/\w.heap.size<=w'.heap.size)/\(∀b,b<w.heap.size->bK β j (.row ce 0 x.no)≠some b->w'.heap[b]? = w.heap[b]?):=by
      intro uB jI je od Bw;refine⟨{w with heap:=w.heap.setIfInBounds (β j) (.map uB jI)}, ?_,.inr ⟨rfl,own,code,(yq hx).2 ⟨uB,jI, ?_,od,Bw⟩⟩,⟨rfl,rfl,rfl,by simp⟩,λb il sD => ?_⟩
      · rcases ho with ho|ho<;>simp only [execOp,ho,Bq,Br,Jr,Sem.run_bind,je,Result.andThen_ok,Sem.run_pure]
      · simp [eD]
      · have iS:β j≠b:=λhe=>sD (by simp only [bK,code,if_true,he]);exact Array.getElem?_setIfInBounds_ne iS
    cases r with
    |none =>
      refine fin _ _ Bv ?_ λe he => ?_
      · rw [oe];simp only [Array.toList_push,List.flatMap_append,j5,List.flatMap_cons,List.flatMap_nil,List.append_nil,aJ,CV.bB]
      · simp only [Array.toList_push,List.mem_append,List.mem_singleton]at he;rcases he with he|rfl
        · exact iv e he
        · exact⟨D9,D_⟩
    |some q =>
      obtain⟨i,vs⟩:=q;obtain⟨e,g1,g2,g3⟩:=f2 i vs rfl;simp only [Option.map_some,Nat.zero_add]at Bv;refine fin _ _ Bv ?_ λe' he => ?_
      · rw [oe,Array.toList_modify,IF es.toList i g1 g2 iv,j5,CV.bB]
      · rw [Array.toList_modify]at he;obtain⟨n,hn⟩:=List.mem_iff_getElem?.1 he;rw [List.getElem?_modify]at hn;simp only [Option.map_eq_map,Option.map_eq_some_iff]at hn;obtain⟨e0,h0,rfl⟩:=hn
        have:=iv e0 (List.mem_of_getElem? h0)
        split
        · exact⟨D9,D_⟩
        · exact this
  cases r with
  |none =>
    obtain⟨p1,p2⟩:=zi h1;have jj:=(lg {st with o:=eC st.o j [.cG (cs++(kv.cells++vv.cells))]} o.dst .any st.c).1;refine⟨_,ρ,.any,[j],p1,by rw [jj];exact aw.le_refl _,Env.aq _ _,λU d_ => ?_⟩;rw [jj]at d_;refine CW wf (aw.le_refl _) rfl hg lO ?_ (λy gv => ?_) (λβ a w bx br=>run U d_ β a w _ bx br ?_) p2
    · simp only [cH,List.all_cons,List.all_nil,Bool.and_true,Sg.wf,List.all_append,Ea,CV.eu wk,CV.eu wv,Bool.and_self]
    · simp only [List.flatMap_cons,di,List.flatMap_nil,List.append_nil,zg]at gv;rw [GM];rcases List.mem_append.1 gv with gv|gv
      · exact .inr (Ju y gv)
      · exact .inl gv
    · simp only [av,Sg.den,List.append_nil,List.map_append]
  |some q =>
    obtain⟨i,vs⟩:=q;simp only [Nat.zero_add]at h1;obtain⟨p1,p2⟩:=zi h1;have jj:=(lg {st with o:=eC st.o j [.cG (cs.take (i*(x.ks.length+x.ne)+x.ks.length)++vv.cells++cs.drop (i*(x.ks.length+x.ne)+x.ks.length+x.ne))]} o.dst .any st.c).1;refine⟨_,ρ,.any,[j],p1,by rw [jj];exact aw.le_refl _,Env.aq _ _,λU d_ => ?_⟩;rw [jj]at d_;refine CW wf (aw.le_refl _) rfl hg lO ?_ (λy gv => ?_) (λβ a w bx br=>run U d_ β a w _ bx br ?_) p2
    · simp only [cH,List.all_cons,List.all_nil,Bool.and_true,Sg.wf,List.all_append,(zr Ea _).1,(zr Ea (i*(x.ks.length+x.ne)+x.ks.length+x.ne)).2,CV.eu wv,Bool.and_self]
    · simp only [List.flatMap_cons,di,List.flatMap_nil,List.append_nil,zg]at gv;rw [GM];rcases List.mem_append.1 gv with gv|gv
      · rcases List.mem_append.1 gv with gv|gv
        · exact .inr (Ju y (Bo _ _ gv))
        · exact .inl (List.mem_append.2 (.inr gv))
      · exact .inr (Ju y (Bp _ _ gv))
    · simp only [av,Sg.den,List.append_nil,List.map_append,List.map_take,List.map_drop]
theorem TR{G:bW}(hG:G.Ok){st:St}{o:Oper}{K:St->Env->Prop}{ρ:Env}(wf:st.WF){g:Operand}{args:Array Operand}{cG:Array TypeId}(ho:o.op=.call ⟨.value g,args,cG⟩){f:FuncId}(hg:st.ev g=.cv (.one (.fn f [])))
  (h:sf (PA G.P W Q QM QP) G st o.dst f (args.toList.map st.ev) K ρ):re G.P W st o K ρ:=by
 unfold sf at h;generalize cX:args.toList.map st.ev=all at h;split at h;rotate_left
 ·exact h.elim
 rename_i k ik k2 off n cp;generalize jV:aM st.o k=u1 at h;generalize tG:getM st.m k2=u2 at h;split at h;rotate_left
 ·exact h.elim
 rename_i ce sz t cs t2;split at h;rotate_left
 ·exact h.elim
 rename_i hc;obtain⟨c1,c2,c3,c4⟩:=hc;obtain⟨h1,h⟩:=h;unfold St.jS at h;split at h;rotate_left
 ·exact h.elim
 rename_i uA;obtain⟨p1,p2⟩:=zi h;have jj:=(lg {st with o:=(st.c.nk,dw [.cG ((cs.drop off).take (n*sz))] ce,sz,t)::cf st.o [k]} o.dst (.cv (.one (rowAt 0 st.c.nk))) {st.c with nk:=st.c.nk+4}).1;refine⟨_,ρ,.cv (.one (rowAt 0 st.c.nk)),[k],p1,by rw [jj];exact aw.mC st.c 4,Env.aq _ _,λU hl => ?_⟩;rw [jj]at hl;have tH:Env.aE st.c ρ U:=⟨hl.i,hl.b,hl.v,hl.p,hl.s,hl.l⟩
 have Eb:ba st o=aF (cR st.m st.o (SV.cv (.one (.own k))::SV.cv (.one (.int ik (.lit 0)))::SV.cv (.one (.gY k2 off n cp)) :: [])):=by
  simp only [ba,ho,hg,List.map_nil,List.append_nil,cX]
 have wo:aY st o=fw (SV.cv (.one (.own k))::SV.cv (.one (.int ik (.lit 0)))::SV.cv (.one (.gY k2 off n cp)) :: []):=by
  simp only [aY,ho,hg,List.map_nil,List.append_nil,cX]
 have uv:k∈aY st o:=by rw [wo];exact Ji (j:=0) rfl
 have jr:k2∈ba st o:=by
  rw [Eb];simp [cR,deep,aF,aV,CV.cells]
 have GN:=lK (wf.ap k _ jV) jV;refine Jl 0 wf (aw.le_refl _) rfl uA (λj hj => ?_) (λx hx=>.inr ?_) (λβ a w hB bx eK next Q' hn => ?_) p2
 ·simp only [List.mem_singleton]at hj;subst hj;exact⟨uv,by rw [jV];rfl⟩
 ·simp only [fD]at hx;rcases D7 _ _ hx with hx|hx
  ·simp only [List.flatMap_cons,di,List.flatMap_nil,List.append_nil]at hx;exact⟨k2,_,List.mem_append.2 (.inl jr),pk tG,Bp _ _ (Bo _ _ hx)⟩
  ·exact⟨k,_,List.mem_append.2 (.inr uv),GN,hx⟩
 ·have gq:(SV.cv (.one (.own k))::SV.cv (.one (.int ik (.lit 0)))::SV.cv (.one (.gY k2 off n cp)) :: []).map (SV.den U β)=(SV.cv (.one (.own k))::SV.cv (.one (.int ik (.lit 0)))::SV.cv (.one (.gY k2 off n cp)) :: []).map (SV.den ρ β) :=
   List.map_congr_left λx hx=>SV.ae tH (λ_ _=>rfl) (List.all_eq_true.1 c3 x hx)
  have eg:=bx g (by rw [ho];simp [Op.operands,Call.operands]) (by rw [hg];simp);rw [hg]at eg;have Bt:a.eval g=.func (.func f) #[] #[]:=eg
  have ea:(args.map a.eval).toList=(args.toList.map st.ev).map (SV.den U β):=by
   rw [Array.toList_map]
   exact zy _ λx hx=>bx x (by rw [ho];simp only [Op.operands,Call.operands];exact Array.mem_append.2 (.inr (Array.mem_toList_iff.1 hx))) (by
    have:st.ev x∈args.toList.map st.ev:=List.mem_map.2 ⟨x,hx,rfl⟩
    rw [cX]at this;simp only [List.mem_cons,List.not_mem_nil,or_false]at this;rcases this with h|h|h<;>rw [h]<;>simp)
  rw [cX]at ea
  have ec:(#[]:Array Value)++args.map a.eval ++ #[]=((SV.cv (.one (.own k))::SV.cv (.one (.int ik (.lit 0)))::SV.cv (.one (.gY k2 off n cp)) :: []).map (SV.den U β)).toArray:=by
   apply Array.ext';rw [Array.toList_append,Array.toList_append,ea];simp
  have hx:(execOp a.eval o).run G.P w=(callFunc f ((SV.cv (.one (.own k))::SV.cv (.one (.int ik (.lit 0)))::SV.cv (.one (.gY k2 off n cp)) :: []).map (SV.den U β)).toArray).run G.P w:=by
   simp only [execOp,ho,resolve,Bt,Deferred.ofValue,Sem.run_bind,Sem.run_pure,Result.andThen_ok,invoke];rw [<-ec]
  have br:=eK k (List.mem_append.2 (.inr uv)) _ GN;unfold Oper.wp;rw [hx,hG.calls f c4 _ w,Oper.upon_enter,gq];refine (h1 β w hB ?_).mono λe w' he => ?_
  ·exact Bf wf.ap tH (λq cs t hq=>(wf.m q cs t hq).2) (λq ce sz t hq=>(wf.o q ce sz t hq).2) _ λq hq=>eK q (List.mem_append.2 (.inl (by rw [Eb];exact hq)))
  ·obtain⟨b,code,n',base,rfl,q1,q2,q3,q4⟩:=he;refine hn b code n' base w' ?_ q2 (λx hx Jo=>q3 x hx λh2 he=>Jo k _ (by simp) GN (by simp only [bK,h2,if_true,he])) λh2 => ?_
   ·rw [uX tH (λ_ _=>rfl) uA];refine q1.imp λh2 _ => ?_;rcases q4 h2 with h|⟨h,rfl⟩
    ·exact fA.mk (.inr (Nat.le_trans hB.size h))
    ·exact bY.own br h
   ·rcases q4 h2 with h|⟨h,rfl⟩
    ·exact .inl h
    ·exact .inr ⟨k,_,by simp,GN,by simp only [bK,h,if_true]⟩
theorem PO{G:bW}{st:St}{o:Oper}{K:St->Env->Prop}{ρ:Env}(wf:st.WF)(h:oH (PA G.P W Q QM QP) G st o K ρ):re G.P W st o K ρ:=by
  have yy:∀ (md:Nat) {ce:CE} {sz:Nat} {el:TypeId} {c:aw} {a8:Env},St.jS (PA G.P W Q QM QP) st o.dst [] ce sz el c K md a8->st.c.le c->c.nk=st.c.nk->Env.aE st.c ρ a8->ce.flatMap di=[] ->
      (∀U,Env.aE c a8 U->∀(β:Nat->Nat) (a:Act) (w:World),dT W w->eG st o U β a ->
        ∃b code n base w',(execOp a.eval o).run G.P w=.ok (.value (oR md b code n base)) w'/\bY (fA W) b code n base (av U β ce) sz el w'/\(w'=w∨∃ob w0,w'=w0.alloc ob/\(w0=w∨w0=w.drew))/\(2<=code->w.heap.size<=b))->re G.P W st o K ρ:=by
    intro md ce sz el c a8 h hle uz hl hid hr;unfold St.jS at h;split at h
    · rename_i uA;obtain⟨h1,h2⟩:=zi h;have jj:=(lg {st with o:=(c.nk,ce,sz,el)::cf st.o []} o.dst (.cv (.one (rowAt md c.nk))) {c with nk:=c.nk+4}).1;refine⟨_,a8,.cv (.one (rowAt md c.nk)),[],h1,by rw [jj];exact aw.le_trans hle (aw.mC c 4),hl,λU d_ => ?_⟩;rw [jj]at d_;have tH:Env.aE c a8 U:=⟨d_.i,d_.b,d_.v,d_.p,d_.s,d_.l⟩;refine Jl md wf hle uz uA (λk hk=>by cases hk) (λx hx=>by simp only [fD,hid]at hx;cases hx) (λβ a w hB bx _=>D6 ?_) h2;obtain⟨b,code,n,base,w',r1,r2,r3,r4⟩:=hr U tH β a w hB bx;refine⟨b,code,n,base,w',r1,r2, ?_,λx hx _ => ?_,λh2=>.inl (r4 h2)⟩
      · rcases r3 with rfl|⟨ob,w0,rfl,rfl|rfl⟩
        · exact⟨rfl,rfl,rfl,Nat.le_refl _⟩
        · exact⟨rfl,rfl,rfl,by simp⟩
        · exact⟨rfl,rfl,rfl,by simp⟩
      · rcases r3 with rfl|⟨ob,w0,rfl,rfl|rfl⟩
        · rfl
        · exact Below.heap_alloc _ _ _ hx
        · exact Below.heap_alloc w.drew _ _ hx
    · exact h.elim
  have fin:∀ {ce:CE} {sz:Nat} {el:TypeId} {c:aw} {a8:Env},St.jS (PA G.P W Q QM QP) st o.dst [] ce sz el c K 0 a8->st.c.le c->c.nk=st.c.nk->Env.aE st.c ρ a8->ce.flatMap di=[] ->
      (∀U,Env.aE c a8 U->∀(β:Nat->Nat) (a:Act) (w:World),dT W w->eG st o U β a ->
        ∃b code n base w',(execOp a.eval o).run G.P w=.ok (.value (dC b code n base)) w'/\bY (fA W) b code n base (av U β ce) sz el w'/\(w'=w∨∃ob,w'=w.alloc ob)/\(2<=code->w.heap.size<=b))->re G.P W st o K ρ :=
    λh h1 h2 h3 h4 h5=>yy 0 h h1 h2 h3 h4 λU hl β a w hB ho=>by
      obtain⟨b,code,n,base,w',r1,r2,r3,r4⟩:=h5 U hl β a w hB ho;exact⟨b,code,n,base,w',r1,r2,r3.imp id (fun⟨ob,h⟩=>⟨ob,w,h,.inl rfl⟩),r4⟩
  unfold oH at h;generalize ho:o.op=op at h;cases op<;>first|exact h.elim|skip
  case convert src dst x =>
    simp only at h;generalize hx:st.ev x=sx at h;generalize mY:hU G.P src dst=u0 at h;rcases u0 with _|e
    · exact h.elim
    obtain⟨hs,hd,he⟩:=TM mY
    have bytes:∀ (U:Env) (β:Nat->Nat) (a:Act) (w:World) (l:List UInt8),dT W w->eG st o U β a->sx ≠ .any->sx.den U β=.string ⟨l.toArray⟩ ->
        ∃b code n base w',(execOp a.eval o).run G.P w=.ok (.value (oR 2 b code n base)) w'/\bY (fA W) b code n base (l.map CD) 0 0 w'/\(w'=w∨∃ob w0,w'=w0.alloc ob/\(w0=w∨w0=w.drew))/\(2<=code->w.heap.size<=b):=by
      intro U β a w l hB bx iS mW;have e1:=bx x (by rw [ho];simp [Op.operands]) (by rw [hx];exact iS);rw [hx,mW]at e1;have je:=run_bytes_of_string (P:=G.P) w src dst e ⟨l.toArray⟩ hs hd he;have lJ:(⟨l.toArray⟩:ByteArray).size=l.length:=by show l.toArray.size=_;simp
      rw [lJ]at je;refine⟨w.heap.size,grownCap w l.length 0 e+2,l.length,0,w.drew.alloc (.cells (bytesRow ⟨l.toArray⟩ (grownCap w l.length 0 e)) e ((bytesRow ⟨l.toArray⟩ (grownCap w l.length 0 e)).size,(bytesRow ⟨l.toArray⟩ (grownCap w l.length 0 e)).size+1)), ?_,.inr ⟨rfl,fA.mk (.inr hB.size),by omega, ?_⟩,.inr ⟨_,w.drew,rfl,.inr rfl⟩,λ_=>Nat.le_refl _⟩
      · have:oR 2 w.heap.size (grownCap w l.length 0 e+2) l.length 0=.slice (some ⟨w.heap.size,0,none⟩) l.length (grownCap w l.length 0 e):=by simp [oR]
        rw [this];simp only [execOp,ho,e1];exact Jq je
      · refine⟨by simp,bytesRow ⟨l.toArray⟩ (grownCap w l.length 0 e),e,_,heap_alloc_new w.drew _, ?_⟩;unfold bytesRow;simp only [Array.toList_append,Array.toList_map,List.length_map];rw [List.take_left' (by simp)];rfl
    clear mY;generalize some e=so at h;split at h
    · rename_i l;refine yy 2 h (aw.le_refl _) rfl (Env.aq _ _) (by simp [di,TN]) λU d_ β a w hB bx => ?_
      have:=bytes U β a w l hB bx (by simp) rfl
      simpa only [av,Sg.den,List.append_nil,TO]using this
    · rename_i i;have wi:i<st.c.ns:=by have:=wf.ev x;rw [hx]at this;simpa [SV.wf,CV.wf,At.wf]using this
      have hH:∀x:{x // x∈(ρ.s i).map CD},x.1.oneCell'=true:=λx=>by
        obtain⟨q,_,hq⟩:=List.mem_map.1 x.2;rw [<-hq];rfl
      have hL:=h (((ρ.s i).map CD).attach.map λx=>⟨x.1,hH x⟩) (GL _ hH);have hle:=aw.qI st.c 1;refine yy 2 hL hle rfl (tB st.c ρ _) rfl λU d_ β a w hB bx => ?_;have By:=Env.aj hle (tB st.c ρ _) d_
      have:=bytes U β a w (U.s i) hB bx (by simp) rfl
      have e1:U.l st.c.nl=_:=d_.l st.c.nl (Nat.lt_succ_self _)
      have e2:av U β [.var st.c.nl]=(U.s i).map CD:=by
        simp only [av,Sg.den,List.append_nil,e1,Env.lh,if_true];rw [By.s i wi];exact GL _ hH
      rw [e2];exact this
    · exact h.elim
  case mapUpdate t m k v=>exact PN wf (.inl ho) h
  case insert t m k v=>exact PN wf (.inr ho) h
  case makeMap t rs =>
    cases rs with
    |some r=>exact h.elim
    |none =>
      simp only at h;generalize hx:gi G.P t=u1 at h;split at h;rotate_left
      · exact h.elim
      rename_i x;refine yy 1 h (aw.le_refl _) rfl (Env.aq _ _) rfl λU d_ β a w hB bx => ?_;refine⟨w.heap.size,2,0,0,w.alloc (.map #[] 0), ?_,.inr ⟨rfl,fA.mk (.inr hB.size),Nat.le_refl _,(yq hx).2 ⟨#[],0,heap_alloc_new w _,rfl,λe he=>by simp at he⟩⟩,.inr ⟨_,w,rfl,.inl rfl⟩,λ_=>Nat.le_refl _⟩;simp [execOp,ho,Instr.makeMap,oR]
  case makeSlice t l cp =>
    simp only at h;generalize hu:G.P.underlying t=u1 at h;split at h;rotate_left
    · exact h.elim
    rename_i el;generalize hi:G.P.info? el=u2 at h;generalize wj:de G.P el=u3 at h;split at h;rotate_left
    · exact h.elim
    rename_i i z;split at h;rotate_left
    · exact h.elim
    rename_i hc;obtain⟨c1,c2,c3,c4,c5⟩:=hc;obtain⟨i',v0,z1,z2,z3⟩:=PJ wj;rw [hi]at z1;cases z1;have zs:∀ρ β,v0.cells=(z.cells.map (At.den ρ β)).toArray:=λρ β=>by rw [<-z3 ρ β,CV.bB]
    have PQ:v0.cells.size=i.size:=by rw [zs ρ b0];simpa using c2
    generalize hl:st.ev l=sl at h;generalize Ec:st.ev cp=sc at h;split at h;rotate_left
    · exact h.elim
    rename_i kl e kc e2;have we:e.wf st.c=true:=by have:=wf.ev l;rw [hl]at this;exact this
    have PR:e2.wf st.c=true:=by have:=wf.ev cp;rw [Ec]at this;exact this
    have run:∀ (U:Env) (β:Nat->Nat) (a:Act) (w:World),eG st o U β a->0<=e.den U->e.den U<=e2.den U->e2.den U<=gE ->
        (execOp a.eval o).run G.P w=.ok (.value (.slice (some ⟨w.heap.size,0,none⟩) (e.den U).toNat (e2.den U).toNat)) (w.alloc (.cells (madeCells v0.cells ((e2.den U).toNat*i.size)) el)):=by
      intro U β a w bx h0 h1 h2;have e1:=bx l (by rw [ho];simp [Op.operands]) (by rw [hl];simp);have e3:=bx cp (by rw [ho];simp [Op.operands]) (by rw [Ec];simp);rw [hl]at e1;rw [Ec]at e3;simp only [SV.den,CV.den,At.den]at e1 e3
      have mI:(i.bytes:Int)*e2.den U<=281474976710656:=by
        have:(i.bytes:Int)*e2.den U<=131072*1073741824:=Int.mul_le_mul (by omega) (by simpa [gE]using h2) (by omega) (by omega)
        omega
      have:=run_make (P:=G.P) w t el i v0 hu hi z2 kl kc (e.den U) (e2.den U) h0 h1 mI (by simp [gE]at h2;omega)
      simp only [execOp,ho,e1,e3];exact Jq this
    split at h
    · rename_i Jv;subst Jv;obtain⟨q1,h⟩:=zb h;obtain⟨q2,h⟩:=zb h;refine fin h (aw.le_refl _) rfl (Env.aq _ _) rfl λU d_ β a w hB bx => ?_;have p1:0<=e2.den U:=by rw [IE.ae d_ PR];exact q1
      have p2:e2.den U<=gE:=by rw [IE.ae d_ PR];exact q2
      refine⟨w.heap.size,(e2.den U).toNat+1,0,0,w.alloc (.cells (madeCells v0.cells ((e2.den U).toNat*i.size)) el), ?_, ?_,.inr ⟨_,rfl⟩,λ_=>Nat.le_refl _⟩
      · rw [run U β a w bx (by simp [oT]) (by simpa [oT]using p1) p2];simp [dC,oT]
      · have:=PL (lo:=fA W) (w:=w) (z:=v0.cells) (n:=0) (c:=(e2.den U).toNat) (el:=el) c1 PQ (fA.mk (.inr hB.size)) (by simp [maxLen,gE]at p2 ⊢;omega) (.inl rfl)
        exact .inl (by simpa [times,av]using this)
    · split at h;rotate_left
      · exact h.elim
      rename_i he;subst he;obtain⟨q1,h⟩:=zb h;obtain⟨q2,h⟩:=zb h
      have row:∀ (U:Env) (β:Nat->Nat) (a:Act) (w:World) (xs:List Value),dT W w->eG st o U β a->0<=e.den U->e.den U<=gE->xs=times v0.cells.toList (e.den U).toNat ->
          ∃b code n base w',(execOp a.eval o).run G.P w=.ok (.value (dC b code n base)) w'/\bY (fA W) b code n base xs i.size el w'/\(w'=w∨∃ob,w'=w.alloc ob)/\(2<=code->w.heap.size<=b):=by
        intro U β a w xs hB bx p1 p2 qE;refine⟨w.heap.size,(e.den U).toNat+1,(e.den U).toNat,0,w.alloc (.cells (madeCells v0.cells ((e.den U).toNat*i.size)) el), ?_, ?_,.inr ⟨_,rfl⟩,λ_=>Nat.le_refl _⟩
        · rw [run U β a w bx p1 (Int.le_refl _) p2];simp [dC]
        · rw [qE];exact .inl (PL c1 PQ (fA.mk (.inr hB.size)) (by simp [maxLen,gE]at p2 ⊢;omega) (.inr rfl))
      split at h
      · rename_i n;refine fin h (aw.le_refl _) rfl (Env.aq _ _) (by simp [di,Je _ (Jd wj)]) λU d_ β a w hB bx => ?_;refine row U β a w _ hB bx q1 q2 ?_;simp only [av,Sg.den,List.append_nil,IV,zs U β,oT]
      · rw [if_pos we]at h
        have hL:=h (((times (z.cells.map (At.den ρ b0)) (e.den ρ).toNat)).attach.map λx=>⟨x.1,by
          have:∀(l:List Value) (m:Nat),(∀v∈l,v.oneCell'=true)->∀v∈times l m,v.oneCell'=true:=by
            intro l m hl
            induction m with
            |zero=>intro v hv;cases hv
            |succ m ih=>intro v hv;simp only [times,List.mem_append]at hv;rcases hv with hv|hv;exact hl v hv;exact ih v hv
          refine this _ _ (λv hv => ?_) x.1 x.2;obtain⟨q,_,rfl⟩:=List.mem_map.1 hv;exact At.iz ρ b0 q⟩) (by simp [LP.den])
        have hle:=aw.qI st.c 1;refine fin hL hle rfl (tB st.c ρ _) rfl λU d_ β a w hB bx => ?_;have By:=Env.aj hle (tB st.c ρ _) d_;have d1:e.den U=e.den ρ:=IE.ae By we;refine row U β a w _ hB bx (by rw [d1];exact q1) (by rw [d1];exact q2) ?_;have e1:U.l st.c.nl=_:=d_.l st.c.nl (Nat.lt_succ_self _);simp only [av,Sg.den,List.append_nil,e1,Env.lh,if_true];rw [zs ρ b0,d1];simp
  case buildSlice t len parts =>
    simp only at h;generalize hu:G.P.underlying t=u1 at h;split at h;rotate_left
    · exact h.elim
    rename_i el;generalize hi:G.P.info? el=u2 at h;split at h;rotate_left
    · exact h.elim
    rename_i i;split at h
    · rename_i hc;obtain⟨rfl,c2,c3⟩:=hc
      have hp:parts=#[]:=by
        have:parts.toList=[]:=List.eq_nil_of_length_eq_zero c2
        exact Array.toList_eq_nil_iff.1 this
      subst hp;refine fin h (aw.le_refl _) rfl (Env.aq _ _) rfl λU d_ β a w hB bx => ?_;refine⟨w.heap.size,1,0,0,w.alloc (.cells #[] el), ?_,.inl ⟨by simp [av],c3,.inl ⟨by omega,rfl⟩⟩,.inr ⟨.cells #[] el,rfl⟩,λh=>by omega⟩;simp [execOp,ho,Instr.buildSlice,run_underlying hu,Go.sizeOf,typeInfo,hi,Instr.fill,newRow,dC]
      have:Array.range 0=#[]:=rfl
      simp [this]
    · clear hi;generalize hz:aP G.P el=u2 at h;generalize wj:de G.P el=u3 at h;split at h;rotate_left
      · exact h.elim
      rename_i g s z;split at h;rotate_left
      · exact h.elim
      rename_i hc;generalize hf:dc (λi=>some (i*s,s)) (times z.cells len) (parts.toList.map λp=>(p.1,st.ev p.2))=u4 at h;split at h;rotate_left
      · exact h.elim
      rename_i cs;split at h;rotate_left
      · exact h.elim
      rename_i eS;refine fin h (aw.le_refl _) rfl (Env.aq _ _) (by simp [di,eS.2]) λU d_ β a w hB bx => ?_;obtain⟨c1,c2,c3,c4⟩:=hc;have hlen:(av U β [.cG cs]).length=len*s:=by simp only [av,Sg.den,List.append_nil,List.length_map];exact eS.1
      have S7:len<=len*s:=Nat.le_mul_of_pos_right _ c2;refine⟨w.heap.size,len+1,len,0,w.alloc (.cells (cs.map (At.den U β)).toArray el), ?_,.inl ⟨hlen,c2,.inr ⟨by omega,rfl,fA.mk (.inr hB.size),by omega,by simp [maxLen];omega,(cs.map (At.den U β)).toArray,heap_alloc_new w _, ?_, ?_⟩⟩,.inr ⟨_,rfl⟩,λ_=>Nat.le_refl _⟩
      · rw [Pp ho hu hz wj ⟨c1,c2,c3,c4⟩ hf bx];simp [dC]
      · simp [eS.1]
      · have:(cs.map (At.den U β)).length=len*s:=by simpa using eS.1
        simp only [av,Sg.den,List.append_nil];exact List.take_of_length_le (Nat.le_of_eq this)
  case assign x =>
    simp only at h;generalize hx:st.ev x=sx at h;generalize Xl:nr G o.dst=u1 at h;split at h;rotate_left
    · exact h.elim
    rename_i el;generalize hi:G.P.info? el=u2 at h;split at h;rotate_left
    · exact h.elim
    rename_i i;split at h;rotate_left
    · exact h.elim
    rename_i hc;refine fin h (aw.le_refl _) rfl (Env.aq _ _) rfl λU d_ β a w hB bx => ?_;have e1:=bx x (by rw [ho];simp [Op.operands]) (by rw [hx];simp);rw [hx]at e1;refine⟨0,0,0,0,w, ?_,.inl ⟨by simp [av],hc,.inl ⟨by omega,rfl⟩⟩,.inl rfl,λh=>by omega⟩;simp only [SV.den,CV.den,At.den]at e1;simp [execOp,ho,e1,dC]
  case slice t x lo hi mx =>
    cases hi with
    |none=>exact h.elim
    |some hi =>
    cases mx with
    |none=>exact h.elim
    |some mx =>
    simp only at h;generalize hu:G.P.underlying t=u1 at h;generalize hh:st.ev hi=sh at h;generalize hm:st.ev mx=sm at h;generalize tD:dE (.lit 0) (lo.map st.ev)=u4 at h;split at h;rotate_left
    · exact h.elim
    rename_i el kh km;generalize wy:G.P.info? el=u5 at h;generalize hx:st.ev x=sx at h
    have key:∀i,G.P.info? el=some i->0<i.size->sx ≠ .any->(∀U β,sx.den U β=.slice none 0 0∨∃b o n c,sx.den U β=.slice (some ⟨b,o,none⟩) n c)->St.jS (PA G.P W Q QM QP) st o.dst [] [] i.size el st.c K 0 ρ->re G.P W st o K ρ:=by
      intro i wy lJ fJ hv h;refine fin h (aw.le_refl _) rfl (Env.aq _ _) rfl λU d_ β a w hB bx => ?_;have e1:=bx hi (by rw [ho];simp [Op.operands]) (by rw [hh];simp);have e2:=bx mx (by rw [ho];simp [Op.operands]) (by rw [hm];simp);have e3:=bx x (by rw [ho];simp [Op.operands]) (by rw [hx];exact fJ);rw [hh]at e1;rw [hm]at e2;rw [hx]at e3;simp only [SV.den,CV.den,At.den,oT]at e1 e2
      have e4:lo.map a.eval=none∨∃k,lo.map a.eval=some (.int k 0):=by
        rcases xJ tD with ⟨h1,_⟩|⟨k,h1⟩
        · cases lo with
          |none=>exact .inl rfl
          |some l=>simp at h1
        · cases lo with
          |none=>simp at h1
          |some l =>
            simp only [Option.map_some,Option.some.injEq]at h1
            have:=bx l (by rw [ho];simp [Op.operands]) (by rw [h1];simp)
            rw [h1]at this;exact .inr ⟨k,by simp only [Option.map_some,this];rfl⟩
      have size:(Go.sizeOf el).run G.P w=.ok i.size w:=by simp [Go.sizeOf,typeInfo,wy]
      have run:∀(ad:Option Addr) (n c:Nat),a.eval x=.slice ad n c->(execOp a.eval o).run G.P w=.ok (.value (.slice ad 0 0)) w:=by
        intro ad n c he;simp only [execOp,ho,he,Option.map_some,e1,e2];refine Jq ?_;rcases e4 with e4|⟨k,e4⟩
        · simp [Instr.sliceAt,Instr.slice,Instr.sliceBounds,Instr.sliceBound,asIntOf,run_underlying hu,size,e4]
        · simp [Instr.sliceAt,Instr.slice,Instr.sliceBounds,Instr.sliceBound,asIntOf,run_underlying hu,size,e4]
      rcases hv U β with h1|⟨b,of,n,c,h1⟩
      · exact⟨0,0,0,0,w,by rw [run none 0 0 (by rw [e3,h1])];rfl,.inl ⟨by simp [av],lJ,.inl ⟨by omega,rfl⟩⟩,.inl rfl,λh=>by omega⟩
      · exact⟨b,1,0,of,w,by rw [run _ n c (by rw [e3,h1])];rfl,.inl ⟨by simp [av],lJ,.inl ⟨by omega,rfl⟩⟩,.inl rfl,λh=>by omega⟩
    split at h
    · rename_i i p ix s l c;split at h
      · rename_i hc;exact key i wy hc (by simp) (λU β=>.inr ⟨_,_,_,_,rfl⟩) h
      · exact h.elim
    · rename_i i k;split at h
      · rename_i hc;refine key i wy hc (by simp) (λU β => ?_) h;simp only [SV.den,CV.den,At.den,dC];split
        · exact .inl rfl
        · exact .inr ⟨_,_,_,_,rfl⟩
      · exact h.elim
    · rename_i i;split at h
      · rename_i hc;exact key i wy hc (by simp) (λU β=>.inl rfl) h
      · exact h.elim
    · exact h.elim
  case store t x y =>
    simp only at h;generalize hz:aP G.P t=u1 at h;generalize hx:st.ev x=sx at h;generalize hy:st.ev y=sy at h;split at h;rotate_left
    · exact h.elim
    rename_i g n k ix sz off v;generalize hg:aM st.o k=u2 at h;split at h;rotate_left
    · exact h.elim
    rename_i ce s el;split at h;rotate_left
    · exact h.elim
    rename_i hc;obtain⟨rfl,c1,c2,c3,c4,c5,c6⟩:=hc;obtain⟨m,cb,la,h,b1,b2,b3,b4,b5⟩:=zW h;obtain⟨q1,h⟩:=zb h;obtain⟨q2,h⟩:=zb h;have lO:k∈aY st o:=by simp [aY,ho,hx,aV,CV.cells,aF]
    have run:∀ (U:Env) (β:Nat->Nat) (a:Act) (w:World) (gu:CE),Env.aE cb la U->eG st o U β a->Holds W U β k (.row ce s el) w ->
        av U β gu=(av U β ce).take ((ix.den U).toNat*s+off)++v.cells.map (At.den U β)++(av U β ce).drop ((ix.den U).toNat*s+off+n) ->
        ∃w',(execOp a.eval o).run G.P w=.ok .skip w'/\Holds W U β k (.row gu s el) w'/\(w'.os=w.os/\w'.tape=w.tape/\w'.output=w.output/\w.heap.size<=w'.heap.size)/\(∀b,b<w.heap.size->bK β k (.row ce s el)≠some b->w'.heap[b]? = w.heap[b]?):=by
      intro U β a w gu hl bx br oe;have e1:=bx x (by rw [ho];simp [Op.operands]) (by rw [hx];simp);have e2:=bx y (by rw [ho];simp [Op.operands]) (by rw [hy];simp);rw [hx]at e1;rw [hy]at e2;have ja:=Env.aj b1 b3 hl;have p1:0<=ix.den U:=by rw [IE.ae hl (IE.aT b1 c5)];exact q1
      have p2:ix.den U<m.den U:=by rw [IE.ae hl (IE.aT b1 c5),IE.ae hl b4];exact q2
      have br:=bY.fh br c3;rw [b5 U β hl,Iw br]at p2;obtain⟨a1,a2,a3⟩:=br
      obtain⟨r1,r2,r3,r4,r5,cur,r6,r7,r8⟩:2<=β (k+1)/\β (k+3)=0/\fA W (β k)/\β (k+2)<=β (k+1)-1/\β (k+1)-1<=maxLen/\∃cur,w.heap[β k]? = some (.cells cur el (0,0))/\cur.size=(β (k+1)-1)*s/\cur.toList.take (β (k+2)*s)=av U β ce:=by
        rcases a3 with ⟨_,h0⟩|h0
        · omega
        · exact h0
      have wz:(ix.den U).toNat*s+off+n<=β (k+2)*s:=by
        have h1:(ix.den U).toNat+1<=β (k+2):=by omega
        have h2:=Nat.mul_le_mul_right s h1;rw [Nat.succ_mul]at h2;omega
      have uy:β (k+2)*s<=cur.size:=by rw [r7];exact Nat.mul_le_mul_right _ r4
      have hs:=Pf (P:=G.P) hz w (β k) ((ix.den U).toNat*s+off) (v.den U β) cur el r6 (by rw [CV.bB];simpa using c1) (by omega) (by
        rw [CV.bB];intro z D3;simp only [List.mem_map]at D3;obtain⟨q,_,rfl⟩:=D3;exact At.iz U β q)
      rw [CV.bB]at hs;have Bx:(v.cells.map (At.den U β)).length=n:=by simpa using c1
      refine⟨w.setRow (β k) (cur.toList.take ((ix.den U).toNat*s+off)++v.cells.map (At.den U β)++cur.toList.drop ((ix.den U).toNat*s+off+n)).toArray, ?_,.inl ⟨?_,a2,.inr ⟨r1,r2,r3,r4,r5,_,setRow_heap w (β k) _ _ _ _ r6, ?_, ?_⟩⟩,⟨rfl,rfl,rfl,by rw [setRow_size];exact Nat.le_refl _⟩,λb hb sD=>IU _ _ _ _ (λhe=>sD (by simp only [bK,r1,if_true,he]))⟩
      · have Bq:a.eval x=ptr (β k) ((ix.den U).toNat*s+off):=e1;have Br:a.eval y=v.den U β:=e2;simp only [execOp,ho,Bq,Br,Sem.run_bind,hs,Result.andThen_ok,Sem.run_pure]
      · rw [oe,<-a1];simp only [List.length_append,List.length_take,List.length_drop,Bx];omega
      · simp only [List.size_toArray,List.length_append,List.length_take,List.length_drop,Array.length_toList,Bx];omega
      · rw [oe,<-r8];exact Jp cur.toList _ _ n _ wz (by simpa using uy) Bx
    generalize ga:iC ce ix s off=u5 at h;rcases u5 with _|⟨cs,p⟩;rotate_left
    · simp only at h;obtain⟨TS,TT⟩:=OU ga;obtain⟨h1,h2⟩:=zi h;have jj:=(lg {st with o:=eC st.o k [.cG (cs.take p++v.cells++cs.drop (p+n))]} o.dst .any cb).1;refine⟨_,la,.any,[k],h1,by rw [jj];exact b1,b3,λU d_ => ?_⟩;rw [jj]at d_
      have Ed:∀x∈cs,x.wf st.c=true/\(∀y∈aN [x],y∈ce.flatMap di):=by
        have:∀(ce:CE) (cs:List At),eR ce=some cs->cH st.c ce=true->∀x∈cs,x.wf st.c=true/\(∀y∈aN [x],y∈ce.flatMap di):=by
          intro ce
          induction ce with
          |nil=>intro cs h _ x hx;simp only [eR,Option.some.injEq]at h;subst h;cases hx
          |cons s r ih =>
            intro cs h hw x hx;cases s with
            |var j=>simp [eR]at h
            |cG l =>
              simp only [eR,Option.map_eq_some_iff]at h;obtain⟨l',h1,rfl⟩:=h;simp only [cH,List.all_cons,Bool.and_eq_true]at hw;rcases List.mem_append.1 hx with hx|hx
              · exact⟨List.all_eq_true.1 hw.1 x hx,fun y hy=>by
                  rw [List.flatMap_cons];refine List.mem_append.2 (.inl ?_);show y∈aN l;obtain⟨a,b,rfl⟩:=List.append_of_mem hx;rw [zg,show x::b=[x]++b from rfl,zg];exact List.mem_append.2 (.inr (List.mem_append.2 (.inl hy)))⟩
              · obtain⟨i1,i2⟩:=ih l' h1 hw.2 x hx;exact⟨i1,λy hy=>by rw [List.flatMap_cons];exact List.mem_append.2 (.inr (i2 y hy))⟩
        exact this ce _ (TK ga) c6
      have Ee:∀y∈aN cs,y∈ce.flatMap di:=by
        intro y hy
        have:∀(l:List At),y∈aN l->∃x∈l,y∈aN [x]:=by
          intro l
          induction l with
          |nil=>intro h;cases h
          |cons a l ih =>
            intro h;rw [show a::l=[a]++l from rfl,zg]at h;rcases List.mem_append.1 h with h|h
            · exact⟨a,by simp,h⟩
            · obtain⟨x,h1,h2⟩:=ih h;exact⟨x,by simp [h1],h2⟩
        obtain⟨x,GH,yu⟩:=this cs hy;exact (Ed x GH).2 y yu
      refine CW wf b1 b2 hg lO ?_ (λy gv => ?_) (λβ a w bx br=>run U β a w _ d_ bx br ?_) h2
      · have wA:cs.all (At.wf cb)=true:=List.all_eq_true.2 λx z7=>At.aT b1 (Ed x z7).1;simp only [cH,List.all_cons,List.all_nil,Bool.and_true,Sg.wf,List.all_append,(zr wA p).1,(zr wA (p+n)).2,CV.eu (CV.aT b1 c4),Bool.and_self]
      · simp only [List.flatMap_cons,di,List.flatMap_nil,List.append_nil,zg]at gv;rcases List.mem_append.1 gv with gv|gv
        · rcases List.mem_append.1 gv with gv|gv
          · exact .inr (Ee y (Bo _ _ gv))
          · simp only [dM,ho,hy];exact .inl gv
        · exact .inr (Ee y (Bp _ _ gv))
      · rw [TS U,TT U β];simp only [av,Sg.den,List.append_nil,List.map_append,List.map_take,List.map_drop]
    · simp only at h;split at h;rotate_left
      · exact h.elim
      rename_i lN;obtain⟨GB,GO⟩:=lN
      have uC:∀v'∈(LP.set ce ix s off v.cells).den la,v'.oneCell'=true:=by
        intro v' tI;simp only [LP.den,List.mem_append]at tI;rcases tI with (tI|tI)|tI
        · exact vu la b0 ce v' (List.mem_of_mem_take tI)
        · obtain⟨q,_,rfl⟩:=List.mem_map.1 tI;exact At.iz la b0 q
        · exact vu la b0 ce v' (List.mem_of_mem_drop tI)
      have hL:=h (((LP.set ce ix s off v.cells).den la).attach.map λx=>⟨x.1,uC x.1 x.2⟩) (by simp);have hle:=aw.qI cb 1;obtain⟨h1,h2⟩:=zi hL;have jj:=(lg {st with o:=eC st.o k [.var cb.nl]} o.dst .any {cb with nl:=cb.nl+1}).1;refine⟨_,_,.any,[k],h1,by rw [jj];exact aw.le_trans b1 hle,Env.aj b1 b3 (tB cb la _),λU d_ => ?_⟩;rw [jj]at d_;have tH:=Env.aj hle (tB cb la _) d_;refine CW wf (aw.le_trans b1 hle) b2 hg lO (by simp [cH,Sg.wf]) (λy gv=>by simp [di]at gv) (λβ a w bx br=>run U β a w _ tH bx br ?_) h2;have e1:U.l cb.nl=_:=d_.l cb.nl (Nat.lt_succ_self _);have f1:av U β ce=av la b0 ce:=by rw [Be U β b0 GB,uX tH (β:=b0) (λ_ _=>rfl) (A0 b1 c6)]
      have f2:v.cells.map (At.den U β)=v.cells.map (At.den la b0):=by
        have Jt:v.cells.all At.flat=true:=by
          cases v with
          |one a=>simpa [CV.cells,CV.flat]using GO
          |agg l=>exact GO
        rw [CJ U β b0 Jt,xZ tH (β:=b0) (λ_ _=>rfl) (AY b1 (CV.eu c4))]
      have f3:ix.den U=ix.den la:=IE.ae tH (IE.aT b1 c5);simp only [av,Sg.den,List.append_nil,e1,Env.lh,if_true,f1,f2,f3]
      have f4:∀(l:List Value) (hl:∀v'∈l,v'.oneCell'=true),(l.attach.map λx=>(⟨x.1,hl x.1 x.2⟩:OV)).map (·.1)=l:=λl hl=>by
        rw [List.map_map];exact List.attach_map_subtype_val l
      rw [f4];simp only [LP.den,c1]
end Vc
