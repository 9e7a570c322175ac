import Derived.Test.YtnjpiipdgapakaaGreatDoorVcV
import Derived.Laws.IdiomStrings
set_option linter.unusedVariables false
set_option linter.unusedSimpArgs false
namespace Vc
open Go Go.RowKit
variable {P:Program} {W:dN} {Q:Value->Prop} {QM QP:World->Value->Prop}
theorem II{m:Mem}{o:aY}{nk:Nat}{ce:CE}{sz:Nat}{el:TypeId}{ic:List Nat}(hm:getM m nk=none)(k:Nat) :
    aC m ((nk,ce,sz,el)::bI o ic) k=if nk=k then some (.row ce sz el)else match getM m k with
      |some (cs,t)=>some (.fix cs t)
      |none=>if k∈ic then none else aC m o k:=by
  unfold aC;rw [zt,vz];by_cases h:nk=k
  · subst h;rw [if_pos rfl,if_pos rfl,hm]
  · rw [if_neg h,if_neg h];cases hg:getM m k with
    |some x=>rfl
    |none =>
      by_cases he:k∈ic
      · rw [if_pos he,if_pos he]
      · rw [if_neg he,if_neg he]
theorem CY{o:Oper}{a:Act}{w:World}{md:Nat}{A B C D:Nat->Nat->Nat->Nat->World->Prop}(h:∃b code n base w',(execOp a.eval o).run P w=.ok (.value (mF md b code n base)) w'/\A b code n base w'/\B b code n base w'/\C b code n base w'/\D b code n base w')
  (next:Act->World->Prop) (Q':Exit->Act->World->Prop) (hn:∀b code n base w',A b code n base w'->B b code n base w'->C b code n base w'->D b code n base w'->next (a.put o.dst (mF md b code n base)) w'):o.wp P a w next Q':=by
 obtain⟨b,code,n,base,w',r1,r2,r3,r4,r5⟩:=h;unfold Oper.wp;rw [r1,Oper.upon_value];exact hn b code n base w' r2 r3 r4 r5
theorem FD{st:St}{o:Oper}{J:Env}{ic:List Nat}{ce:CE}{sz:Nat}{el:TypeId}{c:an}(md:Nat)(wf:st.WF)(hle:st.c.le c)(sw:c.nk=st.c.nk)(pf:bP c ce=true)(qx:∀ k∈ic,k∈aL st o/\(aD st.o k).isSome=true)
    (jk:∀x∈dP (.row ce sz el),x∈cN st o∨∃j e,j∈aP st o++aL st o/\aC st.m st.o j=some e/\x∈dP e)
    (gQ:∀(β:Nat->Nat) (a:Act) (w:World),cS W w->dt st o J β a->fj W st.m st.o (aP st o++aL st o) J β w ->
      ∀(next:Act->World->Prop) (Q':Exit->Act->World->Prop),(∀b code n base w',bF (dT W) b code n base (ak J β ce) sz el w'->(w'.os=w.os/\w'.tape=w.tape/\w'.output=w.output/\w.heap.size<=w'.heap.size) ->
        (∀x,x<w.heap.size->(∀k e,k∈ic->aC st.m st.o k=some e->bu β k e≠some x)->w'.heap[x]? = w.heap[x]?)->(2<=code->w.heap.size<=b∨∃j e,j∈ic/\aC st.m st.o j=some e/\bu β j e=some b) ->
        next (a.put o.dst (mF md b code n base)) w')->o.wp P a w next Q')
    (hp:iw {st with o:=(c.nk,ce,sz,el)::bI st.o ic} o.dst (.cv (.one (rowAt md c.nk))) {c with nk:=c.nk+4}) :
    gS P W st o J ({st with o:=(c.nk,ce,sz,el)::bI st.o ic}.bM o.dst (.cv (.one (rowAt md c.nk))) {c with nk:=c.nk+4}) (.cv (.one (rowAt md c.nk))) ic:=by
  obtain⟨q1,q2,q3,q4,q5,q6⟩:=zu {st with o:=(c.nk,ce,sz,el)::bI st.o ic} o.dst (.cv (.one (rowAt md c.nk))) {c with nk:=c.nk+4};have lZ:st.c.le {c with nk:=c.nk+4}:=an.le_trans hle (an.jz c 4)
  have j_:getM st.m c.nk=none:=by
    have:=wf.beyond (k:=c.nk) (by omega)
    unfold aC at this;cases hg:getM st.m c.nk with
    |none=>rfl
    |some x=>rw [hg]at this;cases this
  have hm:∀ k,aC ({st with o:=(c.nk,ce,sz,el)::bI st.o ic}.bM o.dst (.cv (.one (rowAt md c.nk))) {c with nk:=c.nk + 4}).m ({st with o:=(c.nk,ce,sz,el)::bI st.o ic}.bM o.dst (.cv (.one (rowAt md c.nk))) {c with nk:=c.nk + 4}).o k =
      if c.nk=k then some (.row ce sz el)else match getM st.m k with
      |some (cs,t)=>some (.fix cs t)
      |none=>if k∈ic then none else aC st.m st.o k:=λk=>by rw [q2,q4];exact II j_ k
  have xK:∀k∈ic,getM st.m k=none:=λk hk=>by
    obtain⟨x,hx⟩:=Option.isSome_iff_exists.1 (qx k hk).2;exact wf.ap k x hx
  have fC:∀k,k<st.c.nk->k ∉ ic->aC ({st with o:=(c.nk,ce,sz,el)::bI st.o ic}.bM o.dst (.cv (.one (rowAt md c.nk))) {c with nk:=c.nk+4}).m ({st with o:=(c.nk,ce,sz,el)::bI st.o ic}.bM o.dst (.cv (.one (rowAt md c.nk))) {c with nk:=c.nk+4}).o k=aC st.m st.o k:=λk hk he=>by
    rw [hm,if_neg (by omega)];cases hg:getM st.m k with
    |some x=>exact (nA hg).symm
    |none=>simp only [if_neg he]
  have one:∀{k e},(k∈ic∨st.c.nk<=k)->aC ({st with o:=(c.nk,ce,sz,el)::bI st.o ic}.bM o.dst (.cv (.one (rowAt md c.nk))) {c with nk:=c.nk+4}).m ({st with o:=(c.nk,ce,sz,el)::bI st.o ic}.bM o.dst (.cv (.one (rowAt md c.nk))) {c with nk:=c.nk+4}).o k=some e->k=c.nk/\e=.row ce sz el:=by
    intro k e hk hg;rw [hm]at hg;by_cases ct:c.nk=k
    · rw [if_pos ct]at hg;cases hg;exact⟨ct.symm,rfl⟩
    · rw [if_neg ct]at hg;rcases hk with hk|hk
      · rw [xK k hk]at hg;simp only [if_pos hk]at hg;cases hg
      · have:=wf.beyond hk
        unfold aC at this;cases rl:getM st.m k with
        |some x=>rw [rl]at this;cases this
        |none =>
          rw [rl]at hg;simp only at hg;split at hg
          · cases hg
          · rw [wf.beyond hk]at hg;cases hg
  refine⟨λhk=>by rw [(zk _ _ _ _).1];exact hk,(zk _ _ _ _).2,q3,q5,q6,by rw [q1];exact lZ, ?_,λt'=>zl _ o.dst _ _ t',λd hd=>(hp d hd).1,λk hk=>⟨(qx k hk).1, ?_⟩,fC,λk e' hk hg x hx => ?_,λβ a w hB ho hr _ next Q' hn => ?_⟩
  · have g:=wf.grow lZ;refine⟨λi => ?_,by rw [q2,q1];exact g.m,λk eZ tg t' hg => ?_,λk x hk => ?_,by rw [q5,q1];exact g.r,by rw [q6,q1];exact g.d,by rw [(zk _ _ _ _).1,q1];exact g.k,by rw [(zk _ _ _ _).2,q1];exact g.df⟩
    · rw [zl,q1];by_cases hd:o.dst=some i
      · rw [if_pos hd];exact (hp i hd).2
      · rw [if_neg hd];exact g.t i
    · rw [q4,zt]at hg;rw [q1];by_cases hk:c.nk=k
      · rw [if_pos hk]at hg;cases hg;exact⟨by simp only;omega,yG (an.jz c 4) pf⟩
      · rw [if_neg hk,vz]at hg;split at hg
        · cases hg
        · exact g.o k eZ tg t' hg
    · rw [q4,zt]at hk;rw [q2];by_cases ct:c.nk=k
      · rw [<-ct];exact j_
      · rw [if_neg ct,vz]at hk;split at hk
        · cases hk
        · exact wf.ap k x hk
  · obtain⟨x,hx⟩:=Option.isSome_iff_exists.1 (qx k hk).2
    have:=(wf.o k x.1 x.2.1 x.2.2 hx).1
    omega
  · obtain⟨rfl,rfl⟩:=one hk hg;exact jk x hx
  · refine gQ β a w hB ho hr next Q' λb code n base w' r2 r0 r7 r8 => ?_
    obtain⟨r3,r4,r5,r6⟩:=r0;let ag:Nat->Nat:=λk=>if k=c.nk then b else if k=c.nk+1 then code else if k=c.nk+2 then n else if k=c.nk+3 then base else β k;have IJ:ag c.nk=b:=if_pos rfl;have IK:ag (c.nk+1)=code:=by show (if c.nk+1=c.nk then b else if c.nk+1=c.nk+1 then code else _)=code;rw [if_neg (by omega),if_pos rfl]
    have FE:ag (c.nk+2)=n:=by
      show (if c.nk+2=c.nk then b else if c.nk+2=c.nk+1 then code else if c.nk+2=c.nk+2 then n else _)=n;rw [if_neg (by omega),if_neg (by omega),if_pos rfl]
    have OR:ag (c.nk+3)=base:=by
      show (if c.nk+3=c.nk then b else if c.nk+3=c.nk+1 then code else if c.nk+3=c.nk+2 then n else if c.nk+3=c.nk+3 then base else _)=base;rw [if_neg (by omega),if_neg (by omega),if_neg (by omega),if_pos rfl]
    have qy:∀k,¬(c.nk<=k/\k<c.nk+4)->ag k=β k:=λk hk=>by
      show (if k=c.nk then b else if k=c.nk+1 then code else if k=c.nk+2 then n else if k=c.nk+3 then base else β k)=β k;rw [if_neg (by omega),if_neg (by omega),if_neg (by omega),if_neg (by omega)]
    refine hn ag _ _ (λ_ => ?_) ⟨r3,r4,r5,r6,λx hx IL=>r7 x hx IL,λk hk=>qy k (by rw [q1]at hk;simp only at hk;omega),λk e' hk hg => ?_,λk k' e e' _ hk gJ hg eF _ _ => ?_⟩
    · show _=(rowAt md c.nk).den J ag;rw [RD,IJ,IK,FE,OR]
    · obtain⟨rfl,rfl⟩:=one hk hg;refine⟨?_,λx hx => ?_⟩
      · simp only [Holds];rw [IJ,IK,FE,OR,zy (Env.ah c J) (λk hk=>qy k (by omega)) pf];exact r2
      · simp only [bu,IJ,IK]at hx;split at hx
        · rename_i h2;simp only [Option.some.injEq]at hx;subst hx;rcases r8 h2 with h|⟨j,e,h3,h4,h5⟩
          · exact .inl h
          · refine .inr ⟨j,e,h3,h4,h5,.inr ?_⟩;rw [hm,if_neg (by have:=Bm (wf.dR h4);omega),xK j h3];simp only [if_pos h3]
        · cases hx
    · rw [(one hk hg).1,(one gJ eF).1]
theorem CZ:∀(x y:CE) {i:Nat},i∈(cA x y).flatMap cc->i∈x.flatMap cc∨i∈y.flatMap cc
  | [],y,i,h=>.inr h
  | [.cE l],[],i,h=>.inl h
  | [.cE l],.cE l'::y,i,h=>by
    simp only [cA,List.flatMap_cons,cc,zd,List.mem_append,List.flatMap_nil,List.append_nil]at h ⊢;rcases h with (h|h)|h
    · exact .inl h
    · exact .inr (.inl h)
    · exact .inr (.inr h)
  | [.cE l],.var j::y,i,h=>by
    simp only [cA,List.flatMap_cons,List.mem_append,List.flatMap_nil,List.append_nil]at h ⊢;exact h
  | [.var j],y,i,h=>by
    simp only [cA,List.flatMap_cons,List.mem_append,List.flatMap_nil,List.append_nil]at h ⊢;exact h
  | .cE l::t::r,y,i,h=>by
    simp only [cA]at h;rw [List.flatMap_cons]at h ⊢;rcases List.mem_append.1 h with h|h
    · exact .inl (List.mem_append.2 (.inl h))
    · rcases CZ (t::r) y h with h|h
      · exact .inl (List.mem_append.2 (.inr h))
      · exact .inr h
  | .var j::t::r,y,i,h=>by
    simp only [cA]at h;rw [List.flatMap_cons]at h ⊢;rcases List.mem_append.1 h with h|h
    · exact .inl (List.mem_append.2 (.inl h))
    · rcases CZ (t::r) y h with h|h
      · exact .inl (List.mem_append.2 (.inr h))
      · exact .inr h
theorem OS{t:TypeId}{z:CV}(h:cq P t=some z):∃i v,P.info? t=some i/\i.zero=some v/\∀J β,z.den J β=v:=by
  unfold cq at h;cases hi:P.info? t with
  |none=>simp [hi]at h
  |some i =>
    simp only [hi]at h;cases hz:i.zero with
    |none=>simp [hz]at h
    |some v =>
      simp only [hz]at h;have h2:=λJ β=>(SV.cm v ⟨0,0,0,0,0,0,0⟩ J β).2;generalize hs:SV.ofValue v=sv at h h2;cases sv with
      |cv x =>
        simp only [Option.some.injEq]at h;subst h;exact⟨i,v,rfl,hz,λJ β=>h2 J β (by simp)⟩
      |_=>simp at h
def Src(W:dN)(st:St)(sz:Nat)(y:SV)(add:CE)(c:an)(J:Env):Prop :=
  ∀(I:Env) (β:Nat->Nat) (w:World),Env.au c J I->cS W w->fj W st.m st.o (av (aI y)) I β w ->
    ∃m,((y.den I β=.slice none 0 0/\m=0)∨∃a k,y.den I β=.slice (some a) m k/\∀j u,(ak I β add)[j]? = some u->w.cell? (a.add j)=some u)/\(ak I β add).length=m*sz
theorem SA{st:St}{sz:Nat}{ic:List Nat}{y:SV}{K:CE->an->Env->Prop}{J:Env}(wf:st.WF)(iS:0 < sz)(hy:y.wf st.c=true)(h:tR (PA P W Q QM QP) st sz ic y K J) :
    ∃add c' aa,K add c' aa/\st.c.le c'/\c'.nk=st.c.nk/\Env.au st.c J aa/\bP c' add=true/\y ≠ .any/\Src W st sz y add c' aa /\
      ∀x∈add.flatMap cc,∃j e,j∈av (aI y)/\aC st.m st.o j=some e/\x∈dP e:=by
  unfold tR at h;split at h
  · exact⟨[],_,J,h,an.le_refl _,rfl,Env.ah _ _,rfl,by simp,λI β w _ _ _=>⟨0,.inl ⟨rfl,rfl⟩,by simp [ak]⟩,λx hx=>by cases hx⟩
  · rename_i k off len cap;generalize hg:getM st.m k=u at h;split at h
    · rename_i cs t;split at h
      · rename_i hb;refine⟨_,_,J,h,an.le_refl _,rfl,Env.ah _ _, ?_,by simp,λI β w _ _ hr=>⟨len,.inr ⟨⟨β k,off,none⟩,cap,rfl,λj u hj => ?_⟩, ?_⟩,λx hx => ?_⟩
        · simp only [bP,List.all_cons,List.all_nil,Bool.and_true,Sg.wf];exact (zp (zp (wf.m k cs t hg).2 off).2 _).1
        · obtain⟨_,hh⟩:=hr k (by simp [aI,CV.cells,av]) _ (nA hg);simp only [ak,Sg.den,List.append_nil,List.getElem?_map,Option.map_eq_some_iff]at hj;obtain⟨a,ha,rfl⟩:=hj
          have wg:j<len*sz:=by
            rcases Nat.lt_or_ge j (len*sz)with h'|h'
            · exact h'
            · rw [List.getElem?_eq_none (by simp;omega)]at ha;cases ha
          rw [List.getElem?_take_of_lt wg,List.getElem?_drop]at ha;rw [sf,v_ hh];simp [ha]
        · simp only [ak,Sg.den,List.append_nil,List.length_map,List.length_take,List.length_drop];omega
        · simp only [List.flatMap_cons,cc,List.flatMap_nil,List.append_nil]at hx;exact⟨k,_,by simp [aI,CV.cells,av],nA hg,zC _ _ (zB _ _ hx)⟩
      · exact h.elim
    · exact h.elim
  · rename_i k;generalize hg:aD st.o k=u at h;split at h
    · rename_i ce s t;split at h
      · rename_i hc;obtain⟨rfl,dO⟩:=hc;refine⟨ce,_,J,h,an.le_refl _,rfl,Env.ah _ _,(wf.o k ce s t hg).2,by simp,λI β w _ _ hr => ?_,λx hx=>⟨k,_,by simp [aI,CV.cells,av],jP (wf.ap k _ hg) hg,hx⟩⟩;have aZ:=(hr k (by simp [aI,CV.cells,av]) _ (jP (wf.ap k _ hg) hg)).eB iS;refine⟨β (k+2), ?_,aZ.1⟩;show (cj (β k) (β (k+1)) (β (k+2)) (β (k+3))=_/\_)∨∃a k',cj (β k) (β (k+1)) (β (k+2)) (β (k+3))=_/\_;unfold cj;by_cases h0:β (k+1)=0
        · rw [if_pos h0];refine .inl ⟨rfl, ?_⟩;rcases aZ.2.2 with ⟨_,h1⟩|⟨h1,_⟩
          · exact h1
          · omega
        · rw [if_neg h0];refine .inr ⟨_,_,rfl,λj u hj => ?_⟩;have h1:=HP aZ hj;rcases aZ.2.2 with ⟨_,h2⟩|⟨_,h2,_⟩
          · have:(ak I β ce).length=0:=by rw [aZ.1,h2];omega
            have:=(List.getElem?_eq_some_iff.1 hj).1
            omega
          · rw [sf,h2,Nat.zero_add];exact h1
      · exact h.elim
    · exact h.elim
  · rename_i x _ _ _
    have ext:∀ (s:Nat),(∀ I β ag,x.den I β=x.den I ag)->av [x]=[]->x.wf st.c=true->(PA P W Q QM QP).Fe st.c.nl x sz (K [.var st.c.nl] {st.c with nl:=st.c.nl + 1}) J ->
        ∃add c' aa,K add c' aa/\st.c.le c'/\c'.nk=st.c.nk/\Env.au st.c J aa/\bP c' add=true/\(SV.cv (.one x)) ≠ .any/\Src W st sz (.cv (.one x)) add c' aa /\
          ∀i∈add.flatMap cc,∃j e,j∈av (aI (.cv (.one x)))/\aC st.m st.o j=some e/\i∈dP e:=by
      intro s jS Oy FF h;obtain⟨L,h1,h2⟩:=h;have hle:=an.oQ st.c 1;refine⟨_,_,_,h2,hle,rfl,re st.c J L,by simp [bP,Sg.wf],by simp,λI β w hl hB hr => ?_,λi hi=>by simp [cc]at hi⟩
      have e1:I.l st.c.nl=L:=by
        rw [hl.l st.c.nl (Nat.lt_succ_self _)];exact if_pos rfl
      have e2:ak I β [.var st.c.nl]=L.map (·.1):=by simp only [ak,Sg.den,List.append_nil,e1]
      have e3:x.den I β=x.den J b0:=by
        rw [At.U (Env.ae hle (re st.c J L) hl) (β:=β) (λ_ _=>rfl) FF];exact jS J β b0
      rw [e2];rcases h1 with ⟨h3,h4⟩|⟨a0,h3,h4⟩|⟨b,o,len,cap,h3,h4,h5⟩
      · exact⟨0,.inl ⟨e3.trans h3,rfl⟩,by rw [h4];simp⟩
      · exact⟨0,.inr ⟨a0,0,e3.trans h3,λj u hj=>by rw [h4]at hj;simp at hj⟩,by rw [h4];simp⟩
      · refine⟨len,.inr ⟨_,_,e3.trans h3,λj u hj => ?_⟩,h4⟩
        have:=h5 j u hj
        rw [sf];exact hB.cell this
    split at h
    · rename_i p ix s len cap;split at h
      · rename_i hc;exact ext 0 (λ_ _ _=>rfl) rfl hc.2 h
      · exact h.elim
    · rename_i q p s len cap;split at h
      · rename_i hc;exact ext 0 (λ_ _ _=>rfl) rfl hc.2 h
      · exact h.elim
    · exact h.elim
  · exact h.elim
theorem SB{o:aY}{sz:Nat}{el:TypeId}{x:SV}{ce:CE}{ic:List Nat}(h:rowOf o sz el x=some (ce,ic)) :
  (x=.cv (.one .c_)/\ce=[]/\ic=[])∨∃k,x=.cv (.one (.own k))/\aD o k=some (ce,sz,el)/\ic=[k]:=by
 unfold rowOf at h;split at h
 ·simp only [Option.some.injEq,Prod.mk.injEq]at h;exact .inl ⟨rfl,h.1.symm,h.2.symm⟩
 ·rename_i k;split at h
  ·rename_i eZ s t hg;split at h
   ·rename_i hc;obtain⟨rfl,rfl⟩:=hc;simp only [Option.some.injEq,Prod.mk.injEq]at h;obtain⟨rfl,rfl⟩:=h;exact .inr ⟨k,rfl,hg,rfl⟩
   ·cases h
  ·cases h
 ·cases h
theorem OT{G:bY}{st:St}{o:Oper}{K:St->Env->Prop}{J:Env}(wf:st.WF)(h:xw (PA G.P W Q QM QP) G st o K J):oI G.P W st o K J:=by
 unfold xw at h;obtain⟨dst,op,type,pos,after,guard⟩:=o;cases op<;>first|exact h.elim|skip
 rename_i cl;obtain⟨callee,args,argTypes⟩:=cl;cases callee<;>first|exact h.elim|skip
 rename_i bi;cases bi<;>first|exact h.elim|skip
 simp only at h;generalize ha:args.toList=al at h;generalize ht:argTypes.toList=tl at h;split at h;rotate_left
 ·exact h.elim
 rename_i x y t t';have ea:args=#[x,y]:=by apply Array.ext';rw [ha]
 have et:argTypes=#[t,t']:=by apply Array.ext';rw [ht]
 subst ea et;generalize hu:G.P.underlying t=u at h;split at h;rotate_left
 ·exact h.elim
 rename_i el;generalize hi:G.P.info? el=u2 at h;generalize um:cq G.P el=u3 at h;split at h;rotate_left
 ·exact h.elim
 rename_i i z;split at h;rotate_left
 ·exact h.elim
 rename_i hc;obtain⟨rfl,c1,c2,c3⟩:=hc;generalize SC:rowOf st.o i.size el (st.ev x)=u4 at h;split at h;rotate_left
 ·exact h.elim
 rename_i ce ic
 obtain⟨add,ca,WW,h,a1,a2,a3,a4,a5,a6,a7⟩:=SA wf c1 (wf.ev y) h;obtain⟨nl,cb,jt,h,b1,b2,b3,b4,b5⟩:=xF h;obtain⟨SD,h⟩:=za h;have hle:=an.le_trans a1 b1;have cX:=Env.ae a1 a3 b3;unfold St.gM at h;split at h;rotate_left
 ·exact h.elim
 rename_i po;obtain⟨h1,h2⟩:=zf h;have gq:=(zu {st with o:=(cb.nk,cA ce add,i.size,el)::bI st.o ic} dst (.cv (.one (rowAt 0 cb.nk))) {cb with nk:=cb.nk+4}).1;refine⟨_,jt,.cv (.one (rowAt 0 cb.nk)),ic,h1,by rw [gq];exact an.le_trans hle (an.jz cb 4),cX,λI hl => ?_⟩;rw [gq]at hl;have pU:Env.au cb jt I:=⟨hl.i,hl.b,hl.v,hl.p,hl.s,hl.l⟩
 have C0:∀k,k∈av (aI (st.ev x))∨k∈av (aI (st.ev y))->k∈aP st ⟨dst,.call ⟨.builtin .append,#[x,y],#[t',t']⟩,type,pos,after,guard⟩:=λk hk=>by
  have app:∀(l1 l2:List At),av (l1++l2)=av l1++av l2:=by
   intro l1 l2
   induction l1 with
   |nil=>rfl
   |cons a l1 ih=>cases a<;>simp [av,ih]
  simp only [aP,List.map_cons,List.map_nil,List.flatMap_cons,List.flatMap_nil,List.append_nil,app];exact List.mem_append.2 hk
 have wz:=SB SC
 have qx:∀k∈ic,k∈aL st ⟨dst,.call ⟨.builtin .append,#[x,y],#[t',t']⟩,type,pos,after,guard⟩/\(aD st.o k).isSome=true:=λk hk=>by
  rcases wz with ⟨_,_,rfl⟩|⟨k0,hx,hg,rfl⟩
  ·cases hk
  ·simp only [List.mem_singleton]at hk;subst hk;exact⟨by simp [aL,hx,aI,CV.cells,av],by rw [hg];rfl⟩
 refine FD 0 wf hle (b2.trans a2) po qx (λv hv=>.inr ?_) (λβ a w hB aX dq=>CY ?_) h2
 ·simp only [dP]at hv;rcases CZ ce add hv with hv|hv
  ·rcases wz with ⟨_,rfl,_⟩|⟨k0,hx,hg,rfl⟩
   ·cases hv
   ·exact⟨k0,_,List.mem_append.2 (.inr (qx k0 (by simp)).1),jP (wf.ap k0 _ hg) hg,hv⟩
  ·obtain⟨j,e,j1,j2,j3⟩:=a7 v hv;exact⟨j,e,List.mem_append.2 (.inl (C0 j (.inr j1))),j2,j3⟩
 ·
  have hz:∃z0,i.zero=some z0/\z0.cells.size=i.size:=by
   obtain⟨i',v,q1,q2,q3⟩:=OS um;rw [hi]at q1;cases q1;refine⟨v,q2, ?_⟩;rw [<-q3 I β,CV.ba];simpa using c2
  obtain⟨z0,IM,SF⟩:=hz;have ey:=aX y (by simp [Op.operands,Call.operands]) a5
  have ex:a.eval x=(st.ev x).den I β:=aX x (by simp [Op.operands,Call.operands]) (by
   rcases wz with ⟨hx,_⟩|⟨k0,hx,_⟩<;>rw [hx]<;>simp)
  obtain⟨m,s1,s2⟩:=a6 I β w (Env.ae b1 b3 pU) hB (λk hk e hg=>dq k (List.mem_append.2 (.inl (C0 k (.inr hk)))) e hg);have hn:=b5 I β pU;have zG:nl.den I<=fg:=by rw [IE.U pU b4];exact SD
  rw [hn,B_,List.length_append,s2]at zG;have rh:dT W w.heap.size:=dT.mk (.inr hB.size)
  obtain⟨b,code,n,base,hv,aZ,jX⟩:∃b code n base,(st.ev x).den I β=cj b code n base/\fN (dT W) b code n base (ak I β ce) i.size el w /\
    (2<=code->∃j e,j∈ic/\aC st.m st.o j=some e/\bu β j e=some b):=by
   rcases wz with ⟨hx,rfl,rfl⟩|⟨k0,hx,hg,rfl⟩
   ·exact⟨0,0,0,0,by rw [hx];rfl,⟨by simp [ak],c1,.inl ⟨by omega,rfl⟩⟩,λh=>by omega⟩
   ·have hE:=jP (wf.ap k0 _ hg) hg
    have:=dq k0 (List.mem_append.2 (.inr (qx k0 (by simp)).1)) _ hE
    exact⟨β k0,β (k0+1),β (k0+2),β (k0+3),by rw [hx];rfl,bF.eB this c1,λh=>⟨k0,_,by simp,hE,by simp only [bu,h,if_true]⟩⟩
  have SG:n+m<=1073741824:=by
   rw [aZ.1,<-Nat.add_mul,Nat.mul_div_cancel _ c1]at zG;simp only [fg]at zG;omega
  obtain⟨b',jU,lY,w',p1,p2,p3,p4,p5⟩:=Sw (P:=G.P) (t:=t') (ty:=type) w hu hi IM rfl SF aZ ((st.ev y).den I β) m (ak I β add) s1 s2 (tF I β add) (by simp [maxLen];omega)
   (by
    have h1:(n+m)*i.bytes<=1073741824*131072:=Nat.mul_le_mul SG c3
    omega) rh
  refine⟨b',jU,n+m,lY,w', ?_,by rw [B_];exact .inl p2,p3,λk hk sw=>p4 k hk λh2 he => ?_,λh2 => ?_⟩
  ·simp [execOp,resolve,invoke,builtin,ex,ey,hv,p1,mF]
  ·obtain⟨j,e,j1,j2,j3⟩:=jX h2;exact sw j e j1 j2 (by rw [j3,he])
  ·rcases p5 h2 with h3|⟨h3,rfl⟩
   ·exact .inl h3
   ·obtain⟨j,e,j1,j2,j3⟩:=jX h3;exact .inr ⟨j,e,j1,j2,j3⟩
end Vc
set_option linter.unusedVariables false
namespace Vc
open Go Go.RowKit
variable {P:Program} {W:dN} {Q:Value->Prop} {QM QP:World->Value->Prop}
theorem SH{ce:CE}{ix:IE}{sz off:Nat}{cs:List At}{p:Nat}(h:gp ce ix sz off=some (cs,p)):dC ce=some cs:=by
 unfold gp at h;split at h
 ·rename_i j fH h1;simp only [Option.some.injEq,Prod.mk.injEq]at h;rw [<-h.1];exact h1
 ·cases h
theorem IN{α:Type}(A V:List α)(p n L:Nat)(h1:p+n<=L)(h2:L<=A.length)(hv:V.length=n):(A.take p++V++A.drop (p+n)).take L=(A.take L).take p++V++(A.take L).drop (p+n):=by
 apply List.ext_getElem?;intro i;simp only [List.getElem?_take,List.getElem?_append,List.length_take,List.length_append,List.getElem?_drop,hv];have a1:min p A.length=p:=Nat.min_eq_left (by omega);have a2:min p (min L A.length)=p:=by omega
 simp only [a1,a2];by_cases hi:i<L
 ·rw [if_pos hi];by_cases hp:i<p+n
  ·rw [if_pos hp,if_pos hp];by_cases hq:i<p
   ·simp only [hq,if_true];rw [if_pos hi]
   ·simp only [hq,if_false]
  ·rw [if_neg hp,if_neg hp,if_pos (by omega)]
 ·rw [if_neg hi];have hp:¬i<p+n:=by omega
  rw [if_neg hp,if_neg (by omega)]
theorem IQ{m:Mem}{o:aY}{k0:Nat}{ce eZ:CE}{sz:Nat}{el:TypeId}(hm:getM m k0=none)(h:aD o k0=some (ce,sz,el))(k:Nat):aC m (dk o k0 eZ) k=if k0=k then some (.row eZ sz el)else aC m o k:=by
 unfold aC;rw [y9];by_cases hk:k0=k
 ·subst hk;rw [if_pos rfl,if_pos rfl,hm,h];rfl
 ·rw [if_neg hk,if_neg hk]
theorem Bq{st:St}{o:Oper}{J:Env}{k0:Nat}{ce eZ:CE}{sz:Nat}{el:TypeId}{c:an}(wf:st.WF)(hle:st.c.le c)(sw:c.nk=st.c.nk)(eK:aD st.o k0=some (ce,sz,el))(jT:k0∈aL st o)(h3:bP c eZ=true)
  (jk:∀x∈eZ.flatMap cc,x∈cN st o∨x∈ce.flatMap cc)
  (h4:∀(β:Nat->Nat) (a:Act) (w:World),dt st o J β a->Holds W J β k0 (.row ce sz el) w ->
   ∃w',(execOp a.eval o).run P w=.ok .skip w'/\Holds W J β k0 (.row eZ sz el) w'/\(w'.os=w.os/\w'.tape=w.tape/\w'.output=w.output/\w.heap.size<=w'.heap.size)/\(∀b,b<w.heap.size->bu β k0 (.row ce sz el)≠some b->w'.heap[b]? = w.heap[b]?))
  (h5:iw {st with o:=dk st.o k0 eZ} o.dst .any c):gS P W st o J ({st with o:=dk st.o k0 eZ}.bM o.dst .any c) .any [k0]:=by
 obtain⟨q1,q2,q3,q4,q5,q6⟩:=zu {st with o:=dk st.o k0 eZ} o.dst .any c;have j_:=wf.ap k0 _ eK
 have hm:∀k,aC ({st with o:=dk st.o k0 eZ}.bM o.dst .any c).m ({st with o:=dk st.o k0 eZ}.bM o.dst .any c).o k=if k0=k then some (.row eZ sz el)else aC st.m st.o k:=λk=>by
  rw [q2,q4];exact IQ j_ eK k
 have nB:=(wf.o k0 ce sz el eK).1;have g:=wf.grow hle;refine⟨λhk=>by rw [(zk _ _ _ _).1];exact hk,(zk _ _ _ _).2,q3,q5,q6,by rw [q1];exact hle, ?_,λt'=>zl _ o.dst _ _ t',λd hd=>(h5 d hd).1,λk hk => ?_,λk _ hk => ?_,λk e' hk hg x hx => ?_,λβ a w hB ho hr _ next Q' hn => ?_⟩
 ·refine⟨λi => ?_,by rw [q2,q1];exact g.m,λk Iw Ix t2 hg => ?_,λk x hk => ?_,by rw [q5,q1];exact g.r,by rw [q6,q1];exact g.d,by rw [(zk _ _ _ _).1,q1];exact g.k,by rw [(zk _ _ _ _).2,q1];exact g.df⟩
  ·rw [zl,q1];by_cases hd:o.dst=some i
   ·rw [if_pos hd];rfl
   ·rw [if_neg hd];exact g.t i
  ·rw [q4,y9]at hg;rw [q1];by_cases hk:k0=k
   ·subst hk;rw [if_pos rfl,eK]at hg;simp only [Option.map_some,Option.some.injEq,Prod.mk.injEq]at hg;obtain⟨rfl,rfl,rfl⟩:=hg;exact⟨by omega,h3⟩
   ·rw [if_neg hk]at hg;exact g.o k Iw Ix t2 hg
  ·rw [q4,y9]at hk;rw [q2];by_cases ct:k0=k
   ·subst ct;exact j_
   ·rw [if_neg ct]at hk;exact wf.ap k x hk
 ·simp only [List.mem_singleton]at hk;subst hk;exact⟨jT,by omega⟩
 ·rw [hm,if_neg (λe=>hk (by simp [e]))]
 ·rw [hm]at hg;by_cases ct:k0=k
  ·rw [if_pos ct]at hg;cases hg;rcases jk x hx with h|h
   ·exact .inl h
   ·exact .inr ⟨k0,_,List.mem_append.2 (.inr jT),jP j_ eK,h⟩
  ·rw [if_neg ct]at hg;rcases hk with hk|hk
   ·simp only [List.mem_singleton]at hk;exact (ct hk.symm).elim
   ·rw [wf.beyond hk]at hg;cases hg
 ·have hold:=hr k0 (List.mem_append.2 (.inr jT)) _ (jP j_ eK);obtain⟨w',r1,r2,⟨r3,r4,r5,r6⟩,r7⟩:=h4 β a w ho hold;unfold Oper.wp;rw [r1,Oper.upon_skip];refine hn β _ _ (λh=>(h rfl).elim) ⟨r3,r4,r5,r6,λb hb pj=>r7 b hb (pj k0 _ (by simp) (jP j_ eK)),λ_ _=>rfl,λk e' hk hg => ?_,λk k' e e' _ hk gJ hg eF _ _ => ?_⟩
  ·rw [hm]at hg;by_cases ct:k0=k
   ·rw [if_pos ct]at hg;cases hg;subst ct;exact⟨r2,λb hb=>.inr ⟨k0,_,by simp,jP j_ eK,hb,.inl rfl⟩⟩
   ·rw [if_neg ct]at hg;rcases hk with hk|hk
    ·simp only [List.mem_singleton]at hk;exact (ct hk.symm).elim
    ·rw [wf.beyond hk]at hg;cases hg
  ·have one:∀{k e},(k ∈ [k0]∨st.c.nk<=k)->aC ({st with o:=dk st.o k0 eZ}.bM o.dst .any c).m ({st with o:=dk st.o k0 eZ}.bM o.dst .any c).o k=some e->k=k0:=by
    intro k e hk hg;rcases hk with hk|hk
    ·simpa using hk
    ·rw [hm,if_neg (by omega),wf.beyond hk]at hg;cases hg
   rw [one hk hg,one gJ eF]
theorem OU{lo:Nat->Prop}{w:World}{z:Array Value}{n c sz:Nat}{el:TypeId}(hs:0<sz)(hz:z.size=sz)(rh:lo w.heap.size)(hc:c<=maxLen)(hn:n=0∨n=c) :
  fN lo w.heap.size (c+1) n 0 (times z.toList n) sz el (w.alloc (.cells (madeCells z (c*sz)) el)):=by
 refine⟨by rw [CQ];simp [hz],hs, ?_⟩;by_cases h0:c=0
 ·exact .inl ⟨by omega,by omega⟩
 ·refine .inr ⟨by omega,rfl,rh,by omega,by simpa using hc,madeCells z (c*sz),heap_alloc_new w _,by simp [size_madeCells], ?_⟩
  have l5:madeCells z (c*sz)=(times z.toList c).toArray:=by
   rw [<-hz];exact Ov z c (by omega)
  rw [l5];rcases hn with rfl|rfl
  ·simp [times]
  ·have:(times z.toList n).length=n*sz:=by rw [CQ];simp [hz]
   rw [<-this,List.take_length]
theorem IS{s:Sem Value}{w w':World}{v:Value}(h:s.run P w=.ok v w'):((do pure (Next.value (<-s))):Sem Next).run P w=.ok (.value v) w':=by
 simp [h]
theorem FG(l:List Value)(H:∀x:{x // x∈l},x.1.oneCell'=true):(l.attach.map λx=>(⟨x.1,H x⟩:OV)).map (λy:OV=>y.1)=l:=by
 rw [List.map_map];exact List.attach_map_subtype_val l
theorem SI{s d e:TypeId}(h:fM P s d=some e):P.underlying s=some .string/\P.underlying d=some (.slice e)/\P.underlying e=some (.int .u8):=by
 unfold fM at h;split at h
 ·rename_i h1 h2;split at h
  ·rename_i h3;simp only [Option.some.injEq]at h;subst h;exact⟨h1,h2,h3⟩
  ·cases h
 ·cases h
theorem SJ(l:List UInt8):aE (lI l)=[]:=by
 induction l with
 |nil=>rfl
 |cons b l ih=>simpa [lI,aE]using ih
theorem SK(J:Env)(β:Nat->Nat)(l:List UInt8):(lI l).map (At.den J β)=l.map A9:=by
 simp only [lI,List.map_map];rfl
theorem OW{c:an}:∀{ce:CE} {cs:List At},dC ce=some cs->bP c ce=true->cs.all (At.wf c)=true/\∀y∈aE cs,y∈ce.flatMap cc
  | [],cs,h,_=>by simp only [dC,Option.some.injEq]at h;subst h;exact⟨rfl,λy hy=>by cases hy⟩
  | .var j::r,cs,h,_=>by simp [dC]at h
  | .cE l::r,cs,h,hw=>by
    simp only [dC,Option.map_eq_some_iff]at h;obtain⟨l',h1,rfl⟩:=h;simp only [bP,List.all_cons,Bool.and_eq_true]at hw;obtain⟨i1,i2⟩:=OW h1 (show bP c r=true from hw.2);have hl:l.all (At.wf c)=true:=hw.1;refine⟨by rw [List.all_append,hl,i1];rfl,λy hy => ?_⟩;rw [zd]at hy;rw [List.flatMap_cons];rcases List.mem_append.1 hy with hy|hy
    · exact List.mem_append.2 (.inl hy)
    · exact List.mem_append.2 (.inr (i2 y hy))
theorem OX{G:bY}{st:St}{o:Oper}{K:St->Env->Prop}{J:Env}(wf:st.WF){t:TypeId}{m k v:Operand}(ho:o.op=.mapUpdate t m k v∨o.op=.insert t m k v)
    (h:jN (PA G.P W Q QM QP) G st o.dst t (st.ev m) (st.ev k) (st.ev v) K J):oI G.P W st o K J:=by
  unfold jN at h;generalize hx:eV G.P t=u1 at h;generalize hm:st.ev m=sm at h;generalize hk:st.ev k=sk at h;generalize hv:st.ev v=sv at h;split at h;rotate_left
  · exact h.elim
  rename_i x j kv vv;generalize hg:aD st.o j=u2 at h;split at h;rotate_left
  · exact h.elim
  rename_i ce sz tc;generalize pf:dC ce=u4 at h;split at h;rotate_left
  · clear pf;split at h;rotate_left
    · exact h.elim
    rename_i hc;obtain⟨c1,c2,rfl,rfl,c5,c6⟩:=hc;obtain⟨g1,g2,g3,g4,g5,aM,h1,mL,mM⟩:=Of h;obtain⟨m1,m2,m3,m4,m5,m6,m7,m8⟩:=ud hx;have eJ:st.c.le {st.c with ni:=st.c.ni+1}:=an.qP st.c 1;have Fw:bP {st.c with ni:=st.c.ni+1} ce=true:=yG eJ g4;have wk:kv.wf st.c=true:=by have:=wf.ev k;rw [hk]at this;exact this
    have wv:vv.wf st.c=true:=by have:=wf.ev v;rw [hv]at this;exact this
    have jT:j∈aL st o:=by rcases ho with ho|ho<;>simp [aL,ho,hm,aI,CV.cells,av]
    have FH:cN st o=aE kv.cells++aE vv.cells:=by rcases ho with ho|ho<;>simp [cN,ho,hk,hv,dW]
    have run:∀ (I:Env),Env.au {st.c with ni:=st.c.ni + 1} aM I->∀ (β:Nat->Nat) (a:Act) (w:World) (eZ:CE),dt st o I β a->Holds W I β j (.row ce 0 x.no) w ->
        ak I β eZ=(match bS x.ks.length (x.ks.length+x.ne) (kv.cells.map (At.den I β)) (ak I β ce).length (ak I β ce)with
          |some i=>(ak I β ce).take (i*(x.ks.length+x.ne)+x.ks.length)++vv.cells.map (At.den I β)++(ak I β ce).drop (i*(x.ks.length+x.ne)+x.ks.length+x.ne)
          |none=>ak I β ce++(kv.cells.map (At.den I β)++vv.cells.map (At.den I β))) ->
        ∃w',(execOp a.eval o).run G.P w=.ok .skip w'/\Holds W I β j (.row eZ 0 x.no) w'/\(w'.os=w.os/\w'.tape=w.tape/\w'.output=w.output/\w.heap.size<=w'.heap.size)/\(∀b,b<w.heap.size->bu β j (.row ce 0 x.no)≠some b->w'.heap[b]? = w.heap[b]?):=by
      intro I hl β a w eZ aX aZ l6;have e1:=aX m (by rcases ho with ho|ho<;>rw [ho]<;>simp [Op.operands]) (by rw [hm];simp);have e2:=aX k (by rcases ho with ho|ho<;>rw [ho]<;>simp [Op.operands]) (by rw [hk];simp);have e3:=aX v (by rcases ho with ho|ho<;>rw [ho]<;>simp [Op.operands]) (by rw [hv];simp);rw [hm]at e1;rw [hk]at e2;rw [hv]at e3;have zD:a.eval m=.map (some (β j)):=e1;have zE:a.eval k=kv.den I β:=e2;have IT:a.eval v=vv.den I β:=e3;rcases aZ with aZ|⟨_,own,code,IU⟩
      · exact absurd aZ.2.1 (by omega)
      obtain⟨es,clock,hb,f_,ga⟩:=(wj hx).1 IU;obtain⟨k1,k2⟩:=CD hx c1 I β
      have hlen:es.toList.length<=(ak I β ce).length:=by
        rw [<-f_,CC es.toList ga];exact Nat.le_mul_of_pos_right _ (by omega)
      obtain⟨f1,f2⟩:=HZ hx g1 (w:=w) k1 es.toList _ 0 hlen ga (by rw [f_];exact (mM I hl β).1);rw [f_]at f1 f2;generalize ug:bS x.ks.length (x.ks.length+x.ne) (kv.cells.map (At.den I β)) (ak I β ce).length (ak I β ce)=r0 at f1 f2 l6
      have zH:=Oc hx hb (vv:=vv.den I β) k1 k2 f1 (λi v' hr=>by
        simp only [Option.map_eq_some_iff,Prod.mk.injEq,Nat.zero_add]at hr;obtain⟨j0,CI,rfl,_⟩:=hr;exact f2 _ CI)
      obtain⟨C1,_⟩:=Bk c1 I β;obtain⟨C2,_⟩:=Bk c2 I β;have cw:β j<w.heap.size:=sj hb
      have fin:∀ (sA:Array MapEntry) (im:Nat),(Instr.mapUpdate t (.map (some (β j))) (kv.den I β) (vv.den I β)).run G.P w=.ok () {w with heap:=w.heap.setIfInBounds (β j) (.map sA im)} ->
          sA.toList.flatMap aA=ak I β eZ->(∀e∈sA.toList,de (cI x.gk x.ks.length) e.key/\de (cI x.ge x.ne) e.val) ->
          ∃w',(execOp a.eval o).run G.P w=.ok .skip w'/\Holds W I β j (.row eZ 0 x.no) w'/\(w'.os=w.os/\w'.tape=w.tape/\w'.output=w.output/\w.heap.size<=w'.heap.size)/\(∀b,b<w.heap.size->bu β j (.row ce 0 x.no)≠some b->w'.heap[b]? = w.heap[b]?):=by
        intro sA im gQ l5 zI;refine⟨{w with heap:=w.heap.setIfInBounds (β j) (.map sA im)}, ?_,.inr ⟨rfl,own,code,(wj hx).2 ⟨sA,im, ?_,l5,zI⟩⟩,⟨rfl,rfl,rfl,by simp⟩,λb eG pj => ?_⟩
        · rcases ho with ho|ho<;>simp only [execOp,ho,zD,zE,IT,Sem.run_bind,gQ,Result.andThen_ok,Sem.run_pure]
        · simp [cw]
        · have dO:β j≠b:=λhe=>pj (by simp only [bu,code,if_true,he]);exact Array.getElem?_setIfInBounds_ne dO
      cases r0 with
      |none =>
        simp only at l6;refine fin _ _ zH ?_ λe he => ?_
        · rw [l6];simp only [Array.toList_push,List.flatMap_append,f_,List.flatMap_cons,List.flatMap_nil,List.append_nil,aA,CV.ba]
        · simp only [Array.toList_push,List.mem_append,List.mem_singleton]at he;rcases he with he|rfl
          · exact ga e he
          · exact⟨C1,C2⟩
      |some i =>
        obtain⟨e,q1,q2,q3⟩:=f2 i rfl;simp only at l6;simp only [Option.map_some,Nat.zero_add]at zH;refine fin _ _ zH ?_ λe' he => ?_
        · rw [l6,Array.toList_modify,HV es.toList i q1 q2 ga,f_,CV.ba]
        · rw [Array.toList_modify]at he;obtain⟨n,hn⟩:=List.mem_iff_getElem?.1 he;rw [List.getElem?_modify]at hn;simp only [Option.map_eq_map,Option.map_eq_some_iff]at hn;obtain⟨e0,h0,rfl⟩:=hn
          have:=ga e0 (List.mem_of_getElem? h0)
          split
          · exact⟨C1,C2⟩
          · exact this
    have zJ:vv.cells.length=x.ne:=(Bk c2 J b0).2;have Fs:(IE.var st.c.ni).wf {st.c with ni:=st.c.ni+1}=true:=by show decide (st.c.ni<st.c.ni+1)=true;simp
    rcases zq h1 with ⟨e1,h1⟩|⟨e1,h1⟩
    ·
      have sB:∀v∈(LP.set ce (IE.var st.c.ni) (x.ks.length+x.ne) x.ks.length vv.cells).den aM,v.oneCell'=true:=λv hv=>by
        simp only [LP.den,List.mem_append]at hv;rcases hv with (hv|hv)|hv
        · exact tF _ _ _ _ (List.mem_of_mem_take hv)
        · obtain⟨a,_,rfl⟩:=List.mem_map.1 hv;exact At.gi _ _ _
        · exact tF _ _ _ _ (List.mem_of_mem_drop hv)
      have hL:=h1 (((LP.set ce (IE.var st.c.ni) (x.ks.length+x.ne) x.ks.length vv.cells).den aM).attach.map λy=>(⟨y.1,sB y.1 y.2⟩:OV)) (FG _ λx=>sB x.1 x.2);generalize SL:(((LP.set ce (IE.var st.c.ni) (x.ks.length+x.ne) x.ks.length vv.cells).den aM).attach.map λy=>(⟨y.1,sB y.1 y.2⟩:OV))=L at hL;have SM:L.map (·.1)=(LP.set ce (IE.var st.c.ni) (x.ks.length+x.ne) x.ks.length vv.cells).den aM:=by rw [<-SL];exact FG _ λx=>sB x.1 x.2
      obtain⟨p1,p2⟩:=zf hL;have gq:=(zu {st with o:=dk st.o j [.var st.c.nl]} o.dst .any {st.c with ni:=st.c.ni+1,nl:=st.c.nl+1}).1;have lZ:an.le {st.c with ni:=st.c.ni+1} {st.c with ni:=st.c.ni+1,nl:=st.c.nl+1}:=an.oQ {st.c with ni:=st.c.ni+1} 1;refine⟨_,aM.jy st.c.nl L,.any,[j],p1,by rw [gq];exact an.le_trans eJ lZ,Env.ae eJ mL (re {st.c with ni:=st.c.ni+1} aM L),λI cX => ?_⟩;rw [gq]at cX;have uu:Env.au {st.c with ni:=st.c.ni+1} aM I:=Env.ae lZ (re {st.c with ni:=st.c.ni+1} aM L) cX;refine Bq wf (an.le_trans eJ lZ) rfl hg jT ?_ (λy e_ => ?_) (λβ a w aX aZ=>run I uu β a w _ aX aZ ?_) p2
      · simp [bP,Sg.wf]
      · simp [cc]at e_
      · have fZ:I.l st.c.nl=L:=by
          have:=cX.l st.c.nl (by show st.c.nl<st.c.nl+1;omega)
          rw [this];simp [Env.jy]
        have gK:=(mM I uu β).2;have e0:(IE.var st.c.ni).den I=(IE.var st.c.ni).den aM:=IE.U uu Fs
        have mN:0<=(IE.var st.c.ni).den I:=by
          rw [e0];simpa [BE.den,gE,IE.den]using e1
        unfold fy at gK;cases ug:bS x.ks.length (x.ks.length+x.ne) (kv.cells.map (At.den I β)) (ak I β ce).length (ak I β ce)with
        |none=>rw [ug]at gK;simp only at gK;omega
        |some i =>
          rw [ug]at gK;simp only at gK;have C3:((IE.var st.c.ni).den aM).toNat=i:=by rw [<-e0,gK];rfl
          have q1:ak aM b0 ce=ak I β ce:=by rw [yX aM b0 β g2,zy (β:=β) (ag:=β) uu (λ_ _=>rfl) Fw]
          have q2:vv.cells.map (At.den aM b0)=vv.cells.map (At.den I β):=by
            have IV:vv.cells.all At.flat=true:=by
              cases vv with
              |one a=>simpa [CV.cells,CV.flat]using c5
              |agg l=>exact c5
            rw [Bc aM b0 β IV,vP (β:=β) (ag:=β) uu (λ_ _=>rfl) (List.all_eq_true.2 λy hy=>At.aH eJ (List.all_eq_true.1 (CV.di wv) y hy))]
          simp only [ak,Sg.den,List.append_nil,fZ,SM,LP.den,q1,q2,C3,zJ]
    ·
      obtain⟨p1,p2⟩:=zf h1;have gq:=(zu {st with o:=dk st.o j (cA ce [.cE (kv.cells++vv.cells)])} o.dst .any {st.c with ni:=st.c.ni+1}).1;refine⟨_,aM,.any,[j],p1,by rw [gq];exact eJ,mL,λI cX => ?_⟩;rw [gq]at cX;refine Bq wf eJ rfl hg jT ?_ (λy e_ => ?_) (λβ a w aX aZ=>run I cX β a w _ aX aZ ?_) p2
      · refine Ha _ _ _ Fw ?_;simp only [bP,List.all_cons,List.all_nil,Bool.and_true,Sg.wf,List.all_append];rw [List.all_eq_true.2 λy hy=>At.aH eJ (List.all_eq_true.1 (CV.di wk) y hy),List.all_eq_true.2 λy hy=>At.aH eJ (List.all_eq_true.1 (CV.di wv) y hy)];rfl
      · rcases CZ _ _ e_ with e_|e_
        · exact .inr e_
        · simp only [List.flatMap_cons,cc,List.flatMap_nil,List.append_nil,zd]at e_;rw [FH];exact .inl e_
      · have gK:=(mM I cX β).2;have e0:(IE.var st.c.ni).den I=(IE.var st.c.ni).den aM:=IE.U cX Fs
        have mN:¬0<=(IE.var st.c.ni).den I:=by
          rw [e0];simpa [BE.den,gE,IE.den]using e1
        unfold fy at gK;cases ug:bS x.ks.length (x.ks.length+x.ne) (kv.cells.map (At.den I β)) (ak I β ce).length (ak I β ce)with
        |some i=>rw [ug]at gK;simp only at gK;omega
        |none=>simp only [B_,ak,Sg.den,List.append_nil,List.map_append]
  rename_i cs;split at h;rotate_left
  · exact h.elim
  rename_i hc;obtain⟨c1,c2,rfl,rfl⟩:=hc;obtain⟨r,h1,h2⟩:=HT hx _ _ _ h;have wk:kv.wf st.c=true:=by have:=wf.ev k;rw [hk]at this;exact this
  have wv:vv.wf st.c=true:=by have:=wf.ev v;rw [hv]at this;exact this
  have jT:j∈aL st o:=by rcases ho with ho|ho<;>simp [aL,ho,hm,aI,CV.cells,av]
  have FH:cN st o=aE kv.cells++aE vv.cells:=by rcases ho with ho|ho<;>simp [cN,ho,hk,hv,dW]
  obtain⟨C4,IW⟩:=OW pf (wf.o j ce _ _ hg).2
  have run:∀ (I:Env),Env.au st.c J I->∀ (β:Nat->Nat) (a:Act) (w:World) (eZ:CE),dt st o I β a->Holds W I β j (.row ce 0 x.no) w ->
      ak I β eZ=(match r with
        |some (i,_)=>(cs.map (At.den I β)).take (i*(x.ks.length+x.ne)+x.ks.length)++vv.cells.map (At.den I β)++(cs.map (At.den I β)).drop (i*(x.ks.length+x.ne)+x.ks.length+x.ne)
        |none=>cs.map (At.den I β)++(kv.cells.map (At.den I β)++vv.cells.map (At.den I β))) ->
      ∃w',(execOp a.eval o).run G.P w=.ok .skip w'/\Holds W I β j (.row eZ 0 x.no) w'/\(w'.os=w.os/\w'.tape=w.tape/\w'.output=w.output/\w.heap.size<=w'.heap.size)/\(∀b,b<w.heap.size->bu β j (.row ce 0 x.no)≠some b->w'.heap[b]? = w.heap[b]?):=by
    intro I hl β a w eZ aX aZ l6;have e1:=aX m (by rcases ho with ho|ho<;>rw [ho]<;>simp [Op.operands]) (by rw [hm];simp);have e2:=aX k (by rcases ho with ho|ho<;>rw [ho]<;>simp [Op.operands]) (by rw [hk];simp);have e3:=aX v (by rcases ho with ho|ho<;>rw [ho]<;>simp [Op.operands]) (by rw [hv];simp);rw [hm]at e1;rw [hk]at e2;rw [hv]at e3;have zD:a.eval m=.map (some (β j)):=e1;have zE:a.eval k=kv.den I β:=e2;have IT:a.eval v=vv.den I β:=e3;rcases aZ with aZ|⟨_,own,code,IU⟩
    · exact absurd aZ.2.1 (by omega)
    obtain⟨es,clock,hb,f_,ga⟩:=(wj hx).1 IU;rw [B' I β pf]at f_;obtain⟨k1,k2⟩:=CD hx c1 I β;obtain⟨f1,f2⟩:=h2 I hl β w _ es.toList k1 f_ ga
    have zH:=Oc hx hb (vv:=vv.den I β) k1 k2 f1 (λi v' hr=>by
      cases r with
      |none=>cases hr
      |some q =>
        simp only [Option.map_some,Option.some.injEq,Prod.mk.injEq,Nat.zero_add]at hr;obtain⟨rfl,_⟩:=hr;exact f2 q.1 q.2 rfl)
    obtain⟨C1,_⟩:=Bk c1 I β;obtain⟨C2,_⟩:=Bk c2 I β;have cw:β j<w.heap.size:=sj hb
    have fin:∀ (sA:Array MapEntry) (im:Nat),(Instr.mapUpdate t (.map (some (β j))) (kv.den I β) (vv.den I β)).run G.P w=.ok () {w with heap:=w.heap.setIfInBounds (β j) (.map sA im)} ->
        sA.toList.flatMap aA=ak I β eZ->(∀e∈sA.toList,de (cI x.gk x.ks.length) e.key/\de (cI x.ge x.ne) e.val) ->
        ∃w',(execOp a.eval o).run G.P w=.ok .skip w'/\Holds W I β j (.row eZ 0 x.no) w'/\(w'.os=w.os/\w'.tape=w.tape/\w'.output=w.output/\w.heap.size<=w'.heap.size)/\(∀b,b<w.heap.size->bu β j (.row ce 0 x.no)≠some b->w'.heap[b]? = w.heap[b]?):=by
      intro sA im gQ l5 zI;refine⟨{w with heap:=w.heap.setIfInBounds (β j) (.map sA im)}, ?_,.inr ⟨rfl,own,code,(wj hx).2 ⟨sA,im, ?_,l5,zI⟩⟩,⟨rfl,rfl,rfl,by simp⟩,λb eG pj => ?_⟩
      · rcases ho with ho|ho<;>simp only [execOp,ho,zD,zE,IT,Sem.run_bind,gQ,Result.andThen_ok,Sem.run_pure]
      · simp [cw]
      · have dO:β j≠b:=λhe=>pj (by simp only [bu,code,if_true,he]);exact Array.getElem?_setIfInBounds_ne dO
    cases r with
    |none =>
      refine fin _ _ zH ?_ λe he => ?_
      · rw [l6];simp only [Array.toList_push,List.flatMap_append,f_,List.flatMap_cons,List.flatMap_nil,List.append_nil,aA,CV.ba]
      · simp only [Array.toList_push,List.mem_append,List.mem_singleton]at he;rcases he with he|rfl
        · exact ga e he
        · exact⟨C1,C2⟩
    |some q =>
      obtain⟨i,vs⟩:=q;obtain⟨e,g1,g2,g3⟩:=f2 i vs rfl;simp only [Option.map_some,Nat.zero_add]at zH;refine fin _ _ zH ?_ λe' he => ?_
      · rw [l6,Array.toList_modify,HV es.toList i g1 g2 ga,f_,CV.ba]
      · rw [Array.toList_modify]at he;obtain⟨n,hn⟩:=List.mem_iff_getElem?.1 he;rw [List.getElem?_modify]at hn;simp only [Option.map_eq_map,Option.map_eq_some_iff]at hn;obtain⟨e0,h0,rfl⟩:=hn
        have:=ga e0 (List.mem_of_getElem? h0)
        split
        · exact⟨C1,C2⟩
        · exact this
  cases r with
  |none =>
    obtain⟨p1,p2⟩:=zf h1;have gq:=(zu {st with o:=dk st.o j [.cE (cs++(kv.cells++vv.cells))]} o.dst .any st.c).1;refine⟨_,J,.any,[j],p1,by rw [gq];exact an.le_refl _,Env.ah _ _,λI cX => ?_⟩;rw [gq]at cX;refine Bq wf (an.le_refl _) rfl hg jT ?_ (λy e_ => ?_) (λβ a w aX aZ=>run I cX β a w _ aX aZ ?_) p2
    · simp only [bP,List.all_cons,List.all_nil,Bool.and_true,Sg.wf,List.all_append,C4,CV.di wk,CV.di wv,Bool.and_self]
    · simp only [List.flatMap_cons,cc,List.flatMap_nil,List.append_nil,zd]at e_;rw [FH];rcases List.mem_append.1 e_ with e_|e_
      · exact .inr (IW y e_)
      · exact .inl e_
    · simp only [ak,Sg.den,List.append_nil,List.map_append]
  |some q =>
    obtain⟨i,vs⟩:=q;simp only [Nat.zero_add]at h1;obtain⟨p1,p2⟩:=zf h1;have gq:=(zu {st with o:=dk st.o j [.cE (cs.take (i*(x.ks.length+x.ne)+x.ks.length)++vv.cells++cs.drop (i*(x.ks.length+x.ne)+x.ks.length+x.ne))]} o.dst .any st.c).1;refine⟨_,J,.any,[j],p1,by rw [gq];exact an.le_refl _,Env.ah _ _,λI cX => ?_⟩;rw [gq]at cX;refine Bq wf (an.le_refl _) rfl hg jT ?_ (λy e_ => ?_) (λβ a w aX aZ=>run I cX β a w _ aX aZ ?_) p2
    · simp only [bP,List.all_cons,List.all_nil,Bool.and_true,Sg.wf,List.all_append,(zp C4 _).1,(zp C4 (i*(x.ks.length+x.ne)+x.ks.length+x.ne)).2,CV.di wv,Bool.and_self]
    · simp only [List.flatMap_cons,cc,List.flatMap_nil,List.append_nil,zd]at e_;rw [FH];rcases List.mem_append.1 e_ with e_|e_
      · rcases List.mem_append.1 e_ with e_|e_
        · exact .inr (IW y (zB _ _ e_))
        · exact .inl (List.mem_append.2 (.inr e_))
      · exact .inr (IW y (zC _ _ e_))
    · simp only [ak,Sg.den,List.append_nil,List.map_append,List.map_take,List.map_drop]
theorem SN{G:bY}(hG:G.Ok){st:St}{o:Oper}{K:St->Env->Prop}{J:Env}(wf:st.WF){g:Operand}{args:Array Operand}{cE:Array TypeId}(ho:o.op=.call ⟨.value g,args,cE⟩){f:FuncId}(hg:st.ev g=.cv (.one (.fn f [])))
  (h:qo (PA G.P W Q QM QP) G st o.dst f (args.toList.map st.ev) K J):oI G.P W st o K J:=by
 unfold qo at h;generalize bQ:args.toList.map st.ev=all at h;split at h;rotate_left
 ·exact h.elim
 rename_i k ik k2 off n cp;generalize iz:aD st.o k=u1 at h;generalize rl:getM st.m k2=u2 at h;split at h;rotate_left
 ·exact h.elim
 rename_i ce sz t cs t2;split at h;rotate_left
 ·exact h.elim
 rename_i hc;obtain⟨c1,c2,c3,c4⟩:=hc;obtain⟨h1,h⟩:=h;unfold St.gM at h;split at h;rotate_left
 ·exact h.elim
 rename_i po;obtain⟨p1,p2⟩:=zf h;have gq:=(zu {st with o:=(st.c.nk,cA [.cE ((cs.drop off).take (n*sz))] ce,sz,t)::bI st.o [k]} o.dst (.cv (.one (rowAt 0 st.c.nk))) {st.c with nk:=st.c.nk+4}).1;refine⟨_,J,.cv (.one (rowAt 0 st.c.nk)),[k],p1,by rw [gq];exact an.jz st.c 4,Env.ah _ _,λI hl => ?_⟩;rw [gq]at hl;have pU:Env.au st.c J I:=⟨hl.i,hl.b,hl.v,hl.p,hl.s,hl.l⟩
 have C5:aP st o=av (bT st.m st.o (SV.cv (.one (.own k))::SV.cv (.one (.int ik (.lit 0)))::SV.cv (.one (.gZ k2 off n cp)) :: [])):=by
  simp only [aP,ho,hg,List.map_nil,List.append_nil,bQ]
 have uo:aL st o=dV (SV.cv (.one (.own k))::SV.cv (.one (.int ik (.lit 0)))::SV.cv (.one (.gZ k2 off n cp)) :: []):=by
  simp only [aL,ho,hg,List.map_nil,List.append_nil,bQ]
 have si:k∈aL st o:=by rw [uo];exact IF (j:=0) rfl
 have g_:k2∈aP st o:=by
  rw [C5];simp [bT,deep,av,aI,CV.cells]
 have FI:=jP (wf.ap k _ iz) iz;refine FD 0 wf (an.le_refl _) rfl po (λj hj => ?_) (λx hx=>.inr ?_) (λβ a w hB aX dq next Q' hn => ?_) p2
 ·simp only [List.mem_singleton]at hj;subst hj;exact⟨si,by rw [iz];rfl⟩
 ·simp only [dP]at hx;rcases CZ _ _ hx with hx|hx
  ·simp only [List.flatMap_cons,cc,List.flatMap_nil,List.append_nil]at hx;exact⟨k2,_,List.mem_append.2 (.inl g_),nA rl,zC _ _ (zB _ _ hx)⟩
  ·exact⟨k,_,List.mem_append.2 (.inr si),FI,hx⟩
 ·have d_:(SV.cv (.one (.own k))::SV.cv (.one (.int ik (.lit 0)))::SV.cv (.one (.gZ k2 off n cp)) :: []).map (SV.den I β)=(SV.cv (.one (.own k))::SV.cv (.one (.int ik (.lit 0)))::SV.cv (.one (.gZ k2 off n cp)) :: []).map (SV.den J β) :=
   List.map_congr_left λx hx=>SV.U pU (λ_ _=>rfl) (List.all_eq_true.1 c3 x hx)
  have eg:=aX g (by rw [ho];simp [Op.operands,Call.operands]) (by rw [hg];simp);rw [hg]at eg;have wy:a.eval g=.func (.func f) #[] #[]:=eg
  have ea:(args.map a.eval).toList=(args.toList.map st.ev).map (SV.den I β):=by
   rw [Array.toList_map]
   exact zo _ λx hx=>aX x (by rw [ho];simp only [Op.operands,Call.operands];exact Array.mem_append.2 (.inr (Array.mem_toList_iff.1 hx))) (by
    have:st.ev x∈args.toList.map st.ev:=List.mem_map.2 ⟨x,hx,rfl⟩
    rw [bQ]at this;simp only [List.mem_cons,List.not_mem_nil,or_false]at this;rcases this with h|h|h<;>rw [h]<;>simp)
  rw [bQ]at ea
  have ec:(#[]:Array Value)++args.map a.eval ++ #[]=((SV.cv (.one (.own k))::SV.cv (.one (.int ik (.lit 0)))::SV.cv (.one (.gZ k2 off n cp)) :: []).map (SV.den I β)).toArray:=by
   apply Array.ext';rw [Array.toList_append,Array.toList_append,ea];simp
  have hx:(execOp a.eval o).run G.P w=(callFunc f ((SV.cv (.one (.own k))::SV.cv (.one (.int ik (.lit 0)))::SV.cv (.one (.gZ k2 off n cp)) :: []).map (SV.den I β)).toArray).run G.P w:=by
   simp only [execOp,ho,resolve,wy,Deferred.ofValue,Sem.run_bind,Sem.run_pure,Result.andThen_ok,invoke];rw [<-ec]
  have aZ:=dq k (List.mem_append.2 (.inr si)) _ FI;unfold Oper.wp;rw [hx,hG.calls f c4 _ w,Oper.upon_enter,d_];refine (h1 β w hB ?_).mono λe w' he => ?_
  ·exact yY wf.ap pU (λq cs t hq=>(wf.m q cs t hq).2) (λq ce sz t hq=>(wf.o q ce sz t hq).2) _ λq hq=>dq q (List.mem_append.2 (.inl (by rw [C5];exact hq)))
  ·obtain⟨b,code,n',base,rfl,q1,q2,q3,q4⟩:=he;refine hn b code n' base w' ?_ q2 (λx hx IL=>q3 x hx λh2 he=>IL k _ (by simp) FI (by simp only [bu,h2,if_true,he])) λh2 => ?_
   ·rw [zy pU (λ_ _=>rfl) po];refine q1.imp λh2 _ => ?_;rcases q4 h2 with h|⟨h,rfl⟩
    ·exact dT.mk (.inr (Nat.le_trans hB.size h))
    ·exact bF.own aZ h
   ·rcases q4 h2 with h|⟨h,rfl⟩
    ·exact .inl h
    ·exact .inr ⟨k,_,by simp,FI,by simp only [bu,h,if_true]⟩
theorem SO{G:bY}(hG:G.Ok){st:St}{o:Oper}{K:St->Env->Prop}{J:Env}(wf:st.WF){g:Operand}{args:Array Operand}{cE:Array TypeId}(ho:o.op=.call ⟨.value g,args,cE⟩){f:FuncId}(hg:st.ev g=.cv (.one (.fn f []))){el:TypeId}
  (h:qp (PA G.P W Q QM QP) G st o.dst f (args.toList.map st.ev) el K J):oI G.P W st o K J:=by
 unfold qp at h;generalize bQ:args.toList.map st.ev=all at h;generalize hi:G.P.info? el=inf at h;split at h;rotate_left
 ·exact h.elim
 rename_i ik e i;split at h;rotate_left
 ·exact h.elim
 rename_i hc;obtain⟨c1,c3,c4⟩:=hc;obtain⟨h1,h⟩:=h;unfold St.gM at h;split at h;rotate_left
 ·exact h.elim
 rename_i po;obtain⟨p1,p2⟩:=zf h;have gq:=(zu {st with o:=(st.c.nk,[],i.size,el)::bI st.o []} o.dst (.cv (.one (rowAt 0 st.c.nk))) {st.c with nk:=st.c.nk+4}).1;refine⟨_,J,.cv (.one (rowAt 0 st.c.nk)),[],p1,by rw [gq];exact an.jz st.c 4,Env.ah _ _,λI hl => ?_⟩;rw [gq]at hl;have pU:Env.au st.c J I:=⟨hl.i,hl.b,hl.v,hl.p,hl.s,hl.l⟩;refine FD 0 wf (an.le_refl _) rfl po (λj hj=>by cases hj) (λx hx => ?_) (λβ a w hB aX dq next Q' hn => ?_) p2
 ·simp [dP,cc]at hx
 ·have pj:∀k,k<st.c.nk->(λj=>if j=st.c.nk+1 then 0 else β j) k=β k:=λk hk=>if_neg (by omega)
  have d_:[SV.cv (.one .c_),.cv (.one (.int ik e))].map (SV.den I β)=[SV.cv (.one .c_),.cv (.one (.int ik e))].map (SV.den J λj=>if j=st.c.nk+1 then 0 else β j) :=
   List.map_congr_left λx hx=>SV.U pU (λk hk=>(pj k hk).symm) (List.all_eq_true.1 c3 x hx)
  have eg:=aX g (by rw [ho];simp [Op.operands,Call.operands]) (by rw [hg];simp);rw [hg]at eg;have wy:a.eval g=.func (.func f) #[] #[]:=eg
  have ea:(args.map a.eval).toList=(args.toList.map st.ev).map (SV.den I β):=by
   rw [Array.toList_map]
   exact zo _ λx hx=>aX x (by rw [ho];simp only [Op.operands,Call.operands];exact Array.mem_append.2 (.inr (Array.mem_toList_iff.1 hx))) (by
    have:st.ev x∈args.toList.map st.ev:=List.mem_map.2 ⟨x,hx,rfl⟩
    rw [bQ]at this;simp only [List.mem_cons,List.not_mem_nil,or_false]at this;rcases this with h|h<;>rw [h]<;>simp)
  rw [bQ]at ea
  have ec:(#[]:Array Value)++args.map a.eval ++ #[]=([SV.cv (.one .c_),.cv (.one (.int ik e))].map (SV.den I β)).toArray:=by
   apply Array.ext';rw [Array.toList_append,Array.toList_append,ea];simp
  have hx:(execOp a.eval o).run G.P w=(callFunc f ([SV.cv (.one .c_),.cv (.one (.int ik e))].map (SV.den I β)).toArray).run G.P w:=by
   simp only [execOp,ho,resolve,wy,Deferred.ofValue,Sem.run_bind,Sem.run_pure,Result.andThen_ok,invoke];rw [<-ec]
  unfold Oper.wp;rw [hx,hG.calls f c4 _ w,Oper.upon_enter,d_];refine (h1 (λj=>if j=st.c.nk+1 then 0 else β j) w hB trivial).mono λe' w' he => ?_;obtain⟨b,code,n',base,rfl,q1,q2,q3,q4⟩:=he;have hz:(if st.c.nk+1=st.c.nk+1 then 0 else β (st.c.nk+1))=0:=if_pos rfl
  have kU:2<=code->w.heap.size<=b:=λh2=>by
   rcases q4 h2 with h|⟨h,_⟩
   ·exact h
   ·exact absurd h (by simp)
  refine hn b code n' base w' ?_ q2 (λx hx _=>q3 x hx λh2=>absurd h2 (by simp)) λh2=>.inl (kU h2);rw [show ak I β []=ak J (λj=>if j=st.c.nk+1 then 0 else β j) [] from rfl];exact q1.imp λh2 _=>dT.mk (.inr (Nat.le_trans hB.size (kU h2)))
theorem OY{G:bY}{st:St}{o:Oper}{K:St->Env->Prop}{J:Env}(wf:st.WF)(h:my (PA G.P W Q QM QP) G st o K J):oI G.P W st o K J:=by
  have wA:∀ (md:Nat) {ce:CE} {sz:Nat} {el:TypeId} {c:an} {aM:Env},St.gM (PA G.P W Q QM QP) st o.dst [] ce sz el c K md aM->st.c.le c->c.nk=st.c.nk->Env.au st.c J aM->ce.flatMap cc=[] ->
      (∀I,Env.au c aM I->∀(β:Nat->Nat) (a:Act) (w:World),cS W w->dt st o I β a ->
        ∃b code n base w',(execOp a.eval o).run G.P w=.ok (.value (mF md b code n base)) w'/\bF (dT W) b code n base (ak I β ce) sz el w'/\(w'=w∨∃ob w0,w'=w0.alloc ob/\(w0=w∨w0=w.drew))/\(2<=code->w.heap.size<=b))->oI G.P W st o K J:=by
    intro md ce sz el c aM h hle sw hl C6 hr;unfold St.gM at h;split at h
    · rename_i po;obtain⟨h1,h2⟩:=zf h;have gq:=(zu {st with o:=(c.nk,ce,sz,el)::bI st.o []} o.dst (.cv (.one (rowAt md c.nk))) {c with nk:=c.nk+4}).1;refine⟨_,aM,.cv (.one (rowAt md c.nk)),[],h1,by rw [gq];exact an.le_trans hle (an.jz c 4),hl,λI cX => ?_⟩;rw [gq]at cX;have pU:Env.au c aM I:=⟨cX.i,cX.b,cX.v,cX.p,cX.s,cX.l⟩;refine FD md wf hle sw po (λk hk=>by cases hk) (λx hx=>by simp only [dP,C6]at hx;cases hx) (λβ a w hB aX _=>CY ?_) h2;obtain⟨b,code,n,base,w',r1,r2,r3,r4⟩:=hr I pU β a w hB aX;refine⟨b,code,n,base,w',r1,r2, ?_,λx hx _ => ?_,λh2=>.inl (r4 h2)⟩
      · rcases r3 with rfl|⟨ob,w0,rfl,rfl|rfl⟩
        · exact⟨rfl,rfl,rfl,Nat.le_refl _⟩
        · exact⟨rfl,rfl,rfl,by simp⟩
        · exact⟨rfl,rfl,rfl,by simp⟩
      · rcases r3 with rfl|⟨ob,w0,rfl,rfl|rfl⟩
        · rfl
        · exact Below.heap_alloc _ _ _ hx
        · exact Below.heap_alloc w.drew _ _ hx
    · exact h.elim
  have fin:∀ {ce:CE} {sz:Nat} {el:TypeId} {c:an} {aM:Env},St.gM (PA G.P W Q QM QP) st o.dst [] ce sz el c K 0 aM->st.c.le c->c.nk=st.c.nk->Env.au st.c J aM->ce.flatMap cc=[] ->
      (∀I,Env.au c aM I->∀(β:Nat->Nat) (a:Act) (w:World),cS W w->dt st o I β a ->
        ∃b code n base w',(execOp a.eval o).run G.P w=.ok (.value (cj b code n base)) w'/\bF (dT W) b code n base (ak I β ce) sz el w'/\(w'=w∨∃ob,w'=w.alloc ob)/\(2<=code->w.heap.size<=b))->oI G.P W st o K J :=
    λh h1 h2 h3 h4 h5=>wA 0 h h1 h2 h3 h4 λI hl β a w hB ho=>by
      obtain⟨b,code,n,base,w',r1,r2,r3,r4⟩:=h5 I hl β a w hB ho;exact⟨b,code,n,base,w',r1,r2,r3.imp id (fun⟨ob,h⟩=>⟨ob,w,h,.inl rfl⟩),r4⟩
  unfold my at h;generalize ho:o.op=op at h;cases op<;>first|exact h.elim|skip
  case convert src dst x =>
    simp only at h;generalize hx:st.ev x=sx at h;generalize mO:fM G.P src dst=u0 at h;rcases u0 with _|e
    · exact h.elim
    obtain⟨hs,hd,he⟩:=SI mO
    have bytes:∀ (I:Env) (β:Nat->Nat) (a:Act) (w:World) (l:List UInt8),cS W w->dt st o I β a->sx ≠ .any->sx.den I β=.string ⟨l.toArray⟩ ->
        ∃b code n base w',(execOp a.eval o).run G.P w=.ok (.value (mF 2 b code n base)) w'/\bF (dT W) b code n base (l.map A9) 0 0 w'/\(w'=w∨∃ob w0,w'=w0.alloc ob/\(w0=w∨w0=w.drew))/\(2<=code->w.heap.size<=b):=by
      intro I β a w l hB aX dO kS;have e1:=aX x (by rw [ho];simp [Op.operands]) (by rw [hx];exact dO);rw [hx,kS]at e1;have gQ:=run_bytes_of_string (P:=G.P) w src dst e ⟨l.toArray⟩ hs hd he;have iS:(⟨l.toArray⟩:ByteArray).size=l.length:=by show l.toArray.size=_;simp
      rw [iS]at gQ;refine⟨w.heap.size,grownCap w l.length 0 e+2,l.length,0,w.drew.alloc (.cells (bytesRow ⟨l.toArray⟩ (grownCap w l.length 0 e)) e ((bytesRow ⟨l.toArray⟩ (grownCap w l.length 0 e)).size,(bytesRow ⟨l.toArray⟩ (grownCap w l.length 0 e)).size+1)), ?_,.inr ⟨rfl,dT.mk (.inr hB.size),by omega, ?_⟩,.inr ⟨_,w.drew,rfl,.inr rfl⟩,λ_=>Nat.le_refl _⟩
      · have:mF 2 w.heap.size (grownCap w l.length 0 e+2) l.length 0=.slice (some ⟨w.heap.size,0,none⟩) l.length (grownCap w l.length 0 e):=by simp [mF]
        rw [this];simp only [execOp,ho,e1];exact IS gQ
      · refine⟨by simp,bytesRow ⟨l.toArray⟩ (grownCap w l.length 0 e),e,_,heap_alloc_new w.drew _, ?_⟩;unfold bytesRow;simp only [Array.toList_append,Array.toList_map,List.length_map];rw [List.take_left' (by simp)];rfl
    clear mO;generalize some e=so at h;split at h
    · rename_i l;refine wA 2 h (an.le_refl _) rfl (Env.ah _ _) (by simp [cc,SJ]) λI cX β a w hB aX => ?_
      have:=bytes I β a w l hB aX (by simp) rfl
      simpa only [ak,Sg.den,List.append_nil,SK]using this
    · rename_i i;have wi:i<st.c.ns:=by have:=wf.ev x;rw [hx]at this;simpa [SV.wf,CV.wf,At.wf]using this
      have hH:∀x:{x // x∈(J.s i).map A9},x.1.oneCell'=true:=λx=>by
        obtain⟨q,_,hq⟩:=List.mem_map.1 x.2;rw [<-hq];rfl
      have hL:=h (((J.s i).map A9).attach.map λx=>⟨x.1,hH x⟩) (FG _ hH);have hle:=an.oQ st.c 1;refine wA 2 hL hle rfl (re st.c J _) rfl λI cX β a w hB aX => ?_;have zK:=Env.ae hle (re st.c J _) cX
      have:=bytes I β a w (I.s i) hB aX (by simp) rfl
      have e1:I.l st.c.nl=_:=cX.l st.c.nl (Nat.lt_succ_self _)
      have e2:ak I β [.var st.c.nl]=(I.s i).map A9:=by
        simp only [ak,Sg.den,List.append_nil,e1,Env.jy,if_true];rw [zK.s i wi];exact FG _ hH
      rw [e2];exact this
    · exact h.elim
  case mapUpdate t m k v=>exact OX wf (.inl ho) h
  case insert t m k v=>exact OX wf (.inr ho) h
  case makeMap t rs =>
    cases rs with
    |some r=>exact h.elim
    |none =>
      simp only at h;generalize hx:eV G.P t=u1 at h;split at h;rotate_left
      · exact h.elim
      rename_i x;refine wA 1 h (an.le_refl _) rfl (Env.ah _ _) rfl λI cX β a w hB aX => ?_;refine⟨w.heap.size,2,0,0,w.alloc (.map #[] 0), ?_,.inr ⟨rfl,dT.mk (.inr hB.size),Nat.le_refl _,(wj hx).2 ⟨#[],0,heap_alloc_new w _,rfl,λe he=>by simp at he⟩⟩,.inr ⟨_,w,rfl,.inl rfl⟩,λ_=>Nat.le_refl _⟩;simp [execOp,ho,Instr.makeMap,mF]
  case makeSlice t l cp =>
    simp only at h;generalize hu:G.P.underlying t=u1 at h;split at h;rotate_left
    · exact h.elim
    rename_i el;generalize hi:G.P.info? el=u2 at h;generalize um:cq G.P el=u3 at h;split at h;rotate_left
    · exact h.elim
    rename_i i z;split at h;rotate_left
    · exact h.elim
    rename_i hc;obtain⟨c1,c2,c3,c4,c5⟩:=hc;obtain⟨i',v0,z1,z2,z3⟩:=OS um;rw [hi]at z1;cases z1;have zs:∀J β,v0.cells=(z.cells.map (At.den J β)).toArray:=λJ β=>by rw [<-z3 J β,CV.ba]
    have OZ:v0.cells.size=i.size:=by rw [zs J b0];simpa using c2
    generalize hl:st.ev l=sl at h;generalize C7:st.ev cp=sc at h;split at h;rotate_left
    · exact h.elim
    rename_i kl e kc e2;have we:e.wf st.c=true:=by have:=wf.ev l;rw [hl]at this;exact this
    have O0:e2.wf st.c=true:=by have:=wf.ev cp;rw [C7]at this;exact this
    have run:∀ (I:Env) (β:Nat->Nat) (a:Act) (w:World),dt st o I β a->0<=e.den I->e.den I<=e2.den I->e2.den I<=fg ->
        (execOp a.eval o).run G.P w=.ok (.value (.slice (some ⟨w.heap.size,0,none⟩) (e.den I).toNat (e2.den I).toNat)) (w.alloc (.cells (madeCells v0.cells ((e2.den I).toNat*i.size)) el)):=by
      intro I β a w aX h0 h1 h2;have e1:=aX l (by rw [ho];simp [Op.operands]) (by rw [hl];simp);have e3:=aX cp (by rw [ho];simp [Op.operands]) (by rw [C7];simp);rw [hl]at e1;rw [C7]at e3;simp only [SV.den,CV.den,At.den]at e1 e3
      have kC:(i.bytes:Int)*e2.den I<=281474976710656:=by
        have:(i.bytes:Int)*e2.den I<=131072*1073741824:=Int.mul_le_mul (by omega) (by simpa [fg]using h2) (by omega) (by omega)
        omega
      have:=run_make (P:=G.P) w t el i v0 hu hi z2 kl kc (e.den I) (e2.den I) h0 h1 kC (by simp [fg]at h2;omega)
      simp only [execOp,ho,e1,e3];exact IS this
    split at h
    · rename_i IX;subst IX;obtain⟨q1,h⟩:=za h;obtain⟨q2,h⟩:=za h;refine fin h (an.le_refl _) rfl (Env.ah _ _) rfl λI cX β a w hB aX => ?_;have p1:0<=e2.den I:=by rw [IE.U cX O0];exact q1
      have p2:e2.den I<=fg:=by rw [IE.U cX O0];exact q2
      refine⟨w.heap.size,(e2.den I).toNat+1,0,0,w.alloc (.cells (madeCells v0.cells ((e2.den I).toNat*i.size)) el), ?_, ?_,.inr ⟨_,rfl⟩,λ_=>Nat.le_refl _⟩
      · rw [run I β a w aX (by simp [mJ]) (by simpa [mJ]using p1) p2];simp [cj,mJ]
      · have:=OU (lo:=dT W) (w:=w) (z:=v0.cells) (n:=0) (c:=(e2.den I).toNat) (el:=el) c1 OZ (dT.mk (.inr hB.size)) (by simp [maxLen,fg]at p2 ⊢;omega) (.inl rfl)
        exact .inl (by simpa [times,ak]using this)
    · split at h;rotate_left
      · exact h.elim
      rename_i he;subst he;obtain⟨q1,h⟩:=za h;obtain⟨q2,h⟩:=za h
      have row:∀ (I:Env) (β:Nat->Nat) (a:Act) (w:World) (xs:List Value),cS W w->dt st o I β a->0<=e.den I->e.den I<=fg->xs=times v0.cells.toList (e.den I).toNat ->
          ∃b code n base w',(execOp a.eval o).run G.P w=.ok (.value (cj b code n base)) w'/\bF (dT W) b code n base xs i.size el w'/\(w'=w∨∃ob,w'=w.alloc ob)/\(2<=code->w.heap.size<=b):=by
        intro I β a w xs hB aX p1 p2 oK;refine⟨w.heap.size,(e.den I).toNat+1,(e.den I).toNat,0,w.alloc (.cells (madeCells v0.cells ((e.den I).toNat*i.size)) el), ?_, ?_,.inr ⟨_,rfl⟩,λ_=>Nat.le_refl _⟩
        · rw [run I β a w aX p1 (Int.le_refl _) p2];simp [cj]
        · rw [oK];exact .inl (OU c1 OZ (dT.mk (.inr hB.size)) (by simp [maxLen,fg]at p2 ⊢;omega) (.inr rfl))
      split at h
      · rename_i n;refine fin h (an.le_refl _) rfl (Env.ah _ _) (by simp [cc,Iz _ (Iy um)]) λI cX β a w hB aX => ?_;refine row I β a w _ hB aX q1 q2 ?_;simp only [ak,Sg.den,List.append_nil,H',zs I β,mJ]
      · rw [if_pos we]at h
        have hL:=h (((times (z.cells.map (At.den J b0)) (e.den J).toNat)).attach.map λx=>⟨x.1,by
          have:∀(l:List Value) (m:Nat),(∀v∈l,v.oneCell'=true)->∀v∈times l m,v.oneCell'=true:=by
            intro l m hl
            induction m with
            |zero=>intro v hv;cases hv
            |succ m ih=>intro v hv;simp only [times,List.mem_append]at hv;rcases hv with hv|hv;exact hl v hv;exact ih v hv
          refine this _ _ (λv hv => ?_) x.1 x.2;obtain⟨q,_,rfl⟩:=List.mem_map.1 hv;exact At.gi J b0 q⟩) (by simp [LP.den])
        have hle:=an.oQ st.c 1;refine fin hL hle rfl (re st.c J _) rfl λI cX β a w hB aX => ?_;have zK:=Env.ae hle (re st.c J _) cX;have d1:e.den I=e.den J:=IE.U zK we;refine row I β a w _ hB aX (by rw [d1];exact q1) (by rw [d1];exact q2) ?_;have e1:I.l st.c.nl=_:=cX.l st.c.nl (Nat.lt_succ_self _);simp only [ak,Sg.den,List.append_nil,e1,Env.jy,if_true];rw [zs J b0,d1];simp
  case buildSlice t len parts =>
    simp only at h;generalize hu:G.P.underlying t=u1 at h;split at h;rotate_left
    · exact h.elim
    rename_i el;generalize hi:G.P.info? el=u2 at h;split at h;rotate_left
    · exact h.elim
    rename_i i;split at h
    · rename_i hc;obtain⟨rfl,c2,c3⟩:=hc
      have hp:parts=#[]:=by
        have:parts.toList=[]:=List.eq_nil_of_length_eq_zero c2
        exact Array.toList_eq_nil_iff.1 this
      subst hp;refine fin h (an.le_refl _) rfl (Env.ah _ _) rfl λI cX β a w hB aX => ?_;refine⟨w.heap.size,1,0,0,w.alloc (.cells #[] el), ?_,.inl ⟨by simp [ak],c3,.inl ⟨by omega,rfl⟩⟩,.inr ⟨.cells #[] el,rfl⟩,λh=>by omega⟩;simp [execOp,ho,Instr.buildSlice,run_underlying hu,Go.sizeOf,typeInfo,hi,Instr.fill,newRow,cj]
      have:Array.range 0=#[]:=rfl
      simp [this]
    · clear hi;generalize hz:aF G.P el=u2 at h;generalize um:cq G.P el=u3 at h;split at h;rotate_left
      · exact h.elim
      rename_i g s z;split at h;rotate_left
      · exact h.elim
      rename_i hc;generalize hf:cn (λi=>some (i*s,s)) (times z.cells len) (parts.toList.map λp=>(p.1,st.ev p.2))=u4 at h;split at h;rotate_left
      · exact h.elim
      rename_i cs;split at h;rotate_left
      · exact h.elim
      rename_i iT;refine fin h (an.le_refl _) rfl (Env.ah _ _) (by simp [cc,iT.2]) λI cX β a w hB aX => ?_;obtain⟨c1,c2,c3,c4⟩:=hc;have hlen:(ak I β [.cE cs]).length=len*s:=by simp only [ak,Sg.den,List.append_nil,List.length_map];exact iT.1
      have R7:len<=len*s:=Nat.le_mul_of_pos_right _ c2;refine⟨w.heap.size,len+1,len,0,w.alloc (.cells (cs.map (At.den I β)).toArray el), ?_,.inl ⟨hlen,c2,.inr ⟨by omega,rfl,dT.mk (.inr hB.size),by omega,by simp [maxLen];omega,(cs.map (At.den I β)).toArray,heap_alloc_new w _, ?_, ?_⟩⟩,.inr ⟨_,rfl⟩,λ_=>Nat.le_refl _⟩
      · rw [OC ho hu hz um ⟨c1,c2,c3,c4⟩ hf aX];simp [cj]
      · simp [iT.1]
      · have:(cs.map (At.den I β)).length=len*s:=by simpa using iT.1
        simp only [ak,Sg.den,List.append_nil];exact List.take_of_length_le (Nat.le_of_eq this)
  case assign x =>
    simp only at h;generalize hx:st.ev x=sx at h;generalize W6:la G o.dst=u1 at h;split at h;rotate_left
    · exact h.elim
    rename_i el;generalize hi:G.P.info? el=u2 at h;split at h;rotate_left
    · exact h.elim
    rename_i i;split at h;rotate_left
    · exact h.elim
    rename_i hc;refine fin h (an.le_refl _) rfl (Env.ah _ _) rfl λI cX β a w hB aX => ?_;have e1:=aX x (by rw [ho];simp [Op.operands]) (by rw [hx];simp);rw [hx]at e1;refine⟨0,0,0,0,w, ?_,.inl ⟨by simp [ak],hc,.inl ⟨by omega,rfl⟩⟩,.inl rfl,λh=>by omega⟩;simp only [SV.den,CV.den,At.den]at e1;simp [execOp,ho,e1,cj]
  case slice t x lo hi mx =>
    cases hi with
    |none=>exact h.elim
    |some hi =>
    cases mx with
    |none=>exact h.elim
    |some mx =>
    simp only at h;generalize hu:G.P.underlying t=u1 at h;generalize hh:st.ev hi=sh at h;generalize hm:st.ev mx=sm at h;generalize rh:cJ (.lit 0) (lo.map st.ev)=u4 at h;split at h;rotate_left
    · exact h.elim
    rename_i el kh km;generalize uv:G.P.info? el=u5 at h;generalize hx:st.ev x=sx at h
    have key:∀i,G.P.info? el=some i->0<i.size->sx ≠ .any->(∀I β,sx.den I β=.slice none 0 0∨∃b o n c,sx.den I β=.slice (some ⟨b,o,none⟩) n c)->St.gM (PA G.P W Q QM QP) st o.dst [] [] i.size el st.c K 0 J->oI G.P W st o K J:=by
      intro i uv iS eD hv h;refine fin h (an.le_refl _) rfl (Env.ah _ _) rfl λI cX β a w hB aX => ?_;have e1:=aX hi (by rw [ho];simp [Op.operands]) (by rw [hh];simp);have e2:=aX mx (by rw [ho];simp [Op.operands]) (by rw [hm];simp);have e3:=aX x (by rw [ho];simp [Op.operands]) (by rw [hx];exact eD);rw [hh]at e1;rw [hm]at e2;rw [hx]at e3;simp only [SV.den,CV.den,At.den,mJ]at e1 e2
      have e4:lo.map a.eval=none∨∃k,lo.map a.eval=some (.int k 0):=by
        rcases vx rh with ⟨h1,_⟩|⟨k,h1⟩
        · cases lo with
          |none=>exact .inl rfl
          |some l=>simp at h1
        · cases lo with
          |none=>simp at h1
          |some l =>
            simp only [Option.map_some,Option.some.injEq]at h1
            have:=aX l (by rw [ho];simp [Op.operands]) (by rw [h1];simp)
            rw [h1]at this;exact .inr ⟨k,by simp only [Option.map_some,this];rfl⟩
      have size:(Go.sizeOf el).run G.P w=.ok i.size w:=by simp [Go.sizeOf,typeInfo,uv]
      have run:∀(ad:Option Addr) (n c:Nat),a.eval x=.slice ad n c->(execOp a.eval o).run G.P w=.ok (.value (.slice ad 0 0)) w:=by
        intro ad n c he;simp only [execOp,ho,he,Option.map_some,e1,e2];refine IS ?_;rcases e4 with e4|⟨k,e4⟩
        · simp [Instr.sliceAt,Instr.slice,Instr.sliceBounds,Instr.sliceBound,asIntOf,run_underlying hu,size,e4]
        · simp [Instr.sliceAt,Instr.slice,Instr.sliceBounds,Instr.sliceBound,asIntOf,run_underlying hu,size,e4]
      rcases hv I β with h1|⟨b,of,n,c,h1⟩
      · exact⟨0,0,0,0,w,by rw [run none 0 0 (by rw [e3,h1])];rfl,.inl ⟨by simp [ak],iS,.inl ⟨by omega,rfl⟩⟩,.inl rfl,λh=>by omega⟩
      · exact⟨b,1,0,of,w,by rw [run _ n c (by rw [e3,h1])];rfl,.inl ⟨by simp [ak],iS,.inl ⟨by omega,rfl⟩⟩,.inl rfl,λh=>by omega⟩
    split at h
    · rename_i i p ix s l c;split at h
      · rename_i hc;exact key i uv hc (by simp) (λI β=>.inr ⟨_,_,_,_,rfl⟩) h
      · exact h.elim
    · rename_i i k;split at h
      · rename_i hc;refine key i uv hc (by simp) (λI β => ?_) h;simp only [SV.den,CV.den,At.den,cj];split
        · exact .inl rfl
        · exact .inr ⟨_,_,_,_,rfl⟩
      · exact h.elim
    · rename_i i;split at h
      · rename_i hc;exact key i uv hc (by simp) (λI β=>.inl rfl) h
      · exact h.elim
    · exact h.elim
  case store t x y =>
    simp only at h;generalize hz:aF G.P t=u1 at h;generalize hx:st.ev x=sx at h;generalize hy:st.ev y=sy at h;split at h;rotate_left
    · exact h.elim
    rename_i g n k ix sz off v;generalize hg:aD st.o k=u2 at h;split at h;rotate_left
    · exact h.elim
    rename_i ce s el;split at h;rotate_left
    · exact h.elim
    rename_i hc;obtain⟨rfl,c1,c2,c3,c4,c5,c6⟩:=hc;obtain⟨m,cb,jt,h,b1,b2,b3,b4,b5⟩:=xF h;obtain⟨q1,h⟩:=za h;obtain⟨q2,h⟩:=za h;have jT:k∈aL st o:=by simp [aL,ho,hx,aI,CV.cells,av]
    have run:∀ (I:Env) (β:Nat->Nat) (a:Act) (w:World) (eZ:CE),Env.au cb jt I->dt st o I β a->Holds W I β k (.row ce s el) w ->
        ak I β eZ=(ak I β ce).take ((ix.den I).toNat*s+off)++v.cells.map (At.den I β)++(ak I β ce).drop ((ix.den I).toNat*s+off+n) ->
        ∃w',(execOp a.eval o).run G.P w=.ok .skip w'/\Holds W I β k (.row eZ s el) w'/\(w'.os=w.os/\w'.tape=w.tape/\w'.output=w.output/\w.heap.size<=w'.heap.size)/\(∀b,b<w.heap.size->bu β k (.row ce s el)≠some b->w'.heap[b]? = w.heap[b]?):=by
      intro I β a w eZ hl aX aZ l6;have e1:=aX x (by rw [ho];simp [Op.operands]) (by rw [hx];simp);have e2:=aX y (by rw [ho];simp [Op.operands]) (by rw [hy];simp);rw [hx]at e1;rw [hy]at e2;have fP:=Env.ae b1 b3 hl;have p1:0<=ix.den I:=by rw [IE.U hl (IE.aH b1 c5)];exact q1
      have p2:ix.den I<m.den I:=by rw [IE.U hl (IE.aH b1 c5),IE.U hl b4];exact q2
      have aZ:=bF.eB aZ c3;rw [b5 I β hl,HM aZ]at p2;obtain⟨a1,a2,a3⟩:=aZ
      obtain⟨r1,r2,r3,r4,r5,cur,r6,r7,r8⟩:2<=β (k+1)/\β (k+3)=0/\dT W (β k)/\β (k+2)<=β (k+1)-1/\β (k+1)-1<=maxLen/\∃cur,w.heap[β k]? = some (.cells cur el (0,0))/\cur.size=(β (k+1)-1)*s/\cur.toList.take (β (k+2)*s)=ak I β ce:=by
        rcases a3 with ⟨_,h0⟩|h0
        · omega
        · exact h0
      have sC:(ix.den I).toNat*s+off+n<=β (k+2)*s:=by
        have h1:(ix.den I).toNat+1<=β (k+2):=by omega
        have h2:=Nat.mul_le_mul_right s h1;rw [Nat.succ_mul]at h2;omega
      have pk:β (k+2)*s<=cur.size:=by rw [r7];exact Nat.mul_le_mul_right _ r4
      have hs:=Ot (P:=G.P) hz w (β k) ((ix.den I).toNat*s+off) (v.den I β) cur el r6 (by rw [CV.ba];simpa using c1) (by omega) (by
        rw [CV.ba];intro z CW;simp only [List.mem_map]at CW;obtain⟨q,_,rfl⟩:=CW;exact At.gi I β q)
      rw [CV.ba]at hs;have zJ:(v.cells.map (At.den I β)).length=n:=by simpa using c1
      refine⟨w.setRow (β k) (cur.toList.take ((ix.den I).toNat*s+off)++v.cells.map (At.den I β)++cur.toList.drop ((ix.den I).toNat*s+off+n)).toArray, ?_,.inl ⟨?_,a2,.inr ⟨r1,r2,r3,r4,r5,_,setRow_heap w (β k) _ _ _ _ r6, ?_, ?_⟩⟩,⟨rfl,rfl,rfl,by rw [setRow_size];exact Nat.le_refl _⟩,λb hb pj=>H_ _ _ _ _ (λhe=>pj (by simp only [bu,r1,if_true,he]))⟩
      · have zD:a.eval x=ptr (β k) ((ix.den I).toNat*s+off):=e1;have zE:a.eval y=v.den I β:=e2;simp only [execOp,ho,zD,zE,Sem.run_bind,hs,Result.andThen_ok,Sem.run_pure]
      · rw [l6,<-a1];simp only [List.length_append,List.length_take,List.length_drop,zJ];omega
      · simp only [List.size_toArray,List.length_append,List.length_take,List.length_drop,Array.length_toList,zJ];omega
      · rw [l6,<-r8];exact IN cur.toList _ _ n _ sC (by simpa using pk) zJ
    generalize fA:gp ce ix s off=u5 at h;rcases u5 with _|⟨cs,p⟩;rotate_left
    · simp only at h;obtain⟨SQ,SR⟩:=N7 fA;obtain⟨h1,h2⟩:=zf h;have gq:=(zu {st with o:=dk st.o k [.cE (cs.take p++v.cells++cs.drop (p+n))]} o.dst .any cb).1;refine⟨_,jt,.any,[k],h1,by rw [gq];exact b1,b3,λI cX => ?_⟩;rw [gq]at cX
      have C8:∀x∈cs,x.wf st.c=true/\(∀y∈aE [x],y∈ce.flatMap cc):=by
        have:∀(ce:CE) (cs:List At),dC ce=some cs->bP st.c ce=true->∀x∈cs,x.wf st.c=true/\(∀y∈aE [x],y∈ce.flatMap cc):=by
          intro ce
          induction ce with
          |nil=>intro cs h _ x hx;simp only [dC,Option.some.injEq]at h;subst h;cases hx
          |cons s r ih =>
            intro cs h hw x hx;cases s with
            |var j=>simp [dC]at h
            |cE l =>
              simp only [dC,Option.map_eq_some_iff]at h;obtain⟨l',h1,rfl⟩:=h;simp only [bP,List.all_cons,Bool.and_eq_true]at hw;rcases List.mem_append.1 hx with hx|hx
              · exact⟨List.all_eq_true.1 hw.1 x hx,fun y hy=>by
                  rw [List.flatMap_cons];refine List.mem_append.2 (.inl ?_);show y∈aE l;obtain⟨a,b,rfl⟩:=List.append_of_mem hx;rw [zd,show x::b=[x]++b from rfl,zd];exact List.mem_append.2 (.inr (List.mem_append.2 (.inl hy)))⟩
              · obtain⟨i1,i2⟩:=ih l' h1 hw.2 x hx;exact⟨i1,λy hy=>by rw [List.flatMap_cons];exact List.mem_append.2 (.inr (i2 y hy))⟩
        exact this ce _ (SH fA) c6
      have C9:∀y∈aE cs,y∈ce.flatMap cc:=by
        intro y hy
        have:∀(l:List At),y∈aE l->∃x∈l,y∈aE [x]:=by
          intro l
          induction l with
          |nil=>intro h;cases h
          |cons a l ih =>
            intro h;rw [show a::l=[a]++l from rfl,zd]at h;rcases List.mem_append.1 h with h|h
            · exact⟨a,by simp,h⟩
            · obtain⟨x,h1,h2⟩:=ih h;exact⟨x,by simp [h1],h2⟩
        obtain⟨x,Bn,xH⟩:=this cs hy;exact (C8 x Bn).2 y xH
      refine Bq wf b1 b2 hg jT ?_ (λy e_ => ?_) (λβ a w aX aZ=>run I β a w _ cX aX aZ ?_) h2
      · have uw:cs.all (At.wf cb)=true:=List.all_eq_true.2 λx vB=>At.aH b1 (C8 x vB).1;simp only [bP,List.all_cons,List.all_nil,Bool.and_true,Sg.wf,List.all_append,(zp uw p).1,(zp uw (p+n)).2,CV.di (CV.aH b1 c4),Bool.and_self]
      · simp only [List.flatMap_cons,cc,List.flatMap_nil,List.append_nil,zd]at e_;rcases List.mem_append.1 e_ with e_|e_
        · rcases List.mem_append.1 e_ with e_|e_
          · exact .inr (C9 y (zB _ _ e_))
          · simp only [cN,ho,hy];exact .inl e_
        · exact .inr (C9 y (zC _ _ e_))
      · rw [SQ I,SR I β];simp only [ak,Sg.den,List.append_nil,List.map_append,List.map_take,List.map_drop]
    · simp only at h;split at h;rotate_left
      · exact h.elim
      rename_i jS;obtain⟨Fz,FJ⟩:=jS
      have sB:∀v'∈(LP.set ce ix s off v.cells).den jt,v'.oneCell'=true:=by
        intro v' nD;simp only [LP.den,List.mem_append]at nD;rcases nD with (nD|nD)|nD
        · exact tF jt b0 ce v' (List.mem_of_mem_take nD)
        · obtain⟨q,_,rfl⟩:=List.mem_map.1 nD;exact At.gi jt b0 q
        · exact tF jt b0 ce v' (List.mem_of_mem_drop nD)
      have hL:=h (((LP.set ce ix s off v.cells).den jt).attach.map λx=>⟨x.1,sB x.1 x.2⟩) (by simp);have hle:=an.oQ cb 1;obtain⟨h1,h2⟩:=zf hL;have gq:=(zu {st with o:=dk st.o k [.var cb.nl]} o.dst .any {cb with nl:=cb.nl+1}).1;refine⟨_,_,.any,[k],h1,by rw [gq];exact an.le_trans b1 hle,Env.ae b1 b3 (re cb jt _),λI cX => ?_⟩;rw [gq]at cX;have pU:=Env.ae hle (re cb jt _) cX;refine Bq wf (an.le_trans b1 hle) b2 hg jT (by simp [bP,Sg.wf]) (λy e_=>by simp [cc]at e_) (λβ a w aX aZ=>run I β a w _ pU aX aZ ?_) h2;have e1:I.l cb.nl=_:=cX.l cb.nl (Nat.lt_succ_self _);have f1:ak I β ce=ak jt b0 ce:=by rw [yX I β b0 Fz,zy pU (β:=b0) (λ_ _=>rfl) (yG b1 c6)]
      have f2:v.cells.map (At.den I β)=v.cells.map (At.den jt b0):=by
        have IV:v.cells.all At.flat=true:=by
          cases v with
          |one a=>simpa [CV.cells,CV.flat]using FJ
          |agg l=>exact FJ
        rw [Bc I β b0 IV,vP pU (β:=b0) (λ_ _=>rfl) (yE b1 (CV.di c4))]
      have f3:ix.den I=ix.den jt:=IE.U pU (IE.aH b1 c5);simp only [ak,Sg.den,List.append_nil,e1,Env.jy,if_true,f1,f2,f3]
      have f4:∀(l:List Value) (hl:∀v'∈l,v'.oneCell'=true),(l.attach.map λx=>(⟨x.1,hl x.1 x.2⟩:OV)).map (·.1)=l:=λl hl=>by
        rw [List.map_map];exact List.attach_map_subtype_val l
      rw [f4];simp only [LP.den,c1]
end Vc
