import Derived.Test.YtocleppbcngcjaaGreatDoorVcV
import Derived.Laws.IdiomStrings
set_option linter.unusedVariables false
set_option linter.unusedSimpArgs false
namespace Vc
open Go Go.RowKit
variable {P:Program} {W:dR} {Q:Value->Prop} {QM QP:World->Value->Prop}
theorem JS{m:Mem}{o:ba}{nk:Nat}{ce:CE}{sz:Nat}{el:TypeId}{h_:List Nat}(hm:getM m nk=none)(k:Nat) :
    aE m ((nk,ce,sz,el)::bL o h_) k=if nk=k then some (.row ce sz el)else match getM m k with
      |some (cs,t)=>some (.fix cs t)
      |none=>if k∈h_ then none else aE m o k:=by
  unfold aE;rw [zy,xu];by_cases h:nk=k
  · subst h;rw [if_pos rfl,if_pos rfl,hm]
  · rw [if_neg h,if_neg h];cases hg:getM m k with
    |some x=>rfl
    |none =>
      by_cases he:k∈h_
      · rw [if_pos he,if_pos he]
      · rw [if_neg he,if_neg he]
theorem El{o:Oper}{a:Act}{w:World}{md:Nat}{A B C D:Nat->Nat->Nat->Nat->World->Prop}(h:∃b code n base w',(execOp a.eval o).run P w=.ok (.value (nz md b code n base)) w'/\A b code n base w'/\B b code n base w'/\C b code n base w'/\D b code n base w')
  (next:Act->World->Prop) (Q':Exit->Act->World->Prop) (hn:∀b code n base w',A b code n base w'->B b code n base w'->C b code n base w'->D b code n base w'->next (a.put o.dst (nz md b code n base)) w'):o.wp P a w next Q':=by
 obtain⟨b,code,n,base,w',r1,r2,r3,r4,r5⟩:=h;unfold Oper.wp;rw [r1,Oper.upon_value];exact hn b code n base w' r2 r3 r4 r5
theorem G6{st:St}{o:Oper}{U:Env}{h_:List Nat}{ce:CE}{sz:Nat}{el:TypeId}{c:ar}(md:Nat)(wf:st.WF)(hle:st.c.le c)(tU:c.nk=st.c.nk)(qo:bW c ce=true)(rM:∀ k∈h_,k∈aQ st o/\(aG st.o k).isSome=true)
    (jG:∀x∈dS (.row ce sz el),x∈cN st o∨∃j e,j∈aU st o++aQ st o/\aE st.m st.o j=some e/\x∈dS e)
    (gS:∀(β:Nat->Nat) (a:Act) (w:World),dz W w->dD st o U β a->fk W st.m st.o (aU st o++aQ st o) U β w ->
      ∀(next:Act->World->Prop) (Q':Exit->Act->World->Prop),(∀b code n base w',bH (ek W) b code n base (aq U β ce) sz el w'->(w'.os=w.os/\w'.tape=w.tape/\w'.output=w.output/\w.heap.size<=w'.heap.size) ->
        (∀x,x<w.heap.size->(∀k e,k∈h_->aE st.m st.o k=some e->bD β k e≠some x)->w'.heap[x]? = w.heap[x]?)->(2<=code->w.heap.size<=b∨∃j e,j∈h_/\aE st.m st.o j=some e/\bD β j e=some b) ->
        next (a.put o.dst (nz md b code n base)) w')->o.wp P a w next Q')
    (hp:iA {st with o:=(c.nk,ce,sz,el)::bL st.o h_} o.dst (.cv (.one (rowAt md c.nk))) {c with nk:=c.nk+4}) :
    gT P W st o U ({st with o:=(c.nk,ce,sz,el)::bL st.o h_}.bN o.dst (.cv (.one (rowAt md c.nk))) {c with nk:=c.nk+4}) (.cv (.one (rowAt md c.nk))) h_:=by
  obtain⟨q1,q2,q3,q4,q5,q6⟩:=zz {st with o:=(c.nk,ce,sz,el)::bL st.o h_} o.dst (.cv (.one (rowAt md c.nk))) {c with nk:=c.nk+4};have mN:st.c.le {c with nk:=c.nk+4}:=ar.le_trans hle (ar.jV c 4)
  have kA:getM st.m c.nk=none:=by
    have:=wf.beyond (k:=c.nk) (by omega)
    unfold aE at this;cases hg:getM st.m c.nk with
    |none=>rfl
    |some x=>rw [hg]at this;cases this
  have hm:∀ k,aE ({st with o:=(c.nk,ce,sz,el)::bL st.o h_}.bN o.dst (.cv (.one (rowAt md c.nk))) {c with nk:=c.nk + 4}).m ({st with o:=(c.nk,ce,sz,el)::bL st.o h_}.bN o.dst (.cv (.one (rowAt md c.nk))) {c with nk:=c.nk + 4}).o k =
      if c.nk=k then some (.row ce sz el)else match getM st.m k with
      |some (cs,t)=>some (.fix cs t)
      |none=>if k∈h_ then none else aE st.m st.o k:=λk=>by rw [q2,q4];exact JS kA k
  have zK:∀k∈h_,getM st.m k=none:=λk hk=>by
    obtain⟨x,hx⟩:=Option.isSome_iff_exists.1 (rM k hk).2;exact wf.ap k x hx
  have eA:∀k,k<st.c.nk->k ∉ h_->aE ({st with o:=(c.nk,ce,sz,el)::bL st.o h_}.bN o.dst (.cv (.one (rowAt md c.nk))) {c with nk:=c.nk+4}).m ({st with o:=(c.nk,ce,sz,el)::bL st.o h_}.bN o.dst (.cv (.one (rowAt md c.nk))) {c with nk:=c.nk+4}).o k=aE st.m st.o k:=λk hk he=>by
    rw [hm,if_neg (by omega)];cases hg:getM st.m k with
    |some x=>exact (n_ hg).symm
    |none=>simp only [if_neg he]
  have one:∀{k e},(k∈h_∨st.c.nk<=k)->aE ({st with o:=(c.nk,ce,sz,el)::bL st.o h_}.bN o.dst (.cv (.one (rowAt md c.nk))) {c with nk:=c.nk+4}).m ({st with o:=(c.nk,ce,sz,el)::bL st.o h_}.bN o.dst (.cv (.one (rowAt md c.nk))) {c with nk:=c.nk+4}).o k=some e->k=c.nk/\e=.row ce sz el:=by
    intro k e hk hg;rw [hm]at hg;by_cases cC:c.nk=k
    · rw [if_pos cC]at hg;cases hg;exact⟨cC.symm,rfl⟩
    · rw [if_neg cC]at hg;rcases hk with hk|hk
      · rw [zK k hk]at hg;simp only [if_pos hk]at hg;cases hg
      · have:=wf.beyond hk
        unfold aE at this;cases sS:getM st.m k with
        |some x=>rw [sS]at this;cases this
        |none =>
          rw [sS]at hg;simp only at hg;split at hg
          · cases hg
          · rw [wf.beyond hk]at hg;cases hg
  refine⟨λhk=>by rw [(zn _ _ _ _).1];exact hk,(zn _ _ _ _).2,q3,q5,q6,by rw [q1];exact mN, ?_,λt'=>zo _ o.dst _ _ t',λd hd=>(hp d hd).1,λk hk=>⟨(rM k hk).1, ?_⟩,eA,λk e' hk hg x hx => ?_,λβ a w hB ho hr _ next Q' hn => ?_⟩
  · have g:=wf.grow mN;refine⟨λi => ?_,by rw [q2,q1];exact g.m,λk eY uB t' hg => ?_,λk x hk => ?_,by rw [q5,q1];exact g.r,by rw [q6,q1];exact g.d,by rw [(zn _ _ _ _).1,q1];exact g.k,by rw [(zn _ _ _ _).2,q1];exact g.df⟩
    · rw [zo,q1];by_cases hd:o.dst=some i
      · rw [if_pos hd];exact (hp i hd).2
      · rw [if_neg hd];exact g.t i
    · rw [q4,zy]at hg;rw [q1];by_cases hk:c.nk=k
      · rw [if_pos hk]at hg;cases hg;exact⟨by simp only;omega,AE (ar.jV c 4) qo⟩
      · rw [if_neg hk,xu]at hg;split at hg
        · cases hg
        · exact g.o k eY uB t' hg
    · rw [q4,zy]at hk;rw [q2];by_cases cC:c.nk=k
      · rw [<-cC];exact kA
      · rw [if_neg cC,xu]at hk;split at hk
        · cases hk
        · exact wf.ap k x hk
  · obtain⟨x,hx⟩:=Option.isSome_iff_exists.1 (rM k hk).2
    have:=(wf.o k x.1 x.2.1 x.2.2 hx).1
    omega
  · obtain⟨rfl,rfl⟩:=one hk hg;exact jG x hx
  · refine gS β a w hB ho hr next Q' λb code n base w' r2 r0 r7 r8 => ?_
    obtain⟨r3,r4,r5,r6⟩:=r0;let ak:Nat->Nat:=λk=>if k=c.nk then b else if k=c.nk+1 then code else if k=c.nk+2 then n else if k=c.nk+3 then base else β k;have JT:ak c.nk=b:=if_pos rfl;have JU:ak (c.nk+1)=code:=by show (if c.nk+1=c.nk then b else if c.nk+1=c.nk+1 then code else _)=code;rw [if_neg (by omega),if_pos rfl]
    have G7:ak (c.nk+2)=n:=by
      show (if c.nk+2=c.nk then b else if c.nk+2=c.nk+1 then code else if c.nk+2=c.nk+2 then n else _)=n;rw [if_neg (by omega),if_neg (by omega),if_pos rfl]
    have QT:ak (c.nk+3)=base:=by
      show (if c.nk+3=c.nk then b else if c.nk+3=c.nk+1 then code else if c.nk+3=c.nk+2 then n else if c.nk+3=c.nk+3 then base else _)=base;rw [if_neg (by omega),if_neg (by omega),if_neg (by omega),if_pos rfl]
    have rN:∀k,¬(c.nk<=k/\k<c.nk+4)->ak k=β k:=λk hk=>by
      show (if k=c.nk then b else if k=c.nk+1 then code else if k=c.nk+2 then n else if k=c.nk+3 then base else β k)=β k;rw [if_neg (by omega),if_neg (by omega),if_neg (by omega),if_neg (by omega)]
    refine hn ak _ _ (λ_ => ?_) ⟨r3,r4,r5,r6,λx hx JV=>r7 x hx JV,λk hk=>rN k (by rw [q1]at hk;simp only at hk;omega),λk e' hk hg => ?_,λk k' e e' _ hk gi hg ep _ _ => ?_⟩
    · show _=(rowAt md c.nk).den U ak;rw [T7,JT,JU,G7,QT]
    · obtain⟨rfl,rfl⟩:=one hk hg;refine⟨?_,λx hx => ?_⟩
      · simp only [Holds];rw [JT,JU,G7,QT,uz (Env.an c U) (λk hk=>rN k (by omega)) qo];exact r2
      · simp only [bD,JT,JU]at hx;split at hx
        · rename_i h2;simp only [Option.some.injEq]at hx;subst hx;rcases r8 h2 with h|⟨j,e,h3,h4,h5⟩
          · exact .inl h
          · refine .inr ⟨j,e,h3,h4,h5,.inr ?_⟩;rw [hm,if_neg (by have:=CU (wf.dU h4);omega),zK j h3];simp only [if_pos h3]
        · cases hx
    · rw [(one hk hg).1,(one gi ep).1]
theorem Em:∀(x y:CE) {i:Nat},i∈(cF x y).flatMap cm->i∈x.flatMap cm∨i∈y.flatMap cm
  | [],y,i,h=>.inr h
  | [.bT l],[],i,h=>.inl h
  | [.bT l],.bT l'::y,i,h=>by
    simp only [cF,List.flatMap_cons,cm,zd,List.mem_append,List.flatMap_nil,List.append_nil]at h ⊢;rcases h with (h|h)|h
    · exact .inl h
    · exact .inr (.inl h)
    · exact .inr (.inr h)
  | [.bT l],.var j::y,i,h=>by
    simp only [cF,List.flatMap_cons,List.mem_append,List.flatMap_nil,List.append_nil]at h ⊢;exact h
  | [.var j],y,i,h=>by
    simp only [cF,List.flatMap_cons,List.mem_append,List.flatMap_nil,List.append_nil]at h ⊢;exact h
  | .bT l::t::r,y,i,h=>by
    simp only [cF]at h;rw [List.flatMap_cons]at h ⊢;rcases List.mem_append.1 h with h|h
    · exact .inl (List.mem_append.2 (.inl h))
    · rcases Em (t::r) y h with h|h
      · exact .inl (List.mem_append.2 (.inr h))
      · exact .inr h
  | .var j::t::r,y,i,h=>by
    simp only [cF]at h;rw [List.flatMap_cons]at h ⊢;rcases List.mem_append.1 h with h|h
    · exact .inl (List.mem_append.2 (.inl h))
    · rcases Em (t::r) y h with h|h
      · exact .inl (List.mem_append.2 (.inr h))
      · exact .inr h
theorem QU{t:TypeId}{z:CV}(h:cx P t=some z):∃i v,P.info? t=some i/\i.zero=some v/\∀U β,z.den U β=v:=by
  unfold cx at h;cases hi:P.info? t with
  |none=>simp [hi]at h
  |some i =>
    simp only [hi]at h;cases hz:i.zero with
    |none=>simp [hz]at h
    |some v =>
      simp only [hz]at h;have h2:=λU β=>(SV.cu v ⟨0,0,0,0,0,0,0⟩ U β).2;generalize hs:SV.ofValue v=sv at h h2;cases sv with
      |cv x =>
        simp only [Option.some.injEq]at h;subst h;exact⟨i,v,rfl,hz,λU β=>h2 U β (by simp)⟩
      |_=>simp at h
def Src(W:dR)(st:St)(sz:Nat)(y:SV)(add:CE)(c:ar)(U:Env):Prop :=
  ∀(J:Env) (β:Nat->Nat) (w:World),Env.ay c U J->dz W w->fk W st.m st.o (az (aM y)) J β w ->
    ∃m,((y.den J β=.slice none 0 0/\m=0)∨∃a k,y.den J β=.slice (some a) m k/\∀j u,(aq J β add)[j]? = some u->w.cell? (a.add j)=some u)/\(aq J β add).length=m*sz
theorem U7{st:St}{sz:Nat}{h_:List Nat}{y:SV}{K:CE->ar->Env->Prop}{U:Env}(wf:st.WF)(fW:0 < sz)(hy:y.wf st.c=true)(h:vm (PA P W Q QM QP) st sz h_ y K U) :
    ∃add c' af,K add c' af/\st.c.le c'/\c'.nk=st.c.nk/\Env.ay st.c U af/\bW c' add=true/\y ≠ .any/\Src W st sz y add c' af /\
      ∀x∈add.flatMap cm,∃j e,j∈az (aM y)/\aE st.m st.o j=some e/\x∈dS e:=by
  unfold vm at h;split at h
  · exact⟨[],_,U,h,ar.le_refl _,rfl,Env.an _ _,rfl,by simp,λJ β w _ _ _=>⟨0,.inl ⟨rfl,rfl⟩,by simp [aq]⟩,λx hx=>by cases hx⟩
  · rename_i k off len cap;generalize hg:getM st.m k=u at h;split at h
    · rename_i cs t;split at h
      · rename_i hb;refine⟨_,_,U,h,ar.le_refl _,rfl,Env.an _ _, ?_,by simp,λJ β w _ _ hr=>⟨len,.inr ⟨⟨β k,off,none⟩,cap,rfl,λj u hj => ?_⟩, ?_⟩,λx hx => ?_⟩
        · simp only [bW,List.all_cons,List.all_nil,Bool.and_true,Sg.wf];exact (zu (zu (wf.m k cs t hg).2 off).2 _).1
        · obtain⟨_,hh⟩:=hr k (by simp [aM,CV.cells,az]) _ (n_ hg);simp only [aq,Sg.den,List.append_nil,List.getElem?_map,Option.map_eq_some_iff]at hj;obtain⟨a,ha,rfl⟩:=hj
          have xU:j<len*sz:=by
            rcases Nat.lt_or_ge j (len*sz)with h'|h'
            · exact h'
            · rw [List.getElem?_eq_none (by simp;omega)]at ha;cases ha
          rw [List.getElem?_take_of_lt xU,List.getElem?_drop]at ha;rw [tQ,cell_of_heap hh];simp [ha]
        · simp only [aq,Sg.den,List.append_nil,List.length_map,List.length_take,List.length_drop];omega
        · simp only [List.flatMap_cons,cm,List.flatMap_nil,List.append_nil]at hx;exact⟨k,_,by simp [aM,CV.cells,az],n_ hg,A5 _ _ (A4 _ _ hx)⟩
      · exact h.elim
    · exact h.elim
  · rename_i k;generalize hg:aG st.o k=u at h;split at h
    · rename_i ce s t;split at h
      · rename_i hc;obtain⟨rfl,cW⟩:=hc;refine⟨ce,_,U,h,ar.le_refl _,rfl,Env.an _ _,(wf.o k ce s t hg).2,by simp,λJ β w _ _ hr => ?_,λx hx=>⟨k,_,by simp [aM,CV.cells,az],kt (wf.ap k _ hg) hg,hx⟩⟩;have bj:=(hr k (by simp [aM,CV.cells,az]) _ (kt (wf.ap k _ hg) hg)).eI fW;refine⟨β (k+2), ?_,bj.1⟩;show (cG (β k) (β (k+1)) (β (k+2)) (β (k+3))=_/\_)∨∃a k',cG (β k) (β (k+1)) (β (k+2)) (β (k+3))=_/\_;unfold cG;by_cases h0:β (k+1)=0
        · rw [if_pos h0];refine .inl ⟨rfl, ?_⟩;rcases bj.2.2 with ⟨_,h1⟩|⟨h1,_⟩
          · exact h1
          · omega
        · rw [if_neg h0];refine .inr ⟨_,_,rfl,λj u hj => ?_⟩;have h1:=Ja bj hj;rcases bj.2.2 with ⟨_,h2⟩|⟨_,h2,_⟩
          · have:(aq J β ce).length=0:=by rw [bj.1,h2];omega
            have:=(List.getElem?_eq_some_iff.1 hj).1
            omega
          · rw [tQ,h2,Nat.zero_add];exact h1
      · exact h.elim
    · exact h.elim
  · rename_i x _ _ _
    have ext:∀ (s:Nat),(∀ J β ak,x.den J β=x.den J ak)->az [x]=[]->x.wf st.c=true->(PA P W Q QM QP).GJ st.c.nl x sz (K [.var st.c.nl] {st.c with nl:=st.c.nl + 1}) U ->
        ∃add c' af,K add c' af/\st.c.le c'/\c'.nk=st.c.nk/\Env.ay st.c U af/\bW c' add=true/\(SV.cv (.one x)) ≠ .any/\Src W st sz (.cv (.one x)) add c' af /\
          ∀i∈add.flatMap cm,∃j e,j∈az (aM (.cv (.one x)))/\aE st.m st.o j=some e/\i∈dS e:=by
      intro s kT Eh G8 h;obtain⟨L,h1,h2⟩:=h;have hle:=ar.pV st.c 1;refine⟨_,_,_,h2,hle,rfl,sP st.c U L,by simp [bW,Sg.wf],by simp,λJ β w hl hB hr => ?_,λi hi=>by simp [cm]at hi⟩
      have e1:J.l st.c.nl=L:=by
        rw [hl.l st.c.nl (Nat.lt_succ_self _)];exact if_pos rfl
      have e2:aq J β [.var st.c.nl]=L.map (·.1):=by simp only [aq,Sg.den,List.append_nil,e1]
      have e3:x.den J β=x.den U b0:=by
        rw [At.aa (Env.ah hle (sP st.c U L) hl) (β:=β) (λ_ _=>rfl) G8];exact kT U β b0
      rw [e2];rcases h1 with ⟨h3,h4⟩|⟨a0,h3,h4⟩|⟨b,o,len,cap,h3,h4,h5⟩
      · exact⟨0,.inl ⟨e3.trans h3,rfl⟩,by rw [h4];simp⟩
      · exact⟨0,.inr ⟨a0,0,e3.trans h3,λj u hj=>by rw [h4]at hj;simp at hj⟩,by rw [h4];simp⟩
      · refine⟨len,.inr ⟨_,_,e3.trans h3,λj u hj => ?_⟩,h4⟩
        have:=h5 j u hj
        rw [tQ];exact hB.cell this
    split at h
    · rename_i p ix s len cap;split at h
      · rename_i hc;exact ext 0 (λ_ _ _=>rfl) rfl hc.2 h
      · exact h.elim
    · rename_i q p s len cap;split at h
      · rename_i hc;exact ext 0 (λ_ _ _=>rfl) rfl hc.2 h
      · exact h.elim
    · exact h.elim
  · exact h.elim
theorem U8{o:ba}{sz:Nat}{el:TypeId}{x:SV}{ce:CE}{h_:List Nat}(h:rowOf o sz el x=some (ce,h_)) :
  (x=.cv (.one .cS)/\ce=[]/\h_=[])∨∃k,x=.cv (.one (.own k))/\aG o k=some (ce,sz,el)/\h_=[k]:=by
 unfold rowOf at h;split at h
 ·simp only [Option.some.injEq,Prod.mk.injEq]at h;exact .inl ⟨rfl,h.1.symm,h.2.symm⟩
 ·rename_i k;split at h
  ·rename_i eY s t hg;split at h
   ·rename_i hc;obtain⟨rfl,rfl⟩:=hc;simp only [Option.some.injEq,Prod.mk.injEq]at h;obtain⟨rfl,rfl⟩:=h;exact .inr ⟨k,rfl,hg,rfl⟩
   ·cases h
  ·cases h
 ·cases h
theorem QW{G:bF}{st:St}{o:Oper}{K:St->Env->Prop}{U:Env}(wf:st.WF)(h:yZ (PA G.P W Q QM QP) G st o K U):pL G.P W st o K U:=by
 unfold yZ at h;obtain⟨dst,op,type,pos,after,guard⟩:=o;cases op<;>first|exact h.elim|skip
 rename_i cl;obtain⟨callee,args,argTypes⟩:=cl;cases callee<;>first|exact h.elim|skip
 rename_i bi;cases bi<;>first|exact h.elim|skip
 simp only at h;generalize ha:args.toList=al at h;generalize ht:argTypes.toList=tl at h;split at h;rotate_left
 ·exact h.elim
 rename_i x y t t';have ea:args=#[x,y]:=by apply Array.ext';rw [ha]
 have et:argTypes=#[t,t']:=by apply Array.ext';rw [ht]
 subst ea et;generalize hu:G.P.underlying t=u at h;split at h;rotate_left
 ·exact h.elim
 rename_i el;generalize hi:G.P.info? el=u2 at h;generalize vJ:cx G.P el=u3 at h;split at h;rotate_left
 ·exact h.elim
 rename_i i z;split at h;rotate_left
 ·exact h.elim
 rename_i hc;obtain⟨rfl,c1,c2,c3⟩:=hc;generalize U9:rowOf st.o i.size el (st.ev x)=u4 at h;split at h;rotate_left
 ·exact h.elim
 rename_i ce h_
 obtain⟨add,ca,Y8,h,a1,a2,a3,a4,a5,a6,a7⟩:=U7 wf c1 (wf.ev y) h;obtain⟨nl,cb,jO,h,b1,b2,b3,b4,b5⟩:=zD h;obtain⟨U_,h⟩:=za h;have hle:=ar.le_trans a1 b1;have cX:=Env.ah a1 a3 b3;unfold St.gP at h;split at h;rotate_left
 ·exact h.elim
 rename_i qt;obtain⟨h1,h2⟩:=zh h;have gw:=(zz {st with o:=(cb.nk,cF ce add,i.size,el)::bL st.o h_} dst (.cv (.one (rowAt 0 cb.nk))) {cb with nk:=cb.nk+4}).1;refine⟨_,jO,.cv (.one (rowAt 0 cb.nk)),h_,h1,by rw [gw];exact ar.le_trans hle (ar.jV cb 4),cX,λJ hl => ?_⟩;rw [gw]at hl;have qV:Env.ay cb jO J:=⟨hl.i,hl.b,hl.v,hl.p,hl.s,hl.l⟩
 have vM:∀k,k∈az (aM (st.ev x))∨k∈az (aM (st.ev y))->k∈aU st ⟨dst,.call ⟨.builtin .append,#[x,y],#[t',t']⟩,type,pos,after,guard⟩:=λk hk=>by
  have app:∀(l1 l2:List At),az (l1++l2)=az l1++az l2:=by
   intro l1 l2
   induction l1 with
   |nil=>rfl
   |cons a l1 ih=>cases a<;>simp [az,ih]
  simp only [aU,List.map_cons,List.map_nil,List.flatMap_cons,List.flatMap_nil,List.append_nil,app];exact List.mem_append.2 hk
 have x_:=U8 U9
 have rM:∀k∈h_,k∈aQ st ⟨dst,.call ⟨.builtin .append,#[x,y],#[t',t']⟩,type,pos,after,guard⟩/\(aG st.o k).isSome=true:=λk hk=>by
  rcases x_ with ⟨_,_,rfl⟩|⟨k0,hx,hg,rfl⟩
  ·cases hk
  ·simp only [List.mem_singleton]at hk;subst hk;exact⟨by simp [aQ,hx,aM,CV.cells,az],by rw [hg];rfl⟩
 refine G6 0 wf hle (b2.trans a2) qt rM (λv hv=>.inr ?_) (λβ a w hB bh dC=>El ?_) h2
 ·simp only [dS]at hv;rcases Em ce add hv with hv|hv
  ·rcases x_ with ⟨_,rfl,_⟩|⟨k0,hx,hg,rfl⟩
   ·cases hv
   ·exact⟨k0,_,List.mem_append.2 (.inr (rM k0 (by simp)).1),kt (wf.ap k0 _ hg) hg,hv⟩
  ·obtain⟨j,e,j1,j2,j3⟩:=a7 v hv;exact⟨j,e,List.mem_append.2 (.inl (vM j (.inr j1))),j2,j3⟩
 ·
  have hz:∃z0,i.zero=some z0/\z0.cells.size=i.size:=by
   obtain⟨i',v,q1,q2,q3⟩:=QU vJ;rw [hi]at q1;cases q1;refine⟨v,q2, ?_⟩;rw [<-q3 J β,CV.bp];simpa using c2
  obtain⟨z0,uV,uy⟩:=hz;have ey:=bh y (by simp [Op.operands,Call.operands]) a5
  have ex:a.eval x=(st.ev x).den J β:=bh x (by simp [Op.operands,Call.operands]) (by
   rcases x_ with ⟨hx,_⟩|⟨k0,hx,_⟩<;>rw [hx]<;>simp)
  obtain⟨m,s1,s2⟩:=a6 J β w (Env.ah b1 b3 qV) hB (λk hk e hg=>dC k (List.mem_append.2 (.inl (vM k (.inr hk)))) e hg);have hn:=b5 J β qV;have A_:nl.den J<=fj:=by rw [IE.aa qV b4];exact U_
  rw [hn,DD,List.length_append,s2]at A_;have nh:ek W w.heap.size:=ek.mk (.inr hB.size)
  obtain⟨b,code,n,base,hv,bj,k_⟩:∃b code n base,(st.ev x).den J β=cG b code n base/\fV (ek W) b code n base (aq J β ce) i.size el w /\
    (2<=code->∃j e,j∈h_/\aE st.m st.o j=some e/\bD β j e=some b):=by
   rcases x_ with ⟨hx,rfl,rfl⟩|⟨k0,hx,hg,rfl⟩
   ·exact⟨0,0,0,0,by rw [hx];rfl,⟨by simp [aq],c1,.inl ⟨by omega,rfl⟩⟩,λh=>by omega⟩
   ·have hE:=kt (wf.ap k0 _ hg) hg
    have:=dC k0 (List.mem_append.2 (.inr (rM k0 (by simp)).1)) _ hE
    exact⟨β k0,β (k0+1),β (k0+2),β (k0+3),by rw [hx];rfl,bH.eI this c1,λh=>⟨k0,_,by simp,hE,by simp only [bD,h,if_true]⟩⟩
  have U':n+m<=1073741824:=by
   rw [bj.1,<-Nat.add_mul,Nat.mul_div_cancel _ c1]at A_;simp only [fj]at A_;omega
  obtain⟨b',kB,mM,w',p1,p2,p3,p4,p5⟩:=U3 (P:=G.P) (t:=t') (ty:=type) w hu hi uV rfl uy bj ((st.ev y).den J β) m (aq J β add) s1 s2 (uZ J β add) (by simp [maxLen];omega)
   (by
    have h1:(n+m)*i.bytes<=1073741824*131072:=Nat.mul_le_mul U' c3
    omega) nh
  refine⟨b',kB,n+m,mM,w', ?_,by rw [DD];exact .inl p2,p3,λk hk tU=>p4 k hk λh2 he => ?_,λh2 => ?_⟩
  ·simp [execOp,resolve,invoke,builtin,ex,ey,hv,p1,nz]
  ·obtain⟨j,e,j1,j2,j3⟩:=k_ h2;exact tU j e j1 j2 (by rw [j3,he])
  ·rcases p5 h2 with h3|⟨h3,rfl⟩
   ·exact .inl h3
   ·obtain⟨j,e,j1,j2,j3⟩:=k_ h3;exact .inr ⟨j,e,j1,j2,j3⟩
end Vc
set_option linter.unusedVariables false
namespace Vc
open Go Go.RowKit
variable {P:Program} {W:dR} {Q:Value->Prop} {QM QP:World->Value->Prop}
theorem Va{ce:CE}{ix:IE}{sz off:Nat}{cs:List At}{p:Nat}(h:gv ce ix sz off=some (cs,p)):dK ce=some cs:=by
 unfold gv at h;split at h
 ·rename_i j iK h1;simp only [Option.some.injEq,Prod.mk.injEq]at h;rw [<-h.1];exact h1
 ·cases h
theorem take_set{α:Type}(A V:List α)(p n L:Nat)(h1:p+n<=L)(h2:L<=A.length)(hv:V.length=n):(A.take p++V++A.drop (p+n)).take L=(A.take L).take p++V++(A.take L).drop (p+n):=by
 apply List.ext_getElem?;intro i;simp only [List.getElem?_take,List.getElem?_append,List.length_take,List.length_append,List.getElem?_drop,hv];have a1:min p A.length=p:=Nat.min_eq_left (by omega);have a2:min p (min L A.length)=p:=by omega
 simp only [a1,a2];by_cases hi:i<L
 ·rw [if_pos hi];by_cases hp:i<p+n
  ·rw [if_pos hp,if_pos hp];by_cases hq:i<p
   ·simp only [hq,if_true];rw [if_pos hi]
   ·simp only [hq,if_false]
  ·rw [if_neg hp,if_neg hp,if_pos (by omega)]
 ·rw [if_neg hi];have hp:¬i<p+n:=by omega
  rw [if_neg hp,if_neg (by omega)]
theorem Vb{m:Mem}{o:ba}{k0:Nat}{ce eY:CE}{sz:Nat}{el:TypeId}(hm:getM m k0=none)(h:aG o k0=some (ce,sz,el))(k:Nat):aE m (dw o k0 eY) k=if k0=k then some (.row eY sz el)else aE m o k:=by
 unfold aE;rw [A1];by_cases hk:k0=k
 ·subst hk;rw [if_pos rfl,if_pos rfl,hm,h];rfl
 ·rw [if_neg hk,if_neg hk]
theorem CX{st:St}{o:Oper}{U:Env}{k0:Nat}{ce eY:CE}{sz:Nat}{el:TypeId}{c:ar}(wf:st.WF)(hle:st.c.le c)(tU:c.nk=st.c.nk)(ji:aG st.o k0=some (ce,sz,el))(kz:k0∈aQ st o)(h3:bW c eY=true)
  (jG:∀x∈eY.flatMap cm,x∈cN st o∨x∈ce.flatMap cm)
  (h4:∀(β:Nat->Nat) (a:Act) (w:World),dD st o U β a->Holds W U β k0 (.row ce sz el) w ->
   ∃w',(execOp a.eval o).run P w=.ok .skip w'/\Holds W U β k0 (.row eY sz el) w'/\(w'.os=w.os/\w'.tape=w.tape/\w'.output=w.output/\w.heap.size<=w'.heap.size)/\(∀b,b<w.heap.size->bD β k0 (.row ce sz el)≠some b->w'.heap[b]? = w.heap[b]?))
  (h5:iA {st with o:=dw st.o k0 eY} o.dst .any c):gT P W st o U ({st with o:=dw st.o k0 eY}.bN o.dst .any c) .any [k0]:=by
 obtain⟨q1,q2,q3,q4,q5,q6⟩:=zz {st with o:=dw st.o k0 eY} o.dst .any c;have kA:=wf.ap k0 _ ji
 have hm:∀k,aE ({st with o:=dw st.o k0 eY}.bN o.dst .any c).m ({st with o:=dw st.o k0 eY}.bN o.dst .any c).o k=if k0=k then some (.row eY sz el)else aE st.m st.o k:=λk=>by
  rw [q2,q4];exact Vb kA ji k
 have oa:=(wf.o k0 ce sz el ji).1;have g:=wf.grow hle;refine⟨λhk=>by rw [(zn _ _ _ _).1];exact hk,(zn _ _ _ _).2,q3,q5,q6,by rw [q1];exact hle, ?_,λt'=>zo _ o.dst _ _ t',λd hd=>(h5 d hd).1,λk hk => ?_,λk _ hk => ?_,λk e' hk hg x hx => ?_,λβ a w hB ho hr _ next Q' hn => ?_⟩
 ·refine⟨λi => ?_,by rw [q2,q1];exact g.m,λk JJ JK t2 hg => ?_,λk x hk => ?_,by rw [q5,q1];exact g.r,by rw [q6,q1];exact g.d,by rw [(zn _ _ _ _).1,q1];exact g.k,by rw [(zn _ _ _ _).2,q1];exact g.df⟩
  ·rw [zo,q1];by_cases hd:o.dst=some i
   ·rw [if_pos hd];rfl
   ·rw [if_neg hd];exact g.t i
  ·rw [q4,A1]at hg;rw [q1];by_cases hk:k0=k
   ·subst hk;rw [if_pos rfl,ji]at hg;simp only [Option.map_some,Option.some.injEq,Prod.mk.injEq]at hg;obtain⟨rfl,rfl,rfl⟩:=hg;exact⟨by omega,h3⟩
   ·rw [if_neg hk]at hg;exact g.o k JJ JK t2 hg
  ·rw [q4,A1]at hk;rw [q2];by_cases cC:k0=k
   ·subst cC;exact kA
   ·rw [if_neg cC]at hk;exact wf.ap k x hk
 ·simp only [List.mem_singleton]at hk;subst hk;exact⟨kz,by omega⟩
 ·rw [hm,if_neg (λe=>hk (by simp [e]))]
 ·rw [hm]at hg;by_cases cC:k0=k
  ·rw [if_pos cC]at hg;cases hg;rcases jG x hx with h|h
   ·exact .inl h
   ·exact .inr ⟨k0,_,List.mem_append.2 (.inr kz),kt kA ji,h⟩
  ·rw [if_neg cC]at hg;rcases hk with hk|hk
   ·simp only [List.mem_singleton]at hk;exact (cC hk.symm).elim
   ·rw [wf.beyond hk]at hg;cases hg
 ·have hold:=hr k0 (List.mem_append.2 (.inr kz)) _ (kt kA ji);obtain⟨w',r1,r2,⟨r3,r4,r5,r6⟩,r7⟩:=h4 β a w ho hold;unfold Oper.wp;rw [r1,Oper.upon_skip];refine hn β _ _ (λh=>(h rfl).elim) ⟨r3,r4,r5,r6,λb hb qq=>r7 b hb (qq k0 _ (by simp) (kt kA ji)),λ_ _=>rfl,λk e' hk hg => ?_,λk k' e e' _ hk gi hg ep _ _ => ?_⟩
  ·rw [hm]at hg;by_cases cC:k0=k
   ·rw [if_pos cC]at hg;cases hg;subst cC;exact⟨r2,λb hb=>.inr ⟨k0,_,by simp,kt kA ji,hb,.inl rfl⟩⟩
   ·rw [if_neg cC]at hg;rcases hk with hk|hk
    ·simp only [List.mem_singleton]at hk;exact (cC hk.symm).elim
    ·rw [wf.beyond hk]at hg;cases hg
  ·have one:∀{k e},(k ∈ [k0]∨st.c.nk<=k)->aE ({st with o:=dw st.o k0 eY}.bN o.dst .any c).m ({st with o:=dw st.o k0 eY}.bN o.dst .any c).o k=some e->k=k0:=by
    intro k e hk hg;rcases hk with hk|hk
    ·simpa using hk
    ·rw [hm,if_neg (by omega),wf.beyond hk]at hg;cases hg
   rw [one hk hg,one gi ep]
theorem QX{lo:Nat->Prop}{w:World}{z:Array Value}{n c sz:Nat}{el:TypeId}(hs:0<sz)(hz:z.size=sz)(nh:lo w.heap.size)(hc:c<=maxLen)(hn:n=0∨n=c) :
  fV lo w.heap.size (c+1) n 0 (times z.toList n) sz el (w.alloc (.cells (madeCells z (c*sz)) el)):=by
 refine⟨by rw [G2];simp [hz],hs, ?_⟩;by_cases h0:c=0
 ·exact .inl ⟨by omega,by omega⟩
 ·refine .inr ⟨by omega,rfl,nh,by omega,by simpa using hc,madeCells z (c*sz),heap_alloc_new w _,by simp [size_madeCells], ?_⟩
  have mO:madeCells z (c*sz)=(times z.toList c).toArray:=by
   rw [<-hz];exact Qw z c (by omega)
  rw [mO];rcases hn with rfl|rfl
  ·simp [times]
  ·have:(times z.toList n).length=n*sz:=by rw [G2];simp [hz]
   rw [<-this,List.take_length]
theorem JW{s:Sem Value}{w w':World}{v:Value}(h:s.run P w=.ok v w'):((do pure (Next.value (<-s))):Sem Next).run P w=.ok (.value v) w':=by
 simp [h]
theorem G9(l:List Value)(H:∀x:{x // x∈l},x.1.oneCell'=true):(l.attach.map λx=>(⟨x.1,H x⟩:OV)).map (λy:OV=>y.1)=l:=by
 rw [List.map_map];exact List.attach_map_subtype_val l
theorem Vd{s d e:TypeId}(h:fU P s d=some e):P.underlying s=some .string/\P.underlying d=some (.slice e)/\P.underlying e=some (.int .u8):=by
 unfold fU at h;split at h
 ·rename_i h1 h2;split at h
  ·rename_i h3;simp only [Option.some.injEq]at h;subst h;exact⟨h1,h2,h3⟩
  ·cases h
 ·cases h
theorem Ve(l:List UInt8):aF (mv l)=[]:=by
 induction l with
 |nil=>rfl
 |cons b l ih=>simpa [mv,aF]using ih
theorem Vf(U:Env)(β:Nat->Nat)(l:List UInt8):(mv l).map (At.den U β)=l.map CB:=by
 simp only [mv,List.map_map];rfl
theorem QY{c:ar}:∀{ce:CE} {cs:List At},dK ce=some cs->bW c ce=true->cs.all (At.wf c)=true/\∀y∈aF cs,y∈ce.flatMap cm
  | [],cs,h,_=>by simp only [dK,Option.some.injEq]at h;subst h;exact⟨rfl,λy hy=>by cases hy⟩
  | .var j::r,cs,h,_=>by simp [dK]at h
  | .bT l::r,cs,h,hw=>by
    simp only [dK,Option.map_eq_some_iff]at h;obtain⟨l',h1,rfl⟩:=h;simp only [bW,List.all_cons,Bool.and_eq_true]at hw;obtain⟨i1,i2⟩:=QY h1 (show bW c r=true from hw.2);have hl:l.all (At.wf c)=true:=hw.1;refine⟨by rw [List.all_append,hl,i1];rfl,λy hy => ?_⟩;rw [zd]at hy;rw [List.flatMap_cons];rcases List.mem_append.1 hy with hy|hy
    · exact List.mem_append.2 (.inl hy)
    · exact List.mem_append.2 (.inr (i2 y hy))
theorem QZ{G:bF}{st:St}{o:Oper}{K:St->Env->Prop}{U:Env}(wf:st.WF){t:TypeId}{m k v:Operand}(ho:o.op=.mapUpdate t m k v∨o.op=.insert t m k v)
    (h:kp (PA G.P W Q QM QP) G st o.dst t (st.ev m) (st.ev k) (st.ev v) K U):pL G.P W st o K U:=by
  unfold kp at h;generalize hx:eU G.P t=u1 at h;generalize hm:st.ev m=sm at h;generalize hk:st.ev k=sk at h;generalize hv:st.ev v=sv at h;split at h;rotate_left
  · exact h.elim
  rename_i x j kv vv;generalize hg:aG st.o j=u2 at h;split at h;rotate_left
  · exact h.elim
  rename_i ce sz tc;generalize qo:dK ce=u4 at h;split at h;rotate_left
  · clear qo;split at h;rotate_left
    · exact h.elim
    rename_i hc;obtain⟨c1,c2,rfl,rfl,c5,c6⟩:=hc;obtain⟨g1,g2,g3,g4,g5,aR,h1,nC,nD⟩:=Qh h;obtain⟨m1,m2,m3,m4,m5,m6,m7,m8⟩:=vA hx;have eJ:st.c.le {st.c with ni:=st.c.ni+1}:=ar.sq st.c 1;have GZ:bW {st.c with ni:=st.c.ni+1} ce=true:=AE eJ g4;have wk:kv.wf st.c=true:=by have:=wf.ev k;rw [hk]at this;exact this
    have wv:vv.wf st.c=true:=by have:=wf.ev v;rw [hv]at this;exact this
    have kz:j∈aQ st o:=by rcases ho with ho|ho<;>simp [aQ,ho,hm,aM,CV.cells,az]
    have G_:cN st o=aF kv.cells++aF vv.cells:=by rcases ho with ho|ho<;>simp [cN,ho,hk,hv,d_]
    have run:∀ (J:Env),Env.ay {st.c with ni:=st.c.ni + 1} aR J->∀ (β:Nat->Nat) (a:Act) (w:World) (eY:CE),dD st o J β a->Holds W J β j (.row ce 0 x.no) w ->
        aq J β eY=(match cg x.ks.length (x.ks.length+x.ne) (kv.cells.map (At.den J β)) (aq J β ce).length (aq J β ce)with
          |some i=>(aq J β ce).take (i*(x.ks.length+x.ne)+x.ks.length)++vv.cells.map (At.den J β)++(aq J β ce).drop (i*(x.ks.length+x.ne)+x.ks.length+x.ne)
          |none=>aq J β ce++(kv.cells.map (At.den J β)++vv.cells.map (At.den J β))) ->
        ∃w',(execOp a.eval o).run G.P w=.ok .skip w'/\Holds W J β j (.row eY 0 x.no) w'/\(w'.os=w.os/\w'.tape=w.tape/\w'.output=w.output/\w.heap.size<=w'.heap.size)/\(∀b,b<w.heap.size->bD β j (.row ce 0 x.no)≠some b->w'.heap[b]? = w.heap[b]?):=by
      intro J hl β a w eY bh bj mP;have e1:=bh m (by rcases ho with ho|ho<;>rw [ho]<;>simp [Op.operands]) (by rw [hm];simp);have e2:=bh k (by rcases ho with ho|ho<;>rw [ho]<;>simp [Op.operands]) (by rw [hk];simp);have e3:=bh v (by rcases ho with ho|ho<;>rw [ho]<;>simp [Op.operands]) (by rw [hv];simp);rw [hm]at e1;rw [hk]at e2;rw [hv]at e3;have A6:a.eval m=.map (some (β j)):=e1;have A7:a.eval k=kv.den J β:=e2;have JX:a.eval v=vv.den J β:=e3;rcases bj with bj|⟨_,own,code,JY⟩
      · exact absurd bj.2.1 (by omega)
      obtain⟨es,clock,hb,fP,fM⟩:=(xW hx).1 JY;obtain⟨k1,k2⟩:=D6 hx c1 J β
      have hlen:es.toList.length<=(aq J β ce).length:=by
        rw [<-fP,D5 es.toList fM];exact Nat.le_mul_of_pos_right _ (by omega)
      obtain⟨f1,f2⟩:=Ji hx g1 (w:=w) k1 es.toList _ 0 hlen fM (by rw [fP];exact (nD J hl β).1);rw [fP]at f1 f2;generalize vD:cg x.ks.length (x.ks.length+x.ne) (kv.cells.map (At.den J β)) (aq J β ce).length (aq J β ce)=r0 at f1 f2 mP
      have A':=Qe hx hb (vv:=vv.den J β) k1 k2 f1 (λi v' hr=>by
        simp only [Option.map_eq_some_iff,Prod.mk.injEq,Nat.zero_add]at hr;obtain⟨j0,D9,rfl,_⟩:=hr;exact f2 _ D9)
      obtain⟨Eo,_⟩:=CQ c1 J β;obtain⟨Ep,_⟩:=CQ c2 J β;have cn:β j<w.heap.size:=bM hb
      have fin:∀ (sT:Array MapEntry) (ig:Nat),(Instr.mapUpdate t (.map (some (β j))) (kv.den J β) (vv.den J β)).run G.P w=.ok () {w with heap:=w.heap.setIfInBounds (β j) (.map sT ig)} ->
          sT.toList.flatMap aC=aq J β eY->(∀e∈sT.toList,dj (cK x.gk x.ks.length) e.key/\dj (cK x.ge x.ne) e.val) ->
          ∃w',(execOp a.eval o).run G.P w=.ok .skip w'/\Holds W J β j (.row eY 0 x.no) w'/\(w'.os=w.os/\w'.tape=w.tape/\w'.output=w.output/\w.heap.size<=w'.heap.size)/\(∀b,b<w.heap.size->bD β j (.row ce 0 x.no)≠some b->w'.heap[b]? = w.heap[b]?):=by
        intro sT ig gS mO Ba;refine⟨{w with heap:=w.heap.setIfInBounds (β j) (.map sT ig)}, ?_,.inr ⟨rfl,own,code,(xW hx).2 ⟨sT,ig, ?_,mO,Ba⟩⟩,⟨rfl,rfl,rfl,by simp⟩,λb gg qq => ?_⟩
        · rcases ho with ho|ho<;>simp only [execOp,ho,A6,A7,JX,Sem.run_bind,gS,Result.andThen_ok,Sem.run_pure]
        · simp [cn]
        · have cW:β j≠b:=λhe=>qq (by simp only [bD,code,if_true,he]);exact Array.getElem?_setIfInBounds_ne cW
      cases r0 with
      |none =>
        simp only at mP;refine fin _ _ A' ?_ λe he => ?_
        · rw [mP];simp only [Array.toList_push,List.flatMap_append,fP,List.flatMap_cons,List.flatMap_nil,List.append_nil,aC,CV.bp]
        · simp only [Array.toList_push,List.mem_append,List.mem_singleton]at he;rcases he with he|rfl
          · exact fM e he
          · exact⟨Eo,Ep⟩
      |some i =>
        obtain⟨e,q1,q2,q3⟩:=f2 i rfl;simp only at mP;simp only [Option.map_some,Nat.zero_add]at A';refine fin _ _ A' ?_ λe' he => ?_
        · rw [mP,Array.toList_modify,Jg es.toList i q1 q2 fM,fP,CV.bp]
        · rw [Array.toList_modify]at he;obtain⟨n,hn⟩:=List.mem_iff_getElem?.1 he;rw [List.getElem?_modify]at hn;simp only [Option.map_eq_map,Option.map_eq_some_iff]at hn;obtain⟨e0,h0,rfl⟩:=hn
          have:=fM e0 (List.mem_of_getElem? h0)
          split
          · exact⟨Eo,Ep⟩
          · exact this
    have Bb:vv.cells.length=x.ne:=(CQ c2 U b0).2;have GW:(IE.var st.c.ni).wf {st.c with ni:=st.c.ni+1}=true:=by show decide (st.c.ni<st.c.ni+1)=true;simp
    rcases zw h1 with ⟨e1,h1⟩|⟨e1,h1⟩
    ·
      have tV:∀v∈(LP.set ce (IE.var st.c.ni) (x.ks.length+x.ne) x.ks.length vv.cells).den aR,v.oneCell'=true:=λv hv=>by
        simp only [LP.den,List.mem_append]at hv;rcases hv with (hv|hv)|hv
        · exact uZ _ _ _ _ (List.mem_of_mem_take hv)
        · obtain⟨a,_,rfl⟩:=List.mem_map.1 hv;exact At.gp _ _ _
        · exact uZ _ _ _ _ (List.mem_of_mem_drop hv)
      have hL:=h1 (((LP.set ce (IE.var st.c.ni) (x.ks.length+x.ne) x.ks.length vv.cells).den aR).attach.map λy=>(⟨y.1,tV y.1 y.2⟩:OV)) (G9 _ λx=>tV x.1 x.2);generalize Vg:(((LP.set ce (IE.var st.c.ni) (x.ks.length+x.ne) x.ks.length vv.cells).den aR).attach.map λy=>(⟨y.1,tV y.1 y.2⟩:OV))=L at hL;have Vi:L.map (·.1)=(LP.set ce (IE.var st.c.ni) (x.ks.length+x.ne) x.ks.length vv.cells).den aR:=by rw [<-Vg];exact G9 _ λx=>tV x.1 x.2
      obtain⟨p1,p2⟩:=zh hL;have gw:=(zz {st with o:=dw st.o j [.var st.c.nl]} o.dst .any {st.c with ni:=st.c.ni+1,nl:=st.c.nl+1}).1;have mN:ar.le {st.c with ni:=st.c.ni+1} {st.c with ni:=st.c.ni+1,nl:=st.c.nl+1}:=ar.pV {st.c with ni:=st.c.ni+1} 1;refine⟨_,aR.jU st.c.nl L,.any,[j],p1,by rw [gw];exact ar.le_trans eJ mN,Env.ah eJ nC (sP {st.c with ni:=st.c.ni+1} aR L),λJ cX => ?_⟩;rw [gw]at cX;have vN:Env.ay {st.c with ni:=st.c.ni+1} aR J:=Env.ah mN (sP {st.c with ni:=st.c.ni+1} aR L) cX;refine CX wf (ar.le_trans eJ mN) rfl hg kz ?_ (λy eZ => ?_) (λβ a w bh bj=>run J vN β a w _ bh bj ?_) p2
      · simp [bW,Sg.wf]
      · simp [cm]at eZ
      · have fX:J.l st.c.nl=L:=by
          have:=cX.l st.c.nl (by show st.c.nl<st.c.nl+1;omega)
          rw [this];simp [Env.jU]
        have gJ:=(nD J vN β).2;have e0:(IE.var st.c.ni).den J=(IE.var st.c.ni).den aR:=IE.aa vN GW
        have kU:0<=(IE.var st.c.ni).den J:=by
          rw [e0];simpa [BE.den,gD,IE.den]using e1
        unfold fC at gJ;cases vD:cg x.ks.length (x.ks.length+x.ne) (kv.cells.map (At.den J β)) (aq J β ce).length (aq J β ce)with
        |none=>rw [vD]at gJ;simp only at gJ;omega
        |some i =>
          rw [vD]at gJ;simp only at gJ;have Er:((IE.var st.c.ni).den aR).toNat=i:=by rw [<-e0,gJ];rfl
          have q1:aq aR b0 ce=aq J β ce:=by rw [AV aR b0 β g2,uz (β:=β) (ak:=β) vN (λ_ _=>rfl) GZ]
          have q2:vv.cells.map (At.den aR b0)=vv.cells.map (At.den J β):=by
            have JZ:vv.cells.all At.flat=true:=by
              cases vv with
              |one a=>simpa [CV.cells,CV.flat]using c5
              |agg l=>exact c5
            rw [CI aR b0 β JZ,xF (β:=β) (ak:=β) vN (λ_ _=>rfl) (List.all_eq_true.2 λy hy=>At.aL eJ (List.all_eq_true.1 (CV.dk wv) y hy))]
          simp only [aq,Sg.den,List.append_nil,fX,Vi,LP.den,q1,q2,Er,Bb]
    ·
      obtain⟨p1,p2⟩:=zh h1;have gw:=(zz {st with o:=dw st.o j (cF ce [.bT (kv.cells++vv.cells)])} o.dst .any {st.c with ni:=st.c.ni+1}).1;refine⟨_,aR,.any,[j],p1,by rw [gw];exact eJ,nC,λJ cX => ?_⟩;rw [gw]at cX;refine CX wf eJ rfl hg kz ?_ (λy eZ => ?_) (λβ a w bh bj=>run J cX β a w _ bh bj ?_) p2
      · refine Ir _ _ _ GZ ?_;simp only [bW,List.all_cons,List.all_nil,Bool.and_true,Sg.wf,List.all_append];rw [List.all_eq_true.2 λy hy=>At.aL eJ (List.all_eq_true.1 (CV.dk wk) y hy),List.all_eq_true.2 λy hy=>At.aL eJ (List.all_eq_true.1 (CV.dk wv) y hy)];rfl
      · rcases Em _ _ eZ with eZ|eZ
        · exact .inr eZ
        · simp only [List.flatMap_cons,cm,List.flatMap_nil,List.append_nil,zd]at eZ;rw [G_];exact .inl eZ
      · have gJ:=(nD J cX β).2;have e0:(IE.var st.c.ni).den J=(IE.var st.c.ni).den aR:=IE.aa cX GW
        have kU:¬0<=(IE.var st.c.ni).den J:=by
          rw [e0];simpa [BE.den,gD,IE.den]using e1
        unfold fC at gJ;cases vD:cg x.ks.length (x.ks.length+x.ne) (kv.cells.map (At.den J β)) (aq J β ce).length (aq J β ce)with
        |some i=>rw [vD]at gJ;simp only at gJ;omega
        |none=>simp only [DD,aq,Sg.den,List.append_nil,List.map_append]
  rename_i cs;split at h;rotate_left
  · exact h.elim
  rename_i hc;obtain⟨c1,c2,rfl,rfl⟩:=hc;obtain⟨r,h1,h2⟩:=Je hx _ _ _ h;have wk:kv.wf st.c=true:=by have:=wf.ev k;rw [hk]at this;exact this
  have wv:vv.wf st.c=true:=by have:=wf.ev v;rw [hv]at this;exact this
  have kz:j∈aQ st o:=by rcases ho with ho|ho<;>simp [aQ,ho,hm,aM,CV.cells,az]
  have G_:cN st o=aF kv.cells++aF vv.cells:=by rcases ho with ho|ho<;>simp [cN,ho,hk,hv,d_]
  obtain⟨Es,J0⟩:=QY qo (wf.o j ce _ _ hg).2
  have run:∀ (J:Env),Env.ay st.c U J->∀ (β:Nat->Nat) (a:Act) (w:World) (eY:CE),dD st o J β a->Holds W J β j (.row ce 0 x.no) w ->
      aq J β eY=(match r with
        |some (i,_)=>(cs.map (At.den J β)).take (i*(x.ks.length+x.ne)+x.ks.length)++vv.cells.map (At.den J β)++(cs.map (At.den J β)).drop (i*(x.ks.length+x.ne)+x.ks.length+x.ne)
        |none=>cs.map (At.den J β)++(kv.cells.map (At.den J β)++vv.cells.map (At.den J β))) ->
      ∃w',(execOp a.eval o).run G.P w=.ok .skip w'/\Holds W J β j (.row eY 0 x.no) w'/\(w'.os=w.os/\w'.tape=w.tape/\w'.output=w.output/\w.heap.size<=w'.heap.size)/\(∀b,b<w.heap.size->bD β j (.row ce 0 x.no)≠some b->w'.heap[b]? = w.heap[b]?):=by
    intro J hl β a w eY bh bj mP;have e1:=bh m (by rcases ho with ho|ho<;>rw [ho]<;>simp [Op.operands]) (by rw [hm];simp);have e2:=bh k (by rcases ho with ho|ho<;>rw [ho]<;>simp [Op.operands]) (by rw [hk];simp);have e3:=bh v (by rcases ho with ho|ho<;>rw [ho]<;>simp [Op.operands]) (by rw [hv];simp);rw [hm]at e1;rw [hk]at e2;rw [hv]at e3;have A6:a.eval m=.map (some (β j)):=e1;have A7:a.eval k=kv.den J β:=e2;have JX:a.eval v=vv.den J β:=e3;rcases bj with bj|⟨_,own,code,JY⟩
    · exact absurd bj.2.1 (by omega)
    obtain⟨es,clock,hb,fP,fM⟩:=(xW hx).1 JY;rw [DE J β qo]at fP;obtain⟨k1,k2⟩:=D6 hx c1 J β;obtain⟨f1,f2⟩:=h2 J hl β w _ es.toList k1 fP fM
    have A':=Qe hx hb (vv:=vv.den J β) k1 k2 f1 (λi v' hr=>by
      cases r with
      |none=>cases hr
      |some q =>
        simp only [Option.map_some,Option.some.injEq,Prod.mk.injEq,Nat.zero_add]at hr;obtain⟨rfl,_⟩:=hr;exact f2 q.1 q.2 rfl)
    obtain⟨Eo,_⟩:=CQ c1 J β;obtain⟨Ep,_⟩:=CQ c2 J β;have cn:β j<w.heap.size:=bM hb
    have fin:∀ (sT:Array MapEntry) (ig:Nat),(Instr.mapUpdate t (.map (some (β j))) (kv.den J β) (vv.den J β)).run G.P w=.ok () {w with heap:=w.heap.setIfInBounds (β j) (.map sT ig)} ->
        sT.toList.flatMap aC=aq J β eY->(∀e∈sT.toList,dj (cK x.gk x.ks.length) e.key/\dj (cK x.ge x.ne) e.val) ->
        ∃w',(execOp a.eval o).run G.P w=.ok .skip w'/\Holds W J β j (.row eY 0 x.no) w'/\(w'.os=w.os/\w'.tape=w.tape/\w'.output=w.output/\w.heap.size<=w'.heap.size)/\(∀b,b<w.heap.size->bD β j (.row ce 0 x.no)≠some b->w'.heap[b]? = w.heap[b]?):=by
      intro sT ig gS mO Ba;refine⟨{w with heap:=w.heap.setIfInBounds (β j) (.map sT ig)}, ?_,.inr ⟨rfl,own,code,(xW hx).2 ⟨sT,ig, ?_,mO,Ba⟩⟩,⟨rfl,rfl,rfl,by simp⟩,λb gg qq => ?_⟩
      · rcases ho with ho|ho<;>simp only [execOp,ho,A6,A7,JX,Sem.run_bind,gS,Result.andThen_ok,Sem.run_pure]
      · simp [cn]
      · have cW:β j≠b:=λhe=>qq (by simp only [bD,code,if_true,he]);exact Array.getElem?_setIfInBounds_ne cW
    cases r with
    |none =>
      refine fin _ _ A' ?_ λe he => ?_
      · rw [mP];simp only [Array.toList_push,List.flatMap_append,fP,List.flatMap_cons,List.flatMap_nil,List.append_nil,aC,CV.bp]
      · simp only [Array.toList_push,List.mem_append,List.mem_singleton]at he;rcases he with he|rfl
        · exact fM e he
        · exact⟨Eo,Ep⟩
    |some q =>
      obtain⟨i,vs⟩:=q;obtain⟨e,g1,g2,g3⟩:=f2 i vs rfl;simp only [Option.map_some,Nat.zero_add]at A';refine fin _ _ A' ?_ λe' he => ?_
      · rw [mP,Array.toList_modify,Jg es.toList i g1 g2 fM,fP,CV.bp]
      · rw [Array.toList_modify]at he;obtain⟨n,hn⟩:=List.mem_iff_getElem?.1 he;rw [List.getElem?_modify]at hn;simp only [Option.map_eq_map,Option.map_eq_some_iff]at hn;obtain⟨e0,h0,rfl⟩:=hn
        have:=fM e0 (List.mem_of_getElem? h0)
        split
        · exact⟨Eo,Ep⟩
        · exact this
  cases r with
  |none =>
    obtain⟨p1,p2⟩:=zh h1;have gw:=(zz {st with o:=dw st.o j [.bT (cs++(kv.cells++vv.cells))]} o.dst .any st.c).1;refine⟨_,U,.any,[j],p1,by rw [gw];exact ar.le_refl _,Env.an _ _,λJ cX => ?_⟩;rw [gw]at cX;refine CX wf (ar.le_refl _) rfl hg kz ?_ (λy eZ => ?_) (λβ a w bh bj=>run J cX β a w _ bh bj ?_) p2
    · simp only [bW,List.all_cons,List.all_nil,Bool.and_true,Sg.wf,List.all_append,Es,CV.dk wk,CV.dk wv,Bool.and_self]
    · simp only [List.flatMap_cons,cm,List.flatMap_nil,List.append_nil,zd]at eZ;rw [G_];rcases List.mem_append.1 eZ with eZ|eZ
      · exact .inr (J0 y eZ)
      · exact .inl eZ
    · simp only [aq,Sg.den,List.append_nil,List.map_append]
  |some q =>
    obtain⟨i,vs⟩:=q;simp only [Nat.zero_add]at h1;obtain⟨p1,p2⟩:=zh h1;have gw:=(zz {st with o:=dw st.o j [.bT (cs.take (i*(x.ks.length+x.ne)+x.ks.length)++vv.cells++cs.drop (i*(x.ks.length+x.ne)+x.ks.length+x.ne))]} o.dst .any st.c).1;refine⟨_,U,.any,[j],p1,by rw [gw];exact ar.le_refl _,Env.an _ _,λJ cX => ?_⟩;rw [gw]at cX;refine CX wf (ar.le_refl _) rfl hg kz ?_ (λy eZ => ?_) (λβ a w bh bj=>run J cX β a w _ bh bj ?_) p2
    · simp only [bW,List.all_cons,List.all_nil,Bool.and_true,Sg.wf,List.all_append,(zu Es _).1,(zu Es (i*(x.ks.length+x.ne)+x.ks.length+x.ne)).2,CV.dk wv,Bool.and_self]
    · simp only [List.flatMap_cons,cm,List.flatMap_nil,List.append_nil,zd]at eZ;rw [G_];rcases List.mem_append.1 eZ with eZ|eZ
      · rcases List.mem_append.1 eZ with eZ|eZ
        · exact .inr (J0 y (A4 _ _ eZ))
        · exact .inl (List.mem_append.2 (.inr eZ))
      · exact .inr (J0 y (A5 _ _ eZ))
    · simp only [aq,Sg.den,List.append_nil,List.map_append,List.map_take,List.map_drop]
theorem Vj{G:bF}(hG:G.Ok){st:St}{o:Oper}{K:St->Env->Prop}{U:Env}(wf:st.WF){g:Operand}{args:Array Operand}{bT:Array TypeId}(ho:o.op=.call ⟨.value g,args,bT⟩){f:FuncId}(hg:st.ev g=.cv (.one (.fn f [])))
  (h:rE (PA G.P W Q QM QP) G st o.dst f (args.toList.map st.ev) K U):pL G.P W st o K U:=by
 unfold rE at h;generalize cf:args.toList.map st.ev=all at h;split at h;rotate_left
 ·exact h.elim
 rename_i k ik k2 off n cp;generalize iJ:aG st.o k=u1 at h;generalize sS:getM st.m k2=u2 at h;split at h;rotate_left
 ·exact h.elim
 rename_i ce sz t cs t2;split at h;rotate_left
 ·exact h.elim
 rename_i hc;obtain⟨c1,c2,c3,c4⟩:=hc;obtain⟨h1,h⟩:=h;unfold St.gP at h;split at h;rotate_left
 ·exact h.elim
 rename_i qt;obtain⟨p1,p2⟩:=zh h;have gw:=(zz {st with o:=(st.c.nk,cF [.bT ((cs.drop off).take (n*sz))] ce,sz,t)::bL st.o [k]} o.dst (.cv (.one (rowAt 0 st.c.nk))) {st.c with nk:=st.c.nk+4}).1;refine⟨_,U,.cv (.one (rowAt 0 st.c.nk)),[k],p1,by rw [gw];exact ar.jV st.c 4,Env.an _ _,λJ hl => ?_⟩;rw [gw]at hl;have qV:Env.ay st.c U J:=⟨hl.i,hl.b,hl.v,hl.p,hl.s,hl.l⟩
 have Et:aU st o=az (cj st.m st.o (SV.cv (.one (.own k))::SV.cv (.one (.int ik (.lit 0)))::SV.cv (.one (.ga k2 off n cp)) :: [])):=by
  simp only [aU,ho,hg,List.map_nil,List.append_nil,cf]
 have vK:aQ st o=dZ (SV.cv (.one (.own k))::SV.cv (.one (.int ik (.lit 0)))::SV.cv (.one (.ga k2 off n cp)) :: []):=by
  simp only [aQ,ho,hg,List.map_nil,List.append_nil,cf]
 have vE:k∈aQ st o:=by rw [vK];exact JQ (j:=0) rfl
 have jk:k2∈aU st o:=by
  rw [Et];simp [cj,deep,az,aM,CV.cells]
 have G':=kt (wf.ap k _ iJ) iJ;refine G6 0 wf (ar.le_refl _) rfl qt (λj hj => ?_) (λx hx=>.inr ?_) (λβ a w hB bh dC next Q' hn => ?_) p2
 ·simp only [List.mem_singleton]at hj;subst hj;exact⟨vE,by rw [iJ];rfl⟩
 ·simp only [dS]at hx;rcases Em _ _ hx with hx|hx
  ·simp only [List.flatMap_cons,cm,List.flatMap_nil,List.append_nil]at hx;exact⟨k2,_,List.mem_append.2 (.inl jk),n_ sS,A5 _ _ (A4 _ _ hx)⟩
  ·exact⟨k,_,List.mem_append.2 (.inr vE),G',hx⟩
 ·have eu:(SV.cv (.one (.own k))::SV.cv (.one (.int ik (.lit 0)))::SV.cv (.one (.ga k2 off n cp)) :: []).map (SV.den J β)=(SV.cv (.one (.own k))::SV.cv (.one (.int ik (.lit 0)))::SV.cv (.one (.ga k2 off n cp)) :: []).map (SV.den U β) :=
   List.map_congr_left λx hx=>SV.aa qV (λ_ _=>rfl) (List.all_eq_true.1 c3 x hx)
  have eg:=bh g (by rw [ho];simp [Op.operands,Call.operands]) (by rw [hg];simp);rw [hg]at eg;have xZ:a.eval g=.func (.func f) #[] #[]:=eg
  have ea:(args.map a.eval).toList=(args.toList.map st.ev).map (SV.den J β):=by
   rw [Array.toList_map]
   exact zt _ λx hx=>bh x (by rw [ho];simp only [Op.operands,Call.operands];exact Array.mem_append.2 (.inr (Array.mem_toList_iff.1 hx))) (by
    have:st.ev x∈args.toList.map st.ev:=List.mem_map.2 ⟨x,hx,rfl⟩
    rw [cf]at this;simp only [List.mem_cons,List.not_mem_nil,or_false]at this;rcases this with h|h|h<;>rw [h]<;>simp)
  rw [cf]at ea
  have ec:(#[]:Array Value)++args.map a.eval ++ #[]=((SV.cv (.one (.own k))::SV.cv (.one (.int ik (.lit 0)))::SV.cv (.one (.ga k2 off n cp)) :: []).map (SV.den J β)).toArray:=by
   apply Array.ext';rw [Array.toList_append,Array.toList_append,ea];simp
  have hx:(execOp a.eval o).run G.P w=(callFunc f ((SV.cv (.one (.own k))::SV.cv (.one (.int ik (.lit 0)))::SV.cv (.one (.ga k2 off n cp)) :: []).map (SV.den J β)).toArray).run G.P w:=by
   simp only [execOp,ho,resolve,xZ,Deferred.ofValue,Sem.run_bind,Sem.run_pure,Result.andThen_ok,invoke];rw [<-ec]
  have bj:=dC k (List.mem_append.2 (.inr vE)) _ G';unfold Oper.wp;rw [hx,hG.calls f c4 _ w,Oper.upon_enter,eu];refine (h1 β w hB ?_).mono λe w' he => ?_
  ·exact AW wf.ap qV (λq cs t hq=>(wf.m q cs t hq).2) (λq ce sz t hq=>(wf.o q ce sz t hq).2) _ λq hq=>dC q (List.mem_append.2 (.inl (by rw [Et];exact hq)))
  ·obtain⟨b,code,n',base,rfl,q1,q2,q3,q4⟩:=he;refine hn b code n' base w' ?_ q2 (λx hx JV=>q3 x hx λh2 he=>JV k _ (by simp) G' (by simp only [bD,h2,if_true,he])) λh2 => ?_
   ·rw [uz qV (λ_ _=>rfl) qt];refine q1.imp λh2 _ => ?_;rcases q4 h2 with h|⟨h,rfl⟩
    ·exact ek.mk (.inr (Nat.le_trans hB.size h))
    ·exact bH.own bj h
   ·rcases q4 h2 with h|⟨h,rfl⟩
    ·exact .inl h
    ·exact .inr ⟨k,_,by simp,G',by simp only [bD,h,if_true]⟩
theorem Vk{G:bF}(hG:G.Ok){st:St}{o:Oper}{K:St->Env->Prop}{U:Env}(wf:st.WF){g:Operand}{args:Array Operand}{bT:Array TypeId}(ho:o.op=.call ⟨.value g,args,bT⟩){f:FuncId}(hg:st.ev g=.cv (.one (.fn f []))){el:TypeId}
  (h:rF (PA G.P W Q QM QP) G st o.dst f (args.toList.map st.ev) el K U):pL G.P W st o K U:=by
 unfold rF at h;generalize cf:args.toList.map st.ev=all at h;generalize hi:G.P.info? el=inf at h;split at h;rotate_left
 ·exact h.elim
 rename_i ik e i;split at h;rotate_left
 ·exact h.elim
 rename_i hc;obtain⟨c1,c3,c4⟩:=hc;obtain⟨h1,h⟩:=h;unfold St.gP at h;split at h;rotate_left
 ·exact h.elim
 rename_i qt;obtain⟨p1,p2⟩:=zh h;have gw:=(zz {st with o:=(st.c.nk,[],i.size,el)::bL st.o []} o.dst (.cv (.one (rowAt 0 st.c.nk))) {st.c with nk:=st.c.nk+4}).1;refine⟨_,U,.cv (.one (rowAt 0 st.c.nk)),[],p1,by rw [gw];exact ar.jV st.c 4,Env.an _ _,λJ hl => ?_⟩;rw [gw]at hl;have qV:Env.ay st.c U J:=⟨hl.i,hl.b,hl.v,hl.p,hl.s,hl.l⟩;refine G6 0 wf (ar.le_refl _) rfl qt (λj hj=>by cases hj) (λx hx => ?_) (λβ a w hB bh dC next Q' hn => ?_) p2
 ·simp [dS,cm]at hx
 ·have qq:∀k,k<st.c.nk->(λj=>if j=st.c.nk+1 then 0 else β j) k=β k:=λk hk=>if_neg (by omega)
  have eu:[SV.cv (.one .cS),.cv (.one (.int ik e))].map (SV.den J β)=[SV.cv (.one .cS),.cv (.one (.int ik e))].map (SV.den U λj=>if j=st.c.nk+1 then 0 else β j) :=
   List.map_congr_left λx hx=>SV.aa qV (λk hk=>(qq k hk).symm) (List.all_eq_true.1 c3 x hx)
  have eg:=bh g (by rw [ho];simp [Op.operands,Call.operands]) (by rw [hg];simp);rw [hg]at eg;have xZ:a.eval g=.func (.func f) #[] #[]:=eg
  have ea:(args.map a.eval).toList=(args.toList.map st.ev).map (SV.den J β):=by
   rw [Array.toList_map]
   exact zt _ λx hx=>bh x (by rw [ho];simp only [Op.operands,Call.operands];exact Array.mem_append.2 (.inr (Array.mem_toList_iff.1 hx))) (by
    have:st.ev x∈args.toList.map st.ev:=List.mem_map.2 ⟨x,hx,rfl⟩
    rw [cf]at this;simp only [List.mem_cons,List.not_mem_nil,or_false]at this;rcases this with h|h<;>rw [h]<;>simp)
  rw [cf]at ea
  have ec:(#[]:Array Value)++args.map a.eval ++ #[]=([SV.cv (.one .cS),.cv (.one (.int ik e))].map (SV.den J β)).toArray:=by
   apply Array.ext';rw [Array.toList_append,Array.toList_append,ea];simp
  have hx:(execOp a.eval o).run G.P w=(callFunc f ([SV.cv (.one .cS),.cv (.one (.int ik e))].map (SV.den J β)).toArray).run G.P w:=by
   simp only [execOp,ho,resolve,xZ,Deferred.ofValue,Sem.run_bind,Sem.run_pure,Result.andThen_ok,invoke];rw [<-ec]
  unfold Oper.wp;rw [hx,hG.calls f c4 _ w,Oper.upon_enter,eu];refine (h1 (λj=>if j=st.c.nk+1 then 0 else β j) w hB trivial).mono λe' w' he => ?_;obtain⟨b,code,n',base,rfl,q1,q2,q3,q4⟩:=he;have hz:(if st.c.nk+1=st.c.nk+1 then 0 else β (st.c.nk+1))=0:=if_pos rfl
  have lN:2<=code->w.heap.size<=b:=λh2=>by
   rcases q4 h2 with h|⟨h,_⟩
   ·exact h
   ·exact absurd h (by simp)
  refine hn b code n' base w' ?_ q2 (λx hx _=>q3 x hx λh2=>absurd h2 (by simp)) λh2=>.inl (lN h2);rw [show aq J β []=aq U (λj=>if j=st.c.nk+1 then 0 else β j) [] from rfl];exact q1.imp λh2 _=>ek.mk (.inr (Nat.le_trans hB.size (lN h2)))
theorem Q0{G:bF}{st:St}{o:Oper}{K:St->Env->Prop}{U:Env}(wf:st.WF)(h:nf (PA G.P W Q QM QP) G st o K U):pL G.P W st o K U:=by
  have ya:∀ (md:Nat) {ce:CE} {sz:Nat} {el:TypeId} {c:ar} {aR:Env},St.gP (PA G.P W Q QM QP) st o.dst [] ce sz el c K md aR->st.c.le c->c.nk=st.c.nk->Env.ay st.c U aR->ce.flatMap cm=[] ->
      (∀J,Env.ay c aR J->∀(β:Nat->Nat) (a:Act) (w:World),dz W w->dD st o J β a ->
        ∃b code n base w',(execOp a.eval o).run G.P w=.ok (.value (nz md b code n base)) w'/\bH (ek W) b code n base (aq J β ce) sz el w'/\(w'=w∨∃ob w0,w'=w0.alloc ob/\(w0=w∨w0=w.drew))/\(2<=code->w.heap.size<=b))->pL G.P W st o K U:=by
    intro md ce sz el c aR h hle tU hl hid hr;unfold St.gP at h;split at h
    · rename_i qt;obtain⟨h1,h2⟩:=zh h;have gw:=(zz {st with o:=(c.nk,ce,sz,el)::bL st.o []} o.dst (.cv (.one (rowAt md c.nk))) {c with nk:=c.nk+4}).1;refine⟨_,aR,.cv (.one (rowAt md c.nk)),[],h1,by rw [gw];exact ar.le_trans hle (ar.jV c 4),hl,λJ cX => ?_⟩;rw [gw]at cX;have qV:Env.ay c aR J:=⟨cX.i,cX.b,cX.v,cX.p,cX.s,cX.l⟩;refine G6 md wf hle tU qt (λk hk=>by cases hk) (λx hx=>by simp only [dS,hid]at hx;cases hx) (λβ a w hB bh _=>El ?_) h2;obtain⟨b,code,n,base,w',r1,r2,r3,r4⟩:=hr J qV β a w hB bh;refine⟨b,code,n,base,w',r1,r2, ?_,λx hx _ => ?_,λh2=>.inl (r4 h2)⟩
      · rcases r3 with rfl|⟨ob,w0,rfl,rfl|rfl⟩
        · exact⟨rfl,rfl,rfl,Nat.le_refl _⟩
        · exact⟨rfl,rfl,rfl,by simp⟩
        · exact⟨rfl,rfl,rfl,by simp⟩
      · rcases r3 with rfl|⟨ob,w0,rfl,rfl|rfl⟩
        · rfl
        · exact Below.heap_alloc _ _ _ hx
        · exact Below.heap_alloc w.drew _ _ hx
    · exact h.elim
  have fin:∀ {ce:CE} {sz:Nat} {el:TypeId} {c:ar} {aR:Env},St.gP (PA G.P W Q QM QP) st o.dst [] ce sz el c K 0 aR->st.c.le c->c.nk=st.c.nk->Env.ay st.c U aR->ce.flatMap cm=[] ->
      (∀J,Env.ay c aR J->∀(β:Nat->Nat) (a:Act) (w:World),dz W w->dD st o J β a ->
        ∃b code n base w',(execOp a.eval o).run G.P w=.ok (.value (cG b code n base)) w'/\bH (ek W) b code n base (aq J β ce) sz el w'/\(w'=w∨∃ob,w'=w.alloc ob)/\(2<=code->w.heap.size<=b))->pL G.P W st o K U :=
    λh h1 h2 h3 h4 h5=>ya 0 h h1 h2 h3 h4 λJ hl β a w hB ho=>by
      obtain⟨b,code,n,base,w',r1,r2,r3,r4⟩:=h5 J hl β a w hB ho;exact⟨b,code,n,base,w',r1,r2,r3.imp id (fun⟨ob,h⟩=>⟨ob,w,h,.inl rfl⟩),r4⟩
  unfold nf at h;generalize ho:o.op=op at h;cases op<;>first|exact h.elim|skip
  case convert src dst x =>
    simp only at h;generalize hx:st.ev x=sx at h;generalize lj:fU G.P src dst=u0 at h;rcases u0 with _|e
    · exact h.elim
    obtain⟨hs,hd,he⟩:=Vd lj
    have bytes:∀ (J:Env) (β:Nat->Nat) (a:Act) (w:World) (l:List UInt8),dz W w->dD st o J β a->sx ≠ .any->sx.den J β=.string ⟨l.toArray⟩ ->
        ∃b code n base w',(execOp a.eval o).run G.P w=.ok (.value (nz 2 b code n base)) w'/\bH (ek W) b code n base (l.map CB) 0 0 w'/\(w'=w∨∃ob w0,w'=w0.alloc ob/\(w0=w∨w0=w.drew))/\(2<=code->w.heap.size<=b):=by
      intro J β a w l hB bh cW lK;have e1:=bh x (by rw [ho];simp [Op.operands]) (by rw [hx];exact cW);rw [hx,lK]at e1;have gS:=run_bytes_of_string (P:=G.P) w src dst e ⟨l.toArray⟩ hs hd he;have fW:(⟨l.toArray⟩:ByteArray).size=l.length:=by show l.toArray.size=_;simp
      rw [fW]at gS;refine⟨w.heap.size,grownCap w l.length 0 e+2,l.length,0,w.drew.alloc (.cells (bytesRow ⟨l.toArray⟩ (grownCap w l.length 0 e)) e ((bytesRow ⟨l.toArray⟩ (grownCap w l.length 0 e)).size,(bytesRow ⟨l.toArray⟩ (grownCap w l.length 0 e)).size+1)), ?_,.inr ⟨rfl,ek.mk (.inr hB.size),by omega, ?_⟩,.inr ⟨_,w.drew,rfl,.inr rfl⟩,λ_=>Nat.le_refl _⟩
      · have:nz 2 w.heap.size (grownCap w l.length 0 e+2) l.length 0=.slice (some ⟨w.heap.size,0,none⟩) l.length (grownCap w l.length 0 e):=by simp [nz]
        rw [this];simp only [execOp,ho,e1];exact JW gS
      · refine⟨by simp,bytesRow ⟨l.toArray⟩ (grownCap w l.length 0 e),e,_,heap_alloc_new w.drew _, ?_⟩;unfold bytesRow;simp only [Array.toList_append,Array.toList_map,List.length_map];rw [List.take_left' (by simp)];rfl
    clear lj;generalize some e=so at h;split at h
    · rename_i l;refine ya 2 h (ar.le_refl _) rfl (Env.an _ _) (by simp [cm,Ve]) λJ cX β a w hB bh => ?_
      have:=bytes J β a w l hB bh (by simp) rfl
      simpa only [aq,Sg.den,List.append_nil,Vf]using this
    · rename_i i;have wi:i<st.c.ns:=by have:=wf.ev x;rw [hx]at this;simpa [SV.wf,CV.wf,At.wf]using this
      have hH:∀x:{x // x∈(U.s i).map CB},x.1.oneCell'=true:=λx=>by
        obtain⟨q,_,hq⟩:=List.mem_map.1 x.2;rw [<-hq];rfl
      have hL:=h (((U.s i).map CB).attach.map λx=>⟨x.1,hH x⟩) (G9 _ hH);have hle:=ar.pV st.c 1;refine ya 2 hL hle rfl (sP st.c U _) rfl λJ cX β a w hB bh => ?_;have Bc:=Env.ah hle (sP st.c U _) cX
      have:=bytes J β a w (J.s i) hB bh (by simp) rfl
      have e1:J.l st.c.nl=_:=cX.l st.c.nl (Nat.lt_succ_self _)
      have e2:aq J β [.var st.c.nl]=(J.s i).map CB:=by
        simp only [aq,Sg.den,List.append_nil,e1,Env.jU,if_true];rw [Bc.s i wi];exact G9 _ hH
      rw [e2];exact this
    · exact h.elim
  case mapUpdate t m k v=>exact QZ wf (.inl ho) h
  case insert t m k v=>exact QZ wf (.inr ho) h
  case makeMap t rs =>
    cases rs with
    |some r=>exact h.elim
    |none =>
      simp only at h;generalize hx:eU G.P t=u1 at h;split at h;rotate_left
      · exact h.elim
      rename_i x;refine ya 1 h (ar.le_refl _) rfl (Env.an _ _) rfl λJ cX β a w hB bh => ?_;refine⟨w.heap.size,2,0,0,w.alloc (.map #[] 0), ?_,.inr ⟨rfl,ek.mk (.inr hB.size),Nat.le_refl _,(xW hx).2 ⟨#[],0,heap_alloc_new w _,rfl,λe he=>by simp at he⟩⟩,.inr ⟨_,w,rfl,.inl rfl⟩,λ_=>Nat.le_refl _⟩;simp [execOp,ho,Instr.makeMap,nz]
  case makeSlice t l cp =>
    simp only at h;generalize hu:G.P.underlying t=u1 at h;split at h;rotate_left
    · exact h.elim
    rename_i el;generalize hi:G.P.info? el=u2 at h;generalize vJ:cx G.P el=u3 at h;split at h;rotate_left
    · exact h.elim
    rename_i i z;split at h;rotate_left
    · exact h.elim
    rename_i hc;obtain⟨c1,c2,c3,c4,c5⟩:=hc;obtain⟨i',v0,z1,z2,z3⟩:=QU vJ;rw [hi]at z1;cases z1;have zs:∀U β,v0.cells=(z.cells.map (At.den U β)).toArray:=λU β=>by rw [<-z3 U β,CV.bp]
    have Q1:v0.cells.size=i.size:=by rw [zs U b0];simpa using c2
    generalize hl:st.ev l=sl at h;generalize Eu:st.ev cp=sc at h;split at h;rotate_left
    · exact h.elim
    rename_i kl e kc e2;have we:e.wf st.c=true:=by have:=wf.ev l;rw [hl]at this;exact this
    have Q3:e2.wf st.c=true:=by have:=wf.ev cp;rw [Eu]at this;exact this
    have run:∀ (J:Env) (β:Nat->Nat) (a:Act) (w:World),dD st o J β a->0<=e.den J->e.den J<=e2.den J->e2.den J<=fj ->
        (execOp a.eval o).run G.P w=.ok (.value (.slice (some ⟨w.heap.size,0,none⟩) (e.den J).toNat (e2.den J).toNat)) (w.alloc (.cells (madeCells v0.cells ((e2.den J).toNat*i.size)) el)):=by
      intro J β a w bh h0 h1 h2;have e1:=bh l (by rw [ho];simp [Op.operands]) (by rw [hl];simp);have e3:=bh cp (by rw [ho];simp [Op.operands]) (by rw [Eu];simp);rw [hl]at e1;rw [Eu]at e3;simp only [SV.den,CV.den,At.den]at e1 e3
      have lh:(i.bytes:Int)*e2.den J<=281474976710656:=by
        have:(i.bytes:Int)*e2.den J<=131072*1073741824:=Int.mul_le_mul (by omega) (by simpa [fj]using h2) (by omega) (by omega)
        omega
      have:=run_make (P:=G.P) w t el i v0 hu hi z2 kl kc (e.den J) (e2.den J) h0 h1 lh (by simp [fj]at h2;omega)
      simp only [execOp,ho,e1,e3];exact JW this
    split at h
    · rename_i J1;subst J1;obtain⟨q1,h⟩:=za h;obtain⟨q2,h⟩:=za h;refine fin h (ar.le_refl _) rfl (Env.an _ _) rfl λJ cX β a w hB bh => ?_;have p1:0<=e2.den J:=by rw [IE.aa cX Q3];exact q1
      have p2:e2.den J<=fj:=by rw [IE.aa cX Q3];exact q2
      refine⟨w.heap.size,(e2.den J).toNat+1,0,0,w.alloc (.cells (madeCells v0.cells ((e2.den J).toNat*i.size)) el), ?_, ?_,.inr ⟨_,rfl⟩,λ_=>Nat.le_refl _⟩
      · rw [run J β a w bh (by simp [nA]) (by simpa [nA]using p1) p2];simp [cG,nA]
      · have:=QX (lo:=ek W) (w:=w) (z:=v0.cells) (n:=0) (c:=(e2.den J).toNat) (el:=el) c1 Q1 (ek.mk (.inr hB.size)) (by simp [maxLen,fj]at p2 ⊢;omega) (.inl rfl)
        exact .inl (by simpa [times,aq]using this)
    · split at h;rotate_left
      · exact h.elim
      rename_i he;subst he;obtain⟨q1,h⟩:=za h;obtain⟨q2,h⟩:=za h
      have row:∀ (J:Env) (β:Nat->Nat) (a:Act) (w:World) (xs:List Value),dz W w->dD st o J β a->0<=e.den J->e.den J<=fj->xs=times v0.cells.toList (e.den J).toNat ->
          ∃b code n base w',(execOp a.eval o).run G.P w=.ok (.value (cG b code n base)) w'/\bH (ek W) b code n base xs i.size el w'/\(w'=w∨∃ob,w'=w.alloc ob)/\(2<=code->w.heap.size<=b):=by
        intro J β a w xs hB bh p1 p2 pO;refine⟨w.heap.size,(e.den J).toNat+1,(e.den J).toNat,0,w.alloc (.cells (madeCells v0.cells ((e.den J).toNat*i.size)) el), ?_, ?_,.inr ⟨_,rfl⟩,λ_=>Nat.le_refl _⟩
        · rw [run J β a w bh p1 (Int.le_refl _) p2];simp [cG]
        · rw [pO];exact .inl (QX c1 Q1 (ek.mk (.inr hB.size)) (by simp [maxLen,fj]at p2 ⊢;omega) (.inr rfl))
      split at h
      · rename_i n;refine fin h (ar.le_refl _) rfl (Env.an _ _) (by simp [cm,JM _ (JL vJ)]) λJ cX β a w hB bh => ?_;refine row J β a w _ hB bh q1 q2 ?_;simp only [aq,Sg.den,List.append_nil,Js,zs J β,nA]
      · rw [if_pos we]at h
        have hL:=h (((times (z.cells.map (At.den U b0)) (e.den U).toNat)).attach.map λx=>⟨x.1,by
          have:∀(l:List Value) (m:Nat),(∀v∈l,v.oneCell'=true)->∀v∈times l m,v.oneCell'=true:=by
            intro l m hl
            induction m with
            |zero=>intro v hv;cases hv
            |succ m ih=>intro v hv;simp only [times,List.mem_append]at hv;rcases hv with hv|hv;exact hl v hv;exact ih v hv
          refine this _ _ (λv hv => ?_) x.1 x.2;obtain⟨q,_,rfl⟩:=List.mem_map.1 hv;exact At.gp U b0 q⟩) (by simp [LP.den])
        have hle:=ar.pV st.c 1;refine fin hL hle rfl (sP st.c U _) rfl λJ cX β a w hB bh => ?_;have Bc:=Env.ah hle (sP st.c U _) cX;have d1:e.den J=e.den U:=IE.aa Bc we;refine row J β a w _ hB bh (by rw [d1];exact q1) (by rw [d1];exact q2) ?_;have e1:J.l st.c.nl=_:=cX.l st.c.nl (Nat.lt_succ_self _);simp only [aq,Sg.den,List.append_nil,e1,Env.jU,if_true];rw [zs U b0,d1];simp
  case buildSlice t len parts =>
    simp only at h;generalize hu:G.P.underlying t=u1 at h;split at h;rotate_left
    · exact h.elim
    rename_i el;generalize hi:G.P.info? el=u2 at h;split at h;rotate_left
    · exact h.elim
    rename_i i;split at h
    · rename_i hc;obtain⟨rfl,c2,c3⟩:=hc
      have hp:parts=#[]:=by
        have:parts.toList=[]:=List.eq_nil_of_length_eq_zero c2
        exact Array.toList_eq_nil_iff.1 this
      subst hp;refine fin h (ar.le_refl _) rfl (Env.an _ _) rfl λJ cX β a w hB bh => ?_;refine⟨w.heap.size,1,0,0,w.alloc (.cells #[] el), ?_,.inl ⟨by simp [aq],c3,.inl ⟨by omega,rfl⟩⟩,.inr ⟨.cells #[] el,rfl⟩,λh=>by omega⟩;simp [execOp,ho,Instr.buildSlice,run_underlying hu,Go.sizeOf,typeInfo,hi,Instr.fill,newRow,cG]
      have:Array.range 0=#[]:=rfl
      simp [this]
    · clear hi;generalize hz:aH G.P el=u2 at h;generalize vJ:cx G.P el=u3 at h;split at h;rotate_left
      · exact h.elim
      rename_i g s z;split at h;rotate_left
      · exact h.elim
      rename_i hc;generalize hf:cw (λi=>some (i*s,s)) (times z.cells len) (parts.toList.map λp=>(p.1,st.ev p.2))=u4 at h;split at h;rotate_left
      · exact h.elim
      rename_i cs;split at h;rotate_left
      · exact h.elim
      rename_i iI;refine fin h (ar.le_refl _) rfl (Env.an _ _) (by simp [cm,iI.2]) λJ cX β a w hB bh => ?_;obtain⟨c1,c2,c3,c4⟩:=hc;have hlen:(aq J β [.bT cs]).length=len*s:=by simp only [aq,Sg.den,List.append_nil,List.length_map];exact iI.1
      have UC:len<=len*s:=Nat.le_mul_of_pos_right _ c2;refine⟨w.heap.size,len+1,len,0,w.alloc (.cells (cs.map (At.den J β)).toArray el), ?_,.inl ⟨hlen,c2,.inr ⟨by omega,rfl,ek.mk (.inr hB.size),by omega,by simp [maxLen];omega,(cs.map (At.den J β)).toArray,heap_alloc_new w _, ?_, ?_⟩⟩,.inr ⟨_,rfl⟩,λ_=>Nat.le_refl _⟩
      · rw [QC ho hu hz vJ ⟨c1,c2,c3,c4⟩ hf bh];simp [cG]
      · simp [iI.1]
      · have:(cs.map (At.den J β)).length=len*s:=by simpa using iI.1
        simp only [aq,Sg.den,List.append_nil];exact List.take_of_length_le (Nat.le_of_eq this)
  case assign x =>
    simp only at h;generalize hx:st.ev x=sx at h;generalize Zc:lT G o.dst=u1 at h;split at h;rotate_left
    · exact h.elim
    rename_i el;generalize hi:G.P.info? el=u2 at h;split at h;rotate_left
    · exact h.elim
    rename_i i;split at h;rotate_left
    · exact h.elim
    rename_i hc;refine fin h (ar.le_refl _) rfl (Env.an _ _) rfl λJ cX β a w hB bh => ?_;have e1:=bh x (by rw [ho];simp [Op.operands]) (by rw [hx];simp);rw [hx]at e1;refine⟨0,0,0,0,w, ?_,.inl ⟨by simp [aq],hc,.inl ⟨by omega,rfl⟩⟩,.inl rfl,λh=>by omega⟩;simp only [SV.den,CV.den,At.den]at e1;simp [execOp,ho,e1,cG]
  case slice t x lo hi mx =>
    cases hi with
    |none=>exact h.elim
    |some hi =>
    cases mx with
    |none=>exact h.elim
    |some mx =>
    simp only at h;generalize hu:G.P.underlying t=u1 at h;generalize hh:st.ev hi=sh at h;generalize hm:st.ev mx=sm at h;generalize nh:cL (.lit 0) (lo.map st.ev)=u4 at h;split at h;rotate_left
    · exact h.elim
    rename_i el kh km;generalize vO:G.P.info? el=u5 at h;generalize hx:st.ev x=sx at h
    have key:∀i,G.P.info? el=some i->0<i.size->sx ≠ .any->(∀J β,sx.den J β=.slice none 0 0∨∃b o n c,sx.den J β=.slice (some ⟨b,o,none⟩) n c)->St.gP (PA G.P W Q QM QP) st o.dst [] [] i.size el st.c K 0 U->pL G.P W st o K U:=by
      intro i vO fW eG hv h;refine fin h (ar.le_refl _) rfl (Env.an _ _) rfl λJ cX β a w hB bh => ?_;have e1:=bh hi (by rw [ho];simp [Op.operands]) (by rw [hh];simp);have e2:=bh mx (by rw [ho];simp [Op.operands]) (by rw [hm];simp);have e3:=bh x (by rw [ho];simp [Op.operands]) (by rw [hx];exact eG);rw [hh]at e1;rw [hm]at e2;rw [hx]at e3;simp only [SV.den,CV.den,At.den,nA]at e1 e2
      have e4:lo.map a.eval=none∨∃k,lo.map a.eval=some (.int k 0):=by
        rcases xp nh with ⟨h1,_⟩|⟨k,h1⟩
        · cases lo with
          |none=>exact .inl rfl
          |some l=>simp at h1
        · cases lo with
          |none=>simp at h1
          |some l =>
            simp only [Option.map_some,Option.some.injEq]at h1
            have:=bh l (by rw [ho];simp [Op.operands]) (by rw [h1];simp)
            rw [h1]at this;exact .inr ⟨k,by simp only [Option.map_some,this];rfl⟩
      have size:(Go.sizeOf el).run G.P w=.ok i.size w:=by simp [Go.sizeOf,typeInfo,vO]
      have run:∀(ad:Option Addr) (n c:Nat),a.eval x=.slice ad n c->(execOp a.eval o).run G.P w=.ok (.value (.slice ad 0 0)) w:=by
        intro ad n c he;simp only [execOp,ho,he,Option.map_some,e1,e2];refine JW ?_;rcases e4 with e4|⟨k,e4⟩
        · simp [Instr.sliceAt,Instr.slice,Instr.sliceBounds,Instr.sliceBound,asIntOf,run_underlying hu,size,e4]
        · simp [Instr.sliceAt,Instr.slice,Instr.sliceBounds,Instr.sliceBound,asIntOf,run_underlying hu,size,e4]
      rcases hv J β with h1|⟨b,of,n,c,h1⟩
      · exact⟨0,0,0,0,w,by rw [run none 0 0 (by rw [e3,h1])];rfl,.inl ⟨by simp [aq],fW,.inl ⟨by omega,rfl⟩⟩,.inl rfl,λh=>by omega⟩
      · exact⟨b,1,0,of,w,by rw [run _ n c (by rw [e3,h1])];rfl,.inl ⟨by simp [aq],fW,.inl ⟨by omega,rfl⟩⟩,.inl rfl,λh=>by omega⟩
    split at h
    · rename_i i p ix s l c;split at h
      · rename_i hc;exact key i vO hc (by simp) (λJ β=>.inr ⟨_,_,_,_,rfl⟩) h
      · exact h.elim
    · rename_i i k;split at h
      · rename_i hc;refine key i vO hc (by simp) (λJ β => ?_) h;simp only [SV.den,CV.den,At.den,cG];split
        · exact .inl rfl
        · exact .inr ⟨_,_,_,_,rfl⟩
      · exact h.elim
    · rename_i i;split at h
      · rename_i hc;exact key i vO hc (by simp) (λJ β=>.inl rfl) h
      · exact h.elim
    · exact h.elim
  case store t x y =>
    simp only at h;generalize hz:aH G.P t=u1 at h;generalize hx:st.ev x=sx at h;generalize hy:st.ev y=sy at h;split at h;rotate_left
    · exact h.elim
    rename_i g n k ix sz off v;generalize hg:aG st.o k=u2 at h;split at h;rotate_left
    · exact h.elim
    rename_i ce s el;split at h;rotate_left
    · exact h.elim
    rename_i hc;obtain⟨rfl,c1,c2,c3,c4,c5,c6⟩:=hc;obtain⟨m,cb,jO,h,b1,b2,b3,b4,b5⟩:=zD h;obtain⟨q1,h⟩:=za h;obtain⟨q2,h⟩:=za h;have kz:k∈aQ st o:=by simp [aQ,ho,hx,aM,CV.cells,az]
    have run:∀ (J:Env) (β:Nat->Nat) (a:Act) (w:World) (eY:CE),Env.ay cb jO J->dD st o J β a->Holds W J β k (.row ce s el) w ->
        aq J β eY=(aq J β ce).take ((ix.den J).toNat*s+off)++v.cells.map (At.den J β)++(aq J β ce).drop ((ix.den J).toNat*s+off+n) ->
        ∃w',(execOp a.eval o).run G.P w=.ok .skip w'/\Holds W J β k (.row eY s el) w'/\(w'.os=w.os/\w'.tape=w.tape/\w'.output=w.output/\w.heap.size<=w'.heap.size)/\(∀b,b<w.heap.size->bD β k (.row ce s el)≠some b->w'.heap[b]? = w.heap[b]?):=by
      intro J β a w eY hl bh bj mP;have e1:=bh x (by rw [ho];simp [Op.operands]) (by rw [hx];simp);have e2:=bh y (by rw [ho];simp [Op.operands]) (by rw [hy];simp);rw [hx]at e1;rw [hy]at e2;have fI:=Env.ah b1 b3 hl;have p1:0<=ix.den J:=by rw [IE.aa hl (IE.aL b1 c5)];exact q1
      have p2:ix.den J<m.den J:=by rw [IE.aa hl (IE.aL b1 c5),IE.aa hl b4];exact q2
      have bj:=bH.eI bj c3;rw [b5 J β hl,I_ bj]at p2;obtain⟨a1,a2,a3⟩:=bj
      obtain⟨r1,r2,r3,r4,r5,cur,r6,r7,r8⟩:2<=β (k+1)/\β (k+3)=0/\ek W (β k)/\β (k+2)<=β (k+1)-1/\β (k+1)-1<=maxLen/\∃cur,w.heap[β k]? = some (.cells cur el (0,0))/\cur.size=(β (k+1)-1)*s/\cur.toList.take (β (k+2)*s)=aq J β ce:=by
        rcases a3 with ⟨_,h0⟩|h0
        · omega
        · exact h0
      have vP:(ix.den J).toNat*s+off+n<=β (k+2)*s:=by
        have h1:(ix.den J).toNat+1<=β (k+2):=by omega
        have h2:=Nat.mul_le_mul_right s h1;rw [Nat.succ_mul]at h2;omega
      have gV:β (k+2)*s<=cur.size:=by rw [r7];exact Nat.mul_le_mul_right _ r4
      have hs:=Qu (P:=G.P) hz w (β k) ((ix.den J).toNat*s+off) (v.den J β) cur el r6 (by rw [CV.bp];simpa using c1) (by omega) (by
        rw [CV.bp];intro z Ej;simp only [List.mem_map]at Ej;obtain⟨q,_,rfl⟩:=Ej;exact At.gp J β q)
      rw [CV.bp]at hs;have Bb:(v.cells.map (At.den J β)).length=n:=by simpa using c1
      refine⟨w.setRow (β k) (cur.toList.take ((ix.den J).toNat*s+off)++v.cells.map (At.den J β)++cur.toList.drop ((ix.den J).toNat*s+off+n)).toArray, ?_,.inl ⟨?_,a2,.inr ⟨r1,r2,r3,r4,r5,_,setRow_heap w (β k) _ _ _ _ r6, ?_, ?_⟩⟩,⟨rfl,rfl,rfl,by rw [setRow_size];exact Nat.le_refl _⟩,λb hb qq=>Jr _ _ _ _ (λhe=>qq (by simp only [bD,r1,if_true,he]))⟩
      · have A6:a.eval x=ptr (β k) ((ix.den J).toNat*s+off):=e1;have A7:a.eval y=v.den J β:=e2;simp only [execOp,ho,A6,A7,Sem.run_bind,hs,Result.andThen_ok,Sem.run_pure]
      · rw [mP,<-a1];simp only [List.length_append,List.length_take,List.length_drop,Bb];omega
      · simp only [List.size_toArray,List.length_append,List.length_take,List.length_drop,Array.length_toList,Bb];omega
      · rw [mP,<-r8];exact take_set cur.toList _ _ n _ vP (by simpa using gV) Bb
    generalize eR:gv ce ix s off=u5 at h;rcases u5 with _|⟨cs,p⟩;rotate_left
    · simp only at h;obtain⟨Vm,Vn⟩:=P9 eR;obtain⟨h1,h2⟩:=zh h;have gw:=(zz {st with o:=dw st.o k [.bT (cs.take p++v.cells++cs.drop (p+n))]} o.dst .any cb).1;refine⟨_,jO,.any,[k],h1,by rw [gw];exact b1,b3,λJ cX => ?_⟩;rw [gw]at cX
      have Ev:∀x∈cs,x.wf st.c=true/\(∀y∈aF [x],y∈ce.flatMap cm):=by
        have:∀(ce:CE) (cs:List At),dK ce=some cs->bW st.c ce=true->∀x∈cs,x.wf st.c=true/\(∀y∈aF [x],y∈ce.flatMap cm):=by
          intro ce
          induction ce with
          |nil=>intro cs h _ x hx;simp only [dK,Option.some.injEq]at h;subst h;cases hx
          |cons s r ih =>
            intro cs h hw x hx;cases s with
            |var j=>simp [dK]at h
            |bT l =>
              simp only [dK,Option.map_eq_some_iff]at h;obtain⟨l',h1,rfl⟩:=h;simp only [bW,List.all_cons,Bool.and_eq_true]at hw;rcases List.mem_append.1 hx with hx|hx
              · exact⟨List.all_eq_true.1 hw.1 x hx,fun y hy=>by
                  rw [List.flatMap_cons];refine List.mem_append.2 (.inl ?_);show y∈aF l;obtain⟨a,b,rfl⟩:=List.append_of_mem hx;rw [zd,show x::b=[x]++b from rfl,zd];exact List.mem_append.2 (.inr (List.mem_append.2 (.inl hy)))⟩
              · obtain⟨i1,i2⟩:=ih l' h1 hw.2 x hx;exact⟨i1,λy hy=>by rw [List.flatMap_cons];exact List.mem_append.2 (.inr (i2 y hy))⟩
        exact this ce _ (Va eR) c6
      have Ew:∀y∈aF cs,y∈ce.flatMap cm:=by
        intro y hy
        have:∀(l:List At),y∈aF l->∃x∈l,y∈aF [x]:=by
          intro l
          induction l with
          |nil=>intro h;cases h
          |cons a l ih =>
            intro h;rw [show a::l=[a]++l from rfl,zd]at h;rcases List.mem_append.1 h with h|h
            · exact⟨a,by simp,h⟩
            · obtain⟨x,h1,h2⟩:=ih h;exact⟨x,by simp [h1],h2⟩
        obtain⟨x,zI,xr⟩:=this cs hy;exact (Ev x zI).2 y xr
      refine CX wf b1 b2 hg kz ?_ (λy eZ => ?_) (λβ a w bh bj=>run J β a w _ cX bh bj ?_) h2
      · have vQ:cs.all (At.wf cb)=true:=List.all_eq_true.2 λx zJ=>At.aL b1 (Ev x zJ).1;simp only [bW,List.all_cons,List.all_nil,Bool.and_true,Sg.wf,List.all_append,(zu vQ p).1,(zu vQ (p+n)).2,CV.dk (CV.aL b1 c4),Bool.and_self]
      · simp only [List.flatMap_cons,cm,List.flatMap_nil,List.append_nil,zd]at eZ;rcases List.mem_append.1 eZ with eZ|eZ
        · rcases List.mem_append.1 eZ with eZ|eZ
          · exact .inr (Ew y (A4 _ _ eZ))
          · simp only [cN,ho,hy];exact .inl eZ
        · exact .inr (Ew y (A5 _ _ eZ))
      · rw [Vm J,Vn J β];simp only [aq,Sg.den,List.append_nil,List.map_append,List.map_take,List.map_drop]
    · simp only at h;split at h;rotate_left
      · exact h.elim
      rename_i kT;obtain⟨CR,Ey⟩:=kT
      have tV:∀v'∈(LP.set ce ix s off v.cells).den jO,v'.oneCell'=true:=by
        intro v' mQ;simp only [LP.den,List.mem_append]at mQ;rcases mQ with (mQ|mQ)|mQ
        · exact uZ jO b0 ce v' (List.mem_of_mem_take mQ)
        · obtain⟨q,_,rfl⟩:=List.mem_map.1 mQ;exact At.gp jO b0 q
        · exact uZ jO b0 ce v' (List.mem_of_mem_drop mQ)
      have hL:=h (((LP.set ce ix s off v.cells).den jO).attach.map λx=>⟨x.1,tV x.1 x.2⟩) (by simp);have hle:=ar.pV cb 1;obtain⟨h1,h2⟩:=zh hL;have gw:=(zz {st with o:=dw st.o k [.var cb.nl]} o.dst .any {cb with nl:=cb.nl+1}).1;refine⟨_,_,.any,[k],h1,by rw [gw];exact ar.le_trans b1 hle,Env.ah b1 b3 (sP cb jO _),λJ cX => ?_⟩;rw [gw]at cX;have qV:=Env.ah hle (sP cb jO _) cX;refine CX wf (ar.le_trans b1 hle) b2 hg kz (by simp [bW,Sg.wf]) (λy eZ=>by simp [cm]at eZ) (λβ a w bh bj=>run J β a w _ qV bh bj ?_) h2;have e1:J.l cb.nl=_:=cX.l cb.nl (Nat.lt_succ_self _);have f1:aq J β ce=aq jO b0 ce:=by rw [AV J β b0 CR,uz qV (β:=b0) (λ_ _=>rfl) (AE b1 c6)]
      have f2:v.cells.map (At.den J β)=v.cells.map (At.den jO b0):=by
        have JZ:v.cells.all At.flat=true:=by
          cases v with
          |one a=>simpa [CV.cells,CV.flat]using Ey
          |agg l=>exact Ey
        rw [CI J β b0 JZ,xF qV (β:=b0) (λ_ _=>rfl) (AB b1 (CV.dk c4))]
      have f3:ix.den J=ix.den jO:=IE.aa qV (IE.aL b1 c5);simp only [aq,Sg.den,List.append_nil,e1,Env.jU,if_true,f1,f2,f3]
      have f4:∀(l:List Value) (hl:∀v'∈l,v'.oneCell'=true),(l.attach.map λx=>(⟨x.1,hl x.1 x.2⟩:OV)).map (·.1)=l:=λl hl=>by
        rw [List.map_map];exact List.attach_map_subtype_val l
      rw [f4];simp only [LP.den,c1]
end Vc
