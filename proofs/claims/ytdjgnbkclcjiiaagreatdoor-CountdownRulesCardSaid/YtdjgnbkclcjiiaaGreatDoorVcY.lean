import Derived.Test.YtdjgnbkclcjiiaaGreatDoorVcV
import Derived.Laws.IdiomStrings
set_option linter.unusedVariables false
set_option linter.unusedSimpArgs false
namespace Vc
open Go Go.RowKit
variable {P:Program} {W:Wld} {Q:Value→Prop} {QM QP:World→Value→Prop}
theorem zvy{m:Mem}{o:OMem}{nk:Nat}{ce:CE}{sz:Nat}{el:TypeId}{eat:List Nat}(hm:getM m nk=none)(k:Nat) :
    getE m ((nk,ce,sz,el)::delOs o eat) k=if nk=k then some (.row ce sz el)else match getM m k with
      | some (cs,t)=>some (.fix cs t)
      | none=>if k∈eat then none else getE m o k:=by
  unfold getE;rw [zda,zqb];by_cases h:nk=k
  · subst h;rw [if_pos rfl,if_pos rfl,hm]
  · rw [if_neg h,if_neg h];cases hg:getM m k with
    | some x=>rfl
    | none =>
      by_cases he:k∈eat
      · rw [if_pos he,if_pos he]
      · rw [if_neg he,if_neg he]
theorem znaa{o:Oper}{a:Act}{w:World}{md:Nat}{A B C D:Nat→Nat→Nat→Nat→World→Prop}(h:∃ b code n base w',(execOp a.eval o).run P w=.ok (.value (rowV md b code n base)) w'∧A b code n base w'∧B b code n base w'∧C b code n base w'∧D b code n base w')
  (next:Act→World→Prop) (Q':Exit→Act→World→Prop) (hn:∀ b code n base w',A b code n base w'→B b code n base w'→C b code n base w'→D b code n base w'→next (a.put o.dst (rowV md b code n base)) w'):o.wp P a w next Q':=by
 obtain⟨b,code,n,base,w',r1,r2,r3,r4,r5⟩:=h;unfold Oper.wp;rw [r1,Oper.upon_value];exact hn b code n base w' r2 r3 r4 r5
theorem zpo{st:St}{o:Oper}{ρ:Env}{eat:List Nat}{ce:CE}{sz:Nat}{el:TypeId}{c:Ctr}(md:Nat)(wf:st.WF)(hle:st.c.le c)(hnk:c.nk=st.c.nk)(hce:ceWf c ce=true)(heat:∀ k∈eat,k∈writesOf st o∧(getO st.o k).isSome=true)
    (hids:∀ x∈entIds (.row ce sz el),x∈valIds st o∨∃ j e,j∈readsOf st o++writesOf st o∧getE st.m st.o j=some e∧x∈entIds e)
    (hrun:∀ (β:Nat→Nat) (a:Act) (w:World),Bel W w→OpsOk st o ρ β a→RdOk W st.m st.o (readsOf st o++writesOf st o) ρ β w →
      ∀ (next:Act→World→Prop) (Q':Exit→Act→World→Prop),(∀ b code n base w',RowOkP (OwnB W) b code n base (ceDen ρ β ce) sz el w'→(w'.os=w.os∧w'.tape=w.tape∧w'.output=w.output∧w.heap.size≤w'.heap.size) →
        (∀ x,x < w.heap.size→(∀ k e,k∈eat→getE st.m st.o k=some e→blkE β k e≠some x)→w'.heap[x]? = w.heap[x]?)→(2≤code→w.heap.size≤b∨∃ j e,j∈eat∧getE st.m st.o j=some e∧blkE β j e=some b) →
        next (a.put o.dst (rowV md b code n base)) w')→o.wp P a w next Q')
    (hp:PutOk {st with o:=(c.nk,ce,sz,el)::delOs st.o eat} o.dst (.cv (.one (rowAt md c.nk))) {c with nk:=c.nk + 4}) :
    OFact P W st o ρ ({st with o:=(c.nk,ce,sz,el)::delOs st.o eat}.putS o.dst (.cv (.one (rowAt md c.nk))) {c with nk:=c.nk + 4}) (.cv (.one (rowAt md c.nk))) eat:=by
  obtain⟨q1,q2,q3,q4,q5,q6⟩:=zfa {st with o:=(c.nk,ce,sz,el)::delOs st.o eat} o.dst (.cv (.one (rowAt md c.nk))) {c with nk:=c.nk + 4};have hle2:st.c.le {c with nk:=c.nk + 4}:=Ctr.le_trans hle (Ctr.le_nk c 4)
  have hmn:getM st.m c.nk=none:=by
    have:=wf.beyond (k:=c.nk) (by omega)
    unfold getE at this;cases hg:getM st.m c.nk with
    | none=>rfl
    | some x=>rw [hg]at this;cases this
  have hm:∀ k,getE ({st with o:=(c.nk,ce,sz,el)::delOs st.o eat}.putS o.dst (.cv (.one (rowAt md c.nk))) {c with nk:=c.nk + 4}).m ({st with o:=(c.nk,ce,sz,el)::delOs st.o eat}.putS o.dst (.cv (.one (rowAt md c.nk))) {c with nk:=c.nk + 4}).o k =
      if c.nk=k then some (.row ce sz el)else match getM st.m k with
      | some (cs,t)=>some (.fix cs t)
      | none=>if k∈eat then none else getE st.m st.o k:=fun k=>by rw [q2,q4];exact zvy hmn k
  have heatm:∀ k∈eat,getM st.m k=none:=fun k hk=>by
    obtain⟨x,hx⟩:=Option.isSome_iff_exists.1 (heat k hk).2;exact wf.ap k x hx
  have hsame:∀ k,k < st.c.nk→k ∉ eat→getE ({st with o:=(c.nk,ce,sz,el)::delOs st.o eat}.putS o.dst (.cv (.one (rowAt md c.nk))) {c with nk:=c.nk + 4}).m ({st with o:=(c.nk,ce,sz,el)::delOs st.o eat}.putS o.dst (.cv (.one (rowAt md c.nk))) {c with nk:=c.nk + 4}).o k=getE st.m st.o k:=fun k hk he=>by
    rw [hm,if_neg (by omega)];cases hg:getM st.m k with
    | some x=>exact (zwb hg).symm
    | none=>simp only [if_neg he]
  have one:∀ {k e},(k∈eat∨st.c.nk≤k)→getE ({st with o:=(c.nk,ce,sz,el)::delOs st.o eat}.putS o.dst (.cv (.one (rowAt md c.nk))) {c with nk:=c.nk + 4}).m ({st with o:=(c.nk,ce,sz,el)::delOs st.o eat}.putS o.dst (.cv (.one (rowAt md c.nk))) {c with nk:=c.nk + 4}).o k=some e→k=c.nk∧e=.row ce sz el:=by
    intro k e hk hg;rw [hm]at hg;by_cases hkk:c.nk=k
    · rw [if_pos hkk]at hg;cases hg;exact⟨hkk.symm,rfl⟩
    · rw [if_neg hkk]at hg;rcases hk with hk | hk
      · rw [heatm k hk]at hg;simp only [if_pos hk]at hg;cases hg
      · have:=wf.beyond hk
        unfold getE at this;cases hgm:getM st.m k with
        | some x=>rw [hgm]at this;cases this
        | none =>
          rw [hgm]at hg;simp only at hg;split at hg
          · cases hg
          · rw [wf.beyond hk]at hg;cases hg
  refine⟨fun hk=>by rw [(zr _ _ _ _).1];exact hk,(zr _ _ _ _).2,q3,q5,q6,by rw [q1];exact hle2, ?_,fun t'=>zt _ o.dst _ _ t',fun d hd=>(hp d hd).1,fun k hk=>⟨(heat k hk).1, ?_⟩,hsame,fun k e' hk hg x hx => ?_,fun β a w hB ho hr _ next Q' hn => ?_⟩
  · have g:=wf.grow hle2;refine⟨fun i => ?_,by rw [q2,q1];exact g.m,fun k ce' sz' t' hg => ?_,fun k x hk => ?_,by rw [q5,q1];exact g.r,by rw [q6,q1];exact g.d,by rw [(zr _ _ _ _).1,q1];exact g.k,by rw [(zr _ _ _ _).2,q1];exact g.df⟩
    · rw [zt,q1];by_cases hd:o.dst=some i
      · rw [if_pos hd];exact (hp i hd).2
      · rw [if_neg hd];exact g.t i
    · rw [q4,zda]at hg;rw [q1];by_cases hk:c.nk=k
      · rw [if_pos hk]at hg;cases hg;exact⟨by simp only;omega,zmh (Ctr.le_nk c 4) hce⟩
      · rw [if_neg hk,zqb]at hg;split at hg
        · cases hg
        · exact g.o k ce' sz' t' hg
    · rw [q4,zda]at hk;rw [q2];by_cases hkk:c.nk=k
      · rw [← hkk];exact hmn
      · rw [if_neg hkk,zqb]at hk;split at hk
        · cases hk
        · exact wf.ap k x hk
  · obtain⟨x,hx⟩:=Option.isSome_iff_exists.1 (heat k hk).2
    have:=(wf.o k x.1 x.2.1 x.2.2 hx).1
    omega
  · obtain⟨rfl,rfl⟩:=one hk hg;exact hids x hx
  · refine hrun β a w hB ho hr next Q' fun b code n base w' r2 r0 r7 r8 => ?_
    obtain⟨r3,r4,r5,r6⟩:=r0;let β':Nat→Nat:=fun k=>if k=c.nk then b else if k=c.nk + 1 then code else if k=c.nk + 2 then n else if k=c.nk + 3 then base else β k;have b0':β' c.nk=b:=if_pos rfl;have b1':β' (c.nk + 1)=code:=by show (if c.nk + 1=c.nk then b else if c.nk + 1=c.nk + 1 then code else _)=code;rw [if_neg (by omega),if_pos rfl]
    have b2':β' (c.nk + 2)=n:=by
      show (if c.nk + 2=c.nk then b else if c.nk + 2=c.nk + 1 then code else if c.nk + 2=c.nk + 2 then n else _)=n;rw [if_neg (by omega),if_neg (by omega),if_pos rfl]
    have b3':β' (c.nk + 3)=base:=by
      show (if c.nk + 3=c.nk then b else if c.nk + 3=c.nk + 1 then code else if c.nk + 3=c.nk + 2 then n else if c.nk + 3=c.nk + 3 then base else _)=base;rw [if_neg (by omega),if_neg (by omega),if_neg (by omega),if_pos rfl]
    have hoff:∀ k,¬ (c.nk≤k∧k < c.nk + 4)→β' k=β k:=fun k hk=>by
      show (if k=c.nk then b else if k=c.nk + 1 then code else if k=c.nk + 2 then n else if k=c.nk + 3 then base else β k)=β k;rw [if_neg (by omega),if_neg (by omega),if_neg (by omega),if_neg (by omega)]
    refine hn β' _ _ (fun _ => ?_) ⟨r3,r4,r5,r6,fun x hx hnx=>r7 x hx hnx,fun k hk=>hoff k (by rw [q1]at hk;simp only at hk;omega),fun k e' hk hg => ?_,fun k k' e e' _ hk hk' hg hg' _ _ => ?_⟩
    · show _=(rowAt md c.nk).den ρ β';rw [zrv,b0',b1',b2',b3']
    · obtain⟨rfl,rfl⟩:=one hk hg;refine⟨?_,fun x hx => ?_⟩
      · simp only [Holds];rw [b0',b1',b2',b3',zga (Env.like_refl c ρ) (fun k hk=>hoff k (by omega)) hce];exact r2
      · simp only [blkE,b0',b1']at hx;split at hx
        · rename_i h2;simp only [Option.some.injEq]at hx;subst hx;rcases r8 h2 with h | ⟨j,e,h3,h4,h5⟩
          · exact .inl h
          · refine .inr ⟨j,e,h3,h4,h5,.inr ?_⟩;rw [hm,if_neg (by have:=zog (wf.ent h4);omega),heatm j h3];simp only [if_pos h3]
        · cases hx
    · rw [(one hk hg).1,(one hk' hg').1]
theorem zwf:∀ (x y:CE) {i:Nat},i∈(ceApp x y).flatMap sgIds→i∈x.flatMap sgIds∨i∈y.flatMap sgIds
  | [],y,i,h=>.inr h
  | [.ats l],[],i,h=>.inl h
  | [.ats l],.ats l'::y,i,h=>by
    simp only [ceApp,List.flatMap_cons,sgIds,zd,List.mem_append,List.flatMap_nil,List.append_nil]at h ⊢;rcases h with (h | h) | h
    · exact .inl h
    · exact .inr (.inl h)
    · exact .inr (.inr h)
  | [.ats l],.var j::y,i,h=>by
    simp only [ceApp,List.flatMap_cons,List.mem_append,List.flatMap_nil,List.append_nil]at h ⊢;exact h
  | [.var j],y,i,h=>by
    simp only [ceApp,List.flatMap_cons,List.mem_append,List.flatMap_nil,List.append_nil]at h ⊢;exact h
  | .ats l::t::r,y,i,h=>by
    simp only [ceApp]at h;rw [List.flatMap_cons]at h ⊢;rcases List.mem_append.1 h with h | h
    · exact .inl (List.mem_append.2 (.inl h))
    · rcases zwf (t::r) y h with h | h
      · exact .inl (List.mem_append.2 (.inr h))
      · exact .inr h
  | .var j::t::r,y,i,h=>by
    simp only [ceApp]at h;rw [List.flatMap_cons]at h ⊢;rcases List.mem_append.1 h with h | h
    · exact .inl (List.mem_append.2 (.inl h))
    · rcases zwf (t::r) y h with h | h
      · exact .inl (List.mem_append.2 (.inr h))
      · exact .inr h
theorem zfq{t:TypeId}{z:CV}(h:zeroA P t=some z):∃ i v,P.info? t=some i∧i.zero=some v∧∀ ρ β,z.den ρ β=v:=by
  unfold zeroA at h;cases hi:P.info? t with
  | none=>simp [hi]at h
  | some i =>
    simp only [hi]at h;cases hz:i.zero with
    | none=>simp [hz]at h
    | some v =>
      simp only [hz]at h;have h2:=fun ρ β=>(SV.ofValue_den v ⟨0,0,0,0,0,0,0⟩ ρ β).2;generalize hs:SV.ofValue v=sv at h h2;cases sv with
      | cv x =>
        simp only [Option.some.injEq]at h;subst h;exact⟨i,v,rfl,hz,fun ρ β=>h2 ρ β (by simp)⟩
      | _=>simp at h
def Src(W:Wld)(st:St)(sz:Nat)(y:SV)(add:CE)(c:Ctr)(ρ:Env):Prop :=
  ∀ (ρ'':Env) (β:Nat→Nat) (w:World),Env.like c ρ ρ''→Bel W w→RdOk W st.m st.o (blksOf (svCells y)) ρ'' β w →
    ∃ m,((y.den ρ'' β=.slice none 0 0∧m=0)∨∃ a k,y.den ρ'' β=.slice (some a) m k∧∀ j u,(ceDen ρ'' β add)[j]? = some u→w.cell? (a.add j)=some u)∧(ceDen ρ'' β add).length=m * sz
theorem zfs{st:St}{sz:Nat}{eat:List Nat}{y:SV}{K:CE→Ctr→Env→Prop}{ρ:Env}(wf:st.WF)(hsz:0 < sz)(hy:y.wf st.c=true)(h:addOf (PA P W Q QM QP) st sz eat y K ρ) :
    ∃ add c' ρ',K add c' ρ'∧st.c.le c'∧c'.nk=st.c.nk∧Env.like st.c ρ ρ'∧ceWf c' add=true∧y ≠ .any∧Src W st sz y add c' ρ' ∧
      ∀ x∈add.flatMap sgIds,∃ j e,j∈blksOf (svCells y)∧getE st.m st.o j=some e∧x∈entIds e:=by
  unfold addOf at h;split at h
  · exact⟨[],_,ρ,h,Ctr.le_refl _,rfl,Env.like_refl _ _,rfl,by simp,fun ρ'' β w _ _ _=>⟨0,.inl ⟨rfl,rfl⟩,by simp [ceDen]⟩,fun x hx=>by cases hx⟩
  · rename_i k off len cap;generalize hg:getM st.m k=u at h;split at h
    · rename_i cs t;split at h
      · rename_i hb;refine⟨_,_,ρ,h,Ctr.le_refl _,rfl,Env.like_refl _ _, ?_,by simp,fun ρ'' β w _ _ hr=>⟨len,.inr ⟨⟨β k,off,none⟩,cap,rfl,fun j u hj => ?_⟩, ?_⟩,fun x hx => ?_⟩
        · simp only [ceWf,List.all_cons,List.all_nil,Bool.and_true,Sg.wf];exact (zy (zy (wf.m k cs t hg).2 off).2 _).1
        · obtain⟨_,hh⟩:=hr k (by simp [svCells,CV.cells,blksOf]) _ (zwb hg);simp only [ceDen,Sg.den,List.append_nil,List.getElem?_map,Option.map_eq_some_iff]at hj;obtain⟨a,ha,rfl⟩:=hj
          have hj2:j < len * sz:=by
            rcases Nat.lt_or_ge j (len * sz)with h' | h'
            · exact h'
            · rw [List.getElem?_eq_none (by simp;omega)]at ha;cases ha
          rw [List.getElem?_take_of_lt hj2,List.getElem?_drop]at ha;rw [zob,zma hh];simp [ha]
        · simp only [ceDen,Sg.den,List.append_nil,List.length_map,List.length_take,List.length_drop];omega
        · simp only [List.flatMap_cons,sgIds,List.flatMap_nil,List.append_nil]at hx;exact⟨k,_,by simp [svCells,CV.cells,blksOf],zwb hg,zoc _ _ (znc _ _ hx)⟩
      · exact h.elim
    · exact h.elim
  · rename_i k;generalize hg:getO st.o k=u at h;split at h
    · rename_i ce s t;split at h
      · rename_i hc;obtain⟨rfl,hne⟩:=hc;refine⟨ce,_,ρ,h,Ctr.le_refl _,rfl,Env.like_refl _ _,(wf.o k ce s t hg).2,by simp,fun ρ'' β w _ _ hr => ?_,fun x hx=>⟨k,_,by simp [svCells,CV.cells,blksOf],zla (wf.ap k _ hg) hg,hx⟩⟩;have hrow:=(hr k (by simp [svCells,CV.cells,blksOf]) _ (zla (wf.ap k _ hg) hg)).old hsz;refine⟨β (k + 2), ?_,hrow.1⟩;show (ownV (β k) (β (k + 1)) (β (k + 2)) (β (k + 3))=_∧_)∨∃ a k',ownV (β k) (β (k + 1)) (β (k + 2)) (β (k + 3))=_∧_;unfold ownV;by_cases h0:β (k + 1)=0
        · rw [if_pos h0];refine .inl ⟨rfl, ?_⟩;rcases hrow.2.2 with ⟨_,h1⟩ | ⟨h1,_⟩
          · exact h1
          · omega
        · rw [if_neg h0];refine .inr ⟨_,_,rfl,fun j u hj => ?_⟩;have h1:=zio hrow hj;rcases hrow.2.2 with ⟨_,h2⟩ | ⟨_,h2,_⟩
          · have:(ceDen ρ'' β ce).length=0:=by rw [hrow.1,h2];omega
            have:=(List.getElem?_eq_some_iff.1 hj).1
            omega
          · rw [zob,h2,Nat.zero_add];exact h1
      · exact h.elim
    · exact h.elim
  · rename_i x _ _ _
    have ext:∀ (s:Nat),(∀ ρ'' β β',x.den ρ'' β=x.den ρ'' β')→blksOf [x]=[]→x.wf st.c=true→(PA P W Q QM QP).ecp st.c.nl x sz (K [.var st.c.nl] {st.c with nl:=st.c.nl + 1}) ρ →
        ∃ add c' ρ',K add c' ρ'∧st.c.le c'∧c'.nk=st.c.nk∧Env.like st.c ρ ρ'∧ceWf c' add=true∧(SV.cv (.one x)) ≠ .any∧Src W st sz (.cv (.one x)) add c' ρ' ∧
          ∀ i∈add.flatMap sgIds,∃ j e,j∈blksOf (svCells (.cv (.one x)))∧getE st.m st.o j=some e∧i∈entIds e:=by
      intro s hfl hbl hwx h;obtain⟨L,h1,h2⟩:=h;have hle:=Ctr.le_nl st.c 1;refine⟨_,_,_,h2,hle,rfl,zia st.c ρ L,by simp [ceWf,Sg.wf],by simp,fun ρ'' β w hl hB hr => ?_,fun i hi=>by simp [sgIds]at hi⟩
      have e1:ρ''.l st.c.nl=L:=by
        rw [hl.l st.c.nl (Nat.lt_succ_self _)];exact if_pos rfl
      have e2:ceDen ρ'' β [.var st.c.nl]=L.map (·.1):=by simp only [ceDen,Sg.den,List.append_nil,e1]
      have e3:x.den ρ'' β=x.den ρ b0:=by
        rw [At.den_like (Env.like_trans hle (zia st.c ρ L) hl) (β:=β) (fun _ _=>rfl) hwx];exact hfl ρ β b0
      rw [e2];rcases h1 with ⟨h3,h4⟩ | ⟨a0,h3,h4⟩ | ⟨b,o,len,cap,h3,h4,h5⟩
      · exact⟨0,.inl ⟨e3.trans h3,rfl⟩,by rw [h4];simp⟩
      · exact⟨0,.inr ⟨a0,0,e3.trans h3,fun j u hj=>by rw [h4]at hj;simp at hj⟩,by rw [h4];simp⟩
      · refine⟨len,.inr ⟨_,_,e3.trans h3,fun j u hj => ?_⟩,h4⟩
        have:=h5 j u hj
        rw [zob];exact hB.cell this
    split at h
    · rename_i p ix s len cap;split at h
      · rename_i hc;exact ext 0 (fun _ _ _=>rfl) rfl hc.2 h
      · exact h.elim
    · rename_i q p s len cap;split at h
      · rename_i hc;exact ext 0 (fun _ _ _=>rfl) rfl hc.2 h
      · exact h.elim
    · exact h.elim
  · exact h.elim
theorem zdv{o:OMem}{sz:Nat}{el:TypeId}{x:SV}{ce:CE}{eat:List Nat}(h:rowOf o sz el x=some (ce,eat)) :
  (x=.cv (.one .nils)∧ce=[]∧eat=[])∨∃ k,x=.cv (.one (.own k))∧getO o k=some (ce,sz,el)∧eat=[k]:=by
 unfold rowOf at h;split at h
 ·simp only [Option.some.injEq,Prod.mk.injEq]at h;exact .inl ⟨rfl,h.1.symm,h.2.symm⟩
 ·rename_i k;split at h
  ·rename_i ce' s t hg;split at h
   ·rename_i hc;obtain⟨rfl,rfl⟩:=hc;simp only [Option.some.injEq,Prod.mk.injEq]at h;obtain⟨rfl,rfl⟩:=h;exact .inr ⟨k,rfl,hg,rfl⟩
   ·cases h
  ·cases h
 ·cases h
theorem zbm{G:Cfg}{st:St}{o:Oper}{K:St→Env→Prop}{ρ:Env}(wf:st.WF)(h:opa (PA G.P W Q QM QP) G st o K ρ):Rsv G.P W st o K ρ:=by
 unfold opa at h;obtain⟨dst,op,type,pos,after,guard⟩:=o;cases op <;> first | exact h.elim | skip
 rename_i cl;obtain⟨callee,args,argTypes⟩:=cl;cases callee <;> first | exact h.elim | skip
 rename_i bi;cases bi <;> first | exact h.elim | skip
 simp only at h;generalize ha:args.toList=al at h;generalize ht:argTypes.toList=tl at h;split at h;rotate_left
 ·exact h.elim
 rename_i x y t t';have ea:args=#[x,y]:=by apply Array.ext';rw [ha]
 have et:argTypes=#[t,t']:=by apply Array.ext';rw [ht]
 subst ea et;generalize hu:G.P.underlying t=u at h;split at h;rotate_left
 ·exact h.elim
 rename_i el;generalize hi:G.P.info? el=u2 at h;generalize hzz:zeroA G.P el=u3 at h;split at h;rotate_left
 ·exact h.elim
 rename_i i z;split at h;rotate_left
 ·exact h.elim
 rename_i hc;obtain⟨rfl,c1,c2,c3⟩:=hc;generalize hro:rowOf st.o i.size el (st.ev x)=u4 at h;split at h;rotate_left
 ·exact h.elim
 rename_i ce eat
 obtain⟨add,ca,ρa,h,a1,a2,a3,a4,a5,a6,a7⟩:=zfs wf c1 (wf.ev y) h;obtain⟨nl,cb,ρb,h,b1,b2,b3,b4,b5⟩:=zxa h;obtain⟨hbd,h⟩:=zb h;have hle:=Ctr.le_trans a1 b1;have hlk:=Env.like_trans a1 a3 b3;unfold St.newO at h;split at h;rotate_left
 ·exact h.elim
 rename_i hwce;obtain⟨h1,h2⟩:=zj h;have hcc:=(zfa {st with o:=(cb.nk,ceApp ce add,i.size,el)::delOs st.o eat} dst (.cv (.one (rowAt 0 cb.nk))) {cb with nk:=cb.nk + 4}).1;refine⟨_,ρb,.cv (.one (rowAt 0 cb.nk)),eat,h1,by rw [hcc];exact Ctr.le_trans hle (Ctr.le_nk cb 4),hlk,fun ρ'' hl => ?_⟩;rw [hcc]at hl;have hlb:Env.like cb ρb ρ'':=⟨hl.i,hl.b,hl.v,hl.p,hl.s,hl.l⟩
 have hrw:∀ k,k∈blksOf (svCells (st.ev x))∨k∈blksOf (svCells (st.ev y))→k∈readsOf st ⟨dst,.call ⟨.builtin .append,#[x,y],#[t',t']⟩,type,pos,after,guard⟩:=fun k hk=>by
  have app:∀ (l1 l2:List At),blksOf (l1++l2)=blksOf l1++blksOf l2:=by
   intro l1 l2
   induction l1 with
   | nil=>rfl
   | cons a l1 ih=>cases a <;> simp [blksOf,ih]
  simp only [readsOf,List.map_cons,List.map_nil,List.flatMap_cons,List.flatMap_nil,List.append_nil,app];exact List.mem_append.2 hk
 have hro':=zdv hro
 have heat:∀ k∈eat,k∈writesOf st ⟨dst,.call ⟨.builtin .append,#[x,y],#[t',t']⟩,type,pos,after,guard⟩∧(getO st.o k).isSome=true:=fun k hk=>by
  rcases hro' with ⟨_,_,rfl⟩ | ⟨k0,hx,hg,rfl⟩
  ·cases hk
  ·simp only [List.mem_singleton]at hk;subst hk;exact⟨by simp [writesOf,hx,svCells,CV.cells,blksOf],by rw [hg];rfl⟩
 refine zpo 0 wf hle (b2.trans a2) hwce heat (fun v hv=>.inr ?_) (fun β a w hB hops hrd=>znaa ?_) h2
 ·simp only [entIds]at hv;rcases zwf ce add hv with hv | hv
  ·rcases hro' with ⟨_,rfl,_⟩ | ⟨k0,hx,hg,rfl⟩
   ·cases hv
   ·exact⟨k0,_,List.mem_append.2 (.inr (heat k0 (by simp)).1),zla (wf.ap k0 _ hg) hg,hv⟩
  ·obtain⟨j,e,j1,j2,j3⟩:=a7 v hv;exact⟨j,e,List.mem_append.2 (.inl (hrw j (.inr j1))),j2,j3⟩
 ·
  have hz:∃ z0,i.zero=some z0∧z0.cells.size=i.size:=by
   obtain⟨i',v,q1,q2,q3⟩:=zfq hzz;rw [hi]at q1;cases q1;refine⟨v,q2, ?_⟩;rw [← q3 ρ'' β,CV.cells_den];simpa using c2
  obtain⟨z0,hz0,hz1⟩:=hz;have ey:=hops y (by simp [Op.operands,Call.operands]) a5
  have ex:a.eval x=(st.ev x).den ρ'' β:=hops x (by simp [Op.operands,Call.operands]) (by
   rcases hro' with ⟨hx,_⟩ | ⟨k0,hx,_⟩ <;> rw [hx] <;> simp)
  obtain⟨m,s1,s2⟩:=a6 ρ'' β w (Env.like_trans b1 b3 hlb) hB (fun k hk e hg=>hrd k (List.mem_append.2 (.inl (hrw k (.inr hk)))) e hg);have hn:=b5 ρ'' β hlb;have hbd2:nl.den ρ''≤maxRow:=by rw [IE.den_like hlb b4];exact hbd
  rw [hn,zlf,List.length_append,s2]at hbd2;have hlo:OwnB W w.heap.size:=OwnB.mk (.inr hB.size)
  obtain⟨b,code,n,base,hv,hrow,hbk⟩:∃ b code n base,(st.ev x).den ρ'' β=ownV b code n base∧RowOld (OwnB W) b code n base (ceDen ρ'' β ce) i.size el w ∧
    (2≤code→∃ j e,j∈eat∧getE st.m st.o j=some e∧blkE β j e=some b):=by
   rcases hro' with ⟨hx,rfl,rfl⟩ | ⟨k0,hx,hg,rfl⟩
   ·exact⟨0,0,0,0,by rw [hx];rfl,⟨by simp [ceDen],c1,.inl ⟨by omega,rfl⟩⟩,fun h=>by omega⟩
   ·have hE:=zla (wf.ap k0 _ hg) hg
    have:=hrd k0 (List.mem_append.2 (.inr (heat k0 (by simp)).1)) _ hE
    exact⟨β k0,β (k0 + 1),β (k0 + 2),β (k0 + 3),by rw [hx];rfl,RowOkP.old this c1,fun h=>⟨k0,_,by simp,hE,by simp only [blkE,h,if_true]⟩⟩
  have hnm:n + m≤1073741824:=by
   rw [hrow.1,← Nat.add_mul,Nat.mul_div_cancel _ c1]at hbd2;simp only [maxRow]at hbd2;omega
  obtain⟨b',code',base',w',p1,p2,p3,p4,p5⟩:=zcv (P:=G.P) (t:=t') (ty:=type) w hu hi hz0 rfl hz1 hrow ((st.ev y).den ρ'' β) m (ceDen ρ'' β add) s1 s2 (zib ρ'' β add) (by simp [maxLen];omega)
   (by
    have h1:(n + m) * i.bytes≤1073741824 * 131072:=Nat.mul_le_mul hnm c3
    omega) hlo
  refine⟨b',code',n + m,base',w', ?_,by rw [zlf];exact .inl p2,p3,fun k hk hnk=>p4 k hk fun h2 he => ?_,fun h2 => ?_⟩
  ·simp [execOp,resolve,invoke,builtin,ex,ey,hv,p1,rowV]
  ·obtain⟨j,e,j1,j2,j3⟩:=hbk h2;exact hnk j e j1 j2 (by rw [j3,he])
  ·rcases p5 h2 with h3 | ⟨h3,rfl⟩
   ·exact .inl h3
   ·obtain⟨j,e,j1,j2,j3⟩:=hbk h3;exact .inr ⟨j,e,j1,j2,j3⟩
end Vc
set_option linter.unusedVariables false
namespace Vc
open Go Go.RowKit
variable {P:Program} {W:Wld} {Q:Value→Prop} {QM QP:World→Value→Prop}
theorem zgs{ce:CE}{ix:IE}{sz off:Nat}{cs:List At}{p:Nat}(h:knownAt ce ix sz off=some (cs,p)):ceAts ce=some cs:=by
 unfold knownAt at h;split at h
 ·rename_i j cs' h1;simp only [Option.some.injEq,Prod.mk.injEq]at h;rw [← h.1];exact h1
 ·cases h
theorem zwy{α:Type}(A V:List α)(p n L:Nat)(h1:p + n≤L)(h2:L≤A.length)(hv:V.length=n):(A.take p++V++A.drop (p + n)).take L=(A.take L).take p++V++(A.take L).drop (p + n):=by
 apply List.ext_getElem?;intro i;simp only [List.getElem?_take,List.getElem?_append,List.length_take,List.length_append,List.getElem?_drop,hv];have a1:min p A.length=p:=Nat.min_eq_left (by omega);have a2:min p (min L A.length)=p:=by omega
 simp only [a1,a2];by_cases hi:i < L
 ·rw [if_pos hi];by_cases hp:i < p + n
  ·rw [if_pos hp,if_pos hp];by_cases hq:i < p
   ·simp only [hq,if_true];rw [if_pos hi]
   ·simp only [hq,if_false]
  ·rw [if_neg hp,if_neg hp,if_pos (by omega)]
 ·rw [if_neg hi];have hp:¬ i < p + n:=by omega
  rw [if_neg hp,if_neg (by omega)]
theorem ziw{m:Mem}{o:OMem}{k0:Nat}{ce ce':CE}{sz:Nat}{el:TypeId}(hm:getM m k0=none)(h:getO o k0=some (ce,sz,el))(k:Nat):getE m (setO o k0 ce') k=if k0=k then some (.row ce' sz el)else getE m o k:=by
 unfold getE;rw [zkd];by_cases hk:k0=k
 ·subst hk;rw [if_pos rfl,if_pos rfl,hm,h];rfl
 ·rw [if_neg hk,if_neg hk]
theorem zpc{st:St}{o:Oper}{ρ:Env}{k0:Nat}{ce ce':CE}{sz:Nat}{el:TypeId}{c:Ctr}(wf:st.WF)(hle:st.c.le c)(hnk:c.nk=st.c.nk)(hg0:getO st.o k0=some (ce,sz,el))(hwr:k0∈writesOf st o)(h3:ceWf c ce'=true)
  (hids:∀ x∈ce'.flatMap sgIds,x∈valIds st o∨x∈ce.flatMap sgIds)
  (h4:∀ (β:Nat→Nat) (a:Act) (w:World),OpsOk st o ρ β a→Holds W ρ β k0 (.row ce sz el) w →
   ∃ w',(execOp a.eval o).run P w=.ok .skip w'∧Holds W ρ β k0 (.row ce' sz el) w'∧(w'.os=w.os∧w'.tape=w.tape∧w'.output=w.output∧w.heap.size≤w'.heap.size)∧(∀ b,b < w.heap.size→blkE β k0 (.row ce sz el)≠some b→w'.heap[b]? = w.heap[b]?))
  (h5:PutOk {st with o:=setO st.o k0 ce'} o.dst .any c):OFact P W st o ρ ({st with o:=setO st.o k0 ce'}.putS o.dst .any c) .any [k0]:=by
 obtain⟨q1,q2,q3,q4,q5,q6⟩:=zfa {st with o:=setO st.o k0 ce'} o.dst .any c;have hmn:=wf.ap k0 _ hg0
 have hm:∀ k,getE ({st with o:=setO st.o k0 ce'}.putS o.dst .any c).m ({st with o:=setO st.o k0 ce'}.putS o.dst .any c).o k=if k0=k then some (.row ce' sz el)else getE st.m st.o k:=fun k=>by
  rw [q2,q4];exact ziw hmn hg0 k
 have hk0:=(wf.o k0 ce sz el hg0).1;have g:=wf.grow hle;refine⟨fun hk=>by rw [(zr _ _ _ _).1];exact hk,(zr _ _ _ _).2,q3,q5,q6,by rw [q1];exact hle, ?_,fun t'=>zt _ o.dst _ _ t',fun d hd=>(h5 d hd).1,fun k hk => ?_,fun k _ hk => ?_,fun k e' hk hg x hx => ?_,fun β a w hB ho hr _ next Q' hn => ?_⟩
 ·refine⟨fun i => ?_,by rw [q2,q1];exact g.m,fun k ce2 sz2 t2 hg => ?_,fun k x hk => ?_,by rw [q5,q1];exact g.r,by rw [q6,q1];exact g.d,by rw [(zr _ _ _ _).1,q1];exact g.k,by rw [(zr _ _ _ _).2,q1];exact g.df⟩
  ·rw [zt,q1];by_cases hd:o.dst=some i
   ·rw [if_pos hd];rfl
   ·rw [if_neg hd];exact g.t i
  ·rw [q4,zkd]at hg;rw [q1];by_cases hk:k0=k
   ·subst hk;rw [if_pos rfl,hg0]at hg;simp only [Option.map_some,Option.some.injEq,Prod.mk.injEq]at hg;obtain⟨rfl,rfl,rfl⟩:=hg;exact⟨by omega,h3⟩
   ·rw [if_neg hk]at hg;exact g.o k ce2 sz2 t2 hg
  ·rw [q4,zkd]at hk;rw [q2];by_cases hkk:k0=k
   ·subst hkk;exact hmn
   ·rw [if_neg hkk]at hk;exact wf.ap k x hk
 ·simp only [List.mem_singleton]at hk;subst hk;exact⟨hwr,by omega⟩
 ·rw [hm,if_neg (fun e=>hk (by simp [e]))]
 ·rw [hm]at hg;by_cases hkk:k0=k
  ·rw [if_pos hkk]at hg;cases hg;rcases hids x hx with h | h
   ·exact .inl h
   ·exact .inr ⟨k0,_,List.mem_append.2 (.inr hwr),zla hmn hg0,h⟩
  ·rw [if_neg hkk]at hg;rcases hk with hk | hk
   ·simp only [List.mem_singleton]at hk;exact (hkk hk.symm).elim
   ·rw [wf.beyond hk]at hg;cases hg
 ·have hold:=hr k0 (List.mem_append.2 (.inr hwr)) _ (zla hmn hg0);obtain⟨w',r1,r2,⟨r3,r4,r5,r6⟩,r7⟩:=h4 β a w ho hold;unfold Oper.wp;rw [r1,Oper.upon_skip];refine hn β _ _ (fun h=>(h rfl).elim) ⟨r3,r4,r5,r6,fun b hb hnb=>r7 b hb (hnb k0 _ (by simp) (zla hmn hg0)),fun _ _=>rfl,fun k e' hk hg => ?_,fun k k' e e' _ hk hk' hg hg' _ _ => ?_⟩
  ·rw [hm]at hg;by_cases hkk:k0=k
   ·rw [if_pos hkk]at hg;cases hg;subst hkk;exact⟨r2,fun b hb=>.inr ⟨k0,_,by simp,zla hmn hg0,hb,.inl rfl⟩⟩
   ·rw [if_neg hkk]at hg;rcases hk with hk | hk
    ·simp only [List.mem_singleton]at hk;exact (hkk hk.symm).elim
    ·rw [wf.beyond hk]at hg;cases hg
  ·have one:∀ {k e},(k ∈ [k0]∨st.c.nk≤k)→getE ({st with o:=setO st.o k0 ce'}.putS o.dst .any c).m ({st with o:=setO st.o k0 ce'}.putS o.dst .any c).o k=some e→k=k0:=by
    intro k e hk hg;rcases hk with hk | hk
    ·simpa using hk
    ·rw [hm,if_neg (by omega),wf.beyond hk]at hg;cases hg
   rw [one hk hg,one hk' hg']
theorem zjt{lo:Nat→Prop}{w:World}{z:Array Value}{n c sz:Nat}{el:TypeId}(hs:0 < sz)(hz:z.size=sz)(hlo:lo w.heap.size)(hc:c≤maxLen)(hn:n=0∨n=c) :
  RowOld lo w.heap.size (c + 1) n 0 (times z.toList n) sz el (w.alloc (.cells (madeCells z (c * sz)) el)):=by
 refine⟨by rw [zvd];simp [hz],hs, ?_⟩;by_cases h0:c=0
 ·exact .inl ⟨by omega,by omega⟩
 ·refine .inr ⟨by omega,rfl,hlo,by omega,by simpa using hc,madeCells z (c * sz),heap_alloc_new w _,by simp [size_madeCells], ?_⟩
  have hcells:madeCells z (c * sz)=(times z.toList c).toArray:=by
   rw [← hz];exact zqn z c (by omega)
  rw [hcells];rcases hn with rfl | rfl
  ·simp [times]
  ·have:(times z.toList n).length=n * sz:=by rw [zvd];simp [hz]
   rw [← this,List.take_length]
theorem zuj{s:Sem Value}{w w':World}{v:Value}(h:s.run P w=.ok v w'):((do pure (Next.value (← s))):Sem Next).run P w=.ok (.value v) w':=by
 simp [h]
theorem zqo(l:List Value)(H:∀ x:{x // x∈l},x.1.oneCell'=true):(l.attach.map fun x=>(⟨x.1,H x⟩:OV)).map (fun y:OV=>y.1)=l:=by
 rw [List.map_map];exact List.attach_map_subtype_val l
theorem zro{s d e:TypeId}(h:strBytes P s d=some e):P.underlying s=some .string∧P.underlying d=some (.slice e)∧P.underlying e=some (.int .u8):=by
 unfold strBytes at h;split at h
 ·rename_i h1 h2;split at h
  ·rename_i h3;simp only [Option.some.injEq]at h;subst h;exact⟨h1,h2,h3⟩
  ·cases h
 ·cases h
theorem zev(l:List UInt8):idsOf (bytesA l)=[]:=by
 induction l with
 | nil=>rfl
 | cons b l ih=>simpa [bytesA,idsOf]using ih
theorem zfv(ρ:Env)(β:Nat→Nat)(l:List UInt8):(bytesA l).map (At.den ρ β)=l.map u8V:=by
 simp only [bytesA,List.map_map];rfl
theorem zkt{c:Ctr}:∀ {ce:CE} {cs:List At},ceAts ce=some cs→ceWf c ce=true→cs.all (At.wf c)=true∧∀ y∈idsOf cs,y∈ce.flatMap sgIds
  | [],cs,h,_=>by simp only [ceAts,Option.some.injEq]at h;subst h;exact⟨rfl,fun y hy=>by cases hy⟩
  | .var j::r,cs,h,_=>by simp [ceAts]at h
  | .ats l::r,cs,h,hw=>by
    simp only [ceAts,Option.map_eq_some_iff]at h;obtain⟨l',h1,rfl⟩:=h;simp only [ceWf,List.all_cons,Bool.and_eq_true]at hw;obtain⟨i1,i2⟩:=zkt h1 (show ceWf c r=true from hw.2);have hl:l.all (At.wf c)=true:=hw.1;refine⟨by rw [List.all_append,hl,i1];rfl,fun y hy => ?_⟩;rw [zd]at hy;rw [List.flatMap_cons];rcases List.mem_append.1 hy with hy | hy
    · exact List.mem_append.2 (.inl hy)
    · exact List.mem_append.2 (.inr (i2 y hy))
theorem zcm{G:Cfg}{st:St}{o:Oper}{K:St→Env→Prop}{ρ:Env}(wf:st.WF){t:TypeId}{m k v:Operand}(ho:o.op=.mapUpdate t m k v∨o.op=.insert t m k v)
    (h:doUpdate (PA G.P W Q QM QP) G st o.dst t (st.ev m) (st.ev k) (st.ev v) K ρ):Rsv G.P W st o K ρ:=by
  unfold doUpdate at h;generalize hx:mapTy G.P t=u1 at h;generalize hm:st.ev m=sm at h;generalize hk:st.ev k=sk at h;generalize hv:st.ev v=sv at h;split at h;rotate_left
  · exact h.elim
  rename_i x j kv vv;generalize hg:getO st.o j=u2 at h;split at h;rotate_left
  · exact h.elim
  rename_i ce sz tc;generalize hce:ceAts ce=u4 at h;split at h;rotate_left
  · clear hce;split at h;rotate_left
    · exact h.elim
    rename_i hc;obtain⟨c1,c2,rfl,rfl,c5,c6⟩:=hc;obtain⟨g1,g2,g3,g4,g5,ρ1,h1,hl1,hfin⟩:=zkk h;obtain⟨m1,m2,m3,m4,m5,m6,m7,m8⟩:=zfb hx;have hle1:st.c.le {st.c with ni:=st.c.ni + 1}:=Ctr.le_ni st.c 1;have g4':ceWf {st.c with ni:=st.c.ni + 1} ce=true:=zmh hle1 g4;have wk:kv.wf st.c=true:=by have:=wf.ev k;rw [hk]at this;exact this
    have wv:vv.wf st.c=true:=by have:=wf.ev v;rw [hv]at this;exact this
    have hwr:j∈writesOf st o:=by rcases ho with ho | ho <;> simp [writesOf,ho,hm,svCells,CV.cells,blksOf]
    have hvi:valIds st o=idsOf kv.cells++idsOf vv.cells:=by rcases ho with ho | ho <;> simp [valIds,ho,hk,hv,svIds]
    have run:∀ (ρ'':Env),Env.like {st.c with ni:=st.c.ni + 1} ρ1 ρ''→∀ (β:Nat→Nat) (a:Act) (w:World) (ce':CE),OpsOk st o ρ'' β a→Holds W ρ'' β j (.row ce 0 x.no) w →
        ceDen ρ'' β ce'=(match mfindF x.ks.length (x.ks.length + x.ne) (kv.cells.map (At.den ρ'' β)) (ceDen ρ'' β ce).length (ceDen ρ'' β ce)with
          | some i=>(ceDen ρ'' β ce).take (i * (x.ks.length + x.ne) + x.ks.length)++vv.cells.map (At.den ρ'' β)++(ceDen ρ'' β ce).drop (i * (x.ks.length + x.ne) + x.ks.length + x.ne)
          | none=>ceDen ρ'' β ce++(kv.cells.map (At.den ρ'' β)++vv.cells.map (At.den ρ'' β))) →
        ∃ w',(execOp a.eval o).run G.P w=.ok .skip w'∧Holds W ρ'' β j (.row ce' 0 x.no) w'∧(w'.os=w.os∧w'.tape=w.tape∧w'.output=w.output∧w.heap.size≤w'.heap.size)∧(∀ b,b < w.heap.size→blkE β j (.row ce 0 x.no)≠some b→w'.heap[b]? = w.heap[b]?):=by
      intro ρ'' hl β a w ce' hops hrow hce';have e1:=hops m (by rcases ho with ho | ho <;> rw [ho] <;> simp [Op.operands]) (by rw [hm];simp);have e2:=hops k (by rcases ho with ho | ho <;> rw [ho] <;> simp [Op.operands]) (by rw [hk];simp);have e3:=hops v (by rcases ho with ho | ho <;> rw [ho] <;> simp [Op.operands]) (by rw [hv];simp);rw [hm]at e1;rw [hk]at e2;rw [hv]at e3;have e1':a.eval m=.map (some (β j)):=e1;have e2':a.eval k=kv.den ρ'' β:=e2;have e3':a.eval v=vv.den ρ'' β:=e3;rcases hrow with hrow | ⟨_,own,code,hoo⟩
      · exact absurd hrow.2.1 (by omega)
      obtain⟨es,clock,hb,hes,hsh⟩:=(zcc hx).1 hoo;obtain⟨k1,k2⟩:=zjo hx c1 ρ'' β
      have hlen:es.toList.length≤(ceDen ρ'' β ce).length:=by
        rw [← hes,zle es.toList hsh];exact Nat.le_mul_of_pos_right _ (by omega)
      obtain⟨f1,f2⟩:=zph hx g1 (w:=w) k1 es.toList _ 0 hlen hsh (by rw [hes];exact (hfin ρ'' hl β).1);rw [hes]at f1 f2;generalize hmf:mfindF x.ks.length (x.ks.length + x.ne) (kv.cells.map (At.den ρ'' β)) (ceDen ρ'' β ce).length (ceDen ρ'' β ce)=r0 at f1 f2 hce'
      have hru:=zmn hx hb (vv:=vv.den ρ'' β) k1 k2 f1 (fun i v' hr=>by
        simp only [Option.map_eq_some_iff,Prod.mk.injEq,Nat.zero_add]at hr;obtain⟨j0,hj0,rfl,_⟩:=hr;exact f2 _ hj0)
      obtain⟨sk1,_⟩:=zav c1 ρ'' β;obtain⟨sv1,_⟩:=zav c2 ρ'' β;have hlt:β j < w.heap.size:=heap_lt hb
      have fin:∀ (es':Array MapEntry) (clock':Nat),(Instr.mapUpdate t (.map (some (β j))) (kv.den ρ'' β) (vv.den ρ'' β)).run G.P w=.ok () {w with heap:=w.heap.setIfInBounds (β j) (.map es' clock')} →
          es'.toList.flatMap entCells=ceDen ρ'' β ce'→(∀ e∈es'.toList,shOk (shNo x.gk x.ks.length) e.key∧shOk (shNo x.ge x.ne) e.val) →
          ∃ w',(execOp a.eval o).run G.P w=.ok .skip w'∧Holds W ρ'' β j (.row ce' 0 x.no) w'∧(w'.os=w.os∧w'.tape=w.tape∧w'.output=w.output∧w.heap.size≤w'.heap.size)∧(∀ b,b < w.heap.size→blkE β j (.row ce 0 x.no)≠some b→w'.heap[b]? = w.heap[b]?):=by
        intro es' clock' hrun hcells hsh';refine⟨{w with heap:=w.heap.setIfInBounds (β j) (.map es' clock')}, ?_,.inr ⟨rfl,own,code,(zcc hx).2 ⟨es',clock', ?_,hcells,hsh'⟩⟩,⟨rfl,rfl,rfl,by simp⟩,fun b hb' hnb => ?_⟩
        · rcases ho with ho | ho <;> simp only [execOp,ho,e1',e2',e3',Sem.run_bind,hrun,Result.andThen_ok,Sem.run_pure]
        · simp [hlt]
        · have hne:β j≠b:=fun he=>hnb (by simp only [blkE,code,if_true,he]);exact Array.getElem?_setIfInBounds_ne hne
      cases r0 with
      | none =>
        simp only at hce';refine fin _ _ hru ?_ fun e he => ?_
        · rw [hce'];simp only [Array.toList_push,List.flatMap_append,hes,List.flatMap_cons,List.flatMap_nil,List.append_nil,entCells,CV.cells_den]
        · simp only [Array.toList_push,List.mem_append,List.mem_singleton]at he;rcases he with he | rfl
          · exact hsh e he
          · exact⟨sk1,sv1⟩
      | some i =>
        obtain⟨e,q1,q2,q3⟩:=f2 i rfl;simp only at hce';simp only [Option.map_some,Nat.zero_add]at hru;refine fin _ _ hru ?_ fun e' he => ?_
        · rw [hce',Array.toList_modify,ztf es.toList i q1 q2 hsh,hes,CV.cells_den]
        · rw [Array.toList_modify]at he;obtain⟨n,hn⟩:=List.mem_iff_getElem?.1 he;rw [List.getElem?_modify]at hn;simp only [Option.map_eq_map,Option.map_eq_some_iff]at hn;obtain⟨e0,h0,rfl⟩:=hn
          have:=hsh e0 (List.mem_of_getElem? h0)
          split
          · exact⟨sk1,sv1⟩
          · exact this
    have hvl:vv.cells.length=x.ne:=(zav c2 ρ b0).2;have hix:(IE.var st.c.ni).wf {st.c with ni:=st.c.ni + 1}=true:=by show decide (st.c.ni < st.c.ni + 1)=true;simp
    rcases zaa h1 with ⟨e1,h1⟩ | ⟨e1,h1⟩
    ·
      have hone:∀ v∈(LP.set ce (IE.var st.c.ni) (x.ks.length + x.ne) x.ks.length vv.cells).den ρ1,v.oneCell'=true:=fun v hv=>by
        simp only [LP.den,List.mem_append]at hv;rcases hv with (hv | hv) | hv
        · exact zib _ _ _ _ (List.mem_of_mem_take hv)
        · obtain⟨a,_,rfl⟩:=List.mem_map.1 hv;exact At.den_one _ _ _
        · exact zib _ _ _ _ (List.mem_of_mem_drop hv)
      have hL:=h1 (((LP.set ce (IE.var st.c.ni) (x.ks.length + x.ne) x.ks.length vv.cells).den ρ1).attach.map fun y=>(⟨y.1,hone y.1 y.2⟩:OV)) (zqo _ fun x=>hone x.1 x.2);generalize hLd:(((LP.set ce (IE.var st.c.ni) (x.ks.length + x.ne) x.ks.length vv.cells).den ρ1).attach.map fun y=>(⟨y.1,hone y.1 y.2⟩:OV))=L at hL;have hLv:L.map (·.1)=(LP.set ce (IE.var st.c.ni) (x.ks.length + x.ne) x.ks.length vv.cells).den ρ1:=by rw [← hLd];exact zqo _ fun x=>hone x.1 x.2
      obtain⟨p1,p2⟩:=zj hL;have hcc:=(zfa {st with o:=setO st.o j [.var st.c.nl]} o.dst .any {st.c with ni:=st.c.ni + 1,nl:=st.c.nl + 1}).1;have hle2:Ctr.le {st.c with ni:=st.c.ni + 1} {st.c with ni:=st.c.ni + 1,nl:=st.c.nl + 1}:=Ctr.le_nl {st.c with ni:=st.c.ni + 1} 1;refine⟨_,ρ1.setL st.c.nl L,.any,[j],p1,by rw [hcc];exact Ctr.le_trans hle1 hle2,Env.like_trans hle1 hl1 (zia {st.c with ni:=st.c.ni + 1} ρ1 L),fun ρ'' hlk => ?_⟩;rw [hcc]at hlk;have hlk1:Env.like {st.c with ni:=st.c.ni + 1} ρ1 ρ'':=Env.like_trans hle2 (zia {st.c with ni:=st.c.ni + 1} ρ1 L) hlk;refine zpc wf (Ctr.le_trans hle1 hle2) rfl hg hwr ?_ (fun y hy' => ?_) (fun β a w hops hrow=>run ρ'' hlk1 β a w _ hops hrow ?_) p2
      · simp [ceWf,Sg.wf]
      · simp [sgIds]at hy'
      · have hl2:ρ''.l st.c.nl=L:=by
          have:=hlk.l st.c.nl (by show st.c.nl < st.c.nl + 1;omega)
          rw [this];simp [Env.setL]
        have hidx:=(hfin ρ'' hlk1 β).2;have e0:(IE.var st.c.ni).den ρ''=(IE.var st.c.ni).den ρ1:=IE.den_like hlk1 hix
        have hge:0≤(IE.var st.c.ni).den ρ'':=by
          rw [e0];simpa [BE.den,cmpB,IE.den]using e1
        unfold mfind at hidx;cases hmf:mfindF x.ks.length (x.ks.length + x.ne) (kv.cells.map (At.den ρ'' β)) (ceDen ρ'' β ce).length (ceDen ρ'' β ce)with
        | none=>rw [hmf]at hidx;simp only at hidx;omega
        | some i =>
          rw [hmf]at hidx;simp only at hidx;have hi1:((IE.var st.c.ni).den ρ1).toNat=i:=by rw [← e0,hidx];rfl
          have q1:ceDen ρ1 b0 ce=ceDen ρ'' β ce:=by rw [zlc ρ1 b0 β g2,zga (β:=β) (β':=β) hlk1 (fun _ _=>rfl) g4']
          have q2:vv.cells.map (At.den ρ1 b0)=vv.cells.map (At.den ρ'' β):=by
            have hvf:vv.cells.all At.flat=true:=by
              cases vv with
              | one a=>simpa [CV.cells,CV.flat]using c5
              | agg l=>exact c5
            rw [zxb ρ1 b0 β hvf,zha (β:=β) (β':=β) hlk1 (fun _ _=>rfl) (List.all_eq_true.2 fun y hy=>At.wf_le hle1 (List.all_eq_true.1 (CV.wf_cells wv) y hy))]
          simp only [ceDen,Sg.den,List.append_nil,hl2,hLv,LP.den,q1,q2,hi1,hvl]
    ·
      obtain⟨p1,p2⟩:=zj h1;have hcc:=(zfa {st with o:=setO st.o j (ceApp ce [.ats (kv.cells++vv.cells)])} o.dst .any {st.c with ni:=st.c.ni + 1}).1;refine⟨_,ρ1,.any,[j],p1,by rw [hcc];exact hle1,hl1,fun ρ'' hlk => ?_⟩;rw [hcc]at hlk;refine zpc wf hle1 rfl hg hwr ?_ (fun y hy' => ?_) (fun β a w hops hrow=>run ρ'' hlk β a w _ hops hrow ?_) p2
      · refine zco _ _ _ g4' ?_;simp only [ceWf,List.all_cons,List.all_nil,Bool.and_true,Sg.wf,List.all_append];rw [List.all_eq_true.2 fun y hy=>At.wf_le hle1 (List.all_eq_true.1 (CV.wf_cells wk) y hy),List.all_eq_true.2 fun y hy=>At.wf_le hle1 (List.all_eq_true.1 (CV.wf_cells wv) y hy)];rfl
      · rcases zwf _ _ hy' with hy' | hy'
        · exact .inr hy'
        · simp only [List.flatMap_cons,sgIds,List.flatMap_nil,List.append_nil,zd]at hy';rw [hvi];exact .inl hy'
      · have hidx:=(hfin ρ'' hlk β).2;have e0:(IE.var st.c.ni).den ρ''=(IE.var st.c.ni).den ρ1:=IE.den_like hlk hix
        have hge:¬ 0≤(IE.var st.c.ni).den ρ'':=by
          rw [e0];simpa [BE.den,cmpB,IE.den]using e1
        unfold mfind at hidx;cases hmf:mfindF x.ks.length (x.ks.length + x.ne) (kv.cells.map (At.den ρ'' β)) (ceDen ρ'' β ce).length (ceDen ρ'' β ce)with
        | some i=>rw [hmf]at hidx;simp only at hidx;omega
        | none=>simp only [zlf,ceDen,Sg.den,List.append_nil,List.map_append]
  rename_i cs;split at h;rotate_left
  · exact h.elim
  rename_i hc;obtain⟨c1,c2,rfl,rfl⟩:=hc;obtain⟨r,h1,h2⟩:=zye hx _ _ _ h;have wk:kv.wf st.c=true:=by have:=wf.ev k;rw [hk]at this;exact this
  have wv:vv.wf st.c=true:=by have:=wf.ev v;rw [hv]at this;exact this
  have hwr:j∈writesOf st o:=by rcases ho with ho | ho <;> simp [writesOf,ho,hm,svCells,CV.cells,blksOf]
  have hvi:valIds st o=idsOf kv.cells++idsOf vv.cells:=by rcases ho with ho | ho <;> simp [valIds,ho,hk,hv,svIds]
  obtain⟨hcw,hci⟩:=zkt hce (wf.o j ce _ _ hg).2
  have run:∀ (ρ'':Env),Env.like st.c ρ ρ''→∀ (β:Nat→Nat) (a:Act) (w:World) (ce':CE),OpsOk st o ρ'' β a→Holds W ρ'' β j (.row ce 0 x.no) w →
      ceDen ρ'' β ce'=(match r with
        | some (i,_)=>(cs.map (At.den ρ'' β)).take (i * (x.ks.length + x.ne) + x.ks.length)++vv.cells.map (At.den ρ'' β)++(cs.map (At.den ρ'' β)).drop (i * (x.ks.length + x.ne) + x.ks.length + x.ne)
        | none=>cs.map (At.den ρ'' β)++(kv.cells.map (At.den ρ'' β)++vv.cells.map (At.den ρ'' β))) →
      ∃ w',(execOp a.eval o).run G.P w=.ok .skip w'∧Holds W ρ'' β j (.row ce' 0 x.no) w'∧(w'.os=w.os∧w'.tape=w.tape∧w'.output=w.output∧w.heap.size≤w'.heap.size)∧(∀ b,b < w.heap.size→blkE β j (.row ce 0 x.no)≠some b→w'.heap[b]? = w.heap[b]?):=by
    intro ρ'' hl β a w ce' hops hrow hce';have e1:=hops m (by rcases ho with ho | ho <;> rw [ho] <;> simp [Op.operands]) (by rw [hm];simp);have e2:=hops k (by rcases ho with ho | ho <;> rw [ho] <;> simp [Op.operands]) (by rw [hk];simp);have e3:=hops v (by rcases ho with ho | ho <;> rw [ho] <;> simp [Op.operands]) (by rw [hv];simp);rw [hm]at e1;rw [hk]at e2;rw [hv]at e3;have e1':a.eval m=.map (some (β j)):=e1;have e2':a.eval k=kv.den ρ'' β:=e2;have e3':a.eval v=vv.den ρ'' β:=e3;rcases hrow with hrow | ⟨_,own,code,hoo⟩
    · exact absurd hrow.2.1 (by omega)
    obtain⟨es,clock,hb,hes,hsh⟩:=(zcc hx).1 hoo;rw [znf ρ'' β hce]at hes;obtain⟨k1,k2⟩:=zjo hx c1 ρ'' β;obtain⟨f1,f2⟩:=h2 ρ'' hl β w _ es.toList k1 hes hsh
    have hru:=zmn hx hb (vv:=vv.den ρ'' β) k1 k2 f1 (fun i v' hr=>by
      cases r with
      | none=>cases hr
      | some q =>
        simp only [Option.map_some,Option.some.injEq,Prod.mk.injEq,Nat.zero_add]at hr;obtain⟨rfl,_⟩:=hr;exact f2 q.1 q.2 rfl)
    obtain⟨sk1,_⟩:=zav c1 ρ'' β;obtain⟨sv1,_⟩:=zav c2 ρ'' β;have hlt:β j < w.heap.size:=heap_lt hb
    have fin:∀ (es':Array MapEntry) (clock':Nat),(Instr.mapUpdate t (.map (some (β j))) (kv.den ρ'' β) (vv.den ρ'' β)).run G.P w=.ok () {w with heap:=w.heap.setIfInBounds (β j) (.map es' clock')} →
        es'.toList.flatMap entCells=ceDen ρ'' β ce'→(∀ e∈es'.toList,shOk (shNo x.gk x.ks.length) e.key∧shOk (shNo x.ge x.ne) e.val) →
        ∃ w',(execOp a.eval o).run G.P w=.ok .skip w'∧Holds W ρ'' β j (.row ce' 0 x.no) w'∧(w'.os=w.os∧w'.tape=w.tape∧w'.output=w.output∧w.heap.size≤w'.heap.size)∧(∀ b,b < w.heap.size→blkE β j (.row ce 0 x.no)≠some b→w'.heap[b]? = w.heap[b]?):=by
      intro es' clock' hrun hcells hsh';refine⟨{w with heap:=w.heap.setIfInBounds (β j) (.map es' clock')}, ?_,.inr ⟨rfl,own,code,(zcc hx).2 ⟨es',clock', ?_,hcells,hsh'⟩⟩,⟨rfl,rfl,rfl,by simp⟩,fun b hb' hnb => ?_⟩
      · rcases ho with ho | ho <;> simp only [execOp,ho,e1',e2',e3',Sem.run_bind,hrun,Result.andThen_ok,Sem.run_pure]
      · simp [hlt]
      · have hne:β j≠b:=fun he=>hnb (by simp only [blkE,code,if_true,he]);exact Array.getElem?_setIfInBounds_ne hne
    cases r with
    | none =>
      refine fin _ _ hru ?_ fun e he => ?_
      · rw [hce'];simp only [Array.toList_push,List.flatMap_append,hes,List.flatMap_cons,List.flatMap_nil,List.append_nil,entCells,CV.cells_den]
      · simp only [Array.toList_push,List.mem_append,List.mem_singleton]at he;rcases he with he | rfl
        · exact hsh e he
        · exact⟨sk1,sv1⟩
    | some q =>
      obtain⟨i,vs⟩:=q;obtain⟨e,g1,g2,g3⟩:=f2 i vs rfl;simp only [Option.map_some,Nat.zero_add]at hru;refine fin _ _ hru ?_ fun e' he => ?_
      · rw [hce',Array.toList_modify,ztf es.toList i g1 g2 hsh,hes,CV.cells_den]
      · rw [Array.toList_modify]at he;obtain⟨n,hn⟩:=List.mem_iff_getElem?.1 he;rw [List.getElem?_modify]at hn;simp only [Option.map_eq_map,Option.map_eq_some_iff]at hn;obtain⟨e0,h0,rfl⟩:=hn
        have:=hsh e0 (List.mem_of_getElem? h0)
        split
        · exact⟨sk1,sv1⟩
        · exact this
  cases r with
  | none =>
    obtain⟨p1,p2⟩:=zj h1;have hcc:=(zfa {st with o:=setO st.o j [.ats (cs++(kv.cells++vv.cells))]} o.dst .any st.c).1;refine⟨_,ρ,.any,[j],p1,by rw [hcc];exact Ctr.le_refl _,Env.like_refl _ _,fun ρ'' hlk => ?_⟩;rw [hcc]at hlk;refine zpc wf (Ctr.le_refl _) rfl hg hwr ?_ (fun y hy' => ?_) (fun β a w hops hrow=>run ρ'' hlk β a w _ hops hrow ?_) p2
    · simp only [ceWf,List.all_cons,List.all_nil,Bool.and_true,Sg.wf,List.all_append,hcw,CV.wf_cells wk,CV.wf_cells wv,Bool.and_self]
    · simp only [List.flatMap_cons,sgIds,List.flatMap_nil,List.append_nil,zd]at hy';rw [hvi];rcases List.mem_append.1 hy' with hy' | hy'
      · exact .inr (hci y hy')
      · exact .inl hy'
    · simp only [ceDen,Sg.den,List.append_nil,List.map_append]
  | some q =>
    obtain⟨i,vs⟩:=q;simp only [Nat.zero_add]at h1;obtain⟨p1,p2⟩:=zj h1;have hcc:=(zfa {st with o:=setO st.o j [.ats (cs.take (i * (x.ks.length + x.ne) + x.ks.length)++vv.cells++cs.drop (i * (x.ks.length + x.ne) + x.ks.length + x.ne))]} o.dst .any st.c).1;refine⟨_,ρ,.any,[j],p1,by rw [hcc];exact Ctr.le_refl _,Env.like_refl _ _,fun ρ'' hlk => ?_⟩;rw [hcc]at hlk;refine zpc wf (Ctr.le_refl _) rfl hg hwr ?_ (fun y hy' => ?_) (fun β a w hops hrow=>run ρ'' hlk β a w _ hops hrow ?_) p2
    · simp only [ceWf,List.all_cons,List.all_nil,Bool.and_true,Sg.wf,List.all_append,(zy hcw _).1,(zy hcw (i * (x.ks.length + x.ne) + x.ks.length + x.ne)).2,CV.wf_cells wv,Bool.and_self]
    · simp only [List.flatMap_cons,sgIds,List.flatMap_nil,List.append_nil,zd]at hy';rw [hvi];rcases List.mem_append.1 hy' with hy' | hy'
      · rcases List.mem_append.1 hy' with hy' | hy'
        · exact .inr (hci y (znc _ _ hy'))
        · exact .inl (List.mem_append.2 (.inr hy'))
      · exact .inr (hci y (zoc _ _ hy'))
    · simp only [ceDen,Sg.den,List.append_nil,List.map_append,List.map_take,List.map_drop]
theorem zgq{G:Cfg}(hG:G.Ok){st:St}{o:Oper}{K:St→Env→Prop}{ρ:Env}(wf:st.WF){g:Operand}{args:Array Operand}{ats:Array TypeId}(ho:o.op=.call ⟨.value g,args,ats⟩){f:FuncId}(hg:st.ev g=.cv (.one (.fn f [])))
  (h:doGive (PA G.P W Q QM QP) G st o.dst f (args.toList.map st.ev) K ρ):Rsv G.P W st o K ρ:=by
 unfold doGive at h;generalize hall:args.toList.map st.ev=all at h;split at h;rotate_left
 ·exact h.elim
 rename_i k ik k2 off n cp;generalize hgo:getO st.o k=u1 at h;generalize hgm:getM st.m k2=u2 at h;split at h;rotate_left
 ·exact h.elim
 rename_i ce sz t cs t2;split at h;rotate_left
 ·exact h.elim
 rename_i hc;obtain⟨c1,c2,c3,c4⟩:=hc;obtain⟨h1,h⟩:=h;unfold St.newO at h;split at h;rotate_left
 ·exact h.elim
 rename_i hwce;obtain⟨p1,p2⟩:=zj h;have hcc:=(zfa {st with o:=(st.c.nk,ceApp [.ats ((cs.drop off).take (n * sz))] ce,sz,t)::delOs st.o [k]} o.dst (.cv (.one (rowAt 0 st.c.nk))) {st.c with nk:=st.c.nk + 4}).1;refine⟨_,ρ,.cv (.one (rowAt 0 st.c.nk)),[k],p1,by rw [hcc];exact Ctr.le_nk st.c 4,Env.like_refl _ _,fun ρ'' hl => ?_⟩;rw [hcc]at hl;have hlb:Env.like st.c ρ ρ'':=⟨hl.i,hl.b,hl.v,hl.p,hl.s,hl.l⟩
 have hrds:readsOf st o=blksOf (deepSV st.m st.o (SV.cv (.one (.own k))::SV.cv (.one (.int ik (.lit 0)))::SV.cv (.one (.lsl k2 off n cp)) :: [])):=by
  simp only [readsOf,ho,hg,List.map_nil,List.append_nil,hall]
 have hwrs:writesOf st o=ptrsOf (SV.cv (.one (.own k))::SV.cv (.one (.int ik (.lit 0)))::SV.cv (.one (.lsl k2 off n cp)) :: []):=by
  simp only [writesOf,ho,hg,List.map_nil,List.append_nil,hall]
 have hkw:k∈writesOf st o:=by rw [hwrs];exact zoo (j:=0) rfl
 have hk2:k2∈readsOf st o:=by
  rw [hrds];simp [deepSV,deep,blksOf,svCells,CV.cells]
 have hEk:=zla (wf.ap k _ hgo) hgo;refine zpo 0 wf (Ctr.le_refl _) rfl hwce (fun j hj => ?_) (fun x hx=>.inr ?_) (fun β a w hB hops hrd next Q' hn => ?_) p2
 ·simp only [List.mem_singleton]at hj;subst hj;exact⟨hkw,by rw [hgo];rfl⟩
 ·simp only [entIds]at hx;rcases zwf _ _ hx with hx | hx
  ·simp only [List.flatMap_cons,sgIds,List.flatMap_nil,List.append_nil]at hx;exact⟨k2,_,List.mem_append.2 (.inl hk2),zwb hgm,zoc _ _ (znc _ _ hx)⟩
  ·exact⟨k,_,List.mem_append.2 (.inr hkw),hEk,hx⟩
 ·have hargs:(SV.cv (.one (.own k))::SV.cv (.one (.int ik (.lit 0)))::SV.cv (.one (.lsl k2 off n cp)) :: []).map (SV.den ρ'' β)=(SV.cv (.one (.own k))::SV.cv (.one (.int ik (.lit 0)))::SV.cv (.one (.lsl k2 off n cp)) :: []).map (SV.den ρ β) :=
   List.map_congr_left fun x hx=>SV.den_like hlb (fun _ _=>rfl) (List.all_eq_true.1 c3 x hx)
  have eg:=hops g (by rw [ho];simp [Op.operands,Call.operands]) (by rw [hg];simp);rw [hg]at eg;have eg':a.eval g=.func (.func f) #[] #[]:=eg
  have ea:(args.map a.eval).toList=(args.toList.map st.ev).map (SV.den ρ'' β):=by
   rw [Array.toList_map]
   exact zca _ fun x hx=>hops x (by rw [ho];simp only [Op.operands,Call.operands];exact Array.mem_append.2 (.inr (Array.mem_toList_iff.1 hx))) (by
    have:st.ev x∈args.toList.map st.ev:=List.mem_map.2 ⟨x,hx,rfl⟩
    rw [hall]at this;simp only [List.mem_cons,List.not_mem_nil,or_false]at this;rcases this with h | h | h <;> rw [h] <;> simp)
  rw [hall]at ea
  have ec:(#[]:Array Value)++args.map a.eval ++ #[]=((SV.cv (.one (.own k))::SV.cv (.one (.int ik (.lit 0)))::SV.cv (.one (.lsl k2 off n cp)) :: []).map (SV.den ρ'' β)).toArray:=by
   apply Array.ext';rw [Array.toList_append,Array.toList_append,ea];simp
  have hx:(execOp a.eval o).run G.P w=(callFunc f ((SV.cv (.one (.own k))::SV.cv (.one (.int ik (.lit 0)))::SV.cv (.one (.lsl k2 off n cp)) :: []).map (SV.den ρ'' β)).toArray).run G.P w:=by
   simp only [execOp,ho,resolve,eg',Deferred.ofValue,Sem.run_bind,Sem.run_pure,Result.andThen_ok,invoke];rw [← ec]
  have hrow:=hrd k (List.mem_append.2 (.inr hkw)) _ hEk;unfold Oper.wp;rw [hx,hG.calls f c4 _ w,Oper.upon_enter,hargs];refine (h1 β w hB ?_).mono fun e w' he => ?_
  ·exact zkb wf.ap hlb (fun q cs t hq=>(wf.m q cs t hq).2) (fun q ce sz t hq=>(wf.o q ce sz t hq).2) _ fun q hq=>hrd q (List.mem_append.2 (.inl (by rw [hrds];exact hq)))
  ·obtain⟨b,code,n',base,rfl,q1,q2,q3,q4⟩:=he;refine hn b code n' base w' ?_ q2 (fun x hx hnx=>q3 x hx fun h2 he=>hnx k _ (by simp) hEk (by simp only [blkE,h2,if_true,he])) fun h2 => ?_
   ·rw [zga hlb (fun _ _=>rfl) hwce];refine q1.imp fun h2 _ => ?_;rcases q4 h2 with h | ⟨h,rfl⟩
    ·exact OwnB.mk (.inr (Nat.le_trans hB.size h))
    ·exact RowOkP.own hrow h
   ·rcases q4 h2 with h | ⟨h,rfl⟩
    ·exact .inl h
    ·exact .inr ⟨k,_,by simp,hEk,by simp only [blkE,h,if_true]⟩
theorem zdm{G:Cfg}{st:St}{o:Oper}{K:St→Env→Prop}{ρ:Env}(wf:st.WF)(h:opw (PA G.P W Q QM QP) G st o K ρ):Rsv G.P W st o K ρ:=by
  have finM:∀ (md:Nat) {ce:CE} {sz:Nat} {el:TypeId} {c:Ctr} {ρ1:Env},St.newO (PA G.P W Q QM QP) st o.dst [] ce sz el c K md ρ1→st.c.le c→c.nk=st.c.nk→Env.like st.c ρ ρ1→ce.flatMap sgIds=[] →
      (∀ ρ'',Env.like c ρ1 ρ''→∀ (β:Nat→Nat) (a:Act) (w:World),Bel W w→OpsOk st o ρ'' β a →
        ∃ b code n base w',(execOp a.eval o).run G.P w=.ok (.value (rowV md b code n base)) w'∧RowOkP (OwnB W) b code n base (ceDen ρ'' β ce) sz el w'∧(w'=w∨∃ ob w0,w'=w0.alloc ob∧(w0=w∨w0=w.drew))∧(2≤code→w.heap.size≤b))→Rsv G.P W st o K ρ:=by
    intro md ce sz el c ρ1 h hle hnk hl hid hr;unfold St.newO at h;split at h
    · rename_i hwce;obtain⟨h1,h2⟩:=zj h;have hcc:=(zfa {st with o:=(c.nk,ce,sz,el)::delOs st.o []} o.dst (.cv (.one (rowAt md c.nk))) {c with nk:=c.nk + 4}).1;refine⟨_,ρ1,.cv (.one (rowAt md c.nk)),[],h1,by rw [hcc];exact Ctr.le_trans hle (Ctr.le_nk c 4),hl,fun ρ'' hlk => ?_⟩;rw [hcc]at hlk;have hlb:Env.like c ρ1 ρ'':=⟨hlk.i,hlk.b,hlk.v,hlk.p,hlk.s,hlk.l⟩;refine zpo md wf hle hnk hwce (fun k hk=>by cases hk) (fun x hx=>by simp only [entIds,hid]at hx;cases hx) (fun β a w hB hops _=>znaa ?_) h2;obtain⟨b,code,n,base,w',r1,r2,r3,r4⟩:=hr ρ'' hlb β a w hB hops;refine⟨b,code,n,base,w',r1,r2, ?_,fun x hx _ => ?_,fun h2=>.inl (r4 h2)⟩
      · rcases r3 with rfl | ⟨ob,w0,rfl,rfl | rfl⟩
        · exact⟨rfl,rfl,rfl,Nat.le_refl _⟩
        · exact⟨rfl,rfl,rfl,by simp⟩
        · exact⟨rfl,rfl,rfl,by simp⟩
      · rcases r3 with rfl | ⟨ob,w0,rfl,rfl | rfl⟩
        · rfl
        · exact Below.heap_alloc _ _ _ hx
        · exact Below.heap_alloc w.drew _ _ hx
    · exact h.elim
  have fin:∀ {ce:CE} {sz:Nat} {el:TypeId} {c:Ctr} {ρ1:Env},St.newO (PA G.P W Q QM QP) st o.dst [] ce sz el c K 0 ρ1→st.c.le c→c.nk=st.c.nk→Env.like st.c ρ ρ1→ce.flatMap sgIds=[] →
      (∀ ρ'',Env.like c ρ1 ρ''→∀ (β:Nat→Nat) (a:Act) (w:World),Bel W w→OpsOk st o ρ'' β a →
        ∃ b code n base w',(execOp a.eval o).run G.P w=.ok (.value (ownV b code n base)) w'∧RowOkP (OwnB W) b code n base (ceDen ρ'' β ce) sz el w'∧(w'=w∨∃ ob,w'=w.alloc ob)∧(2≤code→w.heap.size≤b))→Rsv G.P W st o K ρ :=
    fun h h1 h2 h3 h4 h5=>finM 0 h h1 h2 h3 h4 fun ρ'' hl β a w hB ho=>by
      obtain⟨b,code,n,base,w',r1,r2,r3,r4⟩:=h5 ρ'' hl β a w hB ho;exact⟨b,code,n,base,w',r1,r2,r3.imp id (fun⟨ob,h⟩=>⟨ob,w,h,.inl rfl⟩),r4⟩
  unfold opw at h;generalize ho:o.op=op at h;cases op <;> first | exact h.elim | skip
  case convert src dst x =>
    simp only at h;generalize hx:st.ev x=sx at h;generalize hst:strBytes G.P src dst=u0 at h;rcases u0 with _ | e
    · exact h.elim
    obtain⟨hs,hd,he⟩:=zro hst
    have bytes:∀ (ρ'':Env) (β:Nat→Nat) (a:Act) (w:World) (l:List UInt8),Bel W w→OpsOk st o ρ'' β a→sx ≠ .any→sx.den ρ'' β=.string ⟨l.toArray⟩ →
        ∃ b code n base w',(execOp a.eval o).run G.P w=.ok (.value (rowV 2 b code n base)) w'∧RowOkP (OwnB W) b code n base (l.map u8V) 0 0 w'∧(w'=w∨∃ ob w0,w'=w0.alloc ob∧(w0=w∨w0=w.drew))∧(2≤code→w.heap.size≤b):=by
      intro ρ'' β a w l hB hops hne hden;have e1:=hops x (by rw [ho];simp [Op.operands]) (by rw [hx];exact hne);rw [hx,hden]at e1;have hrun:=run_bytes_of_string (P:=G.P) w src dst e ⟨l.toArray⟩ hs hd he;have hsz:(⟨l.toArray⟩:ByteArray).size=l.length:=by show l.toArray.size=_;simp
      rw [hsz]at hrun;refine⟨w.heap.size,grownCap w l.length 0 e + 2,l.length,0,w.drew.alloc (.cells (bytesRow ⟨l.toArray⟩ (grownCap w l.length 0 e)) e ((bytesRow ⟨l.toArray⟩ (grownCap w l.length 0 e)).size,(bytesRow ⟨l.toArray⟩ (grownCap w l.length 0 e)).size + 1)), ?_,.inr ⟨rfl,OwnB.mk (.inr hB.size),by omega, ?_⟩,.inr ⟨_,w.drew,rfl,.inr rfl⟩,fun _=>Nat.le_refl _⟩
      · have:rowV 2 w.heap.size (grownCap w l.length 0 e + 2) l.length 0=.slice (some ⟨w.heap.size,0,none⟩) l.length (grownCap w l.length 0 e):=by simp [rowV]
        rw [this];simp only [execOp,ho,e1];exact zuj hrun
      · refine⟨by simp,bytesRow ⟨l.toArray⟩ (grownCap w l.length 0 e),e,_,heap_alloc_new w.drew _, ?_⟩;unfold bytesRow;simp only [Array.toList_append,Array.toList_map,List.length_map];rw [List.take_left' (by simp)];rfl
    clear hst;generalize some e=so at h;split at h
    · rename_i l;refine finM 2 h (Ctr.le_refl _) rfl (Env.like_refl _ _) (by simp [sgIds,zev]) fun ρ'' hlk β a w hB hops => ?_
      have:=bytes ρ'' β a w l hB hops (by simp) rfl
      simpa only [ceDen,Sg.den,List.append_nil,zfv]using this
    · rename_i i;have wi:i < st.c.ns:=by have:=wf.ev x;rw [hx]at this;simpa [SV.wf,CV.wf,At.wf]using this
      have hH:∀ x:{x // x∈(ρ.s i).map u8V},x.1.oneCell'=true:=fun x=>by
        obtain⟨q,_,hq⟩:=List.mem_map.1 x.2;rw [← hq];rfl
      have hL:=h (((ρ.s i).map u8V).attach.map fun x=>⟨x.1,hH x⟩) (zqo _ hH);have hle:=Ctr.le_nl st.c 1;refine finM 2 hL hle rfl (zia st.c ρ _) rfl fun ρ'' hlk β a w hB hops => ?_;have hlk0:=Env.like_trans hle (zia st.c ρ _) hlk
      have:=bytes ρ'' β a w (ρ''.s i) hB hops (by simp) rfl
      have e1:ρ''.l st.c.nl=_:=hlk.l st.c.nl (Nat.lt_succ_self _)
      have e2:ceDen ρ'' β [.var st.c.nl]=(ρ''.s i).map u8V:=by
        simp only [ceDen,Sg.den,List.append_nil,e1,Env.setL,if_true];rw [hlk0.s i wi];exact zqo _ hH
      rw [e2];exact this
    · exact h.elim
  case mapUpdate t m k v=>exact zcm wf (.inl ho) h
  case insert t m k v=>exact zcm wf (.inr ho) h
  case makeMap t rs =>
    cases rs with
    | some r=>exact h.elim
    | none =>
      simp only at h;generalize hx:mapTy G.P t=u1 at h;split at h;rotate_left
      · exact h.elim
      rename_i x;refine finM 1 h (Ctr.le_refl _) rfl (Env.like_refl _ _) rfl fun ρ'' hlk β a w hB hops => ?_;refine⟨w.heap.size,2,0,0,w.alloc (.map #[] 0), ?_,.inr ⟨rfl,OwnB.mk (.inr hB.size),Nat.le_refl _,(zcc hx).2 ⟨#[],0,heap_alloc_new w _,rfl,fun e he=>by simp at he⟩⟩,.inr ⟨_,w,rfl,.inl rfl⟩,fun _=>Nat.le_refl _⟩;simp [execOp,ho,Instr.makeMap,rowV]
  case makeSlice t l cp =>
    simp only at h;generalize hu:G.P.underlying t=u1 at h;split at h;rotate_left
    · exact h.elim
    rename_i el;generalize hi:G.P.info? el=u2 at h;generalize hzz:zeroA G.P el=u3 at h;split at h;rotate_left
    · exact h.elim
    rename_i i z;split at h;rotate_left
    · exact h.elim
    rename_i hc;obtain⟨c1,c2,c3,c4,c5⟩:=hc;obtain⟨i',v0,z1,z2,z3⟩:=zfq hzz;rw [hi]at z1;cases z1;have zs:∀ ρ β,v0.cells=(z.cells.map (At.den ρ β)).toArray:=fun ρ β=>by rw [← z3 ρ β,CV.cells_den]
    have zsz:v0.cells.size=i.size:=by rw [zs ρ b0];simpa using c2
    generalize hl:st.ev l=sl at h;generalize hcp:st.ev cp=sc at h;split at h;rotate_left
    · exact h.elim
    rename_i kl e kc e2;have we:e.wf st.c=true:=by have:=wf.ev l;rw [hl]at this;exact this
    have we2:e2.wf st.c=true:=by have:=wf.ev cp;rw [hcp]at this;exact this
    have run:∀ (ρ'':Env) (β:Nat→Nat) (a:Act) (w:World),OpsOk st o ρ'' β a→0≤e.den ρ''→e.den ρ''≤e2.den ρ''→e2.den ρ''≤maxRow →
        (execOp a.eval o).run G.P w=.ok (.value (.slice (some ⟨w.heap.size,0,none⟩) (e.den ρ'').toNat (e2.den ρ'').toNat)) (w.alloc (.cells (madeCells v0.cells ((e2.den ρ'').toNat * i.size)) el)):=by
      intro ρ'' β a w hops h0 h1 h2;have e1:=hops l (by rw [ho];simp [Op.operands]) (by rw [hl];simp);have e3:=hops cp (by rw [ho];simp [Op.operands]) (by rw [hcp];simp);rw [hl]at e1;rw [hcp]at e3;simp only [SV.den,CV.den,At.den]at e1 e3
      have hby:(i.bytes:Int) * e2.den ρ''≤281474976710656:=by
        have:(i.bytes:Int) * e2.den ρ''≤131072 * 1073741824:=Int.mul_le_mul (by omega) (by simpa [maxRow]using h2) (by omega) (by omega)
        omega
      have:=run_make (P:=G.P) w t el i v0 hu hi z2 kl kc (e.den ρ'') (e2.den ρ'') h0 h1 hby (by simp [maxRow]at h2;omega)
      simp only [execOp,ho,e1,e3];exact zuj this
    split at h
    · rename_i he0;subst he0;obtain⟨q1,h⟩:=zb h;obtain⟨q2,h⟩:=zb h;refine fin h (Ctr.le_refl _) rfl (Env.like_refl _ _) rfl fun ρ'' hlk β a w hB hops => ?_;have p1:0≤e2.den ρ'':=by rw [IE.den_like hlk we2];exact q1
      have p2:e2.den ρ''≤maxRow:=by rw [IE.den_like hlk we2];exact q2
      refine⟨w.heap.size,(e2.den ρ'').toNat + 1,0,0,w.alloc (.cells (madeCells v0.cells ((e2.den ρ'').toNat * i.size)) el), ?_, ?_,.inr ⟨_,rfl⟩,fun _=>Nat.le_refl _⟩
      · rw [run ρ'' β a w hops (by simp [zoa]) (by simpa [zoa]using p1) p2];simp [ownV,zoa]
      · have:=zjt (lo:=OwnB W) (w:=w) (z:=v0.cells) (n:=0) (c:=(e2.den ρ'').toNat) (el:=el) c1 zsz (OwnB.mk (.inr hB.size)) (by simp [maxLen,maxRow]at p2 ⊢;omega) (.inl rfl)
        exact .inl (by simpa [times,ceDen]using this)
    · split at h;rotate_left
      · exact h.elim
      rename_i he;subst he;obtain⟨q1,h⟩:=zb h;obtain⟨q2,h⟩:=zb h
      have row:∀ (ρ'':Env) (β:Nat→Nat) (a:Act) (w:World) (xs:List Value),Bel W w→OpsOk st o ρ'' β a→0≤e.den ρ''→e.den ρ''≤maxRow→xs=times v0.cells.toList (e.den ρ'').toNat →
          ∃ b code n base w',(execOp a.eval o).run G.P w=.ok (.value (ownV b code n base)) w'∧RowOkP (OwnB W) b code n base xs i.size el w'∧(w'=w∨∃ ob,w'=w.alloc ob)∧(2≤code→w.heap.size≤b):=by
        intro ρ'' β a w xs hB hops p1 p2 hxs;refine⟨w.heap.size,(e.den ρ'').toNat + 1,(e.den ρ'').toNat,0,w.alloc (.cells (madeCells v0.cells ((e.den ρ'').toNat * i.size)) el), ?_, ?_,.inr ⟨_,rfl⟩,fun _=>Nat.le_refl _⟩
        · rw [run ρ'' β a w hops p1 (Int.le_refl _) p2];simp [ownV]
        · rw [hxs];exact .inl (zjt c1 zsz (OwnB.mk (.inr hB.size)) (by simp [maxLen,maxRow]at p2 ⊢;omega) (.inr rfl))
      split at h
      · rename_i n;refine fin h (Ctr.le_refl _) rfl (Env.like_refl _ _) (by simp [sgIds,zxl _ (zwl hzz)]) fun ρ'' hlk β a w hB hops => ?_;refine row ρ'' β a w _ hB hops q1 q2 ?_;simp only [ceDen,Sg.den,List.append_nil,zrl,zs ρ'' β,zoa]
      · rw [if_pos we]at h
        have hL:=h (((times (z.cells.map (At.den ρ b0)) (e.den ρ).toNat)).attach.map fun x=>⟨x.1,by
          have:∀ (l:List Value) (m:Nat),(∀ v∈l,v.oneCell'=true)→∀ v∈times l m,v.oneCell'=true:=by
            intro l m hl
            induction m with
            | zero=>intro v hv;cases hv
            | succ m ih=>intro v hv;simp only [times,List.mem_append]at hv;rcases hv with hv | hv;exact hl v hv;exact ih v hv
          refine this _ _ (fun v hv => ?_) x.1 x.2;obtain⟨q,_,rfl⟩:=List.mem_map.1 hv;exact At.den_one ρ b0 q⟩) (by simp [LP.den])
        have hle:=Ctr.le_nl st.c 1;refine fin hL hle rfl (zia st.c ρ _) rfl fun ρ'' hlk β a w hB hops => ?_;have hlk0:=Env.like_trans hle (zia st.c ρ _) hlk;have d1:e.den ρ''=e.den ρ:=IE.den_like hlk0 we;refine row ρ'' β a w _ hB hops (by rw [d1];exact q1) (by rw [d1];exact q2) ?_;have e1:ρ''.l st.c.nl=_:=hlk.l st.c.nl (Nat.lt_succ_self _);simp only [ceDen,Sg.den,List.append_nil,e1,Env.setL,if_true];rw [zs ρ b0,d1];simp
  case buildSlice t len parts =>
    simp only at h;generalize hu:G.P.underlying t=u1 at h;split at h;rotate_left
    · exact h.elim
    rename_i el;generalize hi:G.P.info? el=u2 at h;split at h;rotate_left
    · exact h.elim
    rename_i i;split at h
    · rename_i hc;obtain⟨rfl,c2,c3⟩:=hc
      have hp:parts=#[]:=by
        have:parts.toList=[]:=List.eq_nil_of_length_eq_zero c2
        exact Array.toList_eq_nil_iff.1 this
      subst hp;refine fin h (Ctr.le_refl _) rfl (Env.like_refl _ _) rfl fun ρ'' hlk β a w hB hops => ?_;refine⟨w.heap.size,1,0,0,w.alloc (.cells #[] el), ?_,.inl ⟨by simp [ceDen],c3,.inl ⟨by omega,rfl⟩⟩,.inr ⟨.cells #[] el,rfl⟩,fun h=>by omega⟩;simp [execOp,ho,Instr.buildSlice,run_underlying hu,Go.sizeOf,typeInfo,hi,Instr.fill,newRow,ownV]
      have:Array.range 0=#[]:=rfl
      simp [this]
    · clear hi;generalize hz:szAgg G.P el=u2 at h;generalize hzz:zeroA G.P el=u3 at h;split at h;rotate_left
      · exact h.elim
      rename_i g s z;split at h;rotate_left
      · exact h.elim
      rename_i hc;generalize hf:fillA (fun i=>some (i * s,s)) (times z.cells len) (parts.toList.map fun p=>(p.1,st.ev p.2))=u4 at h;split at h;rotate_left
      · exact h.elim
      rename_i cs;split at h;rotate_left
      · exact h.elim
      rename_i hc2;refine fin h (Ctr.le_refl _) rfl (Env.like_refl _ _) (by simp [sgIds,hc2.2]) fun ρ'' hlk β a w hB hops => ?_;obtain⟨c1,c2,c3,c4⟩:=hc;have hlen:(ceDen ρ'' β [.ats cs]).length=len * s:=by simp only [ceDen,Sg.den,List.append_nil,List.length_map];exact hc2.1
      have hls:len≤len * s:=Nat.le_mul_of_pos_right _ c2;refine⟨w.heap.size,len + 1,len,0,w.alloc (.cells (cs.map (At.den ρ'' β)).toArray el), ?_,.inl ⟨hlen,c2,.inr ⟨by omega,rfl,OwnB.mk (.inr hB.size),by omega,by simp [maxLen];omega,(cs.map (At.den ρ'' β)).toArray,heap_alloc_new w _, ?_, ?_⟩⟩,.inr ⟨_,rfl⟩,fun _=>Nat.le_refl _⟩
      · rw [zbq ho hu hz hzz ⟨c1,c2,c3,c4⟩ hf hops];simp [ownV]
      · simp [hc2.1]
      · have:(cs.map (At.den ρ'' β)).length=len * s:=by simpa using hc2.1
        simp only [ceDen,Sg.den,List.append_nil];exact List.take_of_length_le (Nat.le_of_eq this)
  case assign x =>
    simp only at h;generalize hx:st.ev x=sx at h;generalize hnh:nilHint G o.dst=u1 at h;split at h;rotate_left
    · exact h.elim
    rename_i el;generalize hi:G.P.info? el=u2 at h;split at h;rotate_left
    · exact h.elim
    rename_i i;split at h;rotate_left
    · exact h.elim
    rename_i hc;refine fin h (Ctr.le_refl _) rfl (Env.like_refl _ _) rfl fun ρ'' hlk β a w hB hops => ?_;have e1:=hops x (by rw [ho];simp [Op.operands]) (by rw [hx];simp);rw [hx]at e1;refine⟨0,0,0,0,w, ?_,.inl ⟨by simp [ceDen],hc,.inl ⟨by omega,rfl⟩⟩,.inl rfl,fun h=>by omega⟩;simp only [SV.den,CV.den,At.den]at e1;simp [execOp,ho,e1,ownV]
  case slice t x lo hi mx =>
    cases hi with
    | none=>exact h.elim
    | some hi =>
    cases mx with
    | none=>exact h.elim
    | some mx =>
    simp only at h;generalize hu:G.P.underlying t=u1 at h;generalize hh:st.ev hi=sh at h;generalize hm:st.ev mx=sm at h;generalize hlo:intOr (.lit 0) (lo.map st.ev)=u4 at h;split at h;rotate_left
    · exact h.elim
    rename_i el kh km;generalize hinf:G.P.info? el=u5 at h;generalize hx:st.ev x=sx at h
    have key:∀ i,G.P.info? el=some i→0 < i.size→sx ≠ .any→(∀ ρ'' β,sx.den ρ'' β=.slice none 0 0∨∃ b o n c,sx.den ρ'' β=.slice (some ⟨b,o,none⟩) n c)→St.newO (PA G.P W Q QM QP) st o.dst [] [] i.size el st.c K 0 ρ→Rsv G.P W st o K ρ:=by
      intro i hinf hsz hany hv h;refine fin h (Ctr.le_refl _) rfl (Env.like_refl _ _) rfl fun ρ'' hlk β a w hB hops => ?_;have e1:=hops hi (by rw [ho];simp [Op.operands]) (by rw [hh];simp);have e2:=hops mx (by rw [ho];simp [Op.operands]) (by rw [hm];simp);have e3:=hops x (by rw [ho];simp [Op.operands]) (by rw [hx];exact hany);rw [hh]at e1;rw [hm]at e2;rw [hx]at e3;simp only [SV.den,CV.den,At.den,zoa]at e1 e2
      have e4:lo.map a.eval=none∨∃ k,lo.map a.eval=some (.int k 0):=by
        rcases zpa hlo with ⟨h1,_⟩ | ⟨k,h1⟩
        · cases lo with
          | none=>exact .inl rfl
          | some l=>simp at h1
        · cases lo with
          | none=>simp at h1
          | some l =>
            simp only [Option.map_some,Option.some.injEq]at h1
            have:=hops l (by rw [ho];simp [Op.operands]) (by rw [h1];simp)
            rw [h1]at this;exact .inr ⟨k,by simp only [Option.map_some,this];rfl⟩
      have size:(Go.sizeOf el).run G.P w=.ok i.size w:=by simp [Go.sizeOf,typeInfo,hinf]
      have run:∀ (ad:Option Addr) (n c:Nat),a.eval x=.slice ad n c→(execOp a.eval o).run G.P w=.ok (.value (.slice ad 0 0)) w:=by
        intro ad n c he;simp only [execOp,ho,he,Option.map_some,e1,e2];refine zuj ?_;rcases e4 with e4 | ⟨k,e4⟩
        · simp [Instr.sliceAt,Instr.slice,Instr.sliceBounds,Instr.sliceBound,asIntOf,run_underlying hu,size,e4]
        · simp [Instr.sliceAt,Instr.slice,Instr.sliceBounds,Instr.sliceBound,asIntOf,run_underlying hu,size,e4]
      rcases hv ρ'' β with h1 | ⟨b,of,n,c,h1⟩
      · exact⟨0,0,0,0,w,by rw [run none 0 0 (by rw [e3,h1])];rfl,.inl ⟨by simp [ceDen],hsz,.inl ⟨by omega,rfl⟩⟩,.inl rfl,fun h=>by omega⟩
      · exact⟨b,1,0,of,w,by rw [run _ n c (by rw [e3,h1])];rfl,.inl ⟨by simp [ceDen],hsz,.inl ⟨by omega,rfl⟩⟩,.inl rfl,fun h=>by omega⟩
    split at h
    · rename_i i p ix s l c;split at h
      · rename_i hc;exact key i hinf hc (by simp) (fun ρ'' β=>.inr ⟨_,_,_,_,rfl⟩) h
      · exact h.elim
    · rename_i i k;split at h
      · rename_i hc;refine key i hinf hc (by simp) (fun ρ'' β => ?_) h;simp only [SV.den,CV.den,At.den,ownV];split
        · exact .inl rfl
        · exact .inr ⟨_,_,_,_,rfl⟩
      · exact h.elim
    · rename_i i;split at h
      · rename_i hc;exact key i hinf hc (by simp) (fun ρ'' β=>.inl rfl) h
      · exact h.elim
    · exact h.elim
  case store t x y =>
    simp only at h;generalize hz:szAgg G.P t=u1 at h;generalize hx:st.ev x=sx at h;generalize hy:st.ev y=sy at h;split at h;rotate_left
    · exact h.elim
    rename_i g n k ix sz off v;generalize hg:getO st.o k=u2 at h;split at h;rotate_left
    · exact h.elim
    rename_i ce s el;split at h;rotate_left
    · exact h.elim
    rename_i hc;obtain⟨rfl,c1,c2,c3,c4,c5,c6⟩:=hc;obtain⟨m,cb,ρb,h,b1,b2,b3,b4,b5⟩:=zxa h;obtain⟨q1,h⟩:=zb h;obtain⟨q2,h⟩:=zb h;have hwr:k∈writesOf st o:=by simp [writesOf,ho,hx,svCells,CV.cells,blksOf]
    have run:∀ (ρ'':Env) (β:Nat→Nat) (a:Act) (w:World) (ce':CE),Env.like cb ρb ρ''→OpsOk st o ρ'' β a→Holds W ρ'' β k (.row ce s el) w →
        ceDen ρ'' β ce'=(ceDen ρ'' β ce).take ((ix.den ρ'').toNat * s + off)++v.cells.map (At.den ρ'' β)++(ceDen ρ'' β ce).drop ((ix.den ρ'').toNat * s + off + n) →
        ∃ w',(execOp a.eval o).run G.P w=.ok .skip w'∧Holds W ρ'' β k (.row ce' s el) w'∧(w'.os=w.os∧w'.tape=w.tape∧w'.output=w.output∧w.heap.size≤w'.heap.size)∧(∀ b,b < w.heap.size→blkE β k (.row ce s el)≠some b→w'.heap[b]? = w.heap[b]?):=by
      intro ρ'' β a w ce' hl hops hrow hce';have e1:=hops x (by rw [ho];simp [Op.operands]) (by rw [hx];simp);have e2:=hops y (by rw [ho];simp [Op.operands]) (by rw [hy];simp);rw [hx]at e1;rw [hy]at e2;have hl0:=Env.like_trans b1 b3 hl;have p1:0≤ix.den ρ'':=by rw [IE.den_like hl (IE.wf_le b1 c5)];exact q1
      have p2:ix.den ρ'' < m.den ρ'':=by rw [IE.den_like hl (IE.wf_le b1 c5),IE.den_like hl b4];exact q2
      have hrow:=RowOkP.old hrow c3;rw [b5 ρ'' β hl,zvr hrow]at p2;obtain⟨a1,a2,a3⟩:=hrow
      obtain⟨r1,r2,r3,r4,r5,cur,r6,r7,r8⟩:2≤β (k + 1)∧β (k + 3)=0∧OwnB W (β k)∧β (k + 2)≤β (k + 1) - 1∧β (k + 1) - 1≤maxLen∧∃ cur,w.heap[β k]? = some (.cells cur el (0,0))∧cur.size=(β (k + 1) - 1) * s∧cur.toList.take (β (k + 2) * s)=ceDen ρ'' β ce:=by
        rcases a3 with ⟨_,h0⟩ | h0
        · omega
        · exact h0
      have hpos:(ix.den ρ'').toNat * s + off + n≤β (k + 2) * s:=by
        have h1:(ix.den ρ'').toNat + 1≤β (k + 2):=by omega
        have h2:=Nat.mul_le_mul_right s h1;rw [Nat.succ_mul]at h2;omega
      have hcap:β (k + 2) * s≤cur.size:=by rw [r7];exact Nat.mul_le_mul_right _ r4
      have hs:=zql (P:=G.P) hz w (β k) ((ix.den ρ'').toNat * s + off) (v.den ρ'' β) cur el r6 (by rw [CV.cells_den];simpa using c1) (by omega) (by
        rw [CV.cells_den];intro z hz';simp only [List.mem_map]at hz';obtain⟨q,_,rfl⟩:=hz';exact At.den_one ρ'' β q)
      rw [CV.cells_den]at hs;have hvl:(v.cells.map (At.den ρ'' β)).length=n:=by simpa using c1
      refine⟨w.setRow (β k) (cur.toList.take ((ix.den ρ'').toNat * s + off)++v.cells.map (At.den ρ'' β)++cur.toList.drop ((ix.den ρ'').toNat * s + off + n)).toArray, ?_,.inl ⟨?_,a2,.inr ⟨r1,r2,r3,r4,r5,_,setRow_heap w (β k) _ _ _ _ r6, ?_, ?_⟩⟩,⟨rfl,rfl,rfl,by rw [setRow_size];exact Nat.le_refl _⟩,fun b hb hnb=>zee _ _ _ _ (fun he=>hnb (by simp only [blkE,r1,if_true,he]))⟩
      · have e1':a.eval x=ptr (β k) ((ix.den ρ'').toNat * s + off):=e1;have e2':a.eval y=v.den ρ'' β:=e2;simp only [execOp,ho,e1',e2',Sem.run_bind,hs,Result.andThen_ok,Sem.run_pure]
      · rw [hce',← a1];simp only [List.length_append,List.length_take,List.length_drop,hvl];omega
      · simp only [List.size_toArray,List.length_append,List.length_take,List.length_drop,Array.length_toList,hvl];omega
      · rw [hce',← r8];exact zwy cur.toList _ _ n _ hpos (by simpa using hcap) hvl
    generalize hkn:knownAt ce ix s off=u5 at h;rcases u5 with _ | ⟨cs,p⟩;rotate_left
    · simp only at h;obtain⟨kn1,kn2⟩:=zik hkn;obtain⟨h1,h2⟩:=zj h;have hcc:=(zfa {st with o:=setO st.o k [.ats (cs.take p++v.cells++cs.drop (p + n))]} o.dst .any cb).1;refine⟨_,ρb,.any,[k],h1,by rw [hcc];exact b1,b3,fun ρ'' hlk => ?_⟩;rw [hcc]at hlk
      have hcsw:∀ x∈cs,x.wf st.c=true∧(∀ y∈idsOf [x],y∈ce.flatMap sgIds):=by
        have:∀ (ce:CE) (cs:List At),ceAts ce=some cs→ceWf st.c ce=true→∀ x∈cs,x.wf st.c=true∧(∀ y∈idsOf [x],y∈ce.flatMap sgIds):=by
          intro ce
          induction ce with
          | nil=>intro cs h _ x hx;simp only [ceAts,Option.some.injEq]at h;subst h;cases hx
          | cons s r ih =>
            intro cs h hw x hx;cases s with
            | var j=>simp [ceAts]at h
            | ats l =>
              simp only [ceAts,Option.map_eq_some_iff]at h;obtain⟨l',h1,rfl⟩:=h;simp only [ceWf,List.all_cons,Bool.and_eq_true]at hw;rcases List.mem_append.1 hx with hx | hx
              · exact⟨List.all_eq_true.1 hw.1 x hx,fun y hy=>by
                  rw [List.flatMap_cons];refine List.mem_append.2 (.inl ?_);show y∈idsOf l;obtain⟨a,b,rfl⟩:=List.append_of_mem hx;rw [zd,show x::b=[x]++b from rfl,zd];exact List.mem_append.2 (.inr (List.mem_append.2 (.inl hy)))⟩
              · obtain⟨i1,i2⟩:=ih l' h1 hw.2 x hx;exact⟨i1,fun y hy=>by rw [List.flatMap_cons];exact List.mem_append.2 (.inr (i2 y hy))⟩
        exact this ce _ (zgs hkn) c6
      have hidc:∀ y∈idsOf cs,y∈ce.flatMap sgIds:=by
        intro y hy
        have:∀ (l:List At),y∈idsOf l→∃ x∈l,y∈idsOf [x]:=by
          intro l
          induction l with
          | nil=>intro h;cases h
          | cons a l ih =>
            intro h;rw [show a::l=[a]++l from rfl,zd]at h;rcases List.mem_append.1 h with h | h
            · exact⟨a,by simp,h⟩
            · obtain⟨x,h1,h2⟩:=ih h;exact⟨x,by simp [h1],h2⟩
        obtain⟨x,hx1,hx2⟩:=this cs hy;exact (hcsw x hx1).2 y hx2
      refine zpc wf b1 b2 hg hwr ?_ (fun y hy' => ?_) (fun β a w hops hrow=>run ρ'' β a w _ hlk hops hrow ?_) h2
      · have hcsall:cs.all (At.wf cb)=true:=List.all_eq_true.2 fun x hx'=>At.wf_le b1 (hcsw x hx').1;simp only [ceWf,List.all_cons,List.all_nil,Bool.and_true,Sg.wf,List.all_append,(zy hcsall p).1,(zy hcsall (p + n)).2,CV.wf_cells (CV.wf_le b1 c4),Bool.and_self]
      · simp only [List.flatMap_cons,sgIds,List.flatMap_nil,List.append_nil,zd]at hy';rcases List.mem_append.1 hy' with hy' | hy'
        · rcases List.mem_append.1 hy' with hy' | hy'
          · exact .inr (hidc y (znc _ _ hy'))
          · simp only [valIds,ho,hy];exact .inl hy'
        · exact .inr (hidc y (zoc _ _ hy'))
      · rw [kn1 ρ'',kn2 ρ'' β];simp only [ceDen,Sg.den,List.append_nil,List.map_append,List.map_take,List.map_drop]
    · simp only at h;split at h;rotate_left
      · exact h.elim
      rename_i hfl;obtain⟨hf1,hf2⟩:=hfl
      have hone:∀ v'∈(LP.set ce ix s off v.cells).den ρb,v'.oneCell'=true:=by
        intro v' hv';simp only [LP.den,List.mem_append]at hv';rcases hv' with (hv' | hv') | hv'
        · exact zib ρb b0 ce v' (List.mem_of_mem_take hv')
        · obtain⟨q,_,rfl⟩:=List.mem_map.1 hv';exact At.den_one ρb b0 q
        · exact zib ρb b0 ce v' (List.mem_of_mem_drop hv')
      have hL:=h (((LP.set ce ix s off v.cells).den ρb).attach.map fun x=>⟨x.1,hone x.1 x.2⟩) (by simp);have hle:=Ctr.le_nl cb 1;obtain⟨h1,h2⟩:=zj hL;have hcc:=(zfa {st with o:=setO st.o k [.var cb.nl]} o.dst .any {cb with nl:=cb.nl + 1}).1;refine⟨_,_,.any,[k],h1,by rw [hcc];exact Ctr.le_trans b1 hle,Env.like_trans b1 b3 (zia cb ρb _),fun ρ'' hlk => ?_⟩;rw [hcc]at hlk;have hlb:=Env.like_trans hle (zia cb ρb _) hlk;refine zpc wf (Ctr.le_trans b1 hle) b2 hg hwr (by simp [ceWf,Sg.wf]) (fun y hy'=>by simp [sgIds]at hy') (fun β a w hops hrow=>run ρ'' β a w _ hlb hops hrow ?_) h2;have e1:ρ''.l cb.nl=_:=hlk.l cb.nl (Nat.lt_succ_self _);have f1:ceDen ρ'' β ce=ceDen ρb b0 ce:=by rw [zlc ρ'' β b0 hf1,zga hlb (β:=b0) (fun _ _=>rfl) (zmh b1 c6)]
      have f2:v.cells.map (At.den ρ'' β)=v.cells.map (At.den ρb b0):=by
        have hvf:v.cells.all At.flat=true:=by
          cases v with
          | one a=>simpa [CV.cells,CV.flat]using hf2
          | agg l=>exact hf2
        rw [zxb ρ'' β b0 hvf,zha hlb (β:=b0) (fun _ _=>rfl) (zed b1 (CV.wf_cells c4))]
      have f3:ix.den ρ''=ix.den ρb:=IE.den_like hlb (IE.wf_le b1 c5);simp only [ceDen,Sg.den,List.append_nil,e1,Env.setL,if_true,f1,f2,f3]
      have f4:∀ (l:List Value) (hl:∀ v'∈l,v'.oneCell'=true),(l.attach.map fun x=>(⟨x.1,hl x.1 x.2⟩:OV)).map (·.1)=l:=fun l hl=>by
        rw [List.map_map];exact List.attach_map_subtype_val l
      rw [f4];simp only [LP.den,c1]
end Vc
