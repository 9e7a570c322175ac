import Derived.Test.YtnjpiipdgapakaaGreatDoorVcG
import Derived.MapKept
import Derived.Laws.BytesString
import Derived.Laws.CopyOwn
import Derived.RangeFuncRecord
set_option linter.unusedVariables false
set_option linter.unusedSimpArgs false
namespace Vc
open Go Go.RowKit
variable {P:Program} {W:dN} {Q:Value->Prop} {QM QP:World->Value->Prop}
theorem At.aU(J:Env)(β ag:Nat->Nat):∀{a:At},a.flat=true->a.den J β=a.den J ag:=by
 intro a h
 cases a<;>first
  |rfl
  | (simp [At.flat]at h;done)
  | (simp only [At.flat,List.isEmpty_iff]at h;subst h;rfl)
theorem Bc(J:Env)(β ag:Nat->Nat){l:List At}(h:l.all At.flat=true):l.map (At.den J β)=l.map (At.den J ag) :=
 List.map_congr_left λx hx=>At.aU J β ag (List.all_eq_true.1 h x hx)
theorem Sg.aU(J:Env)(β ag:Nat->Nat):∀{s:Sg},s.flat=true->s.den J β=s.den J ag
 | .cE l,h=>Bc J β ag h
 | .var i,_=>rfl
theorem yX(J:Env)(β ag:Nat->Nat):∀{l:CE},fK l=true->ak J β l=ak J ag l
  | [],_=>rfl
  |s::r,h=>by
    simp only [fK,List.all_cons,Bool.and_eq_true]at h;simp only [ak,Sg.aU J β ag h.1,yX J β ag (l:=r) h.2]
theorem CV.aU(J:Env)(β ag:Nat->Nat):∀{c:CV},c.flat=true->c.den J β=c.den J ag
 | .one a,h=>At.aU J β ag h
 | .agg l,h=>by simp only [CV.den];rw [Bc J β ag h]
theorem SV.aU(J:Env)(β ag:Nat->Nat):∀{c:SV},dZ c=true->c.den J β=c.den J ag
  | .any,_=>rfl
  | .fJ,_=>rfl
  | .cv c,h=>CV.aU J β ag h
  | .kx l,h=>by
    simp only [SV.den];rw [List.map_congr_left λx hx=>CV.aU J β ag (List.all_eq_true.1 h x hx)]
theorem v_{w:World}{b:Nat}{C:Array Value}{t:TypeId}{mk:Nat × Nat}(h:w.heap[b]? = some (.cells C t mk))(o:Nat):w.cell? ⟨b,o,none⟩=C[o]? := by
 simp [World.cell?,h]
theorem Be{t:TypeId}{n:Nat}(hz:aF P t=some (true,n))(w:World)(b o:Nat)(cs:List Value)(hn:cs.length=n)(h:∀j v,cs[j]? = some v->w.cell? ⟨b,o+j,none⟩=some v) :
  (Instr.loadAt t (ptr b o)).run P w=.ok (.agg cs.toArray) w:=by
 subst hn
 have:=run_loadCells_list (P:=P) w ⟨b,o,none⟩ cs (λj v hj=>by rw [sf];exact h j v hj)
 simp only [Instr.loadAt,ptr,Instr.sureAddr,Sem.run_bind,Sem.run_pure,Result.andThen_ok,loadVar,Fl hz,if_true,pc hz,this]
theorem Bf{t:TypeId}{n:Nat}(hz:aF P t=some (false,n))(w:World)(b o:Nat)(v:Value)(h:w.cell? ⟨b,o,none⟩=some v) :
  (Instr.loadAt t (ptr b o)).run P w=.ok v w:=by
 simp [Instr.loadAt,ptr,Instr.sureAddr,loadVar,Fl hz,h]
theorem N5{p:Nat}{ix:IE}{sz:Nat}:∀ (ks:List CK) (off:Nat) (c:an) {K:List At->an->Env->Prop} {J:Env},ks.all CK.plain=true->p < c.np->ix.wf c=true ->
    nU (PA P W Q QM QP) p ix sz off ks c K J->∃l c' aa,K l c' aa/\c.le c'/\Env.au c J aa/\l.length=ks.length /\
      ∀I,Env.au c' aa I->∀β j a,l[j]? = some a->W.seen.cell? ⟨(I.p p).1,(I.p p).2+(ix.den I).toNat*sz+(off+j),none⟩=some (a.den I β)
  | [],off,c,K,J,_,_,_,h=>⟨[],c,J,h,an.le_refl _,Env.ah _ _,rfl,λ_ _ _ j a hj=>by simp at hj⟩
  |k::ks,off,c,K,J,lj,hp,hi,h=>by
    simp only [List.all_cons,Bool.and_eq_true]at lj;obtain⟨aM,l1,h1,h2⟩:=ti [k] c h;have hle:=zn c k;obtain⟨l,c',aa,q1,q2,q3,q4,q5⟩:=N5 ks (off+1) (aS c k) lj.2 (Nat.lt_of_lt_of_le hp hle.p) (IE.aH hle hi) h2;refine⟨a8 c k::l,c',aa,q1,an.le_trans hle q2,Env.ae hle l1 q3,by simp [q4],λI hl β j a hj => ?_⟩;cases j with
    |zero =>
      simp only [List.getElem?_cons_zero,Option.some.injEq]at hj;subst hj;have l2:Env.au (aS c k) aM I:=Env.ae q2 q3 hl;have l3:Env.au c J I:=Env.ae hle l1 l2;rw [l3.p p hp,IE.U l3 hi,At.aU I β b0 (Fk c k lj.1),At.U l2 (β:=b0) (λ_ _=>rfl) (Fj c k)];exact h1
    |succ j =>
      have:=q5 I hl β j a (by simpa using hj)
      rw [show off+(j+1)=off+1+j by omega];exact this
theorem HP{lo:Nat->Prop}{b code n base:Nat}{xs:List Value}{sz:Nat}{t:TypeId}{w:World}(h:fN lo b code n base xs sz t w){i:Nat}{v:Value}(hi:xs[i]? = some v):w.cell? ⟨b,i,none⟩=some v:=by
 have hl:i<xs.length:=(List.getElem?_eq_some_iff.1 hi).1
 have hn:0<n:=by
  rcases Nat.eq_zero_or_pos n with h0|h0
  ·rw [h.1,h0]at hl;omega
  ·exact h0
 obtain⟨_,_,cur,h1,h2⟩:=N0 h hn;rw [v_ h1];rw [<-h2,List.getElem?_take]at hi;split at hi
 ·simpa using hi
 ·cases hi
theorem N6{lo:Nat->Prop}{b code n base:Nat}{xs:List Value}{sz:Nat}{t:TypeId}{w:World}(h:bF lo b code n base xs sz t w)(hz:0<sz∨t=0){i:Nat}{v:Value}(hi:xs[i]? = some v):w.cell? ⟨b,i,none⟩=some v:=by
 rcases h with h|⟨h1,h2,h3,h4⟩
 ·exact HP h hi
 ·obtain rfl:t=0:=hz.resolve_left (by omega);obtain⟨_,C,ty,mk,h5,h6⟩:=h4
  have:w.cell? ⟨b,i,none⟩=C[i]? := by simp [World.cell?,h5]
  rw [this];rw [<-h6,List.getElem?_take]at hi;split at hi
  ·simpa using hi
  ·cases hi
theorem HQ{ce:CE}{ix:IE}{sz:Nat}:∀ (ks:List CK) (off:Nat) (c:an) {K:List At->an->Env->Prop} {J:Env},ks.all CK.plain=true->fK ce=true->bP c ce=true->ix.wf c=true ->
    qQ (PA P W Q QM QP) ce ix sz off ks c K J->∃l c' aa,K l c' aa/\c.le c'/\Env.au c J aa/\l.length=ks.length /\
      ∀I,Env.au c' aa I->∀β j a,l[j]? = some a->(ak I β ce)[(ix.den I).toNat*sz+(off+j)]? = some (a.den I β)
  | [],off,c,K,J,_,_,_,_,h=>⟨[],c,J,h,an.le_refl _,Env.ah _ _,rfl,λ_ _ _ j a hj=>by simp at hj⟩
  |k::ks,off,c,K,J,lj,hf,hp,hi,h=>by
    simp only [List.all_cons,Bool.and_eq_true]at lj;obtain⟨aM,l1,h1,h2⟩:=ti [k] c h;have hle:=zn c k;obtain⟨l,c',aa,q1,q2,q3,q4,q5⟩:=HQ ks (off+1) (aS c k) lj.2 hf (yG hle hp) (IE.aH hle hi) h2;refine⟨a8 c k::l,c',aa,q1,an.le_trans hle q2,Env.ae hle l1 q3,by simp [q4],λI hl β j a hj => ?_⟩;cases j with
    |zero =>
      simp only [List.getElem?_cons_zero,Option.some.injEq]at hj;subst hj;have l2:Env.au (aS c k) aM I:=Env.ae q2 q3 hl;have l3:Env.au c J I:=Env.ae hle l1 l2;rw [yX I β b0 hf,zy l3 (β:=b0) (λ_ _=>rfl) hp,IE.U l3 hi,At.aU I β b0 (Fk c k lj.1),At.U l2 (β:=b0) (λ_ _=>rfl) (Fj c k)];exact h1
    |succ j =>
      have:=q5 I hl β j a (by simpa using hj)
      rw [show off+(j+1)=off+1+j by omega];exact this
theorem N7{ce:CE}{ix:IE}{sz off:Nat}{cs:List At}{p:Nat}(h:gp ce ix sz off=some (cs,p)):(∀J,(ix.den J).toNat*sz+off=p)/\∀J β,ak J β ce=cs.map (At.den J β):=by
 unfold gp at h;split at h
 ·rename_i j fH h1;simp only [Option.some.injEq,Prod.mk.injEq]at h;obtain⟨rfl,rfl⟩:=h;exact⟨λ_=>rfl,λJ β=>B' J β h1⟩
 ·cases h
theorem R0{m:Mem}{o:aY}(jR:jQ m o){c:an}{t:TypeId}{x:SV}{K:SV->an->Env->Prop}{J:Env}(h:lC (PA P W Q QM QP) P m o c t x K J) :
    cr c J K λsv I=>x ≠ .any/\sv ≠ .any/\∀β w,cS W w->fj W m o (av (aI x)) I β w->(Instr.loadAt t (x.den I β)).run P w=.ok (sv.den I β) w:=by
  unfold lC at h;generalize hz:aF P t=u1 at h;split at h
  · exact h.elim
  · rename_i g n;split at h
    · rename_i k ix sz off;generalize iz:aD o k=u2 at h;split at h
      · exact h.elim
      · rename_i ce s0 ty;split at h;rotate_left
        · exact h.elim
        rename_i xG;generalize fA:gp ce ix sz off=u3 at h;split at h
        · rename_i cs p;obtain⟨e1,e2⟩:=N7 fA
          have cell:∀(I:Env) (β:Nat->Nat) (w:World),fj W m o (av (aI (.cv (.one (.eT k ix sz off))))) I β w->∀(j:Nat) (a:At),cs[j]? = some a->w.cell? ⟨β k,j,none⟩=some (a.den I β):=by
            intro I β w hr j a hj;have aZ:=hr k (by simp [aI,CV.cells,av]) _ (jP (jR k _ iz) iz);exact N6 aZ xG (by rw [e2];simp [hj])
          split at h
          · rename_i hg;subst hg;split at h
            · rename_i hb;refine cr.pure h λI _=>⟨by simp,by simp,λβ w hB hr => ?_⟩
              have:=Be hz w (β k) p (((cs.drop p).take n).map (At.den I β)) (by simp;omega) (λj v hj=>by
                simp only [List.getElem?_map,Option.map_eq_some_iff]at hj;obtain⟨a,ha,rfl⟩:=hj
                have wg:j<n:=by
                  rcases Nat.lt_or_ge j n with h'|h'
                  · exact h'
                  · rw [List.getElem?_eq_none (by simp;omega)]at ha;cases ha
                rw [List.getElem?_take_of_lt wg,List.getElem?_drop]at ha;exact cell I β w hr _ a ha)
              show (Instr.loadAt t (ptr (β k) ((ix.den I).toNat*sz+off))).run P w=_;rw [e1];exact this
            · exact h.elim
          · rename_i hg;have eF:g=false:=by simpa using hg
            subst eF;generalize hc:cs[p]? = u4 at h;split at h
            · rename_i a;refine cr.pure h λI _=>⟨by simp,by simp,λβ w hB hr => ?_⟩;show (Instr.loadAt t (ptr (β k) ((ix.den I).toNat*sz+off))).run P w=_;rw [e1];exact Bf hz w (β k) p (a.den I β) (cell I β w hr p a hc)
            · exact h.elim
        · generalize hk:tI P 30 t=u4 at h;split at h
          · exact h.elim
          · rename_i ks;by_cases hc:ks.length=(if g=true then n else 1)/\ks.all CK.plain=true/\fK ce=true/\bP c ce=true/\ix.wf c=true
            · rw [if_pos hc]at h;obtain⟨hl,lj,hf,hp,hi⟩:=hc;obtain⟨l,c',aa,q1,q2,q3,q4,q5⟩:=HQ ks off c lj hf hp hi h;refine⟨_,c',aa,q1,q2,q3,λI cX=>⟨by simp,by simp,λβ w hB hr => ?_⟩⟩
              have key:∀j v,(l.map (At.den I β))[j]? = some v->w.cell? ⟨β k,(ix.den I).toNat*sz+off+j,none⟩=some v:=by
                intro j v hj;simp only [List.getElem?_map,Option.map_eq_some_iff]at hj;obtain⟨a,ha,rfl⟩:=hj;have aZ:=hr k (by simp [aI,CV.cells,av]) _ (jP (jR k _ iz) iz);rw [Nat.add_assoc];exact N6 aZ xG (q5 I cX β j a ha)
              cases g with
              |true =>
                have:=Be hz w _ _ (l.map (At.den I β)) (by simpa [q4]using hl) key
                cases l<;>exact this
              |false =>
                simp only [Bool.false_eq_true,if_false]at hl;rw [hl]at q4
                match l,q4 with
                | [a],_=>exact Bf hz w _ _ (a.den I β) (by simpa using key 0 _ rfl)
            · rw [if_neg hc]at h;exact h.elim
    · rename_i k off;generalize hm:getM m k=u2 at h;split at h
      · exact h.elim
      · rename_i cs ty;split at h
        · rename_i hg;subst hg;split at h
          · rename_i hb;refine cr.pure h λI _=>⟨by simp,by simp,λβ w hB hr => ?_⟩;obtain⟨_,hh⟩:=hr k (by simp [aI,CV.cells,av]) _ (nA hm)
            have:=Be hz w (β k) off (((cs.drop off).take n).map (At.den I β)) (by simp;omega) (λj v hj=>by
              rw [v_ hh];simp only [List.getElem?_map,Option.map_eq_some_iff]at hj;obtain⟨a,ha,rfl⟩:=hj
              have wg:j<n:=by
                rcases Nat.lt_or_ge j n with h'|h'
                · exact h'
                · rw [List.getElem?_eq_none (by simp;omega)]at ha;cases ha
              rw [List.getElem?_take_of_lt wg,List.getElem?_drop]at ha;simp [ha])
            exact this
          · exact h.elim
        · rename_i hg;have eF:g=false:=by simpa using hg
          subst eF;generalize hc:cs[off]? = u3 at h;split at h
          · rename_i a;refine cr.pure h λI _=>⟨by simp,by simp,λβ w hB hr => ?_⟩;obtain⟨_,hh⟩:=hr k (by simp [aI,CV.cells,av]) _ (nA hm);exact Bf hz w (β k) off (a.den I β) (by rw [v_ hh];simp [hc])
          · exact h.elim
    · rename_i p ix sz off;generalize hk:tI P 30 t=u2 at h;split at h
      · exact h.elim
      · rename_i ks;by_cases hc:ks.length=(if g=true then n else 1)/\ks.all CK.plain=true/\p<c.np/\ix.wf c=true
        · rw [if_pos hc]at h;obtain⟨hl,lj,hp,hi⟩:=hc;obtain⟨l,c',aa,q1,q2,q3,q4,q5⟩:=N5 ks off c lj hp hi h;refine⟨_,c',aa,q1,q2,q3,λI cX=>⟨by simp,by simp,λβ w hB hr => ?_⟩⟩
          have key:∀j v,(l.map (At.den I β))[j]? = some v->w.cell? ⟨(I.p p).1,(I.p p).2+(ix.den I).toNat*sz+off+j,none⟩=some v:=by
            intro j v hj;simp only [List.getElem?_map,Option.map_eq_some_iff]at hj;obtain⟨a,ha,rfl⟩:=hj;have h1:=q5 I cX β j a ha;rw [<-Nat.add_assoc]at h1;exact hB.cell h1
          cases g with
          |true =>
            have:=Be hz w _ _ (l.map (At.den I β)) (by simpa [q4]using hl) key
            cases l<;>exact this
          |false =>
            simp only [Bool.false_eq_true,if_false]at hl;rw [hl]at q4
            match l,q4 with
            | [a],_=>exact Bf hz w _ _ (a.den I β) (by simpa using key 0 _ rfl)
        · rw [if_neg hc]at h;exact h.elim
    · exact h.elim
theorem R3{m:Mem}{o:aY}(jR:jQ m o){c:an}{J I:Env}{β:Nat->Nat}{w:World}(hl:Env.au c J I)(hw:∀ k ce sz t,aD o k=some (ce,sz,t)->bP c ce=true) :
    ∀(cE:List At),fj W m o (av cE) I β w->uc W J β (dL o cE) w:=by
  intro cE
  induction cE with
  |nil=>exact λ_=>trivial
  |cons a r ih =>
    intro h;have skip:∀{k},av (a::r)=k::av r->uc W J β (dL o r) w:=λhe=>ih λj hj=>h j (by rw [he];exact List.mem_cons_of_mem _ hj)
    cases a<;>first
      |exact ih h
      |exact skip rfl
      |skip
    rename_i k;simp only [dL];have hr:fj W m o (av r) I β w:=λj hj=>h j (by simp [av,hj]);cases hg:aD o k with
    |none=>exact ih hr
    |some v =>
      obtain⟨ce,sz,t⟩:=v
      have:=h k (by simp [av]) _ (jP (jR k _ hg) hg)
      refine⟨?_,ih hr⟩;rw [<-zy hl (β:=β) (λ_ _=>rfl) (hw k ce sz t hg)];exact this
theorem yY{m:Mem}{o:aY}(jR:jQ m o){c:an}{J I:Env}{β:Nat->Nat}{w:World}(hl:Env.au c J I)(hw:∀ k cs t,getM m k=some (cs,t)->cs.all (At.wf c)=true)
    (Fu:∀k ce sz t,aD o k=some (ce,sz,t)->bP c ce=true) :
    ∀(cE:List At),fj W m o (av cE) I β w->lS W J β (cu m cE) (dL o cE) w:=by
  have main:∀(cE:List At) (o':aY),uc W J β o' w->fj W m o (av cE) I β w->lS W J β (cu m cE) o' w:=by
    intro cE o' R4
    induction cE with
    |nil=>exact λ_=>R4
    |cons a r ih =>
      intro h
      have step:∀ k,(∀ j∈k::av r,∀ e,aC m o j=some e->Holds W I β j e w) ->
          lS W J β (match getM m k with|some v=>(k,v)::cu m r|none=>cu m r) o' w:=by
        intro k hk;have hr:fj W m o (av r) I β w:=λj hj=>hk j (by simp [hj]);cases hg:getM m k with
        |none=>exact ih hr
        |some v =>
          obtain⟨cs,t⟩:=v;obtain⟨h1,h2⟩:=hk k (by simp) _ (nA hg);rw [vP hl (β:=β) (λ_ _=>rfl) (hw k cs t hg)]at h2;exact⟨⟨h1,h2⟩,ih hr⟩
      have skip:∀{k},av (a::r)=k::av r->lS W J β (cu m r) o' w:=λhe=>ih λj hj=>h j (by rw [he];exact List.mem_cons_of_mem _ hj)
      cases a<;>first
        |exact step _ h
        |exact ih h
        |exact skip rfl
  exact λcE h=>main cE _ (R3 jR hl Fu cE h) h
theorem Fv:∀(l:List TypeId) {ss:List (Bool × List CK)},gF P l=some ss->(bN ss).all CK.plain=true
  | [],ss,h=>by simp only [gF,Option.some.injEq]at h;subst h;rfl
  |t::l,ss,h=>by
    simp only [gF]at h;split at h
    · split at h
      · rename_i ks r _ _ h3 hc;simp only [Option.some.injEq]at h;subst h;simp only [bN,List.all_append,Bool.and_eq_true];exact⟨hc.2,Fv l h3⟩
      · cases h
    · cases h
theorem Bg:∀(ss:List (Bool × List CK)) (l:List At),l.all At.flat=true->(bE ss l).all CV.flat=true
  | [],_,_=>rfl
  | (g,ks)::r,l,h=>by
    have h1:(l.take ks.length).all At.flat=true:=List.all_eq_true.2 λx hx=>List.all_eq_true.1 h x (List.mem_of_mem_take hx);have h2:(l.drop ks.length).all At.flat=true:=List.all_eq_true.2 λx hx=>List.all_eq_true.1 h x (List.mem_of_mem_drop hx);simp only [bE,List.all_cons,Bg r _ h2,Bool.and_true];unfold dK;split
    · rename_i a ha;rw [ha]at h1;simpa [CV.flat]using h1
    · exact h1
theorem Bh(c:an):∀(ss:List (Bool × List CK)) (l:List At),l.all (At.wf c)=true->(bE ss l).all (CV.wf c)=true
  | [],_,_=>rfl
  | (g,ks)::r,l,h=>by
    have h1:(l.take ks.length).all (At.wf c)=true:=List.all_eq_true.2 λx hx=>List.all_eq_true.1 h x (List.mem_of_mem_take hx);have h2:(l.drop ks.length).all (At.wf c)=true:=List.all_eq_true.2 λx hx=>List.all_eq_true.1 h x (List.mem_of_mem_drop hx);simp only [bE,List.all_cons,Bh c r _ h2,Bool.and_true];unfold dK;split
    · rename_i a ha;rw [ha]at h1;simpa [CV.wf]using h1
    · exact h1
theorem Cy{cs:List CV}(h:cs.all CV.flat=true):dZ (cd cs)=true:=by
 unfold cd;split
 ·simpa [dZ]using h
 ·exact h
theorem Bi{c:an}{cs:List CV}(h:cs.all (CV.wf c)=true):(cd cs).wf c=true:=by
 unfold cd;split
 ·simpa [SV.wf]using h
 ·exact h
theorem Bj(cs:List CV):cd cs ≠ .any:=by
 unfold cd;split<;>simp
structure bY.Ok(G:bY):Prop where
 calls:∀f,G.calls.contains f=true->∀args w,(callFunc f args).run G.P w=.ok (.enter f args) w
 inl:∀f,G.inl.contains f=true->∀args w,(callFunc f args).run G.P w=.ok (.enter f args) w
 rX:∀e∈G.rX,∀(A:bZ (Env->Prop)) (yl:Yl (Env->Prop)) (K:Ex->St->Env->Prop) (K':SV->St->Env->Prop),qv A G (exec A G e.n) yl K e.f e.args e.s K'=qf A e.asks (K' e.v e.s')
def Cz(G:bY)(W:dN)(m:Mem)(o:aY)(f:FuncId)(args:List SV)(sv:SV)(J:Env):Prop :=
  sv ≠ .any/\(∀x∈args,x ≠ .any)/\∀β w,cS W w->fj W m o (av (bT m o args)) J β w ->
    ((callFunc f (args.map (SV.den J β)).toArray).run G.P w=.ok (.value (sv.den J β)) w ∨
     ((callFunc f (args.map (SV.den J β)).toArray).run G.P w=.ok (.enter f (args.map (SV.den J β)).toArray) w/\Calls G.P f (args.map (SV.den J β)).toArray w (aw (sv.den J β) w)))
theorem N8{G:bY}(hG:G.Ok){m:Mem}{o:aY}(jR:jQ m o){c:an}{f:FuncId}{args:List SV}{K:SV->an->Env->Prop}{J:Env}(hw:∀ k cs t,getM m k=some (cs,t)->cs.all (At.wf c)=true)(Fu:∀ k ce sz t,aD o k=some (ce,sz,t)->bP c ce=true)
    (h:j5 (PA G.P W Q QM QP) G m o c f args K J):cr c J K (Cz G W m o f args):=by
  unfold j5 at h;generalize hf:G.P.funcs[f]? = u1 at h;split at h
  · exact h.elim
  · rename_i fn;generalize hs:gF G.P fn.resultTypes.toList=u2 at h;split at h
    · exact h.elim
    · rename_i ss;split at h
      · exact h.elim
      · rename_i ha;simp only [not_or,Decidable.not_not]at ha;obtain⟨pd,rf⟩:=ha
        have eD:∀x∈args,x ≠ .any:=by
          intro x hx he;subst he;exact pd (List.any_eq_true.2 ⟨_,hx,rfl⟩)
        have i9:dZ (cd (bE ss (ao c (bN ss))))=true:=Cy (Bg _ _ (Cq _ _ (Fv _ hs)));have il:(cd (bE ss (ao c (bN ss)))).wf (aK c (bN ss))=true:=Bi (Bh _ _ _ (yU _ _));have hle:=vo (bN ss) c
        have d_:∀{aM I:Env} (β:Nat->Nat),Env.au c aM I->args.map (SV.den I β)=args.map (SV.den aM β):=λβ hl =>
          List.map_congr_left λx hx=>SV.U hl (λ_ _=>rfl) (List.all_eq_true.1 rf x hx)
        have jS:∀(aM:Env) (β:Nat->Nat),args.all dZ=true->args.map (SV.den aM β)=args.map (SV.den aM b0):=λaM β hl =>
          List.map_congr_left λx hx=>SV.aU aM β b0 (List.all_eq_true.1 hl x hx)
        split at h
        · generalize qT G f args=u3 at h;cases u3 with
          |some l =>
            simp only at h;split at h
            · rename_i fZ;obtain⟨fZ,oG⟩:=fZ;have i9:dZ (cd (bE ss l))=true:=Cy (Bg _ _ oG);have il:(cd (bE ss l)).wf c=true:=Bi (Bh _ _ _ fZ);obtain⟨⟨h1,h2⟩,h3⟩:=h;refine⟨_,_,J,h3,an.le_refl _,Env.ah _ _,λI l3=>⟨Bj _,eD,λβ w hB hr=>.inl ?_⟩⟩;rw [d_ β l3,jS J β h1,SV.aU I β b0 i9,SV.U l3 (β:=b0) (λ_ _=>rfl) il];exact h2 w
            · exact h.elim
          |none =>
          obtain⟨aM,l1,⟨h1,h2⟩,h3⟩:=ti _ c h;refine⟨_,_,aM,h3,hle,l1,λI hl=>⟨Bj _,eD,λβ w hB hr=>.inl ?_⟩⟩;have l3:Env.au c J I:=Env.ae hle l1 hl;rw [d_ β l3,jS J β h1,SV.aU I β b0 i9,SV.U hl (β:=b0) (λ_ _=>rfl) il];exact h2 w
        · split at h
          · rename_i hc;generalize qR G f args (bN ss)=u3 at h;cases u3 with
            |some l =>
              simp only at h;split at h
              · rename_i fZ;obtain⟨fZ,oG⟩:=fZ;have i9:dZ (cd (bE ss l))=true:=Cy (Bg _ _ oG);have il:(cd (bE ss l)).wf c=true:=Bi (Bh _ _ _ fZ);obtain⟨h1,h3⟩:=h;refine⟨_,_,J,h3,an.le_refl _,Env.ah _ _,λI l3=>⟨Bj _,eD,λβ w hB hr=>.inr ⟨hG.calls f hc _ w, ?_⟩⟩⟩;rw [SV.aU I β b0 i9,SV.U l3 (β:=b0) (λ_ _=>rfl) il];split at h1
                · rename_i HR;rw [d_ β l3,jS J β HR];exact h1 w hB
                · rw [d_ β l3];exact h1 β w hB (yY jR l3 hw Fu _ hr)
              · exact h.elim
            |none =>
              obtain⟨aM,l1,h1,h3⟩:=ti _ c h;refine⟨_,_,aM,h3,hle,l1,λI hl=>⟨Bj _,eD,λβ w hB hr=>.inr ⟨hG.calls f hc _ w, ?_⟩⟩⟩;have l3:Env.au c J I:=Env.ae hle l1 hl;rw [SV.aU I β b0 i9,SV.U hl (β:=b0) (λ_ _=>rfl) il];split at h1
              · rename_i HR;rw [d_ β l3,jS J β HR];exact h1 w hB
              · rw [d_ β l3];exact h1 β w hB (yY jR l3 hw Fu _ hr)
          · exact h.elim
end Vc
set_option linter.unusedVariables false
namespace Vc
open Go Go.RowKit
variable {P:Program} {W:dN} {Q:Value->Prop} {QM QP:World->Value->Prop}
theorem fk(em:Bool)(d:Nat):∀ (n:Nat) (t:TypeId) (ks:List CK),jh P n t=some ks->∀ (J:Env) (β:Nat->Nat) (xs:List At) (x:Value) (w:World),xs.length=ks.length->jv P t J β x xs ->
    (Instr.checkKey em (d+n) t x).run P w=.ok () w
  |0,_,_,h=>by cases h
  |n+1,t,ks,h=>by
    intro J β xs x w hl hx;simp only [jh]at h;cases hu:P.underlying t with
    |none=>simp [hu]at h
    |some dd =>
      simp only [hu]at h;simp only [jv,hu]at hx;rw [show d+(n+1)=(d+n)+1 from rfl,Instr.checkKey];simp only [Sem.run_bind,run_underlying hu,Result.andThen_ok];cases dd<;>simp only [reduceCtorEq,Option.some.injEq]at h
      case int k=>rfl
      case bool=>rfl
      case string=>rfl
      case struct fs =>
        subst hx;split at h
        · cases h
        · simp only [];rw [<-Array.forIn_toList];have fP:(xs.drop 0).length=ks.length:=by simpa using hl
          generalize fs.toList=L at h ⊢;generalize 0=off at h fP;clear hl hu
          induction L generalizing off ks with
          |nil=>simp
          |cons fd r ih =>
            simp only [r9]at h;split at h
            · cases h
            · rename_i hn;simp only [not_or,Decidable.not_not]at hn;obtain⟨hn,ho⟩:=hn;split at h
              · rename_i k1 g n' h1 h2;split at h
                · rename_i mL;simp only [Option.map_eq_some_iff]at h;obtain⟨k2,h3,rfl⟩:=h;simp only [List.length_append,List.length_drop]at fP;subst mL;have lT:((xs.drop off).take k1.length).length=k1.length:=by simp only [List.length_take,List.length_drop];omega
                  obtain⟨v,p1,v1⟩:=Ba (J:=J) (β:=β) h2 xs off (λhg=>Fo _ _ _ h1 _ _ h2 hg) lT w;have r1:=fk em d n fd.type k1 h1 J β _ v w lT v1;have r2:=ih (off:=off+k1.length) (ks:=k2) h3 (by simp only [List.length_drop];omega);subst ho;simp only [List.forIn_cons,Sem.run_bind,hn,ne_eq,not_false_eq_true,if_true,p1,r1,Result.andThen_ok,Sem.run_pure];simpa only [Sem.run_bind,Sem.run_pure,ne_eq]using r2
                · cases h
              · cases h
      case array m el =>
        subst hx;split at h
        · rename_i k1 g s h1 h2;split at h
          · rename_i hs;subst hs;simp only [Option.some.injEq]at h;subst h;simp only [Std.Legacy.Range.forIn_eq_forIn_range',Std.Legacy.Range.size,Nat.sub_zero,Nat.add_one_sub_one,Nat.div_one]
            have tl:∀m,(times k1 m).length=m*k1.length:=by
              intro m
              induction m with
              |zero=>simp [times]
              |succ m ih=>simp only [times,List.length_append,ih,Nat.succ_mul];omega
            rw [tl]at hl;have hi:(0+m)*k1.length<=xs.length:=by rw [Nat.zero_add,hl];exact Nat.le_refl _
            clear hl hu;generalize 0=i at hi ⊢
            induction m generalizing i with
            |zero=>simp
            |succ c ih =>
              have e1:(i+1+c)*k1.length<=xs.length:=by rw [show i+1+c=i+(c+1) by omega];exact hi
              have e2:i*k1.length+k1.length<=xs.length:=by
                have:(i+1)*k1.length<=(i+(c+1))*k1.length:=Nat.mul_le_mul_right _ (by omega)
                rw [Nat.succ_mul]at this;omega
              have lT:((xs.drop (i*k1.length)).take k1.length).length=k1.length:=by simp only [List.length_take,List.length_drop];omega
              obtain⟨v,p1,v1⟩:=Ba (J:=J) (β:=β) h2 xs (i*k1.length) (λhg=>Fo _ _ _ h1 _ _ h2 hg) lT w;have r1:=fk em d n el k1 h1 J β _ v w lT v1;have r2:=ih (i+1) e1;rw [List.range'_succ];simp only [List.forIn_cons,Sem.run_bind,pc h2,p1,r1,Result.andThen_ok,Sem.run_pure];simpa only [Sem.run_bind,Sem.run_pure]using r2
          · cases h
        · cases h
theorem N9{n:Nat}{t:TypeId}{dd:TypeDesc}{ks:List CK}(hu:P.underlying t=some dd)(h:jh P n t=some ks){J:Env}{β:Nat->Nat}{xs ys:List At}{e:BE}{x y:Value}(he:aT ks xs ys=some e)
    (hx:jv P t J β x xs) (hy:jv P t J β y ys):Instr.sameNow dd x y=none∨Instr.sameNow dd x y=some (e.den J):=by
  cases n with
  |zero=>cases h
  |succ n =>
    simp only [jh,hu]at h;simp only [jv,hu]at hx hy;cases dd<;>simp only [reduceCtorEq,Option.some.injEq]at h
    case int k =>
      subst h;obtain⟨a,rfl,rfl⟩:=hx;obtain⟨b,rfl,rfl⟩:=hy;obtain⟨a0,x,b1,y,e1,e2,p1,p2,h1,h2,rfl⟩:=v7 he;cases p1;cases p2;simp only [aT,Option.some.injEq]at h2;subst h2;simp only [eU]at h1;split at h1
      · split at h1
        · rename_i hk;simp only [Option.some.injEq]at h1;subst h1;obtain⟨rfl,rfl⟩:=hk;right;simp only [At.den,BE.den,gE,Bool.and_true,Instr.sameNow,if_true]
          try rfl
        · cases h1
      · cases h1
    case bool =>
      subst h;obtain⟨a,rfl,rfl⟩:=hx;obtain⟨b,rfl,rfl⟩:=hy;obtain⟨a0,x,b1,y,e1,e2,p1,p2,h1,h2,rfl⟩:=v7 he;cases p1;cases p2;simp only [aT,Option.some.injEq]at h2;subst h2;simp only [eU]at h1;split at h1
      · simp only [Option.some.injEq]at h1;subst h1;right;simp only [At.den,BE.den,Bool.and_true,Instr.sameNow]
      · cases h1
    case string =>
      subst h;obtain⟨a,rfl,rfl⟩:=hx;obtain⟨b,rfl,rfl⟩:=hy;obtain⟨a0,x,b1,y,e1,e2,p1,p2,h1,h2,rfl⟩:=v7 he;cases p1;cases p2;simp only [aT,Option.some.injEq]at h2;subst h2;simp only [eU]at h1;split at h1
      · rename_i p q hp hq;simp only [Option.some.injEq]at h1;subst h1;rw [vt hp,vt hq];right;simp only [BE.den,Bool.and_true,Instr.sameNow];congr 1;rw [Bool.eq_iff_iff,Go.MapKept.bytes_beq,Cs];simp
      · cases h1
    case struct fs=>exact .inl rfl
    case array m el=>exact .inl rfl
theorem HS(J:Env)(β:Nat->Nat):∀ {ks:List CK} {xs ys:List At} {e:BE},aT ks xs ys=some e->e.den J=true ->
    xs.map (At.den J β)=ys.map (At.den J β)/\∀v∈xs.map (At.den J β),∀n,Instr.sameBits (n+1) v v=true
  | [],xs,ys,e,h,he=>by
    have:=A' J h
    have h1:xs=[]:=List.eq_nil_of_length_eq_zero this.1;have h2:ys=[]:=List.eq_nil_of_length_eq_zero this.2;subst h1 h2;exact⟨rfl,λv hv=>by cases hv⟩
  |k::r,xs,ys,e,h,he=>by
    obtain⟨a,x,b,y,e1,e2,rfl,rfl,h1,h2,rfl⟩:=v7 h;simp only [BE.den,Bool.and_eq_true]at he;obtain⟨q1,q2⟩:=HS J β h2 he.2
    have one:a.den J β=b.den J β/\∀n,Instr.sameBits (n+1) (a.den J β) (a.den J β)=true:=by
      have yZ:=he.1;cases k with
      |int k =>
        simp only [eU]at h1;split at h1
        · split at h1
          · rename_i hk;simp only [Option.some.injEq]at h1;subst h1;obtain⟨rfl,rfl⟩:=hk;simp only [BE.den,gE,decide_eq_true_eq,beq_iff_eq]at yZ;simp only [At.den];exact⟨by rw [yZ],λn=>by simp [Instr.sameBits]⟩
          · cases h1
        · cases h1
      |bool =>
        simp only [eU]at h1;split at h1
        · simp only [Option.some.injEq]at h1;subst h1;simp only [BE.den,beq_iff_eq]at yZ;simp only [At.den];exact⟨by rw [yZ],λn=>by simp [Instr.sameBits]⟩
        · cases h1
      |str =>
        simp only [eU]at h1;split at h1
        · rename_i p q hp hq;simp only [Option.some.injEq]at h1;subst h1;simp only [BE.den,decide_eq_true_eq,beq_iff_eq]at yZ;rw [vt hp,vt hq];exact⟨by rw [yZ],λn=>by simp only [Instr.sameBits];exact (Go.MapKept.bytes_beq _ _).2 rfl⟩
        · cases h1
      |tf=>simp [eU]at h1
      |sl sz=>simp [eU]at h1
      |own sz t=>simp [eU]at h1
    refine⟨by simp only [List.map_cons,one.1,q1],λv hv n => ?_⟩;simp only [List.map_cons,List.mem_cons]at hv;rcases hv with rfl|hv
    · exact one.2 n
    · exact q2 v hv n
theorem N_{v:Value}(h:v.oneCell'=true):v.cells=#[v]:=by
 cases v<;>first|rfl|cases h
theorem CA{t:TypeId}{g:Bool}{n:Nat}(hz:aF P t=some (g,n)){v:Value}(h:de (cI g n) v){xs:List At}{J:Env}{β:Nat->Nat}(hx:v.cells.toList=xs.map (At.den J β)) :
    jv P t J β v xs/\v=(dK g xs).den J β/\xs.length=n:=by
  obtain⟨d,i,h1,h2,rfl,hg⟩:=zz hz;cases g with
  |true =>
    simp only [de,cI,if_true]at h;rw [if_pos (by omega)]at h;obtain⟨cs,rfl,hs⟩:=h;have hc:cs=(xs.map (At.den J β)).toArray:=by apply Array.ext';simpa [Value.cells]using hx
    have hl:xs.length=i.size:=by
      have:cs.size=xs.length:=by rw [hc];simp
      omega
    refine⟨?_, ?_,hl⟩
    · unfold jv;rw [h1];cases d<;>simp only [reduceCtorEq,Bool.true_eq_false]at hg<;>rw [hc]
    · rw [hc];cases xs with
      |nil=>rfl
      |cons a r=>rfl
  |false =>
    simp only [de,cI,Bool.false_eq_true,if_false,Nat.add_zero]at h;rw [if_neg (by omega)]at h;obtain⟨h3,h4⟩:=h;rw [N_ h3]at hx
    match xs,hx with
    | [a],hx =>
      simp only [List.map_cons,List.map_nil,List.cons.injEq,and_true]at hx;refine⟨?_,hx,by simp only [List.length_cons,List.length_nil];omega⟩;unfold jv;rw [h1];cases d<;>simp only [reduceCtorEq,Bool.false_eq_true]at hg<;>exact⟨a,rfl,hx⟩
theorem Bk{g:Bool}{n:Nat}{v:CV}(h:ly g n v=true)(J:Env)(β:Nat->Nat):de (cI g n) (v.den J β)/\v.cells.length=n:=by
  cases v with
  |one a =>
    simp only [ly,Bool.and_eq_true,Bool.not_eq_true',decide_eq_true_eq]at h;obtain⟨rfl,rfl⟩:=h;exact⟨by simp only [de,cI,Bool.false_eq_true,if_false];rw [if_neg (by omega)];exact⟨At.gi J β a,trivial⟩,rfl⟩
  |agg l =>
    simp only [ly,Bool.and_eq_true,decide_eq_true_eq]at h;obtain⟨rfl,rfl⟩:=h;refine⟨?_,rfl⟩;simp only [de,cI,if_true];rw [if_pos (by omega)];exact⟨_,rfl,by simp;omega⟩
theorem ud{t:TypeId}{x:fL}(h:eV P t=some x):P.underlying t=some (.map x.key x.el)/\jh P 30 x.key=some x.ks/\aF P x.key=some (x.gk,x.ks.length)/\aF P x.el=some (x.ge,x.ne) /\
  0<x.ks.length/\0<x.no/\x.no / 1048576=cI x.gk x.ks.length/\x.no % 1048576=cI x.ge x.ne:=by
 unfold eV at h;split at h
 ·rename_i key el hu;split at h
  ·rename_i ks gk nk ge ne h1 h2 h3;split at h
   ·rename_i hc;simp only [Option.some.injEq]at h;subst h;obtain⟨rfl,c1,c2,c3⟩:=hc;have b1:cI ge ne<1048576:=by unfold cI;split<;>omega
    have b2:0<cI gk ks.length:=by unfold cI;omega
    refine⟨hu,h1,h2,h3,c1, ?_, ?_, ?_⟩<;>simp only [fL.no]<;>omega
   ·cases h
  ·cases h
 ·cases h
def lU(P:Program)(key:TypeId)(w:World)(kv:Value)(es:List MapEntry)(i:Nat)(r:Option (Nat × Value)):Prop :=
 (Instr.findAsking key kv es i).run P w=.ok r w/\∀kd,P.underlying key=some kd->Instr.findNow kd kv es i=none∨Instr.findNow kd kv es i=some r
theorem lU.run{key:TypeId}{w:World}{kv:Value}{es:List MapEntry}{r:Option (Nat × Value)}(h:lU P key w kv es 0 r){kd:TypeDesc}(hk:P.underlying key=some kd):(Instr.findKey key kv es).run P w=.ok r w:=by
 unfold Instr.findKey;simp only [Sem.run_bind,run_underlying hk,Result.andThen_ok];rcases h.2 kd hk with h1|h1<;>rw [h1]
 ·exact h.1
 ·rfl
def aA(e:MapEntry):List Value:=e.key.cells.toList++e.val.cells.toList
theorem CB{t:TypeId}{J:Env}{β:Nat->Nat}{x y:Value}{xs ys:List At}(hx:jv P t J β x xs)(hy:jv P t J β y ys)(h:xs.map (At.den J β)=ys.map (At.den J β)):x=y:=by
 have one:(∃a,xs=[a]/\x=a.den J β)->(∃a,ys=[a]/\y=a.den J β)->x=y:=by
  rintro ⟨a,rfl,rfl⟩ ⟨b,rfl,rfl⟩;simpa using h
 unfold jv at hx hy;generalize P.underlying t=u at hx hy;cases u with
 |none=>exact one hx hy
 |some d=>cases d<;>first|exact one hx hy | (simp only at hx hy;rw [hx,hy,h])
theorem N'{t:TypeId}{J:Env}{β:Nat->Nat}{x:Value}{xs:List At}(hx:jv P t J β x xs)(h:∀v∈xs.map (At.den J β),∀n,Instr.sameBits (n+1) v v=true):Instr.sameBits 10000 x x=true:=by
  have agg:Instr.sameBits 10000 (.agg (xs.map (At.den J β)).toArray) (.agg (xs.map (At.den J β)).toArray)=true:=by
    show Instr.sameBits (9999+1) _ _=true;rw [Instr.sameBits];simp only [beq_self_eq_true,Bool.true_and,List.all_eq_true];intro p hp
    have:p.1=p.2/\p.1∈xs.map (At.den J β):=by
      generalize xs.map (At.den J β)=l at hp;clear h hx;simp only [List.zip_eq_zipWith]at hp
      induction l with
      |nil=>simp at hp
      |cons a r ih =>
        simp only [List.zipWith_cons_cons,List.mem_cons]at hp;rcases hp with rfl|hp
        · exact⟨rfl,by simp⟩
        · obtain⟨h1,h2⟩:=ih hp;exact⟨h1,List.mem_cons_of_mem _ h2⟩
    rw [<-this.1];exact h p.1 this.2 9998
  unfold jv at hx;split at hx
  · rw [hx];exact agg
  · rw [hx];exact agg
  · obtain⟨a,rfl,rfl⟩:=hx;exact h _ (by simp) 9999
theorem ue{g:Bool}{n:Nat}{v:Value}(h:de (cI g n) v):v.cells.size=n:=by
  cases g with
  |true =>
    simp only [de,cI,if_true]at h;rw [if_pos (by omega)]at h;obtain⟨cs,rfl,hs⟩:=h;simp only [Value.cells];omega
  |false =>
    simp only [de,cI,Bool.false_eq_true,if_false,Nat.add_zero]at h;rw [if_neg (by omega)]at h;rw [N_ h.1];simp only [List.size_toArray,List.length_cons,List.length_nil];omega
theorem Oa{g1 g2:Bool}{nk ne:Nat}{e:MapEntry}(h1:de (cI g1 nk) e.key)(h2:de (cI g2 ne) e.val){r:List MapEntry}{cs:List At}{J:Env}{β:Nat->Nat}(h:(e::r).flatMap aA=cs.map (At.den J β)) :
  e.key.cells.toList=(cs.take nk).map (At.den J β)/\e.val.cells.toList=((cs.drop nk).take ne).map (At.den J β)/\r.flatMap aA=(cs.drop (nk+ne)).map (At.den J β)/\nk+ne<=cs.length:=by
 have s1:e.key.cells.toList.length=nk:=by simpa using ue h1
 have s2:e.val.cells.toList.length=ne:=by simpa using ue h2
 simp only [List.flatMap_cons,aA,List.append_assoc]at h;have hlen:=congrArg List.length h;simp only [List.length_append,List.length_map,s1,s2]at hlen;refine⟨?_, ?_, ?_,by omega⟩
 ·rw [List.map_take,<-h,<-s1,List.take_left]
 ·rw [List.map_take,List.map_drop,<-h]
  conv=>rhs;rw [<-s1,List.drop_left,<-s2,List.take_left]
 ·rw [List.map_drop,<-h,<-List.drop_drop]
  conv=>rhs;rw [<-s1,List.drop_left,<-s2,List.drop_left]
theorem HT{x:fL}{t:TypeId}(hx:eV P t=some x){c:an}{kc:List At}{found:Nat->List At->Env->Prop}{Cd:Unit->Env->Prop}{J:Env}:∀ (fuel:Nat) (cs:List At) (i:Nat),
    jE (PA P W Q QM QP) c x kc found Cd fuel cs i J ->
    ∃r:Option (Nat × List At),(match r with|some (j,v)=>found (i+j) v J|none=>Cd () J) /\
      ∀(I:Env),Env.au c J I->∀(β:Nat->Nat) (w:World) (kv:Value) (es:List MapEntry),jv P x.key I β kv kc->es.flatMap aA=cs.map (At.den I β) ->
        (∀e∈es,de (cI x.gk x.ks.length) e.key/\de (cI x.ge x.ne) e.val) ->
        lU P x.key w kv es i (r.map λy=>(i+y.1,(dK x.ge y.2).den I β)) /\
        ∀j v,r=some (j,v)->∃e,es[j]? = some e/\e.key=kv/\Instr.sameBits 10000 kv kv=true
  |0,cs,i,h=>h.elim
  |n+1,cs,i,h=>by
    obtain⟨m1,m2,m3,m4,m5,m6,m7,m8⟩:=ud hx;obtain⟨kd,qw⟩:∃d,P.underlying x.key=some d:=by obtain⟨d,_,h1,_⟩:=zz m3;exact⟨d,h1⟩
    simp only [jE]at h;split at h
    · rename_i oc;subst oc;refine⟨none,h,λI hl β w kv es hv f_ ga=>⟨?_,λj v hr=>by cases hr⟩⟩
      have:es=[]:=by
        cases es with
        |nil=>rfl
        |cons e r =>
          obtain⟨s1,s2⟩:=ga e (by simp);obtain⟨_,_,_,h4⟩:=Oa s1 s2 f_;simp only [List.length_nil]at h4;omega
      subst this;exact⟨rfl,λkd _=>.inr rfl⟩
    · rename_i oc;generalize he:aT x.ks kc (cs.take x.ks.length)=u at h;split at h;rotate_left
      · exact h.elim
      rename_i e;split at h;rotate_left
      · exact h.elim
      rename_i hc;obtain⟨uf,hlen⟩:=hc
      have cons:∀ (I:Env),Env.au c J I->∀ (β:Nat->Nat) (w:World) (kv:Value) (es:List MapEntry),jv P x.key I β kv kc->es.flatMap aA=cs.map (At.den I β) ->
          (∀e∈es,de (cI x.gk x.ks.length) e.key/\de (cI x.ge x.ne) e.val)->∃e0 r,es=e0::r/\jv P x.key I β e0.key (cs.take x.ks.length)/\e0.val=(dK x.ge ((cs.drop x.ks.length).take x.ne)).den I β /\
            r.flatMap aA=(cs.drop (x.ks.length+x.ne)).map (At.den I β)/\(Op.equal x.key kv e0.key).run P w=.ok (e.den J) w/\(Instr.sameNow kd kv e0.key=none∨Instr.sameNow kd kv e0.key=some (e.den J)):=by
        intro I hl β w kv es hv f_ ga;cases es with
        |nil =>
          simp only [List.flatMap_nil]at f_;exact (oc (List.map_eq_nil_iff.1 f_.symm)).elim
        |cons e0 r =>
          obtain⟨s1,s2⟩:=ga e0 (by simp);obtain⟨a1,a2,a3,a4⟩:=Oa s1 s2 f_;obtain⟨b1,b2,b3⟩:=CA m3 s1 a1;obtain⟨c1,c2,c3⟩:=CA m4 s2 a2;refine⟨e0,r,rfl,b1,c2,a3, ?_, ?_⟩
          · rw [<-BE.U hl uf];exact Ct 9970 30 x.key x.ks m2 I β kc _ e kv e0.key w he hv b1
          · rw [<-BE.U hl uf];exact N9 qw m2 he hv b1
      rcases zq h with ⟨h1,h⟩|⟨h1,h⟩
      · refine⟨some (0,(cs.drop x.ks.length).take x.ne),h,λI hl β w kv es hv f_ ga => ?_⟩;obtain⟨e0,r,rfl,q1,q2,q3,q4,q5⟩:=cons I hl β w kv es hv f_ ga;rw [h1]at q4 q5;have kS:e.den I=true:=by rw [BE.U hl uf];exact h1
        obtain⟨g1,g2⟩:=HS I β he kS;refine⟨⟨?_,λHU lV => ?_⟩,λj v hr => ?_⟩
        · simp only [Instr.findAsking,Sem.run_bind,q4,Result.andThen_ok,if_true,Sem.run_pure,Option.map_some,Nat.add_zero,q2]
        · rw [qw]at lV;cases lV;simp only [Instr.findNow];rcases q5 with q5|q5<;>rw [q5]
          · exact .inl rfl
          · right;simp only [Option.map_some,Nat.add_zero,q2]
        · simp only [Option.some.injEq,Prod.mk.injEq]at hr;obtain⟨rfl,rfl⟩:=hr;exact⟨e0,rfl,CB q1 hv g1.symm,N' hv g2⟩
      · obtain⟨r,h2,h3⟩:=HT hx n _ (i+1) h;refine⟨r.map λy=>(y.1+1,y.2), ?_,λI hl β w kv es hv f_ ga => ?_⟩
        · cases r with
          |none=>exact h2
          |some y=>simpa [Nat.add_assoc,Nat.add_comm 1]using h2
        · obtain⟨e0,r',rfl,q1,q2,q3,q4,q5⟩:=cons I hl β w kv es hv f_ ga;rw [h1]at q4 q5;obtain⟨⟨f1,f2⟩,f3⟩:=h3 I hl β w kv r' hv q3 λe he=>ga e (by simp [he])
          have er:(Option.map (λy:Nat × List At=>(i+y.1,(dK x.ge y.2).den I β)) (r.map λy=>(y.1+1,y.2)))=r.map λy=>(i+1+y.1,(dK x.ge y.2).den I β):=by
            cases r with
            |none=>rfl
            |some y=>simp only [Option.map_some,Option.some.injEq,Prod.mk.injEq,and_true];omega
          rw [er];refine⟨⟨?_,λHU lV => ?_⟩,λj v hr => ?_⟩
          · simp only [Instr.findAsking,Sem.run_bind,q4,Result.andThen_ok,Bool.false_eq_true,if_false];exact f1
          · rw [qw]at lV;cases lV;simp only [Instr.findNow];rcases q5 with q5|q5<;>rw [q5]
            · exact .inl rfl
            · exact f2 _ qw
          · cases r with
            |none=>cases hr
            |some y =>
              simp only [Option.map_some,Option.some.injEq,Prod.mk.injEq]at hr;obtain⟨rfl,rfl⟩:=hr;obtain⟨e1,k1,k2,k3⟩:=f3 y.1 y.2 rfl;exact⟨e1,by simpa using k1,k2,k3⟩
theorem wj{t:TypeId}{x:fL}(hx:eV P t=some x){ob:Option Obj}{n:Nat}{xs:List Value} :
  xB ob n xs x.no↔∃es clock,ob=some (.map es clock)/\es.toList.flatMap aA=xs/\∀e∈es.toList,de (cI x.gk x.ks.length) e.key/\de (cI x.ge x.ne) e.val:=by
 obtain⟨m1,m2,m3,m4,m5,m6,m7,m8⟩:=ud hx;obtain⟨t',ht⟩:∃t',x.no=t'+1:=⟨x.no-1,by omega⟩;rw [<-m7,<-m8,ht];exact Iff.rfl
theorem CC{g1 g2:Bool}{nk ne:Nat}:∀(es:List MapEntry),(∀e∈es,de (cI g1 nk) e.key/\de (cI g2 ne) e.val)->(es.flatMap aA).length=es.length*(nk+ne)
  | [],_=>by simp
  |e::r,h=>by
    obtain⟨s1,s2⟩:=h e (by simp);have l1:e.key.cells.toList.length=nk:=by simpa using ue s1
    have l2:e.val.cells.toList.length=ne:=by simpa using ue s2
    have ih:=CC r λe he=>h e (by simp [he]);simp only [List.flatMap_cons,List.length_append,ih,aA,l1,l2,List.length_cons,Nat.succ_mul];omega
theorem CD{t:TypeId}{x:fL}(hx:eV P t=some x){v:CV}(hv:ly x.gk x.ks.length v=true)(J:Env)(β:Nat->Nat):jv P x.key J β (v.den J β) v.cells/\v.cells.length=x.ks.length:=by
 obtain⟨m1,m2,m3,m4,m5,m6,m7,m8⟩:=ud hx;obtain⟨h1,h2⟩:=Bk hv J β;exact⟨(CA m3 h1 (xs:=v.cells) (by rw [CV.ba])).1,h2⟩
theorem Ob{t:TypeId}{x:fL}(hx:eV P t=some x){w:World}{b:Nat}{es:Array MapEntry}{clock:Nat}(hb:w.heap[b]? = some (.map es clock)){kv:Value}{J:Env}{β:Nat->Nat}{kc:List At}
  (hv:jv P x.key J β kv kc) (y7:kc.length=x.ks.length) {r:Option (Nat × Value)} (hf:lU P x.key w kv es.toList 0 r) {zv:Value} (hz:(zeroValue x.el).run P w=.ok zv w) (ok:Bool) :
  (Instr.lookup t (.map (some b)) kv ok).run P w=.ok (if ok=true then .tuple #[(r.map (·.2)).getD zv,.bool r.isSome]else (r.map (·.2)).getD zv) w:=by
 obtain⟨m1,m2,m3,m4,m5,m6,m7,m8⟩:=ud hx;obtain⟨kd,qw⟩:∃d,P.underlying x.key=some d:=by obtain⟨d,_,h1,_⟩:=zz m3;exact⟨d,h1⟩
 have CF:(Instr.checkKey es.isEmpty 10000 x.key kv).run P w=.ok () w:=fk es.isEmpty 9970 30 x.key x.ks m2 J β kc kv w y7 hv;have CG:=hf.run qw;unfold Instr.lookup;simp only [Sem.run_bind,run_underlying m1,Result.andThen_ok,Go.MapKept.run_getObj_map hb,Sem.run_pure];simp only [CF,Result.andThen_ok,CG];cases r with
 |none=>cases ok<;>simp [hz]
 |some y=>cases ok<;>simp
theorem R5{t:TypeId}{x:fL}(hx:eV P t=some x){w:World}{kv:Value}{J:Env}{β:Nat->Nat}{kc:List At}
  (hv:jv P x.key J β kv kc) (y7:kc.length=x.ks.length) {zv:Value} (hz:(zeroValue x.el).run P w=.ok zv w) (ok:Bool) :
  (Instr.lookup t (.map none) kv ok).run P w=.ok (if ok=true then .tuple #[zv,.bool false]else zv) w:=by
 obtain⟨m1,m2,m3,m4,m5,m6,m7,m8⟩:=ud hx;obtain⟨kd,qw⟩:∃d,P.underlying x.key=some d:=by obtain⟨d,_,h1,_⟩:=zz m3;exact⟨d,h1⟩
 have CF:(Instr.checkKey (#[]:Array MapEntry).isEmpty 10000 x.key kv).run P w=.ok () w:=fk _ 9970 30 x.key x.ks m2 J β kc kv w y7 hv;have hf:lU P x.key w kv [] 0 none:=⟨rfl,λkd hk=>.inr rfl⟩;have CG:=hf.run qw;unfold Instr.lookup;simp only [Sem.run_bind,run_underlying m1,Result.andThen_ok,Sem.run_pure];simp only [CF,Result.andThen_ok,CG];cases ok<;>simp [hz]
theorem Oc{t:TypeId}{x:fL}(hx:eV P t=some x){w:World}{b:Nat}{es:Array MapEntry}{clock:Nat}(hb:w.heap[b]? = some (.map es clock)){kv vv:Value}{J:Env}{β:Nat->Nat}{kc:List At}
    (hv:jv P x.key J β kv kc) (y7:kc.length=x.ks.length) {r:Option (Nat × Value)} (hf:lU P x.key w kv es.toList 0 r) (hr:∀i v,r=some (i,v)->∃e,es.toList[i]? = some e/\e.key=kv/\Instr.sameBits 10000 kv kv=true) :
    (Instr.mapUpdate t (.map (some b)) kv vv).run P w=.ok () {w with heap:=w.heap.setIfInBounds b (match r with
      |some (i,_)=>.map (es.modify i λe => {e with key:=kv,val:=vv}) clock
      |none=>.map (es.push {key:=kv,val:=vv,born:=clock}) (clock+1))}:=by
  obtain⟨m1,m2,m3,m4,m5,m6,m7,m8⟩:=ud hx;obtain⟨kd,qw⟩:∃d,P.underlying x.key=some d:=by obtain⟨d,_,h1,_⟩:=zz m3;exact⟨d,h1⟩
  have CF:(Instr.checkKey false 10000 x.key kv).run P w=.ok () w:=fk false 9970 30 x.key x.ks m2 J β kc kv w y7 hv;have CG:=hf.run qw;unfold Instr.mapUpdate;simp only [Sem.run_bind,run_underlying m1,Result.andThen_ok,Go.MapKept.run_getObj_map hb];simp only [CF,Result.andThen_ok,CG];cases r with
  |none=>simp only [Go.MapKept.run_setObj_map _ hb]
  |some y =>
    obtain⟨i,v⟩:=y;obtain⟨e,h1,h2,h3⟩:=hr i v rfl;have h4:es[i]? = some e:=by simpa using h1
    simp only [h4,Option.map_some,Option.getD_some,h2,Instr.keyThatStays,h3,if_true,Sem.run_bind,Sem.run_pure,Result.andThen_ok,Go.MapKept.run_setObj_map _ hb]
theorem HV{g1 g2:Bool}{nk ne:Nat}{kv vv:Value}:∀ (es:List MapEntry) (i:Nat) {e:MapEntry},es[i]? = some e->e.key=kv->(∀ e∈es,de (cI g1 nk) e.key/\de (cI g2 ne) e.val) ->
    (es.modify i λe => {e with key:=kv,val:=vv}).flatMap aA=(es.flatMap aA).take (i*(nk+ne)+nk)++vv.cells.toList++(es.flatMap aA).drop (i*(nk+ne)+nk+ne)
  | [],i,e,h,_,_=>by simp at h
  |e0::r,0,e,h,hk,hs=>by
    simp only [List.getElem?_cons_zero,Option.some.injEq]at h;subst h;obtain⟨s1,s2⟩:=hs e0 (by simp);have l1:e0.key.cells.toList.length=nk:=by simpa using ue s1
    have l2:e0.val.cells.toList.length=ne:=by simpa using ue s2
    simp only [List.modify_zero_cons,List.flatMap_cons,Nat.zero_mul,Nat.zero_add];subst hk
    have t1:(aA e0++r.flatMap aA).take nk=e0.key.cells.toList:=by
      unfold aA;rw [List.append_assoc,<-l1,List.take_left]
    have t2:(aA e0++r.flatMap aA).drop (nk+ne)=r.flatMap aA:=by
      have:(aA e0).length=nk+ne:=by unfold aA;rw [List.length_append,l1,l2]
      rw [<-this,List.drop_left]
    rw [t1,t2];simp [aA]
  |e0::r,i+1,e,h,hk,hs=>by
    obtain⟨s1,s2⟩:=hs e0 (by simp);have l1:e0.key.cells.toList.length=nk:=by simpa using ue s1
    have l2:e0.val.cells.toList.length=ne:=by simpa using ue s2
    have l3:(aA e0).length=nk+ne:=by unfold aA;rw [List.length_append,l1,l2]
    have ih:=HV (vv:=vv) r i (e:=e) (by simpa using h) hk λe he=>hs e (by simp [he]);simp only [List.modify_succ_cons,List.flatMap_cons]
    rw [ih,show (i+1)*(nk+ne)+nk=(aA e0).length+(i*(nk+ne)+nk) by rw [l3,Nat.succ_mul];omega,
      Nat.add_assoc (aA e0).length,List.take_length_add_append,List.drop_length_add_append]
    simp only [List.append_assoc]
def lX:Value->At
 | .int k n=>.int k (.lit n)
 | .bool b=>.bool (.lit b)
 | .string s=>.str s.data.toList
 |_=>.oT
theorem HW{k:CK}{v:Value}(h:lz k v=true)(J:Env)(β:Nat->Nat):(lX v).den J β=v:=by
 cases k<;>cases v<;>first|rfl | (simp [lz]at h;done)|skip
theorem HX{k:CK}{a:At}{v:Value}(ha:gm k a=true)(hv:lz k v=true)(J:Env)(β:Nat->Nat):∃e,eU k a (lX v)=some e/\e.den J=nj (a.den J β) v:=by
  cases k with
  |int k =>
    cases v<;>simp only [lz,Bool.false_eq_true,decide_eq_true_eq]at hv;rename_i k' n;subst hv;cases a<;>simp only [gm,Bool.false_eq_true,decide_eq_true_eq]at ha;subst ha;rename_i e;exact⟨.cmp .eql e (.lit n),by simp only [eU,lX,and_self,if_true],by simp [BE.den,gE,IE.den,At.den,nj]⟩
  |bool =>
    cases v<;>simp only [lz,Bool.false_eq_true]at hv;cases a<;>simp only [gm,Bool.false_eq_true]at ha;exact⟨_,rfl,rfl⟩
  |str =>
    cases v<;>simp only [lz,Bool.false_eq_true]at hv;rename_i s;simp only [gm,Option.isSome_iff_exists]at ha;obtain⟨p,hp⟩:=ha;refine⟨.seq p (.lit s.data.toList),by simp only [eU,lX,hp];rfl, ?_⟩;rw [vt hp];cases p<;>simp only [BE.den,SE.den,nj]<;>congr
  |tf=>cases a<;>simp [gm]at ha
  |sl z=>cases a<;>simp [gm]at ha
  |own z t=>cases a<;>simp [gm]at ha
theorem Od(J:Env)(β:Nat->Nat):∀{ks:List CK} {kc:List At} {vs:List Value},eW ks kc=true->eI ks vs=true->∃e,aT ks kc (vs.map lX)=some e/\e.den J=iv (kc.map (At.den J β)) vs
  | [],[],[],_,_=>⟨_,rfl,rfl⟩
  | [],_::_,_,h,_=>by simp [eW]at h
  | [],_,_::_,_,h=>by simp [eI]at h
  |_::_,[],_,h,_=>by simp [eW]at h
  |_::_,_::_,[],_,h=>by simp [eI]at h
  |k::r,a::l,v::vs,h1,h2=>by
    simp only [eW,Bool.and_eq_true]at h1;simp only [eI,Bool.and_eq_true]at h2;obtain⟨e1,p1,p2⟩:=HX h1.1 h2.1 J β;obtain⟨e2,q1,q2⟩:=Od J β h1.2 h2.2;exact⟨.and e1 e2,by simp only [List.map_cons,aT,p1,q1],by simp only [BE.den,p2,q2,List.map_cons,iv]⟩
theorem Oe(J:Env)(β:Nat->Nat):∀{ks:List CK} {vs:List Value},eI ks vs=true->(vs.map lX).map (At.den J β)=vs
  | [],[],_=>rfl
  | [],_::_,h=>by simp [eI]at h
  |_::_,[],h=>by simp [eI]at h
  |k::r,v::vs,h=>by
    simp only [eI,Bool.and_eq_true]at h;simp only [List.map_cons,HW h.1,Oe J β h.2]
theorem HY{g1 g2:Bool}{nk ne:Nat}{e:MapEntry}(h1:de (cI g1 nk) e.key)(h2:de (cI g2 ne) e.val)(r:List MapEntry) :
  ((e::r).flatMap aA).take nk=e.key.cells.toList/\((e::r).flatMap aA).drop (nk+ne)=r.flatMap aA/\(((e::r).flatMap aA).drop nk).take ne=e.val.cells.toList/\nk+ne<=((e::r).flatMap aA).length:=by
 have s1:e.key.cells.toList.length=nk:=by simpa using ue h1
 have s2:e.val.cells.toList.length=ne:=by simpa using ue h2
 simp only [List.flatMap_cons,aA,List.append_assoc];refine⟨?_, ?_, ?_, ?_⟩
 ·rw [<-s1,List.take_left]
 ·rw [<-List.drop_drop,<-s1,List.drop_left,<-s2,List.drop_left]
 ·rw [<-s1,List.drop_left,<-s2,List.take_left]
 ·simp only [List.length_append,s1,s2];omega
theorem CH{g1 g2:Bool}{nk ne:Nat}:∀ (es:List MapEntry) (i:Nat) {e:MapEntry},(∀ e∈es,de (cI g1 nk) e.key/\de (cI g2 ne) e.val)->es[i]? = some e->∀ {k:Nat},k < ne ->
    (es.flatMap aA)[i*(nk+ne)+(nk+k)]? = e.val.cells.toList[k]?
  | [],i,e,_,h,_,_=>by simp at h
  |e0::r,0,e,hs,h,k,hk=>by
    simp only [List.getElem?_cons_zero,Option.some.injEq]at h;subst h;obtain⟨t1,t2,t3,t4⟩:=HY (hs e0 (by simp)).1 (hs e0 (by simp)).2 r;rw [Nat.zero_mul,Nat.zero_add,<-t3,List.getElem?_take_of_lt hk,List.getElem?_drop]
  |e0::r,i+1,e,hs,h,k,hk=>by
    obtain⟨t1,t2,t3,t4⟩:=HY (hs e0 (by simp)).1 (hs e0 (by simp)).2 r;have ih:=CH r i (λe he=>hs e (by simp [he])) (by simpa using h) hk;rw [<-ih,<-t2,List.getElem?_drop];congr 1;rw [Nat.succ_mul];omega
theorem HZ{x:fL}{t:TypeId}(hx:eV P t=some x){kc:List At}(ct:eW x.ks kc=true){J:Env}{β:Nat->Nat}{w:World}{kv:Value}(hv:jv P x.key J β kv kc) :
    ∀(es:List MapEntry) (f i:Nat),es.length<=f->(∀e∈es,de (cI x.gk x.ks.length) e.key/\de (cI x.ge x.ne) e.val)->hZ x.ks (x.ks.length+x.ne) f (es.flatMap aA)=true ->
      lU P x.key w kv es i ((bS x.ks.length (x.ks.length+x.ne) (kc.map (At.den J β)) f (es.flatMap aA)).map λj=>(i+j,((es[j]?).map (·.val)).getD undef)) /\
      ∀j,bS x.ks.length (x.ks.length+x.ne) (kc.map (At.den J β)) f (es.flatMap aA)=some j->∃e,es[j]? = some e/\e.key=kv/\Instr.sameBits 10000 kv kv=true
  | [],f,i,_,_,_=>by
    have h0:bS x.ks.length (x.ks.length+x.ne) (kc.map (At.den J β)) f (([]:List MapEntry).flatMap aA)=none:=by cases f<;>rfl
    rw [h0];exact⟨⟨rfl,λkd _=>.inr rfl⟩,λj h=>by cases h⟩
  |e0::r,0,i,hf,_,_=>by simp at hf
  |e0::r,f+1,i,hf,ga,hk=>by
    obtain⟨m1,m2,m3,m4,m5,m6,m7,m8⟩:=ud hx;obtain⟨kd,qw⟩:∃d,P.underlying x.key=some d:=by obtain⟨d,_,h1,_⟩:=zz m3;exact⟨d,h1⟩
    obtain⟨s1,s2⟩:=ga e0 (by simp);obtain⟨t1,t2,t3,t4⟩:=HY s1 s2 r
    have dO:∃a l,(e0::r).flatMap aA=a::l:=by
      cases hc:(e0::r).flatMap aA with
      |nil=>rw [hc]at t4;simp only [List.length_nil]at t4;omega
      |cons a l=>exact⟨a,l,rfl⟩
    have gJ:eI x.ks e0.key.cells.toList=true/\hZ x.ks (x.ks.length+x.ne) f (r.flatMap aA)=true:=by
      obtain⟨a,l,vw⟩:=dO;rw [vw,hZ,<-vw,t1,t2,Bool.and_eq_true]at hk
      · exact hk
      · intro h;cases h
    have hm:bS x.ks.length (x.ks.length+x.ne) (kc.map (At.den J β)) (f+1) ((e0::r).flatMap aA)=if iv (kc.map (At.den J β)) e0.key.cells.toList=true then some 0 else (bS x.ks.length (x.ks.length+x.ne) (kc.map (At.den J β)) f (r.flatMap aA)).map (·+1):=by
      obtain⟨a,l,vw⟩:=dO;rw [vw,bS,<-vw,t1,t2];intro h;cases h
    rw [hm];obtain⟨e,he,kS⟩:=Od J β ct gJ.1;obtain⟨b1,b2,b3⟩:=CA m3 s1 (xs:=e0.key.cells.toList.map lX) (J:=J) (β:=β) (Oe J β gJ.1).symm
    have q4:(Op.equal x.key kv e0.key).run P w=.ok (iv (kc.map (At.den J β)) e0.key.cells.toList) w:=by
      rw [<-kS];exact Ct 9970 30 x.key x.ks m2 J β kc _ e kv e0.key w he hv b1
    have q5:Instr.sameNow kd kv e0.key=none∨Instr.sameNow kd kv e0.key=some (iv (kc.map (At.den J β)) e0.key.cells.toList):=by
      rw [<-kS];exact N9 qw m2 he hv b1
    cases hq:iv (kc.map (At.den J β)) e0.key.cells.toList with
    |true =>
      rw [hq]at q4 q5;rw [if_pos rfl];obtain⟨g1,g2⟩:=HS J β he (by rw [kS,hq]);refine⟨⟨?_,λHU lV => ?_⟩,λj hj => ?_⟩
      · simp only [Instr.findAsking,Sem.run_bind,q4,Result.andThen_ok,if_true,Sem.run_pure,Option.map_some,Nat.add_zero,List.getElem?_cons_zero,Option.getD_some]
      · rw [qw]at lV;cases lV;simp only [Instr.findNow];rcases q5 with q5|q5<;>rw [q5]
        · exact .inl rfl
        · right;simp only [Option.map_some,Nat.add_zero,List.getElem?_cons_zero,Option.getD_some]
      · simp only [Option.some.injEq]at hj;subst hj;exact⟨e0,rfl,CB b1 hv g1.symm,N' hv g2⟩
    |false =>
      rw [hq]at q4 q5;rw [if_neg (by simp)];obtain⟨⟨f1,f2⟩,f3⟩:=HZ hx ct (w:=w) hv r f (i+1) (by simp at hf;omega) (λe he=>ga e (by simp [he])) gJ.2
      have er:(Option.map (λj:Nat=>(i+j,(((e0::r)[j]?).map (·.val)).getD undef)) ((bS x.ks.length (x.ks.length+x.ne) (kc.map (At.den J β)) f (r.flatMap aA)).map (·+1)))=(bS x.ks.length (x.ks.length+x.ne) (kc.map (At.den J β)) f (r.flatMap aA)).map λj=>(i+1+j,((r[j]?).map (·.val)).getD undef):=by
        cases bS x.ks.length (x.ks.length+x.ne) (kc.map (At.den J β)) f (r.flatMap aA)with
        |none=>rfl
        |some y=>simp only [Option.map_some,List.getElem?_cons_succ,Option.some.injEq,Prod.mk.injEq,and_true];omega
      rw [er];refine⟨⟨?_,λHU lV => ?_⟩,λj hj => ?_⟩
      · simp only [Instr.findAsking,Sem.run_bind,q4,Result.andThen_ok,Bool.false_eq_true,if_false];exact f1
      · rw [qw]at lV;cases lV;simp only [Instr.findNow];rcases q5 with q5|q5<;>rw [q5]
        · exact .inl rfl
        · exact f2 _ qw
      · simp only [Option.map_eq_some_iff]at hj;obtain⟨j0,CI,rfl⟩:=hj;obtain⟨e1,k1,k2,k3⟩:=f3 j0 CI;exact⟨e1,by simpa using k1,k2,k3⟩
theorem Of{x:fL}{c:an}{ce:CE}{kc:List At}{K:IE->an->Env->Prop}{J:Env}(h:nT (PA P W Q QM QP) c x ce kc K J) :
  eW x.ks kc=true/\fK ce=true/\kc.all At.flat=true/\bP c ce=true/\kc.all (At.wf c)=true/\∃aM,K (.var c.ni) {c with ni:=c.ni+1} aM/\Env.au c J aM/\∀I,Env.au {c with ni:=c.ni+1} aM I->∀β,
   iF x.ks (x.ks.length+x.ne) (ak I β ce)=true/\(IE.var c.ni).den I=fy x.ks.length (x.ks.length+x.ne) (kc.map (At.den I β)) (ak I β ce):=by
 unfold nT at h;split at h;rotate_left
 ·exact h.elim
 rename_i hc;obtain⟨c1,c2,c3,c4,c5⟩:=hc;obtain⟨h1,h2⟩:=h;refine⟨c1,c2,c3,c4,c5,J.fI c.ni (fy x.ks.length (x.ks.length+x.ne) (kc.map (At.den J b0)) (ak J b0 ce)),h2 _ rfl,xC c J _,λI hl β => ?_⟩;have fP:Env.au c J I:=Env.ae (an.qP c 1) (xC c J _) hl;rw [yX I β b0 c2,zy fP (λ_ _=>rfl) c4,Bc I β b0 c3,vP fP (λ_ _=>rfl) c5];refine⟨h1, ?_⟩
 have:=hl.i c.ni (by show c.ni<c.ni+1;omega)
 simp only [IE.den,this,Env.fI,if_true]
theorem R6{m:Mem}{o:aY}(jR:jQ m o){c:an}{t:TypeId}{x k:SV}{ok:Bool}{K:SV->an->Env->Prop}{J:Env}(h:lG (PA P W Q QM QP) P o c t x k ok K J) :
    cr c J K λsv I=>x ≠ .any/\k ≠ .any/\sv ≠ .any/\∀β w,fj W m o (av (aI x)) I β w->(Instr.lookup t (x.den I β) (k.den I β) ok).run P w=.ok (sv.den I β) w:=by
  unfold lG at h;generalize hx:eV P t=u1 at h;split at h
  · rename_i y kv;generalize hz:cq P y.el=u3 at h;split at h;rotate_left
    · exact h.elim
    rename_i z;split at h;rotate_left
    · exact h.elim
    rename_i c1;refine cr.pure h λI hl=>⟨by simp,by simp,by cases ok<;>simp,λβ w hr => ?_⟩;obtain⟨k1,k2⟩:=CD hx c1 I β;refine (R5 hx k1 k2 (v8 hz I β w c).1 ok).trans ?_;cases ok<;>rfl
  rotate_left
  · exact h.elim
  rename_i y j kv;generalize iz:aD o j=u2 at h;generalize hz:cq P y.el=u3 at h;split at h;rotate_left
  · exact h.elim
  rename_i ce sz tc z;generalize pf:dC ce=u4 at h;split at h;rotate_left
  · clear pf;generalize R7:tI P 30 y.el=u5 at h;split at h;rotate_left
    · exact h.elim
    rename_i ls;split at h;rotate_left
    · exact h.elim
    rename_i hc;obtain⟨c1,rfl,rfl,c4,c5⟩:=hc;obtain⟨g1,g2,g3,g4,g5,aM,h1,mL,mM⟩:=Of h;obtain⟨m1,m2,m3,m4,m5,m6,m7,m8⟩:=ud hx;have eJ:c.le {c with ni:=c.ni+1}:=an.qP c 1;have Fw:bP {c with ni:=c.ni+1} ce=true:=yG eJ g4
    have run:∀ I,Env.au {c with ni:=c.ni + 1} aM I->∀ β w,fj W m o (av (aI (.cv (.one (.omap j))))) I β w ->
        ∃es:List MapEntry,es.flatMap aA=ak I β ce/\(∀e∈es,de (cI y.gk y.ks.length) e.key/\de (cI y.ge y.ne) e.val) /\
        (∀i,bS y.ks.length (y.ks.length+y.ne) (kv.cells.map (At.den I β)) (ak I β ce).length (ak I β ce)=some i->∃e,es[i]? = some e) /\
        (Instr.lookup t ((SV.cv (.one (.omap j))).den I β) ((SV.cv kv).den I β) ok).run P w =
          .ok (if ok=true then .tuple #[(((bS y.ks.length (y.ks.length+y.ne) (kv.cells.map (At.den I β)) (ak I β ce).length (ak I β ce)).map λi=>((es[i]?).map (·.val)).getD undef)).getD (z.den I β),.bool (bS y.ks.length (y.ks.length+y.ne) (kv.cells.map (At.den I β)) (ak I β ce).length (ak I β ce)).isSome]
            else (((bS y.ks.length (y.ks.length+y.ne) (kv.cells.map (At.den I β)) (ak I β ce).length (ak I β ce)).map λi=>((es[i]?).map (·.val)).getD undef)).getD (z.den I β)) w:=by
      intro I hl β w hr;have aZ:=hr j (by simp [aI,CV.cells,av]) _ (jP (jR j _ iz) iz);rcases aZ with aZ|⟨_,_,_,ho⟩
      · exact absurd aZ.2.1 (by omega)
      obtain⟨es,clock,hb,f_,ga⟩:=(wj hx).1 ho;obtain⟨k1,k2⟩:=CD hx c1 I β
      have hlen:es.toList.length<=(ak I β ce).length:=by
        rw [<-f_,CC es.toList ga];exact Nat.le_mul_of_pos_right _ (by omega)
      have i_:=(mM I hl β).1;obtain⟨f1,f2⟩:=HZ hx g1 (w:=w) k1 es.toList _ 0 hlen ga (by rw [f_];exact i_);rw [f_]at f1 f2;refine⟨es.toList,f_,ga,λi hi=>by obtain⟨e,he,_⟩:=f2 i hi;exact⟨e,he⟩, ?_⟩
      have:=Ob hx hb k1 k2 f1 (v8 hz I β w c).1 ok
      refine this.trans ?_;simp only [Option.map_map,Option.isSome_map,Function.comp_def]
    rcases zq h1 with ⟨e1,h1⟩|⟨e1,h1⟩
    · obtain⟨l,c2,ar,q1,q2,q3,q4,q5⟩:=HQ (ix:=IE.var c.ni) ls y.ks.length _ c5 g2 Fw (by show decide (c.ni<c.ni+1)=true;simp) h1;have WY:=q4.trans c4;refine⟨_,c2,ar,q1,an.le_trans eJ q2,Env.ae eJ mL q3,λI hl=>⟨by simp,by simp,by cases ok<;>simp,λβ w hr => ?_⟩⟩;have pR:Env.au {c with ni:=c.ni+1} aM I:=Env.ae q2 q3 hl;obtain⟨es,f_,ga,j9,gQ⟩:=run I pR β w hr;rw [gQ];have gK:=(mM I pR β).2
      have mN:0<=(IE.var c.ni).den I:=by
        have e0:(IE.var c.ni).den I=(IE.var c.ni).den aM:=IE.U pR (by show decide (c.ni<c.ni+1)=true;simp);rw [e0];simpa [BE.den,gE,IE.den]using e1
      unfold fy at gK;cases ug:bS y.ks.length (y.ks.length+y.ne) (kv.cells.map (At.den I β)) (ak I β ce).length (ak I β ce)with
      |none=>rw [ug]at gK;simp only at gK;omega
      |some i =>
        rw [ug]at gK;simp only at gK;obtain⟨e,he⟩:=j9 i ug;have fQ:=ga e (List.mem_of_getElem? he)
        have gR:e.val.cells.toList=l.map (At.den I β):=by
          have WZ:e.val.cells.toList.length=y.ne:=by simpa using ue fQ.2
          apply List.ext_getElem?;intro k;by_cases hk:k<y.ne
          · have ha:l[k]? = some (l[k]'(by omega)):=List.getElem?_eq_getElem (by omega);have h5:=q5 I hl β k _ ha;rw [gK]at h5;rw [List.getElem?_map,ha,Option.map_some,<-h5,<-f_,show ((i:Int)).toNat=i from rfl];exact (CH es i ga he hk).symm
          · rw [List.getElem?_eq_none (by omega),List.getElem?_eq_none (by simp;omega)]
        have wo:e.val=(dK y.ge l).den I β:=(CA m4 fQ.2 gR).2.1;have jx:(es[i]?).map (·.val)=some ((dK y.ge l).den I β):=by rw [he,Option.map_some,wo]
        simp only [Option.map_some,jx,Option.getD_some,Option.isSome_some];cases ok<;>rfl
    · refine⟨_,_,aM,h1,eJ,mL,λI hl=>⟨by simp,by simp,by cases ok<;>simp,λβ w hr => ?_⟩⟩;obtain⟨es,f_,ga,j9,gQ⟩:=run I hl β w hr;rw [gQ];have gK:=(mM I hl β).2
      have mN:¬0<=(IE.var c.ni).den I:=by
        have e0:(IE.var c.ni).den I=(IE.var c.ni).den aM:=IE.U hl (by show decide (c.ni<c.ni+1)=true;simp);rw [e0];simpa [BE.den,gE,IE.den]using e1
      unfold fy at gK;cases ug:bS y.ks.length (y.ks.length+y.ne) (kv.cells.map (At.den I β)) (ak I β ce).length (ak I β ce)with
      |some i=>rw [ug]at gK;simp only at gK;omega
      |none =>
        simp only [Option.map_none,Option.getD_none,Option.isSome_none];cases ok<;>rfl
  rename_i cs;split at h;rotate_left
  · exact h.elim
  rename_i hc;obtain⟨c1,rfl,rfl⟩:=hc;obtain⟨r,h1,h2⟩:=HT hx _ _ _ h
  have run:∀ I,Env.au c J I->∀ β w,fj W m o (av (aI (.cv (.one (.omap j))))) I β w ->
      (Instr.lookup t ((SV.cv (.one (.omap j))).den I β) ((SV.cv kv).den I β) ok).run P w =
        .ok (if ok=true then .tuple #[((r.map λq=>(0+q.1,(dK y.ge q.2).den I β)).map (·.2)).getD (z.den I β),.bool (r.map λq=>(0+q.1,(dK y.ge q.2).den I β)).isSome]else ((r.map λq=>(0+q.1,(dK y.ge q.2).den I β)).map (·.2)).getD (z.den I β)) w:=by
    intro I hl β w hr;have aZ:=hr j (by simp [aI,CV.cells,av]) _ (jP (jR j _ iz) iz);rcases aZ with aZ|⟨_,_,_,ho⟩
    · exact absurd aZ.2.1 (by omega)
    obtain⟨es,clock,hb,f_,ga⟩:=(wj hx).1 ho;rw [B' I β pf]at f_;obtain⟨k1,k2⟩:=CD hx c1 I β;exact Ob hx hb k1 k2 (h2 I hl β w _ es.toList k1 f_ ga).1 (v8 hz I β w c).1 ok
  cases r with
  |none =>
    refine cr.pure h1 λI hl=>⟨by simp,by simp,by cases ok<;>simp,λβ w hr => ?_⟩;rw [run I hl β w hr];cases ok<;>rfl
  |some q =>
    refine cr.pure h1 λI hl=>⟨by simp,by simp,by cases ok<;>simp,λβ w hr => ?_⟩;rw [run I hl β w hr];cases ok<;>rfl
end Vc
set_option linter.unusedVariables false
namespace Vc
open Go Go.RowKit
variable {P:Program} {W:dN} {Q:Value->Prop} {QM QP:World->Value->Prop}
structure St.WF(st:St):Prop where
 t:∀i,(aq st.t i).wf st.c=true
 m:∀k cs t,getM st.m k=some (cs,t)->k<st.c.nk/\cs.all (At.wf st.c)=true
 o:∀k ce sz t,aD st.o k=some (ce,sz,t)->k+3<st.c.nk/\bP st.c ce=true
 ap:jQ st.m st.o
 r:∀k e,eC st.r k=some e->k<st.c.nk
 d:∀k∈st.d,k<st.c.nk
 k:bK.wf st.k st.c
 df:∀x∈st.df,∀y∈x.2,y.1<st.c.nk
theorem St.WF.ev{st:St}(h:st.WF):∀x:Operand,(st.ev x).wf st.c=true
  | .tmp t=>h.t t
  | .const v=>(SV.cm v st.c Env.zero b0).1
  | .global g=>by
    simp only [St.ev];split
    · rename_i p hp
      have:=h.k _ (Fc hp)
      simp only [Kn.wf]at this;simp only [SV.wf,CV.wf,At.wf,IE.wf,this,Bool.and_self]
    · rfl
  | .func _=>rfl
def dt(st:St)(o:Oper)(J:Env)(β:Nat->Nat)(a:Act):Prop:=∀x∈o.op.operands,st.ev x ≠ .any->a.eval x=(st.ev x).den J β
def bx(P:Program)(W:dN)(st:St)(o:Oper)(sv:SV)(J:Env):Prop :=
  ∀(β:Nat->Nat) (a:Act) (w:World),cS W w->dt st o J β a->fj W st.m st.o (aP st o) J β w ->
    ∀(next:Act->World->Prop) (Q':Exit->Act->World->Prop),(∀v w',(sv ≠ .any->v=sv.den J β)->Below w.heap.size w w'->next (a.put o.dst v) w')->o.wp P a w next Q'
theorem bx.run{st:St}{o:Oper}{sv:SV}{J:Env}(h:∀(β:Nat->Nat) (a:Act) (w:World),cS W w->dt st o J β a->fj W st.m st.o (aP st o) J β w ->
  ∃v,(execOp a.eval o).run P w=.ok (.value v) w/\(sv ≠ .any->v=sv.den J β)):bx P W st o sv J:=by
 intro β a w hB ho hr next Q' hn
 obtain⟨v,hv,he⟩:=h β a w hB ho hr;unfold Oper.wp;rw [hv,Oper.upon_value];exact hn v w he (Below.refl _ _)
theorem Fx{place:Nat->Option (Nat × Nat)}:∀(parts:List (Nat × SV)) (cells:List At) {cs:List At},cn place cells parts=some cs->∀p∈parts,p.2 ≠ .any
  | [],_,_,_,p,hp=>by cases hp
  | (i,.any)::r,_,_,h,_,_=>by simp [cn]at h
  | (i,.fJ)::r,_,_,h,_,_=>by simp [cn]at h
  | (i,.kx l)::r,_,_,h,_,_=>by simp [cn]at h
  | (i,.cv v)::r,cells,cs,h,p,hp=>by
    simp only [cn]at h;split at h
    · split at h
      · rcases List.mem_cons.1 hp with rfl|hp
        · simp
        · exact Fx r _ h p hp
      · cases h
    · cases h
theorem R8{c:an}{t:TypeId}{parts:List (Nat × SV)}{K:SV->an->Env->Prop}{J:Env}(h:jH (PA P W Q QM QP) P c t parts K J):∀p∈parts,p.2 ≠ .any:=by
 unfold jH at h;generalize h1:P.underlying t=u1 at h;generalize h2:cq P t=u2 at h;split at h
 ·rename_i fs z;generalize h3:db P fs.toList=u3 at h;split at h
  ·rename_i pl;generalize h4:cn (λx=>pl[x]?) z.cells parts=u4 at h;split at h
   ·exact Fx parts z.cells h4
   ·exact h.elim
  ·exact h.elim
 ·rename_i n el z;generalize h3:aF P el=u3 at h;split at h
  ·rename_i g s;generalize h4:cn (λi=>some (i*s,s)) z.cells parts=u4 at h;split at h
   ·exact Fx parts z.cells h4
   ·exact h.elim
  ·exact h.elim
 ·exact h.elim
theorem R9{x:SV}{l:List SV}{r:List (Nat × Nat)}(h:ff (x::l)=some r):∃k o r',x=.cv (.one (.loc k o))/\ff l=some r'/\r=(k,o)::r':=by
 unfold ff at h;split at h
 ·rename_i he;cases he
 ·rename_i k o l' he;cases he;simp only [Option.map_eq_some_iff]at h;obtain⟨r',h1,rfl⟩:=h;exact⟨k,o,r',rfl,h1,rfl⟩
 ·cases h
theorem CJ:∀(l:List SV) {r:List (Nat × Nat)},ff l=some r->(∀x∈l,x ≠ .any)/\∀J β,l.map (SV.den J β)=r.map λc=>.pointer (some ⟨β c.1,c.2,none⟩)
  | [],r,h=>by simp only [ff,Option.some.injEq]at h;subst h;exact⟨by simp,λ_ _=>rfl⟩
  |x::l,r,h=>by
    obtain⟨k,o,r',rfl,h1,rfl⟩:=R9 h;obtain⟨q1,q2⟩:=CJ l h1;exact⟨by simp;exact q1,λJ β=>by simp only [List.map_cons,q2];rfl⟩
theorem R_{m:Mem}{o:aY}(jR:jQ m o){c:an}{t:Option TypeId}{x:SV}{K:SV->an->Env->Prop}{J:Env}(hx:x.wf c=true)(h:tL (PA P W Q QM QP) P o c t x K J) :
    cr c J K λsv I=>sv ≠ .any/\∃ty,t=some ty/\∀β w v,fj W m o (av (aI x)) I β w->(x ≠ .any->v=x.den I β)->(Builtin.len_ #[ty] ty #[v]).run P w=.ok (sv.den I β) w:=by
  unfold tL at h;cases t with
  |none=>cases x<;>exact h.elim
  |some ty =>
    simp only [Option.bind_some]at h;generalize hu:P.underlying ty=u1 at h;split at h
    · rename_i el k;generalize iz:aD o k=u2 at h;split at h
      · rename_i ce sz Cn;split at h
        · rename_i xG;obtain⟨n,c1,aM,r1,r2,r3,r4,r5,r6⟩:=xF h;refine⟨_,c1,aM,r1,r2,r4,λI hl=>⟨by simp,ty,rfl,λβ w v dq hv => ?_⟩⟩;rw [hv (by simp)];have aZ:=(dq k (by simp [aI,CV.cells,av]) _ (jP (jR k _ iz) iz)).eB xG;have e3:=r6 I β hl;rw [HM aZ]at e3;have hlen:(SV.cv (.one (.own k))).den I β=(if β (k+1)=0 then .slice none 0 0 else .slice (some ⟨β k,β (k+3),none⟩) (β (k+2)) (β (k+1)-1):Value):=rfl;rw [hlen]
          have hz:β (k+1)=0->β (k+2)=0:=λh0=>by
            rcases aZ.2.2 with ⟨_,h1⟩|⟨h1,_⟩
            · exact h1
            · omega
          by_cases h0:β (k+1)=0
          · rw [if_pos h0]
            have:=hz h0
            rw [this]at e3;simp [Builtin.len_,run_underlying hu,SV.den,CV.den,At.den,goInt,e3]
          · rw [if_neg h0];simp [Builtin.len_,run_underlying hu,SV.den,CV.den,At.den,goInt,e3]
        · exact h.elim
      · exact h.elim
    · rename_i el k;generalize iz:aD o k=u2 at h;split at h
      · rename_i ce sz Cn;split at h
        · rename_i xG;obtain⟨rfl,rfl⟩:=xG;obtain⟨n,c1,aM,r1,r2,r3,r4,r5,r6⟩:=xF h;refine⟨_,c1,aM,r1,r2,r4,λI hl=>⟨by simp,ty,rfl,λβ w v dq hv => ?_⟩⟩;rw [hv (by simp)];have aZ:=dq k (by simp [aI,CV.cells,av]) _ (jP (jR k _ iz) iz);rcases aZ with aZ|⟨_,_,_,ho⟩
          · exact absurd aZ.2.1 (by omega)
          have e3:=r6 I β hl;rw [Nat.div_one,<-ho.1]at e3;simp [Builtin.len_,run_underlying hu,SV.den,CV.den,At.den,goInt,e3]
        · exact h.elim
      · exact h.elim
    · rename_i el q p sz len cap;have wx:(decide (q<c.nb) && decide (p<c.np) && len.wf c && cap.wf c)=true:=hx;simp only [Bool.and_eq_true,decide_eq_true_eq]at wx;obtain⟨q1,h⟩:=za h;obtain⟨q2,h⟩:=za h;refine cr.pure h λI hl=>⟨by simp,ty,rfl,λβ w v dq hv => ?_⟩;rw [hv (by simp)];have p1:0<=len.den I:=by rw [IE.U hl wx.1.2];exact q1
      have p2:I.b q=true->len.den I=0:=by
        rw [IE.U hl wx.1.2,hl.b q wx.1.1.1];intro hb;rcases q2 with h'|h'
        · exact (h' hb).elim
        · exact h'
      simp only [SV.den,CV.den,At.den];split
      · rename_i hb;simp [Builtin.len_,run_underlying hu,goInt,p2 hb]
      · have:((len.den I).toNat:Int)=len.den I:=by omega
        simp [Builtin.len_,run_underlying hu,goInt,this]
    · rename_i i;obtain⟨n,c1,aM,r1,r2,r3,r4,r5,r6⟩:=Cx h;refine⟨_,c1,aM,r1,r2,r4,λI hl=>⟨by simp,ty,rfl,λβ w v dq hv => ?_⟩⟩;rw [hv (by simp)];have e:=r6 I hl;simp only [IP.den,SE.den]at e;have e2:(⟨(I.s i).toArray⟩:ByteArray).size=(I.s i).length:=by show (I.s i).toArray.size=_;simp
      simp [Builtin.len_,run_underlying hu,SV.den,CV.den,At.den,goInt,e2,e]
    · refine cr.pure h λI _=>⟨by simp,ty,rfl,λβ w v dq hv => ?_⟩;rw [hv (by simp)];simp [Builtin.len_,run_underlying hu,SV.den,CV.den,At.den,goInt,mJ]
    · refine cr.pure h λI _=>⟨by simp,ty,rfl,λβ w v dq hv => ?_⟩;rw [hv (by simp)];simp [Builtin.len_,run_underlying hu,SV.den,CV.den,At.den,goInt,mJ]
    · rename_i p ix sz len cap;obtain⟨q1,h⟩:=za h;have wx:((decide (p<c.np) && ix.wf c && len.wf c && cap.wf c))=true:=hx;simp only [Bool.and_eq_true]at wx;refine cr.pure h λI hl=>⟨by simp,ty,rfl,λβ w v dq hv => ?_⟩;rw [hv (by simp)];have q2:0<=len.den I:=by rw [IE.U hl wx.1.2];exact q1
      simp [Builtin.len_,run_underlying hu,SV.den,CV.den,At.den,goInt,mJ,q2];omega
    · rename_i l;refine cr.pure h λI _=>⟨by simp,ty,rfl,λβ w v dq hv => ?_⟩;rw [hv (by simp)];have e:(⟨l.toArray⟩:ByteArray).size=l.length:=by show l.toArray.size=_;simp
      simp [Builtin.len_,run_underlying hu,SV.den,CV.den,At.den,goInt,mJ,e]
    · refine cr.pure h λI _=>⟨by simp,ty,rfl,λβ w v dq hv => ?_⟩;simp [Builtin.len_,run_underlying hu,SV.den,CV.den,At.den,goInt,mJ]
    · rename_i k;generalize iz:aD o k=u2 at h;generalize hx:eV P ty=u3 at h;split at h;rotate_left
      · exact h.elim
      rename_i ce sz tc y;generalize pf:dC ce=u4 at h;split at h;rotate_left
      · clear pf;split at h;rotate_left
        · exact h.elim
        rename_i hc;obtain⟨rfl,rfl⟩:=hc;obtain⟨n,c1,aM,r1,r2,r3,r4,r5,r6⟩:=xF h;refine⟨_,c1,aM,r1,r2,r4,λI hl=>⟨by simp,ty,rfl,λβ w v dq hv => ?_⟩⟩;rw [hv (by simp)];have aZ:=dq k (by simp [aI,CV.cells,av]) _ (jP (jR k _ iz) iz);rcases aZ with aZ|⟨_,_,_,ho⟩
        · exact absurd aZ.2.1 (by omega)
        obtain⟨es,clock,hb,f_,ga⟩:=(wj hx).1 ho;have hle:=CC es.toList ga;rw [f_]at hle;simp only [Array.length_toList]at hle;have hp:0<y.ks.length+y.ne:=by have:=(ud hx).2.2.2.2.1;omega
        have hn:(ak I β ce).length / (y.ks.length+y.ne)=es.size:=by rw [hle,Nat.mul_div_cancel _ hp]
        have e3:=r6 I β hl;rw [hn]at e3;simp [Builtin.len_,run_underlying hu,SV.den,CV.den,At.den,goInt,e3,Go.MapKept.run_getObj_map hb]
      rename_i cs;split at h;rotate_left
      · exact h.elim
      rename_i hc;obtain⟨rfl,rfl⟩:=hc;refine cr.pure h λI _=>⟨by simp,ty,rfl,λβ w v dq hv => ?_⟩;rw [hv (by simp)];have aZ:=dq k (by simp [aI,CV.cells,av]) _ (jP (jR k _ iz) iz);rcases aZ with aZ|⟨_,_,_,ho⟩
      · exact absurd aZ.2.1 (by omega)
      obtain⟨es,clock,hb,f_,ga⟩:=(wj hx).1 ho;rw [B' I β pf]at f_;have hl:=CC es.toList ga;rw [f_]at hl;simp only [List.length_map,Array.length_toList]at hl;have hp:0<y.ks.length+y.ne:=by have:=(ud hx).2.2.2.2.1;omega
      have hn:cs.length / (y.ks.length+y.ne)=es.size:=by rw [hl,Nat.mul_div_cancel _ hp]
      simp [Builtin.len_,run_underlying hu,SV.den,CV.den,At.den,goInt,mJ,hn,Go.MapKept.run_getObj_map hb]
    · exact h.elim
theorem Og{c:an}{mx:Bool}{x y:SV}{K:SV->an->Env->Prop}{J:Env}(h:jK (PA P W Q QM QP) c mx x y K J) :
  cr c J K λsv I=>sv ≠ .any/\x ≠ .any/\y ≠ .any/\∀β w,(if mx then Builtin.max2 (x.den I β) (y.den I β)else Builtin.min2 (x.den I β) (y.den I β)).run P w=.ok (sv.den I β) w:=by
 unfold jK at h;split at h
 ·refine (zr h).mono λsv I _ hv=>⟨(hv b0).2,by simp,by simp,λβ w => ?_⟩;rw [(hv β).1];cases mx<;>simp [SV.den,CV.den,At.den,Builtin.max2,Builtin.min2,IP.den]
 ·exact h.elim
theorem vx{d:IE}{o:Option SV}{e:IE}(h:cJ d o=some e):(o=none/\e=d)∨∃k,o=some (.cv (.one (.int k e))):=by
 unfold cJ at h;split at h
 ·exact .inl ⟨rfl,by simpa using h.symm⟩
 ·rename_i k e';simp only [Option.some.injEq]at h;subst h;exact .inr ⟨k,rfl⟩
 ·cases h
theorem CL{lo hi:Option Value}{n c:Nat}{l h:Int}(Sa:Bool)(rh:(lo=none/\l=0)∨∃k,lo=some (.int k l))(vy:(hi=none/\h=n)∨∃k,hi=some (.int k h))(h0:0<=l)(h1:l<=h)(h2:h<=c)(w:World) :
  (Instr.sliceBounds Sa n c lo hi none).run P w=.ok (l.toNat,h.toNat,c) w:=by
 have a1:0<=h:=by omega
 rcases rh with ⟨rfl,rfl⟩|⟨k,rfl⟩<;>rcases vy with ⟨rfl,rfl⟩|⟨k',rfl⟩
 ·simp [Instr.sliceBounds]
 ·simp [Instr.sliceBounds,Instr.sliceBound,asIntOf,a1,h2]
 ·simp [Instr.sliceBounds,Instr.sliceBound,asIntOf,h0,h1]
 ·have:l<=(h.toNat:Int):=by omega
  simp [Instr.sliceBounds,Instr.sliceBound,asIntOf,h0,h1,a1,h2,this];intro hx;omega
theorem Oh{c:an}{t:TypeId}{x:SV}{lo hi:Option SV}{K:SV->an->Env->Prop}{J:Env}(hx:x.wf c=true)(rh:∀v,lo=some v->v.wf c=true)(vy:∀v,hi=some v->v.wf c=true)(h:jJ (PA P W Q QM QP) P c t x lo hi K J) :
  cr c J K λsv I=>sv ≠ .any/\x ≠ .any/\(∀v,lo=some v->v ≠ .any)/\(∀v,hi=some v->v ≠ .any) /\
   ∀β w,(Instr.sliceAt t (x.den I β) (lo.map (SV.den I β)) (hi.map (SV.den I β)) none).run P w=.ok (sv.den I β) w:=by
 have kT:∀{d e} {o:Option SV},cJ d o=some e->∀v,o=some v->v ≠ .any:=by
  intro d e o ho v hv;rcases vx ho with ⟨h1,_⟩|⟨k,h1⟩
  ·rw [h1]at hv;cases hv
  ·rw [h1]at hv;cases hv;simp
 have Oi:∀{d e} {o:Option SV},cJ d o=some e->d.wf c=true->(∀v,o=some v->v.wf c=true)->e.wf c=true:=by
  intro d e o ho hd hv;rcases vx ho with ⟨_,h1⟩|⟨k,h1⟩
  ·rw [h1];exact hd
  ·exact hv _ h1
 have mp:∀{d e} {o:Option SV} (I:Env) (β:Nat->Nat),cJ d o=some e->(o.map (SV.den I β)=none/\e.den I=d.den I)∨∃k,o.map (SV.den I β)=some (.int k (e.den I)):=by
  intro d e o I β ho;rcases vx ho with ⟨h1,h2⟩|⟨k,h1⟩
  ·exact .inl ⟨by rw [h1];rfl,by rw [h2]⟩
  ·exact .inr ⟨k,by rw [h1];rfl⟩
 unfold jJ at h;generalize hu:P.underlying t=u1 at h;split at h
 ·rename_i el p ix sz len cap;have wx:((decide (p<c.np) && ix.wf c && len.wf c && cap.wf c))=true:=hx;simp only [Bool.and_eq_true]at wx;generalize hz:aF P el=u2 at h;generalize hl:cJ (.lit 0) lo=u3 at h;generalize hh:cJ len hi=u4 at h;split at h
  ·rename_i g s l hI;split at h
   ·rename_i hs;subst hs;have wl:=Oi hl rfl rh;have wh:=Oi hh wx.1.2 vy;obtain⟨q1,ha⟩:=za h;clear h;obtain⟨q2,h⟩:=za ha;clear ha;obtain⟨q3,ha⟩:=za h;clear h;obtain⟨q4,h⟩:=za ha;clear ha;obtain⟨q5,ha⟩:=za h;clear h;replace h:=ha;clear ha
    have tr:∀{I},Env.au c J I->0<=len.den I/\len.den I<=cap.den I/\0<=l.den I/\l.den I<=hI.den I/\hI.den I<=cap.den I:=λhk=>by
     rw [IE.U hk wx.1.2,IE.U hk wx.2,IE.U hk wl,IE.U hk wh];exact⟨q1,q2,q3,q4,q5⟩
    have run:∀{I} (β:Nat->Nat) (w:World),Env.au c J I ->
      (Instr.sliceAt t ((SV.cv (.one (.jf p ix s len cap))).den I β) (lo.map (SV.den I β)) (hi.map (SV.den I β)) none).run P w =
       .ok (.slice (if (cap.den I).toNat=(l.den I).toNat then some ⟨(I.p p).1,(I.p p).2+(ix.den I).toNat*s,none⟩else some ⟨(I.p p).1,(I.p p).2+(ix.den I).toNat*s+(l.den I).toNat*s,none⟩)
        ((hI.den I).toNat-(l.den I).toNat) ((cap.den I).toNat-(l.den I).toNat)) w:=by
     intro I β w hk;obtain⟨t1,t2,t3,t4,t5⟩:=tr hk
     have hb:=CL (P:=P) (n:=(len.den I).toNat) (c:=(cap.den I).toNat) true (by
      rcases mp I β hl with ⟨m1,m2⟩|m1
      ·exact .inl ⟨m1,m2⟩
      ·exact .inr m1) (by
      rcases mp I β hh with ⟨m1,m2⟩|m1
      ·exact .inl ⟨m1,by rw [m2];omega⟩
      ·exact .inr m1) t3 t4 (by omega) w
     simp only [SV.den,CV.den,At.den,Instr.sliceAt,Sem.run_bind,run_underlying hu,Result.andThen_ok,Instr.slice,hb,pc hz,Sem.run_pure];split
     ·rfl
     ·simp [sf]
    split at h
    ·rename_i fP;subst fP;refine cr.pure h λI hk=>⟨by simp,by simp,kT hl,kT hh,λβ w => ?_⟩;rw [run β w hk];simp only [mJ,SV.den,CV.den,At.den,Int.toNat_zero,Nat.sub_zero,Nat.zero_mul,Nat.add_zero];split<;>rfl
    ·obtain⟨q6,h⟩:=za h;obtain⟨yL,c1,aM,r1,r2,r3,r4,r5,r6⟩:=Fq h;obtain⟨yM,c2,ar,s1,s2,s3,s4,s5,s6⟩:=Fq r1;have CM:c.le c2:=an.le_trans r2 s2;have tk:Env.au c J ar:=Env.ae r2 r4 s4;rcases zq s1 with ⟨hd,h⟩|⟨hd,h⟩
     ·obtain⟨NF,c3,A4,u1,u2,u3,u4,u5,u6⟩:=Fq h;refine⟨_,c3,A4,u1,an.le_trans CM u2,Env.ae CM tk u4,λI hk=>⟨by simp,by simp,kT hl,kT hh,λβ w => ?_⟩⟩;have g_:=Env.ae u2 u4 hk;have tm:=Env.ae s2 s4 g_;have nB:=Env.ae r2 r4 tm;obtain⟨t1,t2,t3,t4,t5⟩:=tr nB;rw [run β w nB];have e1:=r6 I tm;have e2:=s6 I g_;have e3:=u6 I hk;simp only [IP.den]at e1 e2 e3;have p6:0<=ix.den I:=by rw [IE.U nB wx.1.1.2];exact q6
      have p7:l.den I<cap.den I:=by
       rw [IE.U (Env.ae CM tk g_) wl,IE.U (Env.ae CM tk g_) wx.2];rw [<-IE.U tk wl,<-IE.U tk wx.2];simpa [BE.den,gE]using hd
      have n1:¬(cap.den I).toNat=(l.den I).toNat:=by omega
      rw [if_neg n1];simp only [SV.den,CV.den,At.den,e1,e2,e3];congr 2
      ·congr 2
       have:(ix.den I+l.den I).toNat=(ix.den I).toNat+(l.den I).toNat:=by omega
       rw [this,Nat.add_mul,Nat.add_assoc]
      ·omega
      ·omega
     ·refine⟨_,c2,ar,h,CM,tk,λI hk=>⟨by simp,by simp,kT hl,kT hh,λβ w => ?_⟩⟩;have tm:=Env.ae s2 s4 hk;have nB:=Env.ae r2 r4 tm;obtain⟨t1,t2,t3,t4,t5⟩:=tr nB;rw [run β w nB];have e1:=r6 I tm;have e2:=s6 I hk;simp only [IP.den]at e1 e2
      have p7:¬l.den I<cap.den I:=by
       rw [IE.U nB wl,IE.U nB wx.2,<-IE.U tk wl,<-IE.U tk wx.2];simpa [BE.den,gE]using hd
      have n1:(cap.den I).toNat=(l.den I).toNat:=by omega
      rw [if_pos n1];simp only [SV.den,CV.den,At.den,e1,e2];congr 2
      ·omega
      ·omega
   ·exact h.elim
  ·exact h.elim
 ·rename_i el k off len cap;generalize hz:aF P el=u2 at h;generalize hl:cJ (.lit 0) lo=u3 at h;generalize hh:cJ (.lit len) hi=u4 at h;split at h
  ·rename_i g s l hI;split at h
   ·rename_i hc;obtain⟨c1,c2,c3⟩:=hc;refine cr.pure h λI hk=>⟨by simp,by simp,kT hl,kT hh,λβ w => ?_⟩
    have hb:=CL (P:=P) (n:=len) (c:=cap) (l:=l) (h:=hI) true (by
     rcases mp I β hl with ⟨m1,m2⟩|m1
     ·exact .inl ⟨m1,m2⟩
     ·exact .inr m1) (by
     rcases mp I β hh with ⟨m1,m2⟩|m1
     ·exact .inl ⟨m1,m2⟩
     ·exact .inr m1) c1 c2 c3 w
    simp only [SV.den,CV.den,At.den,Instr.sliceAt,Sem.run_bind,run_underlying hu,Result.andThen_ok,Instr.slice,hb,pc hz,Sem.run_pure];by_cases iD:l.toNat=cap
    ·rw [if_pos iD,if_pos iD.symm]
    ·rw [if_neg iD,if_neg (λe=>iD e.symm)];simp [sf]
   ·exact h.elim
  ·exact h.elim
 ·rename_i n el p j sz off;generalize hz:aF P el=u2 at h;generalize hl:cJ (.lit 0) lo=u3 at h;generalize hh:cJ (.lit n) hi=u4 at h;split at h
  ·rename_i g s l hI;split at h
   ·rename_i hc;obtain⟨c1,c2,c3,c4,c5,c6,c7⟩:=hc;subst c4 c5;refine cr.pure h λI hk=>⟨by simp,by simp,kT hl,kT hh,λβ w => ?_⟩
    have hb:=CL (P:=P) (n:=n) (c:=n) (l:=l) (h:=hI) false (by
     rcases mp I β hl with ⟨m1,m2⟩|m1
     ·exact .inl ⟨m1,m2⟩
     ·exact .inr m1) (by
     rcases mp I β hh with ⟨m1,m2⟩|m1
     ·exact .inl ⟨m1,m2⟩
     ·exact .inr m1) c1 c2 c3 w
    simp only [SV.den,CV.den,At.den,IE.den,Int.toNat_zero,Nat.zero_mul,Nat.add_zero,Instr.sliceAt,Instr.sureAddr,Sem.run_bind,run_underlying hu,Result.andThen_ok,hb,pc hz,Sem.run_pure];have n1:(hI-l).toNat=hI.toNat-l.toNat:=by omega
    have n2:((n:Int)-l).toNat=n-l.toNat:=by omega
    by_cases iD:l.toNat=n
    ·rw [if_pos iD.symm,if_pos iD,n1,n2];simp
    ·rw [if_neg (λe=>iD e.symm),if_neg iD,n1,n2];simp [sf]
   ·exact h.elim
  ·exact h.elim
 ·rename_i n el k off;generalize hz:aF P el=u2 at h;generalize hl:cJ (.lit 0) lo=u3 at h;generalize hh:cJ (.lit n) hi=u4 at h;split at h
  ·rename_i g s l hI;split at h
   ·rename_i hc;obtain⟨c1,c2,c3⟩:=hc;refine cr.pure h λI hk=>⟨by simp,by simp,kT hl,kT hh,λβ w => ?_⟩
    have hb:=CL (P:=P) (n:=n) (c:=n) (l:=l) (h:=hI) false (by
     rcases mp I β hl with ⟨m1,m2⟩|m1
     ·exact .inl ⟨m1,m2⟩
     ·exact .inr m1) (by
     rcases mp I β hh with ⟨m1,m2⟩|m1
     ·exact .inl ⟨m1,m2⟩
     ·exact .inr m1) c1 c2 c3 w
    simp only [SV.den,CV.den,At.den,Instr.sliceAt,Instr.sureAddr,Sem.run_bind,run_underlying hu,Result.andThen_ok,hb,pc hz,Sem.run_pure];by_cases iD:l.toNat=n
    ·rw [if_pos iD,if_pos iD.symm]
    ·rw [if_neg iD,if_neg (λe=>iD e.symm)];simp [sf]
   ·exact h.elim
  ·exact h.elim
 ·exact h.elim
theorem Oj{c:an}{t:TypeId}{s:SE}{lo hi:Option SV}{K:SV->an->Env->Prop}{J:Env}(hs:s.wf c=true)(h:jI (PA P W Q QM QP) P c t s lo hi K J) :
  cr c J K λsv I=>sv ≠ .any/\(∀v,lo=some v->v ≠ .any)/\(∀v,hi=some v->v ≠ .any) /\
   ∀β w,(Instr.sliceAt t (.string ⟨(s.den I).toArray⟩) (lo.map (SV.den I β)) (hi.map (SV.den I β)) none).run P w=.ok (sv.den I β) w:=by
 have ext:∀(l:List UInt8) (i j:Nat),(ByteArray.extract ⟨l.toArray⟩ i j)=⟨((l.drop i).take (j-i)).toArray⟩:=λl i j=>by
  apply ByteArray.ext;simp [ByteArray.data_extract,List.extract_eq_take_drop]
 have run:∀{I:Env} {l e:Int} {wq tn:Option Value},P.underlying t=some .string->((wq=none/\l=0)∨∃k,wq=some (.int k l))->((tn=none/\e=((s.den I).length:Int))∨∃k,tn=some (.int k e))->0<=l->l<=e->e<=((s.den I).length:Int) ->
   ∀w,(Instr.sliceAt t (.string ⟨(s.den I).toArray⟩) wq tn none).run P w=.ok (.string ⟨(((s.den I).drop l.toNat).take (e.toNat-l.toNat)).toArray⟩) w:=by
  intro I l e wq tn hu h1 h2 q0 q1 q2 w;have hb:=CL (P:=P) (n:=(s.den I).length) (c:=(s.den I).length) false h1 h2 q0 q1 q2 w
  have hz:((⟨(s.den I).toArray⟩:ByteArray)).size=(s.den I).length:=by
   show (s.den I).toArray.size=_;simp
  simp only [Instr.sliceAt,Instr.slice,Sem.run_bind,run_underlying hu,Result.andThen_ok,Option.isSome_none,Bool.false_eq_true,if_false,hz,hb,Sem.run_pure,ext]
 unfold jI at h;generalize hu:P.underlying t=u1 at h;generalize hl:cJ (.lit 0) lo=u3 at h;split at h
 ·rename_i l;split at h
  ·rename_i wl;obtain⟨n,c',aa,h1,h2,h3,h4,h5,h6⟩:=Cx h;obtain⟨sv,c2,ar,g1,g2,g3,g4⟩:=Cr h1;refine⟨sv,c2,ar,g1,an.le_trans h2 g2,Env.ae h2 h4 g3,λI hk => ?_⟩;obtain⟨k1,k2,k3⟩:=g4 I hk;have en:=h6 I (Env.ae g2 g3 hk);simp only [SP.ok]at k1;refine⟨k2,λv hv => ?_,λv hv=>(by cases hv),λβ w => ?_⟩
   ·rcases vx hl with ⟨a1,_⟩|⟨k,a1⟩
    ·rw [a1]at hv;cases hv
    ·rw [a1]at hv;cases hv;simp
   ·rw [k3 β];simp only [SP.den];refine run hu ?_ (.inl ⟨rfl,by rw [en];rfl⟩) k1.1 k1.2.1 k1.2.2 w;rcases vx hl with ⟨a1,a2⟩|⟨k,a1⟩
    ·exact .inl ⟨by rw [a1];rfl,by rw [a2];rfl⟩
    ·exact .inr ⟨k,by rw [a1];rfl⟩
  ·exact h.elim
 ·rename_i l k0 e;obtain⟨sv,c2,ar,g1,g2,g3,g4⟩:=Cr h;refine⟨sv,c2,ar,g1,g2,g3,λI hk => ?_⟩;obtain⟨k1,k2,k3⟩:=g4 I hk;simp only [SP.ok]at k1;refine⟨k2,λv hv => ?_,λv hv=>(by cases hv;simp),λβ w => ?_⟩
  ·rcases vx hl with ⟨a1,_⟩|⟨k,a1⟩
   ·rw [a1]at hv;cases hv
   ·rw [a1]at hv;cases hv;simp
  ·rw [k3 β];simp only [SP.den];refine run hu ?_ (.inr ⟨k0,rfl⟩) k1.1 k1.2.1 k1.2.2 w;rcases vx hl with ⟨a1,a2⟩|⟨k,a1⟩
   ·exact .inl ⟨by rw [a1];rfl,by rw [a2];rfl⟩
   ·exact .inr ⟨k,by rw [a1];rfl⟩
 ·exact h.elim
theorem Sb{c:an}{t:TypeId}{x:SV}{lo hi:Option SV}{K:SV->an->Env->Prop}{J:Env}(hx:x.wf c=true)(rh:∀ v,lo=some v->v.wf c=true)(vy:∀ v,hi=some v->v.wf c=true)(h:nX (PA P W Q QM QP) P c t x lo hi K J) :
    cr c J K λsv I=>sv ≠ .any/\x ≠ .any/\(∀v,lo=some v->v ≠ .any)/\(∀v,hi=some v->v ≠ .any) /\
      ∀β w,(Instr.sliceAt t (x.den I β) (lo.map (SV.den I β)) (hi.map (SV.den I β)) none).run P w=.ok (sv.den I β) w:=by
  unfold nX at h;split at h
  · rename_i q p sz len cap;have wx:(decide (q<c.nb) && decide (p<c.np) && len.wf c && cap.wf c)=true:=hx;simp only [Bool.and_eq_true,decide_eq_true_eq]at wx;obtain⟨q1,h⟩:=za h;obtain⟨q2,h⟩:=za h;refine (Oh (x := .cv (.one (.jf p (.lit 0) sz len cap))) ?_ rh vy h).mono λsv I hl hv => ?_
    · show (decide (p<c.np) && true && len.wf c && cap.wf c)=true;simp only [wx.1.1.2,wx.1.2,wx.2,decide_true,Bool.and_self]
    · obtain⟨v1,v2,v3,v4,v5⟩:=hv;refine⟨v1,by simp,v3,v4,λβ w => ?_⟩;have p0:¬I.b q=true:=by rw [hl.b q wx.1.1.1];exact q1
      have p2:0<cap.den I:=by rw [IE.U hl wx.2];exact q2
      have q0:¬((len.den I).toNat=0/\(cap.den I).toNat=0):=by omega
      have:=v5 β w
      simpa [SV.den,CV.den,At.den,p0,mJ,G8 q0]using this
  · rename_i l;refine (Oj (s := .lit l) rfl h).mono λsv I hl hv=>⟨hv.1,by simp,hv.2.1,hv.2.2.1,λβ w=>hv.2.2.2 β w⟩
  · rename_i i;refine (Oj (s := .var i) hx h).mono λsv I hl hv=>⟨hv.1,by simp,hv.2.1,hv.2.2.1,λβ w=>hv.2.2.2 β w⟩
  · rename_i k;generalize hu:P.underlying t=u1 at h;generalize hl:cJ (.lit 0) lo=u3 at h;split at h;rotate_left
    · exact h.elim
    rename_i el l;generalize hz:aF P el=u2 at h;cases u2 with
    |none=>exact h.elim
    |some gs =>
      obtain⟨g,s⟩:=gs;simp only at h;split at h;rotate_left
      · exact h.elim
      rename_i fP;subst fP;refine cr.pure h λI _=>⟨by simp,by simp,λv hv => ?_,λv hv=>(by cases hv),λβ w => ?_⟩
      · rcases vx hl with ⟨a1,_⟩|⟨k,a1⟩
        · rw [a1]at hv;cases hv
        · rw [a1]at hv;cases hv;simp
      · have run:∀ (wq:Option Value),(wq=none∨∃ kk,wq=some (.int kk 0))->∀ (a:Option Addr) (n cp:Nat),(∀ x,a=some x->x.add 0=x)->(Instr.sliceAt t (.slice a n cp) wq none none).run P w=.ok (.slice a n cp) w:=by
          intro wq H0 a n cp ha
          have hm:a.map (·.add (0*s))=a:=by
            cases a with
            |none=>rfl
            |some x=>simp only [Option.map_some,Nat.zero_mul,ha x rfl]
          rcases H0 with rfl|⟨kk,rfl⟩
          · simp [Instr.sliceAt,Instr.slice,run_underlying hu,Instr.sliceBounds,pc hz];intro _;simpa using hm
          · simp [Instr.sliceAt,Instr.slice,run_underlying hu,Instr.sliceBounds,Instr.sliceBound,asIntOf,pc hz];intro _;simpa using hm
        have CN:lo.map (SV.den I β)=none∨∃kk,lo.map (SV.den I β)=some (.int kk 0):=by
          rcases vx hl with ⟨a1,_⟩|⟨kk,a1⟩
          · left;rw [a1];rfl
          · right;exact⟨kk,by rw [a1];rfl⟩
        show (Instr.sliceAt t (cj _ _ _ _) _ none none).run P w=.ok (cj _ _ _ _) w;unfold cj;split
        · exact run _ CN none 0 0 (λx hx=>by cases hx)
        · refine run _ CN _ _ _ λx hx => ?_;cases hx;unfold Addr.add;split<;>simp_all
  · exact Oh hx rh vy h
theorem CO{α:Type}{x:α}{l:Array α}(h:x∈l.toList):x∈l:=Array.mem_toList_iff.1 h
theorem zo{st:St}{J:Env}{β:Nat->Nat}{a:Act}(l:List Operand)(h:∀x∈l,a.eval x=(st.ev x).den J β):l.map a.eval=(l.map st.ev).map (SV.den J β):=by
 rw [List.map_map];exact List.map_congr_left h
theorem zg(s:Sem Value)(w:World)(v:Value)(h:s.run P w=.ok v w):((do pure (Next.value (<-s))):Sem Next).run P w=.ok (.value v) w:=by
 simp [h]
theorem Ol:∀{vs:List Value},(∀v∈vs,∃n:Int,v=.int .u8 n)->∃ns:List Int,vs=ns.map (Value.int .u8)/\vs.map oV=ns.map λn=>UInt8.ofNat n.toNat
  | [],_=>⟨[],rfl,rfl⟩
  |v::l,h=>by
    obtain⟨n,rfl⟩:=h v (List.mem_cons_self ..);obtain⟨ns,h1,h2⟩:=Ol λv hv=>h v (List.mem_cons_of_mem _ hv);exact⟨n::ns,by rw [h1];rfl,by simp only [List.map_cons,h2];rfl⟩
theorem Om:∀(ns:List Int) (l:List UInt8),ns.foldl (λ(r:ByteArray) n=>r.push (UInt8.ofNat n.toNat)) ⟨l.toArray⟩=⟨(l++ns.map λn=>UInt8.ofNat n.toNat).toArray⟩
  | [],l=>by simp
  |n::ns,l=>by
    simp only [List.foldl_cons]
    have e:(ByteArray.push ⟨l.toArray⟩ (UInt8.ofNat n.toNat))=⟨(l ++ [UInt8.ofNat n.toNat]).toArray⟩:=by
      apply ByteArray.ext;simp
    rw [e,Om ns];simp
theorem Fy{s d e:TypeId}(hs:P.underlying s=some (.slice e))(hd:P.underlying d=some .string)(he:P.underlying e=some (.int .u8)){vs:List Value}(hv:∀v∈vs,∃n:Int,v=.int .u8 n){a:Addr}{len cap:Nat}{w:World}(hl:vs.length=len)
  (hc:∀j v,vs[j]? = some v->w.cell? (a.add j)=some v):(convert s d (.slice (some a) len cap)).run P w=.ok (.string ⟨(vs.map oV).toArray⟩) w:=by
 obtain⟨ns,h1,h2⟩:=Ol hv;rw [run_convert_bytes_string w s d e (some a) len cap hs he hd]
 have:=run_loadCells_list (P:=P) w a vs hc
 rw [hl]at this;rw [run_bytesToString w a len cap ns (by rw [this,h1])];have e0:ByteArray.empty=⟨([]:List UInt8).toArray⟩:=rfl;rw [e0,Om,List.nil_append,h2]
theorem H2{s d e:TypeId}(hs:P.underlying s=some (.slice e))(hd:P.underlying d=some .string)(he:P.underlying e=some (.int .u8))(w:World):(convert s d (.slice none 0 0)).run P w=.ok (.string ⟨#[]⟩) w:=by
 rw [run_convert_bytes_string w s d e none 0 0 hs he hd];rfl
theorem Sc{c:an}{s d:TypeId}{x:SV}{a0:At}{J I:Env}{w:World}{L:List Value}(h:jM P c s d x=some a0)(hL:gP W.seen (a0.den J b0) 1 L)(hl:Env.au c J I)(fB:∀{a:Addr} {u:Value},W.seen.cell? a=some u->w.cell? a=some u)
  (i_:∀v∈L,∃n:Int,v=.int .u8 n) (β:Nat->Nat):x ≠ .any/\(convert s d (x.den I β)).run P w=.ok (.string ⟨(L.map oV).toArray⟩) w:=by
 unfold jM at h;generalize hs:P.underlying s=u1 at h;generalize hd:P.underlying d=u2 at h;split at h
 ·rename_i e;generalize he:P.underlying e=u3 at h;split at h
  ·rename_i a
   have key:∀(hf:a.flat=true) (hw:a.wf c=true) (e0:a=a0),(SV.cv (.one a)) ≠ .any/\(convert s d ((SV.cv (.one a)).den I β)).run P w=.ok (.string ⟨(L.map oV).toArray⟩) w:=by
    intro hf hw e0;subst e0;refine⟨by simp, ?_⟩
    have e1:(SV.cv (.one a)).den I β=a.den J b0:=by
     show a.den I β=_;rw [At.aU I β b0 hf];exact At.U hl (λ_ _=>rfl) hw
    rw [e1];rcases hL with ⟨h1,h2⟩|⟨q,h1,h2⟩|⟨b,o,len,cap,h1,h2,h3⟩
    ·rw [h1,h2,H2 hs hd he];rfl
    ·rw [h1,h2];exact Fy (vs := []) hs hd he (λv hv=>by cases hv) rfl (λj v hj=>by simp at hj)
    ·rw [h1];refine Fy hs hd he i_ (by omega) λj v hj => ?_;rw [show (⟨b,o,none⟩:Addr).add j=⟨b,o+j,none⟩ by simp [Addr.add]];exact fB (h3 j v hj)
   split at h
   ·split at h
    ·rename_i hw;simp only [Option.some.injEq]at h;exact key rfl hw h
    ·cases h
   ·split at h
    ·rename_i hw;simp only [Option.some.injEq]at h;exact key rfl hw h
    ·cases h
   ·cases h
  ·cases h
 ·cases h
theorem Sd{m:Mem}{o:aY}(jR:jQ m o){s d:TypeId}{x:SV}{ce:CE}{J:Env}{β:Nat->Nat}{w:World}(h:bytesOf P m o s d x=some ce)(i_:(SP.row ce).ok J)(dq:fj W m o (av (aI x)) J β w) :
  x ≠ .any/\(convert s d (x.den J β)).run P w=.ok (.string ⟨((SP.row ce).den J).toArray⟩) w:=by
 unfold bytesOf at h;generalize hs:P.underlying s=u1 at h;generalize hd:P.underlying d=u2 at h;split at h
 ·rename_i e;generalize he:P.underlying e=u3 at h;split at h
  ·simp only [SP.ok]at i_;simp only [SP.den];unfold xv at h;split at h
   ·rename_i k;generalize hg:aD o k=u4 at h;split at h
    ·rename_i eZ sz ty;split at h
     ·rename_i hc;simp only [Option.some.injEq]at h;subst h;obtain⟨rfl,hf⟩:=hc;refine⟨by simp, ?_⟩;have aZ:=(dq k (by simp [aI,CV.cells,av]) _ (jP (jR k _ hg) hg)).eB Nat.zero_lt_one;have jS:=yX J β (λ_=>0) hf;rw [jS]at aZ;show (convert s d (if β (k+1)=0 then .slice none 0 0 else .slice (some ⟨β k,β (k+3),none⟩) (β (k+2)) (β (k+1)-1):Value)).run P w=_;have hl:(ak J (λ_=>0) eZ).length=β (k+2):=by have:=aZ.1;omega
      by_cases h0:β (k+1)=0
      ·rw [if_pos h0,H2 hs hd he]
       have:β (k+2)=0:=by
        rcases aZ.2.2 with ⟨_,h1⟩|⟨h1,_⟩
        ·exact h1
        ·omega
       have:ak J (λ_=>0) eZ=[]:=List.eq_nil_of_length_eq_zero (by omega)
       rw [this];rfl
      ·rw [if_neg h0];refine Fy hs hd he i_ hl λj v hj => ?_;rcases aZ.2.2 with ⟨_,h1⟩|⟨_,h2,_⟩
       ·have:=(List.getElem?_eq_some_iff.1 hj).1
        omega
       ·have:=HP aZ hj
        rw [h2,show (⟨β k,0,none⟩:Addr).add j=⟨β k,j,none⟩ by simp only [Addr.add];split<;>simp_all];exact this
     ·cases h
    ·cases h
   ·rename_i k off len cap;generalize hg:getM m k=u4 at h;split at h
    ·rename_i cs t;split at h
     ·rename_i hc;simp only [Option.some.injEq]at h;subst h;refine⟨by simp, ?_⟩;obtain⟨_,hh⟩:=dq k (by simp [aI,CV.cells,av]) _ (nA hg);have jS:∀a∈(cs.drop off).take len,a.flat=true:=λa ha=>List.all_eq_true.1 hc.2 a (List.mem_of_mem_drop (List.mem_of_mem_take ha))
      have e1:ak J (λ_=>0) [.cE ((cs.drop off).take len)]=((cs.drop off).take len).map (At.den J β):=by
       simp only [ak,Sg.den,List.append_nil];exact List.map_congr_left λa ha=>At.aU J (λ_=>0) β (jS a ha)
      rw [e1]at i_ ⊢;show (convert s d (.slice (some ⟨β k,off,none⟩) len cap)).run P w=_;refine Fy hs hd he i_ (by simp;omega) λj v hj => ?_;rw [show (⟨β k,off,none⟩:Addr).add j=⟨β k,off+j,none⟩ by simp [Addr.add],v_ hh];simp only [List.getElem?_map,Option.map_eq_some_iff]at hj;obtain⟨a,ha,rfl⟩:=hj
      have wg:j<len:=by
       rcases Nat.lt_or_ge j len with h'|h'
       ·exact h'
       ·rw [List.getElem?_eq_none (by simp;omega)]at ha;cases ha
      rw [List.getElem?_take_of_lt wg,List.getElem?_drop]at ha;simp [ha]
     ·cases h
    ·cases h
   ·simp only [Option.some.injEq]at h;subst h;exact⟨by simp,by rw [show (SV.cv (.one .c_)).den J β=.slice none 0 0 from rfl,H2 hs hd he];rfl⟩
   ·cases h
  ·cases h
 ·cases h
theorem H3{t:TypeId}{cs:List At}{off:Nat}{v:CV}(h:partOf P t cs off=some v){J:Env}{g:Nat}{w:World}(hc:∀ j a,cs[j]? = some a->w.cell? ⟨g,j,none⟩=some (a.den J b0))(β:Nat->Nat)(hf:cs.all At.flat=true) :
    (Instr.loadAt t (.pointer (some ⟨g,off,none⟩))).run P w=.ok (v.den J β) w:=by
  unfold partOf at h;generalize hz:aF P t=u at h;split at h
  · rename_i n;split at h
    · rename_i hle;cases h;have hl:(((cs.drop off).take n).map (At.den J b0)).length=n:=by simp;omega
      have:=Be hz w g off _ hl (λj u hj=>by
        rw [List.getElem?_map]at hj;rw [List.getElem?_take]at hj;split at hj
        · rw [List.getElem?_drop]at hj;cases hx:cs[off+j]? with
          |none=>rw [hx]at hj;cases hj
          |some a =>
            rw [hx]at hj;simp only [Option.map_some,Option.some.injEq]at hj;rw [<-hj];exact hc _ _ hx
        · cases hj)
      rw [show Instr.loadAt t (.pointer (some ⟨g,off,none⟩))=Instr.loadAt t (.pointer (some ⟨g,off,none⟩)) from rfl];have e:((cs.drop off).take n).map (At.den J β)=((cs.drop off).take n).map (At.den J b0):=Bc J β b0 (List.all_eq_true.2 λx hx=>List.all_eq_true.1 hf x (List.mem_of_mem_drop (List.mem_of_mem_take hx)));simp only [CV.den,e];exact this
    · cases h
  · rename_i n;cases hx:cs[off]? with
    |none=>rw [hx]at h;cases h
    |some a =>
      rw [hx]at h;simp only [Option.map_some,Option.some.injEq]at h;subst h;simp only [CV.den];rw [At.aU J β b0 (List.all_eq_true.1 hf a (List.mem_of_getElem? hx))];exact Bf hz w g off _ (hc _ _ hx)
  · cases h
theorem On{k:bK}{x:SV}{b:Bool}(h:ji k x=some b){J:Env}(hk:bK.den k J)(β:Nat->Nat):x ≠ .any/\(b=true->x.den J β=.nilIface)/\(b=false->∃t v,x.den J β=.iface t v):=by
  unfold ji at h;split at h
  · cases h;exact⟨by simp,⟨λ_=>rfl,λh=>(by cases h)⟩⟩
  · rename_i i;generalize hf:fv k i=u at h;cases u with
    |none=>cases h
    |some z =>
      obtain⟨t,v⟩:=z;cases h;exact⟨by simp,⟨λh=>(by cases h),λ_=>⟨_,_,hk _ (yF hf)⟩⟩⟩
  · cases h
theorem H4(d:Nat){t:TypeId}{ms}(w:World)(h:P.underlying t=some (.interface ms)):(Op.equalIn (d+1) t .nilIface .nilIface).run P w=.ok true w:=by
 simp [Op.equalIn,run_underlying h]
theorem H5(d:Nat){t:TypeId}{ms}(u:TypeId)(v:Value)(w:World)(h:P.underlying t=some (.interface ms)):(Op.equalIn (d+1) t .nilIface (.iface u v)).run P w=.ok false w:=by
 simp [Op.equalIn,run_underlying h]
theorem H6(d:Nat){t:TypeId}{ms}(u:TypeId)(v:Value)(w:World)(h:P.underlying t=some (.interface ms)):(Op.equalIn (d+1) t (.iface u v) .nilIface).run P w=.ok false w:=by
 simp [Op.equalIn,run_underlying h]
theorem Se(op:BinOp)(t:TypeId)(x y:Operand)(a b:Value)(ha:a=.nilIface∨∃u v,a=.iface u v)(hb:b=.nilIface∨∃u v,b=.iface u v)(hc:nr x=true∨nr y=true)(w:World):(eqGuard op t x y a b).run P w=.ok () w:=by
 rcases hc with h|h
 ·cases x<;>first
   | (simp [nr]at h;done)
   | (rcases ha with rfl|⟨u,v,rfl⟩<;>rcases hb with rfl|⟨u',v',rfl⟩<;>cases op<;>simp [eqGuard])
 ·cases y<;>first
   | (simp [nr]at h;done)
   | (rcases ha with rfl|⟨u,v,rfl⟩<;>rcases hb with rfl|⟨u',v',rfl⟩<;>cases op<;>simp [eqGuard])
theorem Oo{a b:Value}(ha:a=.nilIface∨∃u v,a=.iface u v)(t:TypeId):(binOp .eql t a b=do pure (.bool (<-Op.equal t a b)))/\(binOp .neq t a b=do pure (.bool (!(<-Op.equal t a b)))):=by
 rcases ha with rfl|⟨u,v,rfl⟩<;>exact⟨rfl,rfl⟩
theorem Sf{k:bK}{op:BinOp}{t:TypeId}{xo yo:Operand}{x y:SV}{b:Bool}(h:lH P k op t xo yo x y=some b){J:Env}(hk:bK.den k J)(β:Nat->Nat)(w:World):x ≠ .any/\y ≠ .any /\
    ((do eqGuard op t xo yo (x.den J β) (y.den J β);binOp op t (x.den J β) (y.den J β)):Sem Value).run P w=.ok (.bool b) w:=by
  unfold lH at h;generalize hu:P.underlying t=u at h;split at h
  · rename_i ms;generalize hx:ji k x=u1 at h;generalize hy:ji k y=u2 at h;split at h
    · rename_i a b';split at h
      · rename_i hc;obtain⟨x0,x1,x2⟩:=On hx hk β;obtain⟨y0,y1,y2⟩:=On hy hk β
        have hX:x.den J β=.nilIface∨∃u v,x.den J β=.iface u v:=by
          cases a with
          |true=>exact .inl (x1 rfl)
          |false=>exact .inr (x2 rfl)
        have hY:y.den J β=.nilIface∨∃u v,y.den J β=.iface u v:=by
          cases b' with
          |true=>exact .inl (y1 rfl)
          |false=>exact .inr (y2 rfl)
        have heq:(Op.equal t (x.den J β) (y.den J β)).run P w=.ok (a == b') w:=by
          unfold Op.equal;rw [show Op.maxDepth=9999+1 from rfl];cases a with
          |true =>
            rw [x1 rfl];cases b' with
            |true=>rw [y1 rfl];exact H4 _ w hu
            |false=>obtain⟨q,v,e⟩:=y2 rfl;rw [e];exact H5 _ _ _ w hu
          |false =>
            obtain⟨q,v,e⟩:=x2 rfl;rw [e];cases b' with
            |true=>rw [y1 rfl];exact H6 _ _ _ w hu
            |false=>simp at hc
        refine⟨x0,y0, ?_⟩;rw [Sem.run_bind,Se _ _ _ _ _ _ hX hY hc.2,Result.andThen_ok];split at h
        · rename_i ho;subst ho;cases h;rw [(Oo hX t).1];simp [heq]
        · split at h
          · rename_i ho;subst ho;cases h;rw [(Oo hX t).2];simp [heq]
          · cases h
      · cases h
    · cases h
  · cases h
theorem Sh{k:bK}{c:an}{x:SV}{xT asserted:TypeId}{ok:Bool}{K:SV->an->Env->Prop}{J:Env}(si:bK.wf k c)(hk:bK.den k J)(h:doAssert (PA P W Q QM QP) P k c x asserted ok K J) :
    cr c J K λsv I=>sv ≠ .any/\x ≠ .any/\∀β w,(Instr.typeAssert (x.den I β) xT asserted ok).run P w=.ok (sv.den I β) w:=by
  unfold doAssert at h;generalize hu:P.underlying asserted=u at h;split at h
  · exact h.elim
  · rename_i d i uh;generalize hf:fv k i=u2 at h;cases u2 with
    |none=>exact h.elim
    |some z =>
      obtain⟨t,v⟩:=z;simp only at h;have hm:=yF hf;have hw:=si _ hm;simp only [Kn.wf,Bool.and_eq_true]at hw
      have val:∀{I},Env.au c J I->∀β,(SV.cv (.one (.val i))).den I β=.iface t (v.den I β):=λ{I} hl β=>by
        have h1:(Kn.k_ i t v).den I:=Kn.U hl (si _ hm) (hk _ hm);simp only [Kn.den]at h1;show (I.v i).1=_;rw [h1,CV.aU I β (λ_=>0) hw.2.2]
      split at h
      · rename_i ht;refine cr.pure h λI hl=>⟨by cases ok<;>simp,by simp,λβ w => ?_⟩;rw [val hl]
        cases d<;>first
          | (exact (uh _ rfl).elim)
          | (cases ok<;>simp [Instr.typeAssert,run_underlying hu,ht,SV.den,CV.den,At.den,BE.den])
      · rename_i ht;split at h
        · rename_i i_;subst i_;generalize hz:cq P asserted=u3 at h;cases u3 with
          |none=>exact h.elim
          |some z =>
            refine cr.pure h λI hl=>⟨by simp,by simp,λβ w => ?_⟩;have h0:=(v8 hz I β w c).1;rw [val hl]
            cases d<;>first
              | (exact (uh _ rfl).elim)
              | (simp [Instr.typeAssert,run_underlying hu,ht,h0,SV.den,CV.den,At.den,BE.den])
        · exact h.elim
  · rename_i d uh;split at h
    · rename_i i_;subst i_;generalize hz:cq P asserted=u3 at h;cases u3 with
      |none=>exact h.elim
      |some z =>
        refine cr.pure h λI hl=>⟨by simp,by simp,λβ w => ?_⟩;have h0:=(v8 hz I β w c).1
        cases d<;>first
          | (exact (uh _ rfl).elim)
          | (simp [Instr.typeAssert,run_underlying hu,h0,SV.den,CV.den,At.den,BE.den])
    · exact h.elim
  · exact h.elim
theorem Si{t:TypeId}{name:String}{f:FuncId}(h:methodOf P t name=some f)(n:Nat)(v:Value)(w:World):(method (n+1) t v name).run P w=.ok (f,v) w:=by
 unfold methodOf at h;generalize hi:P.info? t=u1 at h;generalize hu:P.underlying t=u2 at h;split at h
 ·rename_i i d;generalize hm:i.methods.find? (·.name == name)=u3 at h;split at h
  ·rename_i m;generalize hf:m.func=u4 at h;generalize hp:m.path.toList=u5 at h;split at h
   ·rename_i f';simp only [method,Sem.run_bind,run_typeInfo _ hi,Result.andThen_ok,hm,hp,follow,Sem.run_pure,hf,receiverAt,run_underlying hu]
    cases d<;>first
     | (cases h;done)
     | (cases h;simp [Place.get])
   ·cases h
  ·cases h
 ·cases h
theorem Oq{t:TypeId}{name:String}{f:FuncId}(h:methodOf P t name=some f){ev:Operand->Value}{r:Operand}{v:Value}{args:Array Operand}{argTypes:Array TypeId}{dst:Option Tmp}{type:TypeId}{pos after guard}(er:ev r=.iface t v){all:Array Value}(ec:#[v]++args.map ev=all)(w:World) :
  (execOp ev ⟨dst,.call ⟨.invoke r name,args,argTypes⟩,type,pos,after,guard⟩).run P w=(callFunc f all).run P w:=by
 have hm:=Si h (P.types.size+(Made.depth-1)) v w;have hd:P.types.size+Made.depth=P.types.size+(Made.depth-1)+1:=by simp [Made.depth]
 simp only [execOp,resolve,Sem.run_bind,Sem.run_pure,Result.andThen_ok,invoke,er]
 have e0:(#[Value.iface t v]++Array.map ev args)[0]? = some (Value.iface t v):=by
  rw [Array.getElem?_append_left (by simp)];rfl
 have e1:(#[Value.iface t v]++Array.map ev args).extract 1 (#[Value.iface t v]++Array.map ev args).size=Array.map ev args:=by
  apply Array.ext';simp only [Array.toList_extract,Array.toList_append,Array.size_append];simp [List.extract];exact List.take_of_length_le (by simp)
 simp only [e0,e1,callMethod,Sem.run_bind,run_program,Result.andThen_ok,hd,hm,<-ec]
theorem H7{G:bY}(hG:G.Ok){st:St}{o:Oper}{K:SV->an->Env->Prop}{J:Env}(wf:st.WF)(hk:bK.den st.k J)(h:tM (PA G.P W Q QM QP) G st o K J) :
    cr st.c J K λsv I=>bx G.P W st o sv I:=by
  obtain⟨dst,op,type,pos,after,guard⟩:=o;unfold tM at h;cases op
  case move x =>
    refine cr.pure h λI _=>bx.run λβ a w hB ho hr=>⟨a.eval x,by simp [execOp],λhn=>ho x (by simp [Op.operands]) hn⟩
  case assign x =>
    refine cr.pure h λI _=>bx.run λβ a w hB ho hr=>⟨a.eval x,by simp [execOp],λhn=>ho x (by simp [Op.operands]) hn⟩
  case pick x y z =>
    simp only at h;generalize hx:st.ev x=sx at h;split at h
    · rename_i e;have we:e.wf st.c=true:=by have:=wf.ev x;rw [hx]at this;exact this
      rcases zq h with ⟨hd,h⟩|⟨hd,h⟩
      · refine cr.pure h λI hl=>bx.run λβ a w hB ho hr=>⟨a.eval y, ?_,λhn=>ho y (by simp [Op.operands]) hn⟩;have hc:=ho x (by simp [Op.operands]) (by rw [hx];simp);rw [hx]at hc;simp only [SV.den,CV.den,At.den,BE.U hl we,hd]at hc;simp [execOp,hc,asBool]
      · refine cr.pure h λI hl=>bx.run λβ a w hB ho hr=>⟨a.eval z, ?_,λhn=>ho z (by simp [Op.operands]) hn⟩;have hc:=ho x (by simp [Op.operands]) (by rw [hx];simp);rw [hx]at hc;simp only [SV.den,CV.den,At.den,BE.U hl we,hd]at hc;simp [execOp,hc,asBool]
    · exact h.elim
  case load t x =>
    simp only at h;generalize pS:jL G st.k st.c t (st.ev x)=gl at h;cases gl with
    |none =>
    simp only at h;refine (R0 wf.ap h).mono λsv I hl hv=>bx.run λβ a w hB ho hr=>⟨sv.den I β, ?_,λ_=>rfl⟩;obtain⟨h1,h2,h3⟩:=hv;have e1:=ho x (by simp [Op.operands]) h1;simp only [execOp,e1];exact zg _ w _ (h3 β w hB hr)
    |some z =>
    obtain⟨g,cs,ty,v⟩:=z;simp only at h;obtain⟨⟨W0,W3,hh⟩,h⟩:=h;unfold jL at pS;split at pS;rotate_left
    · cases pS
    rename_i p j sz off hx;generalize hp:mZ st.k p=u1 at pS;cases u1 with
    |none=>cases pS
    |some g' =>
    simp only at pS;generalize cX:G.fw.lookup g'=u2 at pS;cases u2 with
    |none=>cases pS
    |some cz =>
    obtain⟨fH,Cn⟩:=cz;simp only at pS;generalize pT:partOf G.P t fH (j.toNat*sz+off)=u3 at pS;cases u3 with
    |none=>cases pS
    |some v' =>
    simp only at pS;split at pS;rotate_left
    · cases pS
    rename_i oc;simp only [Option.some.injEq,Prod.mk.injEq]at pS;obtain⟨rfl,rfl,rfl,rfl⟩:=pS;have fA:=G' hp;refine cr.pure h λI hl=>bx.run λβ a w hB ho hr=>⟨(SV.cv v').den I β, ?_,λ_=>rfl⟩;have kS:I.p p=(g',0):=Kn.U hl (wf.k _ fA) (hk _ fA);have e1:=ho x (by simp [Op.operands]) (by rw [hx];simp);rw [hx]at e1
    have e1:a.eval x=.pointer (some ⟨g',0+j.toNat*sz+off,none⟩):=by
      rw [e1];show Value.pointer (some ⟨(I.p p).1,(I.p p).2+j.toNat*sz+off,none⟩)=_;rw [kS]
    simp only [execOp,e1];refine zg _ w _ ?_
    have fB:∀j a,fH[j]? = some a->w.cell? ⟨g',j,none⟩=some (a.den I b0):=λj a ha=>by
      refine hB.cell ?_;rw [v_ hh j];simp only [List.getElem?_toArray,List.getElem?_map,ha,Option.map_some];rw [At.U hl (λ_ _=>rfl) (List.all_eq_true.1 oc.1 a (List.mem_of_getElem? ha))]
    have gQ:=H3 pT fB β oc.2;rw [show (0:Nat)+j.toNat*sz+off=j.toNat*sz+off from by omega];exact gQ
  case nilCheck x =>
    simp only at h;generalize hx:st.ev x=sx at h;split at h
    all_goals first
      |exact h.elim
      | (refine cr.pure h λI hl=>bx.run λβ a w hB ho hr=>⟨a.eval x, ?_,λhn => ?_⟩
         · have hc:=ho x (by simp [Op.operands]) (by rw [hx];simp);rw [hx]at hc;simp [execOp,hc,SV.den,CV.den,At.den]
         · have hc:=ho x (by simp [Op.operands]) (by rw [hx];simp);rw [hx]at hc;exact hc)
  case binOp op t x y yt =>
    simp only at h;generalize mz:j6 G.P st.o op t (st.ev x) (st.ev y)=on at h;cases on with
    |some cs =>
    obtain⟨ce,sz⟩:=cs;simp only at h;unfold j6 at mz;split at mz;rotate_left
    · cases mz
    rename_i Sj;generalize hu:G.P.underlying t=u1 at mz;generalize xE:st.ev x=sx at mz;generalize Fp:st.ev y=sy at mz;split at mz;rotate_left
    · cases mz
    rename_i el k;generalize hg:aD st.o k=u2 at mz;split at mz;rotate_left
    · cases mz
    rename_i eZ tg t';split at mz;rotate_left
    · cases mz
    rename_i hz;simp only [Option.some.injEq,Prod.mk.injEq]at mz;obtain⟨rfl,rfl⟩:=mz;obtain⟨n,c1,aM,r1,r2,r3,r4,r5,r6⟩:=xF h;obtain⟨q1,q2⟩:=za r1;refine⟨_,_,aM,q2,r2,r4,λI hl=>bx.run λβ a w hB ho hr=>⟨.bool (decide (op=.neq)), ?_,λ_=>rfl⟩⟩;have e1:=ho x (by simp [Op.operands]) (by rw [xE];simp);have e2:=ho y (by simp [Op.operands]) (by rw [Fp];simp);rw [xE]at e1;rw [Fp]at e2;have aZ:=(hr k (by simp [aP,xE]) _ (jP (wf.ap k _ hg) hg)).eB hz
    have hn:0<(ak I β eZ).length / tg:=by
      have h1:=r6 I β hl;have h2:0<n.den aM:=q1;rw [<-IE.U hl r5,h1]at h2;omega
    have CP:β (k+1)≠0:=by
      rcases aZ.2.2 with ⟨_,h1⟩|⟨h1,_⟩
      · rw [aZ.1,h1,Nat.zero_mul]at hn;simp at hn
      · omega
    simp only [SV.den,CV.den,At.den,cj,if_neg CP]at e1 e2;simp only [execOp,e1,e2];refine zg _ w _ ?_;have heq:(Op.equal t (.slice (some ⟨β k,β (k+3),none⟩) (β (k+2)) (β (k+1)-1)) (.slice none 0 0)).run G.P w=.ok false w:=HH 9999 _ _ _ w hu;rw [Sem.run_bind,NU _ _ _ _ _ _ rfl,Result.andThen_ok];rcases Sj with rfl|rfl
    · rw [(HD _ rfl t).1];simp [heq]
    · rw [(HD _ rfl t).2];simp [heq]
    |none =>
    simp only at h;generalize H8:lH G.P st.k op t x y (st.ev x) (st.ev y)=ie at h;cases ie with
    |some bb =>
    simp only at h;refine cr.pure h λI hl=>bx.run λβ a w hB ho hr=>⟨.bool bb, ?_,λ_=>rfl⟩;obtain⟨q1,q2,q3⟩:=Sf H8 (bK.U hl wf.k hk) β w;have e1:=ho x (by simp [Op.operands]) q1;have e2:=ho y (by simp [Op.operands]) q2;simp only [execOp,e1,e2];exact zg _ w _ q3
    |none =>
    simp only at h;have hx:st.ev x ≠ .any:=by intro he;rw [he]at h;cases hy:st.ev y<;>rw [hy]at h<;>exact h
    have hy:st.ev y ≠ .any:=by
      intro he;rw [he]at h;cases xH:st.ev x with
      |cv q=>rw [xH]at h;cases q with
        |one q=>cases q<;>exact h
        |agg q=>exact h
      |_=>rw [xH]at h;exact h
    refine (RR (wf.ev x) (wf.ev y) h).mono λsv I hl hv=>bx.run λβ a w hB ho hr=>⟨sv.den I β, ?_,λ_=>rfl⟩;have e1:=ho x (by simp [Op.operands]) hx;have e2:=ho y (by simp [Op.operands]) hy;simp only [execOp,e1,e2];exact zg _ w _ (hv.2 β w x y)
  case lookup t x i ok =>
    simp only at h;refine (R6 wf.ap h).mono λsv I hl hv=>bx.run λβ a w hB ho hr=>⟨sv.den I β, ?_,λ_=>rfl⟩;obtain⟨v1,v2,v3,v4⟩:=hv;have e1:=ho x (by simp [Op.operands]) v1;have e2:=ho i (by simp [Op.operands]) v2;simp only [execOp,e1,e2];exact zg _ w _ (v4 β w λk hk=>hr k (by simpa [aP]using hk))
  case typeAssert x xt asserted ok =>
    simp only at h;refine (Sh (xT:=xt) wf.k hk h).mono λsv I hl hv=>bx.run λβ a w hB ho hr=>⟨sv.den I β, ?_,λ_=>rfl⟩;have e1:=ho x (by simp [Op.operands]) hv.2.1;simp only [execOp,e1];exact zg _ w _ (hv.2.2 β w)
  case unOp op t x =>
    simp only at h;refine (RS h).mono λsv I hl hv=>bx.run λβ a w hB ho hr=>⟨sv.den I β, ?_,λ_=>rfl⟩;have e1:=ho x (by simp [Op.operands]) hv.2.1;simp only [execOp,e1];exact zg _ w _ (hv.2.2 β w)
  case convert s d x =>
    simp only at h;generalize kC:bytesOf G.P st.m st.o s d (st.ev x)=Sk at h
    cases Sk with
    |some ce =>
    simp only at h;refine (Cr h).mono λsv I hl hv=>bx.run λβ a w hB ho hr=>⟨sv.den I β, ?_,λ_=>rfl⟩;obtain⟨v1,v2,v3⟩:=hv;obtain⟨b1,b2⟩:=Sd (W:=W) wf.ap kC v1 (λk hk=>hr k (by simpa [aP]using hk));have e1:=ho x (by simp [Op.operands]) b1;rw [v3 β];simp only [execOp,e1];exact zg _ w _ b2
    |none =>
    simp only at h;generalize tp:jM G.P st.c s d (st.ev x)=ab at h;cases ab with
    |some yQ =>
      simp only at h;obtain⟨L,hL,h⟩:=h;have hle:st.c.le {st.c with nl:=st.c.nl+1}:=⟨Nat.le_refl _,Nat.le_refl _,Nat.le_refl _,Nat.le_refl _,Nat.le_refl _,Nat.le_refl _,Nat.le_succ _⟩;obtain⟨sv,c2,ar,g1,g2,g3,g4⟩:=Cr h;refine⟨sv,c2,ar,g1,an.le_trans hle g2,Env.ae hle (re st.c J L) g3,λI hk=>bx.run λβ a w hB ho hr=>⟨sv.den I β, ?_,λ_=>rfl⟩⟩;obtain⟨v1,v2,v3⟩:=g4 I hk;have lk:Env.au {st.c with nl:=st.c.nl+1} (J.jy st.c.nl L) I:=Env.ae g2 g3 hk
      have eL:ak I (λ_=>0) [.var st.c.nl]=L.map (·.1):=by
        simp only [ak,Sg.den,List.append_nil];rw [lk.l st.c.nl (Nat.lt_succ_self _)];exact congrArg (List.map λy:OV=>y.1) (if_pos rfl)
      obtain⟨b1,b2⟩:=Sc tp hL (Env.ae hle (re st.c J L) (Env.ae g2 g3 hk)) (λ{a u} ha=>hB.cell ha) (by simp only [SP.ok,eL]at v1;exact v1) β;have e1:=ho x (by simp [Op.operands]) b1;rw [v3 β];simp only [execOp,e1,SP.den,eL];exact zg _ w _ b2
    |none =>
    simp only at h;refine (RT h).mono λsv I hl hv=>bx.run λβ a w hB ho hr=>⟨sv.den I β, ?_,λ_=>rfl⟩;have e1:=ho x (by simp [Op.operands]) hv.2.1;simp only [execOp,e1];exact zg _ w _ (hv.2.2 β w)
  case field t x f =>
    simp only at h;refine (RU h).mono λsv I hl hv=>bx.run λβ a w hB ho hr=>⟨sv.den I β, ?_,λ_=>rfl⟩;have e1:=ho x (by simp [Op.operands]) hv.2.1;simp only [execOp,e1];exact zg _ w _ (hv.2.2 β w)
  case fieldAddr t x f =>
    simp only at h;refine (RW h).mono λsv I hl hv=>bx.run λβ a w hB ho hr=>⟨sv.den I β, ?_,λ_=>rfl⟩;have e1:=ho x (by simp [Op.operands]) hv.2.1;simp only [execOp,e1];exact zg _ w _ (hv.2.2 β w)
  case indexAddr t x i =>
    simp only at h;refine (RX wf.ap (wf.ev x) (wf.ev i) h).mono λsv I hl hv=>bx.run λβ a w hB ho hr=>⟨sv.den I β, ?_,λ_=>rfl⟩;have e1:=ho x (by simp [Op.operands]) hv.2.1.1;have e2:=ho i (by simp [Op.operands]) hv.2.1.2;simp only [execOp,e1,e2];exact zg _ w _ (hv.2.2 β w hr)
  case index t x i =>
    simp only at h;refine (RY (wf.ev x) (wf.ev i) h).mono λsv I hl hv=>bx.run λβ a w hB ho hr=>⟨sv.den I β, ?_,λ_=>rfl⟩;have e1:=ho x (by simp [Op.operands]) hv.2.1.1;have e2:=ho i (by simp [Op.operands]) hv.2.1.2;simp only [execOp,e1,e2];exact zg _ w _ (hv.2.2 β w)
  case extract x i =>
    simp only at h;generalize hx:st.ev x=sx at h;split at h
    · rename_i l;generalize hi:l[i]? = u at h;split at h
      · rename_i v;refine cr.pure h λI _=>bx.run λβ a w hB ho hr=>⟨(SV.cv v).den I β, ?_,λ_=>rfl⟩;have e1:=ho x (by simp [Op.operands]) (by rw [hx];simp);rw [hx]at e1;simp only [execOp,e1];refine zg _ w _ ?_;simp [SV.den,Instr.extract,hi]
      · exact h.elim
    · exact h.elim
  case build t parts =>
    simp only at h;have eD:=R8 h;refine (RZ h).mono λsv I hl hv=>bx.run λβ a w hB ho hr=>⟨sv.den I β, ?_,λ_=>rfl⟩
    have e1:(parts.map λx=>(x.1,a.eval x.2))=((parts.toList.map λp=>(p.1,st.ev p.2)).map λp=>(p.1,p.2.den I β)).toArray:=by
      rw [List.map_map];apply Array.ext';rw [Array.toList_map];apply List.map_congr_left;intro p hp
      have:=ho p.2 (by simp only [Op.operands];exact CO (by simpa using ⟨p.1,Array.mem_toList_iff.1 hp⟩)) (eD (p.1,st.ev p.2) (List.mem_map.2 ⟨p,hp,rfl⟩))
      simp [this]
    simp only [execOp];refine zg _ w _ ?_
    have:=hv.2 β w
    rw [<-e1]at this;exact this
  case slice t x lo hi mx =>
    cases mx with
    |some m=>exact h.elim
    |none =>
      simp only at h;refine (Sb (wf.ev x) (λv hv => ?_) (λv hv => ?_) h).mono λsv I hl hv=>bx.run λβ a w hB ho hr=>⟨sv.den I β, ?_,λ_=>rfl⟩
      · cases lo<;>simp at hv;subst hv;exact wf.ev _
      · cases hi<;>simp at hv;subst hv;exact wf.ev _
      · obtain⟨v1,v2,v3,v4,v5⟩:=hv;have e1:=ho x (by simp [Op.operands]) v2
        have e2:lo.map a.eval=(lo.map st.ev).map (SV.den I β):=by
          cases lo with
          |none=>rfl
          |some l=>simp only [Option.map_some];rw [ho l (by simp [Op.operands]) (v3 _ rfl)]
        have e3:hi.map a.eval=(hi.map st.ev).map (SV.den I β):=by
          cases hi with
          |none=>rfl
          |some l=>simp only [Option.map_some];rw [ho l (by simp [Op.operands]) (v4 _ rfl)]
        simp only [execOp,e1,e2,e3,Option.map_none];exact zg _ w _ (v5 β w)
  case makeFunc fn first az =>
    cases fn<;>simp only at h<;>first
      |exact h.elim
      |skip
    rename_i f;split at h
    · rename_i hf;generalize hl:ff (az.toList.map st.ev)=u at h;split at h
      · rename_i l;obtain⟨q1,q2⟩:=CJ _ hl;refine cr.pure h λI _=>bx.run λβ a w hB ho hr=>⟨_, ?_,λ_=>rfl⟩
        have e1:az.map a.eval=(l.map λc=>(.pointer (some ⟨β c.1,c.2,none⟩):Value)).toArray:=by
          rw [<-q2 I β];apply Array.ext';rw [Array.toList_map];exact zo _ λx hx=>ho x (by simp only [Op.operands];exact Array.mem_append.2 (.inr (Array.mem_toList_iff.1 hx))) (q1 _ (List.mem_map.2 ⟨x,hx,rfl⟩))
        have e2:first=#[]:=Array.size_eq_zero_iff.1 hf
        subst e2;simp only [execOp];refine zg _ w _ ?_;simp [Instr.makeFunc,e1,SV.den,CV.den,At.den]
      · exact h.elim
    · generalize hq:ff (first.toList.map st.ev)=u0 at h;generalize hl:ff (az.toList.map st.ev)=u at h;split at h
      · rename_i q l;obtain⟨q1,q2⟩:=CJ _ hl;obtain⟨q3,q4⟩:=CJ _ hq;refine cr.pure h λI _=>bx.run λβ a w hB ho hr=>⟨_, ?_,λ_=>rfl⟩
        have e1:az.map a.eval=(l.map λc=>(.pointer (some ⟨β c.1,c.2,none⟩):Value)).toArray:=by
          rw [<-q2 I β];apply Array.ext';rw [Array.toList_map];exact zo _ λx hx=>ho x (by simp only [Op.operands];exact Array.mem_append.2 (.inr (Array.mem_toList_iff.1 hx))) (q1 _ (List.mem_map.2 ⟨x,hx,rfl⟩))
        have e2:first.map a.eval=(q.map λc=>(.pointer (some ⟨β c.1,c.2,none⟩):Value)).toArray:=by
          rw [<-q4 I β];apply Array.ext';rw [Array.toList_map];exact zo _ λx hx=>ho x (by simp only [Op.operands];exact Array.mem_append.2 (.inl (Array.mem_toList_iff.1 hx))) (q3 _ (List.mem_map.2 ⟨x,hx,rfl⟩))
        simp only [execOp];refine zg _ w _ ?_;simp [Instr.makeFunc,e1,e2,SV.den,CV.den,At.den]
      · rename_i l;obtain⟨q1,q2⟩:=CJ _ hl;generalize Fz:first.toList.map st.ev=fl at h
        split at h;rotate_left
        · exact h.elim
        rename_i cs;generalize Sl:aJ.A5 cs=u2 at h;split at h;rotate_left
        · exact h.elim
        rename_i r;refine cr.pure h λI _=>bx.run λβ a w hB ho hr=>⟨_, ?_,λ_=>rfl⟩
        have e1:az.map a.eval=(l.map λc=>(.pointer (some ⟨β c.1,c.2,none⟩):Value)).toArray:=by
          rw [<-q2 I β];apply Array.ext';rw [Array.toList_map];exact zo _ λx hx=>ho x (by simp only [Op.operands];exact Array.mem_append.2 (.inr (Array.mem_toList_iff.1 hx))) (q1 _ (List.mem_map.2 ⟨x,hx,rfl⟩))
        have e2:first.map a.eval=#[.agg (r.map (aJ.den I β)).toArray]:=by
          apply Array.ext'
          rw [Array.toList_map,zo (st:=st) (J:=I) (β:=β) _ λx hx=>ho x (by simp only [Op.operands];exact Array.mem_append.2 (.inl (Array.mem_toList_iff.1 hx))) (by
            have:st.ev x∈first.toList.map st.ev:=List.mem_map.2 ⟨x,hx,rfl⟩
            rw [Fz]at this;simp only [List.mem_singleton]at this;rw [this];simp)]
          rw [Fz]
          have:cs.map (At.den I β)=r.map (aJ.den I β):=by
            rw [<-aJ.tD Sl,List.map_map];exact List.map_congr_left λx _=>aJ.tE I β x
          simp only [List.map_cons,List.map_nil,SV.den,CV.den,this]
        simp only [execOp];refine zg _ w _ ?_;simp [Instr.makeFunc,e1,e2,SV.den,CV.den,At.den]
      · exact h.elim
  case call cl =>
    obtain⟨callee,args,argTypes⟩:=cl;cases callee
    case invoke r m =>
      simp only at h;generalize Bl:st.ev r=sr at h;split at h
      · rename_i i;generalize hf:fv st.k i=u1 at h;cases u1 with
        |none=>exact h.elim
        |some z =>
        obtain⟨t,v⟩:=z;simp only at h;generalize hm:methodOf G.P t m=u2 at h;cases u2 with
        |none=>exact h.elim
        |some f =>
        simp only at h;have fQ:=yF hf;have ri:=wf.k _ fQ;simp only [Kn.wf,Bool.and_eq_true]at ri;refine (N8 hG wf.ap (λk cs t hm=>(wf.m k cs t hm).2) (λk ce sz t hm=>(wf.o k ce sz t hm).2) h).mono λsv I hl hv => ?_;obtain⟨h1,h2,h3⟩:=hv;intro β a w hB ho hr next Q' hn
        have er:=ho r (by simp [Op.operands,Call.operands]) (by rw [Bl];simp);rw [Bl]at er;have hd:(Kn.k_ i t v).den I:=Kn.U hl (wf.k _ fQ) (hk _ fQ);simp only [Kn.den]at hd
        have er:a.eval r=.iface t (v.den I β):=by
          rw [er];show (I.v i).1=_;rw [hd,CV.aU I (λ_=>0) β ri.2.2]
        have ea:(args.map a.eval).toList=(args.toList.map st.ev).map (SV.den I β):=by
          rw [Array.toList_map];exact zo _ λx hx=>ho x (by simp only [Op.operands,Call.operands];exact Array.mem_append.2 (.inr (Array.mem_toList_iff.1 hx))) (h2 _ (List.mem_cons_of_mem _ (List.mem_map.2 ⟨x,hx,rfl⟩)))
        have ec:#[v.den I β]++args.map a.eval=(((SV.cv v)::args.toList.map st.ev).map (SV.den I β)).toArray:=by
          apply Array.ext';rw [Array.toList_append,ea];simp [SV.den]
        have hx:(execOp a.eval ⟨dst,.call ⟨.invoke r m,args,argTypes⟩,type,pos,after,guard⟩).run G.P w=(callFunc f (((SV.cv v)::args.toList.map st.ev).map (SV.den I β)).toArray).run G.P w:=Oq hm er ec w
        have dq:fj W st.m st.o (av (bT st.m st.o ((SV.cv v)::args.toList.map st.ev))) I β w:=λk hk=>hr k (by
          simp only [aP,Bl,hf];exact hk)
        unfold Oper.wp;rw [hx];rcases h3 β w hB dq with h4|⟨h4,h5⟩
        · rw [h4,Oper.upon_value];exact hn _ w (λ_=>rfl) (Below.refl _ _)
        · rw [h4,Oper.upon_enter]
          exact h5.mono λe w' he=>by
            obtain⟨rfl,hb⟩:=he;exact hn _ w' (λ_=>rfl) hb
      · exact h.elim
    case builtin b =>
      cases b<;>simp only at h<;>first
        |exact h.elim
        |skip
      case len =>
        generalize ha:args.toList=al at h;split at h
        · rename_i x;refine (R_ wf.ap (wf.ev x) h).mono λsv I hl hv=>bx.run λβ a w hB ho hr=>⟨sv.den I β, ?_,λ_=>rfl⟩;obtain⟨h1,ty,h2,h3⟩:=hv;have ea:args=#[x]:=by apply Array.ext';rw [ha]
          subst ea;have e1:=ho x (by simp [Op.operands,Call.operands]);have h4:=h3 β w (a.eval x) (by simpa [aP]using hr) e1;have ht:argTypes[0]? = some ty:=h2
          have h5:(Builtin.len_ argTypes type #[a.eval x]).run G.P w=.ok (sv.den I β) w:=by
            have:Builtin.len_ argTypes type #[a.eval x]=Builtin.len_ #[ty] ty #[a.eval x]:=by simp only [Builtin.len_,ht];rfl
            rw [this];exact h4
          simp [execOp,resolve,invoke,builtin,h5]
        · exact h.elim
      case max =>
        generalize ha:args.toList=al at h;split at h
        · rename_i x y;refine (Og h).mono λsv I hl hv=>bx.run λβ a w hB ho hr=>⟨sv.den I β, ?_,λ_=>rfl⟩;obtain⟨h1,h2,h3,h4⟩:=hv;have ea:args=#[x,y]:=by apply Array.ext';rw [ha]
          subst ea;have e1:=ho x (by simp [Op.operands,Call.operands]) h2;have e2:=ho y (by simp [Op.operands,Call.operands]) h3;have h5:=h4 β w;rw [<-e1,<-e2]at h5;simp only [if_true]at h5;simp [execOp,resolve,invoke,builtin,Builtin.max_,h5]
        · exact h.elim
      case min =>
        generalize ha:args.toList=al at h;split at h
        · rename_i x y;refine (Og h).mono λsv I hl hv=>bx.run λβ a w hB ho hr=>⟨sv.den I β, ?_,λ_=>rfl⟩;obtain⟨h1,h2,h3,h4⟩:=hv;have ea:args=#[x,y]:=by apply Array.ext';rw [ha]
          subst ea;have e1:=ho x (by simp [Op.operands,Call.operands]) h2;have e2:=ho y (by simp [Op.operands,Call.operands]) h3;have h5:=h4 β w;rw [<-e1,<-e2]at h5;simp only [Bool.false_eq_true,if_false]at h5;simp [execOp,resolve,invoke,builtin,Builtin.min_,h5]
        · exact h.elim
    case value g =>
      simp only at h
      have main:∀ (f:FuncId) (first az:List (Nat × Nat)) (all:List SV),all=(first.map fun x=>SV.cv (.one (.loc x.1 x.2)))++(args.toList.map st.ev++az.map fun x=>SV.cv (.one (.loc x.1 x.2))) ->
          st.ev g ≠ .any ->
          (∀(I:Env) (β:Nat->Nat),(st.ev g).den I β=.func (.func f) (first.map λc=>.pointer (some ⟨β c.1,c.2,none⟩)).toArray (az.map λc=>.pointer (some ⟨β c.1,c.2,none⟩)).toArray) ->
          (∀k∈av (bT st.m st.o all),k∈aP st ⟨dst,.call ⟨.value g,args,argTypes⟩,type,pos,after,guard⟩) ->
          j5 (PA G.P W Q QM QP) G st.m st.o st.c f all K J ->
          cr st.c J K λsv I=>bx G.P W st ⟨dst,.call ⟨.value g,args,argTypes⟩,type,pos,after,guard⟩ sv I:=by
        intro f first az all bQ ui uj y8 h
        refine (N8 hG wf.ap (λk cs t hm=>(wf.m k cs t hm).2) (λk ce sz t hm=>(wf.o k ce sz t hm).2) h).mono λsv I hl hv => ?_;obtain⟨h1,h2,h3⟩:=hv;intro β a w hB ho hr next Q' hn
        have eg:=ho g (by simp [Op.operands,Call.operands]) ui;rw [uj I β]at eg
        have ea:(args.map a.eval).toList=(args.toList.map st.ev).map (SV.den I β):=by
          rw [Array.toList_map];exact zo _ λx hx=>ho x (by simp only [Op.operands,Call.operands];exact Array.mem_append.2 (.inr (Array.mem_toList_iff.1 hx))) (h2 _ (by rw [bQ];exact List.mem_append.2 (.inr (List.mem_append.2 (.inl (List.mem_map.2 ⟨x,hx,rfl⟩))))))
        have ec:(first.map λc=>(.pointer (some ⟨β c.1,c.2,none⟩):Value)).toArray++args.map a.eval++(az.map λc=>(.pointer (some ⟨β c.1,c.2,none⟩):Value)).toArray=(all.map (SV.den I β)).toArray:=by
          apply Array.ext';rw [Array.toList_append,Array.toList_append,ea,bQ];simp [SV.den,CV.den,At.den,Function.comp_def]
        have hx:(execOp a.eval ⟨dst,.call ⟨.value g,args,argTypes⟩,type,pos,after,guard⟩).run G.P w=(callFunc f (all.map (SV.den I β)).toArray).run G.P w:=by
          simp only [execOp,resolve,eg,Deferred.ofValue,Sem.run_bind,Sem.run_pure,Result.andThen_ok,invoke];rw [<-ec]
        have dq:fj W st.m st.o (av (bT st.m st.o all)) I β w:=λk hk=>hr k (y8 k hk);unfold Oper.wp;rw [hx];rcases h3 β w hB dq with h4|⟨h4,h5⟩
        · rw [h4,Oper.upon_value];exact hn _ w (λ_=>rfl) (Below.refl _ _)
        · rw [h4,Oper.upon_enter]
          exact h5.mono λe w' he=>by
            obtain⟨rfl,hb⟩:=he;exact hn _ w' (λ_=>rfl) hb
      have app:∀(l1 l2:List At),av (l1++l2)=av l1++av l2:=by
        intro l1 l2
        induction l1 with
        |nil=>rfl
        |cons x l1 ih=>cases x<;>simp [av,ih]
      generalize hg:st.ev g=sg at h;split at h
      · rename_i f az;refine main f [] az _ (by simp) (by rw [hg];simp) (λI β=>by rw [hg];rfl) (λk hk => ?_) h;simp only [aP,hg];exact hk
      · rename_i f first az
        refine main f first az _ rfl (by rw [hg];simp) (λI β=>by rw [hg];rfl) (λk hk => ?_) h
        simp only [aP,hg];exact hk
      · exact h.elim
  all_goals exact h.elim
end Vc
set_option linter.unusedVariables false
namespace Vc
open Go Go.RowKit
variable {P:Program} {W:dN} {Q:Value->Prop} {QM QP:World->Value->Prop}
theorem sj{w:World}{b:Nat}{o:Obj}(h:w.heap[b]? = some o):b<w.heap.size:=(Array.getElem?_eq_some_iff.1 h).1
theorem zi(t:List (Nat × SV))(d i:Nat)(v:SV):aq ((d,v)::t) i=if d=i then v else aq t i:=by
 show (match Nat.beq d i with|true=>v|false=>aq t i)=_;cases h:Nat.beq d i with
 |true=>rw [if_pos (Nat.eq_of_beq_eq_true h)]
 |false=>rw [if_neg (Nat.ne_of_beq_eq_false h)]
theorem xI(m:Mem)(d i:Nat)(v:List At × TypeId):getM ((d,v)::m) i=if d=i then some v else getM m i:=rfl
theorem zt(m:aY)(d i:Nat)(v:CE × Nat × TypeId):aD ((d,v)::m) i=if d=i then some v else aD m i:=rfl
theorem H9:∀(o:aY) (k i:Nat),aD (rZ o k) i=if k=i then none else aD o i
  | [],k,i=>by simp [rZ,aD]
  | (j,v)::r,k,i=>by
    simp only [rZ];by_cases hj:j=k
    · subst hj;rw [if_pos rfl,H9 r j i,zt];by_cases hi:j=i
      · rw [if_pos hi,if_pos hi]
      · rw [if_neg hi,if_neg hi,if_neg hi]
    · rw [if_neg hj,zt,zt,H9 r k i];by_cases hi:j=i
      · rw [if_pos hi,if_pos hi,if_neg (λe=>hj (hi.trans e.symm))]
      · rw [if_neg hi,if_neg hi]
theorem vz:∀(l:List Nat) (o:aY) (i:Nat),aD (bI o l) i=if i∈l then none else aD o i
  | [],o,i=>by simp [bI]
  |k::l,o,i=>by
    simp only [bI,vz l,H9,List.mem_cons];by_cases h1:i∈l
    · simp [h1]
    · by_cases h2:k=i
      · simp [h2]
      · have:¬i=k:=λe=>h2 e.symm
        simp [h1,h2,this]
theorem y9:∀(o:aY) (k i:Nat) (ce:CE),aD (dk o k ce) i=if k=i then (aD o i).map (λx=>(ce,x.2))else aD o i
  | [],k,i,ce=>by simp [dk,aD]
  | (j,v)::r,k,i,ce=>by
    simp only [dk];by_cases hj:j=k
    · subst hj;rw [if_pos rfl];simp only [zt];by_cases hi:j=i
      · simp [hi]
      · simp [hi]
    · rw [if_neg hj];simp only [zt,y9 r k i ce];by_cases hi:j=i
      · subst hi;rw [if_pos rfl,if_neg (λh=>hj h.symm),if_pos rfl]
      · simp [hi]
theorem sq:∀(m:Mem) (k i:Nat) (cs:List At),getM (iE m k cs) i=if k=i then (getM m i).map (λx=>(cs,x.2))else getM m i
  | [],k,i,cs=>by simp [iE,getM]
  | (j,v)::r,k,i,cs=>by
    simp only [iE];by_cases hj:j=k
    · subst hj;rw [if_pos rfl];simp only [xI];by_cases hi:j=i
      · simp [hi]
      · simp [hi]
    · rw [if_neg hj];simp only [xI,sq r k i cs];by_cases hi:j=i
      · subst hi;rw [if_pos rfl,if_neg (λh=>hj h.symm),if_pos rfl]
      · simp [hi]
theorem H_(w:World)(g k:Nat)(cs:Array Value)(h:k≠g):(w.setRow g cs).heap[k]? = w.heap[k]? := by
 simp only [World.setRow,Array.getElem?_modify];rw [if_neg (by omega)]
theorem Ot{t:TypeId}{g:Bool}{n:Nat}(hz:aF P t=some (g,n))(w:World)(b o:Nat)(v:Value)(cur:Array Value)(ty:TypeId)(hb:w.heap[b]? = some (.cells cur ty))(hn:v.cells.size=n)(ho:o+n<=cur.size)
  (h1:∀x∈v.cells.toList,x.oneCell'=true) :
  (Instr.storeAt t (ptr b o) v).run P w=.ok () (w.setRow b (cur.toList.take o++v.cells.toList++cur.toList.drop (o+n)).toArray):=by
 have mO:=run_storeCells_at P b o ty v.cells.toList 0 cur w hb (by simp [hn];exact ho) h1;simp only [Array.length_toList,hn,Nat.add_zero]at mO;simp [Instr.storeAt,ptr,Instr.sureAddr,storeVar,pc hz,hn,mO]
theorem zp{c:an}{l:List At}(h:l.all (At.wf c)=true)(n:Nat):(l.take n).all (At.wf c)=true/\(l.drop n).all (At.wf c)=true :=
 ⟨List.all_eq_true.2 λx hx=>List.all_eq_true.1 h x (List.mem_of_mem_take hx),List.all_eq_true.2 λx hx=>List.all_eq_true.1 h x (List.mem_of_mem_drop hx)⟩
theorem CV.di{c:an}:∀{v:CV},v.wf c=true->v.cells.all (At.wf c)=true
 | .one a,h=>by simpa [CV.cells,CV.wf]using h
 | .agg l,h=>h
theorem H'{α β:Type}(f:α->β)(l:List α):∀n,(times l n).map f=times (l.map f) n
 |0=>rfl
 |n+1=>by simp [times,H' f l n]
theorem CQ{α:Type}(l:List α):∀n,(times l n).length=n*l.length
 |0=>by simp [times]
 |n+1=>by simp [times,CQ l n,Nat.add_mul,Nat.add_comm]
theorem Ou{α:Type}(l:List α)(hl:0<l.length):∀n i,i<n*l.length->(times l n)[i]? = l[i % l.length]?
  |0,i,h=>by omega
  |n+1,i,h=>by
    simp only [times];by_cases hi:i<l.length
    · rw [List.getElem?_append_left hi,Nat.mod_eq_of_lt hi]
    · rw [Nat.succ_mul]at h;rw [List.getElem?_append_right (by omega),Ou l hl n (i-l.length) (by omega)];congr 1;exact (Nat.mod_eq_sub_mod (by omega)).symm
theorem Ov(z:Array Value)(n:Nat)(hz:0<z.size):(Array.range (n*z.size)).map (λi=>z[i % z.size]!)=(times z.toList n).toArray:=by
 apply Array.ext';apply List.ext_getElem?;intro i;simp only [Array.toList_map,Array.toList_range,List.getElem?_map,List.getElem?_range'];by_cases hi:i<n*z.size
 ·rw [List.getElem?_range hi,Ou _ (by simpa using hz) n i (by simpa using hi)]
  have:i % z.size<z.size:=Nat.mod_lt _ hz
  simp [this]
 ·rw [List.getElem?_eq_none (by simp;omega),List.getElem?_eq_none (by simp [CQ];omega)];rfl
theorem ed{a:Act}{d:Nat}{v:Value}(i:Nat)(hd:d<a.tmps.size):(a.put (some d) v).tmps[i]? = if d=i then some v else a.tmps[i]? := by
 simp only [Act.put];by_cases h:d=i
 ·subst h;simp [hd]
 ·rw [if_neg h,Array.getElem?_setIfInBounds_ne h]
theorem Ia(a:Act)(dst:Option Tmp)(v:Value):(a.put dst v).tmps.size=a.tmps.size:=by
 cases dst<;>simp [Act.put]
theorem Ib(a:Act)(dst:Option Tmp)(v:Value):(a.put dst v).defers=a.defers:=by
 cases dst<;>rfl
def bu(β:Nat->Nat)(k:Nat):oF->Option Nat
 | .fix _ _=>some (β k)
 | .row _ _ _=>if 2<=β (k+1)then some (β k)else none
def nC(c:an)(k:Nat):oF->Prop
 | .fix cs _=>k<c.nk/\cs.all (At.wf c)=true
 | .row ce _ _=>k+3<c.nk/\bP c ce=true
def cc:Sg->List Nat
 | .cE l=>aE l
 | .var _=>[]
def dP:oF->List Nat
 | .fix cs _=>aE cs
 | .row ce _ _=>ce.flatMap cc
theorem St.WF.dR{st:St}(h:st.WF){k:Nat}{e:oF}(hg:aC st.m st.o k=some e):nC st.c k e:=by
  unfold aC at hg;cases hm:getM st.m k with
  |some x =>
    rw [hm]at hg;simp only [Option.some.injEq]at hg;subst hg;exact h.m k x.1 x.2 hm
  |none =>
    rw [hm]at hg;cases ho:aD st.o k with
    |some x =>
      rw [ho]at hg;simp only [Option.some.injEq]at hg;subst hg;exact h.o k x.1 x.2.1 x.2.2 ho
    |none=>rw [ho]at hg;cases hg
theorem Bm{c:an}{k:Nat}:∀{e:oF},nC c k e->k<c.nk
 | .fix ..,h=>h.1
 | .row ..,h=>by have:=h.1;omega
theorem Holds.uk{J:Env}{β:Nat->Nat}{k:Nat}{w:World}:∀{e:oF},Holds W J β k e w->∀b,bu β k e=some b->(b∈W.mH∨W.heap.size<=b)/\b<w.heap.size/\∃o,w.heap[b]? = some o/\Datum o
  | .fix cs t,h,b,hb=>by
    simp only [bu,Option.some.injEq]at hb;subst hb;exact⟨h.1.out,sj h.2,_,h.2,trivial⟩
  | .row ce sz t,h,b,hb=>by
    simp only [bu]at hb;split at hb
    · rename_i hc;simp only [Option.some.injEq]at hb;subst hb;obtain⟨ob,h3,h4⟩:=bF.datum h hc;exact⟨(bF.own h hc).out,sj h3,_,h3,h4⟩
    · cases hb
theorem Holds.eE{J aa:Env}{β ag:Nat->Nat}{c:an}{k:Nat}{w w':World}:∀ {e:oF},Holds W J β k e w->nC c k e->Env.au c J aa->(∀ j,j < c.nk->ag j=β j) ->
    (∀b,bu β k e=some b->w'.heap[b]? = w.heap[b]?)->Holds W aa ag k e w'
  | .fix cs t,h,hw,hl,hb,hh=>by
    refine⟨by rw [hb k hw.1];exact h.1, ?_⟩;rw [hb k hw.1,vP hl hb hw.2,hh _ rfl];exact h.2
  | .row ce sz t,h,hw,hl,hb,hh=>by
    have h1:=hw.1;simp only [Holds]at h ⊢;rw [hb k (by omega),hb (k+1) (by omega),hb (k+2) (by omega),hb (k+3) (by omega),zy hl hb hw.2];exact h.heap λh2=>hh (β k) (by simp only [bu,h2,if_true])
theorem CR{β ag:Nat->Nat}{c:an}{k:Nat}:∀{e:oF},nC c k e->(∀j,j<c.nk->ag j=β j)->bu ag k e=bu β k e
 | .fix ..,hw,hb=>by simp only [bu,hb k hw.1]
 | .row ..,hw,hb=>by have:=hw.1;simp only [bu,hb k (by omega),hb (k+1) (by omega)]
def recAt(r:Loop):Option Ex->Loop
 |none => {r with state := .ready,pending:=none}
 |some .normal => {r with state := .busy,pending:=none}
 |some (.exit id) => {r with state := .done,pending:=some (.exit id)}
 |some .ret => {r with state := .done,pending:=some .ret}
 |some (.iC _)=>r
def marksOf(β:Nat->Nat)(d:List Nat):List Deferred:=d.map λk => {target := .collected (β k),args := #[]}
def fm(β:Nat->Nat)(df:List (FuncId × List (Nat × Nat))):List Deferred:=df.map λx => {target := .fn (.func x.1) (x.2.map λc=>(.pointer (some ⟨β c.1,c.2,none⟩):Value)).toArray,args := #[]}
theorem FA{β ag:Nat->Nat}{n:Nat}{df:List (FuncId × List (Nat × Nat))}(h:∀x∈df,∀y∈x.2,y.1<n)(hb:∀k,k<n->ag k=β k):fm ag df=fm β df:=by
 simp only [fm];refine List.map_congr_left λx hx => ?_;congr 3;exact List.map_congr_left λy hy=>by rw [hb y.1 (h x hx y hy)]
structure Core(W:dN)(R:Nat->Loop)(Z:List Nat)(J:Env)(β:Nat->Nat)(st:St)(a:Act)(w:World):Prop where
 size:a.tmps.size=st.n
 tmps:∀i,aq st.t i ≠ .any->a.tmps[i]? = some ((aq st.t i).den J β)
 ja:a.defers=fm β st.df++marksOf β st.d
 below:cS W w
 mem:∀k e,aC st.m st.o k=some e->Holds W J β k e w
 inj:∀k k' e e' b,aC st.m st.o k=some e->aC st.m st.o k'=some e'->bu β k e=some b->bu β k' e'=some b->k=k'
 fb:∀k e,eC st.r k=some e->W.heap.size<=β k/\w.heap[β k]? = some (.loop (recAt (R k) e))
 iU:∀k k' e e',eC st.r k=some e->eC st.r k'=some e'->β k=β k'->k=k'
 fR:∀b∈Z++st.d.map β,W.heap.size<=b/\w.heap[b]? = some (.deferred (some []))
 dn:(Z++st.d.map β).Nodup
 wf:st.WF
 kn:bK.den st.k J
variable {R:Nat->Loop} {Z:List Nat}
theorem Ic{J:Env}{st:St}(h:bK.den st.k J){g:Nat}(hn:st.ev (.global g) ≠ .any)(β:Nat->Nat):Value.pointer (some ⟨g,0,none⟩)=(st.ev (.global g)).den J β:=by
  simp only [St.ev]at hn ⊢;generalize hf:mY st.k g=u at hn;cases u with
  |none=>exact (hn rfl).elim
  |some p =>
    have:=h _ (Fc hf)
    simp only [Kn.den]at this;show Value.pointer (some ⟨g,0,none⟩)=Value.pointer (some ⟨(J.p p).1,(J.p p).2+0*0+0,none⟩);rw [this]
theorem Core.eval{J:Env}{β:Nat->Nat}{st:St}{a:Act}{w:World}(h:Core W R Z J β st a w):∀x:Operand,st.ev x ≠ .any->a.eval x=(st.ev x).den J β
  | .tmp t,hn=>by
    have:=h.tmps t hn
    simp only [Act.eval,St.ev,Array.getD_eq_getD_getElem?,this,Option.getD_some]
  | .const v,hn=>((SV.cm v st.c J β).2 hn).symm
  | .global g,hn=>Ic h.kn hn β
  | .func _,hn=>rfl
theorem Core.ops{J:Env}{β:Nat->Nat}{st:St}{a:Act}{w:World}(h:Core W R Z J β st a w)(o:Oper):dt st o J β a:=λx _ hn=>h.eval x hn
theorem Core.fix{J:Env}{β:Nat->Nat}{st:St}{a:Act}{w:World}(h:Core W R Z J β st a w){k:Nat}{cs:List At}{t:TypeId}(hg:getM st.m k=some (cs,t)) :
  dT W (β k)/\w.heap[β k]? = some (.cells (cs.map (At.den J β)).toArray t):=h.mem k _ (nA hg)
theorem Core.au{J aa:Env}{β:Nat->Nat}{st:St}{a:Act}{w:World}(h:Core W R Z J β st a w)(hl:Env.au st.c J aa):Core W R Z aa β st a w where
 size:=h.size
 tmps i hn:=by
  rw [h.tmps i hn];exact congrArg some (SV.U hl (λ_ _=>rfl) (h.wf.t i)).symm
 ja:=h.ja
 below:=h.below
 mem k e hg:=(h.mem k e hg).eE (h.wf.dR hg) hl (λ_ _=>rfl) (λ_ _=>rfl)
 inj:=h.inj
 fb:=h.fb
 iU:=h.iU
 fR:=h.fR
 dn:=h.dn
 wf:=h.wf
 kn:=bK.U hl h.wf.k h.kn
theorem St.WF.grow{st:St}(h:st.WF){c:an}(hc:st.c.le c):({st with c:=c}:St).WF where
 t i:=SV.aH hc (h.t i)
 m k cs t hg:=⟨Nat.lt_of_lt_of_le (h.m k cs t hg).1 hc.k,yE hc (h.m k cs t hg).2⟩
 o k ce sz t hg:=⟨Nat.lt_of_lt_of_le (h.o k ce sz t hg).1 hc.k,yG hc (h.o k ce sz t hg).2⟩
 ap:=h.ap
 r k e hg:=Nat.lt_of_lt_of_le (h.r k e hg) hc.k
 d k hk:=Nat.lt_of_lt_of_le (h.d k hk) hc.k
 k:=bK.aH hc h.k
 df x hx y hy:=Nat.lt_of_lt_of_le (h.df x hx y hy) hc.k
structure xJ(W:dN)(s1 s':St)(J:Env)(C:List Nat)(β ag:Nat->Nat)(w w':World):Prop where
 os:w'.os=w.os
 tape:w'.tape=w.tape
 output:w'.output=w.output
 size:w.heap.size<=w'.heap.size
 frame:∀b,b<w.heap.size->(∀k e,k∈C->aC s1.m s1.o k=some e->bu β k e≠some b)->w'.heap[b]? = w.heap[b]?
 off:∀k,¬(s1.c.nk<=k/\k<s'.c.nk)->ag k=β k
 new:∀k e',(k∈C∨s1.c.nk<=k)->aC s'.m s'.o k=some e'->Holds W J ag k e' w'/\∀b,bu ag k e'=some b->w.heap.size<=b∨∃j e,j∈C/\aC s1.m s1.o j=some e/\bu β j e=some b/\(j=k∨aC s'.m s'.o j=none)
 inj:∀k k' e e' b,(k∈C∨s1.c.nk<=k)->(k'∈C∨s1.c.nk<=k')->aC s'.m s'.o k=some e->aC s'.m s'.o k'=some e'->bu ag k e=some b->bu ag k' e'=some b->k=k'
def wu(m:Mem)(o:aY)(l:List Nat)(β:Nat->Nat):Prop:=∀k k' e e' b,k∈l->k'∈l->aC m o k=some e->aC m o k'=some e'->bu β k e=some b->bu β k' e'=some b->k=k'
structure gS(P:Program)(W:dN)(s1:St)(o:Oper)(J:Env)(s':St)(sv:SV)(C:List Nat):Prop where
 kn:bK.den s1.k J->bK.den s'.k J
 FB:s'.df=s1.df
 n:s'.n=s1.n
 rs:s'.r=s1.r
 ds:s'.d=s1.d
 FC:s1.c.le s'.c
 wf:s'.WF
 slot:∀t,aq s'.t t=if o.dst=some t then sv else aq s1.t t
 dst:∀d,o.dst=some d->d<s1.n
 Ie:∀k∈C,k∈aL s1 o/\k<s1.c.nk
 same:∀k,k<s1.c.nk->k ∉ C->aC s'.m s'.o k=aC s1.m s1.o k
 ids:∀k e',(k∈C∨s1.c.nk<=k)->aC s'.m s'.o k=some e'->∀x∈dP e',x∈cN s1 o∨∃j e,j∈aP s1 o++aL s1 o/\aC s1.m s1.o j=some e/\x∈dP e
 Ow:∀(β:Nat->Nat) (a:Act) (w:World),cS W w->dt s1 o J β a->fj W s1.m s1.o (aP s1 o++aL s1 o) J β w->wu s1.m s1.o (aL s1 o) β ->
  ∀(next:Act->World->Prop) (Q':Exit->Act->World->Prop),(∀ag v w',(sv ≠ .any->v=sv.den J ag)->xJ W s1 s' J C β ag w w'->next (a.put o.dst v) w')->o.wp P a w next Q'
theorem xJ.below{s1 s':St}{J:Env}{C:List Nat}{β ag:Nat->Nat}{w w':World}(h:xJ W s1 s' J C β ag w w')(hB:cS W w)(hC:∀k e,k∈C->aC s1.m s1.o k=some e->Holds W J β k e w):cS W w' :=
 cS.mk (h.os.trans hB.os) (h.tape.trans hB.tape) (h.output.trans hB.output) (Nat.le_trans hB.size h.size) λb hb hl=>by
  rw [h.frame b (Nat.lt_of_lt_of_le hb hB.size) λk e hk hg jX => ?_]
  ·exact hB.block b hb hl
  ·rcases ((hC k e hk hg).uk b jX).1 with h1|h1
   ·exact hl h1
   ·omega
theorem xJ.other{s1 s':St}{J:Env}{C:List Nat}{β ag:Nat->Nat}{w w':World}(h:xJ W s1 s' J C β ag w w')(hC:∀k e,k∈C->aC s1.m s1.o k=some e->Holds W J β k e w){b:Nat}{o:Obj}(hb:w.heap[b]? = some o)
  (ho:¬Datum o):w'.heap[b]? = some o:=by
 rw [h.frame b (sj hb) λk e hk hg jX => ?_]
 ·exact hb
 ·obtain⟨_,_,o',hc,hd⟩:=(hC k e hk hg).uk b jX;rw [hb]at hc;cases hc;exact ho hd
theorem Ig{s1 s':St}{o:Oper}{J:Env}{sv:SV}{C:List Nat}{β:Nat->Nat}{a:Act}{w:World}(hC:Core W R Z J β s1 a w)(hF:gS P W s1 o J s' sv C){next:Act->World->Prop}(Q':Exit->Act->World->Prop)
    (hn:∀ag a' w',(∀k,k<s1.c.nk->ag k=β k)->Core W R Z J ag s' a' w'->next a' w'):o.wp P a w next Q':=by
  refine hF.Ow β a w hC.below (hC.ops o) (λk _ e hg=>hC.mem k e hg) (λk k' e e' b _ _=>hC.inj k k' e e' b) next Q' λag v w' hv hc => ?_
  have hb:∀k,k<s1.c.nk->ag k=β k:=λk hk=>hc.off k (by omega);have y_:∀k e,k∈C->aC s1.m s1.o k=some e->Holds W J β k e w:=λk e _ hg=>hC.mem k e hg
  have eB:∀{k e},¬(k∈C∨s1.c.nk<=k)->aC s'.m s'.o k=some e->aC s1.m s1.o k=some e:=λ{k e} hk hg=>by
    rw [<-hF.same k (by omega) (λh=>hk (.inl h))];exact hg
  have Ih:∀{k e},¬(k∈C∨s1.c.nk<=k)->aC s1.m s1.o k=some e->∀b,bu β k e=some b->w'.heap[b]? = w.heap[b]? := λ{k e} hk hg b jX=>by
    have hl:=(hC.mem k e hg).uk b jX;refine hc.frame b hl.2.1 λj e' hj eF Sm => ?_
    have:=hC.inj k j e e' b hg eF jX Sm
    exact hk (.inl (this▸hj))
  have mP:s1.d.map ag=s1.d.map β:=List.map_congr_left λk hk=>hb k (hC.wf.d k hk);refine hn ag _ w' hb ⟨by rw [Ia,hC.size,hF.n],λi hi => ?_, ?_,hc.below hC.below y_,λk e hg => ?_,λk k' e e' b hx hy jb kC => ?_,λk e hg => ?_,λk k' e e' hx hy he => ?_,λb oH => ?_, ?_,hF.wf,hF.kn hC.kn⟩
  · rw [hF.slot]at hi ⊢;by_cases hd:o.dst=some i
    · rw [if_pos hd]at hi ⊢;rw [hd,ed i (by rw [hC.size];exact hF.dst i hd),if_pos rfl,hv hi]
    · rw [if_neg hd]at hi ⊢
      have h1:(a.put o.dst v).tmps[i]? = a.tmps[i]? := by
        cases CS:o.dst with
        |none=>rfl
        |some d =>
          rw [ed i (by rw [hC.size];exact hF.dst d CS),if_neg (λe=>hd (by rw [CS,e]))]
      rw [h1,hC.tmps i hi,SV.U (Env.ah _ J) hb (hC.wf.t i)]
  · rw [Ib,hC.ja,hF.ds,hF.FB,FA hC.wf.df hb];simp only [marksOf];exact congrArg _ (List.map_congr_left λk hk=>by rw [hb k (hC.wf.d k hk)])
  · by_cases hk:k∈C∨s1.c.nk<=k
    · exact (hc.new k e hk hg).1
    · have mQ:=eB hk hg;exact (hC.mem k e mQ).eE (hC.wf.dR mQ) (Env.ah _ _) hb (Ih hk mQ)
  · have pg:∀ {k k' e e' b},(k∈C∨s1.c.nk<=k)->¬ (k'∈C∨s1.c.nk<=k')->aC s'.m s'.o k=some e->aC s'.m s'.o k'=some e'->bu ag k e=some b->bu ag k' e'=some b->False:=by
      intro k k' e e' b h1 h2 hx hy jb kC
      have vA:=eB h2 hy;rw [CR (hC.wf.dR vA) hb]at kC
      have hl:=(hC.mem k' e' vA).uk b kC
      rcases (hc.new k e h1 hx).2 b jb with h3|⟨j,ej,h3,h4,h5,_⟩
      · omega
      · have:=hC.inj j k' ej e' b h4 vA h5 kC
        exact h2 (.inl (this▸h3))
    by_cases h1:k∈C∨s1.c.nk<=k<;>by_cases h2:k'∈C∨s1.c.nk<=k'
    · exact hc.inj k k' e e' b h1 h2 hx hy jb kC
    · exact (pg h1 h2 hx hy jb kC).elim
    · exact (pg h2 h1 hy hx kC jb).elim
    · have Bn:=eB h1 hx;have vA:=eB h2 hy;rw [CR (hC.wf.dR Bn) hb]at jb;rw [CR (hC.wf.dR vA) hb]at kC
      exact hC.inj k k' e e' b Bn vA jb kC
  · rw [hF.rs]at hg;rw [hb k (hC.wf.r k e hg)];exact⟨(hC.fb k e hg).1,hc.other y_ (hC.fb k e hg).2 (λh=>h)⟩
  · rw [hF.rs]at hx hy;rw [hb k (hC.wf.r k e hx),hb k' (hC.wf.r k' e' hy)]at he;exact hC.iU k k' e e' hx hy he
  · rw [hF.ds,mP]at oH;exact⟨(hC.fR b oH).1,hc.other y_ (hC.fR b oH).2 (λh=>h)⟩
  · rw [hF.ds,mP];exact hC.dn
end Vc
