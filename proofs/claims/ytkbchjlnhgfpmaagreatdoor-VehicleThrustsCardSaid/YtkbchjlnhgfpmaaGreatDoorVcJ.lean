import Derived.Test.YtkbchjlnhgfpmaaGreatDoorVcG
import Derived.MapKept
import Derived.Laws.BytesString
import Derived.Laws.CopyOwn
import Derived.RangeFuncRecord
set_option linter.unusedVariables false
set_option linter.unusedSimpArgs false
namespace Vc
open Go Go.RowKit
variable {P:Program} {W:eJ} {Q:Value->Prop} {QM QP:World->Value->Prop}
theorem At.bC(U:Env)(β an:Nat->Nat):∀{a:At},a.flat=true->a.den U β=a.den U an:=by
 intro a h
 cases a<;>first
  |rfl
  | (simp [At.flat]at h;done)
  | (simp only [At.flat,List.isEmpty_iff]at h;subst h;rfl)
theorem DQ(U:Env)(β an:Nat->Nat){l:List At}(h:l.all At.flat=true):l.map (At.den U β)=l.map (At.den U an) :=
 List.map_congr_left λx hx=>At.bC U β an (List.all_eq_true.1 h x hx)
theorem Sg.bC(U:Env)(β an:Nat->Nat):∀{s:Sg},s.flat=true->s.den U β=s.den U an
 | .cu l,h=>DQ U β an h
 | .var i,_=>rfl
theorem B'(U:Env)(β an:Nat->Nat):∀{l:CE},gG l=true->aq U β l=aq U an l
  | [],_=>rfl
  |s::r,h=>by
    simp only [gG,List.all_cons,Bool.and_eq_true]at h;simp only [aq,Sg.bC U β an h.1,B' U β an (l:=r) h.2]
theorem CV.bC(U:Env)(β an:Nat->Nat):∀{c:CV},c.flat=true->c.den U β=c.den U an
 | .one a,h=>At.bC U β an h
 | .agg l,h=>by simp only [CV.den];rw [DQ U β an h]
theorem SV.bC(U:Env)(β an:Nat->Nat):∀{c:SV},fa c=true->c.den U β=c.den U an
  | .any,_=>rfl
  | .dX,_=>rfl
  | .cv c,h=>CV.bC U β an h
  | .cS l,h=>by
    simp only [SV.den];rw [List.map_congr_left λx hx=>CV.bC U β an (List.all_eq_true.1 h x hx)]
theorem yW{w:World}{b:Nat}{C:Array Value}{t:TypeId}{mk:Nat × Nat}(h:w.heap[b]? = some (.cells C t mk))(o:Nat):w.cell? ⟨b,o,none⟩=C[o]? := by
 simp [World.cell?,h]
theorem DR{t:TypeId}{n:Nat}(hz:aQ P t=some (true,n))(w:World)(b o:Nat)(cs:List Value)(hn:cs.length=n)(h:∀j v,cs[j]? = some v->w.cell? ⟨b,o+j,none⟩=some v) :
  (Instr.loadAt t (ptr b o)).run P w=.ok (.agg cs.toArray) w:=by
 subst hn
 have:=run_loadCells_list (P:=P) w ⟨b,o,none⟩ cs (λj v hj=>by rw [uR];exact h j v hj)
 simp only [Instr.loadAt,ptr,Instr.sureAddr,Sem.run_bind,Sem.run_pure,Result.andThen_ok,loadVar,IA hz,if_true,ri hz,this]
theorem DT{t:TypeId}{n:Nat}(hz:aQ P t=some (false,n))(w:World)(b o:Nat)(v:Value)(h:w.cell? ⟨b,o,none⟩=some v) :
  (Instr.loadAt t (ptr b o)).run P w=.ok v w:=by
 simp [Instr.loadAt,ptr,Instr.sureAddr,loadVar,IA hz,h]
theorem SX{p:Nat}{ix:IE}{sz:Nat}:∀ (ks:List CK) (off:Nat) (c:ar) {K:List At->ar->Env->Prop} {U:Env},ks.all CK.plain=true->p < c.np->ix.wf c=true ->
    pC (PA P W Q QM QP) p ix sz off ks c K U->∃l c' ag,K l c' ag/\c.le c'/\Env.aC c U ag/\l.length=ks.length /\
      ∀J,Env.aC c' ag J->∀β j a,l[j]? = some a->W.seen.cell? ⟨(J.p p).1,(J.p p).2+(ix.den J).toNat*sz+(off+j),none⟩=some (a.den J β)
  | [],off,c,K,U,_,_,_,h=>⟨[],c,U,h,ar.le_refl _,Env.ao _ _,rfl,λ_ _ _ j a hj=>by simp at hj⟩
  |k::ks,off,c,K,U,nF,hp,hi,h=>by
    simp only [List.all_cons,Bool.and_eq_true]at nF;obtain⟨a_,l1,h1,h2⟩:=vF [k] c h;have hle:=zq c k;obtain⟨l,c',ag,q1,q2,q3,q4,q5⟩:=SX ks (off+1) (bj c k) nF.2 (Nat.lt_of_lt_of_le hp hle.p) (IE.aU hle hi) h2;refine⟨bF c k::l,c',ag,q1,ar.le_trans hle q2,Env.aj hle l1 q3,by simp [q4],λJ hl β j a hj => ?_⟩;cases j with
    |zero =>
      simp only [List.getElem?_cons_zero,Option.some.injEq]at hj;subst hj;have l2:Env.aC (bj c k) a_ J:=Env.aj q2 q3 hl;have l3:Env.aC c U J:=Env.aj hle l1 l2;rw [l3.p p hp,IE.aa l3 hi,At.bC J β b0 (Iz c k nF.1),At.aa l2 (β:=b0) (λ_ _=>rfl) (Iy c k)];exact h1
    |succ j =>
      have:=q5 J hl β j a (by simpa using hj)
      rw [show off+(j+1)=off+1+j by omega];exact this
theorem Li{lo:Nat->Prop}{b code n base:Nat}{xs:List Value}{sz:Nat}{t:TypeId}{w:World}(h:gJ lo b code n base xs sz t w){i:Nat}{v:Value}(hi:xs[i]? = some v):w.cell? ⟨b,i,none⟩=some v:=by
 have hl:i<xs.length:=(List.getElem?_eq_some_iff.1 hi).1
 have hn:0<n:=by
  rcases Nat.eq_zero_or_pos n with h0|h0
  ·rw [h.1,h0]at hl;omega
  ·exact h0
 obtain⟨_,_,cur,h1,h2⟩:=SQ h hn;rw [yW h1];rw [<-h2,List.getElem?_take]at hi;split at hi
 ·simpa using hi
 ·cases hi
theorem SY{lo:Nat->Prop}{b code n base:Nat}{xs:List Value}{sz:Nat}{t:TypeId}{w:World}(h:bT lo b code n base xs sz t w)(hz:0<sz\/t=0){i:Nat}{v:Value}(hi:xs[i]? = some v):w.cell? ⟨b,i,none⟩=some v:=by
 rcases h with h|⟨h1,h2,h3,h4⟩
 ·exact Li h hi
 ·obtain rfl:t=0:=hz.resolve_left (by omega);obtain⟨_,C,ty,mk,h5,h6⟩:=h4
  have:w.cell? ⟨b,i,none⟩=C[i]? := by simp [World.cell?,h5]
  rw [this];rw [<-h6,List.getElem?_take]at hi;split at hi
  ·simpa using hi
  ·cases hi
theorem Lj{ce:CE}{ix:IE}{sz:Nat}:∀ (ks:List CK) (off:Nat) (c:ar) {K:List At->ar->Env->Prop} {U:Env},ks.all CK.plain=true->gG ce=true->cw c ce=true->ix.wf c=true ->
    tI (PA P W Q QM QP) ce ix sz off ks c K U->∃l c' ag,K l c' ag/\c.le c'/\Env.aC c U ag/\l.length=ks.length /\
      ∀J,Env.aC c' ag J->∀β j a,l[j]? = some a->(aq J β ce)[(ix.den J).toNat*sz+(off+j)]? = some (a.den J β)
  | [],off,c,K,U,_,_,_,_,h=>⟨[],c,U,h,ar.le_refl _,Env.ao _ _,rfl,λ_ _ _ j a hj=>by simp at hj⟩
  |k::ks,off,c,K,U,nF,hf,hp,hi,h=>by
    simp only [List.all_cons,Bool.and_eq_true]at nF;obtain⟨a_,l1,h1,h2⟩:=vF [k] c h;have hle:=zq c k;obtain⟨l,c',ag,q1,q2,q3,q4,q5⟩:=Lj ks (off+1) (bj c k) nF.2 hf (BV hle hp) (IE.aU hle hi) h2;refine⟨bF c k::l,c',ag,q1,ar.le_trans hle q2,Env.aj hle l1 q3,by simp [q4],λJ hl β j a hj => ?_⟩;cases j with
    |zero =>
      simp only [List.getElem?_cons_zero,Option.some.injEq]at hj;subst hj;have l2:Env.aC (bj c k) a_ J:=Env.aj q2 q3 hl;have l3:Env.aC c U J:=Env.aj hle l1 l2;rw [B' J β b0 hf,vC l3 (β:=b0) (λ_ _=>rfl) hp,IE.aa l3 hi,At.bC J β b0 (Iz c k nF.1),At.aa l2 (β:=b0) (λ_ _=>rfl) (Iy c k)];exact h1
    |succ j =>
      have:=q5 J hl β j a (by simpa using hj)
      rw [show off+(j+1)=off+1+j by omega];exact this
theorem SZ{ce:CE}{ix:IE}{sz off:Nat}{cs:List At}{p:Nat}(h:ia ce ix sz off=some (cs,p)):(∀U,(ix.den U).toNat*sz+off=p)/\∀U β,aq U β ce=cs.map (At.den U β):=by
 unfold ia at h;split at h
 ·rename_i j jt h1;simp only [Option.some.injEq,Prod.mk.injEq]at h;obtain⟨rfl,rfl⟩:=h;exact⟨λ_=>rfl,λU β=>EC U β h1⟩
 ·cases h
theorem Wx{m:Mem}{o:bA}(lg:lf m o){c:ar}{t:TypeId}{x:SV}{K:SV->ar->Env->Prop}{U:Env}(h:nc (PA P W Q QM QP) P m o c t x K U) :
    cP c U K λsv J=>x ≠ .any/\sv ≠ .any/\∀β w,dT W w->fV W m o (aE (aV x)) J β w->(Instr.loadAt t (x.den J β)).run P w=.ok (sv.den J β) w:=by
  unfold nc at h;generalize hz:aQ P t=u1 at h;split at h
  · exact h.elim
  · rename_i g n;split at h
    · rename_i k ix sz off;generalize jr:aO o k=u2 at h;split at h
      · exact h.elim
      · rename_i ce s0 ty;split at h;rotate_left
        · exact h.elim
        rename_i vG;generalize gV:ia ce ix sz off=u3 at h;split at h
        · rename_i cs p;obtain⟨e1,e2⟩:=SZ gV
          have cell:∀(J:Env) (β:Nat->Nat) (w:World),fV W m o (aE (aV (.cv (.one (.fQ k ix sz off))))) J β w->∀(j:Nat) (a:At),cs[j]? = some a->w.cell? ⟨β k,j,none⟩=some (a.den J β):=by
            intro J β w hr j a hj;have bD:=hr k (by simp [aV,CV.cells,aE]) _ (lb (lg k _ jr) jr);exact SY bD vG (by rw [e2];simp [hj])
          split at h
          · rename_i hg;subst hg;split at h
            · rename_i hb;refine cP.pure h λJ _=>⟨by simp,by simp,λβ w hB hr => ?_⟩
              have:=DR hz w (β k) p (((cs.drop p).take n).map (At.den J β)) (by simp;omega) (λj v hj=>by
                simp only [List.getElem?_map,Option.map_eq_some_iff]at hj;obtain⟨a,ha,rfl⟩:=hj
                have yX:j<n:=by
                  rcases Nat.lt_or_ge j n with h'|h'
                  · exact h'
                  · rw [List.getElem?_eq_none (by simp;omega)]at ha;cases ha
                rw [List.getElem?_take_of_lt yX,List.getElem?_drop]at ha;exact cell J β w hr _ a ha)
              show (Instr.loadAt t (ptr (β k) ((ix.den J).toNat*sz+off))).run P w=_;rw [e1];exact this
            · exact h.elim
          · rename_i hg;have fx:g=false:=by simpa using hg
            subst fx;generalize hc:cs[p]? = u4 at h;split at h
            · rename_i a;refine cP.pure h λJ _=>⟨by simp,by simp,λβ w hB hr => ?_⟩;show (Instr.loadAt t (ptr (β k) ((ix.den J).toNat*sz+off))).run P w=_;rw [e1];exact DT hz w (β k) p (a.den J β) (cell J β w hr p a hc)
            · exact h.elim
        · generalize hk:wc P 30 t=u4 at h;split at h
          · exact h.elim
          · rename_i ks;by_cases hc:ks.length=(if g=true then n else 1)/\ks.all CK.plain=true/\gG ce=true/\cw c ce=true/\ix.wf c=true
            · rw [if_pos hc]at h;obtain⟨hl,nF,hf,hp,hi⟩:=hc;obtain⟨l,c',ag,q1,q2,q3,q4,q5⟩:=Lj ks off c nF hf hp hi h;refine⟨_,c',ag,q1,q2,q3,λJ dE=>⟨by simp,by simp,λβ w hB hr => ?_⟩⟩
              have key:∀j v,(l.map (At.den J β))[j]? = some v->w.cell? ⟨β k,(ix.den J).toNat*sz+off+j,none⟩=some v:=by
                intro j v hj;simp only [List.getElem?_map,Option.map_eq_some_iff]at hj;obtain⟨a,ha,rfl⟩:=hj;have bD:=hr k (by simp [aV,CV.cells,aE]) _ (lb (lg k _ jr) jr);rw [Nat.add_assoc];exact SY bD vG (q5 J dE β j a ha)
              cases g with
              |true =>
                have:=DR hz w _ _ (l.map (At.den J β)) (by simpa [q4]using hl) key
                cases l<;>exact this
              |false =>
                simp only [Bool.false_eq_true,if_false]at hl;rw [hl]at q4
                match l,q4 with
                | [a],_=>exact DT hz w _ _ (a.den J β) (by simpa using key 0 _ rfl)
            · rw [if_neg hc]at h;exact h.elim
    · rename_i k off;generalize hm:getM m k=u2 at h;split at h
      · exact h.elim
      · rename_i cs ty;split at h
        · rename_i hg;subst hg;split at h
          · rename_i hb;refine cP.pure h λJ _=>⟨by simp,by simp,λβ w hB hr => ?_⟩;obtain⟨_,hh⟩:=hr k (by simp [aV,CV.cells,aE]) _ (o5 hm)
            have:=DR hz w (β k) off (((cs.drop off).take n).map (At.den J β)) (by simp;omega) (λj v hj=>by
              rw [yW hh];simp only [List.getElem?_map,Option.map_eq_some_iff]at hj;obtain⟨a,ha,rfl⟩:=hj
              have yX:j<n:=by
                rcases Nat.lt_or_ge j n with h'|h'
                · exact h'
                · rw [List.getElem?_eq_none (by simp;omega)]at ha;cases ha
              rw [List.getElem?_take_of_lt yX,List.getElem?_drop]at ha;simp [ha])
            exact this
          · exact h.elim
        · rename_i hg;have fx:g=false:=by simpa using hg
          subst fx;generalize hc:cs[off]? = u3 at h;split at h
          · rename_i a;refine cP.pure h λJ _=>⟨by simp,by simp,λβ w hB hr => ?_⟩;obtain⟨_,hh⟩:=hr k (by simp [aV,CV.cells,aE]) _ (o5 hm);exact DT hz w (β k) off (a.den J β) (by rw [yW hh];simp [hc])
          · exact h.elim
    · rename_i p ix sz off;generalize hk:wc P 30 t=u2 at h;split at h
      · exact h.elim
      · rename_i ks;by_cases hc:ks.length=(if g=true then n else 1)/\ks.all CK.plain=true/\p<c.np/\ix.wf c=true
        · rw [if_pos hc]at h;obtain⟨hl,nF,hp,hi⟩:=hc;obtain⟨l,c',ag,q1,q2,q3,q4,q5⟩:=SX ks off c nF hp hi h;refine⟨_,c',ag,q1,q2,q3,λJ dE=>⟨by simp,by simp,λβ w hB hr => ?_⟩⟩
          have key:∀j v,(l.map (At.den J β))[j]? = some v->w.cell? ⟨(J.p p).1,(J.p p).2+(ix.den J).toNat*sz+off+j,none⟩=some v:=by
            intro j v hj;simp only [List.getElem?_map,Option.map_eq_some_iff]at hj;obtain⟨a,ha,rfl⟩:=hj;have h1:=q5 J dE β j a ha;rw [<-Nat.add_assoc]at h1;exact hB.cell h1
          cases g with
          |true =>
            have:=DR hz w _ _ (l.map (At.den J β)) (by simpa [q4]using hl) key
            cases l<;>exact this
          |false =>
            simp only [Bool.false_eq_true,if_false]at hl;rw [hl]at q4
            match l,q4 with
            | [a],_=>exact DT hz w _ _ (a.den J β) (by simpa using key 0 _ rfl)
        · rw [if_neg hc]at h;exact h.elim
    · exact h.elim
theorem Wy{m:Mem}{o:bA}(lg:lf m o){c:ar}{U J:Env}{β:Nat->Nat}{w:World}(hl:Env.aC c U J)(hw:∀ k ce sz t,aO o k=some (ce,sz,t)->cw c ce=true) :
    ∀(cu:List At),fV W m o (aE cu) J β w->wL W U β (eH o cu) w:=by
  intro cu
  induction cu with
  |nil=>exact λ_=>trivial
  |cons a r ih =>
    intro h;have skip:∀{k},aE (a::r)=k::aE r->wL W U β (eH o r) w:=λhe=>ih λj hj=>h j (by rw [he];exact List.mem_cons_of_mem _ hj)
    cases a<;>first
      |exact ih h
      |exact skip rfl
      |skip
    rename_i k;simp only [eH];have hr:fV W m o (aE r) J β w:=λj hj=>h j (by simp [aE,hj]);cases hg:aO o k with
    |none=>exact ih hr
    |some v =>
      obtain⟨ce,sz,t⟩:=v
      have:=h k (by simp [aE]) _ (lb (lg k _ hg) hg)
      refine⟨?_,ih hr⟩;rw [<-vC hl (β:=β) (λ_ _=>rfl) (hw k ce sz t hg)];exact this
theorem Ca{m:Mem}{o:bA}(lg:lf m o){c:ar}{U J:Env}{β:Nat->Nat}{w:World}(hl:Env.aC c U J)(hw:∀ k cs t,getM m k=some (cs,t)->cs.all (At.wf c)=true)
    (IJ:∀k ce sz t,aO o k=some (ce,sz,t)->cw c ce=true) :
    ∀(cu:List At),fV W m o (aE cu) J β w->nE W U β (dY m cu) (eH o cu) w:=by
  have main:∀(cu:List At) (o':bA),wL W U β o' w->fV W m o (aE cu) J β w->nE W U β (dY m cu) o' w:=by
    intro cu o' Wz
    induction cu with
    |nil=>exact λ_=>Wz
    |cons a r ih =>
      intro h
      have step:∀ k,(∀ j∈k::aE r,∀ e,aM m o j=some e->Holds W J β j e w) ->
          nE W U β (match getM m k with|some v=>(k,v)::dY m r|none=>dY m r) o' w:=by
        intro k hk;have hr:fV W m o (aE r) J β w:=λj hj=>hk j (by simp [hj]);cases hg:getM m k with
        |none=>exact ih hr
        |some v =>
          obtain⟨cs,t⟩:=v;obtain⟨h1,h2⟩:=hk k (by simp) _ (o5 hg);rw [yJ hl (β:=β) (λ_ _=>rfl) (hw k cs t hg)]at h2;exact⟨⟨h1,h2⟩,ih hr⟩
      have skip:∀{k},aE (a::r)=k::aE r->nE W U β (dY m r) o' w:=λhe=>ih λj hj=>h j (by rw [he];exact List.mem_cons_of_mem _ hj)
      cases a<;>first
        |exact step _ h
        |exact ih h
        |exact skip rfl
  exact λcu h=>main cu _ (Wy lg hl IJ cu h) h
theorem IK:∀(l:List TypeId) {ss:List (Bool × List CK)},iA P l=some ss->(cj ss).all CK.plain=true
  | [],ss,h=>by simp only [iA,Option.some.injEq]at h;subst h;rfl
  |t::l,ss,h=>by
    simp only [iA]at h;split at h
    · split at h
      · rename_i ks r _ _ h3 hc;simp only [Option.some.injEq]at h;subst h;simp only [cj,List.all_append,Bool.and_eq_true];exact⟨hc.2,IK l h3⟩
      · cases h
    · cases h
theorem DU:∀(ss:List (Bool × List CK)) (l:List At),l.all At.flat=true->(bS ss l).all CV.flat=true
  | [],_,_=>rfl
  | (g,ks)::r,l,h=>by
    have h1:(l.take ks.length).all At.flat=true:=List.all_eq_true.2 λx hx=>List.all_eq_true.1 h x (List.mem_of_mem_take hx);have h2:(l.drop ks.length).all At.flat=true:=List.all_eq_true.2 λx hx=>List.all_eq_true.1 h x (List.mem_of_mem_drop hx);simp only [bS,List.all_cons,DU r _ h2,Bool.and_true];unfold eG;split
    · rename_i a ha;rw [ha]at h1;simpa [CV.flat]using h1
    · exact h1
theorem DV(c:ar):∀(ss:List (Bool × List CK)) (l:List At),l.all (At.wf c)=true->(bS ss l).all (CV.wf c)=true
  | [],_,_=>rfl
  | (g,ks)::r,l,h=>by
    have h1:(l.take ks.length).all (At.wf c)=true:=List.all_eq_true.2 λx hx=>List.all_eq_true.1 h x (List.mem_of_mem_take hx);have h2:(l.drop ks.length).all (At.wf c)=true:=List.all_eq_true.2 λx hx=>List.all_eq_true.1 h x (List.mem_of_mem_drop hx);simp only [bS,List.all_cons,DV c r _ h2,Bool.and_true];unfold eG;split
    · rename_i a ha;rw [ha]at h1;simpa [CV.wf]using h1
    · exact h1
theorem E4{cs:List CV}(h:cs.all CV.flat=true):fa (cJ cs)=true:=by
 unfold cJ;split
 ·simpa [fa]using h
 ·exact h
theorem DW{c:ar}{cs:List CV}(h:cs.all (CV.wf c)=true):(cJ cs).wf c=true:=by
 unfold cJ;split
 ·simpa [SV.wf]using h
 ·exact h
theorem DX(cs:List CV):cJ cs ≠ .any:=by
 unfold cJ;split<;>simp
structure bV.Ok(G:bV):Prop where
 calls:∀f,G.calls.contains f=true->∀args w,(callFunc f args).run G.P w=.ok (.enter f args) w
 inl:∀f,G.inl.contains f=true->∀args w,(callFunc f args).run G.P w=.ok (.enter f args) w
 jm:∀e∈G.jm,∀(A:bX (Env->Prop)) (yl:Yl (Env->Prop)) (K:Ex->St->Env->Prop) (K':SV->St->Env->Prop),mA A G (exec A G e.n) yl K e.f e.args e.s K'=jB A e.asks (K' e.v e.s')
def E5(G:bV)(W:eJ)(m:Mem)(o:bA)(f:FuncId)(args:List SV)(sv:SV)(U:Env):Prop :=
  sv ≠ .any/\(∀x∈args,x ≠ .any)/\∀β w,dT W w->fV W m o (aE (cC m o args)) U β w ->
    ((callFunc f (args.map (SV.den U β)).toArray).run G.P w=.ok (.value (sv.den U β)) w \/
     ((callFunc f (args.map (SV.den U β)).toArray).run G.P w=.ok (.enter f (args.map (SV.den U β)).toArray) w/\Calls G.P f (args.map (SV.den U β)).toArray w (aI (sv.den U β) w)))
theorem S0{G:bV}(hG:G.Ok){m:Mem}{o:bA}(lg:lf m o){c:ar}{f:FuncId}{args:List SV}{K:SV->ar->Env->Prop}{U:Env}(hw:∀ k cs t,getM m k=some (cs,t)->cs.all (At.wf c)=true)(IJ:∀ k ce sz t,aO o k=some (ce,sz,t)->cw c ce=true)
    (h:lF (PA G.P W Q QM QP) G m o c f args K U):cP c U K (E5 G W m o f args):=by
  unfold lF at h;generalize hf:G.P.funcs[f]? = u1 at h;split at h
  · exact h.elim
  · rename_i fn;generalize hs:iA G.P fn.resultTypes.toList=u2 at h;split at h
    · exact h.elim
    · rename_i ss;split at h
      · exact h.elim
      · rename_i ha;simp only [not_or,Decidable.not_not]at ha;obtain⟨rj,pO⟩:=ha
        have fw:∀x∈args,x ≠ .any:=by
          intro x hx he;subst he;exact rj (List.any_eq_true.2 ⟨_,hx,rfl⟩)
        have kp:fa (cJ (bS ss (av c (cj ss))))=true:=E4 (DU _ _ (EU _ _ (IK _ hs)));have ja:(cJ (bS ss (av c (cj ss)))).wf (aY c (cj ss))=true:=DW (DV _ _ _ (B8 _ _));have hle:=yi (cj ss) c
        have fM:∀{a_ J:Env} (β:Nat->Nat),Env.aC c a_ J->args.map (SV.den J β)=args.map (SV.den a_ β):=λβ hl =>
          List.map_congr_left λx hx=>SV.aa hl (λ_ _=>rfl) (List.all_eq_true.1 pO x hx)
        have mR:∀(a_:Env) (β:Nat->Nat),args.all fa=true->args.map (SV.den a_ β)=args.map (SV.den a_ b0):=λa_ β hl =>
          List.map_congr_left λx hx=>SV.bC a_ β b0 (List.all_eq_true.1 hl x hx)
        split at h
        · generalize tM G f args=u3 at h;cases u3 with
          |some l =>
            simp only at h;split at h
            · rename_i gj;obtain⟨gj,qC⟩:=gj;have kp:fa (cJ (bS ss l))=true:=E4 (DU _ _ qC);have ja:(cJ (bS ss l)).wf c=true:=DW (DV _ _ _ gj);obtain⟨⟨h1,h2⟩,h3⟩:=h;refine⟨_,_,U,h3,ar.le_refl _,Env.ao _ _,λJ l3=>⟨DX _,fw,λβ w hB hr=>.inl ?_⟩⟩;rw [fM β l3,mR U β h1,SV.bC J β b0 kp,SV.aa l3 (β:=b0) (λ_ _=>rfl) ja];exact h2 w
            · exact h.elim
          |none =>
          obtain⟨a_,l1,⟨h1,h2⟩,h3⟩:=vF _ c h;refine⟨_,_,a_,h3,hle,l1,λJ hl=>⟨DX _,fw,λβ w hB hr=>.inl ?_⟩⟩;have l3:Env.aC c U J:=Env.aj hle l1 hl;rw [fM β l3,mR U β h1,SV.bC J β b0 kp,SV.aa hl (β:=b0) (λ_ _=>rfl) ja];exact h2 w
        · split at h
          · rename_i hc;generalize tK G f args (cj ss)=u3 at h;cases u3 with
            |some l =>
              simp only at h;split at h
              · rename_i gj;obtain⟨gj,qC⟩:=gj;have kp:fa (cJ (bS ss l))=true:=E4 (DU _ _ qC);have ja:(cJ (bS ss l)).wf c=true:=DW (DV _ _ _ gj);obtain⟨h1,h3⟩:=h;refine⟨_,_,U,h3,ar.le_refl _,Env.ao _ _,λJ l3=>⟨DX _,fw,λβ w hB hr=>.inr ⟨hG.calls f hc _ w, ?_⟩⟩⟩;rw [SV.bC J β b0 kp,SV.aa l3 (β:=b0) (λ_ _=>rfl) ja];split at h1
                · rename_i Lk;rw [fM β l3,mR U β Lk];exact h1 w hB
                · rw [fM β l3];exact h1 β w hB (Ca lg l3 hw IJ _ hr)
              · exact h.elim
            |none =>
              obtain⟨a_,l1,h1,h3⟩:=vF _ c h;refine⟨_,_,a_,h3,hle,l1,λJ hl=>⟨DX _,fw,λβ w hB hr=>.inr ⟨hG.calls f hc _ w, ?_⟩⟩⟩;have l3:Env.aC c U J:=Env.aj hle l1 hl;rw [SV.bC J β b0 kp,SV.aa hl (β:=b0) (λ_ _=>rfl) ja];split at h1
              · rename_i Lk;rw [fM β l3,mR U β Lk];exact h1 w hB
              · rw [fM β l3];exact h1 β w hB (Ca lg l3 hw IJ _ hr)
          · exact h.elim
end Vc
set_option linter.unusedVariables false
namespace Vc
open Go Go.RowKit
variable {P:Program} {W:eJ} {Q:Value->Prop} {QM QP:World->Value->Prop}
theorem lK(em:Bool)(d:Nat):∀ (n:Nat) (t:TypeId) (ks:List CK),kB P n t=some ks->∀ (U:Env) (β:Nat->Nat) (xs:List At) (x:Value) (w:World),xs.length=ks.length->la P t U β x xs ->
    (Instr.checkKey em (d+n) t x).run P w=.ok () w
  |0,_,_,h=>by cases h
  |n+1,t,ks,h=>by
    intro U β xs x w hl hx;simp only [kB]at h;cases hu:P.underlying t with
    |none=>simp [hu]at h
    |some dd =>
      simp only [hu]at h;simp only [la,hu]at hx;rw [show d+(n+1)=(d+n)+1 from rfl,Instr.checkKey];simp only [Sem.run_bind,run_underlying hu,Result.andThen_ok];cases dd<;>simp only [reduceCtorEq,Option.some.injEq]at h
      case int k=>rfl
      case bool=>rfl
      case string=>rfl
      case struct fs =>
        subst hx;split at h
        · cases h
        · simp only [];rw [<-Array.forIn_toList];have gx:(xs.drop 0).length=ks.length:=by simpa using hl
          generalize fs.toList=L at h ⊢;generalize 0=off at h gx;clear hl hu
          induction L generalizing off ks with
          |nil=>simp
          |cons fd r ih =>
            simp only [uN]at h;split at h
            · cases h
            · rename_i hn;simp only [not_or,Decidable.not_not]at hn;obtain⟨hn,ho⟩:=hn;split at h
              · rename_i k1 g n' h1 h2;split at h
                · rename_i oC;simp only [Option.map_eq_some_iff]at h;obtain⟨k2,h3,rfl⟩:=h;simp only [List.length_append,List.length_drop]at gx;subst oC;have mC:((xs.drop off).take k1.length).length=k1.length:=by simp only [List.length_take,List.length_drop];omega
                  obtain⟨v,p1,v1⟩:=DN (U:=U) (β:=β) h2 xs off (λhg=>IC _ _ _ h1 _ _ h2 hg) mC w;have r1:=lK em d n fd.type k1 h1 U β _ v w mC v1;have r2:=ih (off:=off+k1.length) (ks:=k2) h3 (by simp only [List.length_drop];omega);subst ho;simp only [List.forIn_cons,Sem.run_bind,hn,ne_eq,not_false_eq_true,if_true,p1,r1,Result.andThen_ok,Sem.run_pure];simpa only [Sem.run_bind,Sem.run_pure,ne_eq]using r2
                · cases h
              · cases h
      case array m el =>
        subst hx;split at h
        · rename_i k1 g s h1 h2;split at h
          · rename_i hs;subst hs;simp only [Option.some.injEq]at h;subst h;simp only [Std.Legacy.Range.forIn_eq_forIn_range',Std.Legacy.Range.size,Nat.sub_zero,Nat.add_one_sub_one,Nat.div_one]
            have tl:∀m,(times k1 m).length=m*k1.length:=by
              intro m
              induction m with
              |zero=>simp [times]
              |succ m ih=>simp only [times,List.length_append,ih,Nat.succ_mul];omega
            rw [tl]at hl;have hi:(0+m)*k1.length<=xs.length:=by rw [Nat.zero_add,hl];exact Nat.le_refl _
            clear hl hu;generalize 0=i at hi ⊢
            induction m generalizing i with
            |zero=>simp
            |succ c ih =>
              have e1:(i+1+c)*k1.length<=xs.length:=by rw [show i+1+c=i+(c+1) by omega];exact hi
              have e2:i*k1.length+k1.length<=xs.length:=by
                have:(i+1)*k1.length<=(i+(c+1))*k1.length:=Nat.mul_le_mul_right _ (by omega)
                rw [Nat.succ_mul]at this;omega
              have mC:((xs.drop (i*k1.length)).take k1.length).length=k1.length:=by simp only [List.length_take,List.length_drop];omega
              obtain⟨v,p1,v1⟩:=DN (U:=U) (β:=β) h2 xs (i*k1.length) (λhg=>IC _ _ _ h1 _ _ h2 hg) mC w;have r1:=lK em d n el k1 h1 U β _ v w mC v1;have r2:=ih (i+1) e1;rw [List.range'_succ];simp only [List.forIn_cons,Sem.run_bind,ri h2,p1,r1,Result.andThen_ok,Sem.run_pure];simpa only [Sem.run_bind,Sem.run_pure]using r2
          · cases h
        · cases h
theorem S1{n:Nat}{t:TypeId}{dd:TypeDesc}{ks:List CK}(hu:P.underlying t=some dd)(h:kB P n t=some ks){U:Env}{β:Nat->Nat}{xs ys:List At}{e:BE}{x y:Value}(he:bo ks xs ys=some e)
    (hx:la P t U β x xs) (hy:la P t U β y ys):Instr.sameNow dd x y=none\/Instr.sameNow dd x y=some (e.den U):=by
  cases n with
  |zero=>cases h
  |succ n =>
    simp only [kB,hu]at h;simp only [la,hu]at hx hy;cases dd<;>simp only [reduceCtorEq,Option.some.injEq]at h
    case int k =>
      subst h;obtain⟨a,rfl,rfl⟩:=hx;obtain⟨b,rfl,rfl⟩:=hy;obtain⟨a0,x,b1,y,e1,e2,p1,p2,h1,h2,rfl⟩:=yV he;cases p1;cases p2;simp only [bo,Option.some.injEq]at h2;subst h2;simp only [fI]at h1;split at h1
      · split at h1
        · rename_i hk;simp only [Option.some.injEq]at h1;subst h1;obtain⟨rfl,rfl⟩:=hk;right;simp only [At.den,BE.den,iz,Bool.and_true,Instr.sameNow,if_true]
          try rfl
        · cases h1
      · cases h1
    case bool =>
      subst h;obtain⟨a,rfl,rfl⟩:=hx;obtain⟨b,rfl,rfl⟩:=hy;obtain⟨a0,x,b1,y,e1,e2,p1,p2,h1,h2,rfl⟩:=yV he;cases p1;cases p2;simp only [bo,Option.some.injEq]at h2;subst h2;simp only [fI]at h1;split at h1
      · simp only [Option.some.injEq]at h1;subst h1;right;simp only [At.den,BE.den,Bool.and_true,Instr.sameNow]
      · cases h1
    case string =>
      subst h;obtain⟨a,rfl,rfl⟩:=hx;obtain⟨b,rfl,rfl⟩:=hy;obtain⟨a0,x,b1,y,e1,e2,p1,p2,h1,h2,rfl⟩:=yV he;cases p1;cases p2;simp only [bo,Option.some.injEq]at h2;subst h2;simp only [fI]at h1;split at h1
      · rename_i p q hp hq;simp only [Option.some.injEq]at h1;subst h1;rw [yj hp,yj hq];right;simp only [BE.den,Bool.and_true,Instr.sameNow];congr 1;rw [Bool.eq_iff_iff,Go.MapKept.bytes_beq,EW];simp
      · cases h1
    case struct fs=>exact .inl rfl
    case array m el=>exact .inl rfl
theorem Ll(U:Env)(β:Nat->Nat):∀ {ks:List CK} {xs ys:List At} {e:BE},bo ks xs ys=some e->e.den U=true ->
    xs.map (At.den U β)=ys.map (At.den U β)/\∀v∈xs.map (At.den U β),∀n,Instr.sameBits (n+1) v v=true
  | [],xs,ys,e,h,he=>by
    have:=DM U h
    have h1:xs=[]:=List.eq_nil_of_length_eq_zero this.1;have h2:ys=[]:=List.eq_nil_of_length_eq_zero this.2;subst h1 h2;exact⟨rfl,λv hv=>by cases hv⟩
  |k::r,xs,ys,e,h,he=>by
    obtain⟨a,x,b,y,e1,e2,rfl,rfl,h1,h2,rfl⟩:=yV h;simp only [BE.den,Bool.and_eq_true]at he;obtain⟨q1,q2⟩:=Ll U β h2 he.2
    have one:a.den U β=b.den U β/\∀n,Instr.sameBits (n+1) (a.den U β) (a.den U β)=true:=by
      have Cb:=he.1;cases k with
      |int k =>
        simp only [fI]at h1;split at h1
        · split at h1
          · rename_i hk;simp only [Option.some.injEq]at h1;subst h1;obtain⟨rfl,rfl⟩:=hk;simp only [BE.den,iz,decide_eq_true_eq,beq_iff_eq]at Cb;simp only [At.den];exact⟨by rw [Cb],λn=>by simp [Instr.sameBits]⟩
          · cases h1
        · cases h1
      |bool =>
        simp only [fI]at h1;split at h1
        · simp only [Option.some.injEq]at h1;subst h1;simp only [BE.den,beq_iff_eq]at Cb;simp only [At.den];exact⟨by rw [Cb],λn=>by simp [Instr.sameBits]⟩
        · cases h1
      |str =>
        simp only [fI]at h1;split at h1
        · rename_i p q hp hq;simp only [Option.some.injEq]at h1;subst h1;simp only [BE.den,decide_eq_true_eq,beq_iff_eq]at Cb;rw [yj hp,yj hq];exact⟨by rw [Cb],λn=>by simp only [Instr.sameBits];exact (Go.MapKept.bytes_beq _ _).2 rfl⟩
        · cases h1
      |vD=>simp [fI]at h1
      |sl sz=>simp [fI]at h1
      |own sz t=>simp [fI]at h1
    refine⟨by simp only [List.map_cons,one.1,q1],λv hv n => ?_⟩;simp only [List.map_cons,List.mem_cons]at hv;rcases hv with rfl|hv
    · exact one.2 n
    · exact q2 v hv n
theorem S2{v:Value}(h:v.oneCell'=true):v.cells=#[v]:=by
 cases v<;>first|rfl|cases h
theorem E6{t:TypeId}{g:Bool}{n:Nat}(hz:aQ P t=some (g,n)){v:Value}(h:dJ (cZ g n) v){xs:List At}{U:Env}{β:Nat->Nat}(hx:v.cells.toList=xs.map (At.den U β)) :
    la P t U β v xs/\v=(eG g xs).den U β/\xs.length=n:=by
  obtain⟨d,i,h1,h2,rfl,hg⟩:=wM hz;cases g with
  |true =>
    simp only [dJ,cZ,if_true]at h;rw [if_pos (by omega)]at h;obtain⟨cs,rfl,hs⟩:=h;have hc:cs=(xs.map (At.den U β)).toArray:=by apply Array.ext';simpa [Value.cells]using hx
    have hl:xs.length=i.size:=by
      have:cs.size=xs.length:=by rw [hc];simp
      omega
    refine⟨?_, ?_,hl⟩
    · unfold la;rw [h1];cases d<;>simp only [reduceCtorEq,Bool.true_eq_false]at hg<;>rw [hc]
    · rw [hc];cases xs with
      |nil=>rfl
      |cons a r=>rfl
  |false =>
    simp only [dJ,cZ,Bool.false_eq_true,if_false,Nat.add_zero]at h;rw [if_neg (by omega)]at h;obtain⟨h3,h4⟩:=h;rw [S2 h3]at hx
    match xs,hx with
    | [a],hx =>
      simp only [List.map_cons,List.map_nil,List.cons.injEq,and_true]at hx;refine⟨?_,hx,by simp only [List.length_cons,List.length_nil];omega⟩;unfold la;rw [h1];cases d<;>simp only [reduceCtorEq,Bool.false_eq_true]at hg<;>exact⟨a,rfl,hx⟩
theorem uS{g:Bool}{n:Nat}{v:CV}(h:oz g n v=true)(U:Env)(β:Nat->Nat):dJ (cZ g n) (v.den U β)/\v.cells.length=n:=by
  cases v with
  |one a =>
    simp only [oz,Bool.and_eq_true,Bool.not_eq_true',decide_eq_true_eq]at h;obtain⟨rfl,rfl⟩:=h;exact⟨by simp only [dJ,cZ,Bool.false_eq_true,if_false];rw [if_neg (by omega)];exact⟨At.hJ U β a,trivial⟩,rfl⟩
  |agg l =>
    simp only [oz,Bool.and_eq_true,decide_eq_true_eq]at h;obtain⟨rfl,rfl⟩:=h;refine⟨?_,rfl⟩;simp only [dJ,cZ,if_true];rw [if_pos (by omega)];exact⟨_,rfl,by simp;omega⟩
theorem ym{t:TypeId}{x:hZ}(h:gg P t=some x):P.underlying t=some (.map x.key x.el)/\kB P 30 x.key=some x.ks/\aQ P x.key=some (x.gk,x.ks.length)/\aQ P x.el=some (x.ge,x.ne) /\
  0<x.ks.length/\0<x.no/\x.no / 1048576=cZ x.gk x.ks.length/\x.no % 1048576=cZ x.ge x.ne:=by
 unfold gg at h;split at h
 ·rename_i key el hu;split at h
  ·rename_i ks gk nk ge ne h1 h2 h3;split at h
   ·rename_i hc;simp only [Option.some.injEq]at h;subst h;obtain⟨rfl,c1,c2,c3⟩:=hc;have b1:cZ ge ne<1048576:=by unfold cZ;split<;>omega
    have b2:0<cZ gk ks.length:=by unfold cZ;omega
    refine⟨hu,h1,h2,h3,c1, ?_, ?_, ?_⟩<;>simp only [hZ.no]<;>omega
   ·cases h
  ·cases h
 ·cases h
def o6(P:Program)(key:TypeId)(w:World)(kv:Value)(es:List MapEntry)(i:Nat)(r:Option (Nat × Value)):Prop :=
 (Instr.findAsking key kv es i).run P w=.ok r w/\∀kd,P.underlying key=some kd->Instr.findNow kd kv es i=none\/Instr.findNow kd kv es i=some r
theorem o6.run{key:TypeId}{w:World}{kv:Value}{es:List MapEntry}{r:Option (Nat × Value)}(h:o6 P key w kv es 0 r){kd:TypeDesc}(hk:P.underlying key=some kd):(Instr.findKey key kv es).run P w=.ok r w:=by
 unfold Instr.findKey;simp only [Sem.run_bind,run_underlying hk,Result.andThen_ok];rcases h.2 kd hk with h1|h1<;>rw [h1]
 ·exact h.1
 ·rfl
def aJ(e:MapEntry):List Value:=e.key.cells.toList++e.val.cells.toList
theorem E7{t:TypeId}{U:Env}{β:Nat->Nat}{x y:Value}{xs ys:List At}(hx:la P t U β x xs)(hy:la P t U β y ys)(h:xs.map (At.den U β)=ys.map (At.den U β)):x=y:=by
 have one:(∃a,xs=[a]/\x=a.den U β)->(∃a,ys=[a]/\y=a.den U β)->x=y:=by
  rintro ⟨a,rfl,rfl⟩ ⟨b,rfl,rfl⟩;simpa using h
 unfold la at hx hy;generalize P.underlying t=u at hx hy;cases u with
 |none=>exact one hx hy
 |some d=>cases d<;>first|exact one hx hy | (simp only at hx hy;rw [hx,hy,h])
theorem S3{t:TypeId}{U:Env}{β:Nat->Nat}{x:Value}{xs:List At}(hx:la P t U β x xs)(h:∀v∈xs.map (At.den U β),∀n,Instr.sameBits (n+1) v v=true):Instr.sameBits 10000 x x=true:=by
  have agg:Instr.sameBits 10000 (.agg (xs.map (At.den U β)).toArray) (.agg (xs.map (At.den U β)).toArray)=true:=by
    show Instr.sameBits (9999+1) _ _=true;rw [Instr.sameBits];simp only [beq_self_eq_true,Bool.true_and,List.all_eq_true];intro p hp
    have:p.1=p.2/\p.1∈xs.map (At.den U β):=by
      generalize xs.map (At.den U β)=l at hp;clear h hx;simp only [List.zip_eq_zipWith]at hp
      induction l with
      |nil=>simp at hp
      |cons a r ih =>
        simp only [List.zipWith_cons_cons,List.mem_cons]at hp;rcases hp with rfl|hp
        · exact⟨rfl,by simp⟩
        · obtain⟨h1,h2⟩:=ih hp;exact⟨h1,List.mem_cons_of_mem _ h2⟩
    rw [<-this.1];exact h p.1 this.2 9998
  unfold la at hx;split at hx
  · rw [hx];exact agg
  · rw [hx];exact agg
  · obtain⟨a,rfl,rfl⟩:=hx;exact h _ (by simp) 9999
theorem wN{g:Bool}{n:Nat}{v:Value}(h:dJ (cZ g n) v):v.cells.size=n:=by
  cases g with
  |true =>
    simp only [dJ,cZ,if_true]at h;rw [if_pos (by omega)]at h;obtain⟨cs,rfl,hs⟩:=h;simp only [Value.cells];omega
  |false =>
    simp only [dJ,cZ,Bool.false_eq_true,if_false,Nat.add_zero]at h;rw [if_neg (by omega)]at h;rw [S2 h.1];simp only [List.size_toArray,List.length_cons,List.length_nil];omega
theorem S4{g1 g2:Bool}{nk ne:Nat}{e:MapEntry}(h1:dJ (cZ g1 nk) e.key)(h2:dJ (cZ g2 ne) e.val){r:List MapEntry}{cs:List At}{U:Env}{β:Nat->Nat}(h:(e::r).flatMap aJ=cs.map (At.den U β)) :
  e.key.cells.toList=(cs.take nk).map (At.den U β)/\e.val.cells.toList=((cs.drop nk).take ne).map (At.den U β)/\r.flatMap aJ=(cs.drop (nk+ne)).map (At.den U β)/\nk+ne<=cs.length:=by
 have s1:e.key.cells.toList.length=nk:=by simpa using wN h1
 have s2:e.val.cells.toList.length=ne:=by simpa using wN h2
 simp only [List.flatMap_cons,aJ,List.append_assoc]at h;have hlen:=congrArg List.length h;simp only [List.length_append,List.length_map,s1,s2]at hlen;refine⟨?_, ?_, ?_,by omega⟩
 ·rw [List.map_take,<-h,<-s1,List.take_left]
 ·rw [List.map_take,List.map_drop,<-h]
  conv=>rhs;rw [<-s1,List.drop_left,<-s2,List.take_left]
 ·rw [List.map_drop,<-h,<-List.drop_drop]
  conv=>rhs;rw [<-s1,List.drop_left,<-s2,List.drop_left]
theorem Lm{x:hZ}{t:TypeId}(hx:gg P t=some x){c:ar}{kc:List At}{found:Nat->List At->Env->Prop}{EG:Unit->Env->Prop}{U:Env}:∀ (fuel:Nat) (cs:List At) (i:Nat),
    kT (PA P W Q QM QP) c x kc found EG fuel cs i U ->
    ∃r:Option (Nat × List At),(match r with|some (j,v)=>found (i+j) v U|none=>EG () U) /\
      ∀(J:Env),Env.aC c U J->∀(β:Nat->Nat) (w:World) (kv:Value) (es:List MapEntry),la P x.key J β kv kc->es.flatMap aJ=cs.map (At.den J β) ->
        (∀e∈es,dJ (cZ x.gk x.ks.length) e.key/\dJ (cZ x.ge x.ne) e.val) ->
        o6 P x.key w kv es i (r.map λy=>(i+y.1,(eG x.ge y.2).den J β)) /\
        ∀j v,r=some (j,v)->∃e,es[j]? = some e/\e.key=kv/\Instr.sameBits 10000 kv kv=true
  |0,cs,i,h=>h.elim
  |n+1,cs,i,h=>by
    obtain⟨m1,m2,m3,m4,m5,m6,m7,m8⟩:=ym hx;obtain⟨kd,uT⟩:∃d,P.underlying x.key=some d:=by obtain⟨d,_,h1,_⟩:=wM m3;exact⟨d,h1⟩
    simp only [kT]at h;split at h
    · rename_i pP;subst pP;refine⟨none,h,λJ hl β w kv es hv eM gW=>⟨?_,λj v hr=>by cases hr⟩⟩
      have:es=[]:=by
        cases es with
        |nil=>rfl
        |cons e r =>
          obtain⟨s1,s2⟩:=gW e (by simp);obtain⟨_,_,_,h4⟩:=S4 s1 s2 eM;simp only [List.length_nil]at h4;omega
      subst this;exact⟨rfl,λkd _=>.inr rfl⟩
    · rename_i pP;generalize he:bo x.ks kc (cs.take x.ks.length)=u at h;split at h;rotate_left
      · exact h.elim
      rename_i e;split at h;rotate_left
      · exact h.elim
      rename_i hc;obtain⟨wO,hlen⟩:=hc
      have cons:∀ (J:Env),Env.aC c U J->∀ (β:Nat->Nat) (w:World) (kv:Value) (es:List MapEntry),la P x.key J β kv kc->es.flatMap aJ=cs.map (At.den J β) ->
          (∀e∈es,dJ (cZ x.gk x.ks.length) e.key/\dJ (cZ x.ge x.ne) e.val)->∃e0 r,es=e0::r/\la P x.key J β e0.key (cs.take x.ks.length)/\e0.val=(eG x.ge ((cs.drop x.ks.length).take x.ne)).den J β /\
            r.flatMap aJ=(cs.drop (x.ks.length+x.ne)).map (At.den J β)/\(Op.equal x.key kv e0.key).run P w=.ok (e.den U) w/\(Instr.sameNow kd kv e0.key=none\/Instr.sameNow kd kv e0.key=some (e.den U)):=by
        intro J hl β w kv es hv eM gW;cases es with
        |nil =>
          simp only [List.flatMap_nil]at eM;exact (pP (List.map_eq_nil_iff.1 eM.symm)).elim
        |cons e0 r =>
          obtain⟨s1,s2⟩:=gW e0 (by simp);obtain⟨a1,a2,a3,a4⟩:=S4 s1 s2 eM;obtain⟨b1,b2,b3⟩:=E6 m3 s1 a1;obtain⟨c1,c2,c3⟩:=E6 m4 s2 a2;refine⟨e0,r,rfl,b1,c2,a3, ?_, ?_⟩
          · rw [<-BE.aa hl wO];exact EX 9970 30 x.key x.ks m2 J β kc _ e kv e0.key w he hv b1
          · rw [<-BE.aa hl wO];exact S1 uT m2 he hv b1
      rcases zt h with ⟨h1,h⟩|⟨h1,h⟩
      · refine⟨some (0,(cs.drop x.ks.length).take x.ne),h,λJ hl β w kv es hv eM gW => ?_⟩;obtain⟨e0,r,rfl,q1,q2,q3,q4,q5⟩:=cons J hl β w kv es hv eM gW;rw [h1]at q4 q5;have mE:e.den J=true:=by rw [BE.aa hl wO];exact h1
        obtain⟨g1,g2⟩:=Ll J β he mE;refine⟨⟨?_,λLn nG => ?_⟩,λj v hr => ?_⟩
        · simp only [Instr.findAsking,Sem.run_bind,q4,Result.andThen_ok,if_true,Sem.run_pure,Option.map_some,Nat.add_zero,q2]
        · rw [uT]at nG;cases nG;simp only [Instr.findNow];rcases q5 with q5|q5<;>rw [q5]
          · exact .inl rfl
          · right;simp only [Option.map_some,Nat.add_zero,q2]
        · simp only [Option.some.injEq,Prod.mk.injEq]at hr;obtain⟨rfl,rfl⟩:=hr;exact⟨e0,rfl,E7 q1 hv g1.symm,S3 hv g2⟩
      · obtain⟨r,h2,h3⟩:=Lm hx n _ (i+1) h;refine⟨r.map λy=>(y.1+1,y.2), ?_,λJ hl β w kv es hv eM gW => ?_⟩
        · cases r with
          |none=>exact h2
          |some y=>simpa [Nat.add_assoc,Nat.add_comm 1]using h2
        · obtain⟨e0,r',rfl,q1,q2,q3,q4,q5⟩:=cons J hl β w kv es hv eM gW;rw [h1]at q4 q5;obtain⟨⟨f1,f2⟩,f3⟩:=h3 J hl β w kv r' hv q3 λe he=>gW e (by simp [he])
          have er:(Option.map (λy:Nat × List At=>(i+y.1,(eG x.ge y.2).den J β)) (r.map λy=>(y.1+1,y.2)))=r.map λy=>(i+1+y.1,(eG x.ge y.2).den J β):=by
            cases r with
            |none=>rfl
            |some y=>simp only [Option.map_some,Option.some.injEq,Prod.mk.injEq,and_true];omega
          rw [er];refine⟨⟨?_,λLn nG => ?_⟩,λj v hr => ?_⟩
          · simp only [Instr.findAsking,Sem.run_bind,q4,Result.andThen_ok,Bool.false_eq_true,if_false];exact f1
          · rw [uT]at nG;cases nG;simp only [Instr.findNow];rcases q5 with q5|q5<;>rw [q5]
            · exact .inl rfl
            · exact f2 _ uT
          · cases r with
            |none=>cases hr
            |some y =>
              simp only [Option.map_some,Option.some.injEq,Prod.mk.injEq]at hr;obtain⟨rfl,rfl⟩:=hr;obtain⟨e1,k1,k2,k3⟩:=f3 y.1 y.2 rfl;exact⟨e1,by simpa using k1,k2,k3⟩
theorem yY{t:TypeId}{x:hZ}(hx:gg P t=some x){ob:Option Obj}{n:Nat}{xs:List Value} :
  AL ob n xs x.no↔∃es clock,ob=some (.map es clock)/\es.toList.flatMap aJ=xs/\∀e∈es.toList,dJ (cZ x.gk x.ks.length) e.key/\dJ (cZ x.ge x.ne) e.val:=by
 obtain⟨m1,m2,m3,m4,m5,m6,m7,m8⟩:=ym hx;obtain⟨t',ht⟩:∃t',x.no=t'+1:=⟨x.no-1,by omega⟩;rw [<-m7,<-m8,ht];exact Iff.rfl
theorem E8{g1 g2:Bool}{nk ne:Nat}:∀(es:List MapEntry),(∀e∈es,dJ (cZ g1 nk) e.key/\dJ (cZ g2 ne) e.val)->(es.flatMap aJ).length=es.length*(nk+ne)
  | [],_=>by simp
  |e::r,h=>by
    obtain⟨s1,s2⟩:=h e (by simp);have l1:e.key.cells.toList.length=nk:=by simpa using wN s1
    have l2:e.val.cells.toList.length=ne:=by simpa using wN s2
    have ih:=E8 r λe he=>h e (by simp [he]);simp only [List.flatMap_cons,List.length_append,ih,aJ,l1,l2,List.length_cons,Nat.succ_mul];omega
theorem IL{t:TypeId}{x:hZ}(hx:gg P t=some x){v:CV}(hv:oz x.gk x.ks.length v=true)(U:Env)(β:Nat->Nat):la P x.key U β (v.den U β) v.cells/\v.cells.length=x.ks.length:=by
 obtain⟨m1,m2,m3,m4,m5,m6,m7,m8⟩:=ym hx;obtain⟨h1,h2⟩:=uS hv U β;exact⟨(E6 m3 h1 (xs:=v.cells) (by rw [CV.bG])).1,h2⟩
theorem S5{t:TypeId}{x:hZ}(hx:gg P t=some x){w:World}{b:Nat}{es:Array MapEntry}{clock:Nat}(hb:w.heap[b]? = some (.map es clock)){kv:Value}{U:Env}{β:Nat->Nat}{kc:List At}
  (hv:la P x.key U β kv kc) (E9:kc.length=x.ks.length) {r:Option (Nat × Value)} (hf:o6 P x.key w kv es.toList 0 r) {zv:Value} (hz:(zeroValue x.el).run P w=.ok zv w) (ok:Bool) :
  (Instr.lookup t (.map (some b)) kv ok).run P w=.ok (if ok=true then .tuple #[(r.map (·.2)).getD zv,.bool r.isSome]else (r.map (·.2)).getD zv) w:=by
 obtain⟨m1,m2,m3,m4,m5,m6,m7,m8⟩:=ym hx;obtain⟨kd,uT⟩:∃d,P.underlying x.key=some d:=by obtain⟨d,_,h1,_⟩:=wM m3;exact⟨d,h1⟩
 have yZ:(Instr.checkKey es.isEmpty 10000 x.key kv).run P w=.ok () w:=lK es.isEmpty 9970 30 x.key x.ks m2 U β kc kv w E9 hv;have Lo:=hf.run uT;unfold Instr.lookup;simp only [Sem.run_bind,run_underlying m1,Result.andThen_ok,Go.MapKept.run_getObj_map hb,Sem.run_pure];simp only [yZ,Result.andThen_ok,Lo];cases r with
 |none=>cases ok<;>simp [hz]
 |some y=>cases ok<;>simp
theorem S6{t:TypeId}{x:hZ}(hx:gg P t=some x){w:World}{b:Nat}{es:Array MapEntry}{clock:Nat}(hb:w.heap[b]? = some (.map es clock)){kv vv:Value}{U:Env}{β:Nat->Nat}{kc:List At}
    (hv:la P x.key U β kv kc) (E9:kc.length=x.ks.length) {r:Option (Nat × Value)} (hf:o6 P x.key w kv es.toList 0 r) (hr:∀i v,r=some (i,v)->∃e,es.toList[i]? = some e/\e.key=kv/\Instr.sameBits 10000 kv kv=true) :
    (Instr.mapUpdate t (.map (some b)) kv vv).run P w=.ok () {w with heap:=w.heap.setIfInBounds b (match r with
      |some (i,_)=>.map (es.modify i λe => {e with key:=kv,val:=vv}) clock
      |none=>.map (es.push {key:=kv,val:=vv,born:=clock}) (clock+1))}:=by
  obtain⟨m1,m2,m3,m4,m5,m6,m7,m8⟩:=ym hx;obtain⟨kd,uT⟩:∃d,P.underlying x.key=some d:=by obtain⟨d,_,h1,_⟩:=wM m3;exact⟨d,h1⟩
  have yZ:(Instr.checkKey false 10000 x.key kv).run P w=.ok () w:=lK false 9970 30 x.key x.ks m2 U β kc kv w E9 hv;have Lo:=hf.run uT;unfold Instr.mapUpdate;simp only [Sem.run_bind,run_underlying m1,Result.andThen_ok,Go.MapKept.run_getObj_map hb];simp only [yZ,Result.andThen_ok,Lo];cases r with
  |none=>simp only [Go.MapKept.run_setObj_map _ hb]
  |some y =>
    obtain⟨i,v⟩:=y;obtain⟨e,h1,h2,h3⟩:=hr i v rfl;have h4:es[i]? = some e:=by simpa using h1
    simp only [h4,Option.map_some,Option.getD_some,h2,Instr.keyThatStays,h3,if_true,Sem.run_bind,Sem.run_pure,Result.andThen_ok,Go.MapKept.run_setObj_map _ hb]
theorem Lp{g1 g2:Bool}{nk ne:Nat}{kv vv:Value}:∀ (es:List MapEntry) (i:Nat) {e:MapEntry},es[i]? = some e->e.key=kv->(∀ e∈es,dJ (cZ g1 nk) e.key/\dJ (cZ g2 ne) e.val) ->
    (es.modify i λe => {e with key:=kv,val:=vv}).flatMap aJ=(es.flatMap aJ).take (i*(nk+ne)+nk)++vv.cells.toList++(es.flatMap aJ).drop (i*(nk+ne)+nk+ne)
  | [],i,e,h,_,_=>by simp at h
  |e0::r,0,e,h,hk,hs=>by
    simp only [List.getElem?_cons_zero,Option.some.injEq]at h;subst h;obtain⟨s1,s2⟩:=hs e0 (by simp);have l1:e0.key.cells.toList.length=nk:=by simpa using wN s1
    have l2:e0.val.cells.toList.length=ne:=by simpa using wN s2
    simp only [List.modify_zero_cons,List.flatMap_cons,Nat.zero_mul,Nat.zero_add];subst hk
    have t1:(aJ e0++r.flatMap aJ).take nk=e0.key.cells.toList:=by
      unfold aJ;rw [List.append_assoc,<-l1,List.take_left]
    have t2:(aJ e0++r.flatMap aJ).drop (nk+ne)=r.flatMap aJ:=by
      have:(aJ e0).length=nk+ne:=by unfold aJ;rw [List.length_append,l1,l2]
      rw [<-this,List.drop_left]
    rw [t1,t2];simp [aJ]
  |e0::r,i+1,e,h,hk,hs=>by
    obtain⟨s1,s2⟩:=hs e0 (by simp);have l1:e0.key.cells.toList.length=nk:=by simpa using wN s1
    have l2:e0.val.cells.toList.length=ne:=by simpa using wN s2
    have l3:(aJ e0).length=nk+ne:=by unfold aJ;rw [List.length_append,l1,l2]
    have ih:=Lp (vv:=vv) r i (e:=e) (by simpa using h) hk λe he=>hs e (by simp [he]);simp only [List.modify_succ_cons,List.flatMap_cons]
    rw [ih,show (i+1)*(nk+ne)+nk=(aJ e0).length+(i*(nk+ne)+nk) by rw [l3,Nat.succ_mul];omega,
      Nat.add_assoc (aJ e0).length,List.take_length_add_append,List.drop_length_add_append]
    simp only [List.append_assoc]
def nH:Value->At
 | .int k n=>.int k (.lit n)
 | .bool b=>.bool (.lit b)
 | .string s=>.str s.data.toList
 |_=>.sE
theorem Lq{k:CK}{v:Value}(h:m_ k v=true)(U:Env)(β:Nat->Nat):(nH v).den U β=v:=by
 cases k<;>cases v<;>first|rfl | (simp [m_]at h;done)|skip
theorem Lr{k:CK}{a:At}{v:Value}(ha:h_ k a=true)(hv:m_ k v=true)(U:Env)(β:Nat->Nat):∃e,fI k a (nH v)=some e/\e.den U=oY (a.den U β) v:=by
  cases k with
  |int k =>
    cases v<;>simp only [m_,Bool.false_eq_true,decide_eq_true_eq]at hv;rename_i k' n;subst hv;cases a<;>simp only [h_,Bool.false_eq_true,decide_eq_true_eq]at ha;subst ha;rename_i e;exact⟨.cmp .eql e (.lit n),by simp only [fI,nH,and_self,if_true],by simp [BE.den,iz,IE.den,At.den,oY]⟩
  |bool =>
    cases v<;>simp only [m_,Bool.false_eq_true]at hv;cases a<;>simp only [h_,Bool.false_eq_true]at ha;exact⟨_,rfl,rfl⟩
  |str =>
    cases v<;>simp only [m_,Bool.false_eq_true]at hv;rename_i s;simp only [h_,Option.isSome_iff_exists]at ha;obtain⟨p,hp⟩:=ha;refine⟨.seq p (.lit s.data.toList),by simp only [fI,nH,hp];rfl, ?_⟩;rw [yj hp];cases p<;>simp only [BE.den,SE.den,oY]<;>congr
  |vD=>cases a<;>simp [h_]at ha
  |sl z=>cases a<;>simp [h_]at ha
  |own z t=>cases a<;>simp [h_]at ha
theorem S7(U:Env)(β:Nat->Nat):∀{ks:List CK} {kc:List At} {vs:List Value},fJ ks kc=true->fy ks vs=true->∃e,bo ks kc (vs.map nH)=some e/\e.den U=jh (kc.map (At.den U β)) vs
  | [],[],[],_,_=>⟨_,rfl,rfl⟩
  | [],_::_,_,h,_=>by simp [fJ]at h
  | [],_,_::_,_,h=>by simp [fy]at h
  |_::_,[],_,h,_=>by simp [fJ]at h
  |_::_,_::_,[],_,h=>by simp [fy]at h
  |k::r,a::l,v::vs,h1,h2=>by
    simp only [fJ,Bool.and_eq_true]at h1;simp only [fy,Bool.and_eq_true]at h2;obtain⟨e1,p1,p2⟩:=Lr h1.1 h2.1 U β;obtain⟨e2,q1,q2⟩:=S7 U β h1.2 h2.2;exact⟨.and e1 e2,by simp only [List.map_cons,bo,p1,q1],by simp only [BE.den,p2,q2,List.map_cons,jh]⟩
theorem S8(U:Env)(β:Nat->Nat):∀{ks:List CK} {vs:List Value},fy ks vs=true->(vs.map nH).map (At.den U β)=vs
  | [],[],_=>rfl
  | [],_::_,h=>by simp [fy]at h
  |_::_,[],h=>by simp [fy]at h
  |k::r,v::vs,h=>by
    simp only [fy,Bool.and_eq_true]at h;simp only [List.map_cons,Lq h.1,S8 U β h.2]
theorem Ls{g1 g2:Bool}{nk ne:Nat}{e:MapEntry}(h1:dJ (cZ g1 nk) e.key)(h2:dJ (cZ g2 ne) e.val)(r:List MapEntry) :
  ((e::r).flatMap aJ).take nk=e.key.cells.toList/\((e::r).flatMap aJ).drop (nk+ne)=r.flatMap aJ/\(((e::r).flatMap aJ).drop nk).take ne=e.val.cells.toList/\nk+ne<=((e::r).flatMap aJ).length:=by
 have s1:e.key.cells.toList.length=nk:=by simpa using wN h1
 have s2:e.val.cells.toList.length=ne:=by simpa using wN h2
 simp only [List.flatMap_cons,aJ,List.append_assoc];refine⟨?_, ?_, ?_, ?_⟩
 ·rw [<-s1,List.take_left]
 ·rw [<-List.drop_drop,<-s1,List.drop_left,<-s2,List.drop_left]
 ·rw [<-s1,List.drop_left,<-s2,List.take_left]
 ·simp only [List.length_append,s1,s2];omega
theorem E_{g1 g2:Bool}{nk ne:Nat}:∀ (es:List MapEntry) (i:Nat) {e:MapEntry},(∀ e∈es,dJ (cZ g1 nk) e.key/\dJ (cZ g2 ne) e.val)->es[i]? = some e->∀ {k:Nat},k < ne ->
    (es.flatMap aJ)[i*(nk+ne)+(nk+k)]? = e.val.cells.toList[k]?
  | [],i,e,_,h,_,_=>by simp at h
  |e0::r,0,e,hs,h,k,hk=>by
    simp only [List.getElem?_cons_zero,Option.some.injEq]at h;subst h;obtain⟨t1,t2,t3,t4⟩:=Ls (hs e0 (by simp)).1 (hs e0 (by simp)).2 r;rw [Nat.zero_mul,Nat.zero_add,<-t3,List.getElem?_take_of_lt hk,List.getElem?_drop]
  |e0::r,i+1,e,hs,h,k,hk=>by
    obtain⟨t1,t2,t3,t4⟩:=Ls (hs e0 (by simp)).1 (hs e0 (by simp)).2 r;have ih:=E_ r i (λe he=>hs e (by simp [he])) (by simpa using h) hk;rw [<-ih,<-t2,List.getElem?_drop];congr 1;rw [Nat.succ_mul];omega
theorem Lt{x:hZ}{t:TypeId}(hx:gg P t=some x){kc:List At}(cQ:fJ x.ks kc=true){U:Env}{β:Nat->Nat}{w:World}{kv:Value}(hv:la P x.key U β kv kc) :
    ∀(es:List MapEntry) (f i:Nat),es.length<=f->(∀e∈es,dJ (cZ x.gk x.ks.length) e.key/\dJ (cZ x.ge x.ne) e.val)->iZ x.ks (x.ks.length+x.ne) f (es.flatMap aJ)=true ->
      o6 P x.key w kv es i ((cB x.ks.length (x.ks.length+x.ne) (kc.map (At.den U β)) f (es.flatMap aJ)).map λj=>(i+j,((es[j]?).map (·.val)).getD undef)) /\
      ∀j,cB x.ks.length (x.ks.length+x.ne) (kc.map (At.den U β)) f (es.flatMap aJ)=some j->∃e,es[j]? = some e/\e.key=kv/\Instr.sameBits 10000 kv kv=true
  | [],f,i,_,_,_=>by
    have h0:cB x.ks.length (x.ks.length+x.ne) (kc.map (At.den U β)) f (([]:List MapEntry).flatMap aJ)=none:=by cases f<;>rfl
    rw [h0];exact⟨⟨rfl,λkd _=>.inr rfl⟩,λj h=>by cases h⟩
  |e0::r,0,i,hf,_,_=>by simp at hf
  |e0::r,f+1,i,hf,gW,hk=>by
    obtain⟨m1,m2,m3,m4,m5,m6,m7,m8⟩:=ym hx;obtain⟨kd,uT⟩:∃d,P.underlying x.key=some d:=by obtain⟨d,_,h1,_⟩:=wM m3;exact⟨d,h1⟩
    obtain⟨s1,s2⟩:=gW e0 (by simp);obtain⟨t1,t2,t3,t4⟩:=Ls s1 s2 r
    have dt:∃a l,(e0::r).flatMap aJ=a::l:=by
      cases hc:(e0::r).flatMap aJ with
      |nil=>rw [hc]at t4;simp only [List.length_nil]at t4;omega
      |cons a l=>exact⟨a,l,rfl⟩
    have gE:fy x.ks e0.key.cells.toList=true/\iZ x.ks (x.ks.length+x.ne) f (r.flatMap aJ)=true:=by
      obtain⟨a,l,yn⟩:=dt;rw [yn,iZ,<-yn,t1,t2,Bool.and_eq_true]at hk
      · exact hk
      · intro h;cases h
    have hm:cB x.ks.length (x.ks.length+x.ne) (kc.map (At.den U β)) (f+1) ((e0::r).flatMap aJ)=if jh (kc.map (At.den U β)) e0.key.cells.toList=true then some 0 else (cB x.ks.length (x.ks.length+x.ne) (kc.map (At.den U β)) f (r.flatMap aJ)).map (·+1):=by
      obtain⟨a,l,yn⟩:=dt;rw [yn,cB,<-yn,t1,t2];intro h;cases h
    rw [hm];obtain⟨e,he,mE⟩:=S7 U β cQ gE.1;obtain⟨b1,b2,b3⟩:=E6 m3 s1 (xs:=e0.key.cells.toList.map nH) (U:=U) (β:=β) (S8 U β gE.1).symm
    have q4:(Op.equal x.key kv e0.key).run P w=.ok (jh (kc.map (At.den U β)) e0.key.cells.toList) w:=by
      rw [<-mE];exact EX 9970 30 x.key x.ks m2 U β kc _ e kv e0.key w he hv b1
    have q5:Instr.sameNow kd kv e0.key=none\/Instr.sameNow kd kv e0.key=some (jh (kc.map (At.den U β)) e0.key.cells.toList):=by
      rw [<-mE];exact S1 uT m2 he hv b1
    cases hq:jh (kc.map (At.den U β)) e0.key.cells.toList with
    |true =>
      rw [hq]at q4 q5;rw [if_pos rfl];obtain⟨g1,g2⟩:=Ll U β he (by rw [mE,hq]);refine⟨⟨?_,λLn nG => ?_⟩,λj hj => ?_⟩
      · simp only [Instr.findAsking,Sem.run_bind,q4,Result.andThen_ok,if_true,Sem.run_pure,Option.map_some,Nat.add_zero,List.getElem?_cons_zero,Option.getD_some]
      · rw [uT]at nG;cases nG;simp only [Instr.findNow];rcases q5 with q5|q5<;>rw [q5]
        · exact .inl rfl
        · right;simp only [Option.map_some,Nat.add_zero,List.getElem?_cons_zero,Option.getD_some]
      · simp only [Option.some.injEq]at hj;subst hj;exact⟨e0,rfl,E7 b1 hv g1.symm,S3 hv g2⟩
    |false =>
      rw [hq]at q4 q5;rw [if_neg (by simp)];obtain⟨⟨f1,f2⟩,f3⟩:=Lt hx cQ (w:=w) hv r f (i+1) (by simp at hf;omega) (λe he=>gW e (by simp [he])) gE.2
      have er:(Option.map (λj:Nat=>(i+j,(((e0::r)[j]?).map (·.val)).getD undef)) ((cB x.ks.length (x.ks.length+x.ne) (kc.map (At.den U β)) f (r.flatMap aJ)).map (·+1)))=(cB x.ks.length (x.ks.length+x.ne) (kc.map (At.den U β)) f (r.flatMap aJ)).map λj=>(i+1+j,((r[j]?).map (·.val)).getD undef):=by
        cases cB x.ks.length (x.ks.length+x.ne) (kc.map (At.den U β)) f (r.flatMap aJ)with
        |none=>rfl
        |some y=>simp only [Option.map_some,List.getElem?_cons_succ,Option.some.injEq,Prod.mk.injEq,and_true];omega
      rw [er];refine⟨⟨?_,λLn nG => ?_⟩,λj hj => ?_⟩
      · simp only [Instr.findAsking,Sem.run_bind,q4,Result.andThen_ok,Bool.false_eq_true,if_false];exact f1
      · rw [uT]at nG;cases nG;simp only [Instr.findNow];rcases q5 with q5|q5<;>rw [q5]
        · exact .inl rfl
        · exact f2 _ uT
      · simp only [Option.map_eq_some_iff]at hj;obtain⟨j0,yp,rfl⟩:=hj;obtain⟨e1,k1,k2,k3⟩:=f3 j0 yp;exact⟨e1,by simpa using k1,k2,k3⟩
theorem S9{x:hZ}{c:ar}{ce:CE}{kc:List At}{K:IE->ar->Env->Prop}{U:Env}(h:pB (PA P W Q QM QP) c x ce kc K U) :
  fJ x.ks kc=true/\gG ce=true/\kc.all At.flat=true/\cw c ce=true/\kc.all (At.wf c)=true/\∃a_,K (.var c.ni) {c with ni:=c.ni+1} a_/\Env.aC c U a_/\∀J,Env.aC {c with ni:=c.ni+1} a_ J->∀β,
   jC x.ks (x.ks.length+x.ne) (aq J β ce)=true/\(IE.var c.ni).den J=gh x.ks.length (x.ks.length+x.ne) (kc.map (At.den J β)) (aq J β ce):=by
 unfold pB at h;split at h;rotate_left
 ·exact h.elim
 rename_i hc;obtain⟨c1,c2,c3,c4,c5⟩:=hc;obtain⟨h1,h2⟩:=h;refine⟨c1,c2,c3,c4,c5,U.gF c.ni (gh x.ks.length (x.ks.length+x.ne) (kc.map (At.den U b0)) (aq U b0 ce)),h2 _ rfl,AO c U _,λJ hl β => ?_⟩;have gx:Env.aC c U J:=Env.aj (ar.tH c 1) (AO c U _) hl;rw [B' J β b0 c2,vC gx (λ_ _=>rfl) c4,DQ J β b0 c3,yJ gx (λ_ _=>rfl) c5];refine⟨h1, ?_⟩
 have:=hl.i c.ni (by show c.ni<c.ni+1;omega)
 simp only [IE.den,this,Env.gF,if_true]
theorem WA{m:Mem}{o:bA}(lg:lf m o){c:ar}{t:TypeId}{x k:SV}{ok:Bool}{K:SV->ar->Env->Prop}{U:Env}(h:nh (PA P W Q QM QP) P o c t x k ok K U) :
    cP c U K λsv J=>x ≠ .any/\k ≠ .any/\sv ≠ .any/\∀β w,fV W m o (aE (aV x)) J β w->(Instr.lookup t (x.den J β) (k.den J β) ok).run P w=.ok (sv.den J β) w:=by
  unfold nh at h;generalize hx:gg P t=u1 at h;split at h;rotate_left
  · exact h.elim
  rename_i y j kv;generalize jr:aO o j=u2 at h;generalize hz:c_ P y.el=u3 at h;split at h;rotate_left
  · exact h.elim
  rename_i ce sz tc z;generalize rk:eo ce=u4 at h;split at h;rotate_left
  · clear rk;generalize WB:wc P 30 y.el=u5 at h;split at h;rotate_left
    · exact h.elim
    rename_i ls;split at h;rotate_left
    · exact h.elim
    rename_i hc;obtain⟨c1,rfl,rfl,c4,c5⟩:=hc;obtain⟨g1,g2,g3,g4,g5,a_,h1,oC,oD⟩:=S9 h;obtain⟨m1,m2,m3,m4,m5,m6,m7,m8⟩:=ym hx;have fA:c.le {c with ni:=c.ni+1}:=ar.tH c 1;have IM:cw {c with ni:=c.ni+1} ce=true:=BV fA g4
    have run:∀ J,Env.aC {c with ni:=c.ni + 1} a_ J->∀ β w,fV W m o (aE (aV (.cv (.one (.omap j))))) J β w ->
        ∃es:List MapEntry,es.flatMap aJ=aq J β ce/\(∀e∈es,dJ (cZ y.gk y.ks.length) e.key/\dJ (cZ y.ge y.ne) e.val) /\
        (∀i,cB y.ks.length (y.ks.length+y.ne) (kv.cells.map (At.den J β)) (aq J β ce).length (aq J β ce)=some i->∃e,es[i]? = some e) /\
        (Instr.lookup t ((SV.cv (.one (.omap j))).den J β) ((SV.cv kv).den J β) ok).run P w =
          .ok (if ok=true then .tuple #[(((cB y.ks.length (y.ks.length+y.ne) (kv.cells.map (At.den J β)) (aq J β ce).length (aq J β ce)).map λi=>((es[i]?).map (·.val)).getD undef)).getD (z.den J β),.bool (cB y.ks.length (y.ks.length+y.ne) (kv.cells.map (At.den J β)) (aq J β ce).length (aq J β ce)).isSome]
            else (((cB y.ks.length (y.ks.length+y.ne) (kv.cells.map (At.den J β)) (aq J β ce).length (aq J β ce)).map λi=>((es[i]?).map (·.val)).getD undef)).getD (z.den J β)) w:=by
      intro J hl β w hr;have bD:=hr j (by simp [aV,CV.cells,aE]) _ (lb (lg j _ jr) jr);rcases bD with bD|⟨_,_,_,ho⟩
      · exact absurd bD.2.1 (by omega)
      obtain⟨es,clock,hb,eM,gW⟩:=(yY hx).1 ho;obtain⟨k1,k2⟩:=IL hx c1 J β
      have hlen:es.toList.length<=(aq J β ce).length:=by
        rw [<-eM,E8 es.toList gW];exact Nat.le_mul_of_pos_right _ (by omega)
      have kN:=(oD J hl β).1;obtain⟨f1,f2⟩:=Lt hx g1 (w:=w) k1 es.toList _ 0 hlen gW (by rw [eM];exact kN);rw [eM]at f1 f2;refine⟨es.toList,eM,gW,λi hi=>by obtain⟨e,he,_⟩:=f2 i hi;exact⟨e,he⟩, ?_⟩
      have:=S5 hx hb k1 k2 f1 (AR hz J β w c).1 ok
      refine this.trans ?_;simp only [Option.map_map,Option.isSome_map,Function.comp_def]
    rcases zt h1 with ⟨e1,h1⟩|⟨e1,h1⟩
    · obtain⟨l,c2,aB,q1,q2,q3,q4,q5⟩:=Lj (ix:=IE.var c.ni) ls y.ks.length _ c5 g2 IM (by show decide (c.ni<c.ni+1)=true;simp) h1;have q4':=q4.trans c4;refine⟨_,c2,aB,q1,ar.le_trans fA q2,Env.aj fA oC q3,λJ hl=>⟨by simp,by simp,by cases ok<;>simp,λβ w hr => ?_⟩⟩;have rV:Env.aC {c with ni:=c.ni+1} a_ J:=Env.aj q2 q3 hl;obtain⟨es,eM,gW,lJ,iN⟩:=run J rV β w hr;rw [iN];have iE:=(oD J rV β).2
      have kq:0<=(IE.var c.ni).den J:=by
        have e0:(IE.var c.ni).den J=(IE.var c.ni).den a_:=IE.aa rV (by show decide (c.ni<c.ni+1)=true;simp);rw [e0];simpa [BE.den,iz,IE.den]using e1
      unfold gh at iE;cases wP:cB y.ks.length (y.ks.length+y.ne) (kv.cells.map (At.den J β)) (aq J β ce).length (aq J β ce)with
      |none=>rw [wP]at iE;simp only at iE;omega
      |some i =>
        rw [wP]at iE;simp only at iE;obtain⟨e,he⟩:=lJ i wP;have gK:=gW e (List.mem_of_getElem? he)
        have jE:e.val.cells.toList=l.map (At.den J β):=by
          have WC:e.val.cells.toList.length=y.ne:=by simpa using wN gK.2
          apply List.ext_getElem?;intro k;by_cases hk:k<y.ne
          · have ha:l[k]? = some (l[k]'(by omega)):=List.getElem?_eq_getElem (by omega);have h5:=q5 J hl β k _ ha;rw [iE]at h5;rw [List.getElem?_map,ha,Option.map_some,<-h5,<-eM,show ((i:Int)).toNat=i from rfl];exact (E_ es i gW he hk).symm
          · rw [List.getElem?_eq_none (by omega),List.getElem?_eq_none (by simp;omega)]
        have y7:e.val=(eG y.ge l).den J β:=(E6 m4 gK.2 jE).2.1;have kM:(es[i]?).map (·.val)=some ((eG y.ge l).den J β):=by rw [he,Option.map_some,y7]
        simp only [Option.map_some,kM,Option.getD_some,Option.isSome_some];cases ok<;>rfl
    · refine⟨_,_,a_,h1,fA,oC,λJ hl=>⟨by simp,by simp,by cases ok<;>simp,λβ w hr => ?_⟩⟩;obtain⟨es,eM,gW,lJ,iN⟩:=run J hl β w hr;rw [iN];have iE:=(oD J hl β).2
      have kq:¬0<=(IE.var c.ni).den J:=by
        have e0:(IE.var c.ni).den J=(IE.var c.ni).den a_:=IE.aa hl (by show decide (c.ni<c.ni+1)=true;simp);rw [e0];simpa [BE.den,iz,IE.den]using e1
      unfold gh at iE;cases wP:cB y.ks.length (y.ks.length+y.ne) (kv.cells.map (At.den J β)) (aq J β ce).length (aq J β ce)with
      |some i=>rw [wP]at iE;simp only at iE;omega
      |none =>
        simp only [Option.map_none,Option.getD_none,Option.isSome_none];cases ok<;>rfl
  rename_i cs;split at h;rotate_left
  · exact h.elim
  rename_i hc;obtain⟨c1,rfl,rfl⟩:=hc;obtain⟨r,h1,h2⟩:=Lm hx _ _ _ h
  have run:∀ J,Env.aC c U J->∀ β w,fV W m o (aE (aV (.cv (.one (.omap j))))) J β w ->
      (Instr.lookup t ((SV.cv (.one (.omap j))).den J β) ((SV.cv kv).den J β) ok).run P w =
        .ok (if ok=true then .tuple #[((r.map λq=>(0+q.1,(eG y.ge q.2).den J β)).map (·.2)).getD (z.den J β),.bool (r.map λq=>(0+q.1,(eG y.ge q.2).den J β)).isSome]else ((r.map λq=>(0+q.1,(eG y.ge q.2).den J β)).map (·.2)).getD (z.den J β)) w:=by
    intro J hl β w hr;have bD:=hr j (by simp [aV,CV.cells,aE]) _ (lb (lg j _ jr) jr);rcases bD with bD|⟨_,_,_,ho⟩
    · exact absurd bD.2.1 (by omega)
    obtain⟨es,clock,hb,eM,gW⟩:=(yY hx).1 ho;rw [EC J β rk]at eM;obtain⟨k1,k2⟩:=IL hx c1 J β;exact S5 hx hb k1 k2 (h2 J hl β w _ es.toList k1 eM gW).1 (AR hz J β w c).1 ok
  cases r with
  |none =>
    refine cP.pure h1 λJ hl=>⟨by simp,by simp,by cases ok<;>simp,λβ w hr => ?_⟩;rw [run J hl β w hr];cases ok<;>rfl
  |some q =>
    refine cP.pure h1 λJ hl=>⟨by simp,by simp,by cases ok<;>simp,λβ w hr => ?_⟩;rw [run J hl β w hr];cases ok<;>rfl
end Vc
set_option linter.unusedVariables false
namespace Vc
open Go Go.RowKit
variable {P:Program} {W:eJ} {Q:Value->Prop} {QM QP:World->Value->Prop}
structure St.WF(st:St):Prop where
 t:∀i,(ay st.t i).wf st.c=true
 m:∀k cs t,getM st.m k=some (cs,t)->k<st.c.nk/\cs.all (At.wf st.c)=true
 o:∀k ce sz t,aO st.o k=some (ce,sz,t)->k+3<st.c.nk/\cw st.c ce=true
 ap:lf st.m st.o
 r:∀k e,fu st.r k=some e->k<st.c.nk
 d:∀k∈st.d,k<st.c.nk
 k:cr.wf st.k st.c
 df:∀x∈st.df,∀y∈x.2,y.1<st.c.nk
theorem St.WF.ev{st:St}(h:st.WF):∀x:Operand,(st.ev x).wf st.c=true
  | .tmp t=>h.t t
  | .const v=>(SV.cM v st.c Env.zero b0).1
  | .global g=>by
    simp only [St.ev];split
    · rename_i p hp
      have:=h.k _ (Is hp)
      simp only [Kn.wf]at this;simp only [SV.wf,CV.wf,At.wf,IE.wf,this,Bool.and_self]
    · rfl
  | .func _=>rfl
def dV(st:St)(o:Oper)(U:Env)(β:Nat->Nat)(a:Act):Prop:=∀x∈o.op.operands,st.ev x ≠ .any->a.eval x=(st.ev x).den U β
def bK(P:Program)(W:eJ)(st:St)(o:Oper)(sv:SV)(U:Env):Prop :=
  ∀(β:Nat->Nat) (a:Act) (w:World),dT W w->dV st o U β a->fV W st.m st.o (bd st o) U β w ->
    ∀(next:Act->World->Prop) (Q':Exit->Act->World->Prop),(∀v w',(sv ≠ .any->v=sv.den U β)->Below w.heap.size w w'->next (a.put o.dst v) w')->o.wp P a w next Q'
theorem bK.run{st:St}{o:Oper}{sv:SV}{U:Env}(h:∀(β:Nat->Nat) (a:Act) (w:World),dT W w->dV st o U β a->fV W st.m st.o (bd st o) U β w ->
  ∃v,(execOp a.eval o).run P w=.ok (.value v) w/\(sv ≠ .any->v=sv.den U β)):bK P W st o sv U:=by
 intro β a w hB ho hr next Q' hn
 obtain⟨v,hv,he⟩:=h β a w hB ho hr;unfold Oper.wp;rw [hv,Oper.upon_value];exact hn v w he (Below.refl _ _)
theorem IN{place:Nat->Option (Nat × Nat)}:∀(parts:List (Nat × SV)) (cells:List At) {cs:List At},cN place cells parts=some cs->∀p∈parts,p.2 ≠ .any
  | [],_,_,_,p,hp=>by cases hp
  | (i,.any)::r,_,_,h,_,_=>by simp [cN]at h
  | (i,.dX)::r,_,_,h,_,_=>by simp [cN]at h
  | (i,.cS l)::r,_,_,h,_,_=>by simp [cN]at h
  | (i,.cv v)::r,cells,cs,h,p,hp=>by
    simp only [cN]at h;split at h
    · split at h
      · rcases List.mem_cons.1 hp with rfl|hp
        · simp
        · exact IN r _ h p hp
      · cases h
    · cases h
theorem WD{c:ar}{t:TypeId}{parts:List (Nat × SV)}{K:SV->ar->Env->Prop}{U:Env}(h:kW (PA P W Q QM QP) P c t parts K U):∀p∈parts,p.2 ≠ .any:=by
 unfold kW at h;generalize h1:P.underlying t=u1 at h;generalize h2:c_ P t=u2 at h;split at h
 ·rename_i fs z;generalize h3:dH P fs.toList=u3 at h;split at h
  ·rename_i pl;generalize h4:cN (λx=>pl[x]?) z.cells parts=u4 at h;split at h
   ·exact IN parts z.cells h4
   ·exact h.elim
  ·exact h.elim
 ·rename_i n el z;generalize h3:aQ P el=u3 at h;split at h
  ·rename_i g s;generalize h4:cN (λi=>some (i*s,s)) z.cells parts=u4 at h;split at h
   ·exact IN parts z.cells h4
   ·exact h.elim
  ·exact h.elim
 ·exact h.elim
theorem WE{x:SV}{l:List SV}{r:List (Nat × Nat)}(h:fT (x::l)=some r):∃k o r',x=.cv (.one (.loc k o))/\fT l=some r'/\r=(k,o)::r':=by
 unfold fT at h;split at h
 ·rename_i he;cases he
 ·rename_i k o l' he;cases he;simp only [Option.map_eq_some_iff]at h;obtain⟨r',h1,rfl⟩:=h;exact⟨k,o,r',rfl,h1,rfl⟩
 ·cases h
theorem E':∀(l:List SV) {r:List (Nat × Nat)},fT l=some r->(∀x∈l,x ≠ .any)/\∀U β,l.map (SV.den U β)=r.map λc=>.pointer (some ⟨β c.1,c.2,none⟩)
  | [],r,h=>by simp only [fT,Option.some.injEq]at h;subst h;exact⟨by simp,λ_ _=>rfl⟩
  |x::l,r,h=>by
    obtain⟨k,o,r',rfl,h1,rfl⟩:=WE h;obtain⟨q1,q2⟩:=E' l h1;exact⟨by simp;exact q1,λU β=>by simp only [List.map_cons,q2];rfl⟩
theorem WG{m:Mem}{o:bA}(lg:lf m o){c:ar}{t:Option TypeId}{x:SV}{K:SV->ar->Env->Prop}{U:Env}(hx:x.wf c=true)(h:wo (PA P W Q QM QP) P o c t x K U) :
    cP c U K λsv J=>sv ≠ .any/\∃ty,t=some ty/\∀β w v,fV W m o (aE (aV x)) J β w->(x ≠ .any->v=x.den J β)->(Builtin.len_ #[ty] ty #[v]).run P w=.ok (sv.den J β) w:=by
  unfold wo at h;cases t with
  |none=>cases x<;>exact h.elim
  |some ty =>
    simp only [Option.bind_some]at h;generalize hu:P.underlying ty=u1 at h;split at h
    · rename_i el k;generalize jr:aO o k=u2 at h;split at h
      · rename_i ce sz ER;split at h
        · rename_i vG;obtain⟨n,c1,a_,r1,r2,r3,r4,r5,r6⟩:=AQ h;refine⟨_,c1,a_,r1,r2,r4,λJ hl=>⟨by simp,ty,rfl,λβ w v d_ hv => ?_⟩⟩;rw [hv (by simp)];have bD:=(d_ k (by simp [aV,CV.cells,aE]) _ (lb (lg k _ jr) jr)).fz vG;have e3:=r6 J β hl;rw [Lf bD]at e3;have hlen:(SV.cv (.one (.own k))).den J β=(if β (k+1)=0 then .slice none 0 0 else .slice (some ⟨β k,β (k+3),none⟩) (β (k+2)) (β (k+1)-1):Value):=rfl;rw [hlen]
          have hz:β (k+1)=0->β (k+2)=0:=λh0=>by
            rcases bD.2.2 with ⟨_,h1⟩|⟨h1,_⟩
            · exact h1
            · omega
          by_cases h0:β (k+1)=0
          · rw [if_pos h0]
            have:=hz h0
            rw [this]at e3;simp [Builtin.len_,run_underlying hu,SV.den,CV.den,At.den,goInt,e3]
          · rw [if_neg h0];simp [Builtin.len_,run_underlying hu,SV.den,CV.den,At.den,goInt,e3]
        · exact h.elim
      · exact h.elim
    · rename_i el k;generalize jr:aO o k=u2 at h;split at h
      · rename_i ce sz ER;split at h
        · rename_i vG;obtain⟨rfl,rfl⟩:=vG;obtain⟨n,c1,a_,r1,r2,r3,r4,r5,r6⟩:=AQ h;refine⟨_,c1,a_,r1,r2,r4,λJ hl=>⟨by simp,ty,rfl,λβ w v d_ hv => ?_⟩⟩;rw [hv (by simp)];have bD:=d_ k (by simp [aV,CV.cells,aE]) _ (lb (lg k _ jr) jr);rcases bD with bD|⟨_,_,_,ho⟩
          · exact absurd bD.2.1 (by omega)
          have e3:=r6 J β hl;rw [Nat.div_one,<-ho.1]at e3;simp [Builtin.len_,run_underlying hu,SV.den,CV.den,At.den,goInt,e3]
        · exact h.elim
      · exact h.elim
    · rename_i el q p sz len cap;have wx:(decide (q<c.nb) && decide (p<c.np) && len.wf c && cap.wf c)=true:=hx;simp only [Bool.and_eq_true,decide_eq_true_eq]at wx;obtain⟨q1,h⟩:=za h;obtain⟨q2,h⟩:=za h;refine cP.pure h λJ hl=>⟨by simp,ty,rfl,λβ w v d_ hv => ?_⟩;rw [hv (by simp)];have p1:0<=len.den J:=by rw [IE.aa hl wx.1.2];exact q1
      have p2:J.b q=true->len.den J=0:=by
        rw [IE.aa hl wx.1.2,hl.b q wx.1.1.1];intro hb;rcases q2 with h'|h'
        · exact (h' hb).elim
        · exact h'
      simp only [SV.den,CV.den,At.den];split
      · rename_i hb;simp [Builtin.len_,run_underlying hu,goInt,p2 hb]
      · have:((len.den J).toNat:Int)=len.den J:=by omega
        simp [Builtin.len_,run_underlying hu,goInt,this]
    · rename_i i;obtain⟨n,c1,a_,r1,r2,r3,r4,r5,r6⟩:=E3 h;refine⟨_,c1,a_,r1,r2,r4,λJ hl=>⟨by simp,ty,rfl,λβ w v d_ hv => ?_⟩⟩;rw [hv (by simp)];have e:=r6 J hl;simp only [IP.den,SE.den]at e;have e2:(⟨(J.s i).toArray⟩:ByteArray).size=(J.s i).length:=by show (J.s i).toArray.size=_;simp
      simp [Builtin.len_,run_underlying hu,SV.den,CV.den,At.den,goInt,e2,e]
    · refine cP.pure h λJ _=>⟨by simp,ty,rfl,λβ w v d_ hv => ?_⟩;rw [hv (by simp)];simp [Builtin.len_,run_underlying hu,SV.den,CV.den,At.den,goInt,oA]
    · refine cP.pure h λJ _=>⟨by simp,ty,rfl,λβ w v d_ hv => ?_⟩;rw [hv (by simp)];simp [Builtin.len_,run_underlying hu,SV.den,CV.den,At.den,goInt,oA]
    · rename_i p ix sz len cap;obtain⟨q1,h⟩:=za h;have wx:((decide (p<c.np) && ix.wf c && len.wf c && cap.wf c))=true:=hx;simp only [Bool.and_eq_true]at wx;refine cP.pure h λJ hl=>⟨by simp,ty,rfl,λβ w v d_ hv => ?_⟩;rw [hv (by simp)];have q2:0<=len.den J:=by rw [IE.aa hl wx.1.2];exact q1
      simp [Builtin.len_,run_underlying hu,SV.den,CV.den,At.den,goInt,oA,q2];omega
    · rename_i l;refine cP.pure h λJ _=>⟨by simp,ty,rfl,λβ w v d_ hv => ?_⟩;rw [hv (by simp)];have e:(⟨l.toArray⟩:ByteArray).size=l.length:=by show l.toArray.size=_;simp
      simp [Builtin.len_,run_underlying hu,SV.den,CV.den,At.den,goInt,oA,e]
    · refine cP.pure h λJ _=>⟨by simp,ty,rfl,λβ w v d_ hv => ?_⟩;simp [Builtin.len_,run_underlying hu,SV.den,CV.den,At.den,goInt,oA]
    · rename_i k;generalize jr:aO o k=u2 at h;generalize hx:gg P ty=u3 at h;split at h;rotate_left
      · exact h.elim
      rename_i ce sz tc y;generalize rk:eo ce=u4 at h;split at h;rotate_left
      · clear rk;split at h;rotate_left
        · exact h.elim
        rename_i hc;obtain⟨rfl,rfl⟩:=hc;obtain⟨n,c1,a_,r1,r2,r3,r4,r5,r6⟩:=AQ h;refine⟨_,c1,a_,r1,r2,r4,λJ hl=>⟨by simp,ty,rfl,λβ w v d_ hv => ?_⟩⟩;rw [hv (by simp)];have bD:=d_ k (by simp [aV,CV.cells,aE]) _ (lb (lg k _ jr) jr);rcases bD with bD|⟨_,_,_,ho⟩
        · exact absurd bD.2.1 (by omega)
        obtain⟨es,clock,hb,eM,gW⟩:=(yY hx).1 ho;have hle:=E8 es.toList gW;rw [eM]at hle;simp only [Array.length_toList]at hle;have hp:0<y.ks.length+y.ne:=by have:=(ym hx).2.2.2.2.1;omega
        have hn:(aq J β ce).length / (y.ks.length+y.ne)=es.size:=by rw [hle,Nat.mul_div_cancel _ hp]
        have e3:=r6 J β hl;rw [hn]at e3;simp [Builtin.len_,run_underlying hu,SV.den,CV.den,At.den,goInt,e3,Go.MapKept.run_getObj_map hb]
      rename_i cs;split at h;rotate_left
      · exact h.elim
      rename_i hc;obtain⟨rfl,rfl⟩:=hc;refine cP.pure h λJ _=>⟨by simp,ty,rfl,λβ w v d_ hv => ?_⟩;rw [hv (by simp)];have bD:=d_ k (by simp [aV,CV.cells,aE]) _ (lb (lg k _ jr) jr);rcases bD with bD|⟨_,_,_,ho⟩
      · exact absurd bD.2.1 (by omega)
      obtain⟨es,clock,hb,eM,gW⟩:=(yY hx).1 ho;rw [EC J β rk]at eM;have hl:=E8 es.toList gW;rw [eM]at hl;simp only [List.length_map,Array.length_toList]at hl;have hp:0<y.ks.length+y.ne:=by have:=(ym hx).2.2.2.2.1;omega
      have hn:cs.length / (y.ks.length+y.ne)=es.size:=by rw [hl,Nat.mul_div_cancel _ hp]
      simp [Builtin.len_,run_underlying hu,SV.den,CV.den,At.den,goInt,oA,hn,Go.MapKept.run_getObj_map hb]
    · exact h.elim
theorem S_{c:ar}{mx:Bool}{x y:SV}{K:SV->ar->Env->Prop}{U:Env}(h:kZ (PA P W Q QM QP) c mx x y K U) :
  cP c U K λsv J=>sv ≠ .any/\x ≠ .any/\y ≠ .any/\∀β w,(if mx then Builtin.max2 (x.den J β) (y.den J β)else Builtin.min2 (x.den J β) (y.den J β)).run P w=.ok (sv.den J β) w:=by
 unfold kZ at h;split at h
 ·refine (zw h).mono λsv J _ hv=>⟨(hv b0).2,by simp,by simp,λβ w => ?_⟩;rw [(hv β).1];cases mx<;>simp [SV.den,CV.den,At.den,Builtin.max2,Builtin.min2,IP.den]
 ·exact h.elim
theorem yq{d:IE}{o:Option SV}{e:IE}(h:dc d o=some e):(o=none/\e=d)\/∃k,o=some (.cv (.one (.int k e))):=by
 unfold dc at h;split at h
 ·exact .inl ⟨rfl,by simpa using h.symm⟩
 ·rename_i k e';simp only [Option.some.injEq]at h;subst h;exact .inr ⟨k,rfl⟩
 ·cases h
theorem Fa{lo hi:Option Value}{n c:Nat}{l h:Int}(WH:Bool)(oE:(lo=none/\l=0)\/∃k,lo=some (.int k l))(rl:(hi=none/\h=n)\/∃k,hi=some (.int k h))(h0:0<=l)(h1:l<=h)(h2:h<=c)(w:World) :
  (Instr.sliceBounds WH n c lo hi none).run P w=.ok (l.toNat,h.toNat,c) w:=by
 have a1:0<=h:=by omega
 rcases oE with ⟨rfl,rfl⟩|⟨k,rfl⟩<;>rcases rl with ⟨rfl,rfl⟩|⟨k',rfl⟩
 ·simp [Instr.sliceBounds]
 ·simp [Instr.sliceBounds,Instr.sliceBound,asIntOf,a1,h2]
 ·simp [Instr.sliceBounds,Instr.sliceBound,asIntOf,h0,h1]
 ·have:l<=(h.toNat:Int):=by omega
  simp [Instr.sliceBounds,Instr.sliceBound,asIntOf,h0,h1,a1,h2,this];intro hx;omega
theorem Ta{c:ar}{t:TypeId}{x:SV}{lo hi:Option SV}{K:SV->ar->Env->Prop}{U:Env}(hx:x.wf c=true)(oE:∀v,lo=some v->v.wf c=true)(rl:∀v,hi=some v->v.wf c=true)(h:kY (PA P W Q QM QP) P c t x lo hi K U) :
  cP c U K λsv J=>sv ≠ .any/\x ≠ .any/\(∀v,lo=some v->v ≠ .any)/\(∀v,hi=some v->v ≠ .any) /\
   ∀β w,(Instr.sliceAt t (x.den J β) (lo.map (SV.den J β)) (hi.map (SV.den J β)) none).run P w=.ok (sv.den J β) w:=by
 have mF:∀{d e} {o:Option SV},dc d o=some e->∀v,o=some v->v ≠ .any:=by
  intro d e o ho v hv;rcases yq ho with ⟨h1,_⟩|⟨k,h1⟩
  ·rw [h1]at hv;cases hv
  ·rw [h1]at hv;cases hv;simp
 have Fb:∀{d e} {o:Option SV},dc d o=some e->d.wf c=true->(∀v,o=some v->v.wf c=true)->e.wf c=true:=by
  intro d e o ho hd hv;rcases yq ho with ⟨_,h1⟩|⟨k,h1⟩
  ·rw [h1];exact hd
  ·exact hv _ h1
 have mp:∀{d e} {o:Option SV} (J:Env) (β:Nat->Nat),dc d o=some e->(o.map (SV.den J β)=none/\e.den J=d.den J)\/∃k,o.map (SV.den J β)=some (.int k (e.den J)):=by
  intro d e o J β ho;rcases yq ho with ⟨h1,h2⟩|⟨k,h1⟩
  ·exact .inl ⟨by rw [h1];rfl,by rw [h2]⟩
  ·exact .inr ⟨k,by rw [h1];rfl⟩
 unfold kY at h;generalize hu:P.underlying t=u1 at h;split at h
 ·rename_i el p ix sz len cap;have wx:((decide (p<c.np) && ix.wf c && len.wf c && cap.wf c))=true:=hx;simp only [Bool.and_eq_true]at wx;generalize hz:aQ P el=u2 at h;generalize hl:dc (.lit 0) lo=u3 at h;generalize hh:dc len hi=u4 at h;split at h
  ·rename_i g s l hI;split at h
   ·rename_i hs;subst hs;have wl:=Fb hl rfl oE;have wh:=Fb hh wx.1.2 rl;obtain⟨q1,ha⟩:=za h;clear h;obtain⟨q2,h⟩:=za ha;clear ha;obtain⟨q3,ha⟩:=za h;clear h;obtain⟨q4,h⟩:=za ha;clear ha;obtain⟨q5,ha⟩:=za h;clear h;replace h:=ha;clear ha
    have tr:∀{J},Env.aC c U J->0<=len.den J/\len.den J<=cap.den J/\0<=l.den J/\l.den J<=hI.den J/\hI.den J<=cap.den J:=λhk=>by
     rw [IE.aa hk wx.1.2,IE.aa hk wx.2,IE.aa hk wl,IE.aa hk wh];exact⟨q1,q2,q3,q4,q5⟩
    have run:∀{J} (β:Nat->Nat) (w:World),Env.aC c U J ->
      (Instr.sliceAt t ((SV.cv (.one (.mL p ix s len cap))).den J β) (lo.map (SV.den J β)) (hi.map (SV.den J β)) none).run P w =
       .ok (.slice (if (cap.den J).toNat=(l.den J).toNat then some ⟨(J.p p).1,(J.p p).2+(ix.den J).toNat*s,none⟩else some ⟨(J.p p).1,(J.p p).2+(ix.den J).toNat*s+(l.den J).toNat*s,none⟩)
        ((hI.den J).toNat-(l.den J).toNat) ((cap.den J).toNat-(l.den J).toNat)) w:=by
     intro J β w hk;obtain⟨t1,t2,t3,t4,t5⟩:=tr hk
     have hb:=Fa (P:=P) (n:=(len.den J).toNat) (c:=(cap.den J).toNat) true (by
      rcases mp J β hl with ⟨m1,m2⟩|m1
      ·exact .inl ⟨m1,m2⟩
      ·exact .inr m1) (by
      rcases mp J β hh with ⟨m1,m2⟩|m1
      ·exact .inl ⟨m1,by rw [m2];omega⟩
      ·exact .inr m1) t3 t4 (by omega) w
     simp only [SV.den,CV.den,At.den,Instr.sliceAt,Sem.run_bind,run_underlying hu,Result.andThen_ok,Instr.slice,hb,ri hz,Sem.run_pure];split
     ·rfl
     ·simp [uR]
    split at h
    ·rename_i gx;subst gx;refine cP.pure h λJ hk=>⟨by simp,by simp,mF hl,mF hh,λβ w => ?_⟩;rw [run β w hk];simp only [oA,SV.den,CV.den,At.den,Int.toNat_zero,Nat.sub_zero,Nat.zero_mul,Nat.add_zero];split<;>rfl
    ·obtain⟨q6,h⟩:=za h;obtain⟨BZ,c1,a_,r1,r2,r3,r4,r5,r6⟩:=IF h;obtain⟨B0,c2,aB,s1,s2,s3,s4,s5,s6⟩:=IF r1;have Fc:c.le c2:=ar.le_trans r2 s2;have sW:Env.aC c U aB:=Env.aj r2 r4 s4;rcases zt s1 with ⟨hd,h⟩|⟨hd,h⟩
     ·obtain⟨Su,c3,DF,u1,u2,u3,u4,u5,u6⟩:=IF h;refine⟨_,c3,DF,u1,ar.le_trans Fc u2,Env.aj Fc sW u4,λJ hk=>⟨by simp,by simp,mF hl,mF hh,λβ w => ?_⟩⟩;have jW:=Env.aj u2 u4 hk;have vH:=Env.aj s2 s4 jW;have oc:=Env.aj r2 r4 vH;obtain⟨t1,t2,t3,t4,t5⟩:=tr oc;rw [run β w oc];have e1:=r6 J vH;have e2:=s6 J jW;have e3:=u6 J hk;simp only [IP.den]at e1 e2 e3;have p6:0<=ix.den J:=by rw [IE.aa oc wx.1.1.2];exact q6
      have p7:l.den J<cap.den J:=by
       rw [IE.aa (Env.aj Fc sW jW) wl,IE.aa (Env.aj Fc sW jW) wx.2];rw [<-IE.aa sW wl,<-IE.aa sW wx.2];simpa [BE.den,iz]using hd
      have n1:¬(cap.den J).toNat=(l.den J).toNat:=by omega
      rw [if_neg n1];simp only [SV.den,CV.den,At.den,e1,e2,e3];congr 2
      ·congr 2
       have:(ix.den J+l.den J).toNat=(ix.den J).toNat+(l.den J).toNat:=by omega
       rw [this,Nat.add_mul,Nat.add_assoc]
      ·omega
      ·omega
     ·refine⟨_,c2,aB,h,Fc,sW,λJ hk=>⟨by simp,by simp,mF hl,mF hh,λβ w => ?_⟩⟩;have vH:=Env.aj s2 s4 hk;have oc:=Env.aj r2 r4 vH;obtain⟨t1,t2,t3,t4,t5⟩:=tr oc;rw [run β w oc];have e1:=r6 J vH;have e2:=s6 J hk;simp only [IP.den]at e1 e2
      have p7:¬l.den J<cap.den J:=by
       rw [IE.aa oc wl,IE.aa oc wx.2,<-IE.aa sW wl,<-IE.aa sW wx.2];simpa [BE.den,iz]using hd
      have n1:(cap.den J).toNat=(l.den J).toNat:=by omega
      rw [if_pos n1];simp only [SV.den,CV.den,At.den,e1,e2];congr 2
      ·omega
      ·omega
   ·exact h.elim
  ·exact h.elim
 ·rename_i el k off len cap;generalize hz:aQ P el=u2 at h;generalize hl:dc (.lit 0) lo=u3 at h;generalize hh:dc (.lit len) hi=u4 at h;split at h
  ·rename_i g s l hI;split at h
   ·rename_i hc;obtain⟨c1,c2,c3⟩:=hc;refine cP.pure h λJ hk=>⟨by simp,by simp,mF hl,mF hh,λβ w => ?_⟩
    have hb:=Fa (P:=P) (n:=len) (c:=cap) (l:=l) (h:=hI) true (by
     rcases mp J β hl with ⟨m1,m2⟩|m1
     ·exact .inl ⟨m1,m2⟩
     ·exact .inr m1) (by
     rcases mp J β hh with ⟨m1,m2⟩|m1
     ·exact .inl ⟨m1,m2⟩
     ·exact .inr m1) c1 c2 c3 w
    simp only [SV.den,CV.den,At.den,Instr.sliceAt,Sem.run_bind,run_underlying hu,Result.andThen_ok,Instr.slice,hb,ri hz,Sem.run_pure];by_cases ju:l.toNat=cap
    ·rw [if_pos ju,if_pos ju.symm]
    ·rw [if_neg ju,if_neg (λe=>ju e.symm)];simp [uR]
   ·exact h.elim
  ·exact h.elim
 ·rename_i n el p j sz off;generalize hz:aQ P el=u2 at h;generalize hl:dc (.lit 0) lo=u3 at h;generalize hh:dc (.lit n) hi=u4 at h;split at h
  ·rename_i g s l hI;split at h
   ·rename_i hc;obtain⟨c1,c2,c3,c4,c5,c6,c7⟩:=hc;subst c4 c5;refine cP.pure h λJ hk=>⟨by simp,by simp,mF hl,mF hh,λβ w => ?_⟩
    have hb:=Fa (P:=P) (n:=n) (c:=n) (l:=l) (h:=hI) false (by
     rcases mp J β hl with ⟨m1,m2⟩|m1
     ·exact .inl ⟨m1,m2⟩
     ·exact .inr m1) (by
     rcases mp J β hh with ⟨m1,m2⟩|m1
     ·exact .inl ⟨m1,m2⟩
     ·exact .inr m1) c1 c2 c3 w
    simp only [SV.den,CV.den,At.den,IE.den,Int.toNat_zero,Nat.zero_mul,Nat.add_zero,Instr.sliceAt,Instr.sureAddr,Sem.run_bind,run_underlying hu,Result.andThen_ok,hb,ri hz,Sem.run_pure];have n1:(hI-l).toNat=hI.toNat-l.toNat:=by omega
    have n2:((n:Int)-l).toNat=n-l.toNat:=by omega
    by_cases ju:l.toNat=n
    ·rw [if_pos ju.symm,if_pos ju,n1,n2];simp
    ·rw [if_neg (λe=>ju e.symm),if_neg ju,n1,n2];simp [uR]
   ·exact h.elim
  ·exact h.elim
 ·rename_i n el k off;generalize hz:aQ P el=u2 at h;generalize hl:dc (.lit 0) lo=u3 at h;generalize hh:dc (.lit n) hi=u4 at h;split at h
  ·rename_i g s l hI;split at h
   ·rename_i hc;obtain⟨c1,c2,c3⟩:=hc;refine cP.pure h λJ hk=>⟨by simp,by simp,mF hl,mF hh,λβ w => ?_⟩
    have hb:=Fa (P:=P) (n:=n) (c:=n) (l:=l) (h:=hI) false (by
     rcases mp J β hl with ⟨m1,m2⟩|m1
     ·exact .inl ⟨m1,m2⟩
     ·exact .inr m1) (by
     rcases mp J β hh with ⟨m1,m2⟩|m1
     ·exact .inl ⟨m1,m2⟩
     ·exact .inr m1) c1 c2 c3 w
    simp only [SV.den,CV.den,At.den,Instr.sliceAt,Instr.sureAddr,Sem.run_bind,run_underlying hu,Result.andThen_ok,hb,ri hz,Sem.run_pure];by_cases ju:l.toNat=n
    ·rw [if_pos ju,if_pos ju.symm]
    ·rw [if_neg ju,if_neg (λe=>ju e.symm)];simp [uR]
   ·exact h.elim
  ·exact h.elim
 ·exact h.elim
theorem Tb{c:ar}{t:TypeId}{s:SE}{lo hi:Option SV}{K:SV->ar->Env->Prop}{U:Env}(hs:s.wf c=true)(h:kX (PA P W Q QM QP) P c t s lo hi K U) :
  cP c U K λsv J=>sv ≠ .any/\(∀v,lo=some v->v ≠ .any)/\(∀v,hi=some v->v ≠ .any) /\
   ∀β w,(Instr.sliceAt t (.string ⟨(s.den J).toArray⟩) (lo.map (SV.den J β)) (hi.map (SV.den J β)) none).run P w=.ok (sv.den J β) w:=by
 have ext:∀(l:List UInt8) (i j:Nat),(ByteArray.extract ⟨l.toArray⟩ i j)=⟨((l.drop i).take (j-i)).toArray⟩:=λl i j=>by
  apply ByteArray.ext;simp [ByteArray.data_extract,List.extract_eq_take_drop]
 have run:∀{J:Env} {l e:Int} {y8 od:Option Value},P.underlying t=some .string->((y8=none/\l=0)\/∃k,y8=some (.int k l))->((od=none/\e=((s.den J).length:Int))\/∃k,od=some (.int k e))->0<=l->l<=e->e<=((s.den J).length:Int) ->
   ∀w,(Instr.sliceAt t (.string ⟨(s.den J).toArray⟩) y8 od none).run P w=.ok (.string ⟨(((s.den J).drop l.toNat).take (e.toNat-l.toNat)).toArray⟩) w:=by
  intro J l e y8 od hu h1 h2 q0 q1 q2 w;have hb:=Fa (P:=P) (n:=(s.den J).length) (c:=(s.den J).length) false h1 h2 q0 q1 q2 w
  have hz:((⟨(s.den J).toArray⟩:ByteArray)).size=(s.den J).length:=by
   show (s.den J).toArray.size=_;simp
  simp only [Instr.sliceAt,Instr.slice,Sem.run_bind,run_underlying hu,Result.andThen_ok,Option.isSome_none,Bool.false_eq_true,if_false,hz,hb,Sem.run_pure,ext]
 unfold kX at h;generalize hu:P.underlying t=u1 at h;generalize hl:dc (.lit 0) lo=u3 at h;split at h
 ·rename_i l;split at h
  ·rename_i wl;obtain⟨n,c',ag,h1,h2,h3,h4,h5,h6⟩:=E3 h;obtain⟨sv,c2,aB,g1,g2,g3,g4⟩:=EV h1;refine⟨sv,c2,aB,g1,ar.le_trans h2 g2,Env.aj h2 h4 g3,λJ hk => ?_⟩;obtain⟨k1,k2,k3⟩:=g4 J hk;have en:=h6 J (Env.aj g2 g3 hk);simp only [SP.ok]at k1;refine⟨k2,λv hv => ?_,λv hv=>(by cases hv),λβ w => ?_⟩
   ·rcases yq hl with ⟨a1,_⟩|⟨k,a1⟩
    ·rw [a1]at hv;cases hv
    ·rw [a1]at hv;cases hv;simp
   ·rw [k3 β];simp only [SP.den];refine run hu ?_ (.inl ⟨rfl,by rw [en];rfl⟩) k1.1 k1.2.1 k1.2.2 w;rcases yq hl with ⟨a1,a2⟩|⟨k,a1⟩
    ·exact .inl ⟨by rw [a1];rfl,by rw [a2];rfl⟩
    ·exact .inr ⟨k,by rw [a1];rfl⟩
  ·exact h.elim
 ·rename_i l k0 e;obtain⟨sv,c2,aB,g1,g2,g3,g4⟩:=EV h;refine⟨sv,c2,aB,g1,g2,g3,λJ hk => ?_⟩;obtain⟨k1,k2,k3⟩:=g4 J hk;simp only [SP.ok]at k1;refine⟨k2,λv hv => ?_,λv hv=>(by cases hv;simp),λβ w => ?_⟩
  ·rcases yq hl with ⟨a1,_⟩|⟨k,a1⟩
   ·rw [a1]at hv;cases hv
   ·rw [a1]at hv;cases hv;simp
  ·rw [k3 β];simp only [SP.den];refine run hu ?_ (.inr ⟨k0,rfl⟩) k1.1 k1.2.1 k1.2.2 w;rcases yq hl with ⟨a1,a2⟩|⟨k,a1⟩
   ·exact .inl ⟨by rw [a1];rfl,by rw [a2];rfl⟩
   ·exact .inr ⟨k,by rw [a1];rfl⟩
 ·exact h.elim
theorem WI{c:ar}{t:TypeId}{x:SV}{lo hi:Option SV}{K:SV->ar->Env->Prop}{U:Env}(hx:x.wf c=true)(oE:∀ v,lo=some v->v.wf c=true)(rl:∀ v,hi=some v->v.wf c=true)(h:pF (PA P W Q QM QP) P c t x lo hi K U) :
    cP c U K λsv J=>sv ≠ .any/\x ≠ .any/\(∀v,lo=some v->v ≠ .any)/\(∀v,hi=some v->v ≠ .any) /\
      ∀β w,(Instr.sliceAt t (x.den J β) (lo.map (SV.den J β)) (hi.map (SV.den J β)) none).run P w=.ok (sv.den J β) w:=by
  unfold pF at h;split at h
  · rename_i q p sz len cap;have wx:(decide (q<c.nb) && decide (p<c.np) && len.wf c && cap.wf c)=true:=hx;simp only [Bool.and_eq_true,decide_eq_true_eq]at wx;obtain⟨q1,h⟩:=za h;obtain⟨q2,h⟩:=za h;refine (Ta (x := .cv (.one (.mL p (.lit 0) sz len cap))) ?_ oE rl h).mono λsv J hl hv => ?_
    · show (decide (p<c.np) && true && len.wf c && cap.wf c)=true;simp only [wx.1.1.2,wx.1.2,wx.2,decide_true,Bool.and_self]
    · obtain⟨v1,v2,v3,v4,v5⟩:=hv;refine⟨v1,by simp,v3,v4,λβ w => ?_⟩;have p0:¬J.b q=true:=by rw [hl.b q wx.1.1.1];exact q1
      have p2:0<cap.den J:=by rw [IE.aa hl wx.2];exact q2
      have q0:¬((len.den J).toNat=0/\(cap.den J).toNat=0):=by omega
      have:=v5 β w
      simpa [SV.den,CV.den,At.den,p0,oA,Kk q0]using this
  · rename_i l;refine (Tb (s := .lit l) rfl h).mono λsv J hl hv=>⟨hv.1,by simp,hv.2.1,hv.2.2.1,λβ w=>hv.2.2.2 β w⟩
  · rename_i i;refine (Tb (s := .var i) hx h).mono λsv J hl hv=>⟨hv.1,by simp,hv.2.1,hv.2.2.1,λβ w=>hv.2.2.2 β w⟩
  · rename_i k;generalize hu:P.underlying t=u1 at h;generalize hl:dc (.lit 0) lo=u3 at h;split at h;rotate_left
    · exact h.elim
    rename_i el l;generalize hz:aQ P el=u2 at h;cases u2 with
    |none=>exact h.elim
    |some gs =>
      obtain⟨g,s⟩:=gs;simp only at h;split at h;rotate_left
      · exact h.elim
      rename_i gx;subst gx;refine cP.pure h λJ _=>⟨by simp,by simp,λv hv => ?_,λv hv=>(by cases hv),λβ w => ?_⟩
      · rcases yq hl with ⟨a1,_⟩|⟨k,a1⟩
        · rw [a1]at hv;cases hv
        · rw [a1]at hv;cases hv;simp
      · have run:∀ (y8:Option Value),(y8=none\/∃ kk,y8=some (.int kk 0))->∀ (a:Option Addr) (n cp:Nat),(∀ x,a=some x->x.add 0=x)->(Instr.sliceAt t (.slice a n cp) y8 none none).run P w=.ok (.slice a n cp) w:=by
          intro y8 Lu a n cp ha
          have hm:a.map (·.add (0*s))=a:=by
            cases a with
            |none=>rfl
            |some x=>simp only [Option.map_some,Nat.zero_mul,ha x rfl]
          rcases Lu with rfl|⟨kk,rfl⟩
          · simp [Instr.sliceAt,Instr.slice,run_underlying hu,Instr.sliceBounds,ri hz];intro _;simpa using hm
          · simp [Instr.sliceAt,Instr.slice,run_underlying hu,Instr.sliceBounds,Instr.sliceBound,asIntOf,ri hz];intro _;simpa using hm
        have Fe:lo.map (SV.den J β)=none\/∃kk,lo.map (SV.den J β)=some (.int kk 0):=by
          rcases yq hl with ⟨a1,_⟩|⟨kk,a1⟩
          · left;rw [a1];rfl
          · right;exact⟨kk,by rw [a1];rfl⟩
        show (Instr.sliceAt t (cG _ _ _ _) _ none none).run P w=.ok (cG _ _ _ _) w;unfold cG;split
        · exact run _ Fe none 0 0 (λx hx=>by cases hx)
        · refine run _ Fe _ _ _ λx hx => ?_;cases hx;unfold Addr.add;split<;>simp_all
  · exact Ta hx oE rl h
theorem Ff{α:Type}{x:α}{l:Array α}(h:x∈l.toList):x∈l:=Array.mem_toList_iff.1 h
theorem zx{st:St}{U:Env}{β:Nat->Nat}{a:Act}(l:List Operand)(h:∀x∈l,a.eval x=(st.ev x).den U β):l.map a.eval=(l.map st.ev).map (SV.den U β):=by
 rw [List.map_map];exact List.map_congr_left h
theorem zf(s:Sem Value)(w:World)(v:Value)(h:s.run P w=.ok v w):((do pure (Next.value (<-s))):Sem Next).run P w=.ok (.value v) w:=by
 simp [h]
theorem Tc:∀{vs:List Value},(∀v∈vs,∃n:Int,v=.int .u8 n)->∃ns:List Int,vs=ns.map (Value.int .u8)/\vs.map qS=ns.map λn=>UInt8.ofNat n.toNat
  | [],_=>⟨[],rfl,rfl⟩
  |v::l,h=>by
    obtain⟨n,rfl⟩:=h v (List.mem_cons_self ..);obtain⟨ns,h1,h2⟩:=Tc λv hv=>h v (List.mem_cons_of_mem _ hv);exact⟨n::ns,by rw [h1];rfl,by simp only [List.map_cons,h2];rfl⟩
theorem Td:∀(ns:List Int) (l:List UInt8),ns.foldl (λ(r:ByteArray) n=>r.push (UInt8.ofNat n.toNat)) ⟨l.toArray⟩=⟨(l++ns.map λn=>UInt8.ofNat n.toNat).toArray⟩
  | [],l=>by simp
  |n::ns,l=>by
    simp only [List.foldl_cons]
    have e:(ByteArray.push ⟨l.toArray⟩ (UInt8.ofNat n.toNat))=⟨(l ++ [UInt8.ofNat n.toNat]).toArray⟩:=by
      apply ByteArray.ext;simp
    rw [e,Td ns];simp
theorem IQ{s d e:TypeId}(hs:P.underlying s=some (.slice e))(hd:P.underlying d=some .string)(he:P.underlying e=some (.int .u8)){vs:List Value}(hv:∀v∈vs,∃n:Int,v=.int .u8 n){a:Addr}{len cap:Nat}{w:World}(hl:vs.length=len)
  (hc:∀j v,vs[j]? = some v->w.cell? (a.add j)=some v):(convert s d (.slice (some a) len cap)).run P w=.ok (.string ⟨(vs.map qS).toArray⟩) w:=by
 obtain⟨ns,h1,h2⟩:=Tc hv;rw [run_convert_bytes_string w s d e (some a) len cap hs he hd]
 have:=run_loadCells_list (P:=P) w a vs hc
 rw [hl]at this;rw [run_bytesToString w a len cap ns (by rw [this,h1])];have e0:ByteArray.empty=⟨([]:List UInt8).toArray⟩:=rfl;rw [e0,Td,List.nil_append,h2]
theorem Lv{s d e:TypeId}(hs:P.underlying s=some (.slice e))(hd:P.underlying d=some .string)(he:P.underlying e=some (.int .u8))(w:World):(convert s d (.slice none 0 0)).run P w=.ok (.string ⟨#[]⟩) w:=by
 rw [run_convert_bytes_string w s d e none 0 0 hs he hd];rfl
theorem WJ{c:ar}{s d:TypeId}{x:SV}{a0:At}{U J:Env}{w:World}{L:List Value}(h:k8 P c s d x=some a0)(hL:e_ W.seen (a0.den U b0) 1 L)(hl:Env.aC c U J)(dB:∀{a:Addr} {u:Value},W.seen.cell? a=some u->w.cell? a=some u)
  (kN:∀v∈L,∃n:Int,v=.int .u8 n) (β:Nat->Nat):x ≠ .any/\(convert s d (x.den J β)).run P w=.ok (.string ⟨(L.map qS).toArray⟩) w:=by
 unfold k8 at h;generalize hs:P.underlying s=u1 at h;generalize hd:P.underlying d=u2 at h;split at h
 ·rename_i e;generalize he:P.underlying e=u3 at h;split at h
  ·rename_i a
   have key:∀(hf:a.flat=true) (hw:a.wf c=true) (e0:a=a0),(SV.cv (.one a)) ≠ .any/\(convert s d ((SV.cv (.one a)).den J β)).run P w=.ok (.string ⟨(L.map qS).toArray⟩) w:=by
    intro hf hw e0;subst e0;refine⟨by simp, ?_⟩
    have e1:(SV.cv (.one a)).den J β=a.den U b0:=by
     show a.den J β=_;rw [At.bC J β b0 hf];exact At.aa hl (λ_ _=>rfl) hw
    rw [e1];rcases hL with ⟨h1,h2⟩|⟨q,h1,h2⟩|⟨b,o,len,cap,h1,h2,h3⟩
    ·rw [h1,h2,Lv hs hd he];rfl
    ·rw [h1,h2];exact IQ (vs := []) hs hd he (λv hv=>by cases hv) rfl (λj v hj=>by simp at hj)
    ·rw [h1];refine IQ hs hd he kN (by omega) λj v hj => ?_;rw [show (⟨b,o,none⟩:Addr).add j=⟨b,o+j,none⟩ by simp [Addr.add]];exact dB (h3 j v hj)
   split at h
   ·split at h
    ·rename_i hw;simp only [Option.some.injEq]at h;exact key rfl hw h
    ·cases h
   ·split at h
    ·rename_i hw;simp only [Option.some.injEq]at h;exact key rfl hw h
    ·cases h
   ·cases h
  ·cases h
 ·cases h
theorem WK{m:Mem}{o:bA}(lg:lf m o){s d:TypeId}{x:SV}{ce:CE}{U:Env}{β:Nat->Nat}{w:World}(h:bytesOf P m o s d x=some ce)(kN:(SP.row ce).ok U)(d_:fV W m o (aE (aV x)) U β w) :
  x ≠ .any/\(convert s d (x.den U β)).run P w=.ok (.string ⟨((SP.row ce).den U).toArray⟩) w:=by
 unfold bytesOf at h;generalize hs:P.underlying s=u1 at h;generalize hd:P.underlying d=u2 at h;split at h
 ·rename_i e;generalize he:P.underlying e=u3 at h;split at h
  ·simp only [SP.ok]at kN;simp only [SP.den];unfold AH at h;split at h
   ·rename_i k;generalize hg:aO o k=u4 at h;split at h
    ·rename_i fN sz ty;split at h
     ·rename_i hc;simp only [Option.some.injEq]at h;subst h;obtain⟨rfl,hf⟩:=hc;refine⟨by simp, ?_⟩;have bD:=(d_ k (by simp [aV,CV.cells,aE]) _ (lb (lg k _ hg) hg)).fz Nat.zero_lt_one;have mR:=B' U β (λ_=>0) hf;rw [mR]at bD;show (convert s d (if β (k+1)=0 then .slice none 0 0 else .slice (some ⟨β k,β (k+3),none⟩) (β (k+2)) (β (k+1)-1):Value)).run P w=_;have hl:(aq U (λ_=>0) fN).length=β (k+2):=by have:=bD.1;omega
      by_cases h0:β (k+1)=0
      ·rw [if_pos h0,Lv hs hd he]
       have:β (k+2)=0:=by
        rcases bD.2.2 with ⟨_,h1⟩|⟨h1,_⟩
        ·exact h1
        ·omega
       have:aq U (λ_=>0) fN=[]:=List.eq_nil_of_length_eq_zero (by omega)
       rw [this];rfl
      ·rw [if_neg h0];refine IQ hs hd he kN hl λj v hj => ?_;rcases bD.2.2 with ⟨_,h1⟩|⟨_,h2,_⟩
       ·have:=(List.getElem?_eq_some_iff.1 hj).1
        omega
       ·have:=Li bD hj
        rw [h2,show (⟨β k,0,none⟩:Addr).add j=⟨β k,j,none⟩ by simp only [Addr.add];split<;>simp_all];exact this
     ·cases h
    ·cases h
   ·rename_i k off len cap;generalize hg:getM m k=u4 at h;split at h
    ·rename_i cs t;split at h
     ·rename_i hc;simp only [Option.some.injEq]at h;subst h;refine⟨by simp, ?_⟩;obtain⟨_,hh⟩:=d_ k (by simp [aV,CV.cells,aE]) _ (o5 hg);have mR:∀a∈(cs.drop off).take len,a.flat=true:=λa ha=>List.all_eq_true.1 hc.2 a (List.mem_of_mem_drop (List.mem_of_mem_take ha))
      have e1:aq U (λ_=>0) [.cu ((cs.drop off).take len)]=((cs.drop off).take len).map (At.den U β):=by
       simp only [aq,Sg.den,List.append_nil];exact List.map_congr_left λa ha=>At.bC U (λ_=>0) β (mR a ha)
      rw [e1]at kN ⊢;show (convert s d (.slice (some ⟨β k,off,none⟩) len cap)).run P w=_;refine IQ hs hd he kN (by simp;omega) λj v hj => ?_;rw [show (⟨β k,off,none⟩:Addr).add j=⟨β k,off+j,none⟩ by simp [Addr.add],yW hh];simp only [List.getElem?_map,Option.map_eq_some_iff]at hj;obtain⟨a,ha,rfl⟩:=hj
      have yX:j<len:=by
       rcases Nat.lt_or_ge j len with h'|h'
       ·exact h'
       ·rw [List.getElem?_eq_none (by simp;omega)]at ha;cases ha
      rw [List.getElem?_take_of_lt yX,List.getElem?_drop]at ha;simp [ha]
     ·cases h
    ·cases h
   ·simp only [Option.some.injEq]at h;subst h;exact⟨by simp,by rw [show (SV.cv (.one .eR)).den U β=.slice none 0 0 from rfl,Lv hs hd he];rfl⟩
   ·cases h
  ·cases h
 ·cases h
theorem Lw{t:TypeId}{cs:List At}{off:Nat}{v:CV}(h:partOf P t cs off=some v){U:Env}{g:Nat}{w:World}(hc:∀ j a,cs[j]? = some a->w.cell? ⟨g,j,none⟩=some (a.den U b0))(β:Nat->Nat)(hf:cs.all At.flat=true) :
    (Instr.loadAt t (.pointer (some ⟨g,off,none⟩))).run P w=.ok (v.den U β) w:=by
  unfold partOf at h;generalize hz:aQ P t=u at h;split at h
  · rename_i n;split at h
    · rename_i hle;cases h;have hl:(((cs.drop off).take n).map (At.den U b0)).length=n:=by simp;omega
      have:=DR hz w g off _ hl (λj u hj=>by
        rw [List.getElem?_map]at hj;rw [List.getElem?_take]at hj;split at hj
        · rw [List.getElem?_drop]at hj;cases hx:cs[off+j]? with
          |none=>rw [hx]at hj;cases hj
          |some a =>
            rw [hx]at hj;simp only [Option.map_some,Option.some.injEq]at hj;rw [<-hj];exact hc _ _ hx
        · cases hj)
      rw [show Instr.loadAt t (.pointer (some ⟨g,off,none⟩))=Instr.loadAt t (.pointer (some ⟨g,off,none⟩)) from rfl];have e:((cs.drop off).take n).map (At.den U β)=((cs.drop off).take n).map (At.den U b0):=DQ U β b0 (List.all_eq_true.2 λx hx=>List.all_eq_true.1 hf x (List.mem_of_mem_drop (List.mem_of_mem_take hx)));simp only [CV.den,e];exact this
    · cases h
  · rename_i n;cases hx:cs[off]? with
    |none=>rw [hx]at h;cases h
    |some a =>
      rw [hx]at h;simp only [Option.map_some,Option.some.injEq]at h;subst h;simp only [CV.den];rw [At.bC U β b0 (List.all_eq_true.1 hf a (List.mem_of_getElem? hx))];exact DT hz w g off _ (hc _ _ hx)
  · cases h
theorem Te{k:cr}{x:SV}{b:Bool}(h:kC k x=some b){U:Env}(hk:cr.den k U)(β:Nat->Nat):x ≠ .any/\(b=true->x.den U β=.nilIface)/\(b=false->∃t v,x.den U β=.iface t v):=by
  unfold kC at h;split at h
  · cases h;exact⟨by simp,⟨λ_=>rfl,λh=>(by cases h)⟩⟩
  · rename_i i;generalize hf:ga k i=u at h;cases u with
    |none=>cases h
    |some z =>
      obtain⟨t,v⟩:=z;cases h;exact⟨by simp,⟨λh=>(by cases h),λ_=>⟨_,_,hk _ (BU hf)⟩⟩⟩
  · cases h
theorem Lx(d:Nat){t:TypeId}{ms}(w:World)(h:P.underlying t=some (.interface ms)):(Op.equalIn (d+1) t .nilIface .nilIface).run P w=.ok true w:=by
 simp [Op.equalIn,run_underlying h]
theorem Ly(d:Nat){t:TypeId}{ms}(u:TypeId)(v:Value)(w:World)(h:P.underlying t=some (.interface ms)):(Op.equalIn (d+1) t .nilIface (.iface u v)).run P w=.ok false w:=by
 simp [Op.equalIn,run_underlying h]
theorem Lz(d:Nat){t:TypeId}{ms}(u:TypeId)(v:Value)(w:World)(h:P.underlying t=some (.interface ms)):(Op.equalIn (d+1) t (.iface u v) .nilIface).run P w=.ok false w:=by
 simp [Op.equalIn,run_underlying h]
theorem WL(op:BinOp)(t:TypeId)(x y:Operand)(a b:Value)(ha:a=.nilIface\/∃u v,a=.iface u v)(hb:b=.nilIface\/∃u v,b=.iface u v)(hc:oZ x=true\/oZ y=true)(w:World):(eqGuard op t x y a b).run P w=.ok () w:=by
 rcases hc with h|h
 ·cases x<;>first
   | (simp [oZ]at h;done)
   | (rcases ha with rfl|⟨u,v,rfl⟩<;>rcases hb with rfl|⟨u',v',rfl⟩<;>cases op<;>simp [eqGuard])
 ·cases y<;>first
   | (simp [oZ]at h;done)
   | (rcases ha with rfl|⟨u,v,rfl⟩<;>rcases hb with rfl|⟨u',v',rfl⟩<;>cases op<;>simp [eqGuard])
theorem Tf{a b:Value}(ha:a=.nilIface\/∃u v,a=.iface u v)(t:TypeId):(binOp .eql t a b=do pure (.bool (<-Op.equal t a b)))/\(binOp .neq t a b=do pure (.bool (!(<-Op.equal t a b)))):=by
 rcases ha with rfl|⟨u,v,rfl⟩<;>exact⟨rfl,rfl⟩
theorem WM{k:cr}{op:BinOp}{t:TypeId}{xo yo:Operand}{x y:SV}{b:Bool}(h:nj P k op t xo yo x y=some b){U:Env}(hk:cr.den k U)(β:Nat->Nat)(w:World):x ≠ .any/\y ≠ .any /\
    ((do eqGuard op t xo yo (x.den U β) (y.den U β);binOp op t (x.den U β) (y.den U β)):Sem Value).run P w=.ok (.bool b) w:=by
  unfold nj at h;generalize hu:P.underlying t=u at h;split at h
  · rename_i ms;generalize hx:kC k x=u1 at h;generalize hy:kC k y=u2 at h;split at h
    · rename_i a b';split at h
      · rename_i hc;obtain⟨x0,x1,x2⟩:=Te hx hk β;obtain⟨y0,y1,y2⟩:=Te hy hk β
        have hX:x.den U β=.nilIface\/∃u v,x.den U β=.iface u v:=by
          cases a with
          |true=>exact .inl (x1 rfl)
          |false=>exact .inr (x2 rfl)
        have hY:y.den U β=.nilIface\/∃u v,y.den U β=.iface u v:=by
          cases b' with
          |true=>exact .inl (y1 rfl)
          |false=>exact .inr (y2 rfl)
        have heq:(Op.equal t (x.den U β) (y.den U β)).run P w=.ok (a == b') w:=by
          unfold Op.equal;rw [show Op.maxDepth=9999+1 from rfl];cases a with
          |true =>
            rw [x1 rfl];cases b' with
            |true=>rw [y1 rfl];exact Lx _ w hu
            |false=>obtain⟨q,v,e⟩:=y2 rfl;rw [e];exact Ly _ _ _ w hu
          |false =>
            obtain⟨q,v,e⟩:=x2 rfl;rw [e];cases b' with
            |true=>rw [y1 rfl];exact Lz _ _ _ w hu
            |false=>simp at hc
        refine⟨x0,y0, ?_⟩;rw [Sem.run_bind,WL _ _ _ _ _ _ hX hY hc.2,Result.andThen_ok];split at h
        · rename_i ho;subst ho;cases h;rw [(Tf hX t).1];simp [heq]
        · split at h
          · rename_i ho;subst ho;cases h;rw [(Tf hX t).2];simp [heq]
          · cases h
      · cases h
    · cases h
  · cases h
theorem WN{k:cr}{c:ar}{x:SV}{xT asserted:TypeId}{ok:Bool}{K:SV->ar->Env->Prop}{U:Env}(wQ:cr.wf k c)(hk:cr.den k U)(h:doAssert (PA P W Q QM QP) P k c x asserted ok K U) :
    cP c U K λsv J=>sv ≠ .any/\x ≠ .any/\∀β w,(Instr.typeAssert (x.den J β) xT asserted ok).run P w=.ok (sv.den J β) w:=by
  unfold doAssert at h;generalize hu:P.underlying asserted=u at h;split at h
  · exact h.elim
  · rename_i d i wR;generalize hf:ga k i=u2 at h;cases u2 with
    |none=>exact h.elim
    |some z =>
      obtain⟨t,v⟩:=z;simp only at h;have hm:=BU hf;have hw:=wQ _ hm;simp only [Kn.wf,Bool.and_eq_true]at hw
      have val:∀{J},Env.aC c U J->∀β,(SV.cv (.one (.val i))).den J β=.iface t (v.den J β):=λ{J} hl β=>by
        have h1:(Kn.jy i t v).den J:=Kn.aa hl (wQ _ hm) (hk _ hm);simp only [Kn.den]at h1;show (J.v i).1=_;rw [h1,CV.bC J β (λ_=>0) hw.2.2]
      split at h
      · rename_i ht;refine cP.pure h λJ hl=>⟨by cases ok<;>simp,by simp,λβ w => ?_⟩;rw [val hl]
        cases d<;>first
          | (exact (wR _ rfl).elim)
          | (cases ok<;>simp [Instr.typeAssert,run_underlying hu,ht,SV.den,CV.den,At.den,BE.den])
      · rename_i ht;split at h
        · rename_i kN;subst kN;generalize hz:c_ P asserted=u3 at h;cases u3 with
          |none=>exact h.elim
          |some z =>
            refine cP.pure h λJ hl=>⟨by simp,by simp,λβ w => ?_⟩;have h0:=(AR hz J β w c).1;rw [val hl]
            cases d<;>first
              | (exact (wR _ rfl).elim)
              | (simp [Instr.typeAssert,run_underlying hu,ht,h0,SV.den,CV.den,At.den,BE.den])
        · exact h.elim
  · rename_i d wR;split at h
    · rename_i kN;subst kN;generalize hz:c_ P asserted=u3 at h;cases u3 with
      |none=>exact h.elim
      |some z =>
        refine cP.pure h λJ hl=>⟨by simp,by simp,λβ w => ?_⟩;have h0:=(AR hz J β w c).1
        cases d<;>first
          | (exact (wR _ rfl).elim)
          | (simp [Instr.typeAssert,run_underlying hu,h0,SV.den,CV.den,At.den,BE.den])
    · exact h.elim
  · exact h.elim
theorem WO{t:TypeId}{name:String}{f:FuncId}(h:methodOf P t name=some f)(n:Nat)(v:Value)(w:World):(method (n+1) t v name).run P w=.ok (f,v) w:=by
 unfold methodOf at h;generalize hi:P.info? t=u1 at h;generalize hu:P.underlying t=u2 at h;split at h
 ·rename_i i d;generalize hm:i.methods.find? (·.name == name)=u3 at h;split at h
  ·rename_i m;generalize hf:m.func=u4 at h;generalize hp:m.path.toList=u5 at h;split at h
   ·rename_i f';simp only [method,Sem.run_bind,run_typeInfo _ hi,Result.andThen_ok,hm,hp,follow,Sem.run_pure,hf,receiverAt,run_underlying hu]
    cases d<;>first
     | (cases h;done)
     | (cases h;simp [Place.get])
   ·cases h
  ·cases h
 ·cases h
theorem Tg{t:TypeId}{name:String}{f:FuncId}(h:methodOf P t name=some f){ev:Operand->Value}{r:Operand}{v:Value}{args:Array Operand}{argTypes:Array TypeId}{dst:Option Tmp}{type:TypeId}{pos after guard}(er:ev r=.iface t v){all:Array Value}(ec:#[v]++args.map ev=all)(w:World) :
  (execOp ev ⟨dst,.call ⟨.invoke r name,args,argTypes⟩,type,pos,after,guard⟩).run P w=(callFunc f all).run P w:=by
 have hm:=WO h (P.types.size+(Made.depth-1)) v w;have hd:P.types.size+Made.depth=P.types.size+(Made.depth-1)+1:=by simp [Made.depth]
 simp only [execOp,resolve,Sem.run_bind,Sem.run_pure,Result.andThen_ok,invoke,er]
 have e0:(#[Value.iface t v]++Array.map ev args)[0]? = some (Value.iface t v):=by
  rw [Array.getElem?_append_left (by simp)];rfl
 have e1:(#[Value.iface t v]++Array.map ev args).extract 1 (#[Value.iface t v]++Array.map ev args).size=Array.map ev args:=by
  apply Array.ext';simp only [Array.toList_extract,Array.toList_append,Array.size_append];simp [List.extract];exact List.take_of_length_le (by simp)
 simp only [e0,e1,callMethod,Sem.run_bind,run_program,Result.andThen_ok,hd,hm,<-ec]
theorem LA{G:bV}(hG:G.Ok){st:St}{o:Oper}{K:SV->ar->Env->Prop}{U:Env}(wf:st.WF)(hk:cr.den st.k U)(h:wq (PA G.P W Q QM QP) G st o K U) :
    cP st.c U K λsv J=>bK G.P W st o sv J:=by
  obtain⟨dst,op,type,pos,after,guard⟩:=o;unfold wq at h;cases op
  case move x =>
    refine cP.pure h λJ _=>bK.run λβ a w hB ho hr=>⟨a.eval x,by simp [execOp],λhn=>ho x (by simp [Op.operands]) hn⟩
  case assign x =>
    refine cP.pure h λJ _=>bK.run λβ a w hB ho hr=>⟨a.eval x,by simp [execOp],λhn=>ho x (by simp [Op.operands]) hn⟩
  case pick x y z =>
    simp only at h;generalize hx:st.ev x=sx at h;split at h
    · rename_i e;have we:e.wf st.c=true:=by have:=wf.ev x;rw [hx]at this;exact this
      rcases zt h with ⟨hd,h⟩|⟨hd,h⟩
      · refine cP.pure h λJ hl=>bK.run λβ a w hB ho hr=>⟨a.eval y, ?_,λhn=>ho y (by simp [Op.operands]) hn⟩;have hc:=ho x (by simp [Op.operands]) (by rw [hx];simp);rw [hx]at hc;simp only [SV.den,CV.den,At.den,BE.aa hl we,hd]at hc;simp [execOp,hc,asBool]
      · refine cP.pure h λJ hl=>bK.run λβ a w hB ho hr=>⟨a.eval z, ?_,λhn=>ho z (by simp [Op.operands]) hn⟩;have hc:=ho x (by simp [Op.operands]) (by rw [hx];simp);rw [hx]at hc;simp only [SV.den,CV.den,At.den,BE.aa hl we,hd]at hc;simp [execOp,hc,asBool]
    · exact h.elim
  case load t x =>
    simp only at h;generalize rW:k7 G st.k st.c t (st.ev x)=gl at h;cases gl with
    |none =>
    simp only at h;refine (Wx wf.ap h).mono λsv J hl hv=>bK.run λβ a w hB ho hr=>⟨sv.den J β, ?_,λ_=>rfl⟩;obtain⟨h1,h2,h3⟩:=hv;have e1:=ho x (by simp [Op.operands]) h1;simp only [execOp,e1];exact zf _ w _ (h3 β w hB hr)
    |some z =>
    obtain⟨g,cs,ty,v⟩:=z;simp only at h;obtain⟨⟨ty2,mk2,hh⟩,h⟩:=h;unfold k7 at rW;split at rW;rotate_left
    · cases rW
    rename_i p j sz off hx;generalize hp:oR st.k p=u1 at rW;cases u1 with
    |none=>cases rW
    |some g' =>
    simp only at rW;generalize dE:G.ba.lookup g'=u2 at rW;cases u2 with
    |none=>cases rW
    |some cz =>
    obtain⟨jt,ER⟩:=cz;simp only at rW;generalize qD:partOf G.P t jt (j.toNat*sz+off)=u3 at rW;cases u3 with
    |none=>cases rW
    |some v' =>
    simp only at rW;split at rW;rotate_left
    · cases rW
    rename_i pP;simp only [Option.some.injEq,Prod.mk.injEq]at rW;obtain⟨rfl,rfl,rfl,rfl⟩:=rW;have gV:=Kp hp;refine cP.pure h λJ hl=>bK.run λβ a w hB ho hr=>⟨(SV.cv v').den J β, ?_,λ_=>rfl⟩;have mE:J.p p=(g',0):=Kn.aa hl (wf.k _ gV) (hk _ gV);have e1:=ho x (by simp [Op.operands]) (by rw [hx];simp);rw [hx]at e1
    have e1:a.eval x=.pointer (some ⟨g',0+j.toNat*sz+off,none⟩):=by
      rw [e1];show Value.pointer (some ⟨(J.p p).1,(J.p p).2+j.toNat*sz+off,none⟩)=_;rw [mE]
    simp only [execOp,e1];refine zf _ w _ ?_
    have dB:∀j a,jt[j]? = some a->w.cell? ⟨g',j,none⟩=some (a.den J b0):=λj a ha=>by
      refine hB.cell ?_;rw [yW hh j];simp only [List.getElem?_toArray,List.getElem?_map,ha,Option.map_some];rw [At.aa hl (λ_ _=>rfl) (List.all_eq_true.1 pP.1 a (List.mem_of_getElem? ha))]
    have iN:=Lw qD dB β pP.2;rw [show (0:Nat)+j.toNat*sz+off=j.toNat*sz+off from by omega];exact iN
  case nilCheck x =>
    simp only at h;generalize hx:st.ev x=sx at h;split at h
    all_goals first
      |exact h.elim
      | (refine cP.pure h λJ hl=>bK.run λβ a w hB ho hr=>⟨a.eval x, ?_,λhn => ?_⟩
         · have hc:=ho x (by simp [Op.operands]) (by rw [hx];simp);rw [hx]at hc;simp [execOp,hc,SV.den,CV.den,At.den]
         · have hc:=ho x (by simp [Op.operands]) (by rw [hx];simp);rw [hx]at hc;exact hc)
  case binOp op t x y yt =>
    simp only at h;generalize oe:lG G.P st.o op t (st.ev x) (st.ev y)=on at h;cases on with
    |some cs =>
    obtain⟨ce,sz⟩:=cs;simp only at h;unfold lG at oe;split at oe;rotate_left
    · cases oe
    rename_i WQ;generalize hu:G.P.underlying t=u1 at oe;generalize AP:st.ev x=sx at oe;generalize ID:st.ev y=sy at oe;split at oe;rotate_left
    · cases oe
    rename_i el k;generalize hg:aO st.o k=u2 at oe;split at oe;rotate_left
    · cases oe
    rename_i fN vE t';split at oe;rotate_left
    · cases oe
    rename_i hz;simp only [Option.some.injEq,Prod.mk.injEq]at oe;obtain⟨rfl,rfl⟩:=oe;obtain⟨n,c1,a_,r1,r2,r3,r4,r5,r6⟩:=AQ h;obtain⟨q1,q2⟩:=za r1;refine⟨_,_,a_,q2,r2,r4,λJ hl=>bK.run λβ a w hB ho hr=>⟨.bool (decide (op=.neq)), ?_,λ_=>rfl⟩⟩;have e1:=ho x (by simp [Op.operands]) (by rw [AP];simp);have e2:=ho y (by simp [Op.operands]) (by rw [ID];simp);rw [AP]at e1;rw [ID]at e2;have bD:=(hr k (by simp [bd,AP]) _ (lb (wf.ap k _ hg) hg)).fz hz
    have hn:0<(aq J β fN).length / vE:=by
      have h1:=r6 J β hl;have h2:0<n.den a_:=q1;rw [<-IE.aa hl r5,h1]at h2;omega
    have Fg:β (k+1)≠0:=by
      rcases bD.2.2 with ⟨_,h1⟩|⟨h1,_⟩
      · rw [bD.1,h1,Nat.zero_mul]at hn;simp at hn
      · omega
    simp only [SV.den,CV.den,At.den,cG,if_neg Fg]at e1 e2;simp only [execOp,e1,e2];refine zf _ w _ ?_;have heq:(Op.equal t (.slice (some ⟨β k,β (k+3),none⟩) (β (k+2)) (β (k+1)-1)) (.slice none 0 0)).run G.P w=.ok false w:=K9 9999 _ _ _ w hu;rw [Sem.run_bind,SK _ _ _ _ _ _ rfl,Result.andThen_ok];rcases WQ with rfl|rfl
    · rw [(K5 _ rfl t).1];simp [heq]
    · rw [(K5 _ rfl t).2];simp [heq]
    |none =>
    simp only at h;generalize y_:nj G.P st.k op t x y (st.ev x) (st.ev y)=ie at h;cases ie with
    |some bb =>
    simp only at h;refine cP.pure h λJ hl=>bK.run λβ a w hB ho hr=>⟨.bool bb, ?_,λ_=>rfl⟩;obtain⟨q1,q2,q3⟩:=WM y_ (cr.aa hl wf.k hk) β w;have e1:=ho x (by simp [Op.operands]) q1;have e2:=ho y (by simp [Op.operands]) q2;simp only [execOp,e1,e2];exact zf _ w _ q3
    |none =>
    simp only at h;have hx:st.ev x ≠ .any:=by intro he;rw [he]at h;cases hy:st.ev y<;>rw [hy]at h<;>exact h
    have hy:st.ev y ≠ .any:=by
      intro he;rw [he]at h;cases zA:st.ev x with
      |cv q=>rw [zA]at h;cases q with
        |one q=>cases q<;>exact h
        |agg q=>exact h
      |_=>rw [zA]at h;exact h
    refine (Wp (wf.ev x) (wf.ev y) h).mono λsv J hl hv=>bK.run λβ a w hB ho hr=>⟨sv.den J β, ?_,λ_=>rfl⟩;have e1:=ho x (by simp [Op.operands]) hx;have e2:=ho y (by simp [Op.operands]) hy;simp only [execOp,e1,e2];exact zf _ w _ (hv.2 β w x y)
  case lookup t x i ok =>
    simp only at h;refine (WA wf.ap h).mono λsv J hl hv=>bK.run λβ a w hB ho hr=>⟨sv.den J β, ?_,λ_=>rfl⟩;obtain⟨v1,v2,v3,v4⟩:=hv;have e1:=ho x (by simp [Op.operands]) v1;have e2:=ho i (by simp [Op.operands]) v2;simp only [execOp,e1,e2];exact zf _ w _ (v4 β w λk hk=>hr k (by simpa [bd]using hk))
  case typeAssert x xt asserted ok =>
    simp only at h;refine (WN (xT:=xt) wf.k hk h).mono λsv J hl hv=>bK.run λβ a w hB ho hr=>⟨sv.den J β, ?_,λ_=>rfl⟩;have e1:=ho x (by simp [Op.operands]) hv.2.1;simp only [execOp,e1];exact zf _ w _ (hv.2.2 β w)
  case unOp op t x =>
    simp only at h;refine (Le h).mono λsv J hl hv=>bK.run λβ a w hB ho hr=>⟨sv.den J β, ?_,λ_=>rfl⟩;have e1:=ho x (by simp [Op.operands]) hv.2.1;simp only [execOp,e1];exact zf _ w _ (hv.2.2 β w)
  case convert s d x =>
    simp only at h;generalize mb:bytesOf G.P st.m st.o s d (st.ev x)=WR at h
    cases WR with
    |some ce =>
    simp only at h;refine (EV h).mono λsv J hl hv=>bK.run λβ a w hB ho hr=>⟨sv.den J β, ?_,λ_=>rfl⟩;obtain⟨v1,v2,v3⟩:=hv;obtain⟨b1,b2⟩:=WK (W:=W) wf.ap mb v1 (λk hk=>hr k (by simpa [bd]using hk));have e1:=ho x (by simp [Op.operands]) b1;rw [v3 β];simp only [execOp,e1];exact zf _ w _ b2
    |none =>
    simp only at h;generalize tW:k8 G.P st.c s d (st.ev x)=ab at h;cases ab with
    |some B4 =>
      simp only at h;obtain⟨L,hL,h⟩:=h;have hle:st.c.le {st.c with nl:=st.c.nl+1}:=⟨Nat.le_refl _,Nat.le_refl _,Nat.le_refl _,Nat.le_refl _,Nat.le_refl _,Nat.le_refl _,Nat.le_succ _⟩;obtain⟨sv,c2,aB,g1,g2,g3,g4⟩:=EV h;refine⟨sv,c2,aB,g1,ar.le_trans hle g2,Env.aj hle (tV st.c U L) g3,λJ hk=>bK.run λβ a w hB ho hr=>⟨sv.den J β, ?_,λ_=>rfl⟩⟩;obtain⟨v1,v2,v3⟩:=g4 J hk;have lk:Env.aC {st.c with nl:=st.c.nl+1} (U.kP st.c.nl L) J:=Env.aj g2 g3 hk
      have eL:aq J (λ_=>0) [.var st.c.nl]=L.map (·.1):=by
        simp only [aq,Sg.den,List.append_nil];rw [lk.l st.c.nl (Nat.lt_succ_self _)];exact congrArg (List.map λy:OV=>y.1) (if_pos rfl)
      obtain⟨b1,b2⟩:=WJ tW hL (Env.aj hle (tV st.c U L) (Env.aj g2 g3 hk)) (λ{a u} ha=>hB.cell ha) (by simp only [SP.ok,eL]at v1;exact v1) β;have e1:=ho x (by simp [Op.operands]) b1;rw [v3 β];simp only [execOp,e1,SP.den,eL];exact zf _ w _ b2
    |none =>
    simp only at h;refine (Wq h).mono λsv J hl hv=>bK.run λβ a w hB ho hr=>⟨sv.den J β, ?_,λ_=>rfl⟩;have e1:=ho x (by simp [Op.operands]) hv.2.1;simp only [execOp,e1];exact zf _ w _ (hv.2.2 β w)
  case field t x f =>
    simp only at h;refine (Wr h).mono λsv J hl hv=>bK.run λβ a w hB ho hr=>⟨sv.den J β, ?_,λ_=>rfl⟩;have e1:=ho x (by simp [Op.operands]) hv.2.1;simp only [execOp,e1];exact zf _ w _ (hv.2.2 β w)
  case fieldAddr t x f =>
    simp only at h;refine (Ws h).mono λsv J hl hv=>bK.run λβ a w hB ho hr=>⟨sv.den J β, ?_,λ_=>rfl⟩;have e1:=ho x (by simp [Op.operands]) hv.2.1;simp only [execOp,e1];exact zf _ w _ (hv.2.2 β w)
  case indexAddr t x i =>
    simp only at h;refine (Wu wf.ap (wf.ev x) (wf.ev i) h).mono λsv J hl hv=>bK.run λβ a w hB ho hr=>⟨sv.den J β, ?_,λ_=>rfl⟩;have e1:=ho x (by simp [Op.operands]) hv.2.1.1;have e2:=ho i (by simp [Op.operands]) hv.2.1.2;simp only [execOp,e1,e2];exact zf _ w _ (hv.2.2 β w hr)
  case index t x i =>
    simp only at h;refine (Wv (wf.ev x) (wf.ev i) h).mono λsv J hl hv=>bK.run λβ a w hB ho hr=>⟨sv.den J β, ?_,λ_=>rfl⟩;have e1:=ho x (by simp [Op.operands]) hv.2.1.1;have e2:=ho i (by simp [Op.operands]) hv.2.1.2;simp only [execOp,e1,e2];exact zf _ w _ (hv.2.2 β w)
  case extract x i =>
    simp only at h;generalize hx:st.ev x=sx at h;split at h
    · rename_i l;generalize hi:l[i]? = u at h;split at h
      · rename_i v;refine cP.pure h λJ _=>bK.run λβ a w hB ho hr=>⟨(SV.cv v).den J β, ?_,λ_=>rfl⟩;have e1:=ho x (by simp [Op.operands]) (by rw [hx];simp);rw [hx]at e1;simp only [execOp,e1];refine zf _ w _ ?_;simp [SV.den,Instr.extract,hi]
      · exact h.elim
    · exact h.elim
  case build t parts =>
    simp only at h;have fw:=WD h;refine (Ww h).mono λsv J hl hv=>bK.run λβ a w hB ho hr=>⟨sv.den J β, ?_,λ_=>rfl⟩
    have e1:(parts.map λx=>(x.1,a.eval x.2))=((parts.toList.map λp=>(p.1,st.ev p.2)).map λp=>(p.1,p.2.den J β)).toArray:=by
      rw [List.map_map];apply Array.ext';rw [Array.toList_map];apply List.map_congr_left;intro p hp
      have:=ho p.2 (by simp only [Op.operands];exact Ff (by simpa using ⟨p.1,Array.mem_toList_iff.1 hp⟩)) (fw (p.1,st.ev p.2) (List.mem_map.2 ⟨p,hp,rfl⟩))
      simp [this]
    simp only [execOp];refine zf _ w _ ?_
    have:=hv.2 β w
    rw [<-e1]at this;exact this
  case slice t x lo hi mx =>
    cases mx with
    |some m=>exact h.elim
    |none =>
      simp only at h;refine (WI (wf.ev x) (λv hv => ?_) (λv hv => ?_) h).mono λsv J hl hv=>bK.run λβ a w hB ho hr=>⟨sv.den J β, ?_,λ_=>rfl⟩
      · cases lo<;>simp at hv;subst hv;exact wf.ev _
      · cases hi<;>simp at hv;subst hv;exact wf.ev _
      · obtain⟨v1,v2,v3,v4,v5⟩:=hv;have e1:=ho x (by simp [Op.operands]) v2
        have e2:lo.map a.eval=(lo.map st.ev).map (SV.den J β):=by
          cases lo with
          |none=>rfl
          |some l=>simp only [Option.map_some];rw [ho l (by simp [Op.operands]) (v3 _ rfl)]
        have e3:hi.map a.eval=(hi.map st.ev).map (SV.den J β):=by
          cases hi with
          |none=>rfl
          |some l=>simp only [Option.map_some];rw [ho l (by simp [Op.operands]) (v4 _ rfl)]
        simp only [execOp,e1,e2,e3,Option.map_none];exact zf _ w _ (v5 β w)
  case makeFunc fn first aK =>
    cases fn<;>simp only at h<;>first
      |exact h.elim
      |skip
    rename_i f;split at h
    · rename_i hf;generalize hl:fT (aK.toList.map st.ev)=u at h;split at h
      · rename_i l;obtain⟨q1,q2⟩:=E' _ hl;refine cP.pure h λJ _=>bK.run λβ a w hB ho hr=>⟨_, ?_,λ_=>rfl⟩
        have e1:aK.map a.eval=(l.map λc=>(.pointer (some ⟨β c.1,c.2,none⟩):Value)).toArray:=by
          rw [<-q2 J β];apply Array.ext';rw [Array.toList_map];exact zx _ λx hx=>ho x (by simp only [Op.operands];exact Array.mem_append.2 (.inr (Array.mem_toList_iff.1 hx))) (q1 _ (List.mem_map.2 ⟨x,hx,rfl⟩))
        have e2:first=#[]:=Array.size_eq_zero_iff.1 hf
        subst e2;simp only [execOp];refine zf _ w _ ?_;simp [Instr.makeFunc,e1,SV.den,CV.den,At.den]
      · exact h.elim
    · generalize hq:fT (first.toList.map st.ev)=u0 at h;generalize hl:fT (aK.toList.map st.ev)=u at h;split at h
      · rename_i q l;obtain⟨q1,q2⟩:=E' _ hl;obtain⟨q3,q4⟩:=E' _ hq;refine cP.pure h λJ _=>bK.run λβ a w hB ho hr=>⟨_, ?_,λ_=>rfl⟩
        have e1:aK.map a.eval=(l.map λc=>(.pointer (some ⟨β c.1,c.2,none⟩):Value)).toArray:=by
          rw [<-q2 J β];apply Array.ext';rw [Array.toList_map];exact zx _ λx hx=>ho x (by simp only [Op.operands];exact Array.mem_append.2 (.inr (Array.mem_toList_iff.1 hx))) (q1 _ (List.mem_map.2 ⟨x,hx,rfl⟩))
        have e2:first.map a.eval=(q.map λc=>(.pointer (some ⟨β c.1,c.2,none⟩):Value)).toArray:=by
          rw [<-q4 J β];apply Array.ext';rw [Array.toList_map];exact zx _ λx hx=>ho x (by simp only [Op.operands];exact Array.mem_append.2 (.inl (Array.mem_toList_iff.1 hx))) (q3 _ (List.mem_map.2 ⟨x,hx,rfl⟩))
        simp only [execOp];refine zf _ w _ ?_;simp [Instr.makeFunc,e1,e2,SV.den,CV.den,At.den]
      · rename_i l;obtain⟨q1,q2⟩:=E' _ hl;generalize IS:first.toList.map st.ev=fl at h
        split at h;rotate_left
        · exact h.elim
        rename_i cs;generalize WS:aW.DG cs=u2 at h;split at h;rotate_left
        · exact h.elim
        rename_i r;refine cP.pure h λJ _=>bK.run λβ a w hB ho hr=>⟨_, ?_,λ_=>rfl⟩
        have e1:aK.map a.eval=(l.map λc=>(.pointer (some ⟨β c.1,c.2,none⟩):Value)).toArray:=by
          rw [<-q2 J β];apply Array.ext';rw [Array.toList_map];exact zx _ λx hx=>ho x (by simp only [Op.operands];exact Array.mem_append.2 (.inr (Array.mem_toList_iff.1 hx))) (q1 _ (List.mem_map.2 ⟨x,hx,rfl⟩))
        have e2:first.map a.eval=#[.agg (r.map (aW.den J β)).toArray]:=by
          apply Array.ext'
          rw [Array.toList_map,zx (st:=st) (U:=J) (β:=β) _ λx hx=>ho x (by simp only [Op.operands];exact Array.mem_append.2 (.inl (Array.mem_toList_iff.1 hx))) (by
            have:st.ev x∈first.toList.map st.ev:=List.mem_map.2 ⟨x,hx,rfl⟩
            rw [IS]at this;simp only [List.mem_singleton]at this;rw [this];simp)]
          rw [IS]
          have:cs.map (At.den J β)=r.map (aW.den J β):=by
            rw [<-aW.vW WS,List.map_map];exact List.map_congr_left λx _=>aW.vX J β x
          simp only [List.map_cons,List.map_nil,SV.den,CV.den,this]
        simp only [execOp];refine zf _ w _ ?_;simp [Instr.makeFunc,e1,e2,SV.den,CV.den,At.den]
      · exact h.elim
  case call cl =>
    obtain⟨callee,args,argTypes⟩:=cl;cases callee
    case invoke r m =>
      simp only at h;generalize AS:st.ev r=sr at h;split at h
      · rename_i i;generalize hf:ga st.k i=u1 at h;cases u1 with
        |none=>exact h.elim
        |some z =>
        obtain⟨t,v⟩:=z;simp only at h;generalize hm:methodOf G.P t m=u2 at h;cases u2 with
        |none=>exact h.elim
        |some f =>
        simp only at h;have gK:=BU hf;have uU:=wf.k _ gK;simp only [Kn.wf,Bool.and_eq_true]at uU;refine (S0 hG wf.ap (λk cs t hm=>(wf.m k cs t hm).2) (λk ce sz t hm=>(wf.o k ce sz t hm).2) h).mono λsv J hl hv => ?_;obtain⟨h1,h2,h3⟩:=hv;intro β a w hB ho hr next Q' hn
        have er:=ho r (by simp [Op.operands,Call.operands]) (by rw [AS];simp);rw [AS]at er;have hd:(Kn.jy i t v).den J:=Kn.aa hl (wf.k _ gK) (hk _ gK);simp only [Kn.den]at hd
        have er:a.eval r=.iface t (v.den J β):=by
          rw [er];show (J.v i).1=_;rw [hd,CV.bC J (λ_=>0) β uU.2.2]
        have ea:(args.map a.eval).toList=(args.toList.map st.ev).map (SV.den J β):=by
          rw [Array.toList_map];exact zx _ λx hx=>ho x (by simp only [Op.operands,Call.operands];exact Array.mem_append.2 (.inr (Array.mem_toList_iff.1 hx))) (h2 _ (List.mem_cons_of_mem _ (List.mem_map.2 ⟨x,hx,rfl⟩)))
        have ec:#[v.den J β]++args.map a.eval=(((SV.cv v)::args.toList.map st.ev).map (SV.den J β)).toArray:=by
          apply Array.ext';rw [Array.toList_append,ea];simp [SV.den]
        have hx:(execOp a.eval ⟨dst,.call ⟨.invoke r m,args,argTypes⟩,type,pos,after,guard⟩).run G.P w=(callFunc f (((SV.cv v)::args.toList.map st.ev).map (SV.den J β)).toArray).run G.P w:=Tg hm er ec w
        have d_:fV W st.m st.o (aE (cC st.m st.o ((SV.cv v)::args.toList.map st.ev))) J β w:=λk hk=>hr k (by
          simp only [bd,AS,hf];exact hk)
        unfold Oper.wp;rw [hx];rcases h3 β w hB d_ with h4|⟨h4,h5⟩
        · rw [h4,Oper.upon_value];exact hn _ w (λ_=>rfl) (Below.refl _ _)
        · rw [h4,Oper.upon_enter]
          exact h5.mono λe w' he=>by
            obtain⟨rfl,hb⟩:=he;exact hn _ w' (λ_=>rfl) hb
      · exact h.elim
    case builtin b =>
      cases b<;>simp only at h<;>first
        |exact h.elim
        |skip
      case len =>
        generalize ha:args.toList=al at h;split at h
        · rename_i x;refine (WG wf.ap (wf.ev x) h).mono λsv J hl hv=>bK.run λβ a w hB ho hr=>⟨sv.den J β, ?_,λ_=>rfl⟩;obtain⟨h1,ty,h2,h3⟩:=hv;have ea:args=#[x]:=by apply Array.ext';rw [ha]
          subst ea;have e1:=ho x (by simp [Op.operands,Call.operands]);have h4:=h3 β w (a.eval x) (by simpa [bd]using hr) e1;have ht:argTypes[0]? = some ty:=h2
          have h5:(Builtin.len_ argTypes type #[a.eval x]).run G.P w=.ok (sv.den J β) w:=by
            have:Builtin.len_ argTypes type #[a.eval x]=Builtin.len_ #[ty] ty #[a.eval x]:=by simp only [Builtin.len_,ht];rfl
            rw [this];exact h4
          simp [execOp,resolve,invoke,builtin,h5]
        · exact h.elim
      case max =>
        generalize ha:args.toList=al at h;split at h
        · rename_i x y;refine (S_ h).mono λsv J hl hv=>bK.run λβ a w hB ho hr=>⟨sv.den J β, ?_,λ_=>rfl⟩;obtain⟨h1,h2,h3,h4⟩:=hv;have ea:args=#[x,y]:=by apply Array.ext';rw [ha]
          subst ea;have e1:=ho x (by simp [Op.operands,Call.operands]) h2;have e2:=ho y (by simp [Op.operands,Call.operands]) h3;have h5:=h4 β w;rw [<-e1,<-e2]at h5;simp only [if_true]at h5;simp [execOp,resolve,invoke,builtin,Builtin.max_,h5]
        · exact h.elim
      case min =>
        generalize ha:args.toList=al at h;split at h
        · rename_i x y;refine (S_ h).mono λsv J hl hv=>bK.run λβ a w hB ho hr=>⟨sv.den J β, ?_,λ_=>rfl⟩;obtain⟨h1,h2,h3,h4⟩:=hv;have ea:args=#[x,y]:=by apply Array.ext';rw [ha]
          subst ea;have e1:=ho x (by simp [Op.operands,Call.operands]) h2;have e2:=ho y (by simp [Op.operands,Call.operands]) h3;have h5:=h4 β w;rw [<-e1,<-e2]at h5;simp only [Bool.false_eq_true,if_false]at h5;simp [execOp,resolve,invoke,builtin,Builtin.min_,h5]
        · exact h.elim
    case value g =>
      simp only at h
      have main:∀ (f:FuncId) (first aK:List (Nat × Nat)) (all:List SV),all=(first.map fun x=>SV.cv (.one (.loc x.1 x.2)))++(args.toList.map st.ev++aK.map fun x=>SV.cv (.one (.loc x.1 x.2))) ->
          st.ev g ≠ .any ->
          (∀(J:Env) (β:Nat->Nat),(st.ev g).den J β=.func (.func f) (first.map λc=>.pointer (some ⟨β c.1,c.2,none⟩)).toArray (aK.map λc=>.pointer (some ⟨β c.1,c.2,none⟩)).toArray) ->
          (∀k∈aE (cC st.m st.o all),k∈bd st ⟨dst,.call ⟨.value g,args,argTypes⟩,type,pos,after,guard⟩) ->
          lF (PA G.P W Q QM QP) G st.m st.o st.c f all K U ->
          cP st.c U K λsv J=>bK G.P W st ⟨dst,.call ⟨.value g,args,argTypes⟩,type,pos,after,guard⟩ sv J:=by
        intro f first aK all cH wS wT Cc h
        refine (S0 hG wf.ap (λk cs t hm=>(wf.m k cs t hm).2) (λk ce sz t hm=>(wf.o k ce sz t hm).2) h).mono λsv J hl hv => ?_;obtain⟨h1,h2,h3⟩:=hv;intro β a w hB ho hr next Q' hn
        have eg:=ho g (by simp [Op.operands,Call.operands]) wS;rw [wT J β]at eg
        have ea:(args.map a.eval).toList=(args.toList.map st.ev).map (SV.den J β):=by
          rw [Array.toList_map];exact zx _ λx hx=>ho x (by simp only [Op.operands,Call.operands];exact Array.mem_append.2 (.inr (Array.mem_toList_iff.1 hx))) (h2 _ (by rw [cH];exact List.mem_append.2 (.inr (List.mem_append.2 (.inl (List.mem_map.2 ⟨x,hx,rfl⟩))))))
        have ec:(first.map λc=>(.pointer (some ⟨β c.1,c.2,none⟩):Value)).toArray++args.map a.eval++(aK.map λc=>(.pointer (some ⟨β c.1,c.2,none⟩):Value)).toArray=(all.map (SV.den J β)).toArray:=by
          apply Array.ext';rw [Array.toList_append,Array.toList_append,ea,cH];simp [SV.den,CV.den,At.den,Function.comp_def]
        have hx:(execOp a.eval ⟨dst,.call ⟨.value g,args,argTypes⟩,type,pos,after,guard⟩).run G.P w=(callFunc f (all.map (SV.den J β)).toArray).run G.P w:=by
          simp only [execOp,resolve,eg,Deferred.ofValue,Sem.run_bind,Sem.run_pure,Result.andThen_ok,invoke];rw [<-ec]
        have d_:fV W st.m st.o (aE (cC st.m st.o all)) J β w:=λk hk=>hr k (Cc k hk);unfold Oper.wp;rw [hx];rcases h3 β w hB d_ with h4|⟨h4,h5⟩
        · rw [h4,Oper.upon_value];exact hn _ w (λ_=>rfl) (Below.refl _ _)
        · rw [h4,Oper.upon_enter]
          exact h5.mono λe w' he=>by
            obtain⟨rfl,hb⟩:=he;exact hn _ w' (λ_=>rfl) hb
      have app:∀(l1 l2:List At),aE (l1++l2)=aE l1++aE l2:=by
        intro l1 l2
        induction l1 with
        |nil=>rfl
        |cons x l1 ih=>cases x<;>simp [aE,ih]
      generalize hg:st.ev g=sg at h;split at h
      · rename_i f aK;refine main f [] aK _ (by simp) (by rw [hg];simp) (λJ β=>by rw [hg];rfl) (λk hk => ?_) h;simp only [bd,hg];exact hk
      · rename_i f first aK
        refine main f first aK _ rfl (by rw [hg];simp) (λJ β=>by rw [hg];rfl) (λk hk => ?_) h
        simp only [bd,hg];exact hk
      · exact h.elim
  all_goals exact h.elim
end Vc
set_option linter.unusedVariables false
namespace Vc
open Go Go.RowKit
variable {P:Program} {W:eJ} {Q:Value->Prop} {QM QP:World->Value->Prop}
theorem uV{w:World}{b:Nat}{o:Obj}(h:w.heap[b]? = some o):b<w.heap.size:=(Array.getElem?_eq_some_iff.1 h).1
theorem zj(t:List (Nat × SV))(d i:Nat)(v:SV):ay ((d,v)::t) i=if d=i then v else ay t i:=by
 show (match Nat.beq d i with|true=>v|false=>ay t i)=_;cases h:Nat.beq d i with
 |true=>rw [if_pos (Nat.eq_of_beq_eq_true h)]
 |false=>rw [if_neg (Nat.ne_of_beq_eq_false h)]
theorem DY(m:Mem)(d i:Nat)(v:List At × TypeId):getM ((d,v)::m) i=if d=i then some v else getM m i:=rfl
theorem zy(m:bA)(d i:Nat)(v:CE × Nat × TypeId):aO ((d,v)::m) i=if d=i then some v else aO m i:=rfl
theorem LB:∀(o:bA) (k i:Nat),aO (uM o k) i=if k=i then none else aO o i
  | [],k,i=>by simp [uM,aO]
  | (j,v)::r,k,i=>by
    simp only [uM];by_cases hj:j=k
    · subst hj;rw [if_pos rfl,LB r j i,zy];by_cases hi:j=i
      · rw [if_pos hi,if_pos hi]
      · rw [if_neg hi,if_neg hi,if_neg hi]
    · rw [if_neg hj,zy,zy,LB r k i];by_cases hi:j=i
      · rw [if_pos hi,if_pos hi,if_neg (λe=>hj (hi.trans e.symm))]
      · rw [if_neg hi,if_neg hi]
theorem yr:∀(l:List Nat) (o:bA) (i:Nat),aO (bZ o l) i=if i∈l then none else aO o i
  | [],o,i=>by simp [bZ]
  |k::l,o,i=>by
    simp only [bZ,yr l,LB,List.mem_cons];by_cases h1:i∈l
    · simp [h1]
    · by_cases h2:k=i
      · simp [h2]
      · have:¬i=k:=λe=>h2 e.symm
        simp [h1,h2,this]
theorem Cd:∀(o:bA) (k i:Nat) (ce:CE),aO (dS o k ce) i=if k=i then (aO o i).map (λx=>(ce,x.2))else aO o i
  | [],k,i,ce=>by simp [dS,aO]
  | (j,v)::r,k,i,ce=>by
    simp only [dS];by_cases hj:j=k
    · subst hj;rw [if_pos rfl];simp only [zy];by_cases hi:j=i
      · simp [hi]
      · simp [hi]
    · rw [if_neg hj];simp only [zy,Cd r k i ce];by_cases hi:j=i
      · subst hi;rw [if_pos rfl,if_neg (λh=>hj h.symm),if_pos rfl]
      · simp [hi]
theorem uW:∀(m:Mem) (k i:Nat) (cs:List At),getM (jA m k cs) i=if k=i then (getM m i).map (λx=>(cs,x.2))else getM m i
  | [],k,i,cs=>by simp [jA,getM]
  | (j,v)::r,k,i,cs=>by
    simp only [jA];by_cases hj:j=k
    · subst hj;rw [if_pos rfl];simp only [DY];by_cases hi:j=i
      · simp [hi]
      · simp [hi]
    · rw [if_neg hj];simp only [DY,uW r k i cs];by_cases hi:j=i
      · subst hi;rw [if_pos rfl,if_neg (λh=>hj h.symm),if_pos rfl]
      · simp [hi]
theorem LC(w:World)(g k:Nat)(cs:Array Value)(h:k≠g):(w.setRow g cs).heap[k]? = w.heap[k]? := by
 simp only [World.setRow,Array.getElem?_modify];rw [if_neg (by omega)]
theorem Th{t:TypeId}{g:Bool}{n:Nat}(hz:aQ P t=some (g,n))(w:World)(b o:Nat)(v:Value)(cur:Array Value)(ty:TypeId)(hb:w.heap[b]? = some (.cells cur ty))(hn:v.cells.size=n)(ho:o+n<=cur.size)
  (h1:∀x∈v.cells.toList,x.oneCell'=true) :
  (Instr.storeAt t (ptr b o) v).run P w=.ok () (w.setRow b (cur.toList.take o++v.cells.toList++cur.toList.drop (o+n)).toArray):=by
 have mc:=run_storeCells_at P b o ty v.cells.toList 0 cur w hb (by simp [hn];exact ho) h1;simp only [Array.length_toList,hn,Nat.add_zero]at mc;simp [Instr.storeAt,ptr,Instr.sureAddr,storeVar,ri hz,hn,mc]
theorem zr{c:ar}{l:List At}(h:l.all (At.wf c)=true)(n:Nat):(l.take n).all (At.wf c)=true/\(l.drop n).all (At.wf c)=true :=
 ⟨List.all_eq_true.2 λx hx=>List.all_eq_true.1 h x (List.mem_of_mem_take hx),List.all_eq_true.2 λx hx=>List.all_eq_true.1 h x (List.mem_of_mem_drop hx)⟩
theorem CV.dK{c:ar}:∀{v:CV},v.wf c=true->v.cells.all (At.wf c)=true
 | .one a,h=>by simpa [CV.cells,CV.wf]using h
 | .agg l,h=>h
theorem LD{α β:Type}(f:α->β)(l:List α):∀n,(times l n).map f=times (l.map f) n
 |0=>rfl
 |n+1=>by simp [times,LD f l n]
theorem IT{α:Type}(l:List α):∀n,(times l n).length=n*l.length
 |0=>by simp [times]
 |n+1=>by simp [times,IT l n,Nat.add_mul,Nat.add_comm]
theorem Ti{α:Type}(l:List α)(hl:0<l.length):∀n i,i<n*l.length->(times l n)[i]? = l[i % l.length]?
  |0,i,h=>by omega
  |n+1,i,h=>by
    simp only [times];by_cases hi:i<l.length
    · rw [List.getElem?_append_left hi,Nat.mod_eq_of_lt hi]
    · rw [Nat.succ_mul]at h;rw [List.getElem?_append_right (by omega),Ti l hl n (i-l.length) (by omega)];congr 1;exact (Nat.mod_eq_sub_mod (by omega)).symm
theorem Tj(z:Array Value)(n:Nat)(hz:0<z.size):(Array.range (n*z.size)).map (λi=>z[i % z.size]!)=(times z.toList n).toArray:=by
 apply Array.ext';apply List.ext_getElem?;intro i;simp only [Array.toList_map,Array.toList_range,List.getElem?_map,List.getElem?_range'];by_cases hi:i<n*z.size
 ·rw [List.getElem?_range hi,Ti _ (by simpa using hz) n i (by simpa using hi)]
  have:i % z.size<z.size:=Nat.mod_lt _ hz
  simp [this]
 ·rw [List.getElem?_eq_none (by simp;omega),List.getElem?_eq_none (by simp [IT];omega)];rfl
theorem fb{a:Act}{d:Nat}{v:Value}(i:Nat)(hd:d<a.tmps.size):(a.put (some d) v).tmps[i]? = if d=i then some v else a.tmps[i]? := by
 simp only [Act.put];by_cases h:d=i
 ·subst h;simp [hd]
 ·rw [if_neg h,Array.getElem?_setIfInBounds_ne h]
theorem LF(a:Act)(dst:Option Tmp)(v:Value):(a.put dst v).tmps.size=a.tmps.size:=by
 cases dst<;>simp [Act.put]
theorem LG(a:Act)(dst:Option Tmp)(v:Value):(a.put dst v).defers=a.defers:=by
 cases dst<;>rfl
def bM(β:Nat->Nat)(k:Nat):qB->Option Nat
 | .fix _ _=>some (β k)
 | .row _ _ _=>if 2<=β (k+1)then some (β k)else none
def o7(c:ar)(k:Nat):qB->Prop
 | .fix cs _=>k<c.nk/\cs.all (At.wf c)=true
 | .row ce _ _=>k+3<c.nk/\cw c ce=true
def cO:Sg->List Nat
 | .cu l=>aN l
 | .var _=>[]
def fe:qB->List Nat
 | .fix cs _=>aN cs
 | .row ce _ _=>ce.flatMap cO
theorem St.WF.eO{st:St}(h:st.WF){k:Nat}{e:qB}(hg:aM st.m st.o k=some e):o7 st.c k e:=by
  unfold aM at hg;cases hm:getM st.m k with
  |some x =>
    rw [hm]at hg;simp only [Option.some.injEq]at hg;subst hg;exact h.m k x.1 x.2 hm
  |none =>
    rw [hm]at hg;cases ho:aO st.o k with
    |some x =>
      rw [ho]at hg;simp only [Option.some.injEq]at hg;subst hg;exact h.o k x.1 x.2.1 x.2.2 ho
    |none=>rw [ho]at hg;cases hg
theorem DZ{c:ar}{k:Nat}:∀{e:qB},o7 c k e->k<c.nk
 | .fix ..,h=>h.1
 | .row ..,h=>by have:=h.1;omega
theorem Holds.wU{U:Env}{β:Nat->Nat}{k:Nat}{w:World}:∀{e:qB},Holds W U β k e w->∀b,bM β k e=some b->(b∈W.pN\/W.heap.size<=b)/\b<w.heap.size/\∃o,w.heap[b]? = some o/\Datum o
  | .fix cs t,h,b,hb=>by
    simp only [bM,Option.some.injEq]at hb;subst hb;exact⟨h.1.out,uV h.2,_,h.2,trivial⟩
  | .row ce sz t,h,b,hb=>by
    simp only [bM]at hb;split at hb
    · rename_i hc;simp only [Option.some.injEq]at hb;subst hb;obtain⟨ob,h3,h4⟩:=bT.datum h hc;exact⟨(bT.own h hc).out,uV h3,_,h3,h4⟩
    · cases hb
theorem Holds.eK{U ag:Env}{β an:Nat->Nat}{c:ar}{k:Nat}{w w':World}:∀ {e:qB},Holds W U β k e w->o7 c k e->Env.aC c U ag->(∀ j,j < c.nk->an j=β j) ->
    (∀b,bM β k e=some b->w'.heap[b]? = w.heap[b]?)->Holds W ag an k e w'
  | .fix cs t,h,hw,hl,hb,hh=>by
    refine⟨by rw [hb k hw.1];exact h.1, ?_⟩;rw [hb k hw.1,yJ hl hb hw.2,hh _ rfl];exact h.2
  | .row ce sz t,h,hw,hl,hb,hh=>by
    have h1:=hw.1;simp only [Holds]at h ⊢;rw [hb k (by omega),hb (k+1) (by omega),hb (k+2) (by omega),hb (k+3) (by omega),vC hl hb hw.2];exact h.heap λh2=>hh (β k) (by simp only [bM,h2,if_true])
theorem Fh{β an:Nat->Nat}{c:ar}{k:Nat}:∀{e:qB},o7 c k e->(∀j,j<c.nk->an j=β j)->bM an k e=bM β k e
 | .fix ..,hw,hb=>by simp only [bM,hb k hw.1]
 | .row ..,hw,hb=>by have:=hw.1;simp only [bM,hb k (by omega),hb (k+1) (by omega)]
def recAt(r:Loop):Option Ex->Loop
 |none => {r with state := .ready,pending:=none}
 |some .normal => {r with state := .busy,pending:=none}
 |some (.exit id) => {r with state := .done,pending:=some (.exit id)}
 |some .ret => {r with state := .done,pending:=some .ret}
 |some (.jz _)=>r
def marksOf(β:Nat->Nat)(d:List Nat):List Deferred:=d.map λk => {target := .collected (β k),args := #[]}
def fW(β:Nat->Nat)(df:List (FuncId × List (Nat × Nat))):List Deferred:=df.map λx => {target := .fn (.func x.1) (x.2.map λc=>(.pointer (some ⟨β c.1,c.2,none⟩):Value)).toArray,args := #[]}
theorem IU{β an:Nat->Nat}{n:Nat}{df:List (FuncId × List (Nat × Nat))}(h:∀x∈df,∀y∈x.2,y.1<n)(hb:∀k,k<n->an k=β k):fW an df=fW β df:=by
 simp only [fW];refine List.map_congr_left λx hx => ?_;congr 3;exact List.map_congr_left λy hy=>by rw [hb y.1 (h x hx y hy)]
structure Core(W:eJ)(R:Nat->Loop)(Z:List Nat)(U:Env)(β:Nat->Nat)(st:St)(a:Act)(w:World):Prop where
 size:a.tmps.size=st.n
 tmps:∀i,ay st.t i ≠ .any->a.tmps[i]? = some ((ay st.t i).den U β)
 kE:a.defers=fW β st.df++marksOf β st.d
 below:dT W w
 mem:∀k e,aM st.m st.o k=some e->Holds W U β k e w
 inj:∀k k' e e' b,aM st.m st.o k=some e->aM st.m st.o k'=some e'->bM β k e=some b->bM β k' e'=some b->k=k'
 fX:∀k e,fu st.r k=some e->W.heap.size<=β k/\w.heap[β k]? = some (.loop (recAt (R k) e))
 kt:∀k k' e e',fu st.r k=some e->fu st.r k'=some e'->β k=β k'->k=k'
 gQ:∀b∈Z++st.d.map β,W.heap.size<=b/\w.heap[b]? = some (.deferred (some []))
 dn:(Z++st.d.map β).Nodup
 wf:st.WF
 kn:cr.den st.k U
variable {R:Nat->Loop} {Z:List Nat}
theorem LI{U:Env}{st:St}(h:cr.den st.k U){g:Nat}(hn:st.ev (.global g) ≠ .any)(β:Nat->Nat):Value.pointer (some ⟨g,0,none⟩)=(st.ev (.global g)).den U β:=by
  simp only [St.ev]at hn ⊢;generalize hf:oQ st.k g=u at hn;cases u with
  |none=>exact (hn rfl).elim
  |some p =>
    have:=h _ (Is hf)
    simp only [Kn.den]at this;show Value.pointer (some ⟨g,0,none⟩)=Value.pointer (some ⟨(U.p p).1,(U.p p).2+0*0+0,none⟩);rw [this]
theorem Core.eval{U:Env}{β:Nat->Nat}{st:St}{a:Act}{w:World}(h:Core W R Z U β st a w):∀x:Operand,st.ev x ≠ .any->a.eval x=(st.ev x).den U β
  | .tmp t,hn=>by
    have:=h.tmps t hn
    simp only [Act.eval,St.ev,Array.getD_eq_getD_getElem?,this,Option.getD_some]
  | .const v,hn=>((SV.cM v st.c U β).2 hn).symm
  | .global g,hn=>LI h.kn hn β
  | .func _,hn=>rfl
theorem Core.ops{U:Env}{β:Nat->Nat}{st:St}{a:Act}{w:World}(h:Core W R Z U β st a w)(o:Oper):dV st o U β a:=λx _ hn=>h.eval x hn
theorem Core.fix{U:Env}{β:Nat->Nat}{st:St}{a:Act}{w:World}(h:Core W R Z U β st a w){k:Nat}{cs:List At}{t:TypeId}(hg:getM st.m k=some (cs,t)) :
  fv W (β k)/\w.heap[β k]? = some (.cells (cs.map (At.den U β)).toArray t):=h.mem k _ (o5 hg)
theorem Core.aC{U ag:Env}{β:Nat->Nat}{st:St}{a:Act}{w:World}(h:Core W R Z U β st a w)(hl:Env.aC st.c U ag):Core W R Z ag β st a w where
 size:=h.size
 tmps i hn:=by
  rw [h.tmps i hn];exact congrArg some (SV.aa hl (λ_ _=>rfl) (h.wf.t i)).symm
 kE:=h.kE
 below:=h.below
 mem k e hg:=(h.mem k e hg).eK (h.wf.eO hg) hl (λ_ _=>rfl) (λ_ _=>rfl)
 inj:=h.inj
 fX:=h.fX
 kt:=h.kt
 gQ:=h.gQ
 dn:=h.dn
 wf:=h.wf
 kn:=cr.aa hl h.wf.k h.kn
theorem St.WF.grow{st:St}(h:st.WF){c:ar}(hc:st.c.le c):({st with c:=c}:St).WF where
 t i:=SV.aU hc (h.t i)
 m k cs t hg:=⟨Nat.lt_of_lt_of_le (h.m k cs t hg).1 hc.k,BS hc (h.m k cs t hg).2⟩
 o k ce sz t hg:=⟨Nat.lt_of_lt_of_le (h.o k ce sz t hg).1 hc.k,BV hc (h.o k ce sz t hg).2⟩
 ap:=h.ap
 r k e hg:=Nat.lt_of_lt_of_le (h.r k e hg) hc.k
 d k hk:=Nat.lt_of_lt_of_le (h.d k hk) hc.k
 k:=cr.aU hc h.k
 df x hx y hy:=Nat.lt_of_lt_of_le (h.df x hx y hy) hc.k
structure AT(W:eJ)(s1 s':St)(U:Env)(C:List Nat)(β an:Nat->Nat)(w w':World):Prop where
 os:w'.os=w.os
 tape:w'.tape=w.tape
 output:w'.output=w.output
 size:w.heap.size<=w'.heap.size
 frame:∀b,b<w.heap.size->(∀k e,k∈C->aM s1.m s1.o k=some e->bM β k e≠some b)->w'.heap[b]? = w.heap[b]?
 off:∀k,¬(s1.c.nk<=k/\k<s'.c.nk)->an k=β k
 new:∀k e',(k∈C\/s1.c.nk<=k)->aM s'.m s'.o k=some e'->Holds W U an k e' w'/\∀b,bM an k e'=some b->w.heap.size<=b\/∃j e,j∈C/\aM s1.m s1.o j=some e/\bM β j e=some b/\(j=k\/aM s'.m s'.o j=none)
 inj:∀k k' e e' b,(k∈C\/s1.c.nk<=k)->(k'∈C\/s1.c.nk<=k')->aM s'.m s'.o k=some e->aM s'.m s'.o k'=some e'->bM an k e=some b->bM an k' e'=some b->k=k'
def zB(m:Mem)(o:bA)(l:List Nat)(β:Nat->Nat):Prop:=∀k k' e e' b,k∈l->k'∈l->aM m o k=some e->aM m o k'=some e'->bM β k e=some b->bM β k' e'=some b->k=k'
structure iO(P:Program)(W:eJ)(s1:St)(o:Oper)(U:Env)(s':St)(sv:SV)(C:List Nat):Prop where
 kn:cr.den s1.k U->cr.den s'.k U
 IV:s'.df=s1.df
 n:s'.n=s1.n
 rs:s'.r=s1.r
 ds:s'.d=s1.d
 IW:s1.c.le s'.c
 wf:s'.WF
 slot:∀t,ay s'.t t=if o.dst=some t then sv else ay s1.t t
 dst:∀d,o.dst=some d->d<s1.n
 LJ:∀k∈C,k∈a8 s1 o/\k<s1.c.nk
 same:∀k,k<s1.c.nk->k ∉ C->aM s'.m s'.o k=aM s1.m s1.o k
 ids:∀k e',(k∈C\/s1.c.nk<=k)->aM s'.m s'.o k=some e'->∀x∈fe e',x∈di s1 o\/∃j e,j∈bd s1 o++a8 s1 o/\aM s1.m s1.o j=some e/\x∈fe e
 Tl:∀(β:Nat->Nat) (a:Act) (w:World),dT W w->dV s1 o U β a->fV W s1.m s1.o (bd s1 o++a8 s1 o) U β w->zB s1.m s1.o (a8 s1 o) β ->
  ∀(next:Act->World->Prop) (Q':Exit->Act->World->Prop),(∀an v w',(sv ≠ .any->v=sv.den U an)->AT W s1 s' U C β an w w'->next (a.put o.dst v) w')->o.wp P a w next Q'
theorem AT.below{s1 s':St}{U:Env}{C:List Nat}{β an:Nat->Nat}{w w':World}(h:AT W s1 s' U C β an w w')(hB:dT W w)(hC:∀k e,k∈C->aM s1.m s1.o k=some e->Holds W U β k e w):dT W w' :=
 dT.mk (h.os.trans hB.os) (h.tape.trans hB.tape) (h.output.trans hB.output) (Nat.le_trans hB.size h.size) λb hb hl=>by
  rw [h.frame b (Nat.lt_of_lt_of_le hb hB.size) λk e hk hg oF => ?_]
  ·exact hB.block b hb hl
  ·rcases ((hC k e hk hg).wU b oF).1 with h1|h1
   ·exact hl h1
   ·omega
theorem AT.other{s1 s':St}{U:Env}{C:List Nat}{β an:Nat->Nat}{w w':World}(h:AT W s1 s' U C β an w w')(hC:∀k e,k∈C->aM s1.m s1.o k=some e->Holds W U β k e w){b:Nat}{o:Obj}(hb:w.heap[b]? = some o)
  (ho:¬Datum o):w'.heap[b]? = some o:=by
 rw [h.frame b (uV hb) λk e hk hg oF => ?_]
 ·exact hb
 ·obtain⟨_,_,o',hc,hd⟩:=(hC k e hk hg).wU b oF;rw [hb]at hc;cases hc;exact ho hd
theorem LK{s1 s':St}{o:Oper}{U:Env}{sv:SV}{C:List Nat}{β:Nat->Nat}{a:Act}{w:World}(hC:Core W R Z U β s1 a w)(hF:iO P W s1 o U s' sv C){next:Act->World->Prop}(Q':Exit->Act->World->Prop)
    (hn:∀an a' w',(∀k,k<s1.c.nk->an k=β k)->Core W R Z U an s' a' w'->next a' w'):o.wp P a w next Q':=by
  refine hF.Tl β a w hC.below (hC.ops o) (λk _ e hg=>hC.mem k e hg) (λk k' e e' b _ _=>hC.inj k k' e e' b) next Q' λan v w' hv hc => ?_
  have hb:∀k,k<s1.c.nk->an k=β k:=λk hk=>hc.off k (by omega);have Ce:∀k e,k∈C->aM s1.m s1.o k=some e->Holds W U β k e w:=λk e _ hg=>hC.mem k e hg
  have fz:∀{k e},¬(k∈C\/s1.c.nk<=k)->aM s'.m s'.o k=some e->aM s1.m s1.o k=some e:=λ{k e} hk hg=>by
    rw [<-hF.same k (by omega) (λh=>hk (.inl h))];exact hg
  have LL:∀{k e},¬(k∈C\/s1.c.nk<=k)->aM s1.m s1.o k=some e->∀b,bM β k e=some b->w'.heap[b]? = w.heap[b]? := λ{k e} hk hg b oF=>by
    have hl:=(hC.mem k e hg).wU b oF;refine hc.frame b hl.2.1 λj e' hj fx WT => ?_
    have:=hC.inj k j e e' b hg fx oF WT
    exact hk (.inl (this▸hj))
  have oG:s1.d.map an=s1.d.map β:=List.map_congr_left λk hk=>hb k (hC.wf.d k hk);refine hn an _ w' hb ⟨by rw [LF,hC.size,hF.n],λi hi => ?_, ?_,hc.below hC.below Ce,λk e hg => ?_,λk k' e e' b hx hy lh mb => ?_,λk e hg => ?_,λk k' e e' hx hy he => ?_,λb qE => ?_, ?_,hF.wf,hF.kn hC.kn⟩
  · rw [hF.slot]at hi ⊢;by_cases hd:o.dst=some i
    · rw [if_pos hd]at hi ⊢;rw [hd,fb i (by rw [hC.size];exact hF.dst i hd),if_pos rfl,hv hi]
    · rw [if_neg hd]at hi ⊢
      have h1:(a.put o.dst v).tmps[i]? = a.tmps[i]? := by
        cases Fi:o.dst with
        |none=>rfl
        |some d =>
          rw [fb i (by rw [hC.size];exact hF.dst d Fi),if_neg (λe=>hd (by rw [Fi,e]))]
      rw [h1,hC.tmps i hi,SV.aa (Env.ao _ U) hb (hC.wf.t i)]
  · rw [LG,hC.kE,hF.ds,hF.IV,IU hC.wf.df hb];simp only [marksOf];exact congrArg _ (List.map_congr_left λk hk=>by rw [hb k (hC.wf.d k hk)])
  · by_cases hk:k∈C\/s1.c.nk<=k
    · exact (hc.new k e hk hg).1
    · have jR:=fz hk hg;exact (hC.mem k e jR).eK (hC.wf.eO jR) (Env.ao _ _) hb (LL hk jR)
  · have rn:∀ {k k' e e' b},(k∈C\/s1.c.nk<=k)->¬ (k'∈C\/s1.c.nk<=k')->aM s'.m s'.o k=some e->aM s'.m s'.o k'=some e'->bM an k e=some b->bM an k' e'=some b->False:=by
      intro k k' e e' b h1 h2 hx hy lh mb
      have yu:=fz h2 hy;rw [Fh (hC.wf.eO yu) hb]at mb
      have hl:=(hC.mem k' e' yu).wU b mb
      rcases (hc.new k e h1 hx).2 b lh with h3|⟨j,ej,h3,h4,h5,_⟩
      · omega
      · have:=hC.inj j k' ej e' b h4 yu h5 mb
        exact h2 (.inl (this▸h3))
    by_cases h1:k∈C\/s1.c.nk<=k<;>by_cases h2:k'∈C\/s1.c.nk<=k'
    · exact hc.inj k k' e e' b h1 h2 hx hy lh mb
    · exact (rn h1 h2 hx hy lh mb).elim
    · exact (rn h2 h1 hy hx mb lh).elim
    · have D0:=fz h1 hx;have yu:=fz h2 hy;rw [Fh (hC.wf.eO D0) hb]at lh;rw [Fh (hC.wf.eO yu) hb]at mb
      exact hC.inj k k' e e' b D0 yu lh mb
  · rw [hF.rs]at hg;rw [hb k (hC.wf.r k e hg)];exact⟨(hC.fX k e hg).1,hc.other Ce (hC.fX k e hg).2 (λh=>h)⟩
  · rw [hF.rs]at hx hy;rw [hb k (hC.wf.r k e hx),hb k' (hC.wf.r k' e' hy)]at he;exact hC.kt k k' e e' hx hy he
  · rw [hF.ds,oG]at qE;exact⟨(hC.gQ b qE).1,hc.other Ce (hC.gQ b qE).2 (λh=>h)⟩
  · rw [hF.ds,oG];exact hC.dn
end Vc
