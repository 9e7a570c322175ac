import Derived.Test.YtocleppbcngcjaaGreatDoorVcG
import Derived.MapKept
import Derived.Laws.BytesString
import Derived.Laws.CopyOwn
import Derived.RangeFuncRecord
set_option linter.unusedVariables false
set_option linter.unusedSimpArgs false
namespace Vc
open Go Go.RowKit
variable {P:Program} {W:dR} {Q:Value->Prop} {QM QP:World->Value->Prop}
theorem At.bg(U:Env)(β ak:Nat->Nat):∀{a:At},a.flat=true->a.den U β=a.den U ak:=by
 intro a h
 cases a<;>first
  |rfl
  | (simp [At.flat]at h;done)
  | (simp only [At.flat,List.isEmpty_iff]at h;subst h;rfl)
theorem CI(U:Env)(β ak:Nat->Nat){l:List At}(h:l.all At.flat=true):l.map (At.den U β)=l.map (At.den U ak) :=
 List.map_congr_left λx hx=>At.bg U β ak (List.all_eq_true.1 h x hx)
theorem Sg.bg(U:Env)(β ak:Nat->Nat):∀{s:Sg},s.flat=true->s.den U β=s.den U ak
 | .bT l,h=>CI U β ak h
 | .var i,_=>rfl
theorem AV(U:Env)(β ak:Nat->Nat):∀{l:CE},fR l=true->aq U β l=aq U ak l
  | [],_=>rfl
  |s::r,h=>by
    simp only [fR,List.all_cons,Bool.and_eq_true]at h;simp only [aq,Sg.bg U β ak h.1,AV U β ak (l:=r) h.2]
theorem CV.bg(U:Env)(β ak:Nat->Nat):∀{c:CV},c.flat=true->c.den U β=c.den U ak
 | .one a,h=>At.bg U β ak h
 | .agg l,h=>by simp only [CV.den];rw [CI U β ak h]
theorem SV.bg(U:Env)(β ak:Nat->Nat):∀{c:SV},eo c=true->c.den U β=c.den U ak
  | .any,_=>rfl
  | .dF,_=>rfl
  | .cv c,h=>CV.bg U β ak h
  | .cE l,h=>by
    simp only [SV.den];rw [List.map_congr_left λx hx=>CV.bg U β ak (List.all_eq_true.1 h x hx)]
theorem cell_of_heap{w:World}{b:Nat}{C:Array Value}{t:TypeId}{mk:Nat × Nat}(h:w.heap[b]? = some (.cells C t mk))(o:Nat):w.cell? ⟨b,o,none⟩=C[o]? := by
 simp [World.cell?,h]
theorem CJ{t:TypeId}{n:Nat}(hz:aH P t=some (true,n))(w:World)(b o:Nat)(cs:List Value)(hn:cs.length=n)(h:∀j v,cs[j]? = some v->w.cell? ⟨b,o+j,none⟩=some v) :
  (Instr.loadAt t (ptr b o)).run P w=.ok (.agg cs.toArray) w:=by
 subst hn
 have:=run_loadCells_list (P:=P) w ⟨b,o,none⟩ cs (λj v hj=>by rw [tQ];exact h j v hj)
 simp only [Instr.loadAt,ptr,Instr.sureAddr,Sem.run_bind,Sem.run_pure,Result.andThen_ok,loadVar,GQ hz,if_true,qm hz,this]
theorem CL{t:TypeId}{n:Nat}(hz:aH P t=some (false,n))(w:World)(b o:Nat)(v:Value)(h:w.cell? ⟨b,o,none⟩=some v) :
  (Instr.loadAt t (ptr b o)).run P w=.ok v w:=by
 simp [Instr.loadAt,ptr,Instr.sureAddr,loadVar,GQ hz,h]
theorem P7{p:Nat}{ix:IE}{sz:Nat}:∀ (ks:List CK) (off:Nat) (c:ar) {K:List At->ar->Env->Prop} {U:Env},ks.all CK.plain=true->p < c.np->ix.wf c=true ->
    oC (PA P W Q QM QP) p ix sz off ks c K U->∃l c' af,K l c' af/\c.le c'/\Env.ay c U af/\l.length=ks.length /\
      ∀J,Env.ay c' af J->∀β j a,l[j]? = some a->W.seen.cell? ⟨(J.p p).1,(J.p p).2+(ix.den J).toNat*sz+(off+j),none⟩=some (a.den J β)
  | [],off,c,K,U,_,_,_,h=>⟨[],c,U,h,ar.le_refl _,Env.an _ _,rfl,λ_ _ _ j a hj=>by simp at hj⟩
  |k::ks,off,c,K,U,mH,hp,hi,h=>by
    simp only [List.all_cons,Bool.and_eq_true]at mH;obtain⟨aR,l1,h1,h2⟩:=uC [k] c h;have hle:=zr c k;obtain⟨l,c',af,q1,q2,q3,q4,q5⟩:=P7 ks (off+1) (aV c k) mH.2 (Nat.lt_of_lt_of_le hp hle.p) (IE.aL hle hi) h2;refine⟨bo c k::l,c',af,q1,ar.le_trans hle q2,Env.ah hle l1 q3,by simp [q4],λJ hl β j a hj => ?_⟩;cases j with
    |zero =>
      simp only [List.getElem?_cons_zero,Option.some.injEq]at hj;subst hj;have l2:Env.ay (aV c k) aR J:=Env.ah q2 q3 hl;have l3:Env.ay c U J:=Env.ah hle l1 l2;rw [l3.p p hp,IE.aa l3 hi,At.bg J β b0 (GP c k mH.1),At.aa l2 (β:=b0) (λ_ _=>rfl) (GO c k)];exact h1
    |succ j =>
      have:=q5 J hl β j a (by simpa using hj)
      rw [show off+(j+1)=off+1+j by omega];exact this
theorem Ja{lo:Nat->Prop}{b code n base:Nat}{xs:List Value}{sz:Nat}{t:TypeId}{w:World}(h:fV lo b code n base xs sz t w){i:Nat}{v:Value}(hi:xs[i]? = some v):w.cell? ⟨b,i,none⟩=some v:=by
 have hl:i<xs.length:=(List.getElem?_eq_some_iff.1 hi).1
 have hn:0<n:=by
  rcases Nat.eq_zero_or_pos n with h0|h0
  ·rw [h.1,h0]at hl;omega
  ·exact h0
 obtain⟨_,_,cur,h1,h2⟩:=P2 h hn;rw [cell_of_heap h1];rw [<-h2,List.getElem?_take]at hi;split at hi
 ·simpa using hi
 ·cases hi
theorem P8{lo:Nat->Prop}{b code n base:Nat}{xs:List Value}{sz:Nat}{t:TypeId}{w:World}(h:bH lo b code n base xs sz t w)(hz:0<sz∨t=0){i:Nat}{v:Value}(hi:xs[i]? = some v):w.cell? ⟨b,i,none⟩=some v:=by
 rcases h with h|⟨h1,h2,h3,h4⟩
 ·exact Ja h hi
 ·obtain rfl:t=0:=hz.resolve_left (by omega);obtain⟨_,C,ty,mk,h5,h6⟩:=h4
  have:w.cell? ⟨b,i,none⟩=C[i]? := by simp [World.cell?,h5]
  rw [this];rw [<-h6,List.getElem?_take]at hi;split at hi
  ·simpa using hi
  ·cases hi
theorem Jb{ce:CE}{ix:IE}{sz:Nat}:∀ (ks:List CK) (off:Nat) (c:ar) {K:List At->ar->Env->Prop} {U:Env},ks.all CK.plain=true->fR ce=true->bW c ce=true->ix.wf c=true ->
    su (PA P W Q QM QP) ce ix sz off ks c K U->∃l c' af,K l c' af/\c.le c'/\Env.ay c U af/\l.length=ks.length /\
      ∀J,Env.ay c' af J->∀β j a,l[j]? = some a->(aq J β ce)[(ix.den J).toNat*sz+(off+j)]? = some (a.den J β)
  | [],off,c,K,U,_,_,_,_,h=>⟨[],c,U,h,ar.le_refl _,Env.an _ _,rfl,λ_ _ _ j a hj=>by simp at hj⟩
  |k::ks,off,c,K,U,mH,hf,hp,hi,h=>by
    simp only [List.all_cons,Bool.and_eq_true]at mH;obtain⟨aR,l1,h1,h2⟩:=uC [k] c h;have hle:=zr c k;obtain⟨l,c',af,q1,q2,q3,q4,q5⟩:=Jb ks (off+1) (aV c k) mH.2 hf (AE hle hp) (IE.aL hle hi) h2;refine⟨bo c k::l,c',af,q1,ar.le_trans hle q2,Env.ah hle l1 q3,by simp [q4],λJ hl β j a hj => ?_⟩;cases j with
    |zero =>
      simp only [List.getElem?_cons_zero,Option.some.injEq]at hj;subst hj;have l2:Env.ay (aV c k) aR J:=Env.ah q2 q3 hl;have l3:Env.ay c U J:=Env.ah hle l1 l2;rw [AV J β b0 hf,uz l3 (β:=b0) (λ_ _=>rfl) hp,IE.aa l3 hi,At.bg J β b0 (GP c k mH.1),At.aa l2 (β:=b0) (λ_ _=>rfl) (GO c k)];exact h1
    |succ j =>
      have:=q5 J hl β j a (by simpa using hj)
      rw [show off+(j+1)=off+1+j by omega];exact this
theorem P9{ce:CE}{ix:IE}{sz off:Nat}{cs:List At}{p:Nat}(h:gv ce ix sz off=some (cs,p)):(∀U,(ix.den U).toNat*sz+off=p)/\∀U β,aq U β ce=cs.map (At.den U β):=by
 unfold gv at h;split at h
 ·rename_i j iK h1;simp only [Option.some.injEq,Prod.mk.injEq]at h;obtain⟨rfl,rfl⟩:=h;exact⟨λ_=>rfl,λU β=>DE U β h1⟩
 ·cases h
theorem Uv{m:Mem}{o:ba}(kx:ku m o){c:ar}{t:TypeId}{x:SV}{K:SV->ar->Env->Prop}{U:Env}(h:mn (PA P W Q QM QP) P m o c t x K U) :
    cy c U K λsv J=>x ≠ .any/\sv ≠ .any/\∀β w,dz W w->fk W m o (az (aM x)) J β w->(Instr.loadAt t (x.den J β)).run P w=.ok (sv.den J β) w:=by
  unfold mn at h;generalize hz:aH P t=u1 at h;split at h
  · exact h.elim
  · rename_i g n;split at h
    · rename_i k ix sz off;generalize iJ:aG o k=u2 at h;split at h
      · exact h.elim
      · rename_i ce s0 ty;split at h;rotate_left
        · exact h.elim
        rename_i zE;generalize eR:gv ce ix sz off=u3 at h;split at h
        · rename_i cs p;obtain⟨e1,e2⟩:=P9 eR
          have cell:∀(J:Env) (β:Nat->Nat) (w:World),fk W m o (az (aM (.cv (.one (.fe k ix sz off))))) J β w->∀(j:Nat) (a:At),cs[j]? = some a->w.cell? ⟨β k,j,none⟩=some (a.den J β):=by
            intro J β w hr j a hj;have bj:=hr k (by simp [aM,CV.cells,az]) _ (kt (kx k _ iJ) iJ);exact P8 bj zE (by rw [e2];simp [hj])
          split at h
          · rename_i hg;subst hg;split at h
            · rename_i hb;refine cy.pure h λJ _=>⟨by simp,by simp,λβ w hB hr => ?_⟩
              have:=CJ hz w (β k) p (((cs.drop p).take n).map (At.den J β)) (by simp;omega) (λj v hj=>by
                simp only [List.getElem?_map,Option.map_eq_some_iff]at hj;obtain⟨a,ha,rfl⟩:=hj
                have xU:j<n:=by
                  rcases Nat.lt_or_ge j n with h'|h'
                  · exact h'
                  · rw [List.getElem?_eq_none (by simp;omega)]at ha;cases ha
                rw [List.getElem?_take_of_lt xU,List.getElem?_drop]at ha;exact cell J β w hr _ a ha)
              show (Instr.loadAt t (ptr (β k) ((ix.den J).toNat*sz+off))).run P w=_;rw [e1];exact this
            · exact h.elim
          · rename_i hg;have ep:g=false:=by simpa using hg
            subst ep;generalize hc:cs[p]? = u4 at h;split at h
            · rename_i a;refine cy.pure h λJ _=>⟨by simp,by simp,λβ w hB hr => ?_⟩;show (Instr.loadAt t (ptr (β k) ((ix.den J).toNat*sz+off))).run P w=_;rw [e1];exact CL hz w (β k) p (a.den J β) (cell J β w hr p a hc)
            · exact h.elim
        · generalize hk:u_ P 30 t=u4 at h;split at h
          · exact h.elim
          · rename_i ks;by_cases hc:ks.length=(if g=true then n else 1)/\ks.all CK.plain=true/\fR ce=true/\bW c ce=true/\ix.wf c=true
            · rw [if_pos hc]at h;obtain⟨hl,mH,hf,hp,hi⟩:=hc;obtain⟨l,c',af,q1,q2,q3,q4,q5⟩:=Jb ks off c mH hf hp hi h;refine⟨_,c',af,q1,q2,q3,λJ cX=>⟨by simp,by simp,λβ w hB hr => ?_⟩⟩
              have key:∀j v,(l.map (At.den J β))[j]? = some v->w.cell? ⟨β k,(ix.den J).toNat*sz+off+j,none⟩=some v:=by
                intro j v hj;simp only [List.getElem?_map,Option.map_eq_some_iff]at hj;obtain⟨a,ha,rfl⟩:=hj;have bj:=hr k (by simp [aM,CV.cells,az]) _ (kt (kx k _ iJ) iJ);rw [Nat.add_assoc];exact P8 bj zE (q5 J cX β j a ha)
              cases g with
              |true =>
                have:=CJ hz w _ _ (l.map (At.den J β)) (by simpa [q4]using hl) key
                cases l<;>exact this
              |false =>
                simp only [Bool.false_eq_true,if_false]at hl;rw [hl]at q4
                match l,q4 with
                | [a],_=>exact CL hz w _ _ (a.den J β) (by simpa using key 0 _ rfl)
            · rw [if_neg hc]at h;exact h.elim
    · rename_i k off;generalize hm:getM m k=u2 at h;split at h
      · exact h.elim
      · rename_i cs ty;split at h
        · rename_i hg;subst hg;split at h
          · rename_i hb;refine cy.pure h λJ _=>⟨by simp,by simp,λβ w hB hr => ?_⟩;obtain⟨_,hh⟩:=hr k (by simp [aM,CV.cells,az]) _ (n_ hm)
            have:=CJ hz w (β k) off (((cs.drop off).take n).map (At.den J β)) (by simp;omega) (λj v hj=>by
              rw [cell_of_heap hh];simp only [List.getElem?_map,Option.map_eq_some_iff]at hj;obtain⟨a,ha,rfl⟩:=hj
              have xU:j<n:=by
                rcases Nat.lt_or_ge j n with h'|h'
                · exact h'
                · rw [List.getElem?_eq_none (by simp;omega)]at ha;cases ha
              rw [List.getElem?_take_of_lt xU,List.getElem?_drop]at ha;simp [ha])
            exact this
          · exact h.elim
        · rename_i hg;have ep:g=false:=by simpa using hg
          subst ep;generalize hc:cs[off]? = u3 at h;split at h
          · rename_i a;refine cy.pure h λJ _=>⟨by simp,by simp,λβ w hB hr => ?_⟩;obtain⟨_,hh⟩:=hr k (by simp [aM,CV.cells,az]) _ (n_ hm);exact CL hz w (β k) off (a.den J β) (by rw [cell_of_heap hh];simp [hc])
          · exact h.elim
    · rename_i p ix sz off;generalize hk:u_ P 30 t=u2 at h;split at h
      · exact h.elim
      · rename_i ks;by_cases hc:ks.length=(if g=true then n else 1)/\ks.all CK.plain=true/\p<c.np/\ix.wf c=true
        · rw [if_pos hc]at h;obtain⟨hl,mH,hp,hi⟩:=hc;obtain⟨l,c',af,q1,q2,q3,q4,q5⟩:=P7 ks off c mH hp hi h;refine⟨_,c',af,q1,q2,q3,λJ cX=>⟨by simp,by simp,λβ w hB hr => ?_⟩⟩
          have key:∀j v,(l.map (At.den J β))[j]? = some v->w.cell? ⟨(J.p p).1,(J.p p).2+(ix.den J).toNat*sz+off+j,none⟩=some v:=by
            intro j v hj;simp only [List.getElem?_map,Option.map_eq_some_iff]at hj;obtain⟨a,ha,rfl⟩:=hj;have h1:=q5 J cX β j a ha;rw [<-Nat.add_assoc]at h1;exact hB.cell h1
          cases g with
          |true =>
            have:=CJ hz w _ _ (l.map (At.den J β)) (by simpa [q4]using hl) key
            cases l<;>exact this
          |false =>
            simp only [Bool.false_eq_true,if_false]at hl;rw [hl]at q4
            match l,q4 with
            | [a],_=>exact CL hz w _ _ (a.den J β) (by simpa using key 0 _ rfl)
        · rw [if_neg hc]at h;exact h.elim
    · exact h.elim
theorem Uw{m:Mem}{o:ba}(kx:ku m o){c:ar}{U J:Env}{β:Nat->Nat}{w:World}(hl:Env.ay c U J)(hw:∀ k ce sz t,aG o k=some (ce,sz,t)->bW c ce=true) :
    ∀(bT:List At),fk W m o (az bT) J β w->vz W U β (dP o bT) w:=by
  intro bT
  induction bT with
  |nil=>exact λ_=>trivial
  |cons a r ih =>
    intro h;have skip:∀{k},az (a::r)=k::az r->vz W U β (dP o r) w:=λhe=>ih λj hj=>h j (by rw [he];exact List.mem_cons_of_mem _ hj)
    cases a<;>first
      |exact ih h
      |exact skip rfl
      |skip
    rename_i k;simp only [dP];have hr:fk W m o (az r) J β w:=λj hj=>h j (by simp [az,hj]);cases hg:aG o k with
    |none=>exact ih hr
    |some v =>
      obtain⟨ce,sz,t⟩:=v
      have:=h k (by simp [az]) _ (kt (kx k _ hg) hg)
      refine⟨?_,ih hr⟩;rw [<-uz hl (β:=β) (λ_ _=>rfl) (hw k ce sz t hg)];exact this
theorem AW{m:Mem}{o:ba}(kx:ku m o){c:ar}{U J:Env}{β:Nat->Nat}{w:World}(hl:Env.ay c U J)(hw:∀ k cs t,getM m k=some (cs,t)->cs.all (At.wf c)=true)
    (xV:∀k ce sz t,aG o k=some (ce,sz,t)->bW c ce=true) :
    ∀(bT:List At),fk W m o (az bT) J β w->mF W U β (dG m bT) (dP o bT) w:=by
  have main:∀(bT:List At) (o':ba),vz W U β o' w->fk W m o (az bT) J β w->mF W U β (dG m bT) o' w:=by
    intro bT o' Ux
    induction bT with
    |nil=>exact λ_=>Ux
    |cons a r ih =>
      intro h
      have step:∀ k,(∀ j∈k::az r,∀ e,aE m o j=some e->Holds W J β j e w) ->
          mF W U β (match getM m k with|some v=>(k,v)::dG m r|none=>dG m r) o' w:=by
        intro k hk;have hr:fk W m o (az r) J β w:=λj hj=>hk j (by simp [hj]);cases hg:getM m k with
        |none=>exact ih hr
        |some v =>
          obtain⟨cs,t⟩:=v;obtain⟨h1,h2⟩:=hk k (by simp) _ (n_ hg);rw [xF hl (β:=β) (λ_ _=>rfl) (hw k cs t hg)]at h2;exact⟨⟨h1,h2⟩,ih hr⟩
      have skip:∀{k},az (a::r)=k::az r->mF W U β (dG m r) o' w:=λhe=>ih λj hj=>h j (by rw [he];exact List.mem_cons_of_mem _ hj)
      cases a<;>first
        |exact step _ h
        |exact ih h
        |exact skip rfl
  exact λbT h=>main bT _ (Uw kx hl xV bT h) h
theorem GY:∀(l:List TypeId) {ss:List (Bool × List CK)},gE P l=some ss->(bQ ss).all CK.plain=true
  | [],ss,h=>by simp only [gE,Option.some.injEq]at h;subst h;rfl
  |t::l,ss,h=>by
    simp only [gE]at h;split at h
    · split at h
      · rename_i ks r _ _ h3 hc;simp only [Option.some.injEq]at h;subst h;simp only [bQ,List.all_append,Bool.and_eq_true];exact⟨hc.2,GY l h3⟩
      · cases h
    · cases h
theorem CM:∀(ss:List (Bool × List CK)) (l:List At),l.all At.flat=true->(bG ss l).all CV.flat=true
  | [],_,_=>rfl
  | (g,ks)::r,l,h=>by
    have h1:(l.take ks.length).all At.flat=true:=List.all_eq_true.2 λx hx=>List.all_eq_true.1 h x (List.mem_of_mem_take hx);have h2:(l.drop ks.length).all At.flat=true:=List.all_eq_true.2 λx hx=>List.all_eq_true.1 h x (List.mem_of_mem_drop hx);simp only [bG,List.all_cons,CM r _ h2,Bool.and_true];unfold dO;split
    · rename_i a ha;rw [ha]at h1;simpa [CV.flat]using h1
    · exact h1
theorem CN(c:ar):∀(ss:List (Bool × List CK)) (l:List At),l.all (At.wf c)=true->(bG ss l).all (CV.wf c)=true
  | [],_,_=>rfl
  | (g,ks)::r,l,h=>by
    have h1:(l.take ks.length).all (At.wf c)=true:=List.all_eq_true.2 λx hx=>List.all_eq_true.1 h x (List.mem_of_mem_take hx);have h2:(l.drop ks.length).all (At.wf c)=true:=List.all_eq_true.2 λx hx=>List.all_eq_true.1 h x (List.mem_of_mem_drop hx);simp only [bG,List.all_cons,CN c r _ h2,Bool.and_true];unfold dO;split
    · rename_i a ha;rw [ha]at h1;simpa [CV.wf]using h1
    · exact h1
theorem DZ{cs:List CV}(h:cs.all CV.flat=true):eo (cq cs)=true:=by
 unfold cq;split
 ·simpa [eo]using h
 ·exact h
theorem CO{c:ar}{cs:List CV}(h:cs.all (CV.wf c)=true):(cq cs).wf c=true:=by
 unfold cq;split
 ·simpa [SV.wf]using h
 ·exact h
theorem CP(cs:List CV):cq cs ≠ .any:=by
 unfold cq;split<;>simp
structure bF.Ok(G:bF):Prop where
 calls:∀f,G.calls.contains f=true->∀args w,(callFunc f args).run G.P w=.ok (.enter f args) w
 inl:∀f,G.inl.contains f=true->∀args w,(callFunc f args).run G.P w=.ok (.enter f args) w
 iG:∀e∈G.iG,∀(A:bI (Env->Prop)) (yl:Yl (Env->Prop)) (K:Ex->St->Env->Prop) (K':SV->St->Env->Prop),lI A G (exec A G e.n) yl K e.f e.args e.s K'=iR A e.asks (K' e.v e.s')
def D0(G:bF)(W:dR)(m:Mem)(o:ba)(f:FuncId)(args:List SV)(sv:SV)(U:Env):Prop :=
  sv ≠ .any/\(∀x∈args,x ≠ .any)/\∀β w,dz W w->fk W m o (az (cj m o args)) U β w ->
    ((callFunc f (args.map (SV.den U β)).toArray).run G.P w=.ok (.value (sv.den U β)) w ∨
     ((callFunc f (args.map (SV.den U β)).toArray).run G.P w=.ok (.enter f (args.map (SV.den U β)).toArray) w/\Calls G.P f (args.map (SV.den U β)).toArray w (Ret (sv.den U β) w)))
theorem P_{G:bF}(hG:G.Ok){m:Mem}{o:ba}(kx:ku m o){c:ar}{f:FuncId}{args:List SV}{K:SV->ar->Env->Prop}{U:Env}(hw:∀ k cs t,getM m k=some (cs,t)->cs.all (At.wf c)=true)(xV:∀ k ce sz t,aG o k=some (ce,sz,t)->bW c ce=true)
    (h:kO (PA G.P W Q QM QP) G m o c f args K U):cy c U K (D0 G W m o f args):=by
  unfold kO at h;generalize hf:G.P.funcs[f]? = u1 at h;split at h
  · exact h.elim
  · rename_i fn;generalize hs:gE G.P fn.resultTypes.toList=u2 at h;split at h
    · exact h.elim
    · rename_i ss;split at h
      · exact h.elim
      · rename_i ha;simp only [not_or,Decidable.not_not]at ha;obtain⟨qn,sQ⟩:=ha
        have eG:∀x∈args,x ≠ .any:=by
          intro x hx he;subst he;exact qn (List.any_eq_true.2 ⟨_,hx,rfl⟩)
        have jy:eo (cq (bG ss (au c (bQ ss))))=true:=DZ (CM _ _ (DT _ _ (GY _ hs)));have ic:(cq (bG ss (au c (bQ ss)))).wf (aP c (bQ ss))=true:=CO (CN _ _ _ (AS _ _));have hle:=xk (bQ ss) c
        have eu:∀{aR J:Env} (β:Nat->Nat),Env.ay c aR J->args.map (SV.den J β)=args.map (SV.den aR β):=λβ hl =>
          List.map_congr_left λx hx=>SV.aa hl (λ_ _=>rfl) (List.all_eq_true.1 sQ x hx)
        have kT:∀(aR:Env) (β:Nat->Nat),args.all eo=true->args.map (SV.den aR β)=args.map (SV.den aR b0):=λaR β hl =>
          List.map_congr_left λx hx=>SV.bg aR β b0 (List.all_eq_true.1 hl x hx)
        split at h
        · generalize sC G f args=u3 at h;cases u3 with
          |some l =>
            simp only at h;split at h
            · rename_i fX;obtain⟨fX,pJ⟩:=fX;have jy:eo (cq (bG ss l))=true:=DZ (CM _ _ pJ);have ic:(cq (bG ss l)).wf c=true:=CO (CN _ _ _ fX);obtain⟨⟨h1,h2⟩,h3⟩:=h;refine⟨_,_,U,h3,ar.le_refl _,Env.an _ _,λJ l3=>⟨CP _,eG,λβ w hB hr=>.inl ?_⟩⟩;rw [eu β l3,kT U β h1,SV.bg J β b0 jy,SV.aa l3 (β:=b0) (λ_ _=>rfl) ic];exact h2 w
            · exact h.elim
          |none =>
          obtain⟨aR,l1,⟨h1,h2⟩,h3⟩:=uC _ c h;refine⟨_,_,aR,h3,hle,l1,λJ hl=>⟨CP _,eG,λβ w hB hr=>.inl ?_⟩⟩;have l3:Env.ay c U J:=Env.ah hle l1 hl;rw [eu β l3,kT U β h1,SV.bg J β b0 jy,SV.aa hl (β:=b0) (λ_ _=>rfl) ic];exact h2 w
        · split at h
          · rename_i hc;generalize sA G f args (bQ ss)=u3 at h;cases u3 with
            |some l =>
              simp only at h;split at h
              · rename_i fX;obtain⟨fX,pJ⟩:=fX;have jy:eo (cq (bG ss l))=true:=DZ (CM _ _ pJ);have ic:(cq (bG ss l)).wf c=true:=CO (CN _ _ _ fX);obtain⟨h1,h3⟩:=h;refine⟨_,_,U,h3,ar.le_refl _,Env.an _ _,λJ l3=>⟨CP _,eG,λβ w hB hr=>.inr ⟨hG.calls f hc _ w, ?_⟩⟩⟩;rw [SV.bg J β b0 jy,SV.aa l3 (β:=b0) (λ_ _=>rfl) ic];split at h1
                · rename_i Jc;rw [eu β l3,kT U β Jc];exact h1 w hB
                · rw [eu β l3];exact h1 β w hB (AW kx l3 hw xV _ hr)
              · exact h.elim
            |none =>
              obtain⟨aR,l1,h1,h3⟩:=uC _ c h;refine⟨_,_,aR,h3,hle,l1,λJ hl=>⟨CP _,eG,λβ w hB hr=>.inr ⟨hG.calls f hc _ w, ?_⟩⟩⟩;have l3:Env.ay c U J:=Env.ah hle l1 hl;rw [SV.bg J β b0 jy,SV.aa hl (β:=b0) (λ_ _=>rfl) ic];split at h1
              · rename_i Jc;rw [eu β l3,kT U β Jc];exact h1 w hB
              · rw [eu β l3];exact h1 β w hB (AW kx l3 hw xV _ hr)
          · exact h.elim
end Vc
set_option linter.unusedVariables false
namespace Vc
open Go Go.RowKit
variable {P:Program} {W:dR} {Q:Value->Prop} {QM QP:World->Value->Prop}
theorem D1(em:Bool)(d:Nat):∀ (n:Nat) (t:TypeId) (ks:List CK),jC P n t=some ks->∀ (U:Env) (β:Nat->Nat) (xs:List At) (x:Value) (w:World),xs.length=ks.length->jQ P t U β x xs ->
    (Instr.checkKey em (d+n) t x).run P w=.ok () w
  |0,_,_,h=>by cases h
  |n+1,t,ks,h=>by
    intro U β xs x w hl hx;simp only [jC]at h;cases hu:P.underlying t with
    |none=>simp [hu]at h
    |some dd =>
      simp only [hu]at h;simp only [jQ,hu]at hx;rw [show d+(n+1)=(d+n)+1 from rfl,Instr.checkKey];simp only [Sem.run_bind,run_underlying hu,Result.andThen_ok];cases dd<;>simp only [reduceCtorEq,Option.some.injEq]at h
      case int k=>rfl
      case bool=>rfl
      case string=>rfl
      case struct fs =>
        subst hx;split at h
        · cases h
        · simp only [];rw [<-Array.forIn_toList];have fI:(xs.drop 0).length=ks.length:=by simpa using hl
          generalize fs.toList=L at h ⊢;generalize 0=off at h fI;clear hl hu
          induction L generalizing off ks with
          |nil=>simp
          |cons fd r ih =>
            simp only [tM]at h;split at h
            · cases h
            · rename_i hn;simp only [not_or,Decidable.not_not]at hn;obtain⟨hn,ho⟩:=hn;split at h
              · rename_i k1 g n' h1 h2;split at h
                · rename_i nC;simp only [Option.map_eq_some_iff]at h;obtain⟨k2,h3,rfl⟩:=h;simp only [List.length_append,List.length_drop]at fI;subst nC;have mG:((xs.drop off).take k1.length).length=k1.length:=by simp only [List.length_take,List.length_drop];omega
                  obtain⟨v,p1,v1⟩:=CF (U:=U) (β:=β) h2 xs off (λhg=>GS _ _ _ h1 _ _ h2 hg) mG w;have r1:=D1 em d n fd.type k1 h1 U β _ v w mG v1;have r2:=ih (off:=off+k1.length) (ks:=k2) h3 (by simp only [List.length_drop];omega);subst ho;simp only [List.forIn_cons,Sem.run_bind,hn,ne_eq,not_false_eq_true,if_true,p1,r1,Result.andThen_ok,Sem.run_pure];simpa only [Sem.run_bind,Sem.run_pure,ne_eq]using r2
                · cases h
              · cases h
      case array m el =>
        subst hx;split at h
        · rename_i k1 g s h1 h2;split at h
          · rename_i hs;subst hs;simp only [Option.some.injEq]at h;subst h;simp only [Std.Legacy.Range.forIn_eq_forIn_range',Std.Legacy.Range.size,Nat.sub_zero,Nat.add_one_sub_one,Nat.div_one]
            have tl:∀m,(times k1 m).length=m*k1.length:=by
              intro m
              induction m with
              |zero=>simp [times]
              |succ m ih=>simp only [times,List.length_append,ih,Nat.succ_mul];omega
            rw [tl]at hl;have hi:(0+m)*k1.length<=xs.length:=by rw [Nat.zero_add,hl];exact Nat.le_refl _
            clear hl hu;generalize 0=i at hi ⊢
            induction m generalizing i with
            |zero=>simp
            |succ c ih =>
              have e1:(i+1+c)*k1.length<=xs.length:=by rw [show i+1+c=i+(c+1) by omega];exact hi
              have e2:i*k1.length+k1.length<=xs.length:=by
                have:(i+1)*k1.length<=(i+(c+1))*k1.length:=Nat.mul_le_mul_right _ (by omega)
                rw [Nat.succ_mul]at this;omega
              have mG:((xs.drop (i*k1.length)).take k1.length).length=k1.length:=by simp only [List.length_take,List.length_drop];omega
              obtain⟨v,p1,v1⟩:=CF (U:=U) (β:=β) h2 xs (i*k1.length) (λhg=>GS _ _ _ h1 _ _ h2 hg) mG w;have r1:=D1 em d n el k1 h1 U β _ v w mG v1;have r2:=ih (i+1) e1;rw [List.range'_succ];simp only [List.forIn_cons,Sem.run_bind,qm h2,p1,r1,Result.andThen_ok,Sem.run_pure];simpa only [Sem.run_bind,Sem.run_pure]using r2
          · cases h
        · cases h
theorem P'{n:Nat}{t:TypeId}{dd:TypeDesc}{ks:List CK}(hu:P.underlying t=some dd)(h:jC P n t=some ks){U:Env}{β:Nat->Nat}{xs ys:List At}{e:BE}{x y:Value}(he:aX ks xs ys=some e)
    (hx:jQ P t U β x xs) (hy:jQ P t U β y ys):Instr.sameNow dd x y=none∨Instr.sameNow dd x y=some (e.den U):=by
  cases n with
  |zero=>cases h
  |succ n =>
    simp only [jC,hu]at h;simp only [jQ,hu]at hx hy;cases dd<;>simp only [reduceCtorEq,Option.some.injEq]at h
    case int k =>
      subst h;obtain⟨a,rfl,rfl⟩:=hx;obtain⟨b,rfl,rfl⟩:=hy;obtain⟨a0,x,b1,y,e1,e2,p1,p2,h1,h2,rfl⟩:=xR he;cases p1;cases p2;simp only [aX,Option.some.injEq]at h2;subst h2;simp only [eT]at h1;split at h1
      · split at h1
        · rename_i hk;simp only [Option.some.injEq]at h1;subst h1;obtain⟨rfl,rfl⟩:=hk;right;simp only [At.den,BE.den,gD,Bool.and_true,Instr.sameNow,if_true]
          try rfl
        · cases h1
      · cases h1
    case bool =>
      subst h;obtain⟨a,rfl,rfl⟩:=hx;obtain⟨b,rfl,rfl⟩:=hy;obtain⟨a0,x,b1,y,e1,e2,p1,p2,h1,h2,rfl⟩:=xR he;cases p1;cases p2;simp only [aX,Option.some.injEq]at h2;subst h2;simp only [eT]at h1;split at h1
      · simp only [Option.some.injEq]at h1;subst h1;right;simp only [At.den,BE.den,Bool.and_true,Instr.sameNow]
      · cases h1
    case string =>
      subst h;obtain⟨a,rfl,rfl⟩:=hx;obtain⟨b,rfl,rfl⟩:=hy;obtain⟨a0,x,b1,y,e1,e2,p1,p2,h1,h2,rfl⟩:=xR he;cases p1;cases p2;simp only [aX,Option.some.injEq]at h2;subst h2;simp only [eT]at h1;split at h1
      · rename_i p q hp hq;simp only [Option.some.injEq]at h1;subst h1;rw [xl hp,xl hq];right;simp only [BE.den,Bool.and_true,Instr.sameNow];congr 1;rw [Bool.eq_iff_iff,Go.MapKept.bytes_beq,DV];simp
      · cases h1
    case struct fs=>exact .inl rfl
    case array m el=>exact .inl rfl
theorem Jd(U:Env)(β:Nat->Nat):∀ {ks:List CK} {xs ys:List At} {e:BE},aX ks xs ys=some e->e.den U=true ->
    xs.map (At.den U β)=ys.map (At.den U β)/\∀v∈xs.map (At.den U β),∀n,Instr.sameBits (n+1) v v=true
  | [],xs,ys,e,h,he=>by
    have:=CD U h
    have h1:xs=[]:=List.eq_nil_of_length_eq_zero this.1;have h2:ys=[]:=List.eq_nil_of_length_eq_zero this.2;subst h1 h2;exact⟨rfl,λv hv=>by cases hv⟩
  |k::r,xs,ys,e,h,he=>by
    obtain⟨a,x,b,y,e1,e2,rfl,rfl,h1,h2,rfl⟩:=xR h;simp only [BE.den,Bool.and_eq_true]at he;obtain⟨q1,q2⟩:=Jd U β h2 he.2
    have one:a.den U β=b.den U β/\∀n,Instr.sameBits (n+1) (a.den U β) (a.den U β)=true:=by
      have AX:=he.1;cases k with
      |int k =>
        simp only [eT]at h1;split at h1
        · split at h1
          · rename_i hk;simp only [Option.some.injEq]at h1;subst h1;obtain⟨rfl,rfl⟩:=hk;simp only [BE.den,gD,decide_eq_true_eq,beq_iff_eq]at AX;simp only [At.den];exact⟨by rw [AX],λn=>by simp [Instr.sameBits]⟩
          · cases h1
        · cases h1
      |bool =>
        simp only [eT]at h1;split at h1
        · simp only [Option.some.injEq]at h1;subst h1;simp only [BE.den,beq_iff_eq]at AX;simp only [At.den];exact⟨by rw [AX],λn=>by simp [Instr.sameBits]⟩
        · cases h1
      |str =>
        simp only [eT]at h1;split at h1
        · rename_i p q hp hq;simp only [Option.some.injEq]at h1;subst h1;simp only [BE.den,decide_eq_true_eq,beq_iff_eq]at AX;rw [xl hp,xl hq];exact⟨by rw [AX],λn=>by simp only [Instr.sameBits];exact (Go.MapKept.bytes_beq _ _).2 rfl⟩
        · cases h1
      |uA=>simp [eT]at h1
      |sl sz=>simp [eT]at h1
      |own sz t=>simp [eT]at h1
    refine⟨by simp only [List.map_cons,one.1,q1],λv hv n => ?_⟩;simp only [List.map_cons,List.mem_cons]at hv;rcases hv with rfl|hv
    · exact one.2 n
    · exact q2 v hv n
theorem Qa{v:Value}(h:v.oneCell'=true):v.cells=#[v]:=by
 cases v<;>first|rfl|cases h
theorem D3{t:TypeId}{g:Bool}{n:Nat}(hz:aH P t=some (g,n)){v:Value}(h:dj (cK g n) v){xs:List At}{U:Env}{β:Nat->Nat}(hx:v.cells.toList=xs.map (At.den U β)) :
    jQ P t U β v xs/\v=(dO g xs).den U β/\xs.length=n:=by
  obtain⟨d,i,h1,h2,rfl,hg⟩:=uD hz;cases g with
  |true =>
    simp only [dj,cK,if_true]at h;rw [if_pos (by omega)]at h;obtain⟨cs,rfl,hs⟩:=h;have hc:cs=(xs.map (At.den U β)).toArray:=by apply Array.ext';simpa [Value.cells]using hx
    have hl:xs.length=i.size:=by
      have:cs.size=xs.length:=by rw [hc];simp
      omega
    refine⟨?_, ?_,hl⟩
    · unfold jQ;rw [h1];cases d<;>simp only [reduceCtorEq,Bool.true_eq_false]at hg<;>rw [hc]
    · rw [hc];cases xs with
      |nil=>rfl
      |cons a r=>rfl
  |false =>
    simp only [dj,cK,Bool.false_eq_true,if_false,Nat.add_zero]at h;rw [if_neg (by omega)]at h;obtain⟨h3,h4⟩:=h;rw [Qa h3]at hx
    match xs,hx with
    | [a],hx =>
      simp only [List.map_cons,List.map_nil,List.cons.injEq,and_true]at hx;refine⟨?_,hx,by simp only [List.length_cons,List.length_nil];omega⟩;unfold jQ;rw [h1];cases d<;>simp only [reduceCtorEq,Bool.false_eq_true]at hg<;>exact⟨a,rfl,hx⟩
theorem CQ{g:Bool}{n:Nat}{v:CV}(h:mh g n v=true)(U:Env)(β:Nat->Nat):dj (cK g n) (v.den U β)/\v.cells.length=n:=by
  cases v with
  |one a =>
    simp only [mh,Bool.and_eq_true,Bool.not_eq_true',decide_eq_true_eq]at h;obtain⟨rfl,rfl⟩:=h;exact⟨by simp only [dj,cK,Bool.false_eq_true,if_false];rw [if_neg (by omega)];exact⟨At.gp U β a,trivial⟩,rfl⟩
  |agg l =>
    simp only [mh,Bool.and_eq_true,decide_eq_true_eq]at h;obtain⟨rfl,rfl⟩:=h;refine⟨?_,rfl⟩;simp only [dj,cK,if_true];rw [if_pos (by omega)];exact⟨_,rfl,by simp;omega⟩
theorem vA{t:TypeId}{x:fT}(h:eU P t=some x):P.underlying t=some (.map x.key x.el)/\jC P 30 x.key=some x.ks/\aH P x.key=some (x.gk,x.ks.length)/\aH P x.el=some (x.ge,x.ne) /\
  0<x.ks.length/\0<x.no/\x.no / 1048576=cK x.gk x.ks.length/\x.no % 1048576=cK x.ge x.ne:=by
 unfold eU at h;split at h
 ·rename_i key el hu;split at h
  ·rename_i ks gk nk ge ne h1 h2 h3;split at h
   ·rename_i hc;simp only [Option.some.injEq]at h;subst h;obtain⟨rfl,c1,c2,c3⟩:=hc;have b1:cK ge ne<1048576:=by unfold cK;split<;>omega
    have b2:0<cK gk ks.length:=by unfold cK;omega
    refine⟨hu,h1,h2,h3,c1, ?_, ?_, ?_⟩<;>simp only [fT.no]<;>omega
   ·cases h
  ·cases h
 ·cases h
def mI(P:Program)(key:TypeId)(w:World)(kv:Value)(es:List MapEntry)(i:Nat)(r:Option (Nat × Value)):Prop :=
 (Instr.findAsking key kv es i).run P w=.ok r w/\∀kd,P.underlying key=some kd->Instr.findNow kd kv es i=none∨Instr.findNow kd kv es i=some r
theorem mI.run{key:TypeId}{w:World}{kv:Value}{es:List MapEntry}{r:Option (Nat × Value)}(h:mI P key w kv es 0 r){kd:TypeDesc}(hk:P.underlying key=some kd):(Instr.findKey key kv es).run P w=.ok r w:=by
 unfold Instr.findKey;simp only [Sem.run_bind,run_underlying hk,Result.andThen_ok];rcases h.2 kd hk with h1|h1<;>rw [h1]
 ·exact h.1
 ·rfl
def aC(e:MapEntry):List Value:=e.key.cells.toList++e.val.cells.toList
theorem D4{t:TypeId}{U:Env}{β:Nat->Nat}{x y:Value}{xs ys:List At}(hx:jQ P t U β x xs)(hy:jQ P t U β y ys)(h:xs.map (At.den U β)=ys.map (At.den U β)):x=y:=by
 have one:(∃a,xs=[a]/\x=a.den U β)->(∃a,ys=[a]/\y=a.den U β)->x=y:=by
  rintro ⟨a,rfl,rfl⟩ ⟨b,rfl,rfl⟩;simpa using h
 unfold jQ at hx hy;generalize P.underlying t=u at hx hy;cases u with
 |none=>exact one hx hy
 |some d=>cases d<;>first|exact one hx hy | (simp only at hx hy;rw [hx,hy,h])
theorem Qb{t:TypeId}{U:Env}{β:Nat->Nat}{x:Value}{xs:List At}(hx:jQ P t U β x xs)(h:∀v∈xs.map (At.den U β),∀n,Instr.sameBits (n+1) v v=true):Instr.sameBits 10000 x x=true:=by
  have agg:Instr.sameBits 10000 (.agg (xs.map (At.den U β)).toArray) (.agg (xs.map (At.den U β)).toArray)=true:=by
    show Instr.sameBits (9999+1) _ _=true;rw [Instr.sameBits];simp only [beq_self_eq_true,Bool.true_and,List.all_eq_true];intro p hp
    have:p.1=p.2/\p.1∈xs.map (At.den U β):=by
      generalize xs.map (At.den U β)=l at hp;clear h hx;simp only [List.zip_eq_zipWith]at hp
      induction l with
      |nil=>simp at hp
      |cons a r ih =>
        simp only [List.zipWith_cons_cons,List.mem_cons]at hp;rcases hp with rfl|hp
        · exact⟨rfl,by simp⟩
        · obtain⟨h1,h2⟩:=ih hp;exact⟨h1,List.mem_cons_of_mem _ h2⟩
    rw [<-this.1];exact h p.1 this.2 9998
  unfold jQ at hx;split at hx
  · rw [hx];exact agg
  · rw [hx];exact agg
  · obtain⟨a,rfl,rfl⟩:=hx;exact h _ (by simp) 9999
theorem vB{g:Bool}{n:Nat}{v:Value}(h:dj (cK g n) v):v.cells.size=n:=by
  cases g with
  |true =>
    simp only [dj,cK,if_true]at h;rw [if_pos (by omega)]at h;obtain⟨cs,rfl,hs⟩:=h;simp only [Value.cells];omega
  |false =>
    simp only [dj,cK,Bool.false_eq_true,if_false,Nat.add_zero]at h;rw [if_neg (by omega)]at h;rw [Qa h.1];simp only [List.size_toArray,List.length_cons,List.length_nil];omega
theorem Qc{g1 g2:Bool}{nk ne:Nat}{e:MapEntry}(h1:dj (cK g1 nk) e.key)(h2:dj (cK g2 ne) e.val){r:List MapEntry}{cs:List At}{U:Env}{β:Nat->Nat}(h:(e::r).flatMap aC=cs.map (At.den U β)) :
  e.key.cells.toList=(cs.take nk).map (At.den U β)/\e.val.cells.toList=((cs.drop nk).take ne).map (At.den U β)/\r.flatMap aC=(cs.drop (nk+ne)).map (At.den U β)/\nk+ne<=cs.length:=by
 have s1:e.key.cells.toList.length=nk:=by simpa using vB h1
 have s2:e.val.cells.toList.length=ne:=by simpa using vB h2
 simp only [List.flatMap_cons,aC,List.append_assoc]at h;have hlen:=congrArg List.length h;simp only [List.length_append,List.length_map,s1,s2]at hlen;refine⟨?_, ?_, ?_,by omega⟩
 ·rw [List.map_take,<-h,<-s1,List.take_left]
 ·rw [List.map_take,List.map_drop,<-h]
  conv=>rhs;rw [<-s1,List.drop_left,<-s2,List.take_left]
 ·rw [List.map_drop,<-h,<-List.drop_drop]
  conv=>rhs;rw [<-s1,List.drop_left,<-s2,List.drop_left]
theorem Je{x:fT}{t:TypeId}(hx:eU P t=some x){c:ar}{kc:List At}{found:Nat->List At->Env->Prop}{DH:Unit->Env->Prop}{U:Env}:∀ (fuel:Nat) (cs:List At) (i:Nat),
    jZ (PA P W Q QM QP) c x kc found DH fuel cs i U ->
    ∃r:Option (Nat × List At),(match r with|some (j,v)=>found (i+j) v U|none=>DH () U) /\
      ∀(J:Env),Env.ay c U J->∀(β:Nat->Nat) (w:World) (kv:Value) (es:List MapEntry),jQ P x.key J β kv kc->es.flatMap aC=cs.map (At.den J β) ->
        (∀e∈es,dj (cK x.gk x.ks.length) e.key/\dj (cK x.ge x.ne) e.val) ->
        mI P x.key w kv es i (r.map λy=>(i+y.1,(dO x.ge y.2).den J β)) /\
        ∀j v,r=some (j,v)->∃e,es[j]? = some e/\e.key=kv/\Instr.sameBits 10000 kv kv=true
  |0,cs,i,h=>h.elim
  |n+1,cs,i,h=>by
    obtain⟨m1,m2,m3,m4,m5,m6,m7,m8⟩:=vA hx;obtain⟨kd,rJ⟩:∃d,P.underlying x.key=some d:=by obtain⟨d,_,h1,_⟩:=uD m3;exact⟨d,h1⟩
    simp only [jZ]at h;split at h
    · rename_i mJ;subst mJ;refine⟨none,h,λJ hl β w kv es hv fP fM=>⟨?_,λj v hr=>by cases hr⟩⟩
      have:es=[]:=by
        cases es with
        |nil=>rfl
        |cons e r =>
          obtain⟨s1,s2⟩:=fM e (by simp);obtain⟨_,_,_,h4⟩:=Qc s1 s2 fP;simp only [List.length_nil]at h4;omega
      subst this;exact⟨rfl,λkd _=>.inr rfl⟩
    · rename_i mJ;generalize he:aX x.ks kc (cs.take x.ks.length)=u at h;split at h;rotate_left
      · exact h.elim
      rename_i e;split at h;rotate_left
      · exact h.elim
      rename_i hc;obtain⟨vC,hlen⟩:=hc
      have cons:∀ (J:Env),Env.ay c U J->∀ (β:Nat->Nat) (w:World) (kv:Value) (es:List MapEntry),jQ P x.key J β kv kc->es.flatMap aC=cs.map (At.den J β) ->
          (∀e∈es,dj (cK x.gk x.ks.length) e.key/\dj (cK x.ge x.ne) e.val)->∃e0 r,es=e0::r/\jQ P x.key J β e0.key (cs.take x.ks.length)/\e0.val=(dO x.ge ((cs.drop x.ks.length).take x.ne)).den J β /\
            r.flatMap aC=(cs.drop (x.ks.length+x.ne)).map (At.den J β)/\(Op.equal x.key kv e0.key).run P w=.ok (e.den U) w/\(Instr.sameNow kd kv e0.key=none∨Instr.sameNow kd kv e0.key=some (e.den U)):=by
        intro J hl β w kv es hv fP fM;cases es with
        |nil =>
          simp only [List.flatMap_nil]at fP;exact (mJ (List.map_eq_nil_iff.1 fP.symm)).elim
        |cons e0 r =>
          obtain⟨s1,s2⟩:=fM e0 (by simp);obtain⟨a1,a2,a3,a4⟩:=Qc s1 s2 fP;obtain⟨b1,b2,b3⟩:=D3 m3 s1 a1;obtain⟨c1,c2,c3⟩:=D3 m4 s2 a2;refine⟨e0,r,rfl,b1,c2,a3, ?_, ?_⟩
          · rw [<-BE.aa hl vC];exact DW 9970 30 x.key x.ks m2 J β kc _ e kv e0.key w he hv b1
          · rw [<-BE.aa hl vC];exact P' rJ m2 he hv b1
      rcases zw h with ⟨h1,h⟩|⟨h1,h⟩
      · refine⟨some (0,(cs.drop x.ks.length).take x.ne),h,λJ hl β w kv es hv fP fM => ?_⟩;obtain⟨e0,r,rfl,q1,q2,q3,q4,q5⟩:=cons J hl β w kv es hv fP fM;rw [h1]at q4 q5;have lK:e.den J=true:=by rw [BE.aa hl vC];exact h1
        obtain⟨g1,g2⟩:=Jd J β he lK;refine⟨⟨?_,λJf mK => ?_⟩,λj v hr => ?_⟩
        · simp only [Instr.findAsking,Sem.run_bind,q4,Result.andThen_ok,if_true,Sem.run_pure,Option.map_some,Nat.add_zero,q2]
        · rw [rJ]at mK;cases mK;simp only [Instr.findNow];rcases q5 with q5|q5<;>rw [q5]
          · exact .inl rfl
          · right;simp only [Option.map_some,Nat.add_zero,q2]
        · simp only [Option.some.injEq,Prod.mk.injEq]at hr;obtain⟨rfl,rfl⟩:=hr;exact⟨e0,rfl,D4 q1 hv g1.symm,Qb hv g2⟩
      · obtain⟨r,h2,h3⟩:=Je hx n _ (i+1) h;refine⟨r.map λy=>(y.1+1,y.2), ?_,λJ hl β w kv es hv fP fM => ?_⟩
        · cases r with
          |none=>exact h2
          |some y=>simpa [Nat.add_assoc,Nat.add_comm 1]using h2
        · obtain⟨e0,r',rfl,q1,q2,q3,q4,q5⟩:=cons J hl β w kv es hv fP fM;rw [h1]at q4 q5;obtain⟨⟨f1,f2⟩,f3⟩:=h3 J hl β w kv r' hv q3 λe he=>fM e (by simp [he])
          have er:(Option.map (λy:Nat × List At=>(i+y.1,(dO x.ge y.2).den J β)) (r.map λy=>(y.1+1,y.2)))=r.map λy=>(i+1+y.1,(dO x.ge y.2).den J β):=by
            cases r with
            |none=>rfl
            |some y=>simp only [Option.map_some,Option.some.injEq,Prod.mk.injEq,and_true];omega
          rw [er];refine⟨⟨?_,λJf mK => ?_⟩,λj v hr => ?_⟩
          · simp only [Instr.findAsking,Sem.run_bind,q4,Result.andThen_ok,Bool.false_eq_true,if_false];exact f1
          · rw [rJ]at mK;cases mK;simp only [Instr.findNow];rcases q5 with q5|q5<;>rw [q5]
            · exact .inl rfl
            · exact f2 _ rJ
          · cases r with
            |none=>cases hr
            |some y =>
              simp only [Option.map_some,Option.some.injEq,Prod.mk.injEq]at hr;obtain⟨rfl,rfl⟩:=hr;obtain⟨e1,k1,k2,k3⟩:=f3 y.1 y.2 rfl;exact⟨e1,by simpa using k1,k2,k3⟩
theorem xW{t:TypeId}{x:fT}(hx:eU P t=some x){ob:Option Obj}{n:Nat}{xs:List Value} :
  y9 ob n xs x.no↔∃es clock,ob=some (.map es clock)/\es.toList.flatMap aC=xs/\∀e∈es.toList,dj (cK x.gk x.ks.length) e.key/\dj (cK x.ge x.ne) e.val:=by
 obtain⟨m1,m2,m3,m4,m5,m6,m7,m8⟩:=vA hx;obtain⟨t',ht⟩:∃t',x.no=t'+1:=⟨x.no-1,by omega⟩;rw [<-m7,<-m8,ht];exact Iff.rfl
theorem D5{g1 g2:Bool}{nk ne:Nat}:∀(es:List MapEntry),(∀e∈es,dj (cK g1 nk) e.key/\dj (cK g2 ne) e.val)->(es.flatMap aC).length=es.length*(nk+ne)
  | [],_=>by simp
  |e::r,h=>by
    obtain⟨s1,s2⟩:=h e (by simp);have l1:e.key.cells.toList.length=nk:=by simpa using vB s1
    have l2:e.val.cells.toList.length=ne:=by simpa using vB s2
    have ih:=D5 r λe he=>h e (by simp [he]);simp only [List.flatMap_cons,List.length_append,ih,aC,l1,l2,List.length_cons,Nat.succ_mul];omega
theorem D6{t:TypeId}{x:fT}(hx:eU P t=some x){v:CV}(hv:mh x.gk x.ks.length v=true)(U:Env)(β:Nat->Nat):jQ P x.key U β (v.den U β) v.cells/\v.cells.length=x.ks.length:=by
 obtain⟨m1,m2,m3,m4,m5,m6,m7,m8⟩:=vA hx;obtain⟨h1,h2⟩:=CQ hv U β;exact⟨(D3 m3 h1 (xs:=v.cells) (by rw [CV.bp])).1,h2⟩
theorem Qd{t:TypeId}{x:fT}(hx:eU P t=some x){w:World}{b:Nat}{es:Array MapEntry}{clock:Nat}(hb:w.heap[b]? = some (.map es clock)){kv:Value}{U:Env}{β:Nat->Nat}{kc:List At}
  (hv:jQ P x.key U β kv kc) (AY:kc.length=x.ks.length) {r:Option (Nat × Value)} (hf:mI P x.key w kv es.toList 0 r) {zv:Value} (hz:(zeroValue x.el).run P w=.ok zv w) (ok:Bool) :
  (Instr.lookup t (.map (some b)) kv ok).run P w=.ok (if ok=true then .tuple #[(r.map (·.2)).getD zv,.bool r.isSome]else (r.map (·.2)).getD zv) w:=by
 obtain⟨m1,m2,m3,m4,m5,m6,m7,m8⟩:=vA hx;obtain⟨kd,rJ⟩:∃d,P.underlying x.key=some d:=by obtain⟨d,_,h1,_⟩:=uD m3;exact⟨d,h1⟩
 have zF:(Instr.checkKey es.isEmpty 10000 x.key kv).run P w=.ok () w:=D1 es.isEmpty 9970 30 x.key x.ks m2 U β kc kv w AY hv;have D7:=hf.run rJ;unfold Instr.lookup;simp only [Sem.run_bind,run_underlying m1,Result.andThen_ok,Go.MapKept.run_getObj_map hb,Sem.run_pure];simp only [zF,Result.andThen_ok,D7];cases r with
 |none=>cases ok<;>simp [hz]
 |some y=>cases ok<;>simp
theorem Uy{t:TypeId}{x:fT}(hx:eU P t=some x){w:World}{kv:Value}{U:Env}{β:Nat->Nat}{kc:List At}
  (hv:jQ P x.key U β kv kc) (AY:kc.length=x.ks.length) {zv:Value} (hz:(zeroValue x.el).run P w=.ok zv w) (ok:Bool) :
  (Instr.lookup t (.map none) kv ok).run P w=.ok (if ok=true then .tuple #[zv,.bool false]else zv) w:=by
 obtain⟨m1,m2,m3,m4,m5,m6,m7,m8⟩:=vA hx;obtain⟨kd,rJ⟩:∃d,P.underlying x.key=some d:=by obtain⟨d,_,h1,_⟩:=uD m3;exact⟨d,h1⟩
 have zF:(Instr.checkKey (#[]:Array MapEntry).isEmpty 10000 x.key kv).run P w=.ok () w:=D1 _ 9970 30 x.key x.ks m2 U β kc kv w AY hv;have hf:mI P x.key w kv [] 0 none:=⟨rfl,λkd hk=>.inr rfl⟩;have D7:=hf.run rJ;unfold Instr.lookup;simp only [Sem.run_bind,run_underlying m1,Result.andThen_ok,Sem.run_pure];simp only [zF,Result.andThen_ok,D7];cases ok<;>simp [hz]
theorem Qe{t:TypeId}{x:fT}(hx:eU P t=some x){w:World}{b:Nat}{es:Array MapEntry}{clock:Nat}(hb:w.heap[b]? = some (.map es clock)){kv vv:Value}{U:Env}{β:Nat->Nat}{kc:List At}
    (hv:jQ P x.key U β kv kc) (AY:kc.length=x.ks.length) {r:Option (Nat × Value)} (hf:mI P x.key w kv es.toList 0 r) (hr:∀i v,r=some (i,v)->∃e,es.toList[i]? = some e/\e.key=kv/\Instr.sameBits 10000 kv kv=true) :
    (Instr.mapUpdate t (.map (some b)) kv vv).run P w=.ok () {w with heap:=w.heap.setIfInBounds b (match r with
      |some (i,_)=>.map (es.modify i λe => {e with key:=kv,val:=vv}) clock
      |none=>.map (es.push {key:=kv,val:=vv,born:=clock}) (clock+1))}:=by
  obtain⟨m1,m2,m3,m4,m5,m6,m7,m8⟩:=vA hx;obtain⟨kd,rJ⟩:∃d,P.underlying x.key=some d:=by obtain⟨d,_,h1,_⟩:=uD m3;exact⟨d,h1⟩
  have zF:(Instr.checkKey false 10000 x.key kv).run P w=.ok () w:=D1 false 9970 30 x.key x.ks m2 U β kc kv w AY hv;have D7:=hf.run rJ;unfold Instr.mapUpdate;simp only [Sem.run_bind,run_underlying m1,Result.andThen_ok,Go.MapKept.run_getObj_map hb];simp only [zF,Result.andThen_ok,D7];cases r with
  |none=>simp only [Go.MapKept.run_setObj_map _ hb]
  |some y =>
    obtain⟨i,v⟩:=y;obtain⟨e,h1,h2,h3⟩:=hr i v rfl;have h4:es[i]? = some e:=by simpa using h1
    simp only [h4,Option.map_some,Option.getD_some,h2,Instr.keyThatStays,h3,if_true,Sem.run_bind,Sem.run_pure,Result.andThen_ok,Go.MapKept.run_setObj_map _ hb]
theorem Jg{g1 g2:Bool}{nk ne:Nat}{kv vv:Value}:∀ (es:List MapEntry) (i:Nat) {e:MapEntry},es[i]? = some e->e.key=kv->(∀ e∈es,dj (cK g1 nk) e.key/\dj (cK g2 ne) e.val) ->
    (es.modify i λe => {e with key:=kv,val:=vv}).flatMap aC=(es.flatMap aC).take (i*(nk+ne)+nk)++vv.cells.toList++(es.flatMap aC).drop (i*(nk+ne)+nk+ne)
  | [],i,e,h,_,_=>by simp at h
  |e0::r,0,e,h,hk,hs=>by
    simp only [List.getElem?_cons_zero,Option.some.injEq]at h;subst h;obtain⟨s1,s2⟩:=hs e0 (by simp);have l1:e0.key.cells.toList.length=nk:=by simpa using vB s1
    have l2:e0.val.cells.toList.length=ne:=by simpa using vB s2
    simp only [List.modify_zero_cons,List.flatMap_cons,Nat.zero_mul,Nat.zero_add];subst hk
    have t1:(aC e0++r.flatMap aC).take nk=e0.key.cells.toList:=by
      unfold aC;rw [List.append_assoc,<-l1,List.take_left]
    have t2:(aC e0++r.flatMap aC).drop (nk+ne)=r.flatMap aC:=by
      have:(aC e0).length=nk+ne:=by unfold aC;rw [List.length_append,l1,l2]
      rw [<-this,List.drop_left]
    rw [t1,t2];simp [aC]
  |e0::r,i+1,e,h,hk,hs=>by
    obtain⟨s1,s2⟩:=hs e0 (by simp);have l1:e0.key.cells.toList.length=nk:=by simpa using vB s1
    have l2:e0.val.cells.toList.length=ne:=by simpa using vB s2
    have l3:(aC e0).length=nk+ne:=by unfold aC;rw [List.length_append,l1,l2]
    have ih:=Jg (vv:=vv) r i (e:=e) (by simpa using h) hk λe he=>hs e (by simp [he]);simp only [List.modify_succ_cons,List.flatMap_cons]
    rw [ih,show (i+1)*(nk+ne)+nk=(aC e0).length+(i*(nk+ne)+nk) by rw [l3,Nat.succ_mul];omega,
      Nat.add_assoc (aC e0).length,List.take_length_add_append,List.drop_length_add_append]
    simp only [List.append_assoc]
def mL:Value->At
 | .int k n=>.int k (.lit n)
 | .bool b=>.bool (.lit b)
 | .string s=>.str s.data.toList
 |_=>.rp
theorem Uz{k:CK}{v:Value}(h:mi k v=true)(U:Env)(β:Nat->Nat):(mL v).den U β=v:=by
 cases k<;>cases v<;>first|rfl | (simp [mi]at h;done)|skip
theorem UA{k:CK}{a:At}{v:Value}(ha:gu k a=true)(hv:mi k v=true)(U:Env)(β:Nat->Nat):∃e,eT k a (mL v)=some e/\e.den U=nX (a.den U β) v:=by
  cases k with
  |int k =>
    cases v<;>simp only [mi,Bool.false_eq_true,decide_eq_true_eq]at hv;rename_i k' n;subst hv;cases a<;>simp only [gu,Bool.false_eq_true,decide_eq_true_eq]at ha;subst ha;rename_i e;exact⟨.cmp .eql e (.lit n),by simp only [eT,mL,and_self,if_true],by simp [BE.den,gD,IE.den,At.den,nX]⟩
  |bool =>
    cases v<;>simp only [mi,Bool.false_eq_true]at hv;cases a<;>simp only [gu,Bool.false_eq_true]at ha;exact⟨_,rfl,rfl⟩
  |str =>
    cases v<;>simp only [mi,Bool.false_eq_true]at hv;rename_i s;simp only [gu,Option.isSome_iff_exists]at ha;obtain⟨p,hp⟩:=ha;refine⟨.seq p (.lit s.data.toList),by simp only [eT,mL,hp];rfl, ?_⟩;rw [xl hp];cases p<;>simp only [BE.den,SE.den,nX]<;>congr
  |uA=>cases a<;>simp [gu]at ha
  |sl z=>cases a<;>simp [gu]at ha
  |own z t=>cases a<;>simp [gu]at ha
theorem Qf(U:Env)(β:Nat->Nat):∀{ks:List CK} {kc:List At} {vs:List Value},eV ks kc=true->eH ks vs=true->∃e,aX ks kc (vs.map mL)=some e/\e.den U=iy (kc.map (At.den U β)) vs
  | [],[],[],_,_=>⟨_,rfl,rfl⟩
  | [],_::_,_,h,_=>by simp [eV]at h
  | [],_,_::_,_,h=>by simp [eH]at h
  |_::_,[],_,h,_=>by simp [eV]at h
  |_::_,_::_,[],_,h=>by simp [eH]at h
  |k::r,a::l,v::vs,h1,h2=>by
    simp only [eV,Bool.and_eq_true]at h1;simp only [eH,Bool.and_eq_true]at h2;obtain⟨e1,p1,p2⟩:=UA h1.1 h2.1 U β;obtain⟨e2,q1,q2⟩:=Qf U β h1.2 h2.2;exact⟨.and e1 e2,by simp only [List.map_cons,aX,p1,q1],by simp only [BE.den,p2,q2,List.map_cons,iy]⟩
theorem Qg(U:Env)(β:Nat->Nat):∀{ks:List CK} {vs:List Value},eH ks vs=true->(vs.map mL).map (At.den U β)=vs
  | [],[],_=>rfl
  | [],_::_,h=>by simp [eH]at h
  |_::_,[],h=>by simp [eH]at h
  |k::r,v::vs,h=>by
    simp only [eH,Bool.and_eq_true]at h;simp only [List.map_cons,Uz h.1,Qg U β h.2]
theorem Jh{g1 g2:Bool}{nk ne:Nat}{e:MapEntry}(h1:dj (cK g1 nk) e.key)(h2:dj (cK g2 ne) e.val)(r:List MapEntry) :
  ((e::r).flatMap aC).take nk=e.key.cells.toList/\((e::r).flatMap aC).drop (nk+ne)=r.flatMap aC/\(((e::r).flatMap aC).drop nk).take ne=e.val.cells.toList/\nk+ne<=((e::r).flatMap aC).length:=by
 have s1:e.key.cells.toList.length=nk:=by simpa using vB h1
 have s2:e.val.cells.toList.length=ne:=by simpa using vB h2
 simp only [List.flatMap_cons,aC,List.append_assoc];refine⟨?_, ?_, ?_, ?_⟩
 ·rw [<-s1,List.take_left]
 ·rw [<-List.drop_drop,<-s1,List.drop_left,<-s2,List.drop_left]
 ·rw [<-s1,List.drop_left,<-s2,List.take_left]
 ·simp only [List.length_append,s1,s2];omega
theorem D8{g1 g2:Bool}{nk ne:Nat}:∀ (es:List MapEntry) (i:Nat) {e:MapEntry},(∀ e∈es,dj (cK g1 nk) e.key/\dj (cK g2 ne) e.val)->es[i]? = some e->∀ {k:Nat},k < ne ->
    (es.flatMap aC)[i*(nk+ne)+(nk+k)]? = e.val.cells.toList[k]?
  | [],i,e,_,h,_,_=>by simp at h
  |e0::r,0,e,hs,h,k,hk=>by
    simp only [List.getElem?_cons_zero,Option.some.injEq]at h;subst h;obtain⟨t1,t2,t3,t4⟩:=Jh (hs e0 (by simp)).1 (hs e0 (by simp)).2 r;rw [Nat.zero_mul,Nat.zero_add,<-t3,List.getElem?_take_of_lt hk,List.getElem?_drop]
  |e0::r,i+1,e,hs,h,k,hk=>by
    obtain⟨t1,t2,t3,t4⟩:=Jh (hs e0 (by simp)).1 (hs e0 (by simp)).2 r;have ih:=D8 r i (λe he=>hs e (by simp [he])) (by simpa using h) hk;rw [<-ih,<-t2,List.getElem?_drop];congr 1;rw [Nat.succ_mul];omega
theorem Ji{x:fT}{t:TypeId}(hx:eU P t=some x){kc:List At}(cC:eV x.ks kc=true){U:Env}{β:Nat->Nat}{w:World}{kv:Value}(hv:jQ P x.key U β kv kc) :
    ∀(es:List MapEntry) (f i:Nat),es.length<=f->(∀e∈es,dj (cK x.gk x.ks.length) e.key/\dj (cK x.ge x.ne) e.val)->hU x.ks (x.ks.length+x.ne) f (es.flatMap aC)=true ->
      mI P x.key w kv es i ((cg x.ks.length (x.ks.length+x.ne) (kc.map (At.den U β)) f (es.flatMap aC)).map λj=>(i+j,((es[j]?).map (·.val)).getD undef)) /\
      ∀j,cg x.ks.length (x.ks.length+x.ne) (kc.map (At.den U β)) f (es.flatMap aC)=some j->∃e,es[j]? = some e/\e.key=kv/\Instr.sameBits 10000 kv kv=true
  | [],f,i,_,_,_=>by
    have h0:cg x.ks.length (x.ks.length+x.ne) (kc.map (At.den U β)) f (([]:List MapEntry).flatMap aC)=none:=by cases f<;>rfl
    rw [h0];exact⟨⟨rfl,λkd _=>.inr rfl⟩,λj h=>by cases h⟩
  |e0::r,0,i,hf,_,_=>by simp at hf
  |e0::r,f+1,i,hf,fM,hk=>by
    obtain⟨m1,m2,m3,m4,m5,m6,m7,m8⟩:=vA hx;obtain⟨kd,rJ⟩:∃d,P.underlying x.key=some d:=by obtain⟨d,_,h1,_⟩:=uD m3;exact⟨d,h1⟩
    obtain⟨s1,s2⟩:=fM e0 (by simp);obtain⟨t1,t2,t3,t4⟩:=Jh s1 s2 r
    have cW:∃a l,(e0::r).flatMap aC=a::l:=by
      cases hc:(e0::r).flatMap aC with
      |nil=>rw [hc]at t4;simp only [List.length_nil]at t4;omega
      |cons a l=>exact⟨a,l,rfl⟩
    have gi:eH x.ks e0.key.cells.toList=true/\hU x.ks (x.ks.length+x.ne) f (r.flatMap aC)=true:=by
      obtain⟨a,l,xn⟩:=cW;rw [xn,hU,<-xn,t1,t2,Bool.and_eq_true]at hk
      · exact hk
      · intro h;cases h
    have hm:cg x.ks.length (x.ks.length+x.ne) (kc.map (At.den U β)) (f+1) ((e0::r).flatMap aC)=if iy (kc.map (At.den U β)) e0.key.cells.toList=true then some 0 else (cg x.ks.length (x.ks.length+x.ne) (kc.map (At.den U β)) f (r.flatMap aC)).map (·+1):=by
      obtain⟨a,l,xn⟩:=cW;rw [xn,cg,<-xn,t1,t2];intro h;cases h
    rw [hm];obtain⟨e,he,lK⟩:=Qf U β cC gi.1;obtain⟨b1,b2,b3⟩:=D3 m3 s1 (xs:=e0.key.cells.toList.map mL) (U:=U) (β:=β) (Qg U β gi.1).symm
    have q4:(Op.equal x.key kv e0.key).run P w=.ok (iy (kc.map (At.den U β)) e0.key.cells.toList) w:=by
      rw [<-lK];exact DW 9970 30 x.key x.ks m2 U β kc _ e kv e0.key w he hv b1
    have q5:Instr.sameNow kd kv e0.key=none∨Instr.sameNow kd kv e0.key=some (iy (kc.map (At.den U β)) e0.key.cells.toList):=by
      rw [<-lK];exact P' rJ m2 he hv b1
    cases hq:iy (kc.map (At.den U β)) e0.key.cells.toList with
    |true =>
      rw [hq]at q4 q5;rw [if_pos rfl];obtain⟨g1,g2⟩:=Jd U β he (by rw [lK,hq]);refine⟨⟨?_,λJf mK => ?_⟩,λj hj => ?_⟩
      · simp only [Instr.findAsking,Sem.run_bind,q4,Result.andThen_ok,if_true,Sem.run_pure,Option.map_some,Nat.add_zero,List.getElem?_cons_zero,Option.getD_some]
      · rw [rJ]at mK;cases mK;simp only [Instr.findNow];rcases q5 with q5|q5<;>rw [q5]
        · exact .inl rfl
        · right;simp only [Option.map_some,Nat.add_zero,List.getElem?_cons_zero,Option.getD_some]
      · simp only [Option.some.injEq]at hj;subst hj;exact⟨e0,rfl,D4 b1 hv g1.symm,Qb hv g2⟩
    |false =>
      rw [hq]at q4 q5;rw [if_neg (by simp)];obtain⟨⟨f1,f2⟩,f3⟩:=Ji hx cC (w:=w) hv r f (i+1) (by simp at hf;omega) (λe he=>fM e (by simp [he])) gi.2
      have er:(Option.map (λj:Nat=>(i+j,(((e0::r)[j]?).map (·.val)).getD undef)) ((cg x.ks.length (x.ks.length+x.ne) (kc.map (At.den U β)) f (r.flatMap aC)).map (·+1)))=(cg x.ks.length (x.ks.length+x.ne) (kc.map (At.den U β)) f (r.flatMap aC)).map λj=>(i+1+j,((r[j]?).map (·.val)).getD undef):=by
        cases cg x.ks.length (x.ks.length+x.ne) (kc.map (At.den U β)) f (r.flatMap aC)with
        |none=>rfl
        |some y=>simp only [Option.map_some,List.getElem?_cons_succ,Option.some.injEq,Prod.mk.injEq,and_true];omega
      rw [er];refine⟨⟨?_,λJf mK => ?_⟩,λj hj => ?_⟩
      · simp only [Instr.findAsking,Sem.run_bind,q4,Result.andThen_ok,Bool.false_eq_true,if_false];exact f1
      · rw [rJ]at mK;cases mK;simp only [Instr.findNow];rcases q5 with q5|q5<;>rw [q5]
        · exact .inl rfl
        · exact f2 _ rJ
      · simp only [Option.map_eq_some_iff]at hj;obtain⟨j0,D9,rfl⟩:=hj;obtain⟨e1,k1,k2,k3⟩:=f3 j0 D9;exact⟨e1,by simpa using k1,k2,k3⟩
theorem Qh{x:fT}{c:ar}{ce:CE}{kc:List At}{K:IE->ar->Env->Prop}{U:Env}(h:oB (PA P W Q QM QP) c x ce kc K U) :
  eV x.ks kc=true/\fR ce=true/\kc.all At.flat=true/\bW c ce=true/\kc.all (At.wf c)=true/\∃aR,K (.var c.ni) {c with ni:=c.ni+1} aR/\Env.ay c U aR/\∀J,Env.ay {c with ni:=c.ni+1} aR J->∀β,
   iS x.ks (x.ks.length+x.ne) (aq J β ce)=true/\(IE.var c.ni).den J=fC x.ks.length (x.ks.length+x.ne) (kc.map (At.den J β)) (aq J β ce):=by
 unfold oB at h;split at h;rotate_left
 ·exact h.elim
 rename_i hc;obtain⟨c1,c2,c3,c4,c5⟩:=hc;obtain⟨h1,h2⟩:=h;refine⟨c1,c2,c3,c4,c5,U.fQ c.ni (fC x.ks.length (x.ks.length+x.ne) (kc.map (At.den U b0)) (aq U b0 ce)),h2 _ rfl,zB c U _,λJ hl β => ?_⟩;have fI:Env.ay c U J:=Env.ah (ar.sq c 1) (zB c U _) hl;rw [AV J β b0 c2,uz fI (λ_ _=>rfl) c4,CI J β b0 c3,xF fI (λ_ _=>rfl) c5];refine⟨h1, ?_⟩
 have:=hl.i c.ni (by show c.ni<c.ni+1;omega)
 simp only [IE.den,this,Env.fQ,if_true]
theorem UB{m:Mem}{o:ba}(kx:ku m o){c:ar}{t:TypeId}{x k:SV}{ok:Bool}{K:SV->ar->Env->Prop}{U:Env}(h:mr (PA P W Q QM QP) P o c t x k ok K U) :
    cy c U K λsv J=>x ≠ .any/\k ≠ .any/\sv ≠ .any/\∀β w,fk W m o (az (aM x)) J β w->(Instr.lookup t (x.den J β) (k.den J β) ok).run P w=.ok (sv.den J β) w:=by
  unfold mr at h;generalize hx:eU P t=u1 at h;split at h
  · rename_i y kv;generalize hz:cx P y.el=u3 at h;split at h;rotate_left
    · exact h.elim
    rename_i z;split at h;rotate_left
    · exact h.elim
    rename_i c1;refine cy.pure h λJ hl=>⟨by simp,by simp,by cases ok<;>simp,λβ w hr => ?_⟩;obtain⟨k1,k2⟩:=D6 hx c1 J β;refine (Uy hx k1 k2 (xS hz J β w c).1 ok).trans ?_;cases ok<;>rfl
  rotate_left
  · exact h.elim
  rename_i y j kv;generalize iJ:aG o j=u2 at h;generalize hz:cx P y.el=u3 at h;split at h;rotate_left
  · exact h.elim
  rename_i ce sz tc z;generalize qo:dK ce=u4 at h;split at h;rotate_left
  · clear qo;generalize UC:u_ P 30 y.el=u5 at h;split at h;rotate_left
    · exact h.elim
    rename_i ls;split at h;rotate_left
    · exact h.elim
    rename_i hc;obtain⟨c1,rfl,rfl,c4,c5⟩:=hc;obtain⟨g1,g2,g3,g4,g5,aR,h1,nC,nD⟩:=Qh h;obtain⟨m1,m2,m3,m4,m5,m6,m7,m8⟩:=vA hx;have eJ:c.le {c with ni:=c.ni+1}:=ar.sq c 1;have GZ:bW {c with ni:=c.ni+1} ce=true:=AE eJ g4
    have run:∀ J,Env.ay {c with ni:=c.ni + 1} aR J->∀ β w,fk W m o (az (aM (.cv (.one (.omap j))))) J β w ->
        ∃es:List MapEntry,es.flatMap aC=aq J β ce/\(∀e∈es,dj (cK y.gk y.ks.length) e.key/\dj (cK y.ge y.ne) e.val) /\
        (∀i,cg y.ks.length (y.ks.length+y.ne) (kv.cells.map (At.den J β)) (aq J β ce).length (aq J β ce)=some i->∃e,es[i]? = some e) /\
        (Instr.lookup t ((SV.cv (.one (.omap j))).den J β) ((SV.cv kv).den J β) ok).run P w =
          .ok (if ok=true then .tuple #[(((cg y.ks.length (y.ks.length+y.ne) (kv.cells.map (At.den J β)) (aq J β ce).length (aq J β ce)).map λi=>((es[i]?).map (·.val)).getD undef)).getD (z.den J β),.bool (cg y.ks.length (y.ks.length+y.ne) (kv.cells.map (At.den J β)) (aq J β ce).length (aq J β ce)).isSome]
            else (((cg y.ks.length (y.ks.length+y.ne) (kv.cells.map (At.den J β)) (aq J β ce).length (aq J β ce)).map λi=>((es[i]?).map (·.val)).getD undef)).getD (z.den J β)) w:=by
      intro J hl β w hr;have bj:=hr j (by simp [aM,CV.cells,az]) _ (kt (kx j _ iJ) iJ);rcases bj with bj|⟨_,_,_,ho⟩
      · exact absurd bj.2.1 (by omega)
      obtain⟨es,clock,hb,fP,fM⟩:=(xW hx).1 ho;obtain⟨k1,k2⟩:=D6 hx c1 J β
      have hlen:es.toList.length<=(aq J β ce).length:=by
        rw [<-fP,D5 es.toList fM];exact Nat.le_mul_of_pos_right _ (by omega)
      have jR:=(nD J hl β).1;obtain⟨f1,f2⟩:=Ji hx g1 (w:=w) k1 es.toList _ 0 hlen fM (by rw [fP];exact jR);rw [fP]at f1 f2;refine⟨es.toList,fP,fM,λi hi=>by obtain⟨e,he,_⟩:=f2 i hi;exact⟨e,he⟩, ?_⟩
      have:=Qd hx hb k1 k2 f1 (xS hz J β w c).1 ok
      refine this.trans ?_;simp only [Option.map_map,Option.isSome_map,Function.comp_def]
    rcases zw h1 with ⟨e1,h1⟩|⟨e1,h1⟩
    · obtain⟨l,c2,aw,q1,q2,q3,q4,q5⟩:=Jb (ix:=IE.var c.ni) ls y.ks.length _ c5 g2 GZ (by show decide (c.ni<c.ni+1)=true;simp) h1;have Y_:=q4.trans c4;refine⟨_,c2,aw,q1,ar.le_trans eJ q2,Env.ah eJ nC q3,λJ hl=>⟨by simp,by simp,by cases ok<;>simp,λβ w hr => ?_⟩⟩;have rK:Env.ay {c with ni:=c.ni+1} aR J:=Env.ah q2 q3 hl;obtain⟨es,fP,fM,kS,gS⟩:=run J rK β w hr;rw [gS];have gJ:=(nD J rK β).2
      have kU:0<=(IE.var c.ni).den J:=by
        have e0:(IE.var c.ni).den J=(IE.var c.ni).den aR:=IE.aa rK (by show decide (c.ni<c.ni+1)=true;simp);rw [e0];simpa [BE.den,gD,IE.den]using e1
      unfold fC at gJ;cases vD:cg y.ks.length (y.ks.length+y.ne) (kv.cells.map (At.den J β)) (aq J β ce).length (aq J β ce)with
      |none=>rw [vD]at gJ;simp only at gJ;omega
      |some i =>
        rw [vD]at gJ;simp only at gJ;obtain⟨e,he⟩:=kS i vD;have fY:=fM e (List.mem_of_getElem? he)
        have dA:e.val.cells.toList=l.map (At.den J β):=by
          have uW:e.val.cells.toList.length=y.ne:=by simpa using vB fY.2
          apply List.ext_getElem?;intro k;by_cases hk:k<y.ne
          · have ha:l[k]? = some (l[k]'(by omega)):=List.getElem?_eq_getElem (by omega);have h5:=q5 J hl β k _ ha;rw [gJ]at h5;rw [List.getElem?_map,ha,Option.map_some,<-h5,<-fP,show ((i:Int)).toNat=i from rfl];exact (D8 es i fM he hk).symm
          · rw [List.getElem?_eq_none (by omega),List.getElem?_eq_none (by simp;omega)]
        have AZ:e.val=(dO y.ge l).den J β:=(D3 m4 fY.2 dA).2.1;have iU:(es[i]?).map (·.val)=some ((dO y.ge l).den J β):=by rw [he,Option.map_some,AZ]
        simp only [Option.map_some,iU,Option.getD_some,Option.isSome_some];cases ok<;>rfl
    · refine⟨_,_,aR,h1,eJ,nC,λJ hl=>⟨by simp,by simp,by cases ok<;>simp,λβ w hr => ?_⟩⟩;obtain⟨es,fP,fM,kS,gS⟩:=run J hl β w hr;rw [gS];have gJ:=(nD J hl β).2
      have kU:¬0<=(IE.var c.ni).den J:=by
        have e0:(IE.var c.ni).den J=(IE.var c.ni).den aR:=IE.aa hl (by show decide (c.ni<c.ni+1)=true;simp);rw [e0];simpa [BE.den,gD,IE.den]using e1
      unfold fC at gJ;cases vD:cg y.ks.length (y.ks.length+y.ne) (kv.cells.map (At.den J β)) (aq J β ce).length (aq J β ce)with
      |some i=>rw [vD]at gJ;simp only at gJ;omega
      |none =>
        simp only [Option.map_none,Option.getD_none,Option.isSome_none];cases ok<;>rfl
  rename_i cs;split at h;rotate_left
  · exact h.elim
  rename_i hc;obtain⟨c1,rfl,rfl⟩:=hc;obtain⟨r,h1,h2⟩:=Je hx _ _ _ h
  have run:∀ J,Env.ay c U J->∀ β w,fk W m o (az (aM (.cv (.one (.omap j))))) J β w ->
      (Instr.lookup t ((SV.cv (.one (.omap j))).den J β) ((SV.cv kv).den J β) ok).run P w =
        .ok (if ok=true then .tuple #[((r.map λq=>(0+q.1,(dO y.ge q.2).den J β)).map (·.2)).getD (z.den J β),.bool (r.map λq=>(0+q.1,(dO y.ge q.2).den J β)).isSome]else ((r.map λq=>(0+q.1,(dO y.ge q.2).den J β)).map (·.2)).getD (z.den J β)) w:=by
    intro J hl β w hr;have bj:=hr j (by simp [aM,CV.cells,az]) _ (kt (kx j _ iJ) iJ);rcases bj with bj|⟨_,_,_,ho⟩
    · exact absurd bj.2.1 (by omega)
    obtain⟨es,clock,hb,fP,fM⟩:=(xW hx).1 ho;rw [DE J β qo]at fP;obtain⟨k1,k2⟩:=D6 hx c1 J β;exact Qd hx hb k1 k2 (h2 J hl β w _ es.toList k1 fP fM).1 (xS hz J β w c).1 ok
  cases r with
  |none =>
    refine cy.pure h1 λJ hl=>⟨by simp,by simp,by cases ok<;>simp,λβ w hr => ?_⟩;rw [run J hl β w hr];cases ok<;>rfl
  |some q =>
    refine cy.pure h1 λJ hl=>⟨by simp,by simp,by cases ok<;>simp,λβ w hr => ?_⟩;rw [run J hl β w hr];cases ok<;>rfl
end Vc
set_option linter.unusedVariables false
namespace Vc
open Go Go.RowKit
variable {P:Program} {W:dR} {Q:Value->Prop} {QM QP:World->Value->Prop}
structure St.WF(st:St):Prop where
 t:∀i,(av st.t i).wf st.c=true
 m:∀k cs t,getM st.m k=some (cs,t)->k<st.c.nk/\cs.all (At.wf st.c)=true
 o:∀k ce sz t,aG st.o k=some (ce,sz,t)->k+3<st.c.nk/\bW st.c ce=true
 ap:ku st.m st.o
 r:∀k e,eF st.r k=some e->k<st.c.nk
 d:∀k∈st.d,k<st.c.nk
 k:bV.wf st.k st.c
 df:∀x∈st.df,∀y∈x.2,y.1<st.c.nk
theorem St.WF.ev{st:St}(h:st.WF):∀x:Operand,(st.ev x).wf st.c=true
  | .tmp t=>h.t t
  | .const v=>(SV.cu v st.c Env.zero b0).1
  | .global g=>by
    simp only [St.ev];split
    · rename_i p hp
      have:=h.k _ (GI hp)
      simp only [Kn.wf]at this;simp only [SV.wf,CV.wf,At.wf,IE.wf,this,Bool.and_self]
    · rfl
  | .func _=>rfl
def dD(st:St)(o:Oper)(U:Env)(β:Nat->Nat)(a:Act):Prop:=∀x∈o.op.operands,st.ev x ≠ .any->a.eval x=(st.ev x).den U β
def bB(P:Program)(W:dR)(st:St)(o:Oper)(sv:SV)(U:Env):Prop :=
  ∀(β:Nat->Nat) (a:Act) (w:World),dz W w->dD st o U β a->fk W st.m st.o (aU st o) U β w ->
    ∀(next:Act->World->Prop) (Q':Exit->Act->World->Prop),(∀v w',(sv ≠ .any->v=sv.den U β)->Below w.heap.size w w'->next (a.put o.dst v) w')->o.wp P a w next Q'
theorem bB.run{st:St}{o:Oper}{sv:SV}{U:Env}(h:∀(β:Nat->Nat) (a:Act) (w:World),dz W w->dD st o U β a->fk W st.m st.o (aU st o) U β w ->
  ∃v,(execOp a.eval o).run P w=.ok (.value v) w/\(sv ≠ .any->v=sv.den U β)):bB P W st o sv U:=by
 intro β a w hB ho hr next Q' hn
 obtain⟨v,hv,he⟩:=h β a w hB ho hr;unfold Oper.wp;rw [hv,Oper.upon_value];exact hn v w he (Below.refl _ _)
theorem G0{place:Nat->Option (Nat × Nat)}:∀(parts:List (Nat × SV)) (cells:List At) {cs:List At},cw place cells parts=some cs->∀p∈parts,p.2 ≠ .any
  | [],_,_,_,p,hp=>by cases hp
  | (i,.any)::r,_,_,h,_,_=>by simp [cw]at h
  | (i,.dF)::r,_,_,h,_,_=>by simp [cw]at h
  | (i,.cE l)::r,_,_,h,_,_=>by simp [cw]at h
  | (i,.cv v)::r,cells,cs,h,p,hp=>by
    simp only [cw]at h;split at h
    · split at h
      · rcases List.mem_cons.1 hp with rfl|hp
        · simp
        · exact G0 r _ h p hp
      · cases h
    · cases h
theorem UD{c:ar}{t:TypeId}{parts:List (Nat × SV)}{K:SV->ar->Env->Prop}{U:Env}(h:j8 (PA P W Q QM QP) P c t parts K U):∀p∈parts,p.2 ≠ .any:=by
 unfold j8 at h;generalize h1:P.underlying t=u1 at h;generalize h2:cx P t=u2 at h;split at h
 ·rename_i fs z;generalize h3:de P fs.toList=u3 at h;split at h
  ·rename_i pl;generalize h4:cw (λx=>pl[x]?) z.cells parts=u4 at h;split at h
   ·exact G0 parts z.cells h4
   ·exact h.elim
  ·exact h.elim
 ·rename_i n el z;generalize h3:aH P el=u3 at h;split at h
  ·rename_i g s;generalize h4:cw (λi=>some (i*s,s)) z.cells parts=u4 at h;split at h
   ·exact G0 parts z.cells h4
   ·exact h.elim
  ·exact h.elim
 ·exact h.elim
theorem UE{x:SV}{l:List SV}{r:List (Nat × Nat)}(h:fg (x::l)=some r):∃k o r',x=.cv (.one (.loc k o))/\fg l=some r'/\r=(k,o)::r':=by
 unfold fg at h;split at h
 ·rename_i he;cases he
 ·rename_i k o l' he;cases he;simp only [Option.map_eq_some_iff]at h;obtain⟨r',h1,rfl⟩:=h;exact⟨k,o,r',rfl,h1,rfl⟩
 ·cases h
theorem D_:∀(l:List SV) {r:List (Nat × Nat)},fg l=some r->(∀x∈l,x ≠ .any)/\∀U β,l.map (SV.den U β)=r.map λc=>.pointer (some ⟨β c.1,c.2,none⟩)
  | [],r,h=>by simp only [fg,Option.some.injEq]at h;subst h;exact⟨by simp,λ_ _=>rfl⟩
  |x::l,r,h=>by
    obtain⟨k,o,r',rfl,h1,rfl⟩:=UE h;obtain⟨q1,q2⟩:=D_ l h1;exact⟨by simp;exact q1,λU β=>by simp only [List.map_cons,q2];rfl⟩
theorem UF{m:Mem}{o:ba}(kx:ku m o){c:ar}{t:Option TypeId}{x:SV}{K:SV->ar->Env->Prop}{U:Env}(hx:x.wf c=true)(h:vf (PA P W Q QM QP) P o c t x K U) :
    cy c U K λsv J=>sv ≠ .any/\∃ty,t=some ty/\∀β w v,fk W m o (az (aM x)) J β w->(x ≠ .any->v=x.den J β)->(Builtin.len_ #[ty] ty #[v]).run P w=.ok (sv.den J β) w:=by
  unfold vf at h;cases t with
  |none=>cases x<;>exact h.elim
  |some ty =>
    simp only [Option.bind_some]at h;generalize hu:P.underlying ty=u1 at h;split at h
    · rename_i el k;generalize iJ:aG o k=u2 at h;split at h
      · rename_i ce sz DP;split at h
        · rename_i zE;obtain⟨n,c1,aR,r1,r2,r3,r4,r5,r6⟩:=zD h;refine⟨_,c1,aR,r1,r2,r4,λJ hl=>⟨by simp,ty,rfl,λβ w v dC hv => ?_⟩⟩;rw [hv (by simp)];have bj:=(dC k (by simp [aM,CV.cells,az]) _ (kt (kx k _ iJ) iJ)).eI zE;have e3:=r6 J β hl;rw [I_ bj]at e3;have hlen:(SV.cv (.one (.own k))).den J β=(if β (k+1)=0 then .slice none 0 0 else .slice (some ⟨β k,β (k+3),none⟩) (β (k+2)) (β (k+1)-1):Value):=rfl;rw [hlen]
          have hz:β (k+1)=0->β (k+2)=0:=λh0=>by
            rcases bj.2.2 with ⟨_,h1⟩|⟨h1,_⟩
            · exact h1
            · omega
          by_cases h0:β (k+1)=0
          · rw [if_pos h0]
            have:=hz h0
            rw [this]at e3;simp [Builtin.len_,run_underlying hu,SV.den,CV.den,At.den,goInt,e3]
          · rw [if_neg h0];simp [Builtin.len_,run_underlying hu,SV.den,CV.den,At.den,goInt,e3]
        · exact h.elim
      · exact h.elim
    · rename_i el k;generalize iJ:aG o k=u2 at h;split at h
      · rename_i ce sz DP;split at h
        · rename_i zE;obtain⟨rfl,rfl⟩:=zE;obtain⟨n,c1,aR,r1,r2,r3,r4,r5,r6⟩:=zD h;refine⟨_,c1,aR,r1,r2,r4,λJ hl=>⟨by simp,ty,rfl,λβ w v dC hv => ?_⟩⟩;rw [hv (by simp)];have bj:=dC k (by simp [aM,CV.cells,az]) _ (kt (kx k _ iJ) iJ);rcases bj with bj|⟨_,_,_,ho⟩
          · exact absurd bj.2.1 (by omega)
          have e3:=r6 J β hl;rw [Nat.div_one,<-ho.1]at e3;simp [Builtin.len_,run_underlying hu,SV.den,CV.den,At.den,goInt,e3]
        · exact h.elim
      · exact h.elim
    · rename_i el q p sz len cap;have wx:(decide (q<c.nb) && decide (p<c.np) && len.wf c && cap.wf c)=true:=hx;simp only [Bool.and_eq_true,decide_eq_true_eq]at wx;obtain⟨q1,h⟩:=za h;obtain⟨q2,h⟩:=za h;refine cy.pure h λJ hl=>⟨by simp,ty,rfl,λβ w v dC hv => ?_⟩;rw [hv (by simp)];have p1:0<=len.den J:=by rw [IE.aa hl wx.1.2];exact q1
      have p2:J.b q=true->len.den J=0:=by
        rw [IE.aa hl wx.1.2,hl.b q wx.1.1.1];intro hb;rcases q2 with h'|h'
        · exact (h' hb).elim
        · exact h'
      simp only [SV.den,CV.den,At.den];split
      · rename_i hb;simp [Builtin.len_,run_underlying hu,goInt,p2 hb]
      · have:((len.den J).toNat:Int)=len.den J:=by omega
        simp [Builtin.len_,run_underlying hu,goInt,this]
    · rename_i i;obtain⟨n,c1,aR,r1,r2,r3,r4,r5,r6⟩:=DY h;refine⟨_,c1,aR,r1,r2,r4,λJ hl=>⟨by simp,ty,rfl,λβ w v dC hv => ?_⟩⟩;rw [hv (by simp)];have e:=r6 J hl;simp only [IP.den,SE.den]at e;have e2:(⟨(J.s i).toArray⟩:ByteArray).size=(J.s i).length:=by show (J.s i).toArray.size=_;simp
      simp [Builtin.len_,run_underlying hu,SV.den,CV.den,At.den,goInt,e2,e]
    · refine cy.pure h λJ _=>⟨by simp,ty,rfl,λβ w v dC hv => ?_⟩;rw [hv (by simp)];simp [Builtin.len_,run_underlying hu,SV.den,CV.den,At.den,goInt,nA]
    · refine cy.pure h λJ _=>⟨by simp,ty,rfl,λβ w v dC hv => ?_⟩;rw [hv (by simp)];simp [Builtin.len_,run_underlying hu,SV.den,CV.den,At.den,goInt,nA]
    · rename_i p ix sz len cap;obtain⟨q1,h⟩:=za h;have wx:((decide (p<c.np) && ix.wf c && len.wf c && cap.wf c))=true:=hx;simp only [Bool.and_eq_true]at wx;refine cy.pure h λJ hl=>⟨by simp,ty,rfl,λβ w v dC hv => ?_⟩;rw [hv (by simp)];have q2:0<=len.den J:=by rw [IE.aa hl wx.1.2];exact q1
      simp [Builtin.len_,run_underlying hu,SV.den,CV.den,At.den,goInt,nA,q2];omega
    · rename_i l;refine cy.pure h λJ _=>⟨by simp,ty,rfl,λβ w v dC hv => ?_⟩;rw [hv (by simp)];have e:(⟨l.toArray⟩:ByteArray).size=l.length:=by show l.toArray.size=_;simp
      simp [Builtin.len_,run_underlying hu,SV.den,CV.den,At.den,goInt,nA,e]
    · refine cy.pure h λJ _=>⟨by simp,ty,rfl,λβ w v dC hv => ?_⟩;simp [Builtin.len_,run_underlying hu,SV.den,CV.den,At.den,goInt,nA]
    · rename_i k;generalize iJ:aG o k=u2 at h;generalize hx:eU P ty=u3 at h;split at h;rotate_left
      · exact h.elim
      rename_i ce sz tc y;generalize qo:dK ce=u4 at h;split at h;rotate_left
      · clear qo;split at h;rotate_left
        · exact h.elim
        rename_i hc;obtain⟨rfl,rfl⟩:=hc;obtain⟨n,c1,aR,r1,r2,r3,r4,r5,r6⟩:=zD h;refine⟨_,c1,aR,r1,r2,r4,λJ hl=>⟨by simp,ty,rfl,λβ w v dC hv => ?_⟩⟩;rw [hv (by simp)];have bj:=dC k (by simp [aM,CV.cells,az]) _ (kt (kx k _ iJ) iJ);rcases bj with bj|⟨_,_,_,ho⟩
        · exact absurd bj.2.1 (by omega)
        obtain⟨es,clock,hb,fP,fM⟩:=(xW hx).1 ho;have hle:=D5 es.toList fM;rw [fP]at hle;simp only [Array.length_toList]at hle;have hp:0<y.ks.length+y.ne:=by have:=(vA hx).2.2.2.2.1;omega
        have hn:(aq J β ce).length / (y.ks.length+y.ne)=es.size:=by rw [hle,Nat.mul_div_cancel _ hp]
        have e3:=r6 J β hl;rw [hn]at e3;simp [Builtin.len_,run_underlying hu,SV.den,CV.den,At.den,goInt,e3,Go.MapKept.run_getObj_map hb]
      rename_i cs;split at h;rotate_left
      · exact h.elim
      rename_i hc;obtain⟨rfl,rfl⟩:=hc;refine cy.pure h λJ _=>⟨by simp,ty,rfl,λβ w v dC hv => ?_⟩;rw [hv (by simp)];have bj:=dC k (by simp [aM,CV.cells,az]) _ (kt (kx k _ iJ) iJ);rcases bj with bj|⟨_,_,_,ho⟩
      · exact absurd bj.2.1 (by omega)
      obtain⟨es,clock,hb,fP,fM⟩:=(xW hx).1 ho;rw [DE J β qo]at fP;have hl:=D5 es.toList fM;rw [fP]at hl;simp only [List.length_map,Array.length_toList]at hl;have hp:0<y.ks.length+y.ne:=by have:=(vA hx).2.2.2.2.1;omega
      have hn:cs.length / (y.ks.length+y.ne)=es.size:=by rw [hl,Nat.mul_div_cancel _ hp]
      simp [Builtin.len_,run_underlying hu,SV.den,CV.den,At.den,goInt,nA,hn,Go.MapKept.run_getObj_map hb]
    · exact h.elim
theorem Qi{c:ar}{mx:Bool}{x y:SV}{K:SV->ar->Env->Prop}{U:Env}(h:ka (PA P W Q QM QP) c mx x y K U) :
  cy c U K λsv J=>sv ≠ .any/\x ≠ .any/\y ≠ .any/\∀β w,(if mx then Builtin.max2 (x.den J β) (y.den J β)else Builtin.min2 (x.den J β) (y.den J β)).run P w=.ok (sv.den J β) w:=by
 unfold ka at h;split at h
 ·refine (zx h).mono λsv J _ hv=>⟨(hv b0).2,by simp,by simp,λβ w => ?_⟩;rw [(hv β).1];cases mx<;>simp [SV.den,CV.den,At.den,Builtin.max2,Builtin.min2,IP.den]
 ·exact h.elim
theorem xp{d:IE}{o:Option SV}{e:IE}(h:cL d o=some e):(o=none/\e=d)∨∃k,o=some (.cv (.one (.int k e))):=by
 unfold cL at h;split at h
 ·exact .inl ⟨rfl,by simpa using h.symm⟩
 ·rename_i k e';simp only [Option.some.injEq]at h;subst h;exact .inr ⟨k,rfl⟩
 ·cases h
theorem D'{lo hi:Option Value}{n c:Nat}{l h:Int}(UG:Bool)(nh:(lo=none/\l=0)∨∃k,lo=some (.int k l))(xq:(hi=none/\h=n)∨∃k,hi=some (.int k h))(h0:0<=l)(h1:l<=h)(h2:h<=c)(w:World) :
  (Instr.sliceBounds UG n c lo hi none).run P w=.ok (l.toNat,h.toNat,c) w:=by
 have a1:0<=h:=by omega
 rcases nh with ⟨rfl,rfl⟩|⟨k,rfl⟩<;>rcases xq with ⟨rfl,rfl⟩|⟨k',rfl⟩
 ·simp [Instr.sliceBounds]
 ·simp [Instr.sliceBounds,Instr.sliceBound,asIntOf,a1,h2]
 ·simp [Instr.sliceBounds,Instr.sliceBound,asIntOf,h0,h1]
 ·have:l<=(h.toNat:Int):=by omega
  simp [Instr.sliceBounds,Instr.sliceBound,asIntOf,h0,h1,a1,h2,this];intro hx;omega
theorem Qj{c:ar}{t:TypeId}{x:SV}{lo hi:Option SV}{K:SV->ar->Env->Prop}{U:Env}(hx:x.wf c=true)(nh:∀v,lo=some v->v.wf c=true)(xq:∀v,hi=some v->v.wf c=true)(h:j_ (PA P W Q QM QP) P c t x lo hi K U) :
  cy c U K λsv J=>sv ≠ .any/\x ≠ .any/\(∀v,lo=some v->v ≠ .any)/\(∀v,hi=some v->v ≠ .any) /\
   ∀β w,(Instr.sliceAt t (x.den J β) (lo.map (SV.den J β)) (hi.map (SV.den J β)) none).run P w=.ok (sv.den J β) w:=by
 have lM:∀{d e} {o:Option SV},cL d o=some e->∀v,o=some v->v ≠ .any:=by
  intro d e o ho v hv;rcases xp ho with ⟨h1,_⟩|⟨k,h1⟩
  ·rw [h1]at hv;cases hv
  ·rw [h1]at hv;cases hv;simp
 have Qk:∀{d e} {o:Option SV},cL d o=some e->d.wf c=true->(∀v,o=some v->v.wf c=true)->e.wf c=true:=by
  intro d e o ho hd hv;rcases xp ho with ⟨_,h1⟩|⟨k,h1⟩
  ·rw [h1];exact hd
  ·exact hv _ h1
 have mp:∀{d e} {o:Option SV} (J:Env) (β:Nat->Nat),cL d o=some e->(o.map (SV.den J β)=none/\e.den J=d.den J)∨∃k,o.map (SV.den J β)=some (.int k (e.den J)):=by
  intro d e o J β ho;rcases xp ho with ⟨h1,h2⟩|⟨k,h1⟩
  ·exact .inl ⟨by rw [h1];rfl,by rw [h2]⟩
  ·exact .inr ⟨k,by rw [h1];rfl⟩
 unfold j_ at h;generalize hu:P.underlying t=u1 at h;split at h
 ·rename_i el p ix sz len cap;have wx:((decide (p<c.np) && ix.wf c && len.wf c && cap.wf c))=true:=hx;simp only [Bool.and_eq_true]at wx;generalize hz:aH P el=u2 at h;generalize hl:cL (.lit 0) lo=u3 at h;generalize hh:cL len hi=u4 at h;split at h
  ·rename_i g s l hI;split at h
   ·rename_i hs;subst hs;have wl:=Qk hl rfl nh;have wh:=Qk hh wx.1.2 xq;obtain⟨q1,ha⟩:=za h;clear h;obtain⟨q2,h⟩:=za ha;clear ha;obtain⟨q3,ha⟩:=za h;clear h;obtain⟨q4,h⟩:=za ha;clear ha;obtain⟨q5,ha⟩:=za h;clear h;replace h:=ha;clear ha
    have tr:∀{J},Env.ay c U J->0<=len.den J/\len.den J<=cap.den J/\0<=l.den J/\l.den J<=hI.den J/\hI.den J<=cap.den J:=λhk=>by
     rw [IE.aa hk wx.1.2,IE.aa hk wx.2,IE.aa hk wl,IE.aa hk wh];exact⟨q1,q2,q3,q4,q5⟩
    have run:∀{J} (β:Nat->Nat) (w:World),Env.ay c U J ->
      (Instr.sliceAt t ((SV.cv (.one (.me p ix s len cap))).den J β) (lo.map (SV.den J β)) (hi.map (SV.den J β)) none).run P w =
       .ok (.slice (if (cap.den J).toNat=(l.den J).toNat then some ⟨(J.p p).1,(J.p p).2+(ix.den J).toNat*s,none⟩else some ⟨(J.p p).1,(J.p p).2+(ix.den J).toNat*s+(l.den J).toNat*s,none⟩)
        ((hI.den J).toNat-(l.den J).toNat) ((cap.den J).toNat-(l.den J).toNat)) w:=by
     intro J β w hk;obtain⟨t1,t2,t3,t4,t5⟩:=tr hk
     have hb:=D' (P:=P) (n:=(len.den J).toNat) (c:=(cap.den J).toNat) true (by
      rcases mp J β hl with ⟨m1,m2⟩|m1
      ·exact .inl ⟨m1,m2⟩
      ·exact .inr m1) (by
      rcases mp J β hh with ⟨m1,m2⟩|m1
      ·exact .inl ⟨m1,by rw [m2];omega⟩
      ·exact .inr m1) t3 t4 (by omega) w
     simp only [SV.den,CV.den,At.den,Instr.sliceAt,Sem.run_bind,run_underlying hu,Result.andThen_ok,Instr.slice,hb,qm hz,Sem.run_pure];split
     ·rfl
     ·simp [tQ]
    split at h
    ·rename_i fI;subst fI;refine cy.pure h λJ hk=>⟨by simp,by simp,lM hl,lM hh,λβ w => ?_⟩;rw [run β w hk];simp only [nA,SV.den,CV.den,At.den,Int.toNat_zero,Nat.sub_zero,Nat.zero_mul,Nat.add_zero];split<;>rfl
    ·obtain⟨q6,h⟩:=za h;obtain⟨AJ,c1,aR,r1,r2,r3,r4,r5,r6⟩:=GV h;obtain⟨AK,c2,aw,s1,s2,s3,s4,s5,s6⟩:=GV r1;have Ea:c.le c2:=ar.le_trans r2 s2;have rL:Env.ay c U aw:=Env.ah r2 r4 s4;rcases zw s1 with ⟨hd,h⟩|⟨hd,h⟩
     ·obtain⟨PC,c3,Cw,u1,u2,u3,u4,u5,u6⟩:=GV h;refine⟨_,c3,Cw,u1,ar.le_trans Ea u2,Env.ah Ea rL u4,λJ hk=>⟨by simp,by simp,lM hl,lM hh,λβ w => ?_⟩⟩;have jk:=Env.ah u2 u4 hk;have si:=Env.ah s2 s4 jk;have oa:=Env.ah r2 r4 si;obtain⟨t1,t2,t3,t4,t5⟩:=tr oa;rw [run β w oa];have e1:=r6 J si;have e2:=s6 J jk;have e3:=u6 J hk;simp only [IP.den]at e1 e2 e3;have p6:0<=ix.den J:=by rw [IE.aa oa wx.1.1.2];exact q6
      have p7:l.den J<cap.den J:=by
       rw [IE.aa (Env.ah Ea rL jk) wl,IE.aa (Env.ah Ea rL jk) wx.2];rw [<-IE.aa rL wl,<-IE.aa rL wx.2];simpa [BE.den,gD]using hd
      have n1:¬(cap.den J).toNat=(l.den J).toNat:=by omega
      rw [if_neg n1];simp only [SV.den,CV.den,At.den,e1,e2,e3];congr 2
      ·congr 2
       have:(ix.den J+l.den J).toNat=(ix.den J).toNat+(l.den J).toNat:=by omega
       rw [this,Nat.add_mul,Nat.add_assoc]
      ·omega
      ·omega
     ·refine⟨_,c2,aw,h,Ea,rL,λJ hk=>⟨by simp,by simp,lM hl,lM hh,λβ w => ?_⟩⟩;have si:=Env.ah s2 s4 hk;have oa:=Env.ah r2 r4 si;obtain⟨t1,t2,t3,t4,t5⟩:=tr oa;rw [run β w oa];have e1:=r6 J si;have e2:=s6 J hk;simp only [IP.den]at e1 e2
      have p7:¬l.den J<cap.den J:=by
       rw [IE.aa oa wl,IE.aa oa wx.2,<-IE.aa rL wl,<-IE.aa rL wx.2];simpa [BE.den,gD]using hd
      have n1:(cap.den J).toNat=(l.den J).toNat:=by omega
      rw [if_pos n1];simp only [SV.den,CV.den,At.den,e1,e2];congr 2
      ·omega
      ·omega
   ·exact h.elim
  ·exact h.elim
 ·rename_i el k off len cap;generalize hz:aH P el=u2 at h;generalize hl:cL (.lit 0) lo=u3 at h;generalize hh:cL (.lit len) hi=u4 at h;split at h
  ·rename_i g s l hI;split at h
   ·rename_i hc;obtain⟨c1,c2,c3⟩:=hc;refine cy.pure h λJ hk=>⟨by simp,by simp,lM hl,lM hh,λβ w => ?_⟩
    have hb:=D' (P:=P) (n:=len) (c:=cap) (l:=l) (h:=hI) true (by
     rcases mp J β hl with ⟨m1,m2⟩|m1
     ·exact .inl ⟨m1,m2⟩
     ·exact .inr m1) (by
     rcases mp J β hh with ⟨m1,m2⟩|m1
     ·exact .inl ⟨m1,m2⟩
     ·exact .inr m1) c1 c2 c3 w
    simp only [SV.den,CV.den,At.den,Instr.sliceAt,Sem.run_bind,run_underlying hu,Result.andThen_ok,Instr.slice,hb,qm hz,Sem.run_pure];by_cases iz:l.toNat=cap
    ·rw [if_pos iz,if_pos iz.symm]
    ·rw [if_neg iz,if_neg (λe=>iz e.symm)];simp [tQ]
   ·exact h.elim
  ·exact h.elim
 ·rename_i n el p j sz off;generalize hz:aH P el=u2 at h;generalize hl:cL (.lit 0) lo=u3 at h;generalize hh:cL (.lit n) hi=u4 at h;split at h
  ·rename_i g s l hI;split at h
   ·rename_i hc;obtain⟨c1,c2,c3,c4,c5,c6,c7⟩:=hc;subst c4 c5;refine cy.pure h λJ hk=>⟨by simp,by simp,lM hl,lM hh,λβ w => ?_⟩
    have hb:=D' (P:=P) (n:=n) (c:=n) (l:=l) (h:=hI) false (by
     rcases mp J β hl with ⟨m1,m2⟩|m1
     ·exact .inl ⟨m1,m2⟩
     ·exact .inr m1) (by
     rcases mp J β hh with ⟨m1,m2⟩|m1
     ·exact .inl ⟨m1,m2⟩
     ·exact .inr m1) c1 c2 c3 w
    simp only [SV.den,CV.den,At.den,IE.den,Int.toNat_zero,Nat.zero_mul,Nat.add_zero,Instr.sliceAt,Instr.sureAddr,Sem.run_bind,run_underlying hu,Result.andThen_ok,hb,qm hz,Sem.run_pure];have n1:(hI-l).toNat=hI.toNat-l.toNat:=by omega
    have n2:((n:Int)-l).toNat=n-l.toNat:=by omega
    by_cases iz:l.toNat=n
    ·rw [if_pos iz.symm,if_pos iz,n1,n2];simp
    ·rw [if_neg (λe=>iz e.symm),if_neg iz,n1,n2];simp [tQ]
   ·exact h.elim
  ·exact h.elim
 ·rename_i n el k off;generalize hz:aH P el=u2 at h;generalize hl:cL (.lit 0) lo=u3 at h;generalize hh:cL (.lit n) hi=u4 at h;split at h
  ·rename_i g s l hI;split at h
   ·rename_i hc;obtain⟨c1,c2,c3⟩:=hc;refine cy.pure h λJ hk=>⟨by simp,by simp,lM hl,lM hh,λβ w => ?_⟩
    have hb:=D' (P:=P) (n:=n) (c:=n) (l:=l) (h:=hI) false (by
     rcases mp J β hl with ⟨m1,m2⟩|m1
     ·exact .inl ⟨m1,m2⟩
     ·exact .inr m1) (by
     rcases mp J β hh with ⟨m1,m2⟩|m1
     ·exact .inl ⟨m1,m2⟩
     ·exact .inr m1) c1 c2 c3 w
    simp only [SV.den,CV.den,At.den,Instr.sliceAt,Instr.sureAddr,Sem.run_bind,run_underlying hu,Result.andThen_ok,hb,qm hz,Sem.run_pure];by_cases iz:l.toNat=n
    ·rw [if_pos iz,if_pos iz.symm]
    ·rw [if_neg iz,if_neg (λe=>iz e.symm)];simp [tQ]
   ·exact h.elim
  ·exact h.elim
 ·exact h.elim
theorem Ql{c:ar}{t:TypeId}{s:SE}{lo hi:Option SV}{K:SV->ar->Env->Prop}{U:Env}(hs:s.wf c=true)(h:j9 (PA P W Q QM QP) P c t s lo hi K U) :
  cy c U K λsv J=>sv ≠ .any/\(∀v,lo=some v->v ≠ .any)/\(∀v,hi=some v->v ≠ .any) /\
   ∀β w,(Instr.sliceAt t (.string ⟨(s.den J).toArray⟩) (lo.map (SV.den J β)) (hi.map (SV.den J β)) none).run P w=.ok (sv.den J β) w:=by
 have ext:∀(l:List UInt8) (i j:Nat),(ByteArray.extract ⟨l.toArray⟩ i j)=⟨((l.drop i).take (j-i)).toArray⟩:=λl i j=>by
  apply ByteArray.ext;simp [ByteArray.data_extract,List.extract_eq_take_drop]
 have run:∀{J:Env} {l e:Int} {uE nj:Option Value},P.underlying t=some .string->((uE=none/\l=0)∨∃k,uE=some (.int k l))->((nj=none/\e=((s.den J).length:Int))∨∃k,nj=some (.int k e))->0<=l->l<=e->e<=((s.den J).length:Int) ->
   ∀w,(Instr.sliceAt t (.string ⟨(s.den J).toArray⟩) uE nj none).run P w=.ok (.string ⟨(((s.den J).drop l.toNat).take (e.toNat-l.toNat)).toArray⟩) w:=by
  intro J l e uE nj hu h1 h2 q0 q1 q2 w;have hb:=D' (P:=P) (n:=(s.den J).length) (c:=(s.den J).length) false h1 h2 q0 q1 q2 w
  have hz:((⟨(s.den J).toArray⟩:ByteArray)).size=(s.den J).length:=by
   show (s.den J).toArray.size=_;simp
  simp only [Instr.sliceAt,Instr.slice,Sem.run_bind,run_underlying hu,Result.andThen_ok,Option.isSome_none,Bool.false_eq_true,if_false,hz,hb,Sem.run_pure,ext]
 unfold j9 at h;generalize hu:P.underlying t=u1 at h;generalize hl:cL (.lit 0) lo=u3 at h;split at h
 ·rename_i l;split at h
  ·rename_i wl;obtain⟨n,c',af,h1,h2,h3,h4,h5,h6⟩:=DY h;obtain⟨sv,c2,aw,g1,g2,g3,g4⟩:=DU h1;refine⟨sv,c2,aw,g1,ar.le_trans h2 g2,Env.ah h2 h4 g3,λJ hk => ?_⟩;obtain⟨k1,k2,k3⟩:=g4 J hk;have en:=h6 J (Env.ah g2 g3 hk);simp only [SP.ok]at k1;refine⟨k2,λv hv => ?_,λv hv=>(by cases hv),λβ w => ?_⟩
   ·rcases xp hl with ⟨a1,_⟩|⟨k,a1⟩
    ·rw [a1]at hv;cases hv
    ·rw [a1]at hv;cases hv;simp
   ·rw [k3 β];simp only [SP.den];refine run hu ?_ (.inl ⟨rfl,by rw [en];rfl⟩) k1.1 k1.2.1 k1.2.2 w;rcases xp hl with ⟨a1,a2⟩|⟨k,a1⟩
    ·exact .inl ⟨by rw [a1];rfl,by rw [a2];rfl⟩
    ·exact .inr ⟨k,by rw [a1];rfl⟩
  ·exact h.elim
 ·rename_i l k0 e;obtain⟨sv,c2,aw,g1,g2,g3,g4⟩:=DU h;refine⟨sv,c2,aw,g1,g2,g3,λJ hk => ?_⟩;obtain⟨k1,k2,k3⟩:=g4 J hk;simp only [SP.ok]at k1;refine⟨k2,λv hv => ?_,λv hv=>(by cases hv;simp),λβ w => ?_⟩
  ·rcases xp hl with ⟨a1,_⟩|⟨k,a1⟩
   ·rw [a1]at hv;cases hv
   ·rw [a1]at hv;cases hv;simp
  ·rw [k3 β];simp only [SP.den];refine run hu ?_ (.inr ⟨k0,rfl⟩) k1.1 k1.2.1 k1.2.2 w;rcases xp hl with ⟨a1,a2⟩|⟨k,a1⟩
   ·exact .inl ⟨by rw [a1];rfl,by rw [a2];rfl⟩
   ·exact .inr ⟨k,by rw [a1];rfl⟩
 ·exact h.elim
theorem UH{c:ar}{t:TypeId}{x:SV}{lo hi:Option SV}{K:SV->ar->Env->Prop}{U:Env}(hx:x.wf c=true)(nh:∀ v,lo=some v->v.wf c=true)(xq:∀ v,hi=some v->v.wf c=true)(h:oF (PA P W Q QM QP) P c t x lo hi K U) :
    cy c U K λsv J=>sv ≠ .any/\x ≠ .any/\(∀v,lo=some v->v ≠ .any)/\(∀v,hi=some v->v ≠ .any) /\
      ∀β w,(Instr.sliceAt t (x.den J β) (lo.map (SV.den J β)) (hi.map (SV.den J β)) none).run P w=.ok (sv.den J β) w:=by
  unfold oF at h;split at h
  · rename_i q p sz len cap;have wx:(decide (q<c.nb) && decide (p<c.np) && len.wf c && cap.wf c)=true:=hx;simp only [Bool.and_eq_true,decide_eq_true_eq]at wx;obtain⟨q1,h⟩:=za h;obtain⟨q2,h⟩:=za h;refine (Qj (x := .cv (.one (.me p (.lit 0) sz len cap))) ?_ nh xq h).mono λsv J hl hv => ?_
    · show (decide (p<c.np) && true && len.wf c && cap.wf c)=true;simp only [wx.1.1.2,wx.1.2,wx.2,decide_true,Bool.and_self]
    · obtain⟨v1,v2,v3,v4,v5⟩:=hv;refine⟨v1,by simp,v3,v4,λβ w => ?_⟩;have p0:¬J.b q=true:=by rw [hl.b q wx.1.1.1];exact q1
      have p2:0<cap.den J:=by rw [IE.aa hl wx.2];exact q2
      have q0:¬((len.den J).toNat=0/\(cap.den J).toNat=0):=by omega
      have:=v5 β w
      simpa [SV.den,CV.den,At.den,p0,nA,DB q0]using this
  · rename_i l;refine (Ql (s := .lit l) rfl h).mono λsv J hl hv=>⟨hv.1,by simp,hv.2.1,hv.2.2.1,λβ w=>hv.2.2.2 β w⟩
  · rename_i i;refine (Ql (s := .var i) hx h).mono λsv J hl hv=>⟨hv.1,by simp,hv.2.1,hv.2.2.1,λβ w=>hv.2.2.2 β w⟩
  · rename_i k;generalize hu:P.underlying t=u1 at h;generalize hl:cL (.lit 0) lo=u3 at h;split at h;rotate_left
    · exact h.elim
    rename_i el l;generalize hz:aH P el=u2 at h;cases u2 with
    |none=>exact h.elim
    |some gs =>
      obtain⟨g,s⟩:=gs;simp only at h;split at h;rotate_left
      · exact h.elim
      rename_i fI;subst fI;refine cy.pure h λJ _=>⟨by simp,by simp,λv hv => ?_,λv hv=>(by cases hv),λβ w => ?_⟩
      · rcases xp hl with ⟨a1,_⟩|⟨k,a1⟩
        · rw [a1]at hv;cases hv
        · rw [a1]at hv;cases hv;simp
      · have run:∀ (uE:Option Value),(uE=none∨∃ kk,uE=some (.int kk 0))->∀ (a:Option Addr) (n cp:Nat),(∀ x,a=some x->x.add 0=x)->(Instr.sliceAt t (.slice a n cp) uE none none).run P w=.ok (.slice a n cp) w:=by
          intro uE Jj a n cp ha
          have hm:a.map (·.add (0*s))=a:=by
            cases a with
            |none=>rfl
            |some x=>simp only [Option.map_some,Nat.zero_mul,ha x rfl]
          rcases Jj with rfl|⟨kk,rfl⟩
          · simp [Instr.sliceAt,Instr.slice,run_underlying hu,Instr.sliceBounds,qm hz];intro _;simpa using hm
          · simp [Instr.sliceAt,Instr.slice,run_underlying hu,Instr.sliceBounds,Instr.sliceBound,asIntOf,qm hz];intro _;simpa using hm
        have xX:lo.map (SV.den J β)=none∨∃kk,lo.map (SV.den J β)=some (.int kk 0):=by
          rcases xp hl with ⟨a1,_⟩|⟨kk,a1⟩
          · left;rw [a1];rfl
          · right;exact⟨kk,by rw [a1];rfl⟩
        show (Instr.sliceAt t (cG _ _ _ _) _ none none).run P w=.ok (cG _ _ _ _) w;unfold cG;split
        · exact run _ xX none 0 0 (λx hx=>by cases hx)
        · refine run _ xX _ _ _ λx hx => ?_;cases hx;unfold Addr.add;split<;>simp_all
  · exact Qj hx nh xq h
theorem Qm{α:Type}{x:α}{l:Array α}(h:x∈l.toList):x∈l:=Array.mem_toList_iff.1 h
theorem zt{st:St}{U:Env}{β:Nat->Nat}{a:Act}(l:List Operand)(h:∀x∈l,a.eval x=(st.ev x).den U β):l.map a.eval=(l.map st.ev).map (SV.den U β):=by
 rw [List.map_map];exact List.map_congr_left h
theorem zi(s:Sem Value)(w:World)(v:Value)(h:s.run P w=.ok v w):((do pure (Next.value (<-s))):Sem Next).run P w=.ok (.value v) w:=by
 simp [h]
theorem Qn:∀{vs:List Value},(∀v∈vs,∃n:Int,v=.int .u8 n)->∃ns:List Int,vs=ns.map (Value.int .u8)/\vs.map pZ=ns.map λn=>UInt8.ofNat n.toNat
  | [],_=>⟨[],rfl,rfl⟩
  |v::l,h=>by
    obtain⟨n,rfl⟩:=h v (List.mem_cons_self ..);obtain⟨ns,h1,h2⟩:=Qn λv hv=>h v (List.mem_cons_of_mem _ hv);exact⟨n::ns,by rw [h1];rfl,by simp only [List.map_cons,h2];rfl⟩
theorem Qo:∀(ns:List Int) (l:List UInt8),ns.foldl (λ(r:ByteArray) n=>r.push (UInt8.ofNat n.toNat)) ⟨l.toArray⟩=⟨(l++ns.map λn=>UInt8.ofNat n.toNat).toArray⟩
  | [],l=>by simp
  |n::ns,l=>by
    simp only [List.foldl_cons]
    have e:(ByteArray.push ⟨l.toArray⟩ (UInt8.ofNat n.toNat))=⟨(l ++ [UInt8.ofNat n.toNat]).toArray⟩:=by
      apply ByteArray.ext;simp
    rw [e,Qo ns];simp
theorem G1{s d e:TypeId}(hs:P.underlying s=some (.slice e))(hd:P.underlying d=some .string)(he:P.underlying e=some (.int .u8)){vs:List Value}(hv:∀v∈vs,∃n:Int,v=.int .u8 n){a:Addr}{len cap:Nat}{w:World}(hl:vs.length=len)
  (hc:∀j v,vs[j]? = some v->w.cell? (a.add j)=some v):(convert s d (.slice (some a) len cap)).run P w=.ok (.string ⟨(vs.map pZ).toArray⟩) w:=by
 obtain⟨ns,h1,h2⟩:=Qn hv;rw [run_convert_bytes_string w s d e (some a) len cap hs he hd]
 have:=run_loadCells_list (P:=P) w a vs hc
 rw [hl]at this;rw [run_bytesToString w a len cap ns (by rw [this,h1])];have e0:ByteArray.empty=⟨([]:List UInt8).toArray⟩:=rfl;rw [e0,Qo,List.nil_append,h2]
theorem Jk{s d e:TypeId}(hs:P.underlying s=some (.slice e))(hd:P.underlying d=some .string)(he:P.underlying e=some (.int .u8))(w:World):(convert s d (.slice none 0 0)).run P w=.ok (.string ⟨#[]⟩) w:=by
 rw [run_convert_bytes_string w s d e none 0 0 hs he hd];rfl
theorem UI{c:ar}{s d:TypeId}{x:SV}{a0:At}{U J:Env}{w:World}{L:List Value}(h:kg P c s d x=some a0)(hL:dI W.seen (a0.den U b0) 1 L)(hl:Env.ay c U J)(bY:∀{a:Addr} {u:Value},W.seen.cell? a=some u->w.cell? a=some u)
  (jR:∀v∈L,∃n:Int,v=.int .u8 n) (β:Nat->Nat):x ≠ .any/\(convert s d (x.den J β)).run P w=.ok (.string ⟨(L.map pZ).toArray⟩) w:=by
 unfold kg at h;generalize hs:P.underlying s=u1 at h;generalize hd:P.underlying d=u2 at h;split at h
 ·rename_i e;generalize he:P.underlying e=u3 at h;split at h
  ·rename_i a
   have key:∀(hf:a.flat=true) (hw:a.wf c=true) (e0:a=a0),(SV.cv (.one a)) ≠ .any/\(convert s d ((SV.cv (.one a)).den J β)).run P w=.ok (.string ⟨(L.map pZ).toArray⟩) w:=by
    intro hf hw e0;subst e0;refine⟨by simp, ?_⟩
    have e1:(SV.cv (.one a)).den J β=a.den U b0:=by
     show a.den J β=_;rw [At.bg J β b0 hf];exact At.aa hl (λ_ _=>rfl) hw
    rw [e1];rcases hL with ⟨h1,h2⟩|⟨q,h1,h2⟩|⟨b,o,len,cap,h1,h2,h3⟩
    ·rw [h1,h2,Jk hs hd he];rfl
    ·rw [h1,h2];exact G1 (vs := []) hs hd he (λv hv=>by cases hv) rfl (λj v hj=>by simp at hj)
    ·rw [h1];refine G1 hs hd he jR (by omega) λj v hj => ?_;rw [show (⟨b,o,none⟩:Addr).add j=⟨b,o+j,none⟩ by simp [Addr.add]];exact bY (h3 j v hj)
   split at h
   ·split at h
    ·rename_i hw;simp only [Option.some.injEq]at h;exact key rfl hw h
    ·cases h
   ·split at h
    ·rename_i hw;simp only [Option.some.injEq]at h;exact key rfl hw h
    ·cases h
   ·cases h
  ·cases h
 ·cases h
theorem UJ{m:Mem}{o:ba}(kx:ku m o){s d:TypeId}{x:SV}{ce:CE}{U:Env}{β:Nat->Nat}{w:World}(h:bytesOf P m o s d x=some ce)(jR:(SP.row ce).ok U)(dC:fk W m o (az (aM x)) U β w) :
  x ≠ .any/\(convert s d (x.den U β)).run P w=.ok (.string ⟨((SP.row ce).den U).toArray⟩) w:=by
 unfold bytesOf at h;generalize hs:P.underlying s=u1 at h;generalize hd:P.underlying d=u2 at h;split at h
 ·rename_i e;generalize he:P.underlying e=u3 at h;split at h
  ·simp only [SP.ok]at jR;simp only [SP.den];unfold yY at h;split at h
   ·rename_i k;generalize hg:aG o k=u4 at h;split at h
    ·rename_i eY sz ty;split at h
     ·rename_i hc;simp only [Option.some.injEq]at h;subst h;obtain⟨rfl,hf⟩:=hc;refine⟨by simp, ?_⟩;have bj:=(dC k (by simp [aM,CV.cells,az]) _ (kt (kx k _ hg) hg)).eI Nat.zero_lt_one;have kT:=AV U β (λ_=>0) hf;rw [kT]at bj;show (convert s d (if β (k+1)=0 then .slice none 0 0 else .slice (some ⟨β k,β (k+3),none⟩) (β (k+2)) (β (k+1)-1):Value)).run P w=_;have hl:(aq U (λ_=>0) eY).length=β (k+2):=by have:=bj.1;omega
      by_cases h0:β (k+1)=0
      ·rw [if_pos h0,Jk hs hd he]
       have:β (k+2)=0:=by
        rcases bj.2.2 with ⟨_,h1⟩|⟨h1,_⟩
        ·exact h1
        ·omega
       have:aq U (λ_=>0) eY=[]:=List.eq_nil_of_length_eq_zero (by omega)
       rw [this];rfl
      ·rw [if_neg h0];refine G1 hs hd he jR hl λj v hj => ?_;rcases bj.2.2 with ⟨_,h1⟩|⟨_,h2,_⟩
       ·have:=(List.getElem?_eq_some_iff.1 hj).1
        omega
       ·have:=Ja bj hj
        rw [h2,show (⟨β k,0,none⟩:Addr).add j=⟨β k,j,none⟩ by simp only [Addr.add];split<;>simp_all];exact this
     ·cases h
    ·cases h
   ·rename_i k off len cap;generalize hg:getM m k=u4 at h;split at h
    ·rename_i cs t;split at h
     ·rename_i hc;simp only [Option.some.injEq]at h;subst h;refine⟨by simp, ?_⟩;obtain⟨_,hh⟩:=dC k (by simp [aM,CV.cells,az]) _ (n_ hg);have kT:∀a∈(cs.drop off).take len,a.flat=true:=λa ha=>List.all_eq_true.1 hc.2 a (List.mem_of_mem_drop (List.mem_of_mem_take ha))
      have e1:aq U (λ_=>0) [.bT ((cs.drop off).take len)]=((cs.drop off).take len).map (At.den U β):=by
       simp only [aq,Sg.den,List.append_nil];exact List.map_congr_left λa ha=>At.bg U (λ_=>0) β (kT a ha)
      rw [e1]at jR ⊢;show (convert s d (.slice (some ⟨β k,off,none⟩) len cap)).run P w=_;refine G1 hs hd he jR (by simp;omega) λj v hj => ?_;rw [show (⟨β k,off,none⟩:Addr).add j=⟨β k,off+j,none⟩ by simp [Addr.add],cell_of_heap hh];simp only [List.getElem?_map,Option.map_eq_some_iff]at hj;obtain⟨a,ha,rfl⟩:=hj
      have xU:j<len:=by
       rcases Nat.lt_or_ge j len with h'|h'
       ·exact h'
       ·rw [List.getElem?_eq_none (by simp;omega)]at ha;cases ha
      rw [List.getElem?_take_of_lt xU,List.getElem?_drop]at ha;simp [ha]
     ·cases h
    ·cases h
   ·simp only [Option.some.injEq]at h;subst h;exact⟨by simp,by rw [show (SV.cv (.one .cS)).den U β=.slice none 0 0 from rfl,Jk hs hd he];rfl⟩
   ·cases h
  ·cases h
 ·cases h
theorem Jl{t:TypeId}{cs:List At}{off:Nat}{v:CV}(h:partOf P t cs off=some v){U:Env}{g:Nat}{w:World}(hc:∀ j a,cs[j]? = some a->w.cell? ⟨g,j,none⟩=some (a.den U b0))(β:Nat->Nat)(hf:cs.all At.flat=true) :
    (Instr.loadAt t (.pointer (some ⟨g,off,none⟩))).run P w=.ok (v.den U β) w:=by
  unfold partOf at h;generalize hz:aH P t=u at h;split at h
  · rename_i n;split at h
    · rename_i hle;cases h;have hl:(((cs.drop off).take n).map (At.den U b0)).length=n:=by simp;omega
      have:=CJ hz w g off _ hl (λj u hj=>by
        rw [List.getElem?_map]at hj;rw [List.getElem?_take]at hj;split at hj
        · rw [List.getElem?_drop]at hj;cases hx:cs[off+j]? with
          |none=>rw [hx]at hj;cases hj
          |some a =>
            rw [hx]at hj;simp only [Option.map_some,Option.some.injEq]at hj;rw [<-hj];exact hc _ _ hx
        · cases hj)
      rw [show Instr.loadAt t (.pointer (some ⟨g,off,none⟩))=Instr.loadAt t (.pointer (some ⟨g,off,none⟩)) from rfl];have e:((cs.drop off).take n).map (At.den U β)=((cs.drop off).take n).map (At.den U b0):=CI U β b0 (List.all_eq_true.2 λx hx=>List.all_eq_true.1 hf x (List.mem_of_mem_drop (List.mem_of_mem_take hx)));simp only [CV.den,e];exact this
    · cases h
  · rename_i n;cases hx:cs[off]? with
    |none=>rw [hx]at h;cases h
    |some a =>
      rw [hx]at h;simp only [Option.map_some,Option.some.injEq]at h;subst h;simp only [CV.den];rw [At.bg U β b0 (List.all_eq_true.1 hf a (List.mem_of_getElem? hx))];exact CL hz w g off _ (hc _ _ hx)
  · cases h
theorem Qp{k:bV}{x:SV}{b:Bool}(h:jD k x=some b){U:Env}(hk:bV.den k U)(β:Nat->Nat):x ≠ .any/\(b=true->x.den U β=.nilIface)/\(b=false->∃t v,x.den U β=.iface t v):=by
  unfold jD at h;split at h
  · cases h;exact⟨by simp,⟨λ_=>rfl,λh=>(by cases h)⟩⟩
  · rename_i i;generalize hf:fA k i=u at h;cases u with
    |none=>cases h
    |some z =>
      obtain⟨t,v⟩:=z;cases h;exact⟨by simp,⟨λh=>(by cases h),λ_=>⟨_,_,hk _ (AD hf)⟩⟩⟩
  · cases h
theorem Jm(d:Nat){t:TypeId}{ms}(w:World)(h:P.underlying t=some (.interface ms)):(Op.equalIn (d+1) t .nilIface .nilIface).run P w=.ok true w:=by
 simp [Op.equalIn,run_underlying h]
theorem Jn(d:Nat){t:TypeId}{ms}(u:TypeId)(v:Value)(w:World)(h:P.underlying t=some (.interface ms)):(Op.equalIn (d+1) t .nilIface (.iface u v)).run P w=.ok false w:=by
 simp [Op.equalIn,run_underlying h]
theorem Jo(d:Nat){t:TypeId}{ms}(u:TypeId)(v:Value)(w:World)(h:P.underlying t=some (.interface ms)):(Op.equalIn (d+1) t (.iface u v) .nilIface).run P w=.ok false w:=by
 simp [Op.equalIn,run_underlying h]
theorem UK(op:BinOp)(t:TypeId)(x y:Operand)(a b:Value)(ha:a=.nilIface∨∃u v,a=.iface u v)(hb:b=.nilIface∨∃u v,b=.iface u v)(hc:nY x=true∨nY y=true)(w:World):(eqGuard op t x y a b).run P w=.ok () w:=by
 rcases hc with h|h
 ·cases x<;>first
   | (simp [nY]at h;done)
   | (rcases ha with rfl|⟨u,v,rfl⟩<;>rcases hb with rfl|⟨u',v',rfl⟩<;>cases op<;>simp [eqGuard])
 ·cases y<;>first
   | (simp [nY]at h;done)
   | (rcases ha with rfl|⟨u,v,rfl⟩<;>rcases hb with rfl|⟨u',v',rfl⟩<;>cases op<;>simp [eqGuard])
theorem Qq{a b:Value}(ha:a=.nilIface∨∃u v,a=.iface u v)(t:TypeId):(binOp .eql t a b=do pure (.bool (<-Op.equal t a b)))/\(binOp .neq t a b=do pure (.bool (!(<-Op.equal t a b)))):=by
 rcases ha with rfl|⟨u,v,rfl⟩<;>exact⟨rfl,rfl⟩
theorem UL{k:bV}{op:BinOp}{t:TypeId}{xo yo:Operand}{x y:SV}{b:Bool}(h:mu P k op t xo yo x y=some b){U:Env}(hk:bV.den k U)(β:Nat->Nat)(w:World):x ≠ .any/\y ≠ .any /\
    ((do eqGuard op t xo yo (x.den U β) (y.den U β);binOp op t (x.den U β) (y.den U β)):Sem Value).run P w=.ok (.bool b) w:=by
  unfold mu at h;generalize hu:P.underlying t=u at h;split at h
  · rename_i ms;generalize hx:jD k x=u1 at h;generalize hy:jD k y=u2 at h;split at h
    · rename_i a b';split at h
      · rename_i hc;obtain⟨x0,x1,x2⟩:=Qp hx hk β;obtain⟨y0,y1,y2⟩:=Qp hy hk β
        have hX:x.den U β=.nilIface∨∃u v,x.den U β=.iface u v:=by
          cases a with
          |true=>exact .inl (x1 rfl)
          |false=>exact .inr (x2 rfl)
        have hY:y.den U β=.nilIface∨∃u v,y.den U β=.iface u v:=by
          cases b' with
          |true=>exact .inl (y1 rfl)
          |false=>exact .inr (y2 rfl)
        have heq:(Op.equal t (x.den U β) (y.den U β)).run P w=.ok (a == b') w:=by
          unfold Op.equal;rw [show Op.maxDepth=9999+1 from rfl];cases a with
          |true =>
            rw [x1 rfl];cases b' with
            |true=>rw [y1 rfl];exact Jm _ w hu
            |false=>obtain⟨q,v,e⟩:=y2 rfl;rw [e];exact Jn _ _ _ w hu
          |false =>
            obtain⟨q,v,e⟩:=x2 rfl;rw [e];cases b' with
            |true=>rw [y1 rfl];exact Jo _ _ _ w hu
            |false=>simp at hc
        refine⟨x0,y0, ?_⟩;rw [Sem.run_bind,UK _ _ _ _ _ _ hX hY hc.2,Result.andThen_ok];split at h
        · rename_i ho;subst ho;cases h;rw [(Qq hX t).1];simp [heq]
        · split at h
          · rename_i ho;subst ho;cases h;rw [(Qq hX t).2];simp [heq]
          · cases h
      · cases h
    · cases h
  · cases h
theorem UM{k:bV}{c:ar}{x:SV}{xT asserted:TypeId}{ok:Bool}{K:SV->ar->Env->Prop}{U:Env}(vE:bV.wf k c)(hk:bV.den k U)(h:doAssert (PA P W Q QM QP) P k c x asserted ok K U) :
    cy c U K λsv J=>sv ≠ .any/\x ≠ .any/\∀β w,(Instr.typeAssert (x.den J β) xT asserted ok).run P w=.ok (sv.den J β) w:=by
  unfold doAssert at h;generalize hu:P.underlying asserted=u at h;split at h
  · exact h.elim
  · rename_i d i vF;generalize hf:fA k i=u2 at h;cases u2 with
    |none=>exact h.elim
    |some z =>
      obtain⟨t,v⟩:=z;simp only at h;have hm:=AD hf;have hw:=vE _ hm;simp only [Kn.wf,Bool.and_eq_true]at hw
      have val:∀{J},Env.ay c U J->∀β,(SV.cv (.one (.val i))).den J β=.iface t (v.den J β):=λ{J} hl β=>by
        have h1:(Kn.iO i t v).den J:=Kn.aa hl (vE _ hm) (hk _ hm);simp only [Kn.den]at h1;show (J.v i).1=_;rw [h1,CV.bg J β (λ_=>0) hw.2.2]
      split at h
      · rename_i ht;refine cy.pure h λJ hl=>⟨by cases ok<;>simp,by simp,λβ w => ?_⟩;rw [val hl]
        cases d<;>first
          | (exact (vF _ rfl).elim)
          | (cases ok<;>simp [Instr.typeAssert,run_underlying hu,ht,SV.den,CV.den,At.den,BE.den])
      · rename_i ht;split at h
        · rename_i jR;subst jR;generalize hz:cx P asserted=u3 at h;cases u3 with
          |none=>exact h.elim
          |some z =>
            refine cy.pure h λJ hl=>⟨by simp,by simp,λβ w => ?_⟩;have h0:=(xS hz J β w c).1;rw [val hl]
            cases d<;>first
              | (exact (vF _ rfl).elim)
              | (simp [Instr.typeAssert,run_underlying hu,ht,h0,SV.den,CV.den,At.den,BE.den])
        · exact h.elim
  · rename_i d vF;split at h
    · rename_i jR;subst jR;generalize hz:cx P asserted=u3 at h;cases u3 with
      |none=>exact h.elim
      |some z =>
        refine cy.pure h λJ hl=>⟨by simp,by simp,λβ w => ?_⟩;have h0:=(xS hz J β w c).1
        cases d<;>first
          | (exact (vF _ rfl).elim)
          | (simp [Instr.typeAssert,run_underlying hu,h0,SV.den,CV.den,At.den,BE.den])
    · exact h.elim
  · exact h.elim
theorem UN{t:TypeId}{name:String}{f:FuncId}(h:methodOf P t name=some f)(n:Nat)(v:Value)(w:World):(method (n+1) t v name).run P w=.ok (f,v) w:=by
 unfold methodOf at h;generalize hi:P.info? t=u1 at h;generalize hu:P.underlying t=u2 at h;split at h
 ·rename_i i d;generalize hm:i.methods.find? (·.name == name)=u3 at h;split at h
  ·rename_i m;generalize hf:m.func=u4 at h;generalize hp:m.path.toList=u5 at h;split at h
   ·rename_i f';simp only [method,Sem.run_bind,run_typeInfo _ hi,Result.andThen_ok,hm,hp,follow,Sem.run_pure,hf,receiverAt,run_underlying hu]
    cases d<;>first
     | (cases h;done)
     | (cases h;simp [Place.get])
   ·cases h
  ·cases h
 ·cases h
theorem Qs{t:TypeId}{name:String}{f:FuncId}(h:methodOf P t name=some f){ev:Operand->Value}{r:Operand}{v:Value}{args:Array Operand}{argTypes:Array TypeId}{dst:Option Tmp}{type:TypeId}{pos after guard}(er:ev r=.iface t v){all:Array Value}(ec:#[v]++args.map ev=all)(w:World) :
  (execOp ev ⟨dst,.call ⟨.invoke r name,args,argTypes⟩,type,pos,after,guard⟩).run P w=(callFunc f all).run P w:=by
 have hm:=UN h (P.types.size+(Made.depth-1)) v w;have hd:P.types.size+Made.depth=P.types.size+(Made.depth-1)+1:=by simp [Made.depth]
 simp only [execOp,resolve,Sem.run_bind,Sem.run_pure,Result.andThen_ok,invoke,er]
 have e0:(#[Value.iface t v]++Array.map ev args)[0]? = some (Value.iface t v):=by
  rw [Array.getElem?_append_left (by simp)];rfl
 have e1:(#[Value.iface t v]++Array.map ev args).extract 1 (#[Value.iface t v]++Array.map ev args).size=Array.map ev args:=by
  apply Array.ext';simp only [Array.toList_extract,Array.toList_append,Array.size_append];simp [List.extract];exact List.take_of_length_le (by simp)
 simp only [e0,e1,callMethod,Sem.run_bind,run_program,Result.andThen_ok,hd,hm,<-ec]
theorem Jp{G:bF}(hG:G.Ok){st:St}{o:Oper}{K:SV->ar->Env->Prop}{U:Env}(wf:st.WF)(hk:bV.den st.k U)(h:vg (PA G.P W Q QM QP) G st o K U) :
    cy st.c U K λsv J=>bB G.P W st o sv J:=by
  obtain⟨dst,op,type,pos,after,guard⟩:=o;unfold vg at h;cases op
  case move x =>
    refine cy.pure h λJ _=>bB.run λβ a w hB ho hr=>⟨a.eval x,by simp [execOp],λhn=>ho x (by simp [Op.operands]) hn⟩
  case assign x =>
    refine cy.pure h λJ _=>bB.run λβ a w hB ho hr=>⟨a.eval x,by simp [execOp],λhn=>ho x (by simp [Op.operands]) hn⟩
  case pick x y z =>
    simp only at h;generalize hx:st.ev x=sx at h;split at h
    · rename_i e;have we:e.wf st.c=true:=by have:=wf.ev x;rw [hx]at this;exact this
      rcases zw h with ⟨hd,h⟩|⟨hd,h⟩
      · refine cy.pure h λJ hl=>bB.run λβ a w hB ho hr=>⟨a.eval y, ?_,λhn=>ho y (by simp [Op.operands]) hn⟩;have hc:=ho x (by simp [Op.operands]) (by rw [hx];simp);rw [hx]at hc;simp only [SV.den,CV.den,At.den,BE.aa hl we,hd]at hc;simp [execOp,hc,asBool]
      · refine cy.pure h λJ hl=>bB.run λβ a w hB ho hr=>⟨a.eval z, ?_,λhn=>ho z (by simp [Op.operands]) hn⟩;have hc:=ho x (by simp [Op.operands]) (by rw [hx];simp);rw [hx]at hc;simp only [SV.den,CV.den,At.den,BE.aa hl we,hd]at hc;simp [execOp,hc,asBool]
    · exact h.elim
  case load t x =>
    simp only at h;generalize oO:ke G st.k st.c t (st.ev x)=gl at h;cases gl with
    |none =>
    simp only at h;refine (Uv wf.ap h).mono λsv J hl hv=>bB.run λβ a w hB ho hr=>⟨sv.den J β, ?_,λ_=>rfl⟩;obtain⟨h1,h2,h3⟩:=hv;have e1:=ho x (by simp [Op.operands]) h1;simp only [execOp,e1];exact zi _ w _ (h3 β w hB hr)
    |some z =>
    obtain⟨g,cs,ty,v⟩:=z;simp only at h;obtain⟨⟨Y',Za,hh⟩,h⟩:=h;unfold ke at oO;split at oO;rotate_left
    · cases oO
    rename_i p j sz off hx;generalize hp:nP st.k p=u1 at oO;cases u1 with
    |none=>cases oO
    |some g' =>
    simp only at oO;generalize cX:G.aT.lookup g'=u2 at oO;cases u2 with
    |none=>cases oO
    |some cz =>
    obtain⟨iK,DP⟩:=cz;simp only at oO;generalize oc:partOf G.P t iK (j.toNat*sz+off)=u3 at oO;cases u3 with
    |none=>cases oO
    |some v' =>
    simp only at oO;split at oO;rotate_left
    · cases oO
    rename_i mJ;simp only [Option.some.injEq,Prod.mk.injEq]at oO;obtain⟨rfl,rfl,rfl,rfl⟩:=oO;have eR:=Iq hp;refine cy.pure h λJ hl=>bB.run λβ a w hB ho hr=>⟨(SV.cv v').den J β, ?_,λ_=>rfl⟩;have lK:J.p p=(g',0):=Kn.aa hl (wf.k _ eR) (hk _ eR);have e1:=ho x (by simp [Op.operands]) (by rw [hx];simp);rw [hx]at e1
    have e1:a.eval x=.pointer (some ⟨g',0+j.toNat*sz+off,none⟩):=by
      rw [e1];show Value.pointer (some ⟨(J.p p).1,(J.p p).2+j.toNat*sz+off,none⟩)=_;rw [lK]
    simp only [execOp,e1];refine zi _ w _ ?_
    have bY:∀j a,iK[j]? = some a->w.cell? ⟨g',j,none⟩=some (a.den J b0):=λj a ha=>by
      refine hB.cell ?_;rw [cell_of_heap hh j];simp only [List.getElem?_toArray,List.getElem?_map,ha,Option.map_some];rw [At.aa hl (λ_ _=>rfl) (List.all_eq_true.1 mJ.1 a (List.mem_of_getElem? ha))]
    have gS:=Jl oc bY β mJ.2;rw [show (0:Nat)+j.toNat*sz+off=j.toNat*sz+off from by omega];exact gS
  case nilCheck x =>
    simp only at h;generalize hx:st.ev x=sx at h;split at h
    all_goals first
      |exact h.elim
      | (refine cy.pure h λJ hl=>bB.run λβ a w hB ho hr=>⟨a.eval x, ?_,λhn => ?_⟩
         · have hc:=ho x (by simp [Op.operands]) (by rw [hx];simp);rw [hx]at hc;simp [execOp,hc,SV.den,CV.den,At.den]
         · have hc:=ho x (by simp [Op.operands]) (by rw [hx];simp);rw [hx]at hc;exact hc)
  case binOp op t x y yt =>
    simp only at h;generalize nr:kP G.P st.o op t (st.ev x) (st.ev y)=on at h;cases on with
    |some cs =>
    obtain⟨ce,sz⟩:=cs;simp only at h;unfold kP at nr;split at nr;rotate_left
    · cases nr
    rename_i UO;generalize hu:G.P.underlying t=u1 at nr;generalize zC:st.ev x=sx at nr;generalize GU:st.ev y=sy at nr;split at nr;rotate_left
    · cases nr
    rename_i el k;generalize hg:aG st.o k=u2 at nr;split at nr;rotate_left
    · cases nr
    rename_i eY uB t';split at nr;rotate_left
    · cases nr
    rename_i hz;simp only [Option.some.injEq,Prod.mk.injEq]at nr;obtain⟨rfl,rfl⟩:=nr;obtain⟨n,c1,aR,r1,r2,r3,r4,r5,r6⟩:=zD h;obtain⟨q1,q2⟩:=za r1;refine⟨_,_,aR,q2,r2,r4,λJ hl=>bB.run λβ a w hB ho hr=>⟨.bool (decide (op=.neq)), ?_,λ_=>rfl⟩⟩;have e1:=ho x (by simp [Op.operands]) (by rw [zC];simp);have e2:=ho y (by simp [Op.operands]) (by rw [GU];simp);rw [zC]at e1;rw [GU]at e2;have bj:=(hr k (by simp [aU,zC]) _ (kt (wf.ap k _ hg) hg)).eI hz
    have hn:0<(aq J β eY).length / uB:=by
      have h1:=r6 J β hl;have h2:0<n.den aR:=q1;rw [<-IE.aa hl r5,h1]at h2;omega
    have Eb:β (k+1)≠0:=by
      rcases bj.2.2 with ⟨_,h1⟩|⟨h1,_⟩
      · rw [bj.1,h1,Nat.zero_mul]at hn;simp at hn
      · omega
    simp only [SV.den,CV.den,At.den,cG,if_neg Eb]at e1 e2;simp only [execOp,e1,e2];refine zi _ w _ ?_;have heq:(Op.equal t (.slice (some ⟨β k,β (k+3),none⟩) (β (k+2)) (β (k+1)-1)) (.slice none 0 0)).run G.P w=.ok false w:=I5 9999 _ _ _ w hu;rw [Sem.run_bind,PV _ _ _ _ _ _ rfl,Result.andThen_ok];rcases UO with rfl|rfl
    · rw [(I1 _ rfl t).1];simp [heq]
    · rw [(I1 _ rfl t).2];simp [heq]
    |none =>
    simp only at h;generalize Ec:mu G.P st.k op t x y (st.ev x) (st.ev y)=ie at h;cases ie with
    |some bb =>
    simp only at h;refine cy.pure h λJ hl=>bB.run λβ a w hB ho hr=>⟨.bool bb, ?_,λ_=>rfl⟩;obtain⟨q1,q2,q3⟩:=UL Ec (bV.aa hl wf.k hk) β w;have e1:=ho x (by simp [Op.operands]) q1;have e2:=ho y (by simp [Op.operands]) q2;simp only [execOp,e1,e2];exact zi _ w _ q3
    |none =>
    simp only at h;have hx:st.ev x ≠ .any:=by intro he;rw [he]at h;cases hy:st.ev y<;>rw [hy]at h<;>exact h
    have hy:st.ev y ≠ .any:=by
      intro he;rw [he]at h;cases xr:st.ev x with
      |cv q=>rw [xr]at h;cases q with
        |one q=>cases q<;>exact h
        |agg q=>exact h
      |_=>rw [xr]at h;exact h
    refine (Um (wf.ev x) (wf.ev y) h).mono λsv J hl hv=>bB.run λβ a w hB ho hr=>⟨sv.den J β, ?_,λ_=>rfl⟩;have e1:=ho x (by simp [Op.operands]) hx;have e2:=ho y (by simp [Op.operands]) hy;simp only [execOp,e1,e2];exact zi _ w _ (hv.2 β w x y)
  case lookup t x i ok =>
    simp only at h;refine (UB wf.ap h).mono λsv J hl hv=>bB.run λβ a w hB ho hr=>⟨sv.den J β, ?_,λ_=>rfl⟩;obtain⟨v1,v2,v3,v4⟩:=hv;have e1:=ho x (by simp [Op.operands]) v1;have e2:=ho i (by simp [Op.operands]) v2;simp only [execOp,e1,e2];exact zi _ w _ (v4 β w λk hk=>hr k (by simpa [aU]using hk))
  case typeAssert x xt asserted ok =>
    simp only at h;refine (UM (xT:=xt) wf.k hk h).mono λsv J hl hv=>bB.run λβ a w hB ho hr=>⟨sv.den J β, ?_,λ_=>rfl⟩;have e1:=ho x (by simp [Op.operands]) hv.2.1;simp only [execOp,e1];exact zi _ w _ (hv.2.2 β w)
  case unOp op t x =>
    simp only at h;refine (Un h).mono λsv J hl hv=>bB.run λβ a w hB ho hr=>⟨sv.den J β, ?_,λ_=>rfl⟩;have e1:=ho x (by simp [Op.operands]) hv.2.1;simp only [execOp,e1];exact zi _ w _ (hv.2.2 β w)
  case convert s d x =>
    simp only at h;generalize lh:bytesOf G.P st.m st.o s d (st.ev x)=UP at h
    cases UP with
    |some ce =>
    simp only at h;refine (DU h).mono λsv J hl hv=>bB.run λβ a w hB ho hr=>⟨sv.den J β, ?_,λ_=>rfl⟩;obtain⟨v1,v2,v3⟩:=hv;obtain⟨b1,b2⟩:=UJ (W:=W) wf.ap lh v1 (λk hk=>hr k (by simpa [aU]using hk));have e1:=ho x (by simp [Op.operands]) b1;rw [v3 β];simp only [execOp,e1];exact zi _ w _ b2
    |none =>
    simp only at h;generalize Qt:kg G.P st.c s d (st.ev x)=ab at h;cases ab with
    |some AO =>
      simp only at h;obtain⟨L,hL,h⟩:=h;have hle:st.c.le {st.c with nl:=st.c.nl+1}:=⟨Nat.le_refl _,Nat.le_refl _,Nat.le_refl _,Nat.le_refl _,Nat.le_refl _,Nat.le_refl _,Nat.le_succ _⟩;obtain⟨sv,c2,aw,g1,g2,g3,g4⟩:=DU h;refine⟨sv,c2,aw,g1,ar.le_trans hle g2,Env.ah hle (sP st.c U L) g3,λJ hk=>bB.run λβ a w hB ho hr=>⟨sv.den J β, ?_,λ_=>rfl⟩⟩;obtain⟨v1,v2,v3⟩:=g4 J hk;have lk:Env.ay {st.c with nl:=st.c.nl+1} (U.jU st.c.nl L) J:=Env.ah g2 g3 hk
      have eL:aq J (λ_=>0) [.var st.c.nl]=L.map (·.1):=by
        simp only [aq,Sg.den,List.append_nil];rw [lk.l st.c.nl (Nat.lt_succ_self _)];exact congrArg (List.map λy:OV=>y.1) (if_pos rfl)
      obtain⟨b1,b2⟩:=UI Qt hL (Env.ah hle (sP st.c U L) (Env.ah g2 g3 hk)) (λ{a u} ha=>hB.cell ha) (by simp only [SP.ok,eL]at v1;exact v1) β;have e1:=ho x (by simp [Op.operands]) b1;rw [v3 β];simp only [execOp,e1,SP.den,eL];exact zi _ w _ b2
    |none =>
    simp only at h;refine (Uo h).mono λsv J hl hv=>bB.run λβ a w hB ho hr=>⟨sv.den J β, ?_,λ_=>rfl⟩;have e1:=ho x (by simp [Op.operands]) hv.2.1;simp only [execOp,e1];exact zi _ w _ (hv.2.2 β w)
  case field t x f =>
    simp only at h;refine (Up h).mono λsv J hl hv=>bB.run λβ a w hB ho hr=>⟨sv.den J β, ?_,λ_=>rfl⟩;have e1:=ho x (by simp [Op.operands]) hv.2.1;simp only [execOp,e1];exact zi _ w _ (hv.2.2 β w)
  case fieldAddr t x f =>
    simp only at h;refine (Uq h).mono λsv J hl hv=>bB.run λβ a w hB ho hr=>⟨sv.den J β, ?_,λ_=>rfl⟩;have e1:=ho x (by simp [Op.operands]) hv.2.1;simp only [execOp,e1];exact zi _ w _ (hv.2.2 β w)
  case indexAddr t x i =>
    simp only at h;refine (Ur wf.ap (wf.ev x) (wf.ev i) h).mono λsv J hl hv=>bB.run λβ a w hB ho hr=>⟨sv.den J β, ?_,λ_=>rfl⟩;have e1:=ho x (by simp [Op.operands]) hv.2.1.1;have e2:=ho i (by simp [Op.operands]) hv.2.1.2;simp only [execOp,e1,e2];exact zi _ w _ (hv.2.2 β w hr)
  case index t x i =>
    simp only at h;refine (Ut (wf.ev x) (wf.ev i) h).mono λsv J hl hv=>bB.run λβ a w hB ho hr=>⟨sv.den J β, ?_,λ_=>rfl⟩;have e1:=ho x (by simp [Op.operands]) hv.2.1.1;have e2:=ho i (by simp [Op.operands]) hv.2.1.2;simp only [execOp,e1,e2];exact zi _ w _ (hv.2.2 β w)
  case extract x i =>
    simp only at h;generalize hx:st.ev x=sx at h;split at h
    · rename_i l;generalize hi:l[i]? = u at h;split at h
      · rename_i v;refine cy.pure h λJ _=>bB.run λβ a w hB ho hr=>⟨(SV.cv v).den J β, ?_,λ_=>rfl⟩;have e1:=ho x (by simp [Op.operands]) (by rw [hx];simp);rw [hx]at e1;simp only [execOp,e1];refine zi _ w _ ?_;simp [SV.den,Instr.extract,hi]
      · exact h.elim
    · exact h.elim
  case build t parts =>
    simp only at h;have eG:=UD h;refine (Uu h).mono λsv J hl hv=>bB.run λβ a w hB ho hr=>⟨sv.den J β, ?_,λ_=>rfl⟩
    have e1:(parts.map λx=>(x.1,a.eval x.2))=((parts.toList.map λp=>(p.1,st.ev p.2)).map λp=>(p.1,p.2.den J β)).toArray:=by
      rw [List.map_map];apply Array.ext';rw [Array.toList_map];apply List.map_congr_left;intro p hp
      have:=ho p.2 (by simp only [Op.operands];exact Qm (by simpa using ⟨p.1,Array.mem_toList_iff.1 hp⟩)) (eG (p.1,st.ev p.2) (List.mem_map.2 ⟨p,hp,rfl⟩))
      simp [this]
    simp only [execOp];refine zi _ w _ ?_
    have:=hv.2 β w
    rw [<-e1]at this;exact this
  case slice t x lo hi mx =>
    cases mx with
    |some m=>exact h.elim
    |none =>
      simp only at h;refine (UH (wf.ev x) (λv hv => ?_) (λv hv => ?_) h).mono λsv J hl hv=>bB.run λβ a w hB ho hr=>⟨sv.den J β, ?_,λ_=>rfl⟩
      · cases lo<;>simp at hv;subst hv;exact wf.ev _
      · cases hi<;>simp at hv;subst hv;exact wf.ev _
      · obtain⟨v1,v2,v3,v4,v5⟩:=hv;have e1:=ho x (by simp [Op.operands]) v2
        have e2:lo.map a.eval=(lo.map st.ev).map (SV.den J β):=by
          cases lo with
          |none=>rfl
          |some l=>simp only [Option.map_some];rw [ho l (by simp [Op.operands]) (v3 _ rfl)]
        have e3:hi.map a.eval=(hi.map st.ev).map (SV.den J β):=by
          cases hi with
          |none=>rfl
          |some l=>simp only [Option.map_some];rw [ho l (by simp [Op.operands]) (v4 _ rfl)]
        simp only [execOp,e1,e2,e3,Option.map_none];exact zi _ w _ (v5 β w)
  case makeFunc fn first aB =>
    cases fn<;>simp only at h<;>first
      |exact h.elim
      |skip
    rename_i f;split at h
    · rename_i hf;generalize hl:fg (aB.toList.map st.ev)=u at h;split at h
      · rename_i l;obtain⟨q1,q2⟩:=D_ _ hl;refine cy.pure h λJ _=>bB.run λβ a w hB ho hr=>⟨_, ?_,λ_=>rfl⟩
        have e1:aB.map a.eval=(l.map λc=>(.pointer (some ⟨β c.1,c.2,none⟩):Value)).toArray:=by
          rw [<-q2 J β];apply Array.ext';rw [Array.toList_map];exact zt _ λx hx=>ho x (by simp only [Op.operands];exact Array.mem_append.2 (.inr (Array.mem_toList_iff.1 hx))) (q1 _ (List.mem_map.2 ⟨x,hx,rfl⟩))
        have e2:first=#[]:=Array.size_eq_zero_iff.1 hf
        subst e2;simp only [execOp];refine zi _ w _ ?_;simp [Instr.makeFunc,e1,SV.den,CV.den,At.den]
      · exact h.elim
    · generalize hq:fg (first.toList.map st.ev)=u0 at h;generalize hl:fg (aB.toList.map st.ev)=u at h;split at h
      · rename_i q l;obtain⟨q1,q2⟩:=D_ _ hl;obtain⟨q3,q4⟩:=D_ _ hq;refine cy.pure h λJ _=>bB.run λβ a w hB ho hr=>⟨_, ?_,λ_=>rfl⟩
        have e1:aB.map a.eval=(l.map λc=>(.pointer (some ⟨β c.1,c.2,none⟩):Value)).toArray:=by
          rw [<-q2 J β];apply Array.ext';rw [Array.toList_map];exact zt _ λx hx=>ho x (by simp only [Op.operands];exact Array.mem_append.2 (.inr (Array.mem_toList_iff.1 hx))) (q1 _ (List.mem_map.2 ⟨x,hx,rfl⟩))
        have e2:first.map a.eval=(q.map λc=>(.pointer (some ⟨β c.1,c.2,none⟩):Value)).toArray:=by
          rw [<-q4 J β];apply Array.ext';rw [Array.toList_map];exact zt _ λx hx=>ho x (by simp only [Op.operands];exact Array.mem_append.2 (.inl (Array.mem_toList_iff.1 hx))) (q3 _ (List.mem_map.2 ⟨x,hx,rfl⟩))
        simp only [execOp];refine zi _ w _ ?_;simp [Instr.makeFunc,e1,e2,SV.den,CV.den,At.den]
      · rename_i l;obtain⟨q1,q2⟩:=D_ _ hl;generalize CR:first.toList.map st.ev=fl at h
        split at h;rotate_left
        · exact h.elim
        rename_i cs;generalize UQ:aO.Cy cs=u2 at h;split at h;rotate_left
        · exact h.elim
        rename_i r;refine cy.pure h λJ _=>bB.run λβ a w hB ho hr=>⟨_, ?_,λ_=>rfl⟩
        have e1:aB.map a.eval=(l.map λc=>(.pointer (some ⟨β c.1,c.2,none⟩):Value)).toArray:=by
          rw [<-q2 J β];apply Array.ext';rw [Array.toList_map];exact zt _ λx hx=>ho x (by simp only [Op.operands];exact Array.mem_append.2 (.inr (Array.mem_toList_iff.1 hx))) (q1 _ (List.mem_map.2 ⟨x,hx,rfl⟩))
        have e2:first.map a.eval=#[.agg (r.map (aO.den J β)).toArray]:=by
          apply Array.ext'
          rw [Array.toList_map,zt (st:=st) (U:=J) (β:=β) _ λx hx=>ho x (by simp only [Op.operands];exact Array.mem_append.2 (.inl (Array.mem_toList_iff.1 hx))) (by
            have:st.ev x∈first.toList.map st.ev:=List.mem_map.2 ⟨x,hx,rfl⟩
            rw [CR]at this;simp only [List.mem_singleton]at this;rw [this];simp)]
          rw [CR]
          have:cs.map (At.den J β)=r.map (aO.den J β):=by
            rw [<-aO.uX UQ,List.map_map];exact List.map_congr_left λx _=>aO.uY J β x
          simp only [List.map_cons,List.map_nil,SV.den,CV.den,this]
        simp only [execOp];refine zi _ w _ ?_;simp [Instr.makeFunc,e1,e2,SV.den,CV.den,At.den]
      · exact h.elim
  case call cl =>
    obtain⟨callee,args,argTypes⟩:=cl;cases callee
    case invoke r m =>
      simp only at h;generalize CS:st.ev r=sr at h;split at h
      · rename_i i;generalize hf:fA st.k i=u1 at h;cases u1 with
        |none=>exact h.elim
        |some z =>
        obtain⟨t,v⟩:=z;simp only at h;generalize hm:methodOf G.P t m=u2 at h;cases u2 with
        |none=>exact h.elim
        |some f =>
        simp only at h;have fY:=AD hf;have tR:=wf.k _ fY;simp only [Kn.wf,Bool.and_eq_true]at tR;refine (P_ hG wf.ap (λk cs t hm=>(wf.m k cs t hm).2) (λk ce sz t hm=>(wf.o k ce sz t hm).2) h).mono λsv J hl hv => ?_;obtain⟨h1,h2,h3⟩:=hv;intro β a w hB ho hr next Q' hn
        have er:=ho r (by simp [Op.operands,Call.operands]) (by rw [CS];simp);rw [CS]at er;have hd:(Kn.iO i t v).den J:=Kn.aa hl (wf.k _ fY) (hk _ fY);simp only [Kn.den]at hd
        have er:a.eval r=.iface t (v.den J β):=by
          rw [er];show (J.v i).1=_;rw [hd,CV.bg J (λ_=>0) β tR.2.2]
        have ea:(args.map a.eval).toList=(args.toList.map st.ev).map (SV.den J β):=by
          rw [Array.toList_map];exact zt _ λx hx=>ho x (by simp only [Op.operands,Call.operands];exact Array.mem_append.2 (.inr (Array.mem_toList_iff.1 hx))) (h2 _ (List.mem_cons_of_mem _ (List.mem_map.2 ⟨x,hx,rfl⟩)))
        have ec:#[v.den J β]++args.map a.eval=(((SV.cv v)::args.toList.map st.ev).map (SV.den J β)).toArray:=by
          apply Array.ext';rw [Array.toList_append,ea];simp [SV.den]
        have hx:(execOp a.eval ⟨dst,.call ⟨.invoke r m,args,argTypes⟩,type,pos,after,guard⟩).run G.P w=(callFunc f (((SV.cv v)::args.toList.map st.ev).map (SV.den J β)).toArray).run G.P w:=Qs hm er ec w
        have dC:fk W st.m st.o (az (cj st.m st.o ((SV.cv v)::args.toList.map st.ev))) J β w:=λk hk=>hr k (by
          simp only [aU,CS,hf];exact hk)
        unfold Oper.wp;rw [hx];rcases h3 β w hB dC with h4|⟨h4,h5⟩
        · rw [h4,Oper.upon_value];exact hn _ w (λ_=>rfl) (Below.refl _ _)
        · rw [h4,Oper.upon_enter]
          exact h5.mono λe w' he=>by
            obtain⟨rfl,hb⟩:=he;exact hn _ w' (λ_=>rfl) hb
      · exact h.elim
    case builtin b =>
      cases b<;>simp only at h<;>first
        |exact h.elim
        |skip
      case len =>
        generalize ha:args.toList=al at h;split at h
        · rename_i x;refine (UF wf.ap (wf.ev x) h).mono λsv J hl hv=>bB.run λβ a w hB ho hr=>⟨sv.den J β, ?_,λ_=>rfl⟩;obtain⟨h1,ty,h2,h3⟩:=hv;have ea:args=#[x]:=by apply Array.ext';rw [ha]
          subst ea;have e1:=ho x (by simp [Op.operands,Call.operands]);have h4:=h3 β w (a.eval x) (by simpa [aU]using hr) e1;have ht:argTypes[0]? = some ty:=h2
          have h5:(Builtin.len_ argTypes type #[a.eval x]).run G.P w=.ok (sv.den J β) w:=by
            have:Builtin.len_ argTypes type #[a.eval x]=Builtin.len_ #[ty] ty #[a.eval x]:=by simp only [Builtin.len_,ht];rfl
            rw [this];exact h4
          simp [execOp,resolve,invoke,builtin,h5]
        · exact h.elim
      case max =>
        generalize ha:args.toList=al at h;split at h
        · rename_i x y;refine (Qi h).mono λsv J hl hv=>bB.run λβ a w hB ho hr=>⟨sv.den J β, ?_,λ_=>rfl⟩;obtain⟨h1,h2,h3,h4⟩:=hv;have ea:args=#[x,y]:=by apply Array.ext';rw [ha]
          subst ea;have e1:=ho x (by simp [Op.operands,Call.operands]) h2;have e2:=ho y (by simp [Op.operands,Call.operands]) h3;have h5:=h4 β w;rw [<-e1,<-e2]at h5;simp only [if_true]at h5;simp [execOp,resolve,invoke,builtin,Builtin.max_,h5]
        · exact h.elim
      case min =>
        generalize ha:args.toList=al at h;split at h
        · rename_i x y;refine (Qi h).mono λsv J hl hv=>bB.run λβ a w hB ho hr=>⟨sv.den J β, ?_,λ_=>rfl⟩;obtain⟨h1,h2,h3,h4⟩:=hv;have ea:args=#[x,y]:=by apply Array.ext';rw [ha]
          subst ea;have e1:=ho x (by simp [Op.operands,Call.operands]) h2;have e2:=ho y (by simp [Op.operands,Call.operands]) h3;have h5:=h4 β w;rw [<-e1,<-e2]at h5;simp only [Bool.false_eq_true,if_false]at h5;simp [execOp,resolve,invoke,builtin,Builtin.min_,h5]
        · exact h.elim
    case value g =>
      simp only at h
      have main:∀ (f:FuncId) (first aB:List (Nat × Nat)) (all:List SV),all=(first.map fun x=>SV.cv (.one (.loc x.1 x.2)))++(args.toList.map st.ev++aB.map fun x=>SV.cv (.one (.loc x.1 x.2))) ->
          st.ev g ≠ .any ->
          (∀(J:Env) (β:Nat->Nat),(st.ev g).den J β=.func (.func f) (first.map λc=>.pointer (some ⟨β c.1,c.2,none⟩)).toArray (aB.map λc=>.pointer (some ⟨β c.1,c.2,none⟩)).toArray) ->
          (∀k∈az (cj st.m st.o all),k∈aU st ⟨dst,.call ⟨.value g,args,argTypes⟩,type,pos,after,guard⟩) ->
          kO (PA G.P W Q QM QP) G st.m st.o st.c f all K U ->
          cy st.c U K λsv J=>bB G.P W st ⟨dst,.call ⟨.value g,args,argTypes⟩,type,pos,after,guard⟩ sv J:=by
        intro f first aB all cf vG vH A0 h
        refine (P_ hG wf.ap (λk cs t hm=>(wf.m k cs t hm).2) (λk ce sz t hm=>(wf.o k ce sz t hm).2) h).mono λsv J hl hv => ?_;obtain⟨h1,h2,h3⟩:=hv;intro β a w hB ho hr next Q' hn
        have eg:=ho g (by simp [Op.operands,Call.operands]) vG;rw [vH J β]at eg
        have ea:(args.map a.eval).toList=(args.toList.map st.ev).map (SV.den J β):=by
          rw [Array.toList_map];exact zt _ λx hx=>ho x (by simp only [Op.operands,Call.operands];exact Array.mem_append.2 (.inr (Array.mem_toList_iff.1 hx))) (h2 _ (by rw [cf];exact List.mem_append.2 (.inr (List.mem_append.2 (.inl (List.mem_map.2 ⟨x,hx,rfl⟩))))))
        have ec:(first.map λc=>(.pointer (some ⟨β c.1,c.2,none⟩):Value)).toArray++args.map a.eval++(aB.map λc=>(.pointer (some ⟨β c.1,c.2,none⟩):Value)).toArray=(all.map (SV.den J β)).toArray:=by
          apply Array.ext';rw [Array.toList_append,Array.toList_append,ea,cf];simp [SV.den,CV.den,At.den,Function.comp_def]
        have hx:(execOp a.eval ⟨dst,.call ⟨.value g,args,argTypes⟩,type,pos,after,guard⟩).run G.P w=(callFunc f (all.map (SV.den J β)).toArray).run G.P w:=by
          simp only [execOp,resolve,eg,Deferred.ofValue,Sem.run_bind,Sem.run_pure,Result.andThen_ok,invoke];rw [<-ec]
        have dC:fk W st.m st.o (az (cj st.m st.o all)) J β w:=λk hk=>hr k (A0 k hk);unfold Oper.wp;rw [hx];rcases h3 β w hB dC with h4|⟨h4,h5⟩
        · rw [h4,Oper.upon_value];exact hn _ w (λ_=>rfl) (Below.refl _ _)
        · rw [h4,Oper.upon_enter]
          exact h5.mono λe w' he=>by
            obtain⟨rfl,hb⟩:=he;exact hn _ w' (λ_=>rfl) hb
      have app:∀(l1 l2:List At),az (l1++l2)=az l1++az l2:=by
        intro l1 l2
        induction l1 with
        |nil=>rfl
        |cons x l1 ih=>cases x<;>simp [az,ih]
      generalize hg:st.ev g=sg at h;split at h
      · rename_i f aB;refine main f [] aB _ (by simp) (by rw [hg];simp) (λJ β=>by rw [hg];rfl) (λk hk => ?_) h;simp only [aU,hg];exact hk
      · rename_i f first aB
        refine main f first aB _ rfl (by rw [hg];simp) (λJ β=>by rw [hg];rfl) (λk hk => ?_) h
        simp only [aU,hg];exact hk
      · exact h.elim
  all_goals exact h.elim
end Vc
set_option linter.unusedVariables false
namespace Vc
open Go Go.RowKit
variable {P:Program} {W:dR} {Q:Value->Prop} {QM QP:World->Value->Prop}
theorem bM{w:World}{b:Nat}{o:Obj}(h:w.heap[b]? = some o):b<w.heap.size:=(Array.getElem?_eq_some_iff.1 h).1
theorem zl(t:List (Nat × SV))(d i:Nat)(v:SV):av ((d,v)::t) i=if d=i then v else av t i:=by
 show (match Nat.beq d i with|true=>v|false=>av t i)=_;cases h:Nat.beq d i with
 |true=>rw [if_pos (Nat.eq_of_beq_eq_true h)]
 |false=>rw [if_neg (Nat.ne_of_beq_eq_false h)]
theorem CT(m:Mem)(d i:Nat)(v:List At × TypeId):getM ((d,v)::m) i=if d=i then some v else getM m i:=rfl
theorem zy(m:ba)(d i:Nat)(v:CE × Nat × TypeId):aG ((d,v)::m) i=if d=i then some v else aG m i:=rfl
theorem Jq:∀(o:ba) (k i:Nat),aG (tL o k) i=if k=i then none else aG o i
  | [],k,i=>by simp [tL,aG]
  | (j,v)::r,k,i=>by
    simp only [tL];by_cases hj:j=k
    · subst hj;rw [if_pos rfl,Jq r j i,zy];by_cases hi:j=i
      · rw [if_pos hi,if_pos hi]
      · rw [if_neg hi,if_neg hi,if_neg hi]
    · rw [if_neg hj,zy,zy,Jq r k i];by_cases hi:j=i
      · rw [if_pos hi,if_pos hi,if_neg (λe=>hj (hi.trans e.symm))]
      · rw [if_neg hi,if_neg hi]
theorem xu:∀(l:List Nat) (o:ba) (i:Nat),aG (bL o l) i=if i∈l then none else aG o i
  | [],o,i=>by simp [bL]
  |k::l,o,i=>by
    simp only [bL,xu l,Jq,List.mem_cons];by_cases h1:i∈l
    · simp [h1]
    · by_cases h2:k=i
      · simp [h2]
      · have:¬i=k:=λe=>h2 e.symm
        simp [h1,h2,this]
theorem A1:∀(o:ba) (k i:Nat) (ce:CE),aG (dw o k ce) i=if k=i then (aG o i).map (λx=>(ce,x.2))else aG o i
  | [],k,i,ce=>by simp [dw,aG]
  | (j,v)::r,k,i,ce=>by
    simp only [dw];by_cases hj:j=k
    · subst hj;rw [if_pos rfl];simp only [zy];by_cases hi:j=i
      · simp [hi]
      · simp [hi]
    · rw [if_neg hj];simp only [zy,A1 r k i ce];by_cases hi:j=i
      · subst hi;rw [if_pos rfl,if_neg (λh=>hj h.symm),if_pos rfl]
      · simp [hi]
theorem tT:∀(m:Mem) (k i:Nat) (cs:List At),getM (iQ m k cs) i=if k=i then (getM m i).map (λx=>(cs,x.2))else getM m i
  | [],k,i,cs=>by simp [iQ,getM]
  | (j,v)::r,k,i,cs=>by
    simp only [iQ];by_cases hj:j=k
    · subst hj;rw [if_pos rfl];simp only [CT];by_cases hi:j=i
      · simp [hi]
      · simp [hi]
    · rw [if_neg hj];simp only [CT,tT r k i cs];by_cases hi:j=i
      · subst hi;rw [if_pos rfl,if_neg (λh=>hj h.symm),if_pos rfl]
      · simp [hi]
theorem Jr(w:World)(g k:Nat)(cs:Array Value)(h:k≠g):(w.setRow g cs).heap[k]? = w.heap[k]? := by
 simp only [World.setRow,Array.getElem?_modify];rw [if_neg (by omega)]
theorem Qu{t:TypeId}{g:Bool}{n:Nat}(hz:aH P t=some (g,n))(w:World)(b o:Nat)(v:Value)(cur:Array Value)(ty:TypeId)(hb:w.heap[b]? = some (.cells cur ty))(hn:v.cells.size=n)(ho:o+n<=cur.size)
  (h1:∀x∈v.cells.toList,x.oneCell'=true) :
  (Instr.storeAt t (ptr b o) v).run P w=.ok () (w.setRow b (cur.toList.take o++v.cells.toList++cur.toList.drop (o+n)).toArray):=by
 have lj:=run_storeCells_at P b o ty v.cells.toList 0 cur w hb (by simp [hn];exact ho) h1;simp only [Array.length_toList,hn,Nat.add_zero]at lj;simp [Instr.storeAt,ptr,Instr.sureAddr,storeVar,qm hz,hn,lj]
theorem zu{c:ar}{l:List At}(h:l.all (At.wf c)=true)(n:Nat):(l.take n).all (At.wf c)=true/\(l.drop n).all (At.wf c)=true :=
 ⟨List.all_eq_true.2 λx hx=>List.all_eq_true.1 h x (List.mem_of_mem_take hx),List.all_eq_true.2 λx hx=>List.all_eq_true.1 h x (List.mem_of_mem_drop hx)⟩
theorem CV.dk{c:ar}:∀{v:CV},v.wf c=true->v.cells.all (At.wf c)=true
 | .one a,h=>by simpa [CV.cells,CV.wf]using h
 | .agg l,h=>h
theorem Js{α β:Type}(f:α->β)(l:List α):∀n,(times l n).map f=times (l.map f) n
 |0=>rfl
 |n+1=>by simp [times,Js f l n]
theorem G2{α:Type}(l:List α):∀n,(times l n).length=n*l.length
 |0=>by simp [times]
 |n+1=>by simp [times,G2 l n,Nat.add_mul,Nat.add_comm]
theorem Qv{α:Type}(l:List α)(hl:0<l.length):∀n i,i<n*l.length->(times l n)[i]? = l[i % l.length]?
  |0,i,h=>by omega
  |n+1,i,h=>by
    simp only [times];by_cases hi:i<l.length
    · rw [List.getElem?_append_left hi,Nat.mod_eq_of_lt hi]
    · rw [Nat.succ_mul]at h;rw [List.getElem?_append_right (by omega),Qv l hl n (i-l.length) (by omega)];congr 1;exact (Nat.mod_eq_sub_mod (by omega)).symm
theorem Qw(z:Array Value)(n:Nat)(hz:0<z.size):(Array.range (n*z.size)).map (λi=>z[i % z.size]!)=(times z.toList n).toArray:=by
 apply Array.ext';apply List.ext_getElem?;intro i;simp only [Array.toList_map,Array.toList_range,List.getElem?_map,List.getElem?_range'];by_cases hi:i<n*z.size
 ·rw [List.getElem?_range hi,Qv _ (by simpa using hz) n i (by simpa using hi)]
  have:i % z.size<z.size:=Nat.mod_lt _ hz
  simp [this]
 ·rw [List.getElem?_eq_none (by simp;omega),List.getElem?_eq_none (by simp [G2];omega)];rfl
theorem ez{a:Act}{d:Nat}{v:Value}(i:Nat)(hd:d<a.tmps.size):(a.put (some d) v).tmps[i]? = if d=i then some v else a.tmps[i]? := by
 simp only [Act.put];by_cases h:d=i
 ·subst h;simp [hd]
 ·rw [if_neg h,Array.getElem?_setIfInBounds_ne h]
theorem Jt(a:Act)(dst:Option Tmp)(v:Value):(a.put dst v).tmps.size=a.tmps.size:=by
 cases dst<;>simp [Act.put]
theorem Ju(a:Act)(dst:Option Tmp)(v:Value):(a.put dst v).defers=a.defers:=by
 cases dst<;>rfl
def bD(β:Nat->Nat)(k:Nat):pI->Option Nat
 | .fix _ _=>some (β k)
 | .row _ _ _=>if 2<=β (k+1)then some (β k)else none
def od(c:ar)(k:Nat):pI->Prop
 | .fix cs _=>k<c.nk/\cs.all (At.wf c)=true
 | .row ce _ _=>k+3<c.nk/\bW c ce=true
def cm:Sg->List Nat
 | .bT l=>aF l
 | .var _=>[]
def dS:pI->List Nat
 | .fix cs _=>aF cs
 | .row ce _ _=>ce.flatMap cm
theorem St.WF.dU{st:St}(h:st.WF){k:Nat}{e:pI}(hg:aE st.m st.o k=some e):od st.c k e:=by
  unfold aE at hg;cases hm:getM st.m k with
  |some x =>
    rw [hm]at hg;simp only [Option.some.injEq]at hg;subst hg;exact h.m k x.1 x.2 hm
  |none =>
    rw [hm]at hg;cases ho:aG st.o k with
    |some x =>
      rw [ho]at hg;simp only [Option.some.injEq]at hg;subst hg;exact h.o k x.1 x.2.1 x.2.2 ho
    |none=>rw [ho]at hg;cases hg
theorem CU{c:ar}{k:Nat}:∀{e:pI},od c k e->k<c.nk
 | .fix ..,h=>h.1
 | .row ..,h=>by have:=h.1;omega
theorem Holds.vI{U:Env}{β:Nat->Nat}{k:Nat}{w:World}:∀{e:pI},Holds W U β k e w->∀b,bD β k e=some b->(b∈W.oN∨W.heap.size<=b)/\b<w.heap.size/\∃o,w.heap[b]? = some o/\Datum o
  | .fix cs t,h,b,hb=>by
    simp only [bD,Option.some.injEq]at hb;subst hb;exact⟨h.1.out,bM h.2,_,h.2,trivial⟩
  | .row ce sz t,h,b,hb=>by
    simp only [bD]at hb;split at hb
    · rename_i hc;simp only [Option.some.injEq]at hb;subst hb;obtain⟨ob,h3,h4⟩:=bH.datum h hc;exact⟨(bH.own h hc).out,bM h3,_,h3,h4⟩
    · cases hb
theorem Holds.cA{U af:Env}{β ak:Nat->Nat}{c:ar}{k:Nat}{w w':World}:∀ {e:pI},Holds W U β k e w->od c k e->Env.ay c U af->(∀ j,j < c.nk->ak j=β j) ->
    (∀b,bD β k e=some b->w'.heap[b]? = w.heap[b]?)->Holds W af ak k e w'
  | .fix cs t,h,hw,hl,hb,hh=>by
    refine⟨by rw [hb k hw.1];exact h.1, ?_⟩;rw [hb k hw.1,xF hl hb hw.2,hh _ rfl];exact h.2
  | .row ce sz t,h,hw,hl,hb,hh=>by
    have h1:=hw.1;simp only [Holds]at h ⊢;rw [hb k (by omega),hb (k+1) (by omega),hb (k+2) (by omega),hb (k+3) (by omega),uz hl hb hw.2];exact h.heap λh2=>hh (β k) (by simp only [bD,h2,if_true])
theorem Ed{β ak:Nat->Nat}{c:ar}{k:Nat}:∀{e:pI},od c k e->(∀j,j<c.nk->ak j=β j)->bD ak k e=bD β k e
 | .fix ..,hw,hb=>by simp only [bD,hb k hw.1]
 | .row ..,hw,hb=>by have:=hw.1;simp only [bD,hb k (by omega),hb (k+1) (by omega)]
def recAt(r:Loop):Option Ex->Loop
 |none => {r with state := .ready,pending:=none}
 |some .normal => {r with state := .busy,pending:=none}
 |some (.exit id) => {r with state := .done,pending:=some (.exit id)}
 |some .ret => {r with state := .done,pending:=some .ret}
 |some (.iP _)=>r
def marksOf(β:Nat->Nat)(d:List Nat):List Deferred:=d.map λk => {target := .collected (β k),args := #[]}
def fm(β:Nat->Nat)(df:List (FuncId × List (Nat × Nat))):List Deferred:=df.map λx => {target := .fn (.func x.1) (x.2.map λc=>(.pointer (some ⟨β c.1,c.2,none⟩):Value)).toArray,args := #[]}
theorem G3{β ak:Nat->Nat}{n:Nat}{df:List (FuncId × List (Nat × Nat))}(h:∀x∈df,∀y∈x.2,y.1<n)(hb:∀k,k<n->ak k=β k):fm ak df=fm β df:=by
 simp only [fm];refine List.map_congr_left λx hx => ?_;congr 3;exact List.map_congr_left λy hy=>by rw [hb y.1 (h x hx y hy)]
structure Core(W:dR)(R:Nat->Loop)(Z:List Nat)(U:Env)(β:Nat->Nat)(st:St)(a:Act)(w:World):Prop where
 size:a.tmps.size=st.n
 tmps:∀i,av st.t i ≠ .any->a.tmps[i]? = some ((av st.t i).den U β)
 jF:a.defers=fm β st.df++marksOf β st.d
 below:dz W w
 mem:∀k e,aE st.m st.o k=some e->Holds W U β k e w
 inj:∀k k' e e' b,aE st.m st.o k=some e->aE st.m st.o k'=some e'->bD β k e=some b->bD β k' e'=some b->k=k'
 ft:∀k e,eF st.r k=some e->W.heap.size<=β k/\w.heap[β k]? = some (.loop (recAt (R k) e))
 jz:∀k k' e e',eF st.r k=some e->eF st.r k'=some e'->β k=β k'->k=k'
 gd:∀b∈Z++st.d.map β,W.heap.size<=b/\w.heap[b]? = some (.deferred (some []))
 dn:(Z++st.d.map β).Nodup
 wf:st.WF
 kn:bV.den st.k U
variable {R:Nat->Loop} {Z:List Nat}
theorem Jv{U:Env}{st:St}(h:bV.den st.k U){g:Nat}(hn:st.ev (.global g) ≠ .any)(β:Nat->Nat):Value.pointer (some ⟨g,0,none⟩)=(st.ev (.global g)).den U β:=by
  simp only [St.ev]at hn ⊢;generalize hf:nO st.k g=u at hn;cases u with
  |none=>exact (hn rfl).elim
  |some p =>
    have:=h _ (GI hf)
    simp only [Kn.den]at this;show Value.pointer (some ⟨g,0,none⟩)=Value.pointer (some ⟨(U.p p).1,(U.p p).2+0*0+0,none⟩);rw [this]
theorem Core.eval{U:Env}{β:Nat->Nat}{st:St}{a:Act}{w:World}(h:Core W R Z U β st a w):∀x:Operand,st.ev x ≠ .any->a.eval x=(st.ev x).den U β
  | .tmp t,hn=>by
    have:=h.tmps t hn
    simp only [Act.eval,St.ev,Array.getD_eq_getD_getElem?,this,Option.getD_some]
  | .const v,hn=>((SV.cu v st.c U β).2 hn).symm
  | .global g,hn=>Jv h.kn hn β
  | .func _,hn=>rfl
theorem Core.ops{U:Env}{β:Nat->Nat}{st:St}{a:Act}{w:World}(h:Core W R Z U β st a w)(o:Oper):dD st o U β a:=λx _ hn=>h.eval x hn
theorem Core.fix{U:Env}{β:Nat->Nat}{st:St}{a:Act}{w:World}(h:Core W R Z U β st a w){k:Nat}{cs:List At}{t:TypeId}(hg:getM st.m k=some (cs,t)) :
  ek W (β k)/\w.heap[β k]? = some (.cells (cs.map (At.den U β)).toArray t):=h.mem k _ (n_ hg)
theorem Core.ay{U af:Env}{β:Nat->Nat}{st:St}{a:Act}{w:World}(h:Core W R Z U β st a w)(hl:Env.ay st.c U af):Core W R Z af β st a w where
 size:=h.size
 tmps i hn:=by
  rw [h.tmps i hn];exact congrArg some (SV.aa hl (λ_ _=>rfl) (h.wf.t i)).symm
 jF:=h.jF
 below:=h.below
 mem k e hg:=(h.mem k e hg).cA (h.wf.dU hg) hl (λ_ _=>rfl) (λ_ _=>rfl)
 inj:=h.inj
 ft:=h.ft
 jz:=h.jz
 gd:=h.gd
 dn:=h.dn
 wf:=h.wf
 kn:=bV.aa hl h.wf.k h.kn
theorem St.WF.grow{st:St}(h:st.WF){c:ar}(hc:st.c.le c):({st with c:=c}:St).WF where
 t i:=SV.aL hc (h.t i)
 m k cs t hg:=⟨Nat.lt_of_lt_of_le (h.m k cs t hg).1 hc.k,AB hc (h.m k cs t hg).2⟩
 o k ce sz t hg:=⟨Nat.lt_of_lt_of_le (h.o k ce sz t hg).1 hc.k,AE hc (h.o k ce sz t hg).2⟩
 ap:=h.ap
 r k e hg:=Nat.lt_of_lt_of_le (h.r k e hg) hc.k
 d k hk:=Nat.lt_of_lt_of_le (h.d k hk) hc.k
 k:=bV.aL hc h.k
 df x hx y hy:=Nat.lt_of_lt_of_le (h.df x hx y hy) hc.k
structure zG(W:dR)(s1 s':St)(U:Env)(C:List Nat)(β ak:Nat->Nat)(w w':World):Prop where
 os:w'.os=w.os
 tape:w'.tape=w.tape
 output:w'.output=w.output
 size:w.heap.size<=w'.heap.size
 frame:∀b,b<w.heap.size->(∀k e,k∈C->aE s1.m s1.o k=some e->bD β k e≠some b)->w'.heap[b]? = w.heap[b]?
 off:∀k,¬(s1.c.nk<=k/\k<s'.c.nk)->ak k=β k
 new:∀k e',(k∈C∨s1.c.nk<=k)->aE s'.m s'.o k=some e'->Holds W U ak k e' w'/\∀b,bD ak k e'=some b->w.heap.size<=b∨∃j e,j∈C/\aE s1.m s1.o j=some e/\bD β j e=some b/\(j=k∨aE s'.m s'.o j=none)
 inj:∀k k' e e' b,(k∈C∨s1.c.nk<=k)->(k'∈C∨s1.c.nk<=k')->aE s'.m s'.o k=some e->aE s'.m s'.o k'=some e'->bD ak k e=some b->bD ak k' e'=some b->k=k'
def xY(m:Mem)(o:ba)(l:List Nat)(β:Nat->Nat):Prop:=∀k k' e e' b,k∈l->k'∈l->aE m o k=some e->aE m o k'=some e'->bD β k e=some b->bD β k' e'=some b->k=k'
structure gT(P:Program)(W:dR)(s1:St)(o:Oper)(U:Env)(s':St)(sv:SV)(C:List Nat):Prop where
 kn:bV.den s1.k U->bV.den s'.k U
 G4:s'.df=s1.df
 n:s'.n=s1.n
 rs:s'.r=s1.r
 ds:s'.d=s1.d
 G5:s1.c.le s'.c
 wf:s'.WF
 slot:∀t,av s'.t t=if o.dst=some t then sv else av s1.t t
 dst:∀d,o.dst=some d->d<s1.n
 Jw:∀k∈C,k∈aQ s1 o/\k<s1.c.nk
 same:∀k,k<s1.c.nk->k ∉ C->aE s'.m s'.o k=aE s1.m s1.o k
 ids:∀k e',(k∈C∨s1.c.nk<=k)->aE s'.m s'.o k=some e'->∀x∈dS e',x∈cN s1 o∨∃j e,j∈aU s1 o++aQ s1 o/\aE s1.m s1.o j=some e/\x∈dS e
 Qx:∀(β:Nat->Nat) (a:Act) (w:World),dz W w->dD s1 o U β a->fk W s1.m s1.o (aU s1 o++aQ s1 o) U β w->xY s1.m s1.o (aQ s1 o) β ->
  ∀(next:Act->World->Prop) (Q':Exit->Act->World->Prop),(∀ak v w',(sv ≠ .any->v=sv.den U ak)->zG W s1 s' U C β ak w w'->next (a.put o.dst v) w')->o.wp P a w next Q'
theorem zG.below{s1 s':St}{U:Env}{C:List Nat}{β ak:Nat->Nat}{w w':World}(h:zG W s1 s' U C β ak w w')(hB:dz W w)(hC:∀k e,k∈C->aE s1.m s1.o k=some e->Holds W U β k e w):dz W w' :=
 dz.mk (h.os.trans hB.os) (h.tape.trans hB.tape) (h.output.trans hB.output) (Nat.le_trans hB.size h.size) λb hb hl=>by
  rw [h.frame b (Nat.lt_of_lt_of_le hb hB.size) λk e hk hg k_ => ?_]
  ·exact hB.block b hb hl
  ·rcases ((hC k e hk hg).vI b k_).1 with h1|h1
   ·exact hl h1
   ·omega
theorem zG.other{s1 s':St}{U:Env}{C:List Nat}{β ak:Nat->Nat}{w w':World}(h:zG W s1 s' U C β ak w w')(hC:∀k e,k∈C->aE s1.m s1.o k=some e->Holds W U β k e w){b:Nat}{o:Obj}(hb:w.heap[b]? = some o)
  (ho:¬Datum o):w'.heap[b]? = some o:=by
 rw [h.frame b (bM hb) λk e hk hg k_ => ?_]
 ·exact hb
 ·obtain⟨_,_,o',hc,hd⟩:=(hC k e hk hg).vI b k_;rw [hb]at hc;cases hc;exact ho hd
theorem UR{s1 s':St}{o:Oper}{U:Env}{sv:SV}{C:List Nat}{β:Nat->Nat}{a:Act}{w:World}(hC:Core W R Z U β s1 a w)(hF:gT P W s1 o U s' sv C){next:Act->World->Prop}(Q':Exit->Act->World->Prop)
    (hn:∀ak a' w',(∀k,k<s1.c.nk->ak k=β k)->Core W R Z U ak s' a' w'->next a' w'):o.wp P a w next Q':=by
  refine hF.Qx β a w hC.below (hC.ops o) (λk _ e hg=>hC.mem k e hg) (λk k' e e' b _ _=>hC.inj k k' e e' b) next Q' λak v w' hv hc => ?_
  have hb:∀k,k<s1.c.nk->ak k=β k:=λk hk=>hc.off k (by omega);have A2:∀k e,k∈C->aE s1.m s1.o k=some e->Holds W U β k e w:=λk e _ hg=>hC.mem k e hg
  have eI:∀{k e},¬(k∈C∨s1.c.nk<=k)->aE s'.m s'.o k=some e->aE s1.m s1.o k=some e:=λ{k e} hk hg=>by
    rw [<-hF.same k (by omega) (λh=>hk (.inl h))];exact hg
  have Jx:∀{k e},¬(k∈C∨s1.c.nk<=k)->aE s1.m s1.o k=some e->∀b,bD β k e=some b->w'.heap[b]? = w.heap[b]? := λ{k e} hk hg b k_=>by
    have hl:=(hC.mem k e hg).vI b k_;refine hc.frame b hl.2.1 λj e' hj ep US => ?_
    have:=hC.inj k j e e' b hg ep k_ US
    exact hk (.inl (this▸hj))
  have nE:s1.d.map ak=s1.d.map β:=List.map_congr_left λk hk=>hb k (hC.wf.d k hk);refine hn ak _ w' hb ⟨by rw [Jt,hC.size,hF.n],λi hi => ?_, ?_,hc.below hC.below A2,λk e hg => ?_,λk k' e e' b hx hy ky lh => ?_,λk e hg => ?_,λk k' e e' hx hy he => ?_,λb pK => ?_, ?_,hF.wf,hF.kn hC.kn⟩
  · rw [hF.slot]at hi ⊢;by_cases hd:o.dst=some i
    · rw [if_pos hd]at hi ⊢;rw [hd,ez i (by rw [hC.size];exact hF.dst i hd),if_pos rfl,hv hi]
    · rw [if_neg hd]at hi ⊢
      have h1:(a.put o.dst v).tmps[i]? = a.tmps[i]? := by
        cases Ee:o.dst with
        |none=>rfl
        |some d =>
          rw [ez i (by rw [hC.size];exact hF.dst d Ee),if_neg (λe=>hd (by rw [Ee,e]))]
      rw [h1,hC.tmps i hi,SV.aa (Env.an _ U) hb (hC.wf.t i)]
  · rw [Ju,hC.jF,hF.ds,hF.G4,G3 hC.wf.df hb];simp only [marksOf];exact congrArg _ (List.map_congr_left λk hk=>by rw [hb k (hC.wf.d k hk)])
  · by_cases hk:k∈C∨s1.c.nk<=k
    · exact (hc.new k e hk hg).1
    · have zH:=eI hk hg;exact (hC.mem k e zH).cA (hC.wf.dU zH) (Env.an _ _) hb (Jx hk zH)
  · have qp:∀ {k k' e e' b},(k∈C∨s1.c.nk<=k)->¬ (k'∈C∨s1.c.nk<=k')->aE s'.m s'.o k=some e->aE s'.m s'.o k'=some e'->bD ak k e=some b->bD ak k' e'=some b->False:=by
      intro k k' e e' b h1 h2 hx hy ky lh
      have xv:=eI h2 hy;rw [Ed (hC.wf.dU xv) hb]at lh
      have hl:=(hC.mem k' e' xv).vI b lh
      rcases (hc.new k e h1 hx).2 b ky with h3|⟨j,ej,h3,h4,h5,_⟩
      · omega
      · have:=hC.inj j k' ej e' b h4 xv h5 lh
        exact h2 (.inl (this▸h3))
    by_cases h1:k∈C∨s1.c.nk<=k<;>by_cases h2:k'∈C∨s1.c.nk<=k'
    · exact hc.inj k k' e e' b h1 h2 hx hy ky lh
    · exact (qp h1 h2 hx hy ky lh).elim
    · exact (qp h2 h1 hy hx lh ky).elim
    · have zI:=eI h1 hx;have xv:=eI h2 hy;rw [Ed (hC.wf.dU zI) hb]at ky;rw [Ed (hC.wf.dU xv) hb]at lh
      exact hC.inj k k' e e' b zI xv ky lh
  · rw [hF.rs]at hg;rw [hb k (hC.wf.r k e hg)];exact⟨(hC.ft k e hg).1,hc.other A2 (hC.ft k e hg).2 (λh=>h)⟩
  · rw [hF.rs]at hx hy;rw [hb k (hC.wf.r k e hx),hb k' (hC.wf.r k' e' hy)]at he;exact hC.jz k k' e e' hx hy he
  · rw [hF.ds,nE]at pK;exact⟨(hC.gd b pK).1,hc.other A2 (hC.gd b pK).2 (λh=>h)⟩
  · rw [hF.ds,nE];exact hC.dn
end Vc
