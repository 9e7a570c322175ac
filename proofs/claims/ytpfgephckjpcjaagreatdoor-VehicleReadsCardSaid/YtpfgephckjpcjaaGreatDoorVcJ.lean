import Derived.Test.YtpfgephckjpcjaaGreatDoorVcG
import Derived.MapKept
import Derived.Laws.BytesString
import Derived.Laws.CopyOwn
import Derived.RangeFuncRecord
set_option linter.unusedVariables false
set_option linter.unusedSimpArgs false
namespace Vc
open Go Go.RowKit
variable {P:Program} {W:e_} {Q:Value->Prop} {QM QP:World->Value->Prop}
theorem At.bn(ρ:Env)(β an:Nat->Nat):∀{a:At},a.flat=true->a.den ρ β=a.den ρ an:=by
 intro a h
 cases a<;>first
  |rfl
  | (simp [At.flat]at h;done)
  | (simp only [At.flat,List.isEmpty_iff]at h;subst h;rfl)
theorem CJ(ρ:Env)(β an:Nat->Nat){l:List At}(h:l.all At.flat=true):l.map (At.den ρ β)=l.map (At.den ρ an) :=
 List.map_congr_left λx hx=>At.bn ρ β an (List.all_eq_true.1 h x hx)
theorem Sg.bn(ρ:Env)(β an:Nat->Nat):∀{s:Sg},s.flat=true->s.den ρ β=s.den ρ an
 | .cG l,h=>CJ ρ β an h
 | .var i,_=>rfl
theorem Be(ρ:Env)(β an:Nat->Nat):∀{l:CE},gZ l=true->av ρ β l=av ρ an l
  | [],_=>rfl
  |s::r,h=>by
    simp only [gZ,List.all_cons,Bool.and_eq_true]at h;simp only [av,Sg.bn ρ β an h.1,Be ρ β an (l:=r) h.2]
theorem CV.bn(ρ:Env)(β an:Nat->Nat):∀{c:CV},c.flat=true->c.den ρ β=c.den ρ an
 | .one a,h=>At.bn ρ β an h
 | .agg l,h=>by simp only [CV.den];rw [CJ ρ β an h]
theorem SV.bn(ρ:Env)(β an:Nat->Nat):∀{c:SV},fB c=true->c.den ρ β=c.den ρ an
  | .any,_=>rfl
  | .eH,_=>rfl
  | .cv c,h=>CV.bn ρ β an h
  | .dt l,h=>by
    simp only [SV.den];rw [List.map_congr_left λx hx=>CV.bn ρ β an (List.all_eq_true.1 h x hx)]
theorem yn{w:World}{b:Nat}{C:Array Value}{t:TypeId}{mk:Nat × Nat}(h:w.heap[b]? = some (.cells C t mk))(o:Nat):w.cell? ⟨b,o,none⟩=C[o]? := by
 simp [World.cell?,h]
theorem CL{t:TypeId}{n:Nat}(hz:aP P t=some (true,n))(w:World)(b o:Nat)(cs:List Value)(hn:cs.length=n)(h:∀j v,cs[j]? = some v->w.cell? ⟨b,o+j,none⟩=some v) :
  (Instr.loadAt t (ptr b o)).run P w=.ok (.agg cs.toArray) w:=by
 subst hn
 have:=run_loadCells_list (P:=P) w ⟨b,o,none⟩ cs (λj v hj=>by rw [vU];exact h j v hj)
 simp only [Instr.loadAt,ptr,Instr.sureAddr,Sem.run_bind,Sem.run_pure,Result.andThen_ok,loadVar,Gn hz,if_true,qY hz,this]
theorem CM{t:TypeId}{n:Nat}(hz:aP P t=some (false,n))(w:World)(b o:Nat)(v:Value)(h:w.cell? ⟨b,o,none⟩=some v) :
  (Instr.loadAt t (ptr b o)).run P w=.ok v w:=by
 simp [Instr.loadAt,ptr,Instr.sureAddr,loadVar,Gn hz,h]
theorem OS{p:Nat}{ix:IE}{sz:Nat}:∀ (ks:List CK) (off:Nat) (c:aw) {K:List At->aw->Env->Prop} {ρ:Env},ks.all CK.plain=true->p < c.np->ix.wf c=true ->
    pF (PA P W Q QM QP) p ix sz off ks c K ρ->∃l c' ah,K l c' ah/\c.le c'/\Env.aE c ρ ah/\l.length=ks.length /\
      ∀U,Env.aE c' ah U->∀β j a,l[j]? = some a->W.seen.cell? ⟨(U.p p).1,(U.p p).2+(ix.den U).toNat*sz+(off+j),none⟩=some (a.den U β)
  | [],off,c,K,ρ,_,_,_,h=>⟨[],c,ρ,h,aw.le_refl _,Env.aq _ _,rfl,λ_ _ _ j a hj=>by simp at hj⟩
  |k::ks,off,c,K,ρ,mg,hp,hi,h=>by
    simp only [List.all_cons,Bool.and_eq_true]at mg;obtain⟨a8,l1,h1,h2⟩:=u7 [k] c h;have hle:=zq c k;obtain⟨l,c',ah,q1,q2,q3,q4,q5⟩:=OS ks (off+1) (bd c k) mg.2 (Nat.lt_of_lt_of_le hp hle.p) (IE.aT hle hi) h2;refine⟨bz c k::l,c',ah,q1,aw.le_trans hle q2,Env.aj hle l1 q3,by simp [q4],λU hl β j a hj => ?_⟩;cases j with
    |zero =>
      simp only [List.getElem?_cons_zero,Option.some.injEq]at hj;subst hj;have l2:Env.aE (bd c k) a8 U:=Env.aj q2 q3 hl;have l3:Env.aE c ρ U:=Env.aj hle l1 l2;rw [l3.p p hp,IE.ae l3 hi,At.bn U β b0 (Gm c k mg.1),At.ae l2 (β:=b0) (λ_ _=>rfl) (Gl c k)];exact h1
    |succ j =>
      have:=q5 U hl β j a (by simpa using hj)
      rw [show off+(j+1)=off+1+j by omega];exact this
theorem Iy{lo:Nat->Prop}{b code n base:Nat}{xs:List Value}{sz:Nat}{t:TypeId}{w:World}(h:hZ lo b code n base xs sz t w){i:Nat}{v:Value}(hi:xs[i]? = some v):w.cell? ⟨b,i,none⟩=some v:=by
 have hl:i<xs.length:=(List.getElem?_eq_some_iff.1 hi).1
 have hn:0<n:=by
  rcases Nat.eq_zero_or_pos n with h0|h0
  ·rw [h.1,h0]at hl;omega
  ·exact h0
 obtain⟨_,_,cur,h1,h2⟩:=ON h hn;rw [yn h1];rw [<-h2,List.getElem?_take]at hi;split at hi
 ·simpa using hi
 ·cases hi
theorem OT{lo:Nat->Prop}{b code n base:Nat}{xs:List Value}{sz:Nat}{t:TypeId}{w:World}(h:bY lo b code n base xs sz t w)(hz:0<sz∨t=0){i:Nat}{v:Value}(hi:xs[i]? = some v):w.cell? ⟨b,i,none⟩=some v:=by
 rcases h with h|⟨h1,h2,h3,h4⟩
 ·exact Iy h hi
 ·obtain rfl:t=0:=hz.resolve_left (by omega);obtain⟨_,C,ty,mk,h5,h6⟩:=h4
  have:w.cell? ⟨b,i,none⟩=C[i]? := by simp [World.cell?,h5]
  rw [this];rw [<-h6,List.getElem?_take]at hi;split at hi
  ·simpa using hi
  ·cases hi
theorem Iz{ce:CE}{ix:IE}{sz:Nat}:∀ (ks:List CK) (off:Nat) (c:aw) {K:List At->aw->Env->Prop} {ρ:Env},ks.all CK.plain=true->gZ ce=true->cH c ce=true->ix.wf c=true ->
    th (PA P W Q QM QP) ce ix sz off ks c K ρ->∃l c' ah,K l c' ah/\c.le c'/\Env.aE c ρ ah/\l.length=ks.length /\
      ∀U,Env.aE c' ah U->∀β j a,l[j]? = some a->(av U β ce)[(ix.den U).toNat*sz+(off+j)]? = some (a.den U β)
  | [],off,c,K,ρ,_,_,_,_,h=>⟨[],c,ρ,h,aw.le_refl _,Env.aq _ _,rfl,λ_ _ _ j a hj=>by simp at hj⟩
  |k::ks,off,c,K,ρ,mg,hf,hp,hi,h=>by
    simp only [List.all_cons,Bool.and_eq_true]at mg;obtain⟨a8,l1,h1,h2⟩:=u7 [k] c h;have hle:=zq c k;obtain⟨l,c',ah,q1,q2,q3,q4,q5⟩:=Iz ks (off+1) (bd c k) mg.2 hf (A0 hle hp) (IE.aT hle hi) h2;refine⟨bz c k::l,c',ah,q1,aw.le_trans hle q2,Env.aj hle l1 q3,by simp [q4],λU hl β j a hj => ?_⟩;cases j with
    |zero =>
      simp only [List.getElem?_cons_zero,Option.some.injEq]at hj;subst hj;have l2:Env.aE (bd c k) a8 U:=Env.aj q2 q3 hl;have l3:Env.aE c ρ U:=Env.aj hle l1 l2;rw [Be U β b0 hf,uX l3 (β:=b0) (λ_ _=>rfl) hp,IE.ae l3 hi,At.bn U β b0 (Gm c k mg.1),At.ae l2 (β:=b0) (λ_ _=>rfl) (Gl c k)];exact h1
    |succ j =>
      have:=q5 U hl β j a (by simpa using hj)
      rw [show off+(j+1)=off+1+j by omega];exact this
theorem OU{ce:CE}{ix:IE}{sz off:Nat}{cs:List At}{p:Nat}(h:iC ce ix sz off=some (cs,p)):(∀ρ,(ix.den ρ).toNat*sz+off=p)/\∀ρ β,av ρ β ce=cs.map (At.den ρ β):=by
 unfold iC at h;split at h
 ·rename_i j gS h1;simp only [Option.some.injEq,Prod.mk.injEq]at h;obtain⟨rfl,rfl⟩:=h;exact⟨λ_=>rfl,λρ β=>Dl ρ β h1⟩
 ·cases h
theorem S0{m:Mem}{o:bq}(gR:lM m o){c:aw}{t:TypeId}{x:SV}{K:SV->aw->Env->Prop}{ρ:Env}(h:nJ (PA P W Q QM QP) P m o c t x K ρ) :
    dh c ρ K λsv U=>x ≠ .any/\sv ≠ .any/\∀β w,dT W w->gF W m o (aF (aV x)) U β w->(Instr.loadAt t (x.den U β)).run P w=.ok (sv.den U β) w:=by
  unfold nJ at h;generalize hz:aP P t=u1 at h;split at h
  · exact h.elim
  · rename_i g n;split at h
    · rename_i k ix sz off;generalize jV:aM o k=u2 at h;split at h
      · exact h.elim
      · rename_i ce s0 ty;split at h;rotate_left
        · exact h.elim
        rename_i zX;generalize ga:iC ce ix sz off=u3 at h;split at h
        · rename_i cs p;obtain⟨e1,e2⟩:=OU ga
          have cell:∀(U:Env) (β:Nat->Nat) (w:World),gF W m o (aF (aV (.cv (.one (.gg k ix sz off))))) U β w->∀(j:Nat) (a:At),cs[j]? = some a->w.cell? ⟨β k,j,none⟩=some (a.den U β):=by
            intro U β w hr j a hj;have br:=hr k (by simp [aV,CV.cells,aF]) _ (lK (gR k _ jV) jV);exact OT br zX (by rw [e2];simp [hj])
          split at h
          · rename_i hg;subst hg;split at h
            · rename_i hb;refine dh.pure h λU _=>⟨by simp,by simp,λβ w hB hr => ?_⟩
              have:=CL hz w (β k) p (((cs.drop p).take n).map (At.den U β)) (by simp;omega) (λj v hj=>by
                simp only [List.getElem?_map,Option.map_eq_some_iff]at hj;obtain⟨a,ha,rfl⟩:=hj
                have yp:j<n:=by
                  rcases Nat.lt_or_ge j n with h'|h'
                  · exact h'
                  · rw [List.getElem?_eq_none (by simp;omega)]at ha;cases ha
                rw [List.getElem?_take_of_lt yp,List.getElem?_drop]at ha;exact cell U β w hr _ a ha)
              show (Instr.loadAt t (ptr (β k) ((ix.den U).toNat*sz+off))).run P w=_;rw [e1];exact this
            · exact h.elim
          · rename_i hg;have fM:g=false:=by simpa using hg
            subst fM;generalize hc:cs[p]? = u4 at h;split at h
            · rename_i a;refine dh.pure h λU _=>⟨by simp,by simp,λβ w hB hr => ?_⟩;show (Instr.loadAt t (ptr (β k) ((ix.den U).toNat*sz+off))).run P w=_;rw [e1];exact CM hz w (β k) p (a.den U β) (cell U β w hr p a hc)
            · exact h.elim
        · generalize hk:vy P 30 t=u4 at h;split at h
          · exact h.elim
          · rename_i ks;by_cases hc:ks.length=(if g=true then n else 1)/\ks.all CK.plain=true/\gZ ce=true/\cH c ce=true/\ix.wf c=true
            · rw [if_pos hc]at h;obtain⟨hl,mg,hf,hp,hi⟩:=hc;obtain⟨l,c',ah,q1,q2,q3,q4,q5⟩:=Iz ks off c mg hf hp hi h;refine⟨_,c',ah,q1,q2,q3,λU d_=>⟨by simp,by simp,λβ w hB hr => ?_⟩⟩
              have key:∀j v,(l.map (At.den U β))[j]? = some v->w.cell? ⟨β k,(ix.den U).toNat*sz+off+j,none⟩=some v:=by
                intro j v hj;simp only [List.getElem?_map,Option.map_eq_some_iff]at hj;obtain⟨a,ha,rfl⟩:=hj;have br:=hr k (by simp [aV,CV.cells,aF]) _ (lK (gR k _ jV) jV);rw [Nat.add_assoc];exact OT br zX (q5 U d_ β j a ha)
              cases g with
              |true =>
                have:=CL hz w _ _ (l.map (At.den U β)) (by simpa [q4]using hl) key
                cases l<;>exact this
              |false =>
                simp only [Bool.false_eq_true,if_false]at hl;rw [hl]at q4
                match l,q4 with
                | [a],_=>exact CM hz w _ _ (a.den U β) (by simpa using key 0 _ rfl)
            · rw [if_neg hc]at h;exact h.elim
    · rename_i k off;generalize hm:getM m k=u2 at h;split at h
      · exact h.elim
      · rename_i cs ty;split at h
        · rename_i hg;subst hg;split at h
          · rename_i hb;refine dh.pure h λU _=>⟨by simp,by simp,λβ w hB hr => ?_⟩;obtain⟨_,hh⟩:=hr k (by simp [aV,CV.cells,aF]) _ (pk hm)
            have:=CL hz w (β k) off (((cs.drop off).take n).map (At.den U β)) (by simp;omega) (λj v hj=>by
              rw [yn hh];simp only [List.getElem?_map,Option.map_eq_some_iff]at hj;obtain⟨a,ha,rfl⟩:=hj
              have yp:j<n:=by
                rcases Nat.lt_or_ge j n with h'|h'
                · exact h'
                · rw [List.getElem?_eq_none (by simp;omega)]at ha;cases ha
              rw [List.getElem?_take_of_lt yp,List.getElem?_drop]at ha;simp [ha])
            exact this
          · exact h.elim
        · rename_i hg;have fM:g=false:=by simpa using hg
          subst fM;generalize hc:cs[off]? = u3 at h;split at h
          · rename_i a;refine dh.pure h λU _=>⟨by simp,by simp,λβ w hB hr => ?_⟩;obtain⟨_,hh⟩:=hr k (by simp [aV,CV.cells,aF]) _ (pk hm);exact CM hz w (β k) off (a.den U β) (by rw [yn hh];simp [hc])
          · exact h.elim
    · rename_i p ix sz off;generalize hk:vy P 30 t=u2 at h;split at h
      · exact h.elim
      · rename_i ks;by_cases hc:ks.length=(if g=true then n else 1)/\ks.all CK.plain=true/\p<c.np/\ix.wf c=true
        · rw [if_pos hc]at h;obtain⟨hl,mg,hp,hi⟩:=hc;obtain⟨l,c',ah,q1,q2,q3,q4,q5⟩:=OS ks off c mg hp hi h;refine⟨_,c',ah,q1,q2,q3,λU d_=>⟨by simp,by simp,λβ w hB hr => ?_⟩⟩
          have key:∀j v,(l.map (At.den U β))[j]? = some v->w.cell? ⟨(U.p p).1,(U.p p).2+(ix.den U).toNat*sz+off+j,none⟩=some v:=by
            intro j v hj;simp only [List.getElem?_map,Option.map_eq_some_iff]at hj;obtain⟨a,ha,rfl⟩:=hj;have h1:=q5 U d_ β j a ha;rw [<-Nat.add_assoc]at h1;exact hB.cell h1
          cases g with
          |true =>
            have:=CL hz w _ _ (l.map (At.den U β)) (by simpa [q4]using hl) key
            cases l<;>exact this
          |false =>
            simp only [Bool.false_eq_true,if_false]at hl;rw [hl]at q4
            match l,q4 with
            | [a],_=>exact CM hz w _ _ (a.den U β) (by simpa using key 0 _ rfl)
        · rw [if_neg hc]at h;exact h.elim
    · exact h.elim
theorem S1{m:Mem}{o:bq}(gR:lM m o){c:aw}{ρ U:Env}{β:Nat->Nat}{w:World}(hl:Env.aE c ρ U)(hw:∀ k ce sz t,aM o k=some (ce,sz,t)->cH c ce=true) :
    ∀(cG:List At),gF W m o (aF cG) U β w->vS W ρ β (eI o cG) w:=by
  intro cG
  induction cG with
  |nil=>exact λ_=>trivial
  |cons a r ih =>
    intro h;have skip:∀{k},aF (a::r)=k::aF r->vS W ρ β (eI o r) w:=λhe=>ih λj hj=>h j (by rw [he];exact List.mem_cons_of_mem _ hj)
    cases a<;>first
      |exact ih h
      |exact skip rfl
      |skip
    rename_i k;simp only [eI];have hr:gF W m o (aF r) U β w:=λj hj=>h j (by simp [aF,hj]);cases hg:aM o k with
    |none=>exact ih hr
    |some v =>
      obtain⟨ce,sz,t⟩:=v
      have:=h k (by simp [aF]) _ (lK (gR k _ hg) hg)
      refine⟨?_,ih hr⟩;rw [<-uX hl (β:=β) (λ_ _=>rfl) (hw k ce sz t hg)];exact this
theorem Bf{m:Mem}{o:bq}(gR:lM m o){c:aw}{ρ U:Env}{β:Nat->Nat}{w:World}(hl:Env.aE c ρ U)(hw:∀ k cs t,getM m k=some (cs,t)->cs.all (At.wf c)=true)
    (Gw:∀k ce sz t,aM o k=some (ce,sz,t)->cH c ce=true) :
    ∀(cG:List At),gF W m o (aF cG) U β w->nZ W ρ β (c9 m cG) (eI o cG) w:=by
  have main:∀(cG:List At) (o':bq),vS W ρ β o' w->gF W m o (aF cG) U β w->nZ W ρ β (c9 m cG) o' w:=by
    intro cG o' S2
    induction cG with
    |nil=>exact λ_=>S2
    |cons a r ih =>
      intro h
      have step:∀ k,(∀ j∈k::aF r,∀ e,aK m o j=some e->Holds W U β j e w) ->
          nZ W ρ β (match getM m k with|some v=>(k,v)::c9 m r|none=>c9 m r) o' w:=by
        intro k hk;have hr:gF W m o (aF r) U β w:=λj hj=>hk j (by simp [hj]);cases hg:getM m k with
        |none=>exact ih hr
        |some v =>
          obtain⟨cs,t⟩:=v;obtain⟨h1,h2⟩:=hk k (by simp) _ (pk hg);rw [xZ hl (β:=β) (λ_ _=>rfl) (hw k cs t hg)]at h2;exact⟨⟨h1,h2⟩,ih hr⟩
      have skip:∀{k},aF (a::r)=k::aF r->nZ W ρ β (c9 m r) o' w:=λhe=>ih λj hj=>h j (by rw [he];exact List.mem_cons_of_mem _ hj)
      cases a<;>first
        |exact step _ h
        |exact ih h
        |exact skip rfl
  exact λcG h=>main cG _ (S1 gR hl Gw cG h) h
theorem Gx:∀(l:List TypeId) {ss:List (Bool × List CK)},iO P l=some ss->(cw ss).all CK.plain=true
  | [],ss,h=>by simp only [iO,Option.some.injEq]at h;subst h;rfl
  |t::l,ss,h=>by
    simp only [iO]at h;split at h
    · split at h
      · rename_i ks r _ _ h3 hc;simp only [Option.some.injEq]at h;subst h;simp only [cw,List.all_append,Bool.and_eq_true];exact⟨hc.2,Gx l h3⟩
      · cases h
    · cases h
theorem CN:∀(ss:List (Bool × List CK)) (l:List At),l.all At.flat=true->(bX ss l).all CV.flat=true
  | [],_,_=>rfl
  | (g,ks)::r,l,h=>by
    have h1:(l.take ks.length).all At.flat=true:=List.all_eq_true.2 λx hx=>List.all_eq_true.1 h x (List.mem_of_mem_take hx);have h2:(l.drop ks.length).all At.flat=true:=List.all_eq_true.2 λx hx=>List.all_eq_true.1 h x (List.mem_of_mem_drop hx);simp only [bX,List.all_cons,CN r _ h2,Bool.and_true];unfold eY;split
    · rename_i a ha;rw [ha]at h1;simpa [CV.flat]using h1
    · exact h1
theorem CO(c:aw):∀(ss:List (Bool × List CK)) (l:List At),l.all (At.wf c)=true->(bX ss l).all (CV.wf c)=true
  | [],_,_=>rfl
  | (g,ks)::r,l,h=>by
    have h1:(l.take ks.length).all (At.wf c)=true:=List.all_eq_true.2 λx hx=>List.all_eq_true.1 h x (List.mem_of_mem_take hx);have h2:(l.drop ks.length).all (At.wf c)=true:=List.all_eq_true.2 λx hx=>List.all_eq_true.1 h x (List.mem_of_mem_drop hx);simp only [bX,List.all_cons,CO c r _ h2,Bool.and_true];unfold eY;split
    · rename_i a ha;rw [ha]at h1;simpa [CV.wf]using h1
    · exact h1
theorem DH{cs:List CV}(h:cs.all CV.flat=true):fB (cZ cs)=true:=by
 unfold cZ;split
 ·simpa [fB]using h
 ·exact h
theorem CP{c:aw}{cs:List CV}(h:cs.all (CV.wf c)=true):(cZ cs).wf c=true:=by
 unfold cZ;split
 ·simpa [SV.wf]using h
 ·exact h
theorem CQ(cs:List CV):cZ cs ≠ .any:=by
 unfold cZ;split<;>simp
structure bW.Ok(G:bW):Prop where
 calls:∀f,G.calls.contains f=true->∀args w,(callFunc f args).run G.P w=.ok (.enter f args) w
 inl:∀f,G.inl.contains f=true->∀args w,(callFunc f args).run G.P w=.ok (.enter f args) w
 jR:∀e∈G.jR,∀(A:b_ (Env->Prop)) (yl:Yl (Env->Prop)) (K:Ex->St->Env->Prop) (K':SV->St->Env->Prop),mU A G (exec A G e.n) yl K e.f e.args e.s K'=j_ A e.asks (K' e.v e.s')
def DI(G:bW)(W:e_)(m:Mem)(o:bq)(f:FuncId)(args:List SV)(sv:SV)(ρ:Env):Prop :=
  sv ≠ .any/\(∀x∈args,x ≠ .any)/\∀β w,dT W w->gF W m o (aF (cR m o args)) ρ β w ->
    ((callFunc f (args.map (SV.den ρ β)).toArray).run G.P w=.ok (.value (sv.den ρ β)) w ∨
     ((callFunc f (args.map (SV.den ρ β)).toArray).run G.P w=.ok (.enter f (args.map (SV.den ρ β)).toArray) w/\Calls G.P f (args.map (SV.den ρ β)).toArray w (aR (sv.den ρ β) w)))
theorem OW{G:bW}(hG:G.Ok){m:Mem}{o:bq}(gR:lM m o){c:aw}{f:FuncId}{args:List SV}{K:SV->aw->Env->Prop}{ρ:Env}(hw:∀ k cs t,getM m k=some (cs,t)->cs.all (At.wf c)=true)(Gw:∀ k ce sz t,aM o k=some (ce,sz,t)->cH c ce=true)
    (h:ma (PA G.P W Q QM QP) G m o c f args K ρ):dh c ρ K (DI G W m o f args):=by
  unfold ma at h;generalize hf:G.P.funcs[f]? = u1 at h;split at h
  · exact h.elim
  · rename_i fn;generalize hs:iO G.P fn.resultTypes.toList=u2 at h;split at h
    · exact h.elim
    · rename_i ss;split at h
      · exact h.elim
      · rename_i ha;simp only [not_or,Decidable.not_not]at ha;obtain⟨tC,sw⟩:=ha
        have fJ:∀x∈args,x ≠ .any:=by
          intro x hx he;subst he;exact tC (List.any_eq_true.2 ⟨_,hx,rfl⟩)
        have kN:fB (cZ (bX ss (ax c (cw ss))))=true:=DH (CN _ _ (DB _ _ (Gx _ hs)));have jG:(cZ (bX ss (ax c (cw ss)))).wf (aX c (cw ss))=true:=CP (CO _ _ _ (Ba _ _));have hle:=xF (cw ss) c
        have gq:∀{a8 U:Env} (β:Nat->Nat),Env.aE c a8 U->args.map (SV.den U β)=args.map (SV.den a8 β):=λβ hl =>
          List.map_congr_left λx hx=>SV.ae hl (λ_ _=>rfl) (List.all_eq_true.1 sw x hx)
        have lN:∀(a8:Env) (β:Nat->Nat),args.all fB=true->args.map (SV.den a8 β)=args.map (SV.den a8 b0):=λa8 β hl =>
          List.map_congr_left λx hx=>SV.bn a8 β b0 (List.all_eq_true.1 hl x hx)
        split at h
        · generalize tm G f args=u3 at h;cases u3 with
          |some l =>
            simp only at h;split at h
            · rename_i jH;obtain⟨jH,uq⟩:=jH;have kN:fB (cZ (bX ss l))=true:=DH (CN _ _ uq);have jG:(cZ (bX ss l)).wf c=true:=CP (CO _ _ _ jH);obtain⟨⟨h1,h2⟩,h3⟩:=h;refine⟨_,_,ρ,h3,aw.le_refl _,Env.aq _ _,λU l3=>⟨CQ _,fJ,λβ w hB hr=>.inl ?_⟩⟩;rw [gq β l3,lN ρ β h1,SV.bn U β b0 kN,SV.ae l3 (β:=b0) (λ_ _=>rfl) jG];exact h2 w
            · exact h.elim
          |none =>
          obtain⟨a8,l1,⟨h1,h2⟩,h3⟩:=u7 _ c h;refine⟨_,_,a8,h3,hle,l1,λU hl=>⟨CQ _,fJ,λβ w hB hr=>.inl ?_⟩⟩;have l3:Env.aE c ρ U:=Env.aj hle l1 hl;rw [gq β l3,lN ρ β h1,SV.bn U β b0 kN,SV.ae hl (β:=b0) (λ_ _=>rfl) jG];exact h2 w
        · split at h
          · rename_i hc;generalize ti G f args (cw ss)=u3 at h;cases u3 with
            |some l =>
              simp only at h;split at h
              · rename_i jH;obtain⟨jH,uq⟩:=jH;have kN:fB (cZ (bX ss l))=true:=DH (CN _ _ uq);have jG:(cZ (bX ss l)).wf c=true:=CP (CO _ _ _ jH);obtain⟨h1,h3⟩:=h;refine⟨_,_,ρ,h3,aw.le_refl _,Env.aq _ _,λU l3=>⟨CQ _,fJ,λβ w hB hr=>.inr ⟨hG.calls f hc _ w, ?_⟩⟩⟩;rw [SV.bn U β b0 kN,SV.ae l3 (β:=b0) (λ_ _=>rfl) jG];split at h1
                · rename_i IA;rw [gq β l3,lN ρ β IA];exact h1 w hB
                · rw [gq β l3];exact h1 β w hB (Bf gR l3 hw Gw _ hr)
              · exact h.elim
            |none =>
              obtain⟨a8,l1,h1,h3⟩:=u7 _ c h;refine⟨_,_,a8,h3,hle,l1,λU hl=>⟨CQ _,fJ,λβ w hB hr=>.inr ⟨hG.calls f hc _ w, ?_⟩⟩⟩;have l3:Env.aE c ρ U:=Env.aj hle l1 hl;rw [SV.bn U β b0 kN,SV.ae hl (β:=b0) (λ_ _=>rfl) jG];split at h1
              · rename_i IA;rw [gq β l3,lN ρ β IA];exact h1 w hB
              · rw [gq β l3];exact h1 β w hB (Bf gR l3 hw Gw _ hr)
          · exact h.elim
end Vc
set_option linter.unusedVariables false
namespace Vc
open Go Go.RowKit
variable {P:Program} {W:e_} {Q:Value->Prop} {QM QP:World->Value->Prop}
theorem DJ(em:Bool)(d:Nat):∀ (n:Nat) (t:TypeId) (ks:List CK),kU P n t=some ks->∀ (ρ:Env) (β:Nat->Nat) (xs:List At) (x:Value) (w:World),xs.length=ks.length->lf P t ρ β x xs ->
    (Instr.checkKey em (d+n) t x).run P w=.ok () w
  |0,_,_,h=>by cases h
  |n+1,t,ks,h=>by
    intro ρ β xs x w hl hx;simp only [kU]at h;cases hu:P.underlying t with
    |none=>simp [hu]at h
    |some dd =>
      simp only [hu]at h;simp only [lf,hu]at hx;rw [show d+(n+1)=(d+n)+1 from rfl,Instr.checkKey];simp only [Sem.run_bind,run_underlying hu,Result.andThen_ok];cases dd<;>simp only [reduceCtorEq,Option.some.injEq]at h
      case int k=>rfl
      case bool=>rfl
      case string=>rfl
      case struct fs =>
        subst hx;split at h
        · cases h
        · simp only [];rw [<-Array.forIn_toList];have ja:(xs.drop 0).length=ks.length:=by simpa using hl
          generalize fs.toList=L at h ⊢;generalize 0=off at h ja;clear hl hu
          induction L generalizing off ks with
          |nil=>simp
          |cons fd r ih =>
            simp only [uj]at h;split at h
            · cases h
            · rename_i hn;simp only [not_or,Decidable.not_not]at hn;obtain⟨hn,ho⟩:=hn;split at h
              · rename_i k1 g n' h1 h2;split at h
                · rename_i su;simp only [Option.map_eq_some_iff]at h;obtain⟨k2,h3,rfl⟩:=h;simp only [List.length_append,List.length_drop]at ja;subst su;have n7:((xs.drop off).take k1.length).length=k1.length:=by simp only [List.length_take,List.length_drop];omega
                  obtain⟨v,p1,v1⟩:=CH (ρ:=ρ) (β:=β) h2 xs off (λhg=>Gq _ _ _ h1 _ _ h2 hg) n7 w;have r1:=DJ em d n fd.type k1 h1 ρ β _ v w n7 v1;have r2:=ih (off:=off+k1.length) (ks:=k2) h3 (by simp only [List.length_drop];omega);subst ho;simp only [List.forIn_cons,Sem.run_bind,hn,ne_eq,not_false_eq_true,if_true,p1,r1,Result.andThen_ok,Sem.run_pure];simpa only [Sem.run_bind,Sem.run_pure,ne_eq]using r2
                · cases h
              · cases h
      case array m el =>
        subst hx;split at h
        · rename_i k1 g s h1 h2;split at h
          · rename_i hs;subst hs;simp only [Option.some.injEq]at h;subst h;simp only [Std.Legacy.Range.forIn_eq_forIn_range',Std.Legacy.Range.size,Nat.sub_zero,Nat.add_one_sub_one,Nat.div_one]
            have tl:∀m,(times k1 m).length=m*k1.length:=by
              intro m
              induction m with
              |zero=>simp [times]
              |succ m ih=>simp only [times,List.length_append,ih,Nat.succ_mul];omega
            rw [tl]at hl;have hi:(0+m)*k1.length<=xs.length:=by rw [Nat.zero_add,hl];exact Nat.le_refl _
            clear hl hu;generalize 0=i at hi ⊢
            induction m generalizing i with
            |zero=>simp
            |succ c ih =>
              have e1:(i+1+c)*k1.length<=xs.length:=by rw [show i+1+c=i+(c+1) by omega];exact hi
              have e2:i*k1.length+k1.length<=xs.length:=by
                have:(i+1)*k1.length<=(i+(c+1))*k1.length:=Nat.mul_le_mul_right _ (by omega)
                rw [Nat.succ_mul]at this;omega
              have n7:((xs.drop (i*k1.length)).take k1.length).length=k1.length:=by simp only [List.length_take,List.length_drop];omega
              obtain⟨v,p1,v1⟩:=CH (ρ:=ρ) (β:=β) h2 xs (i*k1.length) (λhg=>Gq _ _ _ h1 _ _ h2 hg) n7 w;have r1:=DJ em d n el k1 h1 ρ β _ v w n7 v1;have r2:=ih (i+1) e1;rw [List.range'_succ];simp only [List.forIn_cons,Sem.run_bind,qY h2,p1,r1,Result.andThen_ok,Sem.run_pure];simpa only [Sem.run_bind,Sem.run_pure]using r2
          · cases h
        · cases h
theorem OX{n:Nat}{t:TypeId}{dd:TypeDesc}{ks:List CK}(hu:P.underlying t=some dd)(h:kU P n t=some ks){ρ:Env}{β:Nat->Nat}{xs ys:List At}{e:BE}{x y:Value}(he:bj ks xs ys=some e)
    (hx:lf P t ρ β x xs) (hy:lf P t ρ β y ys):Instr.sameNow dd x y=none∨Instr.sameNow dd x y=some (e.den ρ):=by
  cases n with
  |zero=>cases h
  |succ n =>
    simp only [kU,hu]at h;simp only [lf,hu]at hx hy;cases dd<;>simp only [reduceCtorEq,Option.some.injEq]at h
    case int k =>
      subst h;obtain⟨a,rfl,rfl⟩:=hx;obtain⟨b,rfl,rfl⟩:=hy;obtain⟨a0,x,b1,y,e1,e2,p1,p2,h1,h2,rfl⟩:=yk he;cases p1;cases p2;simp only [bj,Option.some.injEq]at h2;subst h2;simp only [gh]at h1;split at h1
      · split at h1
        · rename_i hk;simp only [Option.some.injEq]at h1;subst h1;obtain⟨rfl,rfl⟩:=hk;right;simp only [At.den,BE.den,iN,Bool.and_true,Instr.sameNow,if_true]
          try rfl
        · cases h1
      · cases h1
    case bool =>
      subst h;obtain⟨a,rfl,rfl⟩:=hx;obtain⟨b,rfl,rfl⟩:=hy;obtain⟨a0,x,b1,y,e1,e2,p1,p2,h1,h2,rfl⟩:=yk he;cases p1;cases p2;simp only [bj,Option.some.injEq]at h2;subst h2;simp only [gh]at h1;split at h1
      · simp only [Option.some.injEq]at h1;subst h1;right;simp only [At.den,BE.den,Bool.and_true,Instr.sameNow]
      · cases h1
    case string =>
      subst h;obtain⟨a,rfl,rfl⟩:=hx;obtain⟨b,rfl,rfl⟩:=hy;obtain⟨a0,x,b1,y,e1,e2,p1,p2,h1,h2,rfl⟩:=yk he;cases p1;cases p2;simp only [bj,Option.some.injEq]at h2;subst h2;simp only [gh]at h1;split at h1
      · rename_i p q hp hq;simp only [Option.some.injEq]at h1;subst h1;rw [xG hp,xG hq];right;simp only [BE.den,Bool.and_true,Instr.sameNow];congr 1;rw [Bool.eq_iff_iff,Go.MapKept.bytes_beq,DD];simp
      · cases h1
    case struct fs=>exact .inl rfl
    case array m el=>exact .inl rfl
theorem IB(ρ:Env)(β:Nat->Nat):∀ {ks:List CK} {xs ys:List At} {e:BE},bj ks xs ys=some e->e.den ρ=true ->
    xs.map (At.den ρ β)=ys.map (At.den ρ β)/\∀v∈xs.map (At.den ρ β),∀n,Instr.sameBits (n+1) v v=true
  | [],xs,ys,e,h,he=>by
    have:=CG ρ h
    have h1:xs=[]:=List.eq_nil_of_length_eq_zero this.1;have h2:ys=[]:=List.eq_nil_of_length_eq_zero this.2;subst h1 h2;exact⟨rfl,λv hv=>by cases hv⟩
  |k::r,xs,ys,e,h,he=>by
    obtain⟨a,x,b,y,e1,e2,rfl,rfl,h1,h2,rfl⟩:=yk h;simp only [BE.den,Bool.and_eq_true]at he;obtain⟨q1,q2⟩:=IB ρ β h2 he.2
    have one:a.den ρ β=b.den ρ β/\∀n,Instr.sameBits (n+1) (a.den ρ β) (a.den ρ β)=true:=by
      have Bg:=he.1;cases k with
      |int k =>
        simp only [gh]at h1;split at h1
        · split at h1
          · rename_i hk;simp only [Option.some.injEq]at h1;subst h1;obtain⟨rfl,rfl⟩:=hk;simp only [BE.den,iN,decide_eq_true_eq,beq_iff_eq]at Bg;simp only [At.den];exact⟨by rw [Bg],λn=>by simp [Instr.sameBits]⟩
          · cases h1
        · cases h1
      |bool =>
        simp only [gh]at h1;split at h1
        · simp only [Option.some.injEq]at h1;subst h1;simp only [BE.den,beq_iff_eq]at Bg;simp only [At.den];exact⟨by rw [Bg],λn=>by simp [Instr.sameBits]⟩
        · cases h1
      |str =>
        simp only [gh]at h1;split at h1
        · rename_i p q hp hq;simp only [Option.some.injEq]at h1;subst h1;simp only [BE.den,decide_eq_true_eq,beq_iff_eq]at Bg;rw [xG hp,xG hq];exact⟨by rw [Bg],λn=>by simp only [Instr.sameBits];exact (Go.MapKept.bytes_beq _ _).2 rfl⟩
        · cases h1
      |uY=>simp [gh]at h1
      |sl sz=>simp [gh]at h1
      |own sz t=>simp [gh]at h1
    refine⟨by simp only [List.map_cons,one.1,q1],λv hv n => ?_⟩;simp only [List.map_cons,List.mem_cons]at hv;rcases hv with rfl|hv
    · exact one.2 n
    · exact q2 v hv n
theorem OY{v:Value}(h:v.oneCell'=true):v.cells=#[v]:=by
 cases v<;>first|rfl|cases h
theorem DK{t:TypeId}{g:Bool}{n:Nat}(hz:aP P t=some (g,n)){v:Value}(h:eo (dD g n) v){xs:List At}{ρ:Env}{β:Nat->Nat}(hx:v.cells.toList=xs.map (At.den ρ β)) :
    lf P t ρ β v xs/\v=(eY g xs).den ρ β/\xs.length=n:=by
  obtain⟨d,i,h1,h2,rfl,hg⟩:=u9 hz;cases g with
  |true =>
    simp only [eo,dD,if_true]at h;rw [if_pos (by omega)]at h;obtain⟨cs,rfl,hs⟩:=h;have hc:cs=(xs.map (At.den ρ β)).toArray:=by apply Array.ext';simpa [Value.cells]using hx
    have hl:xs.length=i.size:=by
      have:cs.size=xs.length:=by rw [hc];simp
      omega
    refine⟨?_, ?_,hl⟩
    · unfold lf;rw [h1];cases d<;>simp only [reduceCtorEq,Bool.true_eq_false]at hg<;>rw [hc]
    · rw [hc];cases xs with
      |nil=>rfl
      |cons a r=>rfl
  |false =>
    simp only [eo,dD,Bool.false_eq_true,if_false,Nat.add_zero]at h;rw [if_neg (by omega)]at h;obtain⟨h3,h4⟩:=h;rw [OY h3]at hx
    match xs,hx with
    | [a],hx =>
      simp only [List.map_cons,List.map_nil,List.cons.injEq,and_true]at hx;refine⟨?_,hx,by simp only [List.length_cons,List.length_nil];omega⟩;unfold lf;rw [h1];cases d<;>simp only [reduceCtorEq,Bool.false_eq_true]at hg<;>exact⟨a,rfl,hx⟩
theorem CR{g:Bool}{n:Nat}{v:CV}(h:nF g n v=true)(ρ:Env)(β:Nat->Nat):eo (dD g n) (v.den ρ β)/\v.cells.length=n:=by
  cases v with
  |one a =>
    simp only [nF,Bool.and_eq_true,Bool.not_eq_true',decide_eq_true_eq]at h;obtain⟨rfl,rfl⟩:=h;exact⟨by simp only [eo,dD,Bool.false_eq_true,if_false];rw [if_neg (by omega)];exact⟨At.iz ρ β a,trivial⟩,rfl⟩
  |agg l =>
    simp only [nF,Bool.and_eq_true,decide_eq_true_eq]at h;obtain⟨rfl,rfl⟩:=h;refine⟨?_,rfl⟩;simp only [eo,dD,if_true];rw [if_pos (by omega)];exact⟨_,rfl,by simp;omega⟩
theorem vV{t:TypeId}{x:g_}(h:gi P t=some x):P.underlying t=some (.map x.key x.el)/\kU P 30 x.key=some x.ks/\aP P x.key=some (x.gk,x.ks.length)/\aP P x.el=some (x.ge,x.ne) /\
  0<x.ks.length/\0<x.no/\x.no / 1048576=dD x.gk x.ks.length/\x.no % 1048576=dD x.ge x.ne:=by
 unfold gi at h;split at h
 ·rename_i key el hu;split at h
  ·rename_i ks gk nk ge ne h1 h2 h3;split at h
   ·rename_i hc;simp only [Option.some.injEq]at h;subst h;obtain⟨rfl,c1,c2,c3⟩:=hc;have b1:dD ge ne<1048576:=by unfold dD;split<;>omega
    have b2:0<dD gk ks.length:=by unfold dD;omega
    refine⟨hu,h1,h2,h3,c1, ?_, ?_, ?_⟩<;>simp only [g_.no]<;>omega
   ·cases h
  ·cases h
 ·cases h
def n8(P:Program)(key:TypeId)(w:World)(kv:Value)(es:List MapEntry)(i:Nat)(r:Option (Nat × Value)):Prop :=
 (Instr.findAsking key kv es i).run P w=.ok r w/\∀kd,P.underlying key=some kd->Instr.findNow kd kv es i=none∨Instr.findNow kd kv es i=some r
theorem n8.run{key:TypeId}{w:World}{kv:Value}{es:List MapEntry}{r:Option (Nat × Value)}(h:n8 P key w kv es 0 r){kd:TypeDesc}(hk:P.underlying key=some kd):(Instr.findKey key kv es).run P w=.ok r w:=by
 unfold Instr.findKey;simp only [Sem.run_bind,run_underlying hk,Result.andThen_ok];rcases h.2 kd hk with h1|h1<;>rw [h1]
 ·exact h.1
 ·rfl
def aJ(e:MapEntry):List Value:=e.key.cells.toList++e.val.cells.toList
theorem DL{t:TypeId}{ρ:Env}{β:Nat->Nat}{x y:Value}{xs ys:List At}(hx:lf P t ρ β x xs)(hy:lf P t ρ β y ys)(h:xs.map (At.den ρ β)=ys.map (At.den ρ β)):x=y:=by
 have one:(∃a,xs=[a]/\x=a.den ρ β)->(∃a,ys=[a]/\y=a.den ρ β)->x=y:=by
  rintro ⟨a,rfl,rfl⟩ ⟨b,rfl,rfl⟩;simpa using h
 unfold lf at hx hy;generalize P.underlying t=u at hx hy;cases u with
 |none=>exact one hx hy
 |some d=>cases d<;>first|exact one hx hy | (simp only at hx hy;rw [hx,hy,h])
theorem OZ{t:TypeId}{ρ:Env}{β:Nat->Nat}{x:Value}{xs:List At}(hx:lf P t ρ β x xs)(h:∀v∈xs.map (At.den ρ β),∀n,Instr.sameBits (n+1) v v=true):Instr.sameBits 10000 x x=true:=by
  have agg:Instr.sameBits 10000 (.agg (xs.map (At.den ρ β)).toArray) (.agg (xs.map (At.den ρ β)).toArray)=true:=by
    show Instr.sameBits (9999+1) _ _=true;rw [Instr.sameBits];simp only [beq_self_eq_true,Bool.true_and,List.all_eq_true];intro p hp
    have:p.1=p.2/\p.1∈xs.map (At.den ρ β):=by
      generalize xs.map (At.den ρ β)=l at hp;clear h hx;simp only [List.zip_eq_zipWith]at hp
      induction l with
      |nil=>simp at hp
      |cons a r ih =>
        simp only [List.zipWith_cons_cons,List.mem_cons]at hp;rcases hp with rfl|hp
        · exact⟨rfl,by simp⟩
        · obtain⟨h1,h2⟩:=ih hp;exact⟨h1,List.mem_cons_of_mem _ h2⟩
    rw [<-this.1];exact h p.1 this.2 9998
  unfold lf at hx;split at hx
  · rw [hx];exact agg
  · rw [hx];exact agg
  · obtain⟨a,rfl,rfl⟩:=hx;exact h _ (by simp) 9999
theorem vW{g:Bool}{n:Nat}{v:Value}(h:eo (dD g n) v):v.cells.size=n:=by
  cases g with
  |true =>
    simp only [eo,dD,if_true]at h;rw [if_pos (by omega)]at h;obtain⟨cs,rfl,hs⟩:=h;simp only [Value.cells];omega
  |false =>
    simp only [eo,dD,Bool.false_eq_true,if_false,Nat.add_zero]at h;rw [if_neg (by omega)]at h;rw [OY h.1];simp only [List.size_toArray,List.length_cons,List.length_nil];omega
theorem O0{g1 g2:Bool}{nk ne:Nat}{e:MapEntry}(h1:eo (dD g1 nk) e.key)(h2:eo (dD g2 ne) e.val){r:List MapEntry}{cs:List At}{ρ:Env}{β:Nat->Nat}(h:(e::r).flatMap aJ=cs.map (At.den ρ β)) :
  e.key.cells.toList=(cs.take nk).map (At.den ρ β)/\e.val.cells.toList=((cs.drop nk).take ne).map (At.den ρ β)/\r.flatMap aJ=(cs.drop (nk+ne)).map (At.den ρ β)/\nk+ne<=cs.length:=by
 have s1:e.key.cells.toList.length=nk:=by simpa using vW h1
 have s2:e.val.cells.toList.length=ne:=by simpa using vW h2
 simp only [List.flatMap_cons,aJ,List.append_assoc]at h;have hlen:=congrArg List.length h;simp only [List.length_append,List.length_map,s1,s2]at hlen;refine⟨?_, ?_, ?_,by omega⟩
 ·rw [List.map_take,<-h,<-s1,List.take_left]
 ·rw [List.map_take,List.map_drop,<-h]
  conv=>rhs;rw [<-s1,List.drop_left,<-s2,List.take_left]
 ·rw [List.map_drop,<-h,<-List.drop_drop]
  conv=>rhs;rw [<-s1,List.drop_left,<-s2,List.drop_left]
theorem IC{x:g_}{t:TypeId}(hx:gi P t=some x){c:aw}{kc:List At}{found:Nat->List At->Env->Prop}{Dq:Unit->Env->Prop}{ρ:Env}:∀ (fuel:Nat) (cs:List At) (i:Nat),
    lu (PA P W Q QM QP) c x kc found Dq fuel cs i ρ ->
    ∃r:Option (Nat × List At),(match r with|some (j,v)=>found (i+j) v ρ|none=>Dq () ρ) /\
      ∀(U:Env),Env.aE c ρ U->∀(β:Nat->Nat) (w:World) (kv:Value) (es:List MapEntry),lf P x.key U β kv kc->es.flatMap aJ=cs.map (At.den U β) ->
        (∀e∈es,eo (dD x.gk x.ks.length) e.key/\eo (dD x.ge x.ne) e.val) ->
        n8 P x.key w kv es i (r.map λy=>(i+y.1,(eY x.ge y.2).den U β)) /\
        ∀j v,r=some (j,v)->∃e,es[j]? = some e/\e.key=kv/\Instr.sameBits 10000 kv kv=true
  |0,cs,i,h=>h.elim
  |n+1,cs,i,h=>by
    obtain⟨m1,m2,m3,m4,m5,m6,m7,m8⟩:=vV hx;obtain⟨kd,sA⟩:∃d,P.underlying x.key=some d:=by obtain⟨d,_,h1,_⟩:=u9 m3;exact⟨d,h1⟩
    simp only [lu]at h;split at h
    · rename_i uu;subst uu;refine⟨none,h,λU hl β w kv es hv j5 iv=>⟨?_,λj v hr=>by cases hr⟩⟩
      have:es=[]:=by
        cases es with
        |nil=>rfl
        |cons e r =>
          obtain⟨s1,s2⟩:=iv e (by simp);obtain⟨_,_,_,h4⟩:=O0 s1 s2 j5;simp only [List.length_nil]at h4;omega
      subst this;exact⟨rfl,λkd _=>.inr rfl⟩
    · rename_i uu;generalize he:bj x.ks kc (cs.take x.ks.length)=u at h;split at h;rotate_left
      · exact h.elim
      rename_i e;split at h;rotate_left
      · exact h.elim
      rename_i hc;obtain⟨vX,hlen⟩:=hc
      have cons:∀ (U:Env),Env.aE c ρ U->∀ (β:Nat->Nat) (w:World) (kv:Value) (es:List MapEntry),lf P x.key U β kv kc->es.flatMap aJ=cs.map (At.den U β) ->
          (∀e∈es,eo (dD x.gk x.ks.length) e.key/\eo (dD x.ge x.ne) e.val)->∃e0 r,es=e0::r/\lf P x.key U β e0.key (cs.take x.ks.length)/\e0.val=(eY x.ge ((cs.drop x.ks.length).take x.ne)).den U β /\
            r.flatMap aJ=(cs.drop (x.ks.length+x.ne)).map (At.den U β)/\(Op.equal x.key kv e0.key).run P w=.ok (e.den ρ) w/\(Instr.sameNow kd kv e0.key=none∨Instr.sameNow kd kv e0.key=some (e.den ρ)):=by
        intro U hl β w kv es hv j5 iv;cases es with
        |nil =>
          simp only [List.flatMap_nil]at j5;exact (uu (List.map_eq_nil_iff.1 j5.symm)).elim
        |cons e0 r =>
          obtain⟨s1,s2⟩:=iv e0 (by simp);obtain⟨a1,a2,a3,a4⟩:=O0 s1 s2 j5;obtain⟨b1,b2,b3⟩:=DK m3 s1 a1;obtain⟨c1,c2,c3⟩:=DK m4 s2 a2;refine⟨e0,r,rfl,b1,c2,a3, ?_, ?_⟩
          · rw [<-BE.ae hl vX];exact DE 9970 30 x.key x.ks m2 U β kc _ e kv e0.key w he hv b1
          · rw [<-BE.ae hl vX];exact OX sA m2 he hv b1
      rcases zw h with ⟨h1,h⟩|⟨h1,h⟩
      · refine⟨some (0,(cs.drop x.ks.length).take x.ne),h,λU hl β w kv es hv j5 iv => ?_⟩;obtain⟨e0,r,rfl,q1,q2,q3,q4,q5⟩:=cons U hl β w kv es hv j5 iv;rw [h1]at q4 q5;have mW:e.den U=true:=by rw [BE.ae hl vX];exact h1
        obtain⟨g1,g2⟩:=IB U β he mW;refine⟨⟨?_,λID n9 => ?_⟩,λj v hr => ?_⟩
        · simp only [Instr.findAsking,Sem.run_bind,q4,Result.andThen_ok,if_true,Sem.run_pure,Option.map_some,Nat.add_zero,q2]
        · rw [sA]at n9;cases n9;simp only [Instr.findNow];rcases q5 with q5|q5<;>rw [q5]
          · exact .inl rfl
          · right;simp only [Option.map_some,Nat.add_zero,q2]
        · simp only [Option.some.injEq,Prod.mk.injEq]at hr;obtain⟨rfl,rfl⟩:=hr;exact⟨e0,rfl,DL q1 hv g1.symm,OZ hv g2⟩
      · obtain⟨r,h2,h3⟩:=IC hx n _ (i+1) h;refine⟨r.map λy=>(y.1+1,y.2), ?_,λU hl β w kv es hv j5 iv => ?_⟩
        · cases r with
          |none=>exact h2
          |some y=>simpa [Nat.add_assoc,Nat.add_comm 1]using h2
        · obtain⟨e0,r',rfl,q1,q2,q3,q4,q5⟩:=cons U hl β w kv es hv j5 iv;rw [h1]at q4 q5;obtain⟨⟨f1,f2⟩,f3⟩:=h3 U hl β w kv r' hv q3 λe he=>iv e (by simp [he])
          have er:(Option.map (λy:Nat × List At=>(i+y.1,(eY x.ge y.2).den U β)) (r.map λy=>(y.1+1,y.2)))=r.map λy=>(i+1+y.1,(eY x.ge y.2).den U β):=by
            cases r with
            |none=>rfl
            |some y=>simp only [Option.map_some,Option.some.injEq,Prod.mk.injEq,and_true];omega
          rw [er];refine⟨⟨?_,λID n9 => ?_⟩,λj v hr => ?_⟩
          · simp only [Instr.findAsking,Sem.run_bind,q4,Result.andThen_ok,Bool.false_eq_true,if_false];exact f1
          · rw [sA]at n9;cases n9;simp only [Instr.findNow];rcases q5 with q5|q5<;>rw [q5]
            · exact .inl rfl
            · exact f2 _ sA
          · cases r with
            |none=>cases hr
            |some y =>
              simp only [Option.map_some,Option.some.injEq,Prod.mk.injEq]at hr;obtain⟨rfl,rfl⟩:=hr;obtain⟨e1,k1,k2,k3⟩:=f3 y.1 y.2 rfl;exact⟨e1,by simpa using k1,k2,k3⟩
theorem yq{t:TypeId}{x:g_}(hx:gi P t=some x){ob:Option Obj}{n:Nat}{xs:List Value} :
  zT ob n xs x.no↔∃es clock,ob=some (.map es clock)/\es.toList.flatMap aJ=xs/\∀e∈es.toList,eo (dD x.gk x.ks.length) e.key/\eo (dD x.ge x.ne) e.val:=by
 obtain⟨m1,m2,m3,m4,m5,m6,m7,m8⟩:=vV hx;obtain⟨t',ht⟩:∃t',x.no=t'+1:=⟨x.no-1,by omega⟩;rw [<-m7,<-m8,ht];exact Iff.rfl
theorem DM{g1 g2:Bool}{nk ne:Nat}:∀(es:List MapEntry),(∀e∈es,eo (dD g1 nk) e.key/\eo (dD g2 ne) e.val)->(es.flatMap aJ).length=es.length*(nk+ne)
  | [],_=>by simp
  |e::r,h=>by
    obtain⟨s1,s2⟩:=h e (by simp);have l1:e.key.cells.toList.length=nk:=by simpa using vW s1
    have l2:e.val.cells.toList.length=ne:=by simpa using vW s2
    have ih:=DM r λe he=>h e (by simp [he]);simp only [List.flatMap_cons,List.length_append,ih,aJ,l1,l2,List.length_cons,Nat.succ_mul];omega
theorem DN{t:TypeId}{x:g_}(hx:gi P t=some x){v:CV}(hv:nF x.gk x.ks.length v=true)(ρ:Env)(β:Nat->Nat):lf P x.key ρ β (v.den ρ β) v.cells/\v.cells.length=x.ks.length:=by
 obtain⟨m1,m2,m3,m4,m5,m6,m7,m8⟩:=vV hx;obtain⟨h1,h2⟩:=CR hv ρ β;exact⟨(DK m3 h1 (xs:=v.cells) (by rw [CV.bB])).1,h2⟩
theorem O1{t:TypeId}{x:g_}(hx:gi P t=some x){w:World}{b:Nat}{es:Array MapEntry}{clock:Nat}(hb:w.heap[b]? = some (.map es clock)){kv:Value}{ρ:Env}{β:Nat->Nat}{kc:List At}
  (hv:lf P x.key ρ β kv kc) (Bh:kc.length=x.ks.length) {r:Option (Nat × Value)} (hf:n8 P x.key w kv es.toList 0 r) {zv:Value} (hz:(zeroValue x.el).run P w=.ok zv w) (ok:Bool) :
  (Instr.lookup t (.map (some b)) kv ok).run P w=.ok (if ok=true then .tuple #[(r.map (·.2)).getD zv,.bool r.isSome]else (r.map (·.2)).getD zv) w:=by
 obtain⟨m1,m2,m3,m4,m5,m6,m7,m8⟩:=vV hx;obtain⟨kd,sA⟩:∃d,P.underlying x.key=some d:=by obtain⟨d,_,h1,_⟩:=u9 m3;exact⟨d,h1⟩
 have Bi:(Instr.checkKey es.isEmpty 10000 x.key kv).run P w=.ok () w:=DJ es.isEmpty 9970 30 x.key x.ks m2 ρ β kc kv w Bh hv;have DO:=hf.run sA;unfold Instr.lookup;simp only [Sem.run_bind,run_underlying m1,Result.andThen_ok,Go.MapKept.run_getObj_map hb,Sem.run_pure];simp only [Bi,Result.andThen_ok,DO];cases r with
 |none=>cases ok<;>simp [hz]
 |some y=>cases ok<;>simp
theorem S3{t:TypeId}{x:g_}(hx:gi P t=some x){w:World}{kv:Value}{ρ:Env}{β:Nat->Nat}{kc:List At}
  (hv:lf P x.key ρ β kv kc) (Bh:kc.length=x.ks.length) {zv:Value} (hz:(zeroValue x.el).run P w=.ok zv w) (ok:Bool) :
  (Instr.lookup t (.map none) kv ok).run P w=.ok (if ok=true then .tuple #[zv,.bool false]else zv) w:=by
 obtain⟨m1,m2,m3,m4,m5,m6,m7,m8⟩:=vV hx;obtain⟨kd,sA⟩:∃d,P.underlying x.key=some d:=by obtain⟨d,_,h1,_⟩:=u9 m3;exact⟨d,h1⟩
 have Bi:(Instr.checkKey (#[]:Array MapEntry).isEmpty 10000 x.key kv).run P w=.ok () w:=DJ _ 9970 30 x.key x.ks m2 ρ β kc kv w Bh hv;have hf:n8 P x.key w kv [] 0 none:=⟨rfl,λkd hk=>.inr rfl⟩;have DO:=hf.run sA;unfold Instr.lookup;simp only [Sem.run_bind,run_underlying m1,Result.andThen_ok,Sem.run_pure];simp only [Bi,Result.andThen_ok,DO];cases ok<;>simp [hz]
theorem O2{t:TypeId}{x:g_}(hx:gi P t=some x){w:World}{b:Nat}{es:Array MapEntry}{clock:Nat}(hb:w.heap[b]? = some (.map es clock)){kv vv:Value}{ρ:Env}{β:Nat->Nat}{kc:List At}
    (hv:lf P x.key ρ β kv kc) (Bh:kc.length=x.ks.length) {r:Option (Nat × Value)} (hf:n8 P x.key w kv es.toList 0 r) (hr:∀i v,r=some (i,v)->∃e,es.toList[i]? = some e/\e.key=kv/\Instr.sameBits 10000 kv kv=true) :
    (Instr.mapUpdate t (.map (some b)) kv vv).run P w=.ok () {w with heap:=w.heap.setIfInBounds b (match r with
      |some (i,_)=>.map (es.modify i λe => {e with key:=kv,val:=vv}) clock
      |none=>.map (es.push {key:=kv,val:=vv,born:=clock}) (clock+1))}:=by
  obtain⟨m1,m2,m3,m4,m5,m6,m7,m8⟩:=vV hx;obtain⟨kd,sA⟩:∃d,P.underlying x.key=some d:=by obtain⟨d,_,h1,_⟩:=u9 m3;exact⟨d,h1⟩
  have Bi:(Instr.checkKey false 10000 x.key kv).run P w=.ok () w:=DJ false 9970 30 x.key x.ks m2 ρ β kc kv w Bh hv;have DO:=hf.run sA;unfold Instr.mapUpdate;simp only [Sem.run_bind,run_underlying m1,Result.andThen_ok,Go.MapKept.run_getObj_map hb];simp only [Bi,Result.andThen_ok,DO];cases r with
  |none=>simp only [Go.MapKept.run_setObj_map _ hb]
  |some y =>
    obtain⟨i,v⟩:=y;obtain⟨e,h1,h2,h3⟩:=hr i v rfl;have h4:es[i]? = some e:=by simpa using h1
    simp only [h4,Option.map_some,Option.getD_some,h2,Instr.keyThatStays,h3,if_true,Sem.run_bind,Sem.run_pure,Result.andThen_ok,Go.MapKept.run_setObj_map _ hb]
theorem IF{g1 g2:Bool}{nk ne:Nat}{kv vv:Value}:∀ (es:List MapEntry) (i:Nat) {e:MapEntry},es[i]? = some e->e.key=kv->(∀ e∈es,eo (dD g1 nk) e.key/\eo (dD g2 ne) e.val) ->
    (es.modify i λe => {e with key:=kv,val:=vv}).flatMap aJ=(es.flatMap aJ).take (i*(nk+ne)+nk)++vv.cells.toList++(es.flatMap aJ).drop (i*(nk+ne)+nk+ne)
  | [],i,e,h,_,_=>by simp at h
  |e0::r,0,e,h,hk,hs=>by
    simp only [List.getElem?_cons_zero,Option.some.injEq]at h;subst h;obtain⟨s1,s2⟩:=hs e0 (by simp);have l1:e0.key.cells.toList.length=nk:=by simpa using vW s1
    have l2:e0.val.cells.toList.length=ne:=by simpa using vW s2
    simp only [List.modify_zero_cons,List.flatMap_cons,Nat.zero_mul,Nat.zero_add];subst hk
    have t1:(aJ e0++r.flatMap aJ).take nk=e0.key.cells.toList:=by
      unfold aJ;rw [List.append_assoc,<-l1,List.take_left]
    have t2:(aJ e0++r.flatMap aJ).drop (nk+ne)=r.flatMap aJ:=by
      have:(aJ e0).length=nk+ne:=by unfold aJ;rw [List.length_append,l1,l2]
      rw [<-this,List.drop_left]
    rw [t1,t2];simp [aJ]
  |e0::r,i+1,e,h,hk,hs=>by
    obtain⟨s1,s2⟩:=hs e0 (by simp);have l1:e0.key.cells.toList.length=nk:=by simpa using vW s1
    have l2:e0.val.cells.toList.length=ne:=by simpa using vW s2
    have l3:(aJ e0).length=nk+ne:=by unfold aJ;rw [List.length_append,l1,l2]
    have ih:=IF (vv:=vv) r i (e:=e) (by simpa using h) hk λe he=>hs e (by simp [he]);simp only [List.modify_succ_cons,List.flatMap_cons]
    rw [ih,show (i+1)*(nk+ne)+nk=(aJ e0).length+(i*(nk+ne)+nk) by rw [l3,Nat.succ_mul];omega,
      Nat.add_assoc (aJ e0).length,List.take_length_add_append,List.drop_length_add_append]
    simp only [List.append_assoc]
def n_:Value->At
 | .int k n=>.int k (.lit n)
 | .bool b=>.bool (.lit b)
 | .string s=>.str s.data.toList
 |_=>.qL
theorem S4{k:CK}{v:Value}(h:nG k v=true)(ρ:Env)(β:Nat->Nat):(n_ v).den ρ β=v:=by
 cases k<;>cases v<;>first|rfl | (simp [nG]at h;done)|skip
theorem S5{k:CK}{a:At}{v:Value}(ha:iB k a=true)(hv:nG k v=true)(ρ:Env)(β:Nat->Nat):∃e,gh k a (n_ v)=some e/\e.den ρ=tg (a.den ρ β) v:=by
  cases k with
  |int k =>
    cases v<;>simp only [nG,Bool.false_eq_true,decide_eq_true_eq]at hv;rename_i k' n;subst hv;cases a<;>simp only [iB,Bool.false_eq_true,decide_eq_true_eq]at ha;subst ha;rename_i e;exact⟨.cmp .eql e (.lit n),by simp only [gh,n_,and_self,if_true],by simp [BE.den,iN,IE.den,At.den,tg]⟩
  |bool =>
    cases v<;>simp only [nG,Bool.false_eq_true]at hv;cases a<;>simp only [iB,Bool.false_eq_true]at ha;exact⟨_,rfl,rfl⟩
  |str =>
    cases v<;>simp only [nG,Bool.false_eq_true]at hv;rename_i s;simp only [iB,Option.isSome_iff_exists]at ha;obtain⟨p,hp⟩:=ha;refine⟨.seq p (.lit s.data.toList),by simp only [gh,n_,hp];rfl, ?_⟩;rw [xG hp];cases p<;>simp only [BE.den,SE.den,tg]<;>congr
  |uY=>cases a<;>simp [iB]at ha
  |sl z=>cases a<;>simp [iB]at ha
  |own z t=>cases a<;>simp [iB]at ha
theorem O3(ρ:Env)(β:Nat->Nat):∀{ks:List CK} {kc:List At} {vs:List Value},gj ks kc=true->hJ ks vs=true->∃e,bj ks kc (vs.map n_)=some e/\e.den ρ=mG (kc.map (At.den ρ β)) vs
  | [],[],[],_,_=>⟨_,rfl,rfl⟩
  | [],_::_,_,h,_=>by simp [gj]at h
  | [],_,_::_,_,h=>by simp [hJ]at h
  |_::_,[],_,h,_=>by simp [gj]at h
  |_::_,_::_,[],_,h=>by simp [hJ]at h
  |k::r,a::l,v::vs,h1,h2=>by
    simp only [gj,Bool.and_eq_true]at h1;simp only [hJ,Bool.and_eq_true]at h2;obtain⟨e1,p1,p2⟩:=S5 h1.1 h2.1 ρ β;obtain⟨e2,q1,q2⟩:=O3 ρ β h1.2 h2.2;exact⟨.and e1 e2,by simp only [List.map_cons,bj,p1,q1],by simp only [BE.den,p2,q2,List.map_cons,mG]⟩
theorem O4(ρ:Env)(β:Nat->Nat):∀{ks:List CK} {vs:List Value},hJ ks vs=true->(vs.map n_).map (At.den ρ β)=vs
  | [],[],_=>rfl
  | [],_::_,h=>by simp [hJ]at h
  |_::_,[],h=>by simp [hJ]at h
  |k::r,v::vs,h=>by
    simp only [hJ,Bool.and_eq_true]at h;simp only [List.map_cons,S4 h.1,O4 ρ β h.2]
theorem IG{g1 g2:Bool}{nk ne:Nat}{e:MapEntry}(h1:eo (dD g1 nk) e.key)(h2:eo (dD g2 ne) e.val)(r:List MapEntry) :
  ((e::r).flatMap aJ).take nk=e.key.cells.toList/\((e::r).flatMap aJ).drop (nk+ne)=r.flatMap aJ/\(((e::r).flatMap aJ).drop nk).take ne=e.val.cells.toList/\nk+ne<=((e::r).flatMap aJ).length:=by
 have s1:e.key.cells.toList.length=nk:=by simpa using vW h1
 have s2:e.val.cells.toList.length=ne:=by simpa using vW h2
 simp only [List.flatMap_cons,aJ,List.append_assoc];refine⟨?_, ?_, ?_, ?_⟩
 ·rw [<-s1,List.take_left]
 ·rw [<-List.drop_drop,<-s1,List.drop_left,<-s2,List.drop_left]
 ·rw [<-s1,List.drop_left,<-s2,List.take_left]
 ·simp only [List.length_append,s1,s2];omega
theorem DP{g1 g2:Bool}{nk ne:Nat}:∀ (es:List MapEntry) (i:Nat) {e:MapEntry},(∀ e∈es,eo (dD g1 nk) e.key/\eo (dD g2 ne) e.val)->es[i]? = some e->∀ {k:Nat},k < ne ->
    (es.flatMap aJ)[i*(nk+ne)+(nk+k)]? = e.val.cells.toList[k]?
  | [],i,e,_,h,_,_=>by simp at h
  |e0::r,0,e,hs,h,k,hk=>by
    simp only [List.getElem?_cons_zero,Option.some.injEq]at h;subst h;obtain⟨t1,t2,t3,t4⟩:=IG (hs e0 (by simp)).1 (hs e0 (by simp)).2 r;rw [Nat.zero_mul,Nat.zero_add,<-t3,List.getElem?_take_of_lt hk,List.getElem?_drop]
  |e0::r,i+1,e,hs,h,k,hk=>by
    obtain⟨t1,t2,t3,t4⟩:=IG (hs e0 (by simp)).1 (hs e0 (by simp)).2 r;have ih:=DP r i (λe he=>hs e (by simp [he])) (by simpa using h) hk;rw [<-ih,<-t2,List.getElem?_drop];congr 1;rw [Nat.succ_mul];omega
theorem II{x:g_}{t:TypeId}(hx:gi P t=some x){kc:List At}(dq:gj x.ks kc=true){ρ:Env}{β:Nat->Nat}{w:World}{kv:Value}(hv:lf P x.key ρ β kv kc) :
    ∀(es:List MapEntry) (f i:Nat),es.length<=f->(∀e∈es,eo (dD x.gk x.ks.length) e.key/\eo (dD x.ge x.ne) e.val)->lr x.ks (x.ks.length+x.ne) f (es.flatMap aJ)=true ->
      n8 P x.key w kv es i ((du x.ks.length (x.ks.length+x.ne) (kc.map (At.den ρ β)) f (es.flatMap aJ)).map λj=>(i+j,((es[j]?).map (·.val)).getD undef)) /\
      ∀j,du x.ks.length (x.ks.length+x.ne) (kc.map (At.den ρ β)) f (es.flatMap aJ)=some j->∃e,es[j]? = some e/\e.key=kv/\Instr.sameBits 10000 kv kv=true
  | [],f,i,_,_,_=>by
    have h0:du x.ks.length (x.ks.length+x.ne) (kc.map (At.den ρ β)) f (([]:List MapEntry).flatMap aJ)=none:=by cases f<;>rfl
    rw [h0];exact⟨⟨rfl,λkd _=>.inr rfl⟩,λj h=>by cases h⟩
  |e0::r,0,i,hf,_,_=>by simp at hf
  |e0::r,f+1,i,hf,iv,hk=>by
    obtain⟨m1,m2,m3,m4,m5,m6,m7,m8⟩:=vV hx;obtain⟨kd,sA⟩:∃d,P.underlying x.key=some d:=by obtain⟨d,_,h1,_⟩:=u9 m3;exact⟨d,h1⟩
    obtain⟨s1,s2⟩:=iv e0 (by simp);obtain⟨t1,t2,t3,t4⟩:=IG s1 s2 r
    have iS:∃a l,(e0::r).flatMap aJ=a::l:=by
      cases hc:(e0::r).flatMap aJ with
      |nil=>rw [hc]at t4;simp only [List.length_nil]at t4;omega
      |cons a l=>exact⟨a,l,rfl⟩
    have oI:hJ x.ks e0.key.cells.toList=true/\lr x.ks (x.ks.length+x.ne) f (r.flatMap aJ)=true:=by
      obtain⟨a,l,xI⟩:=iS;rw [xI,lr,<-xI,t1,t2,Bool.and_eq_true]at hk
      · exact hk
      · intro h;cases h
    have hm:du x.ks.length (x.ks.length+x.ne) (kc.map (At.den ρ β)) (f+1) ((e0::r).flatMap aJ)=if mG (kc.map (At.den ρ β)) e0.key.cells.toList=true then some 0 else (du x.ks.length (x.ks.length+x.ne) (kc.map (At.den ρ β)) f (r.flatMap aJ)).map (·+1):=by
      obtain⟨a,l,xI⟩:=iS;rw [xI,du,<-xI,t1,t2];intro h;cases h
    rw [hm];obtain⟨e,he,mW⟩:=O3 ρ β dq oI.1;obtain⟨b1,b2,b3⟩:=DK m3 s1 (xs:=e0.key.cells.toList.map n_) (ρ:=ρ) (β:=β) (O4 ρ β oI.1).symm
    have q4:(Op.equal x.key kv e0.key).run P w=.ok (mG (kc.map (At.den ρ β)) e0.key.cells.toList) w:=by
      rw [<-mW];exact DE 9970 30 x.key x.ks m2 ρ β kc _ e kv e0.key w he hv b1
    have q5:Instr.sameNow kd kv e0.key=none∨Instr.sameNow kd kv e0.key=some (mG (kc.map (At.den ρ β)) e0.key.cells.toList):=by
      rw [<-mW];exact OX sA m2 he hv b1
    cases hq:mG (kc.map (At.den ρ β)) e0.key.cells.toList with
    |true =>
      rw [hq]at q4 q5;rw [if_pos rfl];obtain⟨g1,g2⟩:=IB ρ β he (by rw [mW,hq]);refine⟨⟨?_,λID n9 => ?_⟩,λj hj => ?_⟩
      · simp only [Instr.findAsking,Sem.run_bind,q4,Result.andThen_ok,if_true,Sem.run_pure,Option.map_some,Nat.add_zero,List.getElem?_cons_zero,Option.getD_some]
      · rw [sA]at n9;cases n9;simp only [Instr.findNow];rcases q5 with q5|q5<;>rw [q5]
        · exact .inl rfl
        · right;simp only [Option.map_some,Nat.add_zero,List.getElem?_cons_zero,Option.getD_some]
      · simp only [Option.some.injEq]at hj;subst hj;exact⟨e0,rfl,DL b1 hv g1.symm,OZ hv g2⟩
    |false =>
      rw [hq]at q4 q5;rw [if_neg (by simp)];obtain⟨⟨f1,f2⟩,f3⟩:=II hx dq (w:=w) hv r f (i+1) (by simp at hf;omega) (λe he=>iv e (by simp [he])) oI.2
      have er:(Option.map (λj:Nat=>(i+j,(((e0::r)[j]?).map (·.val)).getD undef)) ((du x.ks.length (x.ks.length+x.ne) (kc.map (At.den ρ β)) f (r.flatMap aJ)).map (·+1)))=(du x.ks.length (x.ks.length+x.ne) (kc.map (At.den ρ β)) f (r.flatMap aJ)).map λj=>(i+1+j,((r[j]?).map (·.val)).getD undef):=by
        cases du x.ks.length (x.ks.length+x.ne) (kc.map (At.den ρ β)) f (r.flatMap aJ)with
        |none=>rfl
        |some y=>simp only [Option.map_some,List.getElem?_cons_succ,Option.some.injEq,Prod.mk.injEq,and_true];omega
      rw [er];refine⟨⟨?_,λID n9 => ?_⟩,λj hj => ?_⟩
      · simp only [Instr.findAsking,Sem.run_bind,q4,Result.andThen_ok,Bool.false_eq_true,if_false];exact f1
      · rw [sA]at n9;cases n9;simp only [Instr.findNow];rcases q5 with q5|q5<;>rw [q5]
        · exact .inl rfl
        · exact f2 _ sA
      · simp only [Option.map_eq_some_iff]at hj;obtain⟨j0,DQ,rfl⟩:=hj;obtain⟨e1,k1,k2,k3⟩:=f3 j0 DQ;exact⟨e1,by simpa using k1,k2,k3⟩
theorem O5{x:g_}{c:aw}{ce:CE}{kc:List At}{K:IE->aw->Env->Prop}{ρ:Env}(h:pE (PA P W Q QM QP) c x ce kc K ρ) :
  gj x.ks kc=true/\gZ ce=true/\kc.all At.flat=true/\cH c ce=true/\kc.all (At.wf c)=true/\∃a8,K (.var c.ni) {c with ni:=c.ni+1} a8/\Env.aE c ρ a8/\∀U,Env.aE {c with ni:=c.ni+1} a8 U->∀β,
   vz x.ks (x.ks.length+x.ne) (av U β ce)=true/\(IE.var c.ni).den U=nH x.ks.length (x.ks.length+x.ne) (kc.map (At.den U β)) (av U β ce):=by
 unfold pE at h;split at h;rotate_left
 ·exact h.elim
 rename_i hc;obtain⟨c1,c2,c3,c4,c5⟩:=hc;obtain⟨h1,h2⟩:=h;refine⟨c1,c2,c3,c4,c5,ρ.gX c.ni (nH x.ks.length (x.ks.length+x.ne) (kc.map (At.den ρ b0)) (av ρ b0 ce)),h2 _ rfl,zU c ρ _,λU hl β => ?_⟩;have ja:Env.aE c ρ U:=Env.aj (aw.tf c 1) (zU c ρ _) hl;rw [Be U β b0 c2,uX ja (λ_ _=>rfl) c4,CJ U β b0 c3,xZ ja (λ_ _=>rfl) c5];refine⟨h1, ?_⟩
 have:=hl.i c.ni (by show c.ni<c.ni+1;omega)
 simp only [IE.den,this,Env.gX,if_true]
theorem S6{m:Mem}{o:bq}(gR:lM m o){c:aw}{t:TypeId}{x k:SV}{ok:Bool}{K:SV->aw->Env->Prop}{ρ:Env}(h:nO (PA P W Q QM QP) P o c t x k ok K ρ) :
    dh c ρ K λsv U=>x ≠ .any/\k ≠ .any/\sv ≠ .any/\∀β w,gF W m o (aF (aV x)) U β w->(Instr.lookup t (x.den U β) (k.den U β) ok).run P w=.ok (sv.den U β) w:=by
  unfold nO at h;generalize hx:gi P t=u1 at h;split at h
  · rename_i y kv;generalize hz:de P y.el=u3 at h;split at h;rotate_left
    · exact h.elim
    rename_i z;split at h;rotate_left
    · exact h.elim
    rename_i c1;refine dh.pure h λU hl=>⟨by simp,by simp,by cases ok<;>simp,λβ w hr => ?_⟩;obtain⟨k1,k2⟩:=DN hx c1 U β;refine (S3 hx k1 k2 (ym hz U β w c).1 ok).trans ?_;cases ok<;>rfl
  rotate_left
  · exact h.elim
  rename_i y j kv;generalize jV:aM o j=u2 at h;generalize hz:de P y.el=u3 at h;split at h;rotate_left
  · exact h.elim
  rename_i ce sz tc z;generalize qZ:eR ce=u4 at h;split at h;rotate_left
  · clear qZ;generalize S7:vy P 30 y.el=u5 at h;split at h;rotate_left
    · exact h.elim
    rename_i ls;split at h;rotate_left
    · exact h.elim
    rename_i hc;obtain⟨c1,rfl,rfl,c4,c5⟩:=hc;obtain⟨g1,g2,g3,g4,g5,a8,h1,su,fK⟩:=O5 h;obtain⟨m1,m2,m3,m4,m5,m6,m7,m8⟩:=vV hx;have fQ:c.le {c with ni:=c.ni+1}:=aw.tf c 1;have Gy:cH {c with ni:=c.ni+1} ce=true:=A0 fQ g4
    have run:∀ U,Env.aE {c with ni:=c.ni + 1} a8 U->∀ β w,gF W m o (aF (aV (.cv (.one (.omap j))))) U β w ->
        ∃es:List MapEntry,es.flatMap aJ=av U β ce/\(∀e∈es,eo (dD y.gk y.ks.length) e.key/\eo (dD y.ge y.ne) e.val) /\
        (∀i,du y.ks.length (y.ks.length+y.ne) (kv.cells.map (At.den U β)) (av U β ce).length (av U β ce)=some i->∃e,es[i]? = some e) /\
        (Instr.lookup t ((SV.cv (.one (.omap j))).den U β) ((SV.cv kv).den U β) ok).run P w =
          .ok (if ok=true then .tuple #[(((du y.ks.length (y.ks.length+y.ne) (kv.cells.map (At.den U β)) (av U β ce).length (av U β ce)).map λi=>((es[i]?).map (·.val)).getD undef)).getD (z.den U β),.bool (du y.ks.length (y.ks.length+y.ne) (kv.cells.map (At.den U β)) (av U β ce).length (av U β ce)).isSome]
            else (((du y.ks.length (y.ks.length+y.ne) (kv.cells.map (At.den U β)) (av U β ce).length (av U β ce)).map λi=>((es[i]?).map (·.val)).getD undef)).getD (z.den U β)) w:=by
      intro U hl β w hr;have br:=hr j (by simp [aV,CV.cells,aF]) _ (lK (gR j _ jV) jV);rcases br with br|⟨_,_,_,ho⟩
      · exact absurd br.2.1 (by omega)
      obtain⟨es,clock,hb,j5,iv⟩:=(yq hx).1 ho;obtain⟨k1,k2⟩:=DN hx c1 U β
      have hlen:es.toList.length<=(av U β ce).length:=by
        rw [<-j5,DM es.toList iv];exact Nat.le_mul_of_pos_right _ (by omega)
      have kO:=(fK U hl β).1;obtain⟨f1,f2⟩:=II hx g1 (w:=w) k1 es.toList _ 0 hlen iv (by rw [j5];exact kO);rw [j5]at f1 f2;refine⟨es.toList,j5,iv,λi hi=>by obtain⟨e,he,_⟩:=f2 i hi;exact⟨e,he⟩, ?_⟩
      have:=O1 hx hb k1 k2 f1 (ym hz U β w c).1 ok
      refine this.trans ?_;simp only [Option.map_map,Option.isSome_map,Function.comp_def]
    rcases zw h1 with ⟨e1,h1⟩|⟨e1,h1⟩
    · obtain⟨l,c2,aB,q1,q2,q3,q4,q5⟩:=Iz (ix:=IE.var c.ni) ls y.ks.length _ c5 g2 Gy (by show decide (c.ni<c.ni+1)=true;simp) h1;have Xg:=q4.trans c4;refine⟨_,c2,aB,q1,aw.le_trans fQ q2,Env.aj fQ su q3,λU hl=>⟨by simp,by simp,by cases ok<;>simp,λβ w hr => ?_⟩⟩;have sB:Env.aE {c with ni:=c.ni+1} a8 U:=Env.aj q2 q3 hl;obtain⟨es,j5,iv,mf,je⟩:=run U sB β w hr;rw [je];have iT:=(fK U sB β).2
      have oV:0<=(IE.var c.ni).den U:=by
        have e0:(IE.var c.ni).den U=(IE.var c.ni).den a8:=IE.ae sB (by show decide (c.ni<c.ni+1)=true;simp);rw [e0];simpa [BE.den,iN,IE.den]using e1
      unfold nH at iT;cases vY:du y.ks.length (y.ks.length+y.ne) (kv.cells.map (At.den U β)) (av U β ce).length (av U β ce)with
      |none=>rw [vY]at iT;simp only at iT;omega
      |some i =>
        rw [vY]at iT;simp only at iT;obtain⟨e,he⟩:=mf i vY;have h_:=iv e (List.mem_of_getElem? he)
        have mh:e.val.cells.toList=l.map (At.den U β):=by
          have Xh:e.val.cells.toList.length=y.ne:=by simpa using vW h_.2
          apply List.ext_getElem?;intro k;by_cases hk:k<y.ne
          · have ha:l[k]? = some (l[k]'(by omega)):=List.getElem?_eq_getElem (by omega);have h5:=q5 U hl β k _ ha;rw [iT]at h5;rw [List.getElem?_map,ha,Option.map_some,<-h5,<-j5,show ((i:Int)).toNat=i from rfl];exact (DP es i iv he hk).symm
          · rw [List.getElem?_eq_none (by omega),List.getElem?_eq_none (by simp;omega)]
        have Bj:e.val=(eY y.ge l).den U β:=(DK m4 h_.2 mh).2.1;have eP:(es[i]?).map (·.val)=some ((eY y.ge l).den U β):=by rw [he,Option.map_some,Bj]
        simp only [Option.map_some,eP,Option.getD_some,Option.isSome_some];cases ok<;>rfl
    · refine⟨_,_,a8,h1,fQ,su,λU hl=>⟨by simp,by simp,by cases ok<;>simp,λβ w hr => ?_⟩⟩;obtain⟨es,j5,iv,mf,je⟩:=run U hl β w hr;rw [je];have iT:=(fK U hl β).2
      have oV:¬0<=(IE.var c.ni).den U:=by
        have e0:(IE.var c.ni).den U=(IE.var c.ni).den a8:=IE.ae hl (by show decide (c.ni<c.ni+1)=true;simp);rw [e0];simpa [BE.den,iN,IE.den]using e1
      unfold nH at iT;cases vY:du y.ks.length (y.ks.length+y.ne) (kv.cells.map (At.den U β)) (av U β ce).length (av U β ce)with
      |some i=>rw [vY]at iT;simp only at iT;omega
      |none =>
        simp only [Option.map_none,Option.getD_none,Option.isSome_none];cases ok<;>rfl
  rename_i cs;split at h;rotate_left
  · exact h.elim
  rename_i hc;obtain⟨c1,rfl,rfl⟩:=hc;obtain⟨r,h1,h2⟩:=IC hx _ _ _ h
  have run:∀ U,Env.aE c ρ U->∀ β w,gF W m o (aF (aV (.cv (.one (.omap j))))) U β w ->
      (Instr.lookup t ((SV.cv (.one (.omap j))).den U β) ((SV.cv kv).den U β) ok).run P w =
        .ok (if ok=true then .tuple #[((r.map λq=>(0+q.1,(eY y.ge q.2).den U β)).map (·.2)).getD (z.den U β),.bool (r.map λq=>(0+q.1,(eY y.ge q.2).den U β)).isSome]else ((r.map λq=>(0+q.1,(eY y.ge q.2).den U β)).map (·.2)).getD (z.den U β)) w:=by
    intro U hl β w hr;have br:=hr j (by simp [aV,CV.cells,aF]) _ (lK (gR j _ jV) jV);rcases br with br|⟨_,_,_,ho⟩
    · exact absurd br.2.1 (by omega)
    obtain⟨es,clock,hb,j5,iv⟩:=(yq hx).1 ho;rw [Dl U β qZ]at j5;obtain⟨k1,k2⟩:=DN hx c1 U β;exact O1 hx hb k1 k2 (h2 U hl β w _ es.toList k1 j5 iv).1 (ym hz U β w c).1 ok
  cases r with
  |none =>
    refine dh.pure h1 λU hl=>⟨by simp,by simp,by cases ok<;>simp,λβ w hr => ?_⟩;rw [run U hl β w hr];cases ok<;>rfl
  |some q =>
    refine dh.pure h1 λU hl=>⟨by simp,by simp,by cases ok<;>simp,λβ w hr => ?_⟩;rw [run U hl β w hr];cases ok<;>rfl
end Vc
set_option linter.unusedVariables false
namespace Vc
open Go Go.RowKit
variable {P:Program} {W:e_} {Q:Value->Prop} {QM QP:World->Value->Prop}
structure St.WF(st:St):Prop where
 t:∀i,(ay st.t i).wf st.c=true
 m:∀k cs t,getM st.m k=some (cs,t)->k<st.c.nk/\cs.all (At.wf st.c)=true
 o:∀k ce sz t,aM st.o k=some (ce,sz,t)->k+3<st.c.nk/\cH st.c ce=true
 ap:lM st.m st.o
 r:∀k e,fI st.r k=some e->k<st.c.nk
 d:∀k∈st.d,k<st.c.nk
 k:cd.wf st.k st.c
 df:∀x∈st.df,∀y∈x.2,y.1<st.c.nk
theorem St.WF.ev{st:St}(h:st.WF):∀x:Operand,(st.ev x).wf st.c=true
  | .tmp t=>h.t t
  | .const v=>(SV.db v st.c Env.zero b0).1
  | .global g=>by
    simp only [St.ev];split
    · rename_i p hp
      have:=h.k _ (Ge hp)
      simp only [Kn.wf]at this;simp only [SV.wf,CV.wf,At.wf,IE.wf,this,Bool.and_self]
    · rfl
  | .func _=>rfl
def eG(st:St)(o:Oper)(ρ:Env)(β:Nat->Nat)(a:Act):Prop:=∀x∈o.op.operands,st.ev x ≠ .any->a.eval x=(st.ev x).den ρ β
def bL(P:Program)(W:e_)(st:St)(o:Oper)(sv:SV)(ρ:Env):Prop :=
  ∀(β:Nat->Nat) (a:Act) (w:World),dT W w->eG st o ρ β a->gF W st.m st.o (ba st o) ρ β w ->
    ∀(next:Act->World->Prop) (Q':Exit->Act->World->Prop),(∀v w',(sv ≠ .any->v=sv.den ρ β)->Below w.heap.size w w'->next (a.put o.dst v) w')->o.wp P a w next Q'
theorem bL.run{st:St}{o:Oper}{sv:SV}{ρ:Env}(h:∀(β:Nat->Nat) (a:Act) (w:World),dT W w->eG st o ρ β a->gF W st.m st.o (ba st o) ρ β w ->
  ∃v,(execOp a.eval o).run P w=.ok (.value v) w/\(sv ≠ .any->v=sv.den ρ β)):bL P W st o sv ρ:=by
 intro β a w hB ho hr next Q' hn
 obtain⟨v,hv,he⟩:=h β a w hB ho hr;unfold Oper.wp;rw [hv,Oper.upon_value];exact hn v w he (Below.refl _ _)
theorem Gz{place:Nat->Option (Nat × Nat)}:∀(parts:List (Nat × SV)) (cells:List At) {cs:List At},dc place cells parts=some cs->∀p∈parts,p.2 ≠ .any
  | [],_,_,_,p,hp=>by cases hp
  | (i,.any)::r,_,_,h,_,_=>by simp [dc]at h
  | (i,.eH)::r,_,_,h,_,_=>by simp [dc]at h
  | (i,.dt l)::r,_,_,h,_,_=>by simp [dc]at h
  | (i,.cv v)::r,cells,cs,h,p,hp=>by
    simp only [dc]at h;split at h
    · split at h
      · rcases List.mem_cons.1 hp with rfl|hp
        · simp
        · exact Gz r _ h p hp
      · cases h
    · cases h
theorem S8{c:aw}{t:TypeId}{parts:List (Nat × SV)}{K:SV->aw->Env->Prop}{ρ:Env}(h:lz (PA P W Q QM QP) P c t parts K ρ):∀p∈parts,p.2 ≠ .any:=by
 unfold lz at h;generalize h1:P.underlying t=u1 at h;generalize h2:de P t=u2 at h;split at h
 ·rename_i fs z;generalize h3:ei P fs.toList=u3 at h;split at h
  ·rename_i pl;generalize h4:dc (λx=>pl[x]?) z.cells parts=u4 at h;split at h
   ·exact Gz parts z.cells h4
   ·exact h.elim
  ·exact h.elim
 ·rename_i n el z;generalize h3:aP P el=u3 at h;split at h
  ·rename_i g s;generalize h4:dc (λi=>some (i*s,s)) z.cells parts=u4 at h;split at h
   ·exact Gz parts z.cells h4
   ·exact h.elim
  ·exact h.elim
 ·exact h.elim
theorem S9{x:SV}{l:List SV}{r:List (Nat × Nat)}(h:gD (x::l)=some r):∃k o r',x=.cv (.one (.loc k o))/\gD l=some r'/\r=(k,o)::r':=by
 unfold gD at h;split at h
 ·rename_i he;cases he
 ·rename_i k o l' he;cases he;simp only [Option.map_eq_some_iff]at h;obtain⟨r',h1,rfl⟩:=h;exact⟨k,o,r',rfl,h1,rfl⟩
 ·cases h
theorem DR:∀(l:List SV) {r:List (Nat × Nat)},gD l=some r->(∀x∈l,x ≠ .any)/\∀ρ β,l.map (SV.den ρ β)=r.map λc=>.pointer (some ⟨β c.1,c.2,none⟩)
  | [],r,h=>by simp only [gD,Option.some.injEq]at h;subst h;exact⟨by simp,λ_ _=>rfl⟩
  |x::l,r,h=>by
    obtain⟨k,o,r',rfl,h1,rfl⟩:=S9 h;obtain⟨q1,q2⟩:=DR l h1;exact⟨by simp;exact q1,λρ β=>by simp only [List.map_cons,q2];rfl⟩
theorem S_{m:Mem}{o:bq}(gR:lM m o){c:aw}{t:Option TypeId}{x:SV}{K:SV->aw->Env->Prop}{ρ:Env}(hx:x.wf c=true)(h:vC (PA P W Q QM QP) P o c t x K ρ) :
    dh c ρ K λsv U=>sv ≠ .any/\∃ty,t=some ty/\∀β w v,gF W m o (aF (aV x)) U β w->(x ≠ .any->v=x.den U β)->(Builtin.len_ #[ty] ty #[v]).run P w=.ok (sv.den U β) w:=by
  unfold vC at h;cases t with
  |none=>cases x<;>exact h.elim
  |some ty =>
    simp only [Option.bind_some]at h;generalize hu:P.underlying ty=u1 at h;split at h
    · rename_i el k;generalize jV:aM o k=u2 at h;split at h
      · rename_i ce sz Dy;split at h
        · rename_i zX;obtain⟨n,c1,a8,r1,r2,r3,r4,r5,r6⟩:=zW h;refine⟨_,c1,a8,r1,r2,r4,λU hl=>⟨by simp,ty,rfl,λβ w v eK hv => ?_⟩⟩;rw [hv (by simp)];have br:=(eK k (by simp [aV,CV.cells,aF]) _ (lK (gR k _ jV) jV)).fh zX;have e3:=r6 U β hl;rw [Iw br]at e3;have hlen:(SV.cv (.one (.own k))).den U β=(if β (k+1)=0 then .slice none 0 0 else .slice (some ⟨β k,β (k+3),none⟩) (β (k+2)) (β (k+1)-1):Value):=rfl;rw [hlen]
          have hz:β (k+1)=0->β (k+2)=0:=λh0=>by
            rcases br.2.2 with ⟨_,h1⟩|⟨h1,_⟩
            · exact h1
            · omega
          by_cases h0:β (k+1)=0
          · rw [if_pos h0]
            have:=hz h0
            rw [this]at e3;simp [Builtin.len_,run_underlying hu,SV.den,CV.den,At.den,goInt,e3]
          · rw [if_neg h0];simp [Builtin.len_,run_underlying hu,SV.den,CV.den,At.den,goInt,e3]
        · exact h.elim
      · exact h.elim
    · rename_i el k;generalize jV:aM o k=u2 at h;split at h
      · rename_i ce sz Dy;split at h
        · rename_i zX;obtain⟨rfl,rfl⟩:=zX;obtain⟨n,c1,a8,r1,r2,r3,r4,r5,r6⟩:=zW h;refine⟨_,c1,a8,r1,r2,r4,λU hl=>⟨by simp,ty,rfl,λβ w v eK hv => ?_⟩⟩;rw [hv (by simp)];have br:=eK k (by simp [aV,CV.cells,aF]) _ (lK (gR k _ jV) jV);rcases br with br|⟨_,_,_,ho⟩
          · exact absurd br.2.1 (by omega)
          have e3:=r6 U β hl;rw [Nat.div_one,<-ho.1]at e3;simp [Builtin.len_,run_underlying hu,SV.den,CV.den,At.den,goInt,e3]
        · exact h.elim
      · exact h.elim
    · rename_i el q p sz len cap;have wx:(decide (q<c.nb) && decide (p<c.np) && len.wf c && cap.wf c)=true:=hx;simp only [Bool.and_eq_true,decide_eq_true_eq]at wx;obtain⟨q1,h⟩:=zb h;obtain⟨q2,h⟩:=zb h;refine dh.pure h λU hl=>⟨by simp,ty,rfl,λβ w v eK hv => ?_⟩;rw [hv (by simp)];have p1:0<=len.den U:=by rw [IE.ae hl wx.1.2];exact q1
      have p2:U.b q=true->len.den U=0:=by
        rw [IE.ae hl wx.1.2,hl.b q wx.1.1.1];intro hb;rcases q2 with h'|h'
        · exact (h' hb).elim
        · exact h'
      simp only [SV.den,CV.den,At.den];split
      · rename_i hb;simp [Builtin.len_,run_underlying hu,goInt,p2 hb]
      · have:((len.den U).toNat:Int)=len.den U:=by omega
        simp [Builtin.len_,run_underlying hu,goInt,this]
    · rename_i i;obtain⟨n,c1,a8,r1,r2,r3,r4,r5,r6⟩:=DG h;refine⟨_,c1,a8,r1,r2,r4,λU hl=>⟨by simp,ty,rfl,λβ w v eK hv => ?_⟩⟩;rw [hv (by simp)];have e:=r6 U hl;simp only [IP.den,SE.den]at e;have e2:(⟨(U.s i).toArray⟩:ByteArray).size=(U.s i).length:=by show (U.s i).toArray.size=_;simp
      simp [Builtin.len_,run_underlying hu,SV.den,CV.den,At.den,goInt,e2,e]
    · refine dh.pure h λU _=>⟨by simp,ty,rfl,λβ w v eK hv => ?_⟩;rw [hv (by simp)];simp [Builtin.len_,run_underlying hu,SV.den,CV.den,At.den,goInt,oT]
    · refine dh.pure h λU _=>⟨by simp,ty,rfl,λβ w v eK hv => ?_⟩;rw [hv (by simp)];simp [Builtin.len_,run_underlying hu,SV.den,CV.den,At.den,goInt,oT]
    · rename_i p ix sz len cap;obtain⟨q1,h⟩:=zb h;have wx:((decide (p<c.np) && ix.wf c && len.wf c && cap.wf c))=true:=hx;simp only [Bool.and_eq_true]at wx;refine dh.pure h λU hl=>⟨by simp,ty,rfl,λβ w v eK hv => ?_⟩;rw [hv (by simp)];have q2:0<=len.den U:=by rw [IE.ae hl wx.1.2];exact q1
      simp [Builtin.len_,run_underlying hu,SV.den,CV.den,At.den,goInt,oT,q2];omega
    · rename_i l;refine dh.pure h λU _=>⟨by simp,ty,rfl,λβ w v eK hv => ?_⟩;rw [hv (by simp)];have e:(⟨l.toArray⟩:ByteArray).size=l.length:=by show l.toArray.size=_;simp
      simp [Builtin.len_,run_underlying hu,SV.den,CV.den,At.den,goInt,oT,e]
    · refine dh.pure h λU _=>⟨by simp,ty,rfl,λβ w v eK hv => ?_⟩;simp [Builtin.len_,run_underlying hu,SV.den,CV.den,At.den,goInt,oT]
    · rename_i k;generalize jV:aM o k=u2 at h;generalize hx:gi P ty=u3 at h;split at h;rotate_left
      · exact h.elim
      rename_i ce sz tc y;generalize qZ:eR ce=u4 at h;split at h;rotate_left
      · clear qZ;split at h;rotate_left
        · exact h.elim
        rename_i hc;obtain⟨rfl,rfl⟩:=hc;obtain⟨n,c1,a8,r1,r2,r3,r4,r5,r6⟩:=zW h;refine⟨_,c1,a8,r1,r2,r4,λU hl=>⟨by simp,ty,rfl,λβ w v eK hv => ?_⟩⟩;rw [hv (by simp)];have br:=eK k (by simp [aV,CV.cells,aF]) _ (lK (gR k _ jV) jV);rcases br with br|⟨_,_,_,ho⟩
        · exact absurd br.2.1 (by omega)
        obtain⟨es,clock,hb,j5,iv⟩:=(yq hx).1 ho;have hle:=DM es.toList iv;rw [j5]at hle;simp only [Array.length_toList]at hle;have hp:0<y.ks.length+y.ne:=by have:=(vV hx).2.2.2.2.1;omega
        have hn:(av U β ce).length / (y.ks.length+y.ne)=es.size:=by rw [hle,Nat.mul_div_cancel _ hp]
        have e3:=r6 U β hl;rw [hn]at e3;simp [Builtin.len_,run_underlying hu,SV.den,CV.den,At.den,goInt,e3,Go.MapKept.run_getObj_map hb]
      rename_i cs;split at h;rotate_left
      · exact h.elim
      rename_i hc;obtain⟨rfl,rfl⟩:=hc;refine dh.pure h λU _=>⟨by simp,ty,rfl,λβ w v eK hv => ?_⟩;rw [hv (by simp)];have br:=eK k (by simp [aV,CV.cells,aF]) _ (lK (gR k _ jV) jV);rcases br with br|⟨_,_,_,ho⟩
      · exact absurd br.2.1 (by omega)
      obtain⟨es,clock,hb,j5,iv⟩:=(yq hx).1 ho;rw [Dl U β qZ]at j5;have hl:=DM es.toList iv;rw [j5]at hl;simp only [List.length_map,Array.length_toList]at hl;have hp:0<y.ks.length+y.ne:=by have:=(vV hx).2.2.2.2.1;omega
      have hn:cs.length / (y.ks.length+y.ne)=es.size:=by rw [hl,Nat.mul_div_cancel _ hp]
      simp [Builtin.len_,run_underlying hu,SV.den,CV.den,At.den,goInt,oT,hn,Go.MapKept.run_getObj_map hb]
    · exact h.elim
theorem O6{c:aw}{mx:Bool}{x y:SV}{K:SV->aw->Env->Prop}{ρ:Env}(h:lE (PA P W Q QM QP) c mx x y K ρ) :
  dh c ρ K λsv U=>sv ≠ .any/\x ≠ .any/\y ≠ .any/\∀β w,(if mx then Builtin.max2 (x.den U β) (y.den U β)else Builtin.min2 (x.den U β) (y.den U β)).run P w=.ok (sv.den U β) w:=by
 unfold lE at h;split at h
 ·refine (zx h).mono λsv U _ hv=>⟨(hv b0).2,by simp,by simp,λβ w => ?_⟩;rw [(hv β).1];cases mx<;>simp [SV.den,CV.den,At.den,Builtin.max2,Builtin.min2,IP.den]
 ·exact h.elim
theorem xJ{d:IE}{o:Option SV}{e:IE}(h:dE d o=some e):(o=none/\e=d)∨∃k,o=some (.cv (.one (.int k e))):=by
 unfold dE at h;split at h
 ·exact .inl ⟨rfl,by simpa using h.symm⟩
 ·rename_i k e';simp only [Option.some.injEq]at h;subst h;exact .inr ⟨k,rfl⟩
 ·cases h
theorem DT{lo hi:Option Value}{n c:Nat}{l h:Int}(Ta:Bool)(tD:(lo=none/\l=0)∨∃k,lo=some (.int k l))(xK:(hi=none/\h=n)∨∃k,hi=some (.int k h))(h0:0<=l)(h1:l<=h)(h2:h<=c)(w:World) :
  (Instr.sliceBounds Ta n c lo hi none).run P w=.ok (l.toNat,h.toNat,c) w:=by
 have a1:0<=h:=by omega
 rcases tD with ⟨rfl,rfl⟩|⟨k,rfl⟩<;>rcases xK with ⟨rfl,rfl⟩|⟨k',rfl⟩
 ·simp [Instr.sliceBounds]
 ·simp [Instr.sliceBounds,Instr.sliceBound,asIntOf,a1,h2]
 ·simp [Instr.sliceBounds,Instr.sliceBound,asIntOf,h0,h1]
 ·have:l<=(h.toNat:Int):=by omega
  simp [Instr.sliceBounds,Instr.sliceBound,asIntOf,h0,h1,a1,h2,this];intro hx;omega
theorem O7{c:aw}{t:TypeId}{x:SV}{lo hi:Option SV}{K:SV->aw->Env->Prop}{ρ:Env}(hx:x.wf c=true)(tD:∀v,lo=some v->v.wf c=true)(xK:∀v,hi=some v->v.wf c=true)(h:lC (PA P W Q QM QP) P c t x lo hi K ρ) :
  dh c ρ K λsv U=>sv ≠ .any/\x ≠ .any/\(∀v,lo=some v->v ≠ .any)/\(∀v,hi=some v->v ≠ .any) /\
   ∀β w,(Instr.sliceAt t (x.den U β) (lo.map (SV.den U β)) (hi.map (SV.den U β)) none).run P w=.ok (sv.den U β) w:=by
 have mX:∀{d e} {o:Option SV},dE d o=some e->∀v,o=some v->v ≠ .any:=by
  intro d e o ho v hv;rcases xJ ho with ⟨h1,_⟩|⟨k,h1⟩
  ·rw [h1]at hv;cases hv
  ·rw [h1]at hv;cases hv;simp
 have O8:∀{d e} {o:Option SV},dE d o=some e->d.wf c=true->(∀v,o=some v->v.wf c=true)->e.wf c=true:=by
  intro d e o ho hd hv;rcases xJ ho with ⟨_,h1⟩|⟨k,h1⟩
  ·rw [h1];exact hd
  ·exact hv _ h1
 have mp:∀{d e} {o:Option SV} (U:Env) (β:Nat->Nat),dE d o=some e->(o.map (SV.den U β)=none/\e.den U=d.den U)∨∃k,o.map (SV.den U β)=some (.int k (e.den U)):=by
  intro d e o U β ho;rcases xJ ho with ⟨h1,h2⟩|⟨k,h1⟩
  ·exact .inl ⟨by rw [h1];rfl,by rw [h2]⟩
  ·exact .inr ⟨k,by rw [h1];rfl⟩
 unfold lC at h;generalize hu:P.underlying t=u1 at h;split at h
 ·rename_i el p ix sz len cap;have wx:((decide (p<c.np) && ix.wf c && len.wf c && cap.wf c))=true:=hx;simp only [Bool.and_eq_true]at wx;generalize hz:aP P el=u2 at h;generalize hl:dE (.lit 0) lo=u3 at h;generalize hh:dE len hi=u4 at h;split at h
  ·rename_i g s l hI;split at h
   ·rename_i hs;subst hs;have wl:=O8 hl rfl tD;have wh:=O8 hh wx.1.2 xK;obtain⟨q1,ha⟩:=zb h;clear h;obtain⟨q2,h⟩:=zb ha;clear ha;obtain⟨q3,ha⟩:=zb h;clear h;obtain⟨q4,h⟩:=zb ha;clear ha;obtain⟨q5,ha⟩:=zb h;clear h;replace h:=ha;clear ha
    have tr:∀{U},Env.aE c ρ U->0<=len.den U/\len.den U<=cap.den U/\0<=l.den U/\l.den U<=hI.den U/\hI.den U<=cap.den U:=λhk=>by
     rw [IE.ae hk wx.1.2,IE.ae hk wx.2,IE.ae hk wl,IE.ae hk wh];exact⟨q1,q2,q3,q4,q5⟩
    have run:∀{U} (β:Nat->Nat) (w:World),Env.aE c ρ U ->
      (Instr.sliceAt t ((SV.cv (.one (.nm p ix s len cap))).den U β) (lo.map (SV.den U β)) (hi.map (SV.den U β)) none).run P w =
       .ok (.slice (if (cap.den U).toNat=(l.den U).toNat then some ⟨(U.p p).1,(U.p p).2+(ix.den U).toNat*s,none⟩else some ⟨(U.p p).1,(U.p p).2+(ix.den U).toNat*s+(l.den U).toNat*s,none⟩)
        ((hI.den U).toNat-(l.den U).toNat) ((cap.den U).toNat-(l.den U).toNat)) w:=by
     intro U β w hk;obtain⟨t1,t2,t3,t4,t5⟩:=tr hk
     have hb:=DT (P:=P) (n:=(len.den U).toNat) (c:=(cap.den U).toNat) true (by
      rcases mp U β hl with ⟨m1,m2⟩|m1
      ·exact .inl ⟨m1,m2⟩
      ·exact .inr m1) (by
      rcases mp U β hh with ⟨m1,m2⟩|m1
      ·exact .inl ⟨m1,by rw [m2];omega⟩
      ·exact .inr m1) t3 t4 (by omega) w
     simp only [SV.den,CV.den,At.den,Instr.sliceAt,Sem.run_bind,run_underlying hu,Result.andThen_ok,Instr.slice,hb,qY hz,Sem.run_pure];split
     ·rfl
     ·simp [vU]
    split at h
    ·rename_i ja;subst ja;refine dh.pure h λU hk=>⟨by simp,by simp,mX hl,mX hh,λβ w => ?_⟩;rw [run β w hk];simp only [oT,SV.den,CV.den,At.den,Int.toNat_zero,Nat.sub_zero,Nat.zero_mul,Nat.add_zero];split<;>rfl
    ·obtain⟨q6,h⟩:=zb h;obtain⟨A4,c1,a8,r1,r2,r3,r4,r5,r6⟩:=Gt h;obtain⟨A5,c2,aB,s1,s2,s3,s4,s5,s6⟩:=Gt r1;have DU:c.le c2:=aw.le_trans r2 s2;have sC:Env.aE c ρ aB:=Env.aj r2 r4 s4;rcases zw s1 with ⟨hd,h⟩|⟨hd,h⟩
     ·obtain⟨Om,c3,Cz,u1,u2,u3,u4,u5,u6⟩:=Gt h;refine⟨_,c3,Cz,u1,aw.le_trans DU u2,Env.aj DU sC u4,λU hk=>⟨by simp,by simp,mX hl,mX hh,λβ w => ?_⟩⟩;have jr:=Env.aj u2 u4 hk;have u_:=Env.aj s2 s4 jr;have lU:=Env.aj r2 r4 u_;obtain⟨t1,t2,t3,t4,t5⟩:=tr lU;rw [run β w lU];have e1:=r6 U u_;have e2:=s6 U jr;have e3:=u6 U hk;simp only [IP.den]at e1 e2 e3;have p6:0<=ix.den U:=by rw [IE.ae lU wx.1.1.2];exact q6
      have p7:l.den U<cap.den U:=by
       rw [IE.ae (Env.aj DU sC jr) wl,IE.ae (Env.aj DU sC jr) wx.2];rw [<-IE.ae sC wl,<-IE.ae sC wx.2];simpa [BE.den,iN]using hd
      have n1:¬(cap.den U).toNat=(l.den U).toNat:=by omega
      rw [if_neg n1];simp only [SV.den,CV.den,At.den,e1,e2,e3];congr 2
      ·congr 2
       have:(ix.den U+l.den U).toNat=(ix.den U).toNat+(l.den U).toNat:=by omega
       rw [this,Nat.add_mul,Nat.add_assoc]
      ·omega
      ·omega
     ·refine⟨_,c2,aB,h,DU,sC,λU hk=>⟨by simp,by simp,mX hl,mX hh,λβ w => ?_⟩⟩;have u_:=Env.aj s2 s4 hk;have lU:=Env.aj r2 r4 u_;obtain⟨t1,t2,t3,t4,t5⟩:=tr lU;rw [run β w lU];have e1:=r6 U u_;have e2:=s6 U hk;simp only [IP.den]at e1 e2
      have p7:¬l.den U<cap.den U:=by
       rw [IE.ae lU wl,IE.ae lU wx.2,<-IE.ae sC wl,<-IE.ae sC wx.2];simpa [BE.den,iN]using hd
      have n1:(cap.den U).toNat=(l.den U).toNat:=by omega
      rw [if_pos n1];simp only [SV.den,CV.den,At.den,e1,e2];congr 2
      ·omega
      ·omega
   ·exact h.elim
  ·exact h.elim
 ·rename_i el k off len cap;generalize hz:aP P el=u2 at h;generalize hl:dE (.lit 0) lo=u3 at h;generalize hh:dE (.lit len) hi=u4 at h;split at h
  ·rename_i g s l hI;split at h
   ·rename_i hc;obtain⟨c1,c2,c3⟩:=hc;refine dh.pure h λU hk=>⟨by simp,by simp,mX hl,mX hh,λβ w => ?_⟩
    have hb:=DT (P:=P) (n:=len) (c:=cap) (l:=l) (h:=hI) true (by
     rcases mp U β hl with ⟨m1,m2⟩|m1
     ·exact .inl ⟨m1,m2⟩
     ·exact .inr m1) (by
     rcases mp U β hh with ⟨m1,m2⟩|m1
     ·exact .inl ⟨m1,m2⟩
     ·exact .inr m1) c1 c2 c3 w
    simp only [SV.den,CV.den,At.den,Instr.sliceAt,Sem.run_bind,run_underlying hu,Result.andThen_ok,Instr.slice,hb,qY hz,Sem.run_pure];by_cases j6:l.toNat=cap
    ·rw [if_pos j6,if_pos j6.symm]
    ·rw [if_neg j6,if_neg (λe=>j6 e.symm)];simp [vU]
   ·exact h.elim
  ·exact h.elim
 ·rename_i n el p j sz off;generalize hz:aP P el=u2 at h;generalize hl:dE (.lit 0) lo=u3 at h;generalize hh:dE (.lit n) hi=u4 at h;split at h
  ·rename_i g s l hI;split at h
   ·rename_i hc;obtain⟨c1,c2,c3,c4,c5,c6,c7⟩:=hc;subst c4 c5;refine dh.pure h λU hk=>⟨by simp,by simp,mX hl,mX hh,λβ w => ?_⟩
    have hb:=DT (P:=P) (n:=n) (c:=n) (l:=l) (h:=hI) false (by
     rcases mp U β hl with ⟨m1,m2⟩|m1
     ·exact .inl ⟨m1,m2⟩
     ·exact .inr m1) (by
     rcases mp U β hh with ⟨m1,m2⟩|m1
     ·exact .inl ⟨m1,m2⟩
     ·exact .inr m1) c1 c2 c3 w
    simp only [SV.den,CV.den,At.den,IE.den,Int.toNat_zero,Nat.zero_mul,Nat.add_zero,Instr.sliceAt,Instr.sureAddr,Sem.run_bind,run_underlying hu,Result.andThen_ok,hb,qY hz,Sem.run_pure];have n1:(hI-l).toNat=hI.toNat-l.toNat:=by omega
    have n2:((n:Int)-l).toNat=n-l.toNat:=by omega
    by_cases j6:l.toNat=n
    ·rw [if_pos j6.symm,if_pos j6,n1,n2];simp
    ·rw [if_neg (λe=>j6 e.symm),if_neg j6,n1,n2];simp [vU]
   ·exact h.elim
  ·exact h.elim
 ·rename_i n el k off;generalize hz:aP P el=u2 at h;generalize hl:dE (.lit 0) lo=u3 at h;generalize hh:dE (.lit n) hi=u4 at h;split at h
  ·rename_i g s l hI;split at h
   ·rename_i hc;obtain⟨c1,c2,c3⟩:=hc;refine dh.pure h λU hk=>⟨by simp,by simp,mX hl,mX hh,λβ w => ?_⟩
    have hb:=DT (P:=P) (n:=n) (c:=n) (l:=l) (h:=hI) false (by
     rcases mp U β hl with ⟨m1,m2⟩|m1
     ·exact .inl ⟨m1,m2⟩
     ·exact .inr m1) (by
     rcases mp U β hh with ⟨m1,m2⟩|m1
     ·exact .inl ⟨m1,m2⟩
     ·exact .inr m1) c1 c2 c3 w
    simp only [SV.den,CV.den,At.den,Instr.sliceAt,Instr.sureAddr,Sem.run_bind,run_underlying hu,Result.andThen_ok,hb,qY hz,Sem.run_pure];by_cases j6:l.toNat=n
    ·rw [if_pos j6,if_pos j6.symm]
    ·rw [if_neg j6,if_neg (λe=>j6 e.symm)];simp [vU]
   ·exact h.elim
  ·exact h.elim
 ·exact h.elim
theorem O9{c:aw}{t:TypeId}{s:SE}{lo hi:Option SV}{K:SV->aw->Env->Prop}{ρ:Env}(hs:s.wf c=true)(h:lA (PA P W Q QM QP) P c t s lo hi K ρ) :
  dh c ρ K λsv U=>sv ≠ .any/\(∀v,lo=some v->v ≠ .any)/\(∀v,hi=some v->v ≠ .any) /\
   ∀β w,(Instr.sliceAt t (.string ⟨(s.den U).toArray⟩) (lo.map (SV.den U β)) (hi.map (SV.den U β)) none).run P w=.ok (sv.den U β) w:=by
 have ext:∀(l:List UInt8) (i j:Nat),(ByteArray.extract ⟨l.toArray⟩ i j)=⟨((l.drop i).take (j-i)).toArray⟩:=λl i j=>by
  apply ByteArray.ext;simp [ByteArray.data_extract,List.extract_eq_take_drop]
 have run:∀{U:Env} {l e:Int} {yr zY:Option Value},P.underlying t=some .string->((yr=none/\l=0)∨∃k,yr=some (.int k l))->((zY=none/\e=((s.den U).length:Int))∨∃k,zY=some (.int k e))->0<=l->l<=e->e<=((s.den U).length:Int) ->
   ∀w,(Instr.sliceAt t (.string ⟨(s.den U).toArray⟩) yr zY none).run P w=.ok (.string ⟨(((s.den U).drop l.toNat).take (e.toNat-l.toNat)).toArray⟩) w:=by
  intro U l e yr zY hu h1 h2 q0 q1 q2 w;have hb:=DT (P:=P) (n:=(s.den U).length) (c:=(s.den U).length) false h1 h2 q0 q1 q2 w
  have hz:((⟨(s.den U).toArray⟩:ByteArray)).size=(s.den U).length:=by
   show (s.den U).toArray.size=_;simp
  simp only [Instr.sliceAt,Instr.slice,Sem.run_bind,run_underlying hu,Result.andThen_ok,Option.isSome_none,Bool.false_eq_true,if_false,hz,hb,Sem.run_pure,ext]
 unfold lA at h;generalize hu:P.underlying t=u1 at h;generalize hl:dE (.lit 0) lo=u3 at h;split at h
 ·rename_i l;split at h
  ·rename_i wl;obtain⟨n,c',ah,h1,h2,h3,h4,h5,h6⟩:=DG h;obtain⟨sv,c2,aB,g1,g2,g3,g4⟩:=DC h1;refine⟨sv,c2,aB,g1,aw.le_trans h2 g2,Env.aj h2 h4 g3,λU hk => ?_⟩;obtain⟨k1,k2,k3⟩:=g4 U hk;have en:=h6 U (Env.aj g2 g3 hk);simp only [SP.ok]at k1;refine⟨k2,λv hv => ?_,λv hv=>(by cases hv),λβ w => ?_⟩
   ·rcases xJ hl with ⟨a1,_⟩|⟨k,a1⟩
    ·rw [a1]at hv;cases hv
    ·rw [a1]at hv;cases hv;simp
   ·rw [k3 β];simp only [SP.den];refine run hu ?_ (.inl ⟨rfl,by rw [en];rfl⟩) k1.1 k1.2.1 k1.2.2 w;rcases xJ hl with ⟨a1,a2⟩|⟨k,a1⟩
    ·exact .inl ⟨by rw [a1];rfl,by rw [a2];rfl⟩
    ·exact .inr ⟨k,by rw [a1];rfl⟩
  ·exact h.elim
 ·rename_i l k0 e;obtain⟨sv,c2,aB,g1,g2,g3,g4⟩:=DC h;refine⟨sv,c2,aB,g1,g2,g3,λU hk => ?_⟩;obtain⟨k1,k2,k3⟩:=g4 U hk;simp only [SP.ok]at k1;refine⟨k2,λv hv => ?_,λv hv=>(by cases hv;simp),λβ w => ?_⟩
  ·rcases xJ hl with ⟨a1,_⟩|⟨k,a1⟩
   ·rw [a1]at hv;cases hv
   ·rw [a1]at hv;cases hv;simp
  ·rw [k3 β];simp only [SP.den];refine run hu ?_ (.inr ⟨k0,rfl⟩) k1.1 k1.2.1 k1.2.2 w;rcases xJ hl with ⟨a1,a2⟩|⟨k,a1⟩
   ·exact .inl ⟨by rw [a1];rfl,by rw [a2];rfl⟩
   ·exact .inr ⟨k,by rw [a1];rfl⟩
 ·exact h.elim
theorem Tb{c:aw}{t:TypeId}{x:SV}{lo hi:Option SV}{K:SV->aw->Env->Prop}{ρ:Env}(hx:x.wf c=true)(tD:∀ v,lo=some v->v.wf c=true)(xK:∀ v,hi=some v->v.wf c=true)(h:pI (PA P W Q QM QP) P c t x lo hi K ρ) :
    dh c ρ K λsv U=>sv ≠ .any/\x ≠ .any/\(∀v,lo=some v->v ≠ .any)/\(∀v,hi=some v->v ≠ .any) /\
      ∀β w,(Instr.sliceAt t (x.den U β) (lo.map (SV.den U β)) (hi.map (SV.den U β)) none).run P w=.ok (sv.den U β) w:=by
  unfold pI at h;split at h
  · rename_i q p sz len cap;have wx:(decide (q<c.nb) && decide (p<c.np) && len.wf c && cap.wf c)=true:=hx;simp only [Bool.and_eq_true,decide_eq_true_eq]at wx;obtain⟨q1,h⟩:=zb h;obtain⟨q2,h⟩:=zb h;refine (O7 (x := .cv (.one (.nm p (.lit 0) sz len cap))) ?_ tD xK h).mono λsv U hl hv => ?_
    · show (decide (p<c.np) && true && len.wf c && cap.wf c)=true;simp only [wx.1.1.2,wx.1.2,wx.2,decide_true,Bool.and_self]
    · obtain⟨v1,v2,v3,v4,v5⟩:=hv;refine⟨v1,by simp,v3,v4,λβ w => ?_⟩;have p0:¬U.b q=true:=by rw [hl.b q wx.1.1.1];exact q1
      have p2:0<cap.den U:=by rw [IE.ae hl wx.2];exact q2
      have q0:¬((len.den U).toNat=0/\(cap.den U).toNat=0):=by omega
      have:=v5 β w
      simpa [SV.den,CV.den,At.den,p0,oT,HO q0]using this
  · rename_i l;refine (O9 (s := .lit l) rfl h).mono λsv U hl hv=>⟨hv.1,by simp,hv.2.1,hv.2.2.1,λβ w=>hv.2.2.2 β w⟩
  · rename_i i;refine (O9 (s := .var i) hx h).mono λsv U hl hv=>⟨hv.1,by simp,hv.2.1,hv.2.2.1,λβ w=>hv.2.2.2 β w⟩
  · rename_i k;generalize hu:P.underlying t=u1 at h;generalize hl:dE (.lit 0) lo=u3 at h;split at h;rotate_left
    · exact h.elim
    rename_i el l;generalize hz:aP P el=u2 at h;cases u2 with
    |none=>exact h.elim
    |some gs =>
      obtain⟨g,s⟩:=gs;simp only at h;split at h;rotate_left
      · exact h.elim
      rename_i ja;subst ja;refine dh.pure h λU _=>⟨by simp,by simp,λv hv => ?_,λv hv=>(by cases hv),λβ w => ?_⟩
      · rcases xJ hl with ⟨a1,_⟩|⟨k,a1⟩
        · rw [a1]at hv;cases hv
        · rw [a1]at hv;cases hv;simp
      · have run:∀ (yr:Option Value),(yr=none∨∃ kk,yr=some (.int kk 0))->∀ (a:Option Addr) (n cp:Nat),(∀ x,a=some x->x.add 0=x)->(Instr.sliceAt t (.slice a n cp) yr none none).run P w=.ok (.slice a n cp) w:=by
          intro yr IJ a n cp ha
          have hm:a.map (·.add (0*s))=a:=by
            cases a with
            |none=>rfl
            |some x=>simp only [Option.map_some,Nat.zero_mul,ha x rfl]
          rcases IJ with rfl|⟨kk,rfl⟩
          · simp [Instr.sliceAt,Instr.slice,run_underlying hu,Instr.sliceBounds,qY hz];intro _;simpa using hm
          · simp [Instr.sliceAt,Instr.slice,run_underlying hu,Instr.sliceBounds,Instr.sliceBound,asIntOf,qY hz];intro _;simpa using hm
        have DV:lo.map (SV.den U β)=none∨∃kk,lo.map (SV.den U β)=some (.int kk 0):=by
          rcases xJ hl with ⟨a1,_⟩|⟨kk,a1⟩
          · left;rw [a1];rfl
          · right;exact⟨kk,by rw [a1];rfl⟩
        show (Instr.sliceAt t (dC _ _ _ _) _ none none).run P w=.ok (dC _ _ _ _) w;unfold dC;split
        · exact run _ DV none 0 0 (λx hx=>by cases hx)
        · refine run _ DV _ _ _ λx hx => ?_;cases hx;unfold Addr.add;split<;>simp_all
  · exact O7 hx tD xK h
theorem O_{α:Type}{x:α}{l:Array α}(h:x∈l.toList):x∈l:=Array.mem_toList_iff.1 h
theorem zy{st:St}{ρ:Env}{β:Nat->Nat}{a:Act}(l:List Operand)(h:∀x∈l,a.eval x=(st.ev x).den ρ β):l.map a.eval=(l.map st.ev).map (SV.den ρ β):=by
 rw [List.map_map];exact List.map_congr_left h
theorem zj(s:Sem Value)(w:World)(v:Value)(h:s.run P w=.ok v w):((do pure (Next.value (<-s))):Sem Next).run P w=.ok (.value v) w:=by
 simp [h]
theorem O':∀{vs:List Value},(∀v∈vs,∃n:Int,v=.int .u8 n)->∃ns:List Int,vs=ns.map (Value.int .u8)/\vs.map nE=ns.map λn=>UInt8.ofNat n.toNat
  | [],_=>⟨[],rfl,rfl⟩
  |v::l,h=>by
    obtain⟨n,rfl⟩:=h v (List.mem_cons_self ..);obtain⟨ns,h1,h2⟩:=O' λv hv=>h v (List.mem_cons_of_mem _ hv);exact⟨n::ns,by rw [h1];rfl,by simp only [List.map_cons,h2];rfl⟩
theorem Pa:∀(ns:List Int) (l:List UInt8),ns.foldl (λ(r:ByteArray) n=>r.push (UInt8.ofNat n.toNat)) ⟨l.toArray⟩=⟨(l++ns.map λn=>UInt8.ofNat n.toNat).toArray⟩
  | [],l=>by simp
  |n::ns,l=>by
    simp only [List.foldl_cons]
    have e:(ByteArray.push ⟨l.toArray⟩ (UInt8.ofNat n.toNat))=⟨(l ++ [UInt8.ofNat n.toNat]).toArray⟩:=by
      apply ByteArray.ext;simp
    rw [e,Pa ns];simp
theorem GA{s d e:TypeId}(hs:P.underlying s=some (.slice e))(hd:P.underlying d=some .string)(he:P.underlying e=some (.int .u8)){vs:List Value}(hv:∀v∈vs,∃n:Int,v=.int .u8 n){a:Addr}{len cap:Nat}{w:World}(hl:vs.length=len)
  (hc:∀j v,vs[j]? = some v->w.cell? (a.add j)=some v):(convert s d (.slice (some a) len cap)).run P w=.ok (.string ⟨(vs.map nE).toArray⟩) w:=by
 obtain⟨ns,h1,h2⟩:=O' hv;rw [run_convert_bytes_string w s d e (some a) len cap hs he hd]
 have:=run_loadCells_list (P:=P) w a vs hc
 rw [hl]at this;rw [run_bytesToString w a len cap ns (by rw [this,h1])];have e0:ByteArray.empty=⟨([]:List UInt8).toArray⟩:=rfl;rw [e0,Pa,List.nil_append,h2]
theorem IK{s d e:TypeId}(hs:P.underlying s=some (.slice e))(hd:P.underlying d=some .string)(he:P.underlying e=some (.int .u8))(w:World):(convert s d (.slice none 0 0)).run P w=.ok (.string ⟨#[]⟩) w:=by
 rw [run_convert_bytes_string w s d e none 0 0 hs he hd];rfl
theorem Tc{c:aw}{s d:TypeId}{x:SV}{a0:At}{ρ U:Env}{w:World}{L:List Value}(h:lG P c s d x=some a0)(hL:vT W.seen (a0.den ρ b0) 1 L)(hl:Env.aE c ρ U)(kP:∀{a:Addr} {u:Value},W.seen.cell? a=some u->w.cell? a=some u)
  (kO:∀v∈L,∃n:Int,v=.int .u8 n) (β:Nat->Nat):x ≠ .any/\(convert s d (x.den U β)).run P w=.ok (.string ⟨(L.map nE).toArray⟩) w:=by
 unfold lG at h;generalize hs:P.underlying s=u1 at h;generalize hd:P.underlying d=u2 at h;split at h
 ·rename_i e;generalize he:P.underlying e=u3 at h;split at h
  ·rename_i a
   have key:∀(hf:a.flat=true) (hw:a.wf c=true) (e0:a=a0),(SV.cv (.one a)) ≠ .any/\(convert s d ((SV.cv (.one a)).den U β)).run P w=.ok (.string ⟨(L.map nE).toArray⟩) w:=by
    intro hf hw e0;subst e0;refine⟨by simp, ?_⟩
    have e1:(SV.cv (.one a)).den U β=a.den ρ b0:=by
     show a.den U β=_;rw [At.bn U β b0 hf];exact At.ae hl (λ_ _=>rfl) hw
    rw [e1];rcases hL with ⟨h1,h2⟩|⟨q,h1,h2⟩|⟨b,o,len,cap,h1,h2,h3⟩
    ·rw [h1,h2,IK hs hd he];rfl
    ·rw [h1,h2];exact GA (vs := []) hs hd he (λv hv=>by cases hv) rfl (λj v hj=>by simp at hj)
    ·rw [h1];refine GA hs hd he kO (by omega) λj v hj => ?_;rw [show (⟨b,o,none⟩:Addr).add j=⟨b,o+j,none⟩ by simp [Addr.add]];exact kP (h3 j v hj)
   split at h
   ·split at h
    ·rename_i hw;simp only [Option.some.injEq]at h;exact key rfl hw h
    ·cases h
   ·split at h
    ·rename_i hw;simp only [Option.some.injEq]at h;exact key rfl hw h
    ·cases h
   ·cases h
  ·cases h
 ·cases h
theorem Td{m:Mem}{o:bq}(gR:lM m o){s d:TypeId}{x:SV}{ce:CE}{ρ:Env}{β:Nat->Nat}{w:World}(h:bytesOf P m o s d x=some ce)(kO:(SP.row ce).ok ρ)(eK:gF W m o (aF (aV x)) ρ β w) :
  x ≠ .any/\(convert s d (x.den ρ β)).run P w=.ok (.string ⟨((SP.row ce).den ρ).toArray⟩) w:=by
 unfold bytesOf at h;generalize hs:P.underlying s=u1 at h;generalize hd:P.underlying d=u2 at h;split at h
 ·rename_i e;generalize he:P.underlying e=u3 at h;split at h
  ·simp only [SP.ok]at kO;simp only [SP.den];unfold zP at h;split at h
   ·rename_i k;generalize hg:aM o k=u4 at h;split at h
    ·rename_i gu sz ty;split at h
     ·rename_i hc;simp only [Option.some.injEq]at h;subst h;obtain⟨rfl,hf⟩:=hc;refine⟨by simp, ?_⟩;have br:=(eK k (by simp [aV,CV.cells,aF]) _ (lK (gR k _ hg) hg)).fh Nat.zero_lt_one;have lN:=Be ρ β (λ_=>0) hf;rw [lN]at br;show (convert s d (if β (k+1)=0 then .slice none 0 0 else .slice (some ⟨β k,β (k+3),none⟩) (β (k+2)) (β (k+1)-1):Value)).run P w=_;have hl:(av ρ (λ_=>0) gu).length=β (k+2):=by have:=br.1;omega
      by_cases h0:β (k+1)=0
      ·rw [if_pos h0,IK hs hd he]
       have:β (k+2)=0:=by
        rcases br.2.2 with ⟨_,h1⟩|⟨h1,_⟩
        ·exact h1
        ·omega
       have:av ρ (λ_=>0) gu=[]:=List.eq_nil_of_length_eq_zero (by omega)
       rw [this];rfl
      ·rw [if_neg h0];refine GA hs hd he kO hl λj v hj => ?_;rcases br.2.2 with ⟨_,h1⟩|⟨_,h2,_⟩
       ·have:=(List.getElem?_eq_some_iff.1 hj).1
        omega
       ·have:=Iy br hj
        rw [h2,show (⟨β k,0,none⟩:Addr).add j=⟨β k,j,none⟩ by simp only [Addr.add];split<;>simp_all];exact this
     ·cases h
    ·cases h
   ·rename_i k off len cap;generalize hg:getM m k=u4 at h;split at h
    ·rename_i cs t;split at h
     ·rename_i hc;simp only [Option.some.injEq]at h;subst h;refine⟨by simp, ?_⟩;obtain⟨_,hh⟩:=eK k (by simp [aV,CV.cells,aF]) _ (pk hg);have lN:∀a∈(cs.drop off).take len,a.flat=true:=λa ha=>List.all_eq_true.1 hc.2 a (List.mem_of_mem_drop (List.mem_of_mem_take ha))
      have e1:av ρ (λ_=>0) [.cG ((cs.drop off).take len)]=((cs.drop off).take len).map (At.den ρ β):=by
       simp only [av,Sg.den,List.append_nil];exact List.map_congr_left λa ha=>At.bn ρ (λ_=>0) β (lN a ha)
      rw [e1]at kO ⊢;show (convert s d (.slice (some ⟨β k,off,none⟩) len cap)).run P w=_;refine GA hs hd he kO (by simp;omega) λj v hj => ?_;rw [show (⟨β k,off,none⟩:Addr).add j=⟨β k,off+j,none⟩ by simp [Addr.add],yn hh];simp only [List.getElem?_map,Option.map_eq_some_iff]at hj;obtain⟨a,ha,rfl⟩:=hj
      have yp:j<len:=by
       rcases Nat.lt_or_ge j len with h'|h'
       ·exact h'
       ·rw [List.getElem?_eq_none (by simp;omega)]at ha;cases ha
      rw [List.getElem?_take_of_lt yp,List.getElem?_drop]at ha;simp [ha]
     ·cases h
    ·cases h
   ·simp only [Option.some.injEq]at h;subst h;exact⟨by simp,by rw [show (SV.cv (.one .dK)).den ρ β=.slice none 0 0 from rfl,IK hs hd he];rfl⟩
   ·cases h
  ·cases h
 ·cases h
theorem IL{t:TypeId}{cs:List At}{off:Nat}{v:CV}(h:partOf P t cs off=some v){ρ:Env}{g:Nat}{w:World}(hc:∀ j a,cs[j]? = some a->w.cell? ⟨g,j,none⟩=some (a.den ρ b0))(β:Nat->Nat)(hf:cs.all At.flat=true) :
    (Instr.loadAt t (.pointer (some ⟨g,off,none⟩))).run P w=.ok (v.den ρ β) w:=by
  unfold partOf at h;generalize hz:aP P t=u at h;split at h
  · rename_i n;split at h
    · rename_i hle;cases h;have hl:(((cs.drop off).take n).map (At.den ρ b0)).length=n:=by simp;omega
      have:=CL hz w g off _ hl (λj u hj=>by
        rw [List.getElem?_map]at hj;rw [List.getElem?_take]at hj;split at hj
        · rw [List.getElem?_drop]at hj;cases hx:cs[off+j]? with
          |none=>rw [hx]at hj;cases hj
          |some a =>
            rw [hx]at hj;simp only [Option.map_some,Option.some.injEq]at hj;rw [<-hj];exact hc _ _ hx
        · cases hj)
      rw [show Instr.loadAt t (.pointer (some ⟨g,off,none⟩))=Instr.loadAt t (.pointer (some ⟨g,off,none⟩)) from rfl];have e:((cs.drop off).take n).map (At.den ρ β)=((cs.drop off).take n).map (At.den ρ b0):=CJ ρ β b0 (List.all_eq_true.2 λx hx=>List.all_eq_true.1 hf x (List.mem_of_mem_drop (List.mem_of_mem_take hx)));simp only [CV.den,e];exact this
    · cases h
  · rename_i n;cases hx:cs[off]? with
    |none=>rw [hx]at h;cases h
    |some a =>
      rw [hx]at h;simp only [Option.map_some,Option.some.injEq]at h;subst h;simp only [CV.den];rw [At.bn ρ β b0 (List.all_eq_true.1 hf a (List.mem_of_getElem? hx))];exact CM hz w g off _ (hc _ _ hx)
  · cases h
theorem Pb{k:cd}{x:SV}{b:Bool}(h:kV k x=some b){ρ:Env}(hk:cd.den k ρ)(β:Nat->Nat):x ≠ .any/\(b=true->x.den ρ β=.nilIface)/\(b=false->∃t v,x.den ρ β=.iface t v):=by
  unfold kV at h;split at h
  · cases h;exact⟨by simp,⟨λ_=>rfl,λh=>(by cases h)⟩⟩
  · rename_i i;generalize hf:gL k i=u at h;cases u with
    |none=>cases h
    |some z =>
      obtain⟨t,v⟩:=z;cases h;exact⟨by simp,⟨λh=>(by cases h),λ_=>⟨_,_,hk _ (AZ hf)⟩⟩⟩
  · cases h
theorem IM(d:Nat){t:TypeId}{ms}(w:World)(h:P.underlying t=some (.interface ms)):(Op.equalIn (d+1) t .nilIface .nilIface).run P w=.ok true w:=by
 simp [Op.equalIn,run_underlying h]
theorem IN(d:Nat){t:TypeId}{ms}(u:TypeId)(v:Value)(w:World)(h:P.underlying t=some (.interface ms)):(Op.equalIn (d+1) t .nilIface (.iface u v)).run P w=.ok false w:=by
 simp [Op.equalIn,run_underlying h]
theorem IQ(d:Nat){t:TypeId}{ms}(u:TypeId)(v:Value)(w:World)(h:P.underlying t=some (.interface ms)):(Op.equalIn (d+1) t (.iface u v) .nilIface).run P w=.ok false w:=by
 simp [Op.equalIn,run_underlying h]
theorem Te(op:BinOp)(t:TypeId)(x y:Operand)(a b:Value)(ha:a=.nilIface∨∃u v,a=.iface u v)(hb:b=.nilIface∨∃u v,b=.iface u v)(hc:pd x=true∨pd y=true)(w:World):(eqGuard op t x y a b).run P w=.ok () w:=by
 rcases hc with h|h
 ·cases x<;>first
   | (simp [pd]at h;done)
   | (rcases ha with rfl|⟨u,v,rfl⟩<;>rcases hb with rfl|⟨u',v',rfl⟩<;>cases op<;>simp [eqGuard])
 ·cases y<;>first
   | (simp [pd]at h;done)
   | (rcases ha with rfl|⟨u,v,rfl⟩<;>rcases hb with rfl|⟨u',v',rfl⟩<;>cases op<;>simp [eqGuard])
theorem Pc{a b:Value}(ha:a=.nilIface∨∃u v,a=.iface u v)(t:TypeId):(binOp .eql t a b=do pure (.bool (<-Op.equal t a b)))/\(binOp .neq t a b=do pure (.bool (!(<-Op.equal t a b)))):=by
 rcases ha with rfl|⟨u,v,rfl⟩<;>exact⟨rfl,rfl⟩
theorem Tf{k:cd}{op:BinOp}{t:TypeId}{xo yo:Operand}{x y:SV}{b:Bool}(h:nP P k op t xo yo x y=some b){ρ:Env}(hk:cd.den k ρ)(β:Nat->Nat)(w:World):x ≠ .any/\y ≠ .any /\
    ((do eqGuard op t xo yo (x.den ρ β) (y.den ρ β);binOp op t (x.den ρ β) (y.den ρ β)):Sem Value).run P w=.ok (.bool b) w:=by
  unfold nP at h;generalize hu:P.underlying t=u at h;split at h
  · rename_i ms;generalize hx:kV k x=u1 at h;generalize hy:kV k y=u2 at h;split at h
    · rename_i a b';split at h
      · rename_i hc;obtain⟨x0,x1,x2⟩:=Pb hx hk β;obtain⟨y0,y1,y2⟩:=Pb hy hk β
        have hX:x.den ρ β=.nilIface∨∃u v,x.den ρ β=.iface u v:=by
          cases a with
          |true=>exact .inl (x1 rfl)
          |false=>exact .inr (x2 rfl)
        have hY:y.den ρ β=.nilIface∨∃u v,y.den ρ β=.iface u v:=by
          cases b' with
          |true=>exact .inl (y1 rfl)
          |false=>exact .inr (y2 rfl)
        have heq:(Op.equal t (x.den ρ β) (y.den ρ β)).run P w=.ok (a == b') w:=by
          unfold Op.equal;rw [show Op.maxDepth=9999+1 from rfl];cases a with
          |true =>
            rw [x1 rfl];cases b' with
            |true=>rw [y1 rfl];exact IM _ w hu
            |false=>obtain⟨q,v,e⟩:=y2 rfl;rw [e];exact IN _ _ _ w hu
          |false =>
            obtain⟨q,v,e⟩:=x2 rfl;rw [e];cases b' with
            |true=>rw [y1 rfl];exact IQ _ _ _ w hu
            |false=>simp at hc
        refine⟨x0,y0, ?_⟩;rw [Sem.run_bind,Te _ _ _ _ _ _ hX hY hc.2,Result.andThen_ok];split at h
        · rename_i ho;subst ho;cases h;rw [(Pc hX t).1];simp [heq]
        · split at h
          · rename_i ho;subst ho;cases h;rw [(Pc hX t).2];simp [heq]
          · cases h
      · cases h
    · cases h
  · cases h
theorem Tg{k:cd}{c:aw}{x:SV}{xT asserted:TypeId}{ok:Bool}{K:SV->aw->Env->Prop}{ρ:Env}(uv:cd.wf k c)(hk:cd.den k ρ)(h:doAssert (PA P W Q QM QP) P k c x asserted ok K ρ) :
    dh c ρ K λsv U=>sv ≠ .any/\x ≠ .any/\∀β w,(Instr.typeAssert (x.den U β) xT asserted ok).run P w=.ok (sv.den U β) w:=by
  unfold doAssert at h;generalize hu:P.underlying asserted=u at h;split at h
  · exact h.elim
  · rename_i d i vZ;generalize hf:gL k i=u2 at h;cases u2 with
    |none=>exact h.elim
    |some z =>
      obtain⟨t,v⟩:=z;simp only at h;have hm:=AZ hf;have hw:=uv _ hm;simp only [Kn.wf,Bool.and_eq_true]at hw
      have val:∀{U},Env.aE c ρ U->∀β,(SV.cv (.one (.val i))).den U β=.iface t (v.den U β):=λ{U} hl β=>by
        have h1:(Kn.j8 i t v).den U:=Kn.ae hl (uv _ hm) (hk _ hm);simp only [Kn.den]at h1;show (U.v i).1=_;rw [h1,CV.bn U β (λ_=>0) hw.2.2]
      split at h
      · rename_i ht;refine dh.pure h λU hl=>⟨by cases ok<;>simp,by simp,λβ w => ?_⟩;rw [val hl]
        cases d<;>first
          | (exact (vZ _ rfl).elim)
          | (cases ok<;>simp [Instr.typeAssert,run_underlying hu,ht,SV.den,CV.den,At.den,BE.den])
      · rename_i ht;split at h
        · rename_i kO;subst kO;generalize hz:de P asserted=u3 at h;cases u3 with
          |none=>exact h.elim
          |some z =>
            refine dh.pure h λU hl=>⟨by simp,by simp,λβ w => ?_⟩;have h0:=(ym hz U β w c).1;rw [val hl]
            cases d<;>first
              | (exact (vZ _ rfl).elim)
              | (simp [Instr.typeAssert,run_underlying hu,ht,h0,SV.den,CV.den,At.den,BE.den])
        · exact h.elim
  · rename_i d vZ;split at h
    · rename_i kO;subst kO;generalize hz:de P asserted=u3 at h;cases u3 with
      |none=>exact h.elim
      |some z =>
        refine dh.pure h λU hl=>⟨by simp,by simp,λβ w => ?_⟩;have h0:=(ym hz U β w c).1
        cases d<;>first
          | (exact (vZ _ rfl).elim)
          | (simp [Instr.typeAssert,run_underlying hu,h0,SV.den,CV.den,At.den,BE.den])
    · exact h.elim
  · exact h.elim
theorem Th{t:TypeId}{name:String}{f:FuncId}(h:methodOf P t name=some f)(n:Nat)(v:Value)(w:World):(method (n+1) t v name).run P w=.ok (f,v) w:=by
 unfold methodOf at h;generalize hi:P.info? t=u1 at h;generalize hu:P.underlying t=u2 at h;split at h
 ·rename_i i d;generalize hm:i.methods.find? (·.name == name)=u3 at h;split at h
  ·rename_i m;generalize hf:m.func=u4 at h;generalize hp:m.path.toList=u5 at h;split at h
   ·rename_i f';simp only [method,Sem.run_bind,run_typeInfo _ hi,Result.andThen_ok,hm,hp,follow,Sem.run_pure,hf,receiverAt,run_underlying hu]
    cases d<;>first
     | (cases h;done)
     | (cases h;simp [Place.get])
   ·cases h
  ·cases h
 ·cases h
theorem Pd{t:TypeId}{name:String}{f:FuncId}(h:methodOf P t name=some f){ev:Operand->Value}{r:Operand}{v:Value}{args:Array Operand}{argTypes:Array TypeId}{dst:Option Tmp}{type:TypeId}{pos after guard}(er:ev r=.iface t v){all:Array Value}(ec:#[v]++args.map ev=all)(w:World) :
  (execOp ev ⟨dst,.call ⟨.invoke r name,args,argTypes⟩,type,pos,after,guard⟩).run P w=(callFunc f all).run P w:=by
 have hm:=Th h (P.types.size+(Made.depth-1)) v w;have hd:P.types.size+Made.depth=P.types.size+(Made.depth-1)+1:=by simp [Made.depth]
 simp only [execOp,resolve,Sem.run_bind,Sem.run_pure,Result.andThen_ok,invoke,er]
 have e0:(#[Value.iface t v]++Array.map ev args)[0]? = some (Value.iface t v):=by
  rw [Array.getElem?_append_left (by simp)];rfl
 have e1:(#[Value.iface t v]++Array.map ev args).extract 1 (#[Value.iface t v]++Array.map ev args).size=Array.map ev args:=by
  apply Array.ext';simp only [Array.toList_extract,Array.toList_append,Array.size_append];simp [List.extract];exact List.take_of_length_le (by simp)
 simp only [e0,e1,callMethod,Sem.run_bind,run_program,Result.andThen_ok,hd,hm,<-ec]
theorem IS{G:bW}(hG:G.Ok){st:St}{o:Oper}{K:SV->aw->Env->Prop}{ρ:Env}(wf:st.WF)(hk:cd.den st.k ρ)(h:vD (PA G.P W Q QM QP) G st o K ρ) :
    dh st.c ρ K λsv U=>bL G.P W st o sv U:=by
  obtain⟨dst,op,type,pos,after,guard⟩:=o;unfold vD at h;cases op
  case move x =>
    refine dh.pure h λU _=>bL.run λβ a w hB ho hr=>⟨a.eval x,by simp [execOp],λhn=>ho x (by simp [Op.operands]) hn⟩
  case assign x =>
    refine dh.pure h λU _=>bL.run λβ a w hB ho hr=>⟨a.eval x,by simp [execOp],λhn=>ho x (by simp [Op.operands]) hn⟩
  case pick x y z =>
    simp only at h;generalize hx:st.ev x=sx at h;split at h
    · rename_i e;have we:e.wf st.c=true:=by have:=wf.ev x;rw [hx]at this;exact this
      rcases zw h with ⟨hd,h⟩|⟨hd,h⟩
      · refine dh.pure h λU hl=>bL.run λβ a w hB ho hr=>⟨a.eval y, ?_,λhn=>ho y (by simp [Op.operands]) hn⟩;have hc:=ho x (by simp [Op.operands]) (by rw [hx];simp);rw [hx]at hc;simp only [SV.den,CV.den,At.den,BE.ae hl we,hd]at hc;simp [execOp,hc,asBool]
      · refine dh.pure h λU hl=>bL.run λβ a w hB ho hr=>⟨a.eval z, ?_,λhn=>ho z (by simp [Op.operands]) hn⟩;have hc:=ho x (by simp [Op.operands]) (by rw [hx];simp);rw [hx]at hc;simp only [SV.den,CV.den,At.den,BE.ae hl we,hd]at hc;simp [execOp,hc,asBool]
    · exact h.elim
  case load t x =>
    simp only at h;generalize rH:lF G st.k st.c t (st.ev x)=gl at h;cases gl with
    |none =>
    simp only at h;refine (S0 wf.ap h).mono λsv U hl hv=>bL.run λβ a w hB ho hr=>⟨sv.den U β, ?_,λ_=>rfl⟩;obtain⟨h1,h2,h3⟩:=hv;have e1:=ho x (by simp [Op.operands]) h1;simp only [execOp,e1];exact zj _ w _ (h3 β w hB hr)
    |some z =>
    obtain⟨g,cs,ty,v⟩:=z;simp only at h;obtain⟨⟨Xi,Xj,hh⟩,h⟩:=h;unfold lF at rH;split at rH;rotate_left
    · cases rH
    rename_i p j sz off hx;generalize hp:o7 st.k p=u1 at rH;cases u1 with
    |none=>cases rH
    |some g' =>
    simp only at rH;generalize d_:G.aZ.lookup g'=u2 at rH;cases u2 with
    |none=>cases rH
    |some cz =>
    obtain⟨gS,Dy⟩:=cz;simp only at rH;generalize qC:partOf G.P t gS (j.toNat*sz+off)=u3 at rH;cases u3 with
    |none=>cases rH
    |some v' =>
    simp only at rH;split at rH;rotate_left
    · cases rH
    rename_i uu;simp only [Option.some.injEq,Prod.mk.injEq]at rH;obtain⟨rfl,rfl,rfl,rfl⟩:=rH;have ga:=HR hp;refine dh.pure h λU hl=>bL.run λβ a w hB ho hr=>⟨(SV.cv v').den U β, ?_,λ_=>rfl⟩;have mW:U.p p=(g',0):=Kn.ae hl (wf.k _ ga) (hk _ ga);have e1:=ho x (by simp [Op.operands]) (by rw [hx];simp);rw [hx]at e1
    have e1:a.eval x=.pointer (some ⟨g',0+j.toNat*sz+off,none⟩):=by
      rw [e1];show Value.pointer (some ⟨(U.p p).1,(U.p p).2+j.toNat*sz+off,none⟩)=_;rw [mW]
    simp only [execOp,e1];refine zj _ w _ ?_
    have kP:∀j a,gS[j]? = some a->w.cell? ⟨g',j,none⟩=some (a.den U b0):=λj a ha=>by
      refine hB.cell ?_;rw [yn hh j];simp only [List.getElem?_toArray,List.getElem?_map,ha,Option.map_some];rw [At.ae hl (λ_ _=>rfl) (List.all_eq_true.1 uu.1 a (List.mem_of_getElem? ha))]
    have je:=IL qC kP β uu.2;rw [show (0:Nat)+j.toNat*sz+off=j.toNat*sz+off from by omega];exact je
  case nilCheck x =>
    simp only at h;generalize hx:st.ev x=sx at h;split at h
    all_goals first
      |exact h.elim
      | (refine dh.pure h λU hl=>bL.run λβ a w hB ho hr=>⟨a.eval x, ?_,λhn => ?_⟩
         · have hc:=ho x (by simp [Op.operands]) (by rw [hx];simp);rw [hx]at hc;simp [execOp,hc,SV.den,CV.den,At.den]
         · have hc:=ho x (by simp [Op.operands]) (by rw [hx];simp);rw [hx]at hc;exact hc)
  case binOp op t x y yt =>
    simp only at h;generalize oJ:mb G.P st.o op t (st.ev x) (st.ev y)=on at h;cases on with
    |some cs =>
    obtain⟨ce,sz⟩:=cs;simp only at h;unfold mb at oJ;split at oJ;rotate_left
    · cases oJ
    rename_i Ti;generalize hu:G.P.underlying t=u1 at oJ;generalize zV:st.ev x=sx at oJ;generalize Gs:st.ev y=sy at oJ;split at oJ;rotate_left
    · cases oJ
    rename_i el k;generalize hg:aM st.o k=u2 at oJ;split at oJ;rotate_left
    · cases oJ
    rename_i gu uZ t';split at oJ;rotate_left
    · cases oJ
    rename_i hz;simp only [Option.some.injEq,Prod.mk.injEq]at oJ;obtain⟨rfl,rfl⟩:=oJ;obtain⟨n,c1,a8,r1,r2,r3,r4,r5,r6⟩:=zW h;obtain⟨q1,q2⟩:=zb r1;refine⟨_,_,a8,q2,r2,r4,λU hl=>bL.run λβ a w hB ho hr=>⟨.bool (decide (op=.neq)), ?_,λ_=>rfl⟩⟩;have e1:=ho x (by simp [Op.operands]) (by rw [zV];simp);have e2:=ho y (by simp [Op.operands]) (by rw [Gs];simp);rw [zV]at e1;rw [Gs]at e2;have br:=(hr k (by simp [ba,zV]) _ (lK (wf.ap k _ hg) hg)).fh hz
    have hn:0<(av U β gu).length / uZ:=by
      have h1:=r6 U β hl;have h2:0<n.den a8:=q1;rw [<-IE.ae hl r5,h1]at h2;omega
    have DW:β (k+1)≠0:=by
      rcases br.2.2 with ⟨_,h1⟩|⟨h1,_⟩
      · rw [br.1,h1,Nat.zero_mul]at hn;simp at hn
      · omega
    simp only [SV.den,CV.den,At.den,dC,if_neg DW]at e1 e2;simp only [execOp,e1,e2];refine zj _ w _ ?_;have heq:(Op.equal t (.slice (some ⟨β k,β (k+3),none⟩) (β (k+2)) (β (k+1)-1)) (.slice none 0 0)).run G.P w=.ok false w:=Ir 9999 _ _ _ w hu;rw [Sem.run_bind,OH _ _ _ _ _ _ rfl,Result.andThen_ok];rcases Ti with rfl|rfl
    · rw [(Im _ rfl t).1];simp [heq]
    · rw [(Im _ rfl t).2];simp [heq]
    |none =>
    simp only at h;generalize Tj:nP G.P st.k op t x y (st.ev x) (st.ev y)=ie at h;cases ie with
    |some bb =>
    simp only at h;refine dh.pure h λU hl=>bL.run λβ a w hB ho hr=>⟨.bool bb, ?_,λ_=>rfl⟩;obtain⟨q1,q2,q3⟩:=Tf Tj (cd.ae hl wf.k hk) β w;have e1:=ho x (by simp [Op.operands]) q1;have e2:=ho y (by simp [Op.operands]) q2;simp only [execOp,e1,e2];exact zj _ w _ q3
    |none =>
    simp only at h;have hx:st.ev x ≠ .any:=by intro he;rw [he]at h;cases hy:st.ev y<;>rw [hy]at h<;>exact h
    have hy:st.ev y ≠ .any:=by
      intro he;rw [he]at h;cases yu:st.ev x with
      |cv q=>rw [yu]at h;cases q with
        |one q=>cases q<;>exact h
        |agg q=>exact h
      |_=>rw [yu]at h;exact h
    refine (SO (wf.ev x) (wf.ev y) h).mono λsv U hl hv=>bL.run λβ a w hB ho hr=>⟨sv.den U β, ?_,λ_=>rfl⟩;have e1:=ho x (by simp [Op.operands]) hx;have e2:=ho y (by simp [Op.operands]) hy;simp only [execOp,e1,e2];exact zj _ w _ (hv.2 β w x y)
  case lookup t x i ok =>
    simp only at h;refine (S6 wf.ap h).mono λsv U hl hv=>bL.run λβ a w hB ho hr=>⟨sv.den U β, ?_,λ_=>rfl⟩;obtain⟨v1,v2,v3,v4⟩:=hv;have e1:=ho x (by simp [Op.operands]) v1;have e2:=ho i (by simp [Op.operands]) v2;simp only [execOp,e1,e2];exact zj _ w _ (v4 β w λk hk=>hr k (by simpa [ba]using hk))
  case typeAssert x xt asserted ok =>
    simp only at h;refine (Tg (xT:=xt) wf.k hk h).mono λsv U hl hv=>bL.run λβ a w hB ho hr=>⟨sv.den U β, ?_,λ_=>rfl⟩;have e1:=ho x (by simp [Op.operands]) hv.2.1;simp only [execOp,e1];exact zj _ w _ (hv.2.2 β w)
  case unOp op t x =>
    simp only at h;refine (SQ h).mono λsv U hl hv=>bL.run λβ a w hB ho hr=>⟨sv.den U β, ?_,λ_=>rfl⟩;have e1:=ho x (by simp [Op.operands]) hv.2.1;simp only [execOp,e1];exact zj _ w _ (hv.2.2 β w)
  case convert s d x =>
    simp only at h;generalize mI:bytesOf G.P st.m st.o s d (st.ev x)=Tl at h
    cases Tl with
    |some ce =>
    simp only at h;refine (DC h).mono λsv U hl hv=>bL.run λβ a w hB ho hr=>⟨sv.den U β, ?_,λ_=>rfl⟩;obtain⟨v1,v2,v3⟩:=hv;obtain⟨b1,b2⟩:=Td (W:=W) wf.ap mI v1 (λk hk=>hr k (by simpa [ba]using hk));have e1:=ho x (by simp [Op.operands]) b1;rw [v3 β];simp only [execOp,e1];exact zj _ w _ b2
    |none =>
    simp only at h;generalize Pe:lG G.P st.c s d (st.ev x)=ab at h;cases ab with
    |some A9 =>
      simp only at h;obtain⟨L,hL,h⟩:=h;have hle:st.c.le {st.c with nl:=st.c.nl+1}:=⟨Nat.le_refl _,Nat.le_refl _,Nat.le_refl _,Nat.le_refl _,Nat.le_refl _,Nat.le_refl _,Nat.le_succ _⟩;obtain⟨sv,c2,aB,g1,g2,g3,g4⟩:=DC h;refine⟨sv,c2,aB,g1,aw.le_trans hle g2,Env.aj hle (tB st.c ρ L) g3,λU hk=>bL.run λβ a w hB ho hr=>⟨sv.den U β, ?_,λ_=>rfl⟩⟩;obtain⟨v1,v2,v3⟩:=g4 U hk;have lk:Env.aE {st.c with nl:=st.c.nl+1} (ρ.lh st.c.nl L) U:=Env.aj g2 g3 hk
      have eL:av U (λ_=>0) [.var st.c.nl]=L.map (·.1):=by
        simp only [av,Sg.den,List.append_nil];rw [lk.l st.c.nl (Nat.lt_succ_self _)];exact congrArg (List.map λy:OV=>y.1) (if_pos rfl)
      obtain⟨b1,b2⟩:=Tc Pe hL (Env.aj hle (tB st.c ρ L) (Env.aj g2 g3 hk)) (λ{a u} ha=>hB.cell ha) (by simp only [SP.ok,eL]at v1;exact v1) β;have e1:=ho x (by simp [Op.operands]) b1;rw [v3 β];simp only [execOp,e1,SP.den,eL];exact zj _ w _ b2
    |none =>
    simp only at h;refine (SR h).mono λsv U hl hv=>bL.run λβ a w hB ho hr=>⟨sv.den U β, ?_,λ_=>rfl⟩;have e1:=ho x (by simp [Op.operands]) hv.2.1;simp only [execOp,e1];exact zj _ w _ (hv.2.2 β w)
  case field t x f =>
    simp only at h;refine (SS h).mono λsv U hl hv=>bL.run λβ a w hB ho hr=>⟨sv.den U β, ?_,λ_=>rfl⟩;have e1:=ho x (by simp [Op.operands]) hv.2.1;simp only [execOp,e1];exact zj _ w _ (hv.2.2 β w)
  case fieldAddr t x f =>
    simp only at h;refine (SU h).mono λsv U hl hv=>bL.run λβ a w hB ho hr=>⟨sv.den U β, ?_,λ_=>rfl⟩;have e1:=ho x (by simp [Op.operands]) hv.2.1;simp only [execOp,e1];exact zj _ w _ (hv.2.2 β w)
  case indexAddr t x i =>
    simp only at h;refine (SW wf.ap (wf.ev x) (wf.ev i) h).mono λsv U hl hv=>bL.run λβ a w hB ho hr=>⟨sv.den U β, ?_,λ_=>rfl⟩;have e1:=ho x (by simp [Op.operands]) hv.2.1.1;have e2:=ho i (by simp [Op.operands]) hv.2.1.2;simp only [execOp,e1,e2];exact zj _ w _ (hv.2.2 β w hr)
  case index t x i =>
    simp only at h;refine (SY (wf.ev x) (wf.ev i) h).mono λsv U hl hv=>bL.run λβ a w hB ho hr=>⟨sv.den U β, ?_,λ_=>rfl⟩;have e1:=ho x (by simp [Op.operands]) hv.2.1.1;have e2:=ho i (by simp [Op.operands]) hv.2.1.2;simp only [execOp,e1,e2];exact zj _ w _ (hv.2.2 β w)
  case extract x i =>
    simp only at h;generalize hx:st.ev x=sx at h;split at h
    · rename_i l;generalize hi:l[i]? = u at h;split at h
      · rename_i v;refine dh.pure h λU _=>bL.run λβ a w hB ho hr=>⟨(SV.cv v).den U β, ?_,λ_=>rfl⟩;have e1:=ho x (by simp [Op.operands]) (by rw [hx];simp);rw [hx]at e1;simp only [execOp,e1];refine zj _ w _ ?_;simp [SV.den,Instr.extract,hi]
      · exact h.elim
    · exact h.elim
  case build t parts =>
    simp only at h;have fJ:=S8 h;refine (SZ h).mono λsv U hl hv=>bL.run λβ a w hB ho hr=>⟨sv.den U β, ?_,λ_=>rfl⟩
    have e1:(parts.map λx=>(x.1,a.eval x.2))=((parts.toList.map λp=>(p.1,st.ev p.2)).map λp=>(p.1,p.2.den U β)).toArray:=by
      rw [List.map_map];apply Array.ext';rw [Array.toList_map];apply List.map_congr_left;intro p hp
      have:=ho p.2 (by simp only [Op.operands];exact O_ (by simpa using ⟨p.1,Array.mem_toList_iff.1 hp⟩)) (fJ (p.1,st.ev p.2) (List.mem_map.2 ⟨p,hp,rfl⟩))
      simp [this]
    simp only [execOp];refine zj _ w _ ?_
    have:=hv.2 β w
    rw [<-e1]at this;exact this
  case slice t x lo hi mx =>
    cases mx with
    |some m=>exact h.elim
    |none =>
      simp only at h;refine (Tb (wf.ev x) (λv hv => ?_) (λv hv => ?_) h).mono λsv U hl hv=>bL.run λβ a w hB ho hr=>⟨sv.den U β, ?_,λ_=>rfl⟩
      · cases lo<;>simp at hv;subst hv;exact wf.ev _
      · cases hi<;>simp at hv;subst hv;exact wf.ev _
      · obtain⟨v1,v2,v3,v4,v5⟩:=hv;have e1:=ho x (by simp [Op.operands]) v2
        have e2:lo.map a.eval=(lo.map st.ev).map (SV.den U β):=by
          cases lo with
          |none=>rfl
          |some l=>simp only [Option.map_some];rw [ho l (by simp [Op.operands]) (v3 _ rfl)]
        have e3:hi.map a.eval=(hi.map st.ev).map (SV.den U β):=by
          cases hi with
          |none=>rfl
          |some l=>simp only [Option.map_some];rw [ho l (by simp [Op.operands]) (v4 _ rfl)]
        simp only [execOp,e1,e2,e3,Option.map_none];exact zj _ w _ (v5 β w)
  case makeFunc fn first aI =>
    cases fn<;>simp only at h<;>first
      |exact h.elim
      |skip
    rename_i f;split at h
    · rename_i hf;generalize hl:gD (aI.toList.map st.ev)=u at h;split at h
      · rename_i l;obtain⟨q1,q2⟩:=DR _ hl;refine dh.pure h λU _=>bL.run λβ a w hB ho hr=>⟨_, ?_,λ_=>rfl⟩
        have e1:aI.map a.eval=(l.map λc=>(.pointer (some ⟨β c.1,c.2,none⟩):Value)).toArray:=by
          rw [<-q2 U β];apply Array.ext';rw [Array.toList_map];exact zy _ λx hx=>ho x (by simp only [Op.operands];exact Array.mem_append.2 (.inr (Array.mem_toList_iff.1 hx))) (q1 _ (List.mem_map.2 ⟨x,hx,rfl⟩))
        have e2:first=#[]:=Array.size_eq_zero_iff.1 hf
        subst e2;simp only [execOp];refine zj _ w _ ?_;simp [Instr.makeFunc,e1,SV.den,CV.den,At.den]
      · exact h.elim
    · generalize hq:gD (first.toList.map st.ev)=u0 at h;generalize hl:gD (aI.toList.map st.ev)=u at h;split at h
      · rename_i q l;obtain⟨q1,q2⟩:=DR _ hl;obtain⟨q3,q4⟩:=DR _ hq;refine dh.pure h λU _=>bL.run λβ a w hB ho hr=>⟨_, ?_,λ_=>rfl⟩
        have e1:aI.map a.eval=(l.map λc=>(.pointer (some ⟨β c.1,c.2,none⟩):Value)).toArray:=by
          rw [<-q2 U β];apply Array.ext';rw [Array.toList_map];exact zy _ λx hx=>ho x (by simp only [Op.operands];exact Array.mem_append.2 (.inr (Array.mem_toList_iff.1 hx))) (q1 _ (List.mem_map.2 ⟨x,hx,rfl⟩))
        have e2:first.map a.eval=(q.map λc=>(.pointer (some ⟨β c.1,c.2,none⟩):Value)).toArray:=by
          rw [<-q4 U β];apply Array.ext';rw [Array.toList_map];exact zy _ λx hx=>ho x (by simp only [Op.operands];exact Array.mem_append.2 (.inl (Array.mem_toList_iff.1 hx))) (q3 _ (List.mem_map.2 ⟨x,hx,rfl⟩))
        simp only [execOp];refine zj _ w _ ?_;simp [Instr.makeFunc,e1,e2,SV.den,CV.den,At.den]
      · rename_i l;obtain⟨q1,q2⟩:=DR _ hl;generalize GB:first.toList.map st.ev=fl at h
        split at h;rotate_left
        · exact h.elim
        rename_i cs;generalize Tm:aW.CA cs=u2 at h;split at h;rotate_left
        · exact h.elim
        rename_i r;refine dh.pure h λU _=>bL.run λβ a w hB ho hr=>⟨_, ?_,λ_=>rfl⟩
        have e1:aI.map a.eval=(l.map λc=>(.pointer (some ⟨β c.1,c.2,none⟩):Value)).toArray:=by
          rw [<-q2 U β];apply Array.ext';rw [Array.toList_map];exact zy _ λx hx=>ho x (by simp only [Op.operands];exact Array.mem_append.2 (.inr (Array.mem_toList_iff.1 hx))) (q1 _ (List.mem_map.2 ⟨x,hx,rfl⟩))
        have e2:first.map a.eval=#[.agg (r.map (aW.den U β)).toArray]:=by
          apply Array.ext'
          rw [Array.toList_map,zy (st:=st) (ρ:=U) (β:=β) _ λx hx=>ho x (by simp only [Op.operands];exact Array.mem_append.2 (.inl (Array.mem_toList_iff.1 hx))) (by
            have:st.ev x∈first.toList.map st.ev:=List.mem_map.2 ⟨x,hx,rfl⟩
            rw [GB]at this;simp only [List.mem_singleton]at this;rw [this];simp)]
          rw [GB]
          have:cs.map (At.den U β)=r.map (aW.den U β):=by
            rw [<-aW.vq Tm,List.map_map];exact List.map_congr_left λx _=>aW.vt U β x
          simp only [List.map_cons,List.map_nil,SV.den,CV.den,this]
        simp only [execOp];refine zj _ w _ ?_;simp [Instr.makeFunc,e1,e2,SV.den,CV.den,At.den]
      · exact h.elim
  case call cl =>
    obtain⟨callee,args,argTypes⟩:=cl;cases callee
    case invoke r m =>
      simp only at h;generalize CS:st.ev r=sr at h;split at h
      · rename_i i;generalize hf:gL st.k i=u1 at h;cases u1 with
        |none=>exact h.elim
        |some z =>
        obtain⟨t,v⟩:=z;simp only at h;generalize hm:methodOf G.P t m=u2 at h;cases u2 with
        |none=>exact h.elim
        |some f =>
        simp only at h;have h_:=AZ hf;have tE:=wf.k _ h_;simp only [Kn.wf,Bool.and_eq_true]at tE;refine (OW hG wf.ap (λk cs t hm=>(wf.m k cs t hm).2) (λk ce sz t hm=>(wf.o k ce sz t hm).2) h).mono λsv U hl hv => ?_;obtain⟨h1,h2,h3⟩:=hv;intro β a w hB ho hr next Q' hn
        have er:=ho r (by simp [Op.operands,Call.operands]) (by rw [CS];simp);rw [CS]at er;have hd:(Kn.j8 i t v).den U:=Kn.ae hl (wf.k _ h_) (hk _ h_);simp only [Kn.den]at hd
        have er:a.eval r=.iface t (v.den U β):=by
          rw [er];show (U.v i).1=_;rw [hd,CV.bn U (λ_=>0) β tE.2.2]
        have ea:(args.map a.eval).toList=(args.toList.map st.ev).map (SV.den U β):=by
          rw [Array.toList_map];exact zy _ λx hx=>ho x (by simp only [Op.operands,Call.operands];exact Array.mem_append.2 (.inr (Array.mem_toList_iff.1 hx))) (h2 _ (List.mem_cons_of_mem _ (List.mem_map.2 ⟨x,hx,rfl⟩)))
        have ec:#[v.den U β]++args.map a.eval=(((SV.cv v)::args.toList.map st.ev).map (SV.den U β)).toArray:=by
          apply Array.ext';rw [Array.toList_append,ea];simp [SV.den]
        have hx:(execOp a.eval ⟨dst,.call ⟨.invoke r m,args,argTypes⟩,type,pos,after,guard⟩).run G.P w=(callFunc f (((SV.cv v)::args.toList.map st.ev).map (SV.den U β)).toArray).run G.P w:=Pd hm er ec w
        have eK:gF W st.m st.o (aF (cR st.m st.o ((SV.cv v)::args.toList.map st.ev))) U β w:=λk hk=>hr k (by
          simp only [ba,CS,hf];exact hk)
        unfold Oper.wp;rw [hx];rcases h3 β w hB eK with h4|⟨h4,h5⟩
        · rw [h4,Oper.upon_value];exact hn _ w (λ_=>rfl) (Below.refl _ _)
        · rw [h4,Oper.upon_enter]
          exact h5.mono λe w' he=>by
            obtain⟨rfl,hb⟩:=he;exact hn _ w' (λ_=>rfl) hb
      · exact h.elim
    case builtin b =>
      cases b<;>simp only at h<;>first
        |exact h.elim
        |skip
      case len =>
        generalize ha:args.toList=al at h;split at h
        · rename_i x;refine (S_ wf.ap (wf.ev x) h).mono λsv U hl hv=>bL.run λβ a w hB ho hr=>⟨sv.den U β, ?_,λ_=>rfl⟩;obtain⟨h1,ty,h2,h3⟩:=hv;have ea:args=#[x]:=by apply Array.ext';rw [ha]
          subst ea;have e1:=ho x (by simp [Op.operands,Call.operands]);have h4:=h3 β w (a.eval x) (by simpa [ba]using hr) e1;have ht:argTypes[0]? = some ty:=h2
          have h5:(Builtin.len_ argTypes type #[a.eval x]).run G.P w=.ok (sv.den U β) w:=by
            have:Builtin.len_ argTypes type #[a.eval x]=Builtin.len_ #[ty] ty #[a.eval x]:=by simp only [Builtin.len_,ht];rfl
            rw [this];exact h4
          simp [execOp,resolve,invoke,builtin,h5]
        · exact h.elim
      case max =>
        generalize ha:args.toList=al at h;split at h
        · rename_i x y;refine (O6 h).mono λsv U hl hv=>bL.run λβ a w hB ho hr=>⟨sv.den U β, ?_,λ_=>rfl⟩;obtain⟨h1,h2,h3,h4⟩:=hv;have ea:args=#[x,y]:=by apply Array.ext';rw [ha]
          subst ea;have e1:=ho x (by simp [Op.operands,Call.operands]) h2;have e2:=ho y (by simp [Op.operands,Call.operands]) h3;have h5:=h4 β w;rw [<-e1,<-e2]at h5;simp only [if_true]at h5;simp [execOp,resolve,invoke,builtin,Builtin.max_,h5]
        · exact h.elim
      case min =>
        generalize ha:args.toList=al at h;split at h
        · rename_i x y;refine (O6 h).mono λsv U hl hv=>bL.run λβ a w hB ho hr=>⟨sv.den U β, ?_,λ_=>rfl⟩;obtain⟨h1,h2,h3,h4⟩:=hv;have ea:args=#[x,y]:=by apply Array.ext';rw [ha]
          subst ea;have e1:=ho x (by simp [Op.operands,Call.operands]) h2;have e2:=ho y (by simp [Op.operands,Call.operands]) h3;have h5:=h4 β w;rw [<-e1,<-e2]at h5;simp only [Bool.false_eq_true,if_false]at h5;simp [execOp,resolve,invoke,builtin,Builtin.min_,h5]
        · exact h.elim
    case value g =>
      simp only at h
      have main:∀ (f:FuncId) (first aI:List (Nat × Nat)) (all:List SV),all=(first.map fun x=>SV.cv (.one (.loc x.1 x.2)))++(args.toList.map st.ev++aI.map fun x=>SV.cv (.one (.loc x.1 x.2))) ->
          st.ev g ≠ .any ->
          (∀(U:Env) (β:Nat->Nat),(st.ev g).den U β=.func (.func f) (first.map λc=>.pointer (some ⟨β c.1,c.2,none⟩)).toArray (aI.map λc=>.pointer (some ⟨β c.1,c.2,none⟩)).toArray) ->
          (∀k∈aF (cR st.m st.o all),k∈ba st ⟨dst,.call ⟨.value g,args,argTypes⟩,type,pos,after,guard⟩) ->
          ma (PA G.P W Q QM QP) G st.m st.o st.c f all K ρ ->
          dh st.c ρ K λsv U=>bL G.P W st ⟨dst,.call ⟨.value g,args,argTypes⟩,type,pos,after,guard⟩ sv U:=by
        intro f first aI all cX v_ wc Bk h
        refine (OW hG wf.ap (λk cs t hm=>(wf.m k cs t hm).2) (λk ce sz t hm=>(wf.o k ce sz t hm).2) h).mono λsv U hl hv => ?_;obtain⟨h1,h2,h3⟩:=hv;intro β a w hB ho hr next Q' hn
        have eg:=ho g (by simp [Op.operands,Call.operands]) v_;rw [wc U β]at eg
        have ea:(args.map a.eval).toList=(args.toList.map st.ev).map (SV.den U β):=by
          rw [Array.toList_map];exact zy _ λx hx=>ho x (by simp only [Op.operands,Call.operands];exact Array.mem_append.2 (.inr (Array.mem_toList_iff.1 hx))) (h2 _ (by rw [cX];exact List.mem_append.2 (.inr (List.mem_append.2 (.inl (List.mem_map.2 ⟨x,hx,rfl⟩))))))
        have ec:(first.map λc=>(.pointer (some ⟨β c.1,c.2,none⟩):Value)).toArray++args.map a.eval++(aI.map λc=>(.pointer (some ⟨β c.1,c.2,none⟩):Value)).toArray=(all.map (SV.den U β)).toArray:=by
          apply Array.ext';rw [Array.toList_append,Array.toList_append,ea,cX];simp [SV.den,CV.den,At.den,Function.comp_def]
        have hx:(execOp a.eval ⟨dst,.call ⟨.value g,args,argTypes⟩,type,pos,after,guard⟩).run G.P w=(callFunc f (all.map (SV.den U β)).toArray).run G.P w:=by
          simp only [execOp,resolve,eg,Deferred.ofValue,Sem.run_bind,Sem.run_pure,Result.andThen_ok,invoke];rw [<-ec]
        have eK:gF W st.m st.o (aF (cR st.m st.o all)) U β w:=λk hk=>hr k (Bk k hk);unfold Oper.wp;rw [hx];rcases h3 β w hB eK with h4|⟨h4,h5⟩
        · rw [h4,Oper.upon_value];exact hn _ w (λ_=>rfl) (Below.refl _ _)
        · rw [h4,Oper.upon_enter]
          exact h5.mono λe w' he=>by
            obtain⟨rfl,hb⟩:=he;exact hn _ w' (λ_=>rfl) hb
      have app:∀(l1 l2:List At),aF (l1++l2)=aF l1++aF l2:=by
        intro l1 l2
        induction l1 with
        |nil=>rfl
        |cons x l1 ih=>cases x<;>simp [aF,ih]
      generalize hg:st.ev g=sg at h;split at h
      · rename_i f aI;refine main f [] aI _ (by simp) (by rw [hg];simp) (λU β=>by rw [hg];rfl) (λk hk => ?_) h;simp only [ba,hg];exact hk
      · rename_i f first aI
        refine main f first aI _ rfl (by rw [hg];simp) (λU β=>by rw [hg];rfl) (λk hk => ?_) h
        simp only [ba,hg];exact hk
      · exact h.elim
  all_goals exact h.elim
end Vc
set_option linter.unusedVariables false
namespace Vc
open Go Go.RowKit
variable {P:Program} {W:e_} {Q:Value->Prop} {QM QP:World->Value->Prop}
theorem uw{w:World}{b:Nat}{o:Obj}(h:w.heap[b]? = some o):b<w.heap.size:=(Array.getElem?_eq_some_iff.1 h).1
theorem zl(t:List (Nat × SV))(d i:Nat)(v:SV):ay ((d,v)::t) i=if d=i then v else ay t i:=by
 show (match Nat.beq d i with|true=>v|false=>ay t i)=_;cases h:Nat.beq d i with
 |true=>rw [if_pos (Nat.eq_of_beq_eq_true h)]
 |false=>rw [if_neg (Nat.ne_of_beq_eq_false h)]
theorem zZ(m:Mem)(d i:Nat)(v:List At × TypeId):getM ((d,v)::m) i=if d=i then some v else getM m i:=rfl
theorem zz(m:bq)(d i:Nat)(v:CE × Nat × TypeId):aM ((d,v)::m) i=if d=i then some v else aM m i:=rfl
theorem IT:∀(o:bq) (k i:Nat),aM (ui o k) i=if k=i then none else aM o i
  | [],k,i=>by simp [ui,aM]
  | (j,v)::r,k,i=>by
    simp only [ui];by_cases hj:j=k
    · subst hj;rw [if_pos rfl,IT r j i,zz];by_cases hi:j=i
      · rw [if_pos hi,if_pos hi]
      · rw [if_neg hi,if_neg hi,if_neg hi]
    · rw [if_neg hj,zz,zz,IT r k i];by_cases hi:j=i
      · rw [if_pos hi,if_pos hi,if_neg (λe=>hj (hi.trans e.symm))]
      · rw [if_neg hi,if_neg hi]
theorem xL:∀(l:List Nat) (o:bq) (i:Nat),aM (cf o l) i=if i∈l then none else aM o i
  | [],o,i=>by simp [cf]
  |k::l,o,i=>by
    simp only [cf,xL l,IT,List.mem_cons];by_cases h1:i∈l
    · simp [h1]
    · by_cases h2:k=i
      · simp [h2]
      · have:¬i=k:=λe=>h2 e.symm
        simp [h1,h2,this]
theorem Bl:∀(o:bq) (k i:Nat) (ce:CE),aM (eC o k ce) i=if k=i then (aM o i).map (λx=>(ce,x.2))else aM o i
  | [],k,i,ce=>by simp [eC,aM]
  | (j,v)::r,k,i,ce=>by
    simp only [eC];by_cases hj:j=k
    · subst hj;rw [if_pos rfl];simp only [zz];by_cases hi:j=i
      · simp [hi]
      · simp [hi]
    · rw [if_neg hj];simp only [zz,Bl r k i ce];by_cases hi:j=i
      · subst hi;rw [if_pos rfl,if_neg (λh=>hj h.symm),if_pos rfl]
      · simp [hi]
theorem ux:∀(m:Mem) (k i:Nat) (cs:List At),getM (j9 m k cs) i=if k=i then (getM m i).map (λx=>(cs,x.2))else getM m i
  | [],k,i,cs=>by simp [j9,getM]
  | (j,v)::r,k,i,cs=>by
    simp only [j9];by_cases hj:j=k
    · subst hj;rw [if_pos rfl];simp only [zZ];by_cases hi:j=i
      · simp [hi]
      · simp [hi]
    · rw [if_neg hj];simp only [zZ,ux r k i cs];by_cases hi:j=i
      · subst hi;rw [if_pos rfl,if_neg (λh=>hj h.symm),if_pos rfl]
      · simp [hi]
theorem IU(w:World)(g k:Nat)(cs:Array Value)(h:k≠g):(w.setRow g cs).heap[k]? = w.heap[k]? := by
 simp only [World.setRow,Array.getElem?_modify];rw [if_neg (by omega)]
theorem Pf{t:TypeId}{g:Bool}{n:Nat}(hz:aP P t=some (g,n))(w:World)(b o:Nat)(v:Value)(cur:Array Value)(ty:TypeId)(hb:w.heap[b]? = some (.cells cur ty))(hn:v.cells.size=n)(ho:o+n<=cur.size)
  (h1:∀x∈v.cells.toList,x.oneCell'=true) :
  (Instr.storeAt t (ptr b o) v).run P w=.ok () (w.setRow b (cur.toList.take o++v.cells.toList++cur.toList.drop (o+n)).toArray):=by
 have mY:=run_storeCells_at P b o ty v.cells.toList 0 cur w hb (by simp [hn];exact ho) h1;simp only [Array.length_toList,hn,Nat.add_zero]at mY;simp [Instr.storeAt,ptr,Instr.sureAddr,storeVar,qY hz,hn,mY]
theorem zr{c:aw}{l:List At}(h:l.all (At.wf c)=true)(n:Nat):(l.take n).all (At.wf c)=true/\(l.drop n).all (At.wf c)=true :=
 ⟨List.all_eq_true.2 λx hx=>List.all_eq_true.1 h x (List.mem_of_mem_take hx),List.all_eq_true.2 λx hx=>List.all_eq_true.1 h x (List.mem_of_mem_drop hx)⟩
theorem CV.eu{c:aw}:∀{v:CV},v.wf c=true->v.cells.all (At.wf c)=true
 | .one a,h=>by simpa [CV.cells,CV.wf]using h
 | .agg l,h=>h
theorem IV{α β:Type}(f:α->β)(l:List α):∀n,(times l n).map f=times (l.map f) n
 |0=>rfl
 |n+1=>by simp [times,IV f l n]
theorem GC{α:Type}(l:List α):∀n,(times l n).length=n*l.length
 |0=>by simp [times]
 |n+1=>by simp [times,GC l n,Nat.add_mul,Nat.add_comm]
theorem Pg{α:Type}(l:List α)(hl:0<l.length):∀n i,i<n*l.length->(times l n)[i]? = l[i % l.length]?
  |0,i,h=>by omega
  |n+1,i,h=>by
    simp only [times];by_cases hi:i<l.length
    · rw [List.getElem?_append_left hi,Nat.mod_eq_of_lt hi]
    · rw [Nat.succ_mul]at h;rw [List.getElem?_append_right (by omega),Pg l hl n (i-l.length) (by omega)];congr 1;exact (Nat.mod_eq_sub_mod (by omega)).symm
theorem Ph(z:Array Value)(n:Nat)(hz:0<z.size):(Array.range (n*z.size)).map (λi=>z[i % z.size]!)=(times z.toList n).toArray:=by
 apply Array.ext';apply List.ext_getElem?;intro i;simp only [Array.toList_map,Array.toList_range,List.getElem?_map,List.getElem?_range'];by_cases hi:i<n*z.size
 ·rw [List.getElem?_range hi,Pg _ (by simpa using hz) n i (by simpa using hi)]
  have:i % z.size<z.size:=Nat.mod_lt _ hz
  simp [this]
 ·rw [List.getElem?_eq_none (by simp;omega),List.getElem?_eq_none (by simp [GC];omega)];rfl
theorem fC{a:Act}{d:Nat}{v:Value}(i:Nat)(hd:d<a.tmps.size):(a.put (some d) v).tmps[i]? = if d=i then some v else a.tmps[i]? := by
 simp only [Act.put];by_cases h:d=i
 ·subst h;simp [hd]
 ·rw [if_neg h,Array.getElem?_setIfInBounds_ne h]
theorem IW(a:Act)(dst:Option Tmp)(v:Value):(a.put dst v).tmps.size=a.tmps.size:=by
 cases dst<;>simp [Act.put]
theorem IX(a:Act)(dst:Option Tmp)(v:Value):(a.put dst v).defers=a.defers:=by
 cases dst<;>rfl
def bK(β:Nat->Nat)(k:Nat):qB->Option Nat
 | .fix _ _=>some (β k)
 | .row _ _ _=>if 2<=β (k+1)then some (β k)else none
def po(c:aw)(k:Nat):qB->Prop
 | .fix cs _=>k<c.nk/\cs.all (At.wf c)=true
 | .row ce _ _=>k+3<c.nk/\cH c ce=true
def di:Sg->List Nat
 | .cG l=>aN l
 | .var _=>[]
def fD:qB->List Nat
 | .fix cs _=>aN cs
 | .row ce _ _=>ce.flatMap di
theorem St.WF.pq{st:St}(h:st.WF){k:Nat}{e:qB}(hg:aK st.m st.o k=some e):po st.c k e:=by
  unfold aK at hg;cases hm:getM st.m k with
  |some x =>
    rw [hm]at hg;simp only [Option.some.injEq]at hg;subst hg;exact h.m k x.1 x.2 hm
  |none =>
    rw [hm]at hg;cases ho:aM st.o k with
    |some x =>
      rw [ho]at hg;simp only [Option.some.injEq]at hg;subst hg;exact h.o k x.1 x.2.1 x.2.2 ho
    |none=>rw [ho]at hg;cases hg
theorem CT{c:aw}{k:Nat}:∀{e:qB},po c k e->k<c.nk
 | .fix ..,h=>h.1
 | .row ..,h=>by have:=h.1;omega
theorem Holds.wg{ρ:Env}{β:Nat->Nat}{k:Nat}{w:World}:∀{e:qB},Holds W ρ β k e w->∀b,bK β k e=some b->(b∈W.oS∨W.heap.size<=b)/\b<w.heap.size/\∃o,w.heap[b]? = some o/\Datum o
  | .fix cs t,h,b,hb=>by
    simp only [bK,Option.some.injEq]at hb;subst hb;exact⟨h.1.out,uw h.2,_,h.2,trivial⟩
  | .row ce sz t,h,b,hb=>by
    simp only [bK]at hb;split at hb
    · rename_i hc;simp only [Option.some.injEq]at hb;subst hb;obtain⟨ob,h3,h4⟩:=bY.datum h hc;exact⟨(bY.own h hc).out,uw h3,_,h3,h4⟩
    · cases hb
theorem Holds.jf{ρ ah:Env}{β an:Nat->Nat}{c:aw}{k:Nat}{w w':World}:∀ {e:qB},Holds W ρ β k e w->po c k e->Env.aE c ρ ah->(∀ j,j < c.nk->an j=β j) ->
    (∀b,bK β k e=some b->w'.heap[b]? = w.heap[b]?)->Holds W ah an k e w'
  | .fix cs t,h,hw,hl,hb,hh=>by
    refine⟨by rw [hb k hw.1];exact h.1, ?_⟩;rw [hb k hw.1,xZ hl hb hw.2,hh _ rfl];exact h.2
  | .row ce sz t,h,hw,hl,hb,hh=>by
    have h1:=hw.1;simp only [Holds]at h ⊢;rw [hb k (by omega),hb (k+1) (by omega),hb (k+2) (by omega),hb (k+3) (by omega),uX hl hb hw.2];exact h.heap λh2=>hh (β k) (by simp only [bK,h2,if_true])
theorem DX{β an:Nat->Nat}{c:aw}{k:Nat}:∀{e:qB},po c k e->(∀j,j<c.nk->an j=β j)->bK an k e=bK β k e
 | .fix ..,hw,hb=>by simp only [bK,hb k hw.1]
 | .row ..,hw,hb=>by have:=hw.1;simp only [bK,hb k (by omega),hb (k+1) (by omega)]
def recAt(r:Loop):Option Ex->Loop
 |none => {r with state := .ready,pending:=none}
 |some .normal => {r with state := .busy,pending:=none}
 |some (.exit id) => {r with state := .done,pending:=some (.exit id)}
 |some .ret => {r with state := .done,pending:=some .ret}
 |some (.j4 _)=>r
def marksOf(β:Nat->Nat)(d:List Nat):List Deferred:=d.map λk => {target := .collected (β k),args := #[]}
def gG(β:Nat->Nat)(df:List (FuncId × List (Nat × Nat))):List Deferred:=df.map λx => {target := .fn (.func x.1) (x.2.map λc=>(.pointer (some ⟨β c.1,c.2,none⟩):Value)).toArray,args := #[]}
theorem GD{β an:Nat->Nat}{n:Nat}{df:List (FuncId × List (Nat × Nat))}(h:∀x∈df,∀y∈x.2,y.1<n)(hb:∀k,k<n->an k=β k):gG an df=gG β df:=by
 simp only [gG];refine List.map_congr_left λx hx => ?_;congr 3;exact List.map_congr_left λy hy=>by rw [hb y.1 (h x hx y hy)]
structure Core(W:e_)(R:Nat->Loop)(Z:List Nat)(ρ:Env)(β:Nat->Nat)(st:St)(a:Act)(w:World):Prop where
 size:a.tmps.size=st.n
 tmps:∀i,ay st.t i ≠ .any->a.tmps[i]? = some ((ay st.t i).den ρ β)
 kQ:a.defers=gG β st.df++marksOf β st.d
 below:dT W w
 mem:∀k e,aK st.m st.o k=some e->Holds W ρ β k e w
 inj:∀k k' e e' b,aK st.m st.o k=some e->aK st.m st.o k'=some e'->bK β k e=some b->bK β k' e'=some b->k=k'
 gz:∀k e,fI st.r k=some e->W.heap.size<=β k/\w.heap[β k]? = some (.loop (recAt (R k) e))
 kF:∀k k' e e',fI st.r k=some e->fI st.r k'=some e'->β k=β k'->k=k'
 ia:∀b∈Z++st.d.map β,W.heap.size<=b/\w.heap[b]? = some (.deferred (some []))
 dn:(Z++st.d.map β).Nodup
 wf:st.WF
 kn:cd.den st.k ρ
variable {R:Nat->Loop} {Z:List Nat}
theorem IY{ρ:Env}{st:St}(h:cd.den st.k ρ){g:Nat}(hn:st.ev (.global g) ≠ .any)(β:Nat->Nat):Value.pointer (some ⟨g,0,none⟩)=(st.ev (.global g)).den ρ β:=by
  simp only [St.ev]at hn ⊢;generalize hf:o6 st.k g=u at hn;cases u with
  |none=>exact (hn rfl).elim
  |some p =>
    have:=h _ (Ge hf)
    simp only [Kn.den]at this;show Value.pointer (some ⟨g,0,none⟩)=Value.pointer (some ⟨(ρ.p p).1,(ρ.p p).2+0*0+0,none⟩);rw [this]
theorem Core.eval{ρ:Env}{β:Nat->Nat}{st:St}{a:Act}{w:World}(h:Core W R Z ρ β st a w):∀x:Operand,st.ev x ≠ .any->a.eval x=(st.ev x).den ρ β
  | .tmp t,hn=>by
    have:=h.tmps t hn
    simp only [Act.eval,St.ev,Array.getD_eq_getD_getElem?,this,Option.getD_some]
  | .const v,hn=>((SV.db v st.c ρ β).2 hn).symm
  | .global g,hn=>IY h.kn hn β
  | .func _,hn=>rfl
theorem Core.ops{ρ:Env}{β:Nat->Nat}{st:St}{a:Act}{w:World}(h:Core W R Z ρ β st a w)(o:Oper):eG st o ρ β a:=λx _ hn=>h.eval x hn
theorem Core.fix{ρ:Env}{β:Nat->Nat}{st:St}{a:Act}{w:World}(h:Core W R Z ρ β st a w){k:Nat}{cs:List At}{t:TypeId}(hg:getM st.m k=some (cs,t)) :
  fA W (β k)/\w.heap[β k]? = some (.cells (cs.map (At.den ρ β)).toArray t):=h.mem k _ (pk hg)
theorem Core.aE{ρ ah:Env}{β:Nat->Nat}{st:St}{a:Act}{w:World}(h:Core W R Z ρ β st a w)(hl:Env.aE st.c ρ ah):Core W R Z ah β st a w where
 size:=h.size
 tmps i hn:=by
  rw [h.tmps i hn];exact congrArg some (SV.ae hl (λ_ _=>rfl) (h.wf.t i)).symm
 kQ:=h.kQ
 below:=h.below
 mem k e hg:=(h.mem k e hg).jf (h.wf.pq hg) hl (λ_ _=>rfl) (λ_ _=>rfl)
 inj:=h.inj
 gz:=h.gz
 kF:=h.kF
 ia:=h.ia
 dn:=h.dn
 wf:=h.wf
 kn:=cd.ae hl h.wf.k h.kn
theorem St.WF.grow{st:St}(h:st.WF){c:aw}(hc:st.c.le c):({st with c:=c}:St).WF where
 t i:=SV.aT hc (h.t i)
 m k cs t hg:=⟨Nat.lt_of_lt_of_le (h.m k cs t hg).1 hc.k,AY hc (h.m k cs t hg).2⟩
 o k ce sz t hg:=⟨Nat.lt_of_lt_of_le (h.o k ce sz t hg).1 hc.k,A0 hc (h.o k ce sz t hg).2⟩
 ap:=h.ap
 r k e hg:=Nat.lt_of_lt_of_le (h.r k e hg) hc.k
 d k hk:=Nat.lt_of_lt_of_le (h.d k hk) hc.k
 k:=cd.aT hc h.k
 df x hx y hy:=Nat.lt_of_lt_of_le (h.df x hx y hy) hc.k
structure z6(W:e_)(s1 s':St)(ρ:Env)(C:List Nat)(β an:Nat->Nat)(w w':World):Prop where
 os:w'.os=w.os
 tape:w'.tape=w.tape
 output:w'.output=w.output
 size:w.heap.size<=w'.heap.size
 frame:∀b,b<w.heap.size->(∀k e,k∈C->aK s1.m s1.o k=some e->bK β k e≠some b)->w'.heap[b]? = w.heap[b]?
 off:∀k,¬(s1.c.nk<=k/\k<s'.c.nk)->an k=β k
 new:∀k e',(k∈C∨s1.c.nk<=k)->aK s'.m s'.o k=some e'->Holds W ρ an k e' w'/\∀b,bK an k e'=some b->w.heap.size<=b∨∃j e,j∈C/\aK s1.m s1.o j=some e/\bK β j e=some b/\(j=k∨aK s'.m s'.o j=none)
 inj:∀k k' e e' b,(k∈C∨s1.c.nk<=k)->(k'∈C∨s1.c.nk<=k')->aK s'.m s'.o k=some e->aK s'.m s'.o k'=some e'->bK an k e=some b->bK an k' e'=some b->k=k'
def yv(m:Mem)(o:bq)(l:List Nat)(β:Nat->Nat):Prop:=∀k k' e e' b,k∈l->k'∈l->aK m o k=some e->aK m o k'=some e'->bK β k e=some b->bK β k' e'=some b->k=k'
structure jg(P:Program)(W:e_)(s1:St)(o:Oper)(ρ:Env)(s':St)(sv:SV)(C:List Nat):Prop where
 kn:cd.den s1.k ρ->cd.den s'.k ρ
 GF:s'.df=s1.df
 n:s'.n=s1.n
 rs:s'.r=s1.r
 ds:s'.d=s1.d
 GG:s1.c.le s'.c
 wf:s'.WF
 slot:∀t,ay s'.t t=if o.dst=some t then sv else ay s1.t t
 dst:∀d,o.dst=some d->d<s1.n
 IZ:∀k∈C,k∈aY s1 o/\k<s1.c.nk
 same:∀k,k<s1.c.nk->k ∉ C->aK s'.m s'.o k=aK s1.m s1.o k
 ids:∀k e',(k∈C∨s1.c.nk<=k)->aK s'.m s'.o k=some e'->∀x∈fD e',x∈dM s1 o∨∃j e,j∈ba s1 o++aY s1 o/\aK s1.m s1.o j=some e/\x∈fD e
 Pj:∀(β:Nat->Nat) (a:Act) (w:World),dT W w->eG s1 o ρ β a->gF W s1.m s1.o (ba s1 o++aY s1 o) ρ β w->yv s1.m s1.o (aY s1 o) β ->
  ∀(next:Act->World->Prop) (Q':Exit->Act->World->Prop),(∀an v w',(sv ≠ .any->v=sv.den ρ an)->z6 W s1 s' ρ C β an w w'->next (a.put o.dst v) w')->o.wp P a w next Q'
theorem z6.below{s1 s':St}{ρ:Env}{C:List Nat}{β an:Nat->Nat}{w w':World}(h:z6 W s1 s' ρ C β an w w')(hB:dT W w)(hC:∀k e,k∈C->aK s1.m s1.o k=some e->Holds W ρ β k e w):dT W w' :=
 dT.mk (h.os.trans hB.os) (h.tape.trans hB.tape) (h.output.trans hB.output) (Nat.le_trans hB.size h.size) λb hb hl=>by
  rw [h.frame b (Nat.lt_of_lt_of_le hb hB.size) λk e hk hg lV => ?_]
  ·exact hB.block b hb hl
  ·rcases ((hC k e hk hg).wg b lV).1 with h1|h1
   ·exact hl h1
   ·omega
theorem z6.other{s1 s':St}{ρ:Env}{C:List Nat}{β an:Nat->Nat}{w w':World}(h:z6 W s1 s' ρ C β an w w')(hC:∀k e,k∈C->aK s1.m s1.o k=some e->Holds W ρ β k e w){b:Nat}{o:Obj}(hb:w.heap[b]? = some o)
  (ho:¬Datum o):w'.heap[b]? = some o:=by
 rw [h.frame b (uw hb) λk e hk hg lV => ?_]
 ·exact hb
 ·obtain⟨_,_,o',hc,hd⟩:=(hC k e hk hg).wg b lV;rw [hb]at hc;cases hc;exact ho hd
theorem Tn{s1 s':St}{o:Oper}{ρ:Env}{sv:SV}{C:List Nat}{β:Nat->Nat}{a:Act}{w:World}(hC:Core W R Z ρ β s1 a w)(hF:jg P W s1 o ρ s' sv C){next:Act->World->Prop}(Q':Exit->Act->World->Prop)
    (hn:∀an a' w',(∀k,k<s1.c.nk->an k=β k)->Core W R Z ρ an s' a' w'->next a' w'):o.wp P a w next Q':=by
  refine hF.Pj β a w hC.below (hC.ops o) (λk _ e hg=>hC.mem k e hg) (λk k' e e' b _ _=>hC.inj k k' e e' b) next Q' λan v w' hv hc => ?_
  have hb:∀k,k<s1.c.nk->an k=β k:=λk hk=>hc.off k (by omega);have Bm:∀k e,k∈C->aK s1.m s1.o k=some e->Holds W ρ β k e w:=λk e _ hg=>hC.mem k e hg
  have fh:∀{k e},¬(k∈C∨s1.c.nk<=k)->aK s'.m s'.o k=some e->aK s1.m s1.o k=some e:=λ{k e} hk hg=>by
    rw [<-hF.same k (by omega) (λh=>hk (.inl h))];exact hg
  have I0:∀{k e},¬(k∈C∨s1.c.nk<=k)->aK s1.m s1.o k=some e->∀b,bK β k e=some b->w'.heap[b]? = w.heap[b]? := λ{k e} hk hg b lV=>by
    have hl:=(hC.mem k e hg).wg b lV;refine hc.frame b hl.2.1 λj e' hj fM To => ?_
    have:=hC.inj k j e e' b hg fM lV To
    exact hk (.inl (this▸hj))
  have oW:s1.d.map an=s1.d.map β:=List.map_congr_left λk hk=>hb k (hC.wf.d k hk);refine hn an _ w' hb ⟨by rw [IW,hC.size,hF.n],λi hi => ?_, ?_,hc.below hC.below Bm,λk e hg => ?_,λk k' e e' b hx hy kR mI => ?_,λk e hg => ?_,λk k' e e' hx hy he => ?_,λb qD => ?_, ?_,hF.wf,hF.kn hC.kn⟩
  · rw [hF.slot]at hi ⊢;by_cases hd:o.dst=some i
    · rw [if_pos hd]at hi ⊢;rw [hd,fC i (by rw [hC.size];exact hF.dst i hd),if_pos rfl,hv hi]
    · rw [if_neg hd]at hi ⊢
      have h1:(a.put o.dst v).tmps[i]? = a.tmps[i]? := by
        cases DY:o.dst with
        |none=>rfl
        |some d =>
          rw [fC i (by rw [hC.size];exact hF.dst d DY),if_neg (λe=>hd (by rw [DY,e]))]
      rw [h1,hC.tmps i hi,SV.ae (Env.aq _ ρ) hb (hC.wf.t i)]
  · rw [IX,hC.kQ,hF.ds,hF.GF,GD hC.wf.df hb];simp only [marksOf];exact congrArg _ (List.map_congr_left λk hk=>by rw [hb k (hC.wf.d k hk)])
  · by_cases hk:k∈C∨s1.c.nk<=k
    · exact (hc.new k e hk hg).1
    · have I1:=fh hk hg;exact (hC.mem k e I1).jf (hC.wf.pq I1) (Env.aq _ _) hb (I0 hk I1)
  · have q_:∀ {k k' e e' b},(k∈C∨s1.c.nk<=k)->¬ (k'∈C∨s1.c.nk<=k')->aK s'.m s'.o k=some e->aK s'.m s'.o k'=some e'->bK an k e=some b->bK an k' e'=some b->False:=by
      intro k k' e e' b h1 h2 hx hy kR mI
      have xM:=fh h2 hy;rw [DX (hC.wf.pq xM) hb]at mI
      have hl:=(hC.mem k' e' xM).wg b mI
      rcases (hc.new k e h1 hx).2 b kR with h3|⟨j,ej,h3,h4,h5,_⟩
      · omega
      · have:=hC.inj j k' ej e' b h4 xM h5 mI
        exact h2 (.inl (this▸h3))
    by_cases h1:k∈C∨s1.c.nk<=k<;>by_cases h2:k'∈C∨s1.c.nk<=k'
    · exact hc.inj k k' e e' b h1 h2 hx hy kR mI
    · exact (q_ h1 h2 hx hy kR mI).elim
    · exact (q_ h2 h1 hy hx mI kR).elim
    · have GH:=fh h1 hx;have xM:=fh h2 hy;rw [DX (hC.wf.pq GH) hb]at kR;rw [DX (hC.wf.pq xM) hb]at mI
      exact hC.inj k k' e e' b GH xM kR mI
  · rw [hF.rs]at hg;rw [hb k (hC.wf.r k e hg)];exact⟨(hC.gz k e hg).1,hc.other Bm (hC.gz k e hg).2 (λh=>h)⟩
  · rw [hF.rs]at hx hy;rw [hb k (hC.wf.r k e hx),hb k' (hC.wf.r k' e' hy)]at he;exact hC.kF k k' e e' hx hy he
  · rw [hF.ds,oW]at qD;exact⟨(hC.ia b qD).1,hc.other Bm (hC.ia b qD).2 (λh=>h)⟩
  · rw [hF.ds,oW];exact hC.dn
end Vc
