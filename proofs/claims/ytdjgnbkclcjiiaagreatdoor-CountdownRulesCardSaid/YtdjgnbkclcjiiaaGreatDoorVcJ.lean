import Derived.Test.YtdjgnbkclcjiiaaGreatDoorVcG
import Derived.MapKept
import Derived.Laws.BytesString
import Derived.Laws.CopyOwn
import Derived.RangeFuncRecord
set_option linter.unusedVariables false
set_option linter.unusedSimpArgs false
namespace Vc
open Go Go.RowKit
variable {P:Program} {W:Wld} {Q:Value→Prop} {QM QP:World→Value→Prop}
theorem At.den_flat(ρ:Env)(β β':Nat→Nat):∀ {a:At},a.flat=true→a.den ρ β=a.den ρ β':=by
 intro a h
 cases a <;> first
  | rfl
  | (simp [At.flat]at h;done)
  | (simp only [At.flat,List.isEmpty_iff]at h;subst h;rfl)
theorem zxb(ρ:Env)(β β':Nat→Nat){l:List At}(h:l.all At.flat=true):l.map (At.den ρ β)=l.map (At.den ρ β') :=
 List.map_congr_left fun x hx=>At.den_flat ρ β β' (List.all_eq_true.1 h x hx)
theorem Sg.den_flat(ρ:Env)(β β':Nat→Nat):∀ {s:Sg},s.flat=true→s.den ρ β=s.den ρ β'
 | .ats l,h=>zxb ρ β β' h
 | .var i,_=>rfl
theorem zlc(ρ:Env)(β β':Nat→Nat):∀ {l:CE},ceFlat l=true→ceDen ρ β l=ceDen ρ β' l
  | [],_=>rfl
  | s::r,h=>by
    simp only [ceFlat,List.all_cons,Bool.and_eq_true]at h;simp only [ceDen,Sg.den_flat ρ β β' h.1,zlc ρ β β' (l:=r) h.2]
theorem CV.den_flat(ρ:Env)(β β':Nat→Nat):∀ {c:CV},c.flat=true→c.den ρ β=c.den ρ β'
 | .one a,h=>At.den_flat ρ β β' h
 | .agg l,h=>by simp only [CV.den];rw [zxb ρ β β' h]
theorem SV.den_flat(ρ:Env)(β β':Nat→Nat):∀ {c:SV},svFlat c=true→c.den ρ β=c.den ρ β'
  | .any,_=>rfl
  | .und,_=>rfl
  | .cv c,h=>CV.den_flat ρ β β' h
  | .tup l,h=>by
    simp only [SV.den];rw [List.map_congr_left fun x hx=>CV.den_flat ρ β β' (List.all_eq_true.1 h x hx)]
theorem zma{w:World}{b:Nat}{C:Array Value}{t:TypeId}{mk:Nat × Nat}(h:w.heap[b]? = some (.cells C t mk))(o:Nat):w.cell? ⟨b,o,none⟩=C[o]? := by
 simp [World.cell?,h]
theorem zyb{t:TypeId}{n:Nat}(hz:szAgg P t=some (true,n))(w:World)(b o:Nat)(cs:List Value)(hn:cs.length=n)(h:∀ j v,cs[j]? = some v→w.cell? ⟨b,o + j,none⟩=some v) :
  (Instr.loadAt t (ptr b o)).run P w=.ok (.agg cs.toArray) w:=by
 subst hn
 have:=run_loadCells_list (P:=P) w ⟨b,o,none⟩ cs (fun j v hj=>by rw [zob];exact h j v hj)
 simp only [Instr.loadAt,ptr,Instr.sureAddr,Sem.run_bind,Sem.run_pure,Result.andThen_ok,loadVar,zmi hz,if_true,zka hz,this]
theorem zzb{t:TypeId}{n:Nat}(hz:szAgg P t=some (false,n))(w:World)(b o:Nat)(v:Value)(h:w.cell? ⟨b,o,none⟩=some v) :
  (Instr.loadAt t (ptr b o)).run P w=.ok v w:=by
 simp [Instr.loadAt,ptr,Instr.sureAddr,loadVar,zmi hz,h]
theorem zpi{p:Nat}{ix:IE}{sz:Nat}:∀ (ks:List CK) (off:Nat) (c:Ctr) {K:List At→Ctr→Env→Prop} {ρ:Env},ks.all CK.plain=true→p < c.np→ix.wf c=true →
    doLoads (PA P W Q QM QP) p ix sz off ks c K ρ→∃ l c' ρ',K l c' ρ'∧c.le c'∧Env.like c ρ ρ'∧l.length=ks.length ∧
      ∀ ρ'',Env.like c' ρ' ρ''→∀ β j a,l[j]? = some a→W.seen.cell? ⟨(ρ''.p p).1,(ρ''.p p).2 + (ix.den ρ'').toNat * sz + (off + j),none⟩=some (a.den ρ'' β)
  | [],off,c,K,ρ,_,_,_,h=>⟨[],c,ρ,h,Ctr.le_refl _,Env.like_refl _ _,rfl,fun _ _ _ j a hj=>by simp at hj⟩
  | k::ks,off,c,K,ρ,hpl,hp,hi,h=>by
    simp only [List.all_cons,Bool.and_eq_true]at hpl;obtain⟨ρ1,l1,h1,h2⟩:=zbb [k] c h;have hle:=zx c k;obtain⟨l,c',ρ',q1,q2,q3,q4,q5⟩:=zpi ks (off + 1) (freshC c k) hpl.2 (Nat.lt_of_lt_of_le hp hle.p) (IE.wf_le hle hi) h2;refine⟨fresh1 c k::l,c',ρ',q1,Ctr.le_trans hle q2,Env.like_trans hle l1 q3,by simp [q4],fun ρ'' hl β j a hj => ?_⟩;cases j with
    | zero =>
      simp only [List.getElem?_cons_zero,Option.some.injEq]at hj;subst hj;have l2:Env.like (freshC c k) ρ1 ρ'':=Env.like_trans q2 q3 hl;have l3:Env.like c ρ ρ'':=Env.like_trans hle l1 l2;rw [l3.p p hp,IE.den_like l3 hi,At.den_flat ρ'' β b0 (zve c k hpl.1),At.den_like l2 (β:=b0) (fun _ _=>rfl) (zli c k)];exact h1
    | succ j =>
      have:=q5 ρ'' hl β j a (by simpa using hj)
      rw [show off + (j + 1)=off + 1 + j by omega];exact this
theorem zio{lo:Nat→Prop}{b code n base:Nat}{xs:List Value}{sz:Nat}{t:TypeId}{w:World}(h:RowOld lo b code n base xs sz t w){i:Nat}{v:Value}(hi:xs[i]? = some v):w.cell? ⟨b,i,none⟩=some v:=by
 have hl:i < xs.length:=(List.getElem?_eq_some_iff.1 hi).1
 have hn:0 < n:=by
  rcases Nat.eq_zero_or_pos n with h0 | h0
  ·rw [h.1,h0]at hl;omega
  ·exact h0
 obtain⟨_,_,cur,h1,h2⟩:=zdt h hn;rw [zma h1];rw [← h2,List.getElem?_take]at hi;split at hi
 ·simpa using hi
 ·cases hi
theorem zpp{lo:Nat→Prop}{b code n base:Nat}{xs:List Value}{sz:Nat}{t:TypeId}{w:World}(h:RowOkP lo b code n base xs sz t w)(hz:0 < sz∨t=0){i:Nat}{v:Value}(hi:xs[i]? = some v):w.cell? ⟨b,i,none⟩=some v:=by
 rcases h with h | ⟨h1,h2,h3,h4⟩
 ·exact zio h hi
 ·obtain rfl:t=0:=hz.resolve_left (by omega);obtain⟨_,C,ty,mk,h5,h6⟩:=h4
  have:w.cell? ⟨b,i,none⟩=C[i]? := by simp [World.cell?,h5]
  rw [this];rw [← h6,List.getElem?_take]at hi;split at hi
  ·simpa using hi
  ·cases hi
theorem zoh{ce:CE}{ix:IE}{sz:Nat}:∀ (ks:List CK) (off:Nat) (c:Ctr) {K:List At→Ctr→Env→Prop} {ρ:Env},ks.all CK.plain=true→ceFlat ce=true→ceWf c ce=true→ix.wf c=true →
    doRds (PA P W Q QM QP) ce ix sz off ks c K ρ→∃ l c' ρ',K l c' ρ'∧c.le c'∧Env.like c ρ ρ'∧l.length=ks.length ∧
      ∀ ρ'',Env.like c' ρ' ρ''→∀ β j a,l[j]? = some a→(ceDen ρ'' β ce)[(ix.den ρ'').toNat * sz + (off + j)]? = some (a.den ρ'' β)
  | [],off,c,K,ρ,_,_,_,_,h=>⟨[],c,ρ,h,Ctr.le_refl _,Env.like_refl _ _,rfl,fun _ _ _ j a hj=>by simp at hj⟩
  | k::ks,off,c,K,ρ,hpl,hf,hp,hi,h=>by
    simp only [List.all_cons,Bool.and_eq_true]at hpl;obtain⟨ρ1,l1,h1,h2⟩:=zbb [k] c h;have hle:=zx c k;obtain⟨l,c',ρ',q1,q2,q3,q4,q5⟩:=zoh ks (off + 1) (freshC c k) hpl.2 hf (zmh hle hp) (IE.wf_le hle hi) h2;refine⟨fresh1 c k::l,c',ρ',q1,Ctr.le_trans hle q2,Env.like_trans hle l1 q3,by simp [q4],fun ρ'' hl β j a hj => ?_⟩;cases j with
    | zero =>
      simp only [List.getElem?_cons_zero,Option.some.injEq]at hj;subst hj;have l2:Env.like (freshC c k) ρ1 ρ'':=Env.like_trans q2 q3 hl;have l3:Env.like c ρ ρ'':=Env.like_trans hle l1 l2;rw [zlc ρ'' β b0 hf,zga l3 (β:=b0) (fun _ _=>rfl) hp,IE.den_like l3 hi,At.den_flat ρ'' β b0 (zve c k hpl.1),At.den_like l2 (β:=b0) (fun _ _=>rfl) (zli c k)];exact h1
    | succ j =>
      have:=q5 ρ'' hl β j a (by simpa using hj)
      rw [show off + (j + 1)=off + 1 + j by omega];exact this
theorem zik{ce:CE}{ix:IE}{sz off:Nat}{cs:List At}{p:Nat}(h:knownAt ce ix sz off=some (cs,p)):(∀ ρ,(ix.den ρ).toNat * sz + off=p)∧∀ ρ β,ceDen ρ β ce=cs.map (At.den ρ β):=by
 unfold knownAt at h;split at h
 ·rename_i j cs' h1;simp only [Option.some.injEq,Prod.mk.injEq]at h;obtain⟨rfl,rfl⟩:=h;exact⟨fun _=>rfl,fun ρ β=>znf ρ β h1⟩
 ·cases h
theorem zqp{m:Mem}{o:OMem}(hap:Apart m o){c:Ctr}{t:TypeId}{x:SV}{K:SV→Ctr→Env→Prop}{ρ:Env}(h:doLoad (PA P W Q QM QP) P m o c t x K ρ) :
    Res c ρ K fun sv ρ''=>x ≠ .any∧sv ≠ .any∧∀ β w,Bel W w→RdOk W m o (blksOf (svCells x)) ρ'' β w→(Instr.loadAt t (x.den ρ'' β)).run P w=.ok (sv.den ρ'' β) w:=by
  unfold doLoad at h;generalize hz:szAgg P t=u1 at h;split at h
  · exact h.elim
  · rename_i g n;split at h
    · rename_i k ix sz off;generalize hgo:getO o k=u2 at h;split at h
      · exact h.elim
      · rename_i ce s0 ty;split at h;rotate_left
        · exact h.elim
        rename_i hs0;generalize hkn:knownAt ce ix sz off=u3 at h;split at h
        · rename_i cs p;obtain⟨e1,e2⟩:=zik hkn
          have cell:∀ (ρ'':Env) (β:Nat→Nat) (w:World),RdOk W m o (blksOf (svCells (.cv (.one (.oloc k ix sz off))))) ρ'' β w→∀ (j:Nat) (a:At),cs[j]? = some a→w.cell? ⟨β k,j,none⟩=some (a.den ρ'' β):=by
            intro ρ'' β w hr j a hj;have hrow:=hr k (by simp [svCells,CV.cells,blksOf]) _ (zla (hap k _ hgo) hgo);exact zpp hrow hs0 (by rw [e2];simp [hj])
          split at h
          · rename_i hg;subst hg;split at h
            · rename_i hb;refine Res.pure h fun ρ'' _=>⟨by simp,by simp,fun β w hB hr => ?_⟩
              have:=zyb hz w (β k) p (((cs.drop p).take n).map (At.den ρ'' β)) (by simp;omega) (fun j v hj=>by
                simp only [List.getElem?_map,Option.map_eq_some_iff]at hj;obtain⟨a,ha,rfl⟩:=hj
                have hj2:j < n:=by
                  rcases Nat.lt_or_ge j n with h' | h'
                  · exact h'
                  · rw [List.getElem?_eq_none (by simp;omega)]at ha;cases ha
                rw [List.getElem?_take_of_lt hj2,List.getElem?_drop]at ha;exact cell ρ'' β w hr _ a ha)
              show (Instr.loadAt t (ptr (β k) ((ix.den ρ'').toNat * sz + off))).run P w=_;rw [e1];exact this
            · exact h.elim
          · rename_i hg;have hg':g=false:=by simpa using hg
            subst hg';generalize hc:cs[p]? = u4 at h;split at h
            · rename_i a;refine Res.pure h fun ρ'' _=>⟨by simp,by simp,fun β w hB hr => ?_⟩;show (Instr.loadAt t (ptr (β k) ((ix.den ρ'').toNat * sz + off))).run P w=_;rw [e1];exact zzb hz w (β k) p (a.den ρ'' β) (cell ρ'' β w hr p a hc)
            · exact h.elim
        · generalize hk:cks P 30 t=u4 at h;split at h
          · exact h.elim
          · rename_i ks;by_cases hc:ks.length=(if g=true then n else 1)∧ks.all CK.plain=true∧ceFlat ce=true∧ceWf c ce=true∧ix.wf c=true
            · rw [if_pos hc]at h;obtain⟨hl,hpl,hf,hp,hi⟩:=hc;obtain⟨l,c',ρ',q1,q2,q3,q4,q5⟩:=zoh ks off c hpl hf hp hi h;refine⟨_,c',ρ',q1,q2,q3,fun ρ'' hlk=>⟨by simp,by simp,fun β w hB hr => ?_⟩⟩
              have key:∀ j v,(l.map (At.den ρ'' β))[j]? = some v→w.cell? ⟨β k,(ix.den ρ'').toNat * sz + off + j,none⟩=some v:=by
                intro j v hj;simp only [List.getElem?_map,Option.map_eq_some_iff]at hj;obtain⟨a,ha,rfl⟩:=hj;have hrow:=hr k (by simp [svCells,CV.cells,blksOf]) _ (zla (hap k _ hgo) hgo);rw [Nat.add_assoc];exact zpp hrow hs0 (q5 ρ'' hlk β j a ha)
              cases g with
              | true =>
                have:=zyb hz w _ _ (l.map (At.den ρ'' β)) (by simpa [q4]using hl) key
                cases l <;> exact this
              | false =>
                simp only [Bool.false_eq_true,if_false]at hl;rw [hl]at q4
                match l,q4 with
                | [a],_=>exact zzb hz w _ _ (a.den ρ'' β) (by simpa using key 0 _ rfl)
            · rw [if_neg hc]at h;exact h.elim
    · rename_i k off;generalize hm:getM m k=u2 at h;split at h
      · exact h.elim
      · rename_i cs ty;split at h
        · rename_i hg;subst hg;split at h
          · rename_i hb;refine Res.pure h fun ρ'' _=>⟨by simp,by simp,fun β w hB hr => ?_⟩;obtain⟨_,hh⟩:=hr k (by simp [svCells,CV.cells,blksOf]) _ (zwb hm)
            have:=zyb hz w (β k) off (((cs.drop off).take n).map (At.den ρ'' β)) (by simp;omega) (fun j v hj=>by
              rw [zma hh];simp only [List.getElem?_map,Option.map_eq_some_iff]at hj;obtain⟨a,ha,rfl⟩:=hj
              have hj2:j < n:=by
                rcases Nat.lt_or_ge j n with h' | h'
                · exact h'
                · rw [List.getElem?_eq_none (by simp;omega)]at ha;cases ha
              rw [List.getElem?_take_of_lt hj2,List.getElem?_drop]at ha;simp [ha])
            exact this
          · exact h.elim
        · rename_i hg;have hg':g=false:=by simpa using hg
          subst hg';generalize hc:cs[off]? = u3 at h;split at h
          · rename_i a;refine Res.pure h fun ρ'' _=>⟨by simp,by simp,fun β w hB hr => ?_⟩;obtain⟨_,hh⟩:=hr k (by simp [svCells,CV.cells,blksOf]) _ (zwb hm);exact zzb hz w (β k) off (a.den ρ'' β) (by rw [zma hh];simp [hc])
          · exact h.elim
    · rename_i p ix sz off;generalize hk:cks P 30 t=u2 at h;split at h
      · exact h.elim
      · rename_i ks;by_cases hc:ks.length=(if g=true then n else 1)∧ks.all CK.plain=true∧p < c.np∧ix.wf c=true
        · rw [if_pos hc]at h;obtain⟨hl,hpl,hp,hi⟩:=hc;obtain⟨l,c',ρ',q1,q2,q3,q4,q5⟩:=zpi ks off c hpl hp hi h;refine⟨_,c',ρ',q1,q2,q3,fun ρ'' hlk=>⟨by simp,by simp,fun β w hB hr => ?_⟩⟩
          have key:∀ j v,(l.map (At.den ρ'' β))[j]? = some v→w.cell? ⟨(ρ''.p p).1,(ρ''.p p).2 + (ix.den ρ'').toNat * sz + off + j,none⟩=some v:=by
            intro j v hj;simp only [List.getElem?_map,Option.map_eq_some_iff]at hj;obtain⟨a,ha,rfl⟩:=hj;have h1:=q5 ρ'' hlk β j a ha;rw [← Nat.add_assoc]at h1;exact hB.cell h1
          cases g with
          | true =>
            have:=zyb hz w _ _ (l.map (At.den ρ'' β)) (by simpa [q4]using hl) key
            cases l <;> exact this
          | false =>
            simp only [Bool.false_eq_true,if_false]at hl;rw [hl]at q4
            match l,q4 with
            | [a],_=>exact zzb hz w _ _ (a.den ρ'' β) (by simpa using key 0 _ rfl)
        · rw [if_neg hc]at h;exact h.elim
    · exact h.elim
theorem zrp{m:Mem}{o:OMem}(hap:Apart m o){c:Ctr}{ρ ρ'':Env}{β:Nat→Nat}{w:World}(hl:Env.like c ρ ρ'')(hw:∀ k ce sz t,getO o k=some (ce,sz,t)→ceWf c ce=true) :
    ∀ (ats:List At),RdOk W m o (blksOf ats) ρ'' β w→OwnH W ρ β (namedO o ats) w:=by
  intro ats
  induction ats with
  | nil=>exact fun _=>trivial
  | cons a r ih =>
    intro h;have skip:∀ {k},blksOf (a::r)=k::blksOf r→OwnH W ρ β (namedO o r) w:=fun he=>ih fun j hj=>h j (by rw [he];exact List.mem_cons_of_mem _ hj)
    cases a <;> first
      | exact ih h
      | exact skip rfl
      | skip
    rename_i k;simp only [namedO];have hr:RdOk W m o (blksOf r) ρ'' β w:=fun j hj=>h j (by simp [blksOf,hj]);cases hg:getO o k with
    | none=>exact ih hr
    | some v =>
      obtain⟨ce,sz,t⟩:=v
      have:=h k (by simp [blksOf]) _ (zla (hap k _ hg) hg)
      refine⟨?_,ih hr⟩;rw [← zga hl (β:=β) (fun _ _=>rfl) (hw k ce sz t hg)];exact this
theorem zkb{m:Mem}{o:OMem}(hap:Apart m o){c:Ctr}{ρ ρ'':Env}{β:Nat→Nat}{w:World}(hl:Env.like c ρ ρ'')(hw:∀ k cs t,getM m k=some (cs,t)→cs.all (At.wf c)=true)
    (hwo:∀ k ce sz t,getO o k=some (ce,sz,t)→ceWf c ce=true) :
    ∀ (ats:List At),RdOk W m o (blksOf ats) ρ'' β w→MemH W ρ β (namedM m ats) (namedO o ats) w:=by
  have main:∀ (ats:List At) (o':OMem),OwnH W ρ β o' w→RdOk W m o (blksOf ats) ρ'' β w→MemH W ρ β (namedM m ats) o' w:=by
    intro ats o' ho'
    induction ats with
    | nil=>exact fun _=>ho'
    | cons a r ih =>
      intro h
      have step:∀ k,(∀ j∈k::blksOf r,∀ e,getE m o j=some e→Holds W ρ'' β j e w) →
          MemH W ρ β (match getM m k with | some v=>(k,v)::namedM m r | none=>namedM m r) o' w:=by
        intro k hk;have hr:RdOk W m o (blksOf r) ρ'' β w:=fun j hj=>hk j (by simp [hj]);cases hg:getM m k with
        | none=>exact ih hr
        | some v =>
          obtain⟨cs,t⟩:=v;obtain⟨h1,h2⟩:=hk k (by simp) _ (zwb hg);rw [zha hl (β:=β) (fun _ _=>rfl) (hw k cs t hg)]at h2;exact⟨⟨h1,h2⟩,ih hr⟩
      have skip:∀ {k},blksOf (a::r)=k::blksOf r→MemH W ρ β (namedM m r) o' w:=fun he=>ih fun j hj=>h j (by rw [he];exact List.mem_cons_of_mem _ hj)
      cases a <;> first
        | exact step _ h
        | exact ih h
        | exact skip rfl
  exact fun ats h=>main ats _ (zrp hap hl hwo ats h) h
theorem zud:∀ (l:List TypeId) {ss:List (Bool × List CK)},shapes P l=some ss→(shapeK ss).all CK.plain=true
  | [],ss,h=>by simp only [shapes,Option.some.injEq]at h;subst h;rfl
  | t::l,ss,h=>by
    simp only [shapes]at h;split at h
    · split at h
      · rename_i ks r _ _ h3 hc;simp only [Option.some.injEq]at h;subst h;simp only [shapeK,List.all_append,Bool.and_eq_true];exact⟨hc.2,zud l h3⟩
      · cases h
    · cases h
theorem zmc:∀ (ss:List (Bool × List CK)) (l:List At),l.all At.flat=true→(shapeV ss l).all CV.flat=true
  | [],_,_=>rfl
  | (g,ks)::r,l,h=>by
    have h1:(l.take ks.length).all At.flat=true:=List.all_eq_true.2 fun x hx=>List.all_eq_true.1 h x (List.mem_of_mem_take hx);have h2:(l.drop ks.length).all At.flat=true:=List.all_eq_true.2 fun x hx=>List.all_eq_true.1 h x (List.mem_of_mem_drop hx);simp only [shapeV,List.all_cons,zmc r _ h2,Bool.and_true];unfold cvOf;split
    · rename_i a ha;rw [ha]at h1;simpa [CV.flat]using h1
    · exact h1
theorem zke(c:Ctr):∀ (ss:List (Bool × List CK)) (l:List At),l.all (At.wf c)=true→(shapeV ss l).all (CV.wf c)=true
  | [],_,_=>rfl
  | (g,ks)::r,l,h=>by
    have h1:(l.take ks.length).all (At.wf c)=true:=List.all_eq_true.2 fun x hx=>List.all_eq_true.1 h x (List.mem_of_mem_take hx);have h2:(l.drop ks.length).all (At.wf c)=true:=List.all_eq_true.2 fun x hx=>List.all_eq_true.1 h x (List.mem_of_mem_drop hx);simp only [shapeV,List.all_cons,zke c r _ h2,Bool.and_true];unfold cvOf;split
    · rename_i a ha;rw [ha]at h1;simpa [CV.wf]using h1
    · exact h1
theorem zrf{cs:List CV}(h:cs.all CV.flat=true):svFlat (resV cs)=true:=by
 unfold resV;split
 ·simpa [svFlat]using h
 ·exact h
theorem ztj{c:Ctr}{cs:List CV}(h:cs.all (CV.wf c)=true):(resV cs).wf c=true:=by
 unfold resV;split
 ·simpa [SV.wf]using h
 ·exact h
theorem zng(cs:List CV):resV cs ≠ .any:=by
 unfold resV;split <;> simp
structure Cfg.Ok(G:Cfg):Prop where
 calls:∀ f,G.calls.contains f=true→∀ args w,(callFunc f args).run G.P w=.ok (.enter f args) w
 inl:∀ f,G.inl.contains f=true→∀ args w,(callFunc f args).run G.P w=.ok (.enter f args) w
 sums:∀ e∈G.sums,∀ (A:Alg (Env→Prop)) (yl:Yl (Env→Prop)) (K:Ex→St→Env→Prop) (K':SV→St→Env→Prop),inlX A G (exec A G e.n) yl K e.f e.args e.s K'=askRun A e.asks (K' e.v e.s')
def CallV(G:Cfg)(W:Wld)(m:Mem)(o:OMem)(f:FuncId)(args:List SV)(sv:SV)(ρ:Env):Prop :=
  sv ≠ .any∧(∀ x∈args,x ≠ .any)∧∀ β w,Bel W w→RdOk W m o (blksOf (deepSV m o args)) ρ β w →
    ((callFunc f (args.map (SV.den ρ β)).toArray).run G.P w=.ok (.value (sv.den ρ β)) w ∨
     ((callFunc f (args.map (SV.den ρ β)).toArray).run G.P w=.ok (.enter f (args.map (SV.den ρ β)).toArray) w∧Calls G.P f (args.map (SV.den ρ β)).toArray w (Ret (sv.den ρ β) w)))
theorem zjk{G:Cfg}(hG:G.Ok){m:Mem}{o:OMem}(hap:Apart m o){c:Ctr}{f:FuncId}{args:List SV}{K:SV→Ctr→Env→Prop}{ρ:Env}(hw:∀ k cs t,getM m k=some (cs,t)→cs.all (At.wf c)=true)(hwo:∀ k ce sz t,getO o k=some (ce,sz,t)→ceWf c ce=true)
    (h:doCall (PA G.P W Q QM QP) G m o c f args K ρ):Res c ρ K (CallV G W m o f args):=by
  unfold doCall at h;generalize hf:G.P.funcs[f]? = u1 at h;split at h
  · exact h.elim
  · rename_i fn;generalize hs:shapes G.P fn.resultTypes.toList=u2 at h;split at h
    · exact h.elim
    · rename_i ss;split at h
      · exact h.elim
      · rename_i ha;simp only [not_or,Decidable.not_not]at ha;obtain⟨ha1,ha2⟩:=ha
        have hany:∀ x∈args,x ≠ .any:=by
          intro x hx he;subst he;exact ha1 (List.any_eq_true.2 ⟨_,hx,rfl⟩)
        have hflat:svFlat (resV (shapeV ss (freshL c (shapeK ss))))=true:=zrf (zmc _ _ (zhd _ _ (zud _ hs)));have hwf:(resV (shapeV ss (freshL c (shapeK ss)))).wf (freshLC c (shapeK ss))=true:=ztj (zke _ _ _ (zgd _ _));have hle:=zeb (shapeK ss) c
        have hargs:∀ {ρ1 ρ'':Env} (β:Nat→Nat),Env.like c ρ1 ρ''→args.map (SV.den ρ'' β)=args.map (SV.den ρ1 β):=fun β hl =>
          List.map_congr_left fun x hx=>SV.den_like hl (fun _ _=>rfl) (List.all_eq_true.1 ha2 x hx)
        have hfl:∀ (ρ1:Env) (β:Nat→Nat),args.all svFlat=true→args.map (SV.den ρ1 β)=args.map (SV.den ρ1 b0):=fun ρ1 β hl =>
          List.map_congr_left fun x hx=>SV.den_flat ρ1 β b0 (List.all_eq_true.1 hl x hx)
        split at h
        · generalize extHint G f args=u3 at h;cases u3 with
          | some l =>
            simp only at h;split at h
            · rename_i hl2;obtain⟨hl2,hl3⟩:=hl2;have hflat:svFlat (resV (shapeV ss l))=true:=zrf (zmc _ _ hl3);have hwf:(resV (shapeV ss l)).wf c=true:=ztj (zke _ _ _ hl2);obtain⟨⟨h1,h2⟩,h3⟩:=h;refine⟨_,_,ρ,h3,Ctr.le_refl _,Env.like_refl _ _,fun ρ'' l3=>⟨zng _,hany,fun β w hB hr=>.inl ?_⟩⟩;rw [hargs β l3,hfl ρ β h1,SV.den_flat ρ'' β b0 hflat,SV.den_like l3 (β:=b0) (fun _ _=>rfl) hwf];exact h2 w
            · exact h.elim
          | none =>
          obtain⟨ρ1,l1,⟨h1,h2⟩,h3⟩:=zbb _ c h;refine⟨_,_,ρ1,h3,hle,l1,fun ρ'' hl=>⟨zng _,hany,fun β w hB hr=>.inl ?_⟩⟩;have l3:Env.like c ρ ρ'':=Env.like_trans hle l1 hl;rw [hargs β l3,hfl ρ β h1,SV.den_flat ρ'' β b0 hflat,SV.den_like hl (β:=b0) (fun _ _=>rfl) hwf];exact h2 w
        · split at h
          · rename_i hc;generalize resHint G f args (shapeK ss)=u3 at h;cases u3 with
            | some l =>
              simp only at h;split at h
              · rename_i hl2;obtain⟨hl2,hl3⟩:=hl2;have hflat:svFlat (resV (shapeV ss l))=true:=zrf (zmc _ _ hl3);have hwf:(resV (shapeV ss l)).wf c=true:=ztj (zke _ _ _ hl2);obtain⟨h1,h3⟩:=h;refine⟨_,_,ρ,h3,Ctr.le_refl _,Env.like_refl _ _,fun ρ'' l3=>⟨zng _,hany,fun β w hB hr=>.inr ⟨hG.calls f hc _ w, ?_⟩⟩⟩;rw [SV.den_flat ρ'' β b0 hflat,SV.den_like l3 (β:=b0) (fun _ _=>rfl) hwf];split at h1
                · rename_i hfa;rw [hargs β l3,hfl ρ β hfa];exact h1 w hB
                · rw [hargs β l3];exact h1 β w hB (zkb hap l3 hw hwo _ hr)
              · exact h.elim
            | none =>
              obtain⟨ρ1,l1,h1,h3⟩:=zbb _ c h;refine⟨_,_,ρ1,h3,hle,l1,fun ρ'' hl=>⟨zng _,hany,fun β w hB hr=>.inr ⟨hG.calls f hc _ w, ?_⟩⟩⟩;have l3:Env.like c ρ ρ'':=Env.like_trans hle l1 hl;rw [SV.den_flat ρ'' β b0 hflat,SV.den_like hl (β:=b0) (fun _ _=>rfl) hwf];split at h1
              · rename_i hfa;rw [hargs β l3,hfl ρ β hfa];exact h1 w hB
              · rw [hargs β l3];exact h1 β w hB (zkb hap l3 hw hwo _ hr)
          · exact h.elim
end Vc
set_option linter.unusedVariables false
namespace Vc
open Go Go.RowKit
variable {P:Program} {W:Wld} {Q:Value→Prop} {QM QP:World→Value→Prop}
theorem zet(em:Bool)(d:Nat):∀ (n:Nat) (t:TypeId) (ks:List CK),eqTy P n t=some ks→∀ (ρ:Env) (β:Nat→Nat) (xs:List At) (x:Value) (w:World),xs.length=ks.length→VIs P t ρ β x xs →
    (Instr.checkKey em (d + n) t x).run P w=.ok () w
  | 0,_,_,h=>by cases h
  | n + 1,t,ks,h=>by
    intro ρ β xs x w hl hx;simp only [eqTy]at h;cases hu:P.underlying t with
    | none=>simp [hu]at h
    | some dd =>
      simp only [hu]at h;simp only [VIs,hu]at hx;rw [show d + (n + 1)=(d + n) + 1 from rfl,Instr.checkKey];simp only [Sem.run_bind,run_underlying hu,Result.andThen_ok];cases dd <;> simp only [reduceCtorEq,Option.some.injEq]at h
      case int k=>rfl
      case bool=>rfl
      case string=>rfl
      case struct fs =>
        subst hx;split at h
        · cases h
        · simp only [];rw [← Array.forIn_toList];have hl0:(xs.drop 0).length=ks.length:=by simpa using hl
          generalize fs.toList=L at h ⊢;generalize 0=off at h hl0;clear hl hu
          induction L generalizing off ks with
          | nil=>simp
          | cons fd r ih =>
            simp only [eqFs]at h;split at h
            · cases h
            · rename_i hn;simp only [not_or,Decidable.not_not]at hn;obtain⟨hn,ho⟩:=hn;split at h
              · rename_i k1 g n' h1 h2;split at h
                · rename_i hl1;simp only [Option.map_eq_some_iff]at h;obtain⟨k2,h3,rfl⟩:=h;simp only [List.length_append,List.length_drop]at hl0;subst hl1;have len1:((xs.drop off).take k1.length).length=k1.length:=by simp only [List.length_take,List.length_drop];omega
                  obtain⟨v,p1,v1⟩:=zqj (ρ:=ρ) (β:=β) h2 xs off (fun hg=>zwe _ _ _ h1 _ _ h2 hg) len1 w;have r1:=zet em d n fd.type k1 h1 ρ β _ v w len1 v1;have r2:=ih (off:=off + k1.length) (ks:=k2) h3 (by simp only [List.length_drop];omega);subst ho;simp only [List.forIn_cons,Sem.run_bind,hn,ne_eq,not_false_eq_true,if_true,p1,r1,Result.andThen_ok,Sem.run_pure];simpa only [Sem.run_bind,Sem.run_pure,ne_eq]using r2
                · cases h
              · cases h
      case array m el =>
        subst hx;split at h
        · rename_i k1 g s h1 h2;split at h
          · rename_i hs;subst hs;simp only [Option.some.injEq]at h;subst h;simp only [Std.Legacy.Range.forIn_eq_forIn_range',Std.Legacy.Range.size,Nat.sub_zero,Nat.add_one_sub_one,Nat.div_one]
            have tl:∀ m,(times k1 m).length=m * k1.length:=by
              intro m
              induction m with
              | zero=>simp [times]
              | succ m ih=>simp only [times,List.length_append,ih,Nat.succ_mul];omega
            rw [tl]at hl;have hi:(0 + m) * k1.length≤xs.length:=by rw [Nat.zero_add,hl];exact Nat.le_refl _
            clear hl hu;generalize 0=i at hi ⊢
            induction m generalizing i with
            | zero=>simp
            | succ c ih =>
              have e1:(i + 1 + c) * k1.length≤xs.length:=by rw [show i + 1 + c=i + (c + 1) by omega];exact hi
              have e2:i * k1.length + k1.length≤xs.length:=by
                have:(i + 1) * k1.length≤(i + (c + 1)) * k1.length:=Nat.mul_le_mul_right _ (by omega)
                rw [Nat.succ_mul]at this;omega
              have len1:((xs.drop (i * k1.length)).take k1.length).length=k1.length:=by simp only [List.length_take,List.length_drop];omega
              obtain⟨v,p1,v1⟩:=zqj (ρ:=ρ) (β:=β) h2 xs (i * k1.length) (fun hg=>zwe _ _ _ h1 _ _ h2 hg) len1 w;have r1:=zet em d n el k1 h1 ρ β _ v w len1 v1;have r2:=ih (i + 1) e1;rw [List.range'_succ];simp only [List.forIn_cons,Sem.run_bind,zka h2,p1,r1,Result.andThen_ok,Sem.run_pure];simpa only [Sem.run_bind,Sem.run_pure]using r2
          · cases h
        · cases h
theorem zkn{n:Nat}{t:TypeId}{dd:TypeDesc}{ks:List CK}(hu:P.underlying t=some dd)(h:eqTy P n t=some ks){ρ:Env}{β:Nat→Nat}{xs ys:List At}{e:BE}{x y:Value}(he:eqCells ks xs ys=some e)
    (hx:VIs P t ρ β x xs) (hy:VIs P t ρ β y ys):Instr.sameNow dd x y=none∨Instr.sameNow dd x y=some (e.den ρ):=by
  cases n with
  | zero=>cases h
  | succ n =>
    simp only [eqTy,hu]at h;simp only [VIs,hu]at hx hy;cases dd <;> simp only [reduceCtorEq,Option.some.injEq]at h
    case int k =>
      subst h;obtain⟨a,rfl,rfl⟩:=hx;obtain⟨b,rfl,rfl⟩:=hy;obtain⟨a0,x,b1,y,e1,e2,p1,p2,h1,h2,rfl⟩:=zja he;cases p1;cases p2;simp only [eqCells,Option.some.injEq]at h2;subst h2;simp only [eqOne]at h1;split at h1
      · split at h1
        · rename_i hk;simp only [Option.some.injEq]at h1;subst h1;obtain⟨rfl,rfl⟩:=hk;right;simp only [At.den,BE.den,cmpB,Bool.and_true,Instr.sameNow,if_true]
          try rfl
        · cases h1
      · cases h1
    case bool =>
      subst h;obtain⟨a,rfl,rfl⟩:=hx;obtain⟨b,rfl,rfl⟩:=hy;obtain⟨a0,x,b1,y,e1,e2,p1,p2,h1,h2,rfl⟩:=zja he;cases p1;cases p2;simp only [eqCells,Option.some.injEq]at h2;subst h2;simp only [eqOne]at h1;split at h1
      · simp only [Option.some.injEq]at h1;subst h1;right;simp only [At.den,BE.den,Bool.and_true,Instr.sameNow]
      · cases h1
    case string =>
      subst h;obtain⟨a,rfl,rfl⟩:=hx;obtain⟨b,rfl,rfl⟩:=hy;obtain⟨a0,x,b1,y,e1,e2,p1,p2,h1,h2,rfl⟩:=zja he;cases p1;cases p2;simp only [eqCells,Option.some.injEq]at h2;subst h2;simp only [eqOne]at h1;split at h1
      · rename_i p q hp hq;simp only [Option.some.injEq]at h1;subst h1;rw [zpb hp,zpb hq];right;simp only [BE.den,Bool.and_true,Instr.sameNow];congr 1;rw [Bool.eq_iff_iff,Go.MapKept.bytes_beq,str_eq];simp
      · cases h1
    case struct fs=>exact .inl rfl
    case array m el=>exact .inl rfl
theorem zsf(ρ:Env)(β:Nat→Nat):∀ {ks:List CK} {xs ys:List At} {e:BE},eqCells ks xs ys=some e→e.den ρ=true →
    xs.map (At.den ρ β)=ys.map (At.den ρ β)∧∀ v∈xs.map (At.den ρ β),∀ n,Instr.sameBits (n + 1) v v=true
  | [],xs,ys,e,h,he=>by
    have:=zic ρ h
    have h1:xs=[]:=List.eq_nil_of_length_eq_zero this.1;have h2:ys=[]:=List.eq_nil_of_length_eq_zero this.2;subst h1 h2;exact⟨rfl,fun v hv=>by cases hv⟩
  | k::r,xs,ys,e,h,he=>by
    obtain⟨a,x,b,y,e1,e2,rfl,rfl,h1,h2,rfl⟩:=zja h;simp only [BE.den,Bool.and_eq_true]at he;obtain⟨q1,q2⟩:=zsf ρ β h2 he.2
    have one:a.den ρ β=b.den ρ β∧∀ n,Instr.sameBits (n + 1) (a.den ρ β) (a.den ρ β)=true:=by
      have he1:=he.1;cases k with
      | int k =>
        simp only [eqOne]at h1;split at h1
        · split at h1
          · rename_i hk;simp only [Option.some.injEq]at h1;subst h1;obtain⟨rfl,rfl⟩:=hk;simp only [BE.den,cmpB,decide_eq_true_eq,beq_iff_eq]at he1;simp only [At.den];exact⟨by rw [he1],fun n=>by simp [Instr.sameBits]⟩
          · cases h1
        · cases h1
      | bool =>
        simp only [eqOne]at h1;split at h1
        · simp only [Option.some.injEq]at h1;subst h1;simp only [BE.den,beq_iff_eq]at he1;simp only [At.den];exact⟨by rw [he1],fun n=>by simp [Instr.sameBits]⟩
        · cases h1
      | str =>
        simp only [eqOne]at h1;split at h1
        · rename_i p q hp hq;simp only [Option.some.injEq]at h1;subst h1;simp only [BE.den,decide_eq_true_eq,beq_iff_eq]at he1;rw [zpb hp,zpb hq];exact⟨by rw [he1],fun n=>by simp only [Instr.sameBits];exact (Go.MapKept.bytes_beq _ _).2 rfl⟩
        · cases h1
      | oth=>simp [eqOne]at h1
      | sl sz=>simp [eqOne]at h1
      | own sz t=>simp [eqOne]at h1
    refine⟨by simp only [List.map_cons,one.1,q1],fun v hv n => ?_⟩;simp only [List.map_cons,List.mem_cons]at hv;rcases hv with rfl | hv
    · exact one.2 n
    · exact q2 v hv n
theorem zsp{v:Value}(h:v.oneCell'=true):v.cells=#[v]:=by
 cases v <;> first | rfl | cases h
theorem ztp{t:TypeId}{g:Bool}{n:Nat}(hz:szAgg P t=some (g,n)){v:Value}(h:shOk (shNo g n) v){xs:List At}{ρ:Env}{β:Nat→Nat}(hx:v.cells.toList=xs.map (At.den ρ β)) :
    VIs P t ρ β v xs∧v=(cvOf g xs).den ρ β∧xs.length=n:=by
  obtain⟨d,i,h1,h2,rfl,hg⟩:=zra hz;cases g with
  | true =>
    simp only [shOk,shNo,if_true]at h;rw [if_pos (by omega)]at h;obtain⟨cs,rfl,hs⟩:=h;have hc:cs=(xs.map (At.den ρ β)).toArray:=by apply Array.ext';simpa [Value.cells]using hx
    have hl:xs.length=i.size:=by
      have:cs.size=xs.length:=by rw [hc];simp
      omega
    refine⟨?_, ?_,hl⟩
    · unfold VIs;rw [h1];cases d <;> simp only [reduceCtorEq,Bool.true_eq_false]at hg <;> rw [hc]
    · rw [hc];cases xs with
      | nil=>rfl
      | cons a r=>rfl
  | false =>
    simp only [shOk,shNo,Bool.false_eq_true,if_false,Nat.add_zero]at h;rw [if_neg (by omega)]at h;obtain⟨h3,h4⟩:=h;rw [zsp h3]at hx
    match xs,hx with
    | [a],hx =>
      simp only [List.map_cons,List.map_nil,List.cons.injEq,and_true]at hx;refine⟨?_,hx,by simp only [List.length_cons,List.length_nil];omega⟩;unfold VIs;rw [h1];cases d <;> simp only [reduceCtorEq,Bool.false_eq_true]at hg <;> exact⟨a,rfl,hx⟩
theorem zav{g:Bool}{n:Nat}{v:CV}(h:cvIs g n v=true)(ρ:Env)(β:Nat→Nat):shOk (shNo g n) (v.den ρ β)∧v.cells.length=n:=by
  cases v with
  | one a =>
    simp only [cvIs,Bool.and_eq_true,Bool.not_eq_true',decide_eq_true_eq]at h;obtain⟨rfl,rfl⟩:=h;exact⟨by simp only [shOk,shNo,Bool.false_eq_true,if_false];rw [if_neg (by omega)];exact⟨At.den_one ρ β a,trivial⟩,rfl⟩
  | agg l =>
    simp only [cvIs,Bool.and_eq_true,decide_eq_true_eq]at h;obtain⟨rfl,rfl⟩:=h;refine⟨?_,rfl⟩;simp only [shOk,shNo,if_true];rw [if_pos (by omega)];exact⟨_,rfl,by simp;omega⟩
theorem zfb{t:TypeId}{x:MapTy}(h:mapTy P t=some x):P.underlying t=some (.map x.key x.el)∧eqTy P 30 x.key=some x.ks∧szAgg P x.key=some (x.gk,x.ks.length)∧szAgg P x.el=some (x.ge,x.ne) ∧
  0 < x.ks.length∧0 < x.no∧x.no / 1048576=shNo x.gk x.ks.length∧x.no % 1048576=shNo x.ge x.ne:=by
 unfold mapTy at h;split at h
 ·rename_i key el hu;split at h
  ·rename_i ks gk nk ge ne h1 h2 h3;split at h
   ·rename_i hc;simp only [Option.some.injEq]at h;subst h;obtain⟨rfl,c1,c2,c3⟩:=hc;have b1:shNo ge ne < 1048576:=by unfold shNo;split <;> omega
    have b2:0 < shNo gk ks.length:=by unfold shNo;omega
    refine⟨hu,h1,h2,h3,c1, ?_, ?_, ?_⟩ <;> simp only [MapTy.no] <;> omega
   ·cases h
  ·cases h
 ·cases h
def Finds(P:Program)(key:TypeId)(w:World)(kv:Value)(es:List MapEntry)(i:Nat)(r:Option (Nat × Value)):Prop :=
 (Instr.findAsking key kv es i).run P w=.ok r w∧∀ kd,P.underlying key=some kd→Instr.findNow kd kv es i=none∨Instr.findNow kd kv es i=some r
theorem Finds.run{key:TypeId}{w:World}{kv:Value}{es:List MapEntry}{r:Option (Nat × Value)}(h:Finds P key w kv es 0 r){kd:TypeDesc}(hk:P.underlying key=some kd):(Instr.findKey key kv es).run P w=.ok r w:=by
 unfold Instr.findKey;simp only [Sem.run_bind,run_underlying hk,Result.andThen_ok];rcases h.2 kd hk with h1 | h1 <;> rw [h1]
 ·exact h.1
 ·rfl
def entCells(e:MapEntry):List Value:=e.key.cells.toList++e.val.cells.toList
theorem zlaa{t:TypeId}{ρ:Env}{β:Nat→Nat}{x y:Value}{xs ys:List At}(hx:VIs P t ρ β x xs)(hy:VIs P t ρ β y ys)(h:xs.map (At.den ρ β)=ys.map (At.den ρ β)):x=y:=by
 have one:(∃ a,xs=[a]∧x=a.den ρ β)→(∃ a,ys=[a]∧y=a.den ρ β)→x=y:=by
  rintro ⟨a,rfl,rfl⟩ ⟨b,rfl,rfl⟩;simpa using h
 unfold VIs at hx hy;generalize P.underlying t=u at hx hy;cases u with
 | none=>exact one hx hy
 | some d=>cases d <;> first | exact one hx hy | (simp only at hx hy;rw [hx,hy,h])
theorem zft{t:TypeId}{ρ:Env}{β:Nat→Nat}{x:Value}{xs:List At}(hx:VIs P t ρ β x xs)(h:∀ v∈xs.map (At.den ρ β),∀ n,Instr.sameBits (n + 1) v v=true):Instr.sameBits 10000 x x=true:=by
  have agg:Instr.sameBits 10000 (.agg (xs.map (At.den ρ β)).toArray) (.agg (xs.map (At.den ρ β)).toArray)=true:=by
    show Instr.sameBits (9999 + 1) _ _=true;rw [Instr.sameBits];simp only [beq_self_eq_true,Bool.true_and,List.all_eq_true];intro p hp
    have:p.1=p.2∧p.1∈xs.map (At.den ρ β):=by
      generalize xs.map (At.den ρ β)=l at hp;clear h hx;simp only [List.zip_eq_zipWith]at hp
      induction l with
      | nil=>simp at hp
      | cons a r ih =>
        simp only [List.zipWith_cons_cons,List.mem_cons]at hp;rcases hp with rfl | hp
        · exact⟨rfl,by simp⟩
        · obtain⟨h1,h2⟩:=ih hp;exact⟨h1,List.mem_cons_of_mem _ h2⟩
    rw [← this.1];exact h p.1 this.2 9998
  unfold VIs at hx;split at hx
  · rw [hx];exact agg
  · rw [hx];exact agg
  · obtain⟨a,rfl,rfl⟩:=hx;exact h _ (by simp) 9999
theorem zjd{g:Bool}{n:Nat}{v:Value}(h:shOk (shNo g n) v):v.cells.size=n:=by
  cases g with
  | true =>
    simp only [shOk,shNo,if_true]at h;rw [if_pos (by omega)]at h;obtain⟨cs,rfl,hs⟩:=h;simp only [Value.cells];omega
  | false =>
    simp only [shOk,shNo,Bool.false_eq_true,if_false,Nat.add_zero]at h;rw [if_neg (by omega)]at h;rw [zsp h.1];simp only [List.size_toArray,List.length_cons,List.length_nil];omega
theorem zup{g1 g2:Bool}{nk ne:Nat}{e:MapEntry}(h1:shOk (shNo g1 nk) e.key)(h2:shOk (shNo g2 ne) e.val){r:List MapEntry}{cs:List At}{ρ:Env}{β:Nat→Nat}(h:(e::r).flatMap entCells=cs.map (At.den ρ β)) :
  e.key.cells.toList=(cs.take nk).map (At.den ρ β)∧e.val.cells.toList=((cs.drop nk).take ne).map (At.den ρ β)∧r.flatMap entCells=(cs.drop (nk + ne)).map (At.den ρ β)∧nk + ne≤cs.length:=by
 have s1:e.key.cells.toList.length=nk:=by simpa using zjd h1
 have s2:e.val.cells.toList.length=ne:=by simpa using zjd h2
 simp only [List.flatMap_cons,entCells,List.append_assoc]at h;have hlen:=congrArg List.length h;simp only [List.length_append,List.length_map,s1,s2]at hlen;refine⟨?_, ?_, ?_,by omega⟩
 ·rw [List.map_take,← h,← s1,List.take_left]
 ·rw [List.map_take,List.map_drop,← h]
  conv=>rhs;rw [← s1,List.drop_left,← s2,List.take_left]
 ·rw [List.map_drop,← h,← List.drop_drop]
  conv=>rhs;rw [← s1,List.drop_left,← s2,List.drop_left]
theorem zye{x:MapTy}{t:TypeId}(hx:mapTy P t=some x){c:Ctr}{kc:List At}{found:Nat→List At→Env→Prop}{nof:Unit→Env→Prop}{ρ:Env}:∀ (fuel:Nat) (cs:List At) (i:Nat),
    doEntry (PA P W Q QM QP) c x kc found nof fuel cs i ρ →
    ∃ r:Option (Nat × List At),(match r with | some (j,v)=>found (i + j) v ρ | none=>nof () ρ) ∧
      ∀ (ρ'':Env),Env.like c ρ ρ''→∀ (β:Nat→Nat) (w:World) (kv:Value) (es:List MapEntry),VIs P x.key ρ'' β kv kc→es.flatMap entCells=cs.map (At.den ρ'' β) →
        (∀ e∈es,shOk (shNo x.gk x.ks.length) e.key∧shOk (shNo x.ge x.ne) e.val) →
        Finds P x.key w kv es i (r.map fun y=>(i + y.1,(cvOf x.ge y.2).den ρ'' β)) ∧
        ∀ j v,r=some (j,v)→∃ e,es[j]? = some e∧e.key=kv∧Instr.sameBits 10000 kv kv=true
  | 0,cs,i,h=>h.elim
  | n + 1,cs,i,h=>by
    obtain⟨m1,m2,m3,m4,m5,m6,m7,m8⟩:=zfb hx;obtain⟨kd,hkd⟩:∃ d,P.underlying x.key=some d:=by obtain⟨d,_,h1,_⟩:=zra m3;exact⟨d,h1⟩
    simp only [doEntry]at h;split at h
    · rename_i hcs;subst hcs;refine⟨none,h,fun ρ'' hl β w kv es hv hes hsh=>⟨?_,fun j v hr=>by cases hr⟩⟩
      have:es=[]:=by
        cases es with
        | nil=>rfl
        | cons e r =>
          obtain⟨s1,s2⟩:=hsh e (by simp);obtain⟨_,_,_,h4⟩:=zup s1 s2 hes;simp only [List.length_nil]at h4;omega
      subst this;exact⟨rfl,fun kd _=>.inr rfl⟩
    · rename_i hcs;generalize he:eqCells x.ks kc (cs.take x.ks.length)=u at h;split at h;rotate_left
      · exact h.elim
      rename_i e;split at h;rotate_left
      · exact h.elim
      rename_i hc;obtain⟨hwe,hlen⟩:=hc
      have cons:∀ (ρ'':Env),Env.like c ρ ρ''→∀ (β:Nat→Nat) (w:World) (kv:Value) (es:List MapEntry),VIs P x.key ρ'' β kv kc→es.flatMap entCells=cs.map (At.den ρ'' β) →
          (∀ e∈es,shOk (shNo x.gk x.ks.length) e.key∧shOk (shNo x.ge x.ne) e.val)→∃ e0 r,es=e0::r∧VIs P x.key ρ'' β e0.key (cs.take x.ks.length)∧e0.val=(cvOf x.ge ((cs.drop x.ks.length).take x.ne)).den ρ'' β ∧
            r.flatMap entCells=(cs.drop (x.ks.length + x.ne)).map (At.den ρ'' β)∧(Op.equal x.key kv e0.key).run P w=.ok (e.den ρ) w∧(Instr.sameNow kd kv e0.key=none∨Instr.sameNow kd kv e0.key=some (e.den ρ)):=by
        intro ρ'' hl β w kv es hv hes hsh;cases es with
        | nil =>
          simp only [List.flatMap_nil]at hes;exact (hcs (List.map_eq_nil_iff.1 hes.symm)).elim
        | cons e0 r =>
          obtain⟨s1,s2⟩:=hsh e0 (by simp);obtain⟨a1,a2,a3,a4⟩:=zup s1 s2 hes;obtain⟨b1,b2,b3⟩:=ztp m3 s1 a1;obtain⟨c1,c2,c3⟩:=ztp m4 s2 a2;refine⟨e0,r,rfl,b1,c2,a3, ?_, ?_⟩
          · rw [← BE.den_like hl hwe];exact zjl 9970 30 x.key x.ks m2 ρ'' β kc _ e kv e0.key w he hv b1
          · rw [← BE.den_like hl hwe];exact zkn hkd m2 he hv b1
      rcases zaa h with ⟨h1,h⟩ | ⟨h1,h⟩
      · refine⟨some (0,(cs.drop x.ks.length).take x.ne),h,fun ρ'' hl β w kv es hv hes hsh => ?_⟩;obtain⟨e0,r,rfl,q1,q2,q3,q4,q5⟩:=cons ρ'' hl β w kv es hv hes hsh;rw [h1]at q4 q5;have hden:e.den ρ''=true:=by rw [BE.den_like hl hwe];exact h1
        obtain⟨g1,g2⟩:=zsf ρ'' β he hden;refine⟨⟨?_,fun kd' hkd' => ?_⟩,fun j v hr => ?_⟩
        · simp only [Instr.findAsking,Sem.run_bind,q4,Result.andThen_ok,if_true,Sem.run_pure,Option.map_some,Nat.add_zero,q2]
        · rw [hkd]at hkd';cases hkd';simp only [Instr.findNow];rcases q5 with q5 | q5 <;> rw [q5]
          · exact .inl rfl
          · right;simp only [Option.map_some,Nat.add_zero,q2]
        · simp only [Option.some.injEq,Prod.mk.injEq]at hr;obtain⟨rfl,rfl⟩:=hr;exact⟨e0,rfl,zlaa q1 hv g1.symm,zft hv g2⟩
      · obtain⟨r,h2,h3⟩:=zye hx n _ (i + 1) h;refine⟨r.map fun y=>(y.1 + 1,y.2), ?_,fun ρ'' hl β w kv es hv hes hsh => ?_⟩
        · cases r with
          | none=>exact h2
          | some y=>simpa [Nat.add_assoc,Nat.add_comm 1]using h2
        · obtain⟨e0,r',rfl,q1,q2,q3,q4,q5⟩:=cons ρ'' hl β w kv es hv hes hsh;rw [h1]at q4 q5;obtain⟨⟨f1,f2⟩,f3⟩:=h3 ρ'' hl β w kv r' hv q3 fun e he=>hsh e (by simp [he])
          have er:(Option.map (fun y:Nat × List At=>(i + y.1,(cvOf x.ge y.2).den ρ'' β)) (r.map fun y=>(y.1 + 1,y.2)))=r.map fun y=>(i + 1 + y.1,(cvOf x.ge y.2).den ρ'' β):=by
            cases r with
            | none=>rfl
            | some y=>simp only [Option.map_some,Option.some.injEq,Prod.mk.injEq,and_true];omega
          rw [er];refine⟨⟨?_,fun kd' hkd' => ?_⟩,fun j v hr => ?_⟩
          · simp only [Instr.findAsking,Sem.run_bind,q4,Result.andThen_ok,Bool.false_eq_true,if_false];exact f1
          · rw [hkd]at hkd';cases hkd';simp only [Instr.findNow];rcases q5 with q5 | q5 <;> rw [q5]
            · exact .inl rfl
            · exact f2 _ hkd
          · cases r with
            | none=>cases hr
            | some y =>
              simp only [Option.map_some,Option.some.injEq,Prod.mk.injEq]at hr;obtain⟨rfl,rfl⟩:=hr;obtain⟨e1,k1,k2,k3⟩:=f3 y.1 y.2 rfl;exact⟨e1,by simpa using k1,k2,k3⟩
theorem zcc{t:TypeId}{x:MapTy}(hx:mapTy P t=some x){ob:Option Obj}{n:Nat}{xs:List Value} :
  OthOk ob n xs x.no↔∃ es clock,ob=some (.map es clock)∧es.toList.flatMap entCells=xs∧∀ e∈es.toList,shOk (shNo x.gk x.ks.length) e.key∧shOk (shNo x.ge x.ne) e.val:=by
 obtain⟨m1,m2,m3,m4,m5,m6,m7,m8⟩:=zfb hx;obtain⟨t',ht⟩:∃ t',x.no=t' + 1:=⟨x.no - 1,by omega⟩;rw [← m7,← m8,ht];exact Iff.rfl
theorem zle{g1 g2:Bool}{nk ne:Nat}:∀ (es:List MapEntry),(∀ e∈es,shOk (shNo g1 nk) e.key∧shOk (shNo g2 ne) e.val)→(es.flatMap entCells).length=es.length * (nk + ne)
  | [],_=>by simp
  | e::r,h=>by
    obtain⟨s1,s2⟩:=h e (by simp);have l1:e.key.cells.toList.length=nk:=by simpa using zjd s1
    have l2:e.val.cells.toList.length=ne:=by simpa using zjd s2
    have ih:=zle r fun e he=>h e (by simp [he]);simp only [List.flatMap_cons,List.length_append,ih,entCells,l1,l2,List.length_cons,Nat.succ_mul];omega
theorem zjo{t:TypeId}{x:MapTy}(hx:mapTy P t=some x){v:CV}(hv:cvIs x.gk x.ks.length v=true)(ρ:Env)(β:Nat→Nat):VIs P x.key ρ β (v.den ρ β) v.cells∧v.cells.length=x.ks.length:=by
 obtain⟨m1,m2,m3,m4,m5,m6,m7,m8⟩:=zfb hx;obtain⟨h1,h2⟩:=zav hv ρ β;exact⟨(ztp m3 h1 (xs:=v.cells) (by rw [CV.cells_den])).1,h2⟩
theorem zln{t:TypeId}{x:MapTy}(hx:mapTy P t=some x){w:World}{b:Nat}{es:Array MapEntry}{clock:Nat}(hb:w.heap[b]? = some (.map es clock)){kv:Value}{ρ:Env}{β:Nat→Nat}{kc:List At}
  (hv:VIs P x.key ρ β kv kc) (hkc:kc.length=x.ks.length) {r:Option (Nat × Value)} (hf:Finds P x.key w kv es.toList 0 r) {zv:Value} (hz:(zeroValue x.el).run P w=.ok zv w) (ok:Bool) :
  (Instr.lookup t (.map (some b)) kv ok).run P w=.ok (if ok=true then .tuple #[(r.map (·.2)).getD zv,.bool r.isSome]else (r.map (·.2)).getD zv) w:=by
 obtain⟨m1,m2,m3,m4,m5,m6,m7,m8⟩:=zfb hx;obtain⟨kd,hkd⟩:∃ d,P.underlying x.key=some d:=by obtain⟨d,_,h1,_⟩:=zra m3;exact⟨d,h1⟩
 have hck:(Instr.checkKey es.isEmpty 10000 x.key kv).run P w=.ok () w:=zet es.isEmpty 9970 30 x.key x.ks m2 ρ β kc kv w hkc hv;have hfk:=hf.run hkd;unfold Instr.lookup;simp only [Sem.run_bind,run_underlying m1,Result.andThen_ok,Go.MapKept.run_getObj_map hb,Sem.run_pure];simp only [hck,Result.andThen_ok,hfk];cases r with
 | none=>cases ok <;> simp [hz]
 | some y=>cases ok <;> simp
theorem zmn{t:TypeId}{x:MapTy}(hx:mapTy P t=some x){w:World}{b:Nat}{es:Array MapEntry}{clock:Nat}(hb:w.heap[b]? = some (.map es clock)){kv vv:Value}{ρ:Env}{β:Nat→Nat}{kc:List At}
    (hv:VIs P x.key ρ β kv kc) (hkc:kc.length=x.ks.length) {r:Option (Nat × Value)} (hf:Finds P x.key w kv es.toList 0 r) (hr:∀ i v,r=some (i,v)→∃ e,es.toList[i]? = some e∧e.key=kv∧Instr.sameBits 10000 kv kv=true) :
    (Instr.mapUpdate t (.map (some b)) kv vv).run P w=.ok () {w with heap:=w.heap.setIfInBounds b (match r with
      | some (i,_)=>.map (es.modify i fun e => {e with key:=kv,val:=vv}) clock
      | none=>.map (es.push {key:=kv,val:=vv,born:=clock}) (clock + 1))}:=by
  obtain⟨m1,m2,m3,m4,m5,m6,m7,m8⟩:=zfb hx;obtain⟨kd,hkd⟩:∃ d,P.underlying x.key=some d:=by obtain⟨d,_,h1,_⟩:=zra m3;exact⟨d,h1⟩
  have hck:(Instr.checkKey false 10000 x.key kv).run P w=.ok () w:=zet false 9970 30 x.key x.ks m2 ρ β kc kv w hkc hv;have hfk:=hf.run hkd;unfold Instr.mapUpdate;simp only [Sem.run_bind,run_underlying m1,Result.andThen_ok,Go.MapKept.run_getObj_map hb];simp only [hck,Result.andThen_ok,hfk];cases r with
  | none=>simp only [Go.MapKept.run_setObj_map _ hb]
  | some y =>
    obtain⟨i,v⟩:=y;obtain⟨e,h1,h2,h3⟩:=hr i v rfl;have h4:es[i]? = some e:=by simpa using h1
    simp only [h4,Option.map_some,Option.getD_some,h2,Instr.keyThatStays,h3,if_true,Sem.run_bind,Sem.run_pure,Result.andThen_ok,Go.MapKept.run_setObj_map _ hb]
theorem ztf{g1 g2:Bool}{nk ne:Nat}{kv vv:Value}:∀ (es:List MapEntry) (i:Nat) {e:MapEntry},es[i]? = some e→e.key=kv→(∀ e∈es,shOk (shNo g1 nk) e.key∧shOk (shNo g2 ne) e.val) →
    (es.modify i fun e => {e with key:=kv,val:=vv}).flatMap entCells=(es.flatMap entCells).take (i * (nk + ne) + nk)++vv.cells.toList++(es.flatMap entCells).drop (i * (nk + ne) + nk + ne)
  | [],i,e,h,_,_=>by simp at h
  | e0::r,0,e,h,hk,hs=>by
    simp only [List.getElem?_cons_zero,Option.some.injEq]at h;subst h;obtain⟨s1,s2⟩:=hs e0 (by simp);have l1:e0.key.cells.toList.length=nk:=by simpa using zjd s1
    have l2:e0.val.cells.toList.length=ne:=by simpa using zjd s2
    simp only [List.modify_zero_cons,List.flatMap_cons,Nat.zero_mul,Nat.zero_add];subst hk
    have t1:(entCells e0++r.flatMap entCells).take nk=e0.key.cells.toList:=by
      unfold entCells;rw [List.append_assoc,← l1,List.take_left]
    have t2:(entCells e0++r.flatMap entCells).drop (nk + ne)=r.flatMap entCells:=by
      have:(entCells e0).length=nk + ne:=by unfold entCells;rw [List.length_append,l1,l2]
      rw [← this,List.drop_left]
    rw [t1,t2];simp [entCells]
  | e0::r,i + 1,e,h,hk,hs=>by
    obtain⟨s1,s2⟩:=hs e0 (by simp);have l1:e0.key.cells.toList.length=nk:=by simpa using zjd s1
    have l2:e0.val.cells.toList.length=ne:=by simpa using zjd s2
    have l3:(entCells e0).length=nk + ne:=by unfold entCells;rw [List.length_append,l1,l2]
    have ih:=ztf (vv:=vv) r i (e:=e) (by simpa using h) hk fun e he=>hs e (by simp [he]);simp only [List.modify_succ_cons,List.flatMap_cons]
    rw [ih,show (i + 1) * (nk + ne) + nk=(entCells e0).length + (i * (nk + ne) + nk) by rw [l3,Nat.succ_mul];omega,
      Nat.add_assoc (entCells e0).length,List.take_length_add_append,List.drop_length_add_append]
    simp only [List.append_assoc]
def atOfV:Value→At
 | .int k n=>.int k (.lit n)
 | .bool b=>.bool (.lit b)
 | .string s=>.str s.data.toList
 | _=>.nilp
theorem zcw{k:CK}{v:Value}(h:ckVal k v=true)(ρ:Env)(β:Nat→Nat):(atOfV v).den ρ β=v:=by
 cases k <;> cases v <;> first | rfl | (simp [ckVal]at h;done) | skip
theorem zdw{k:CK}{a:At}{v:Value}(ha:keyKind k a=true)(hv:ckVal k v=true)(ρ:Env)(β:Nat→Nat):∃ e,eqOne k a (atOfV v)=some e∧e.den ρ=valEq (a.den ρ β) v:=by
  cases k with
  | int k =>
    cases v <;> simp only [ckVal,Bool.false_eq_true,decide_eq_true_eq]at hv;rename_i k' n;subst hv;cases a <;> simp only [keyKind,Bool.false_eq_true,decide_eq_true_eq]at ha;subst ha;rename_i e;exact⟨.cmp .eql e (.lit n),by simp only [eqOne,atOfV,and_self,if_true],by simp [BE.den,cmpB,IE.den,At.den,valEq]⟩
  | bool =>
    cases v <;> simp only [ckVal,Bool.false_eq_true]at hv;cases a <;> simp only [keyKind,Bool.false_eq_true]at ha;exact⟨_,rfl,rfl⟩
  | str =>
    cases v <;> simp only [ckVal,Bool.false_eq_true]at hv;rename_i s;simp only [keyKind,Option.isSome_iff_exists]at ha;obtain⟨p,hp⟩:=ha;refine⟨.seq p (.lit s.data.toList),by simp only [eqOne,atOfV,hp];rfl, ?_⟩;rw [zpb hp];cases p <;> simp only [BE.den,SE.den,valEq] <;> congr
  | oth=>cases a <;> simp [keyKind]at ha
  | sl z=>cases a <;> simp [keyKind]at ha
  | own z t=>cases a <;> simp [keyKind]at ha
theorem zol(ρ:Env)(β:Nat→Nat):∀ {ks:List CK} {kc:List At} {vs:List Value},keyKinds ks kc=true→ckVals ks vs=true→∃ e,eqCells ks kc (vs.map atOfV)=some e∧e.den ρ=keyEq (kc.map (At.den ρ β)) vs
  | [],[],[],_,_=>⟨_,rfl,rfl⟩
  | [],_::_,_,h,_=>by simp [keyKinds]at h
  | [],_,_::_,_,h=>by simp [ckVals]at h
  | _::_,[],_,h,_=>by simp [keyKinds]at h
  | _::_,_::_,[],_,h=>by simp [ckVals]at h
  | k::r,a::l,v::vs,h1,h2=>by
    simp only [keyKinds,Bool.and_eq_true]at h1;simp only [ckVals,Bool.and_eq_true]at h2;obtain⟨e1,p1,p2⟩:=zdw h1.1 h2.1 ρ β;obtain⟨e2,q1,q2⟩:=zol ρ β h1.2 h2.2;exact⟨.and e1 e2,by simp only [List.map_cons,eqCells,p1,q1],by simp only [BE.den,p2,q2,List.map_cons,keyEq]⟩
theorem znn(ρ:Env)(β:Nat→Nat):∀ {ks:List CK} {vs:List Value},ckVals ks vs=true→(vs.map atOfV).map (At.den ρ β)=vs
  | [],[],_=>rfl
  | [],_::_,h=>by simp [ckVals]at h
  | _::_,[],h=>by simp [ckVals]at h
  | k::r,v::vs,h=>by
    simp only [ckVals,Bool.and_eq_true]at h;simp only [List.map_cons,zcw h.1,znn ρ β h.2]
theorem zwr{g1 g2:Bool}{nk ne:Nat}{e:MapEntry}(h1:shOk (shNo g1 nk) e.key)(h2:shOk (shNo g2 ne) e.val)(r:List MapEntry) :
  ((e::r).flatMap entCells).take nk=e.key.cells.toList∧((e::r).flatMap entCells).drop (nk + ne)=r.flatMap entCells∧(((e::r).flatMap entCells).drop nk).take ne=e.val.cells.toList∧nk + ne≤((e::r).flatMap entCells).length:=by
 have s1:e.key.cells.toList.length=nk:=by simpa using zjd h1
 have s2:e.val.cells.toList.length=ne:=by simpa using zjd h2
 simp only [List.flatMap_cons,entCells,List.append_assoc];refine⟨?_, ?_, ?_, ?_⟩
 ·rw [← s1,List.take_left]
 ·rw [← List.drop_drop,← s1,List.drop_left,← s2,List.drop_left]
 ·rw [← s1,List.drop_left,← s2,List.take_left]
 ·simp only [List.length_append,s1,s2];omega
theorem zmaa{g1 g2:Bool}{nk ne:Nat}:∀ (es:List MapEntry) (i:Nat) {e:MapEntry},(∀ e∈es,shOk (shNo g1 nk) e.key∧shOk (shNo g2 ne) e.val)→es[i]? = some e→∀ {k:Nat},k < ne →
    (es.flatMap entCells)[i * (nk + ne) + (nk + k)]? = e.val.cells.toList[k]?
  | [],i,e,_,h,_,_=>by simp at h
  | e0::r,0,e,hs,h,k,hk=>by
    simp only [List.getElem?_cons_zero,Option.some.injEq]at h;subst h;obtain⟨t1,t2,t3,t4⟩:=zwr (hs e0 (by simp)).1 (hs e0 (by simp)).2 r;rw [Nat.zero_mul,Nat.zero_add,← t3,List.getElem?_take_of_lt hk,List.getElem?_drop]
  | e0::r,i + 1,e,hs,h,k,hk=>by
    obtain⟨t1,t2,t3,t4⟩:=zwr (hs e0 (by simp)).1 (hs e0 (by simp)).2 r;have ih:=zmaa r i (fun e he=>hs e (by simp [he])) (by simpa using h) hk;rw [← ih,← t2,List.getElem?_drop];congr 1;rw [Nat.succ_mul];omega
theorem zph{x:MapTy}{t:TypeId}(hx:mapTy P t=some x){kc:List At}(hkk:keyKinds x.ks kc=true){ρ:Env}{β:Nat→Nat}{w:World}{kv:Value}(hv:VIs P x.key ρ β kv kc) :
    ∀ (es:List MapEntry) (f i:Nat),es.length≤f→(∀ e∈es,shOk (shNo x.gk x.ks.length) e.key∧shOk (shNo x.ge x.ne) e.val)→keysOkF x.ks (x.ks.length + x.ne) f (es.flatMap entCells)=true →
      Finds P x.key w kv es i ((mfindF x.ks.length (x.ks.length + x.ne) (kc.map (At.den ρ β)) f (es.flatMap entCells)).map fun j=>(i + j,((es[j]?).map (·.val)).getD undef)) ∧
      ∀ j,mfindF x.ks.length (x.ks.length + x.ne) (kc.map (At.den ρ β)) f (es.flatMap entCells)=some j→∃ e,es[j]? = some e∧e.key=kv∧Instr.sameBits 10000 kv kv=true
  | [],f,i,_,_,_=>by
    have h0:mfindF x.ks.length (x.ks.length + x.ne) (kc.map (At.den ρ β)) f (([]:List MapEntry).flatMap entCells)=none:=by cases f <;> rfl
    rw [h0];exact⟨⟨rfl,fun kd _=>.inr rfl⟩,fun j h=>by cases h⟩
  | e0::r,0,i,hf,_,_=>by simp at hf
  | e0::r,f + 1,i,hf,hsh,hk=>by
    obtain⟨m1,m2,m3,m4,m5,m6,m7,m8⟩:=zfb hx;obtain⟨kd,hkd⟩:∃ d,P.underlying x.key=some d:=by obtain⟨d,_,h1,_⟩:=zra m3;exact⟨d,h1⟩
    obtain⟨s1,s2⟩:=hsh e0 (by simp);obtain⟨t1,t2,t3,t4⟩:=zwr s1 s2 r
    have hne:∃ a l,(e0::r).flatMap entCells=a::l:=by
      cases hc:(e0::r).flatMap entCells with
      | nil=>rw [hc]at t4;simp only [List.length_nil]at t4;omega
      | cons a l=>exact⟨a,l,rfl⟩
    have hk':ckVals x.ks e0.key.cells.toList=true∧keysOkF x.ks (x.ks.length + x.ne) f (r.flatMap entCells)=true:=by
      obtain⟨a,l,hal⟩:=hne;rw [hal,keysOkF,← hal,t1,t2,Bool.and_eq_true]at hk
      · exact hk
      · intro h;cases h
    have hm:mfindF x.ks.length (x.ks.length + x.ne) (kc.map (At.den ρ β)) (f + 1) ((e0::r).flatMap entCells)=if keyEq (kc.map (At.den ρ β)) e0.key.cells.toList=true then some 0 else (mfindF x.ks.length (x.ks.length + x.ne) (kc.map (At.den ρ β)) f (r.flatMap entCells)).map (· + 1):=by
      obtain⟨a,l,hal⟩:=hne;rw [hal,mfindF,← hal,t1,t2];intro h;cases h
    rw [hm];obtain⟨e,he,hden⟩:=zol ρ β hkk hk'.1;obtain⟨b1,b2,b3⟩:=ztp m3 s1 (xs:=e0.key.cells.toList.map atOfV) (ρ:=ρ) (β:=β) (znn ρ β hk'.1).symm
    have q4:(Op.equal x.key kv e0.key).run P w=.ok (keyEq (kc.map (At.den ρ β)) e0.key.cells.toList) w:=by
      rw [← hden];exact zjl 9970 30 x.key x.ks m2 ρ β kc _ e kv e0.key w he hv b1
    have q5:Instr.sameNow kd kv e0.key=none∨Instr.sameNow kd kv e0.key=some (keyEq (kc.map (At.den ρ β)) e0.key.cells.toList):=by
      rw [← hden];exact zkn hkd m2 he hv b1
    cases hq:keyEq (kc.map (At.den ρ β)) e0.key.cells.toList with
    | true =>
      rw [hq]at q4 q5;rw [if_pos rfl];obtain⟨g1,g2⟩:=zsf ρ β he (by rw [hden,hq]);refine⟨⟨?_,fun kd' hkd' => ?_⟩,fun j hj => ?_⟩
      · simp only [Instr.findAsking,Sem.run_bind,q4,Result.andThen_ok,if_true,Sem.run_pure,Option.map_some,Nat.add_zero,List.getElem?_cons_zero,Option.getD_some]
      · rw [hkd]at hkd';cases hkd';simp only [Instr.findNow];rcases q5 with q5 | q5 <;> rw [q5]
        · exact .inl rfl
        · right;simp only [Option.map_some,Nat.add_zero,List.getElem?_cons_zero,Option.getD_some]
      · simp only [Option.some.injEq]at hj;subst hj;exact⟨e0,rfl,zlaa b1 hv g1.symm,zft hv g2⟩
    | false =>
      rw [hq]at q4 q5;rw [if_neg (by simp)];obtain⟨⟨f1,f2⟩,f3⟩:=zph hx hkk (w:=w) hv r f (i + 1) (by simp at hf;omega) (fun e he=>hsh e (by simp [he])) hk'.2
      have er:(Option.map (fun j:Nat=>(i + j,(((e0::r)[j]?).map (·.val)).getD undef)) ((mfindF x.ks.length (x.ks.length + x.ne) (kc.map (At.den ρ β)) f (r.flatMap entCells)).map (· + 1)))=(mfindF x.ks.length (x.ks.length + x.ne) (kc.map (At.den ρ β)) f (r.flatMap entCells)).map fun j=>(i + 1 + j,((r[j]?).map (·.val)).getD undef):=by
        cases mfindF x.ks.length (x.ks.length + x.ne) (kc.map (At.den ρ β)) f (r.flatMap entCells)with
        | none=>rfl
        | some y=>simp only [Option.map_some,List.getElem?_cons_succ,Option.some.injEq,Prod.mk.injEq,and_true];omega
      rw [er];refine⟨⟨?_,fun kd' hkd' => ?_⟩,fun j hj => ?_⟩
      · simp only [Instr.findAsking,Sem.run_bind,q4,Result.andThen_ok,Bool.false_eq_true,if_false];exact f1
      · rw [hkd]at hkd';cases hkd';simp only [Instr.findNow];rcases q5 with q5 | q5 <;> rw [q5]
        · exact .inl rfl
        · exact f2 _ hkd
      · simp only [Option.map_eq_some_iff]at hj;obtain⟨j0,hj0,rfl⟩:=hj;obtain⟨e1,k1,k2,k3⟩:=f3 j0 hj0;exact⟨e1,by simpa using k1,k2,k3⟩
theorem zkk{x:MapTy}{c:Ctr}{ce:CE}{kc:List At}{K:IE→Ctr→Env→Prop}{ρ:Env}(h:doFind (PA P W Q QM QP) c x ce kc K ρ) :
  keyKinds x.ks kc=true∧ceFlat ce=true∧kc.all At.flat=true∧ceWf c ce=true∧kc.all (At.wf c)=true∧∃ ρ1,K (.var c.ni) {c with ni:=c.ni + 1} ρ1∧Env.like c ρ ρ1∧∀ ρ'',Env.like {c with ni:=c.ni + 1} ρ1 ρ''→∀ β,
   keysOk x.ks (x.ks.length + x.ne) (ceDen ρ'' β ce)=true∧(IE.var c.ni).den ρ''=mfind x.ks.length (x.ks.length + x.ne) (kc.map (At.den ρ'' β)) (ceDen ρ'' β ce):=by
 unfold doFind at h;split at h;rotate_left
 ·exact h.elim
 rename_i hc;obtain⟨c1,c2,c3,c4,c5⟩:=hc;obtain⟨h1,h2⟩:=h;refine⟨c1,c2,c3,c4,c5,ρ.setI c.ni (mfind x.ks.length (x.ks.length + x.ne) (kc.map (At.den ρ b0)) (ceDen ρ b0 ce)),h2 _ rfl,zsc c ρ _,fun ρ'' hl β => ?_⟩;have hl0:Env.like c ρ ρ'':=Env.like_trans (Ctr.le_ni c 1) (zsc c ρ _) hl;rw [zlc ρ'' β b0 c2,zga hl0 (fun _ _=>rfl) c4,zxb ρ'' β b0 c3,zha hl0 (fun _ _=>rfl) c5];refine⟨h1, ?_⟩
 have:=hl.i c.ni (by show c.ni < c.ni + 1;omega)
 simp only [IE.den,this,Env.setI,if_true]
theorem zbn{m:Mem}{o:OMem}(hap:Apart m o){c:Ctr}{t:TypeId}{x k:SV}{ok:Bool}{K:SV→Ctr→Env→Prop}{ρ:Env}(h:doLookup (PA P W Q QM QP) P o c t x k ok K ρ) :
    Res c ρ K fun sv ρ''=>x ≠ .any∧k ≠ .any∧sv ≠ .any∧∀ β w,RdOk W m o (blksOf (svCells x)) ρ'' β w→(Instr.lookup t (x.den ρ'' β) (k.den ρ'' β) ok).run P w=.ok (sv.den ρ'' β) w:=by
  unfold doLookup at h;generalize hx:mapTy P t=u1 at h;split at h;rotate_left
  · exact h.elim
  rename_i y j kv;generalize hgo:getO o j=u2 at h;generalize hz:zeroA P y.el=u3 at h;split at h;rotate_left
  · exact h.elim
  rename_i ce sz tc z;generalize hce:ceAts ce=u4 at h;split at h;rotate_left
  · clear hce;generalize hls:cks P 30 y.el=u5 at h;split at h;rotate_left
    · exact h.elim
    rename_i ls;split at h;rotate_left
    · exact h.elim
    rename_i hc;obtain⟨c1,rfl,rfl,c4,c5⟩:=hc;obtain⟨g1,g2,g3,g4,g5,ρ1,h1,hl1,hfin⟩:=zkk h;obtain⟨m1,m2,m3,m4,m5,m6,m7,m8⟩:=zfb hx;have hle1:c.le {c with ni:=c.ni + 1}:=Ctr.le_ni c 1;have g4':ceWf {c with ni:=c.ni + 1} ce=true:=zmh hle1 g4
    have run:∀ ρ'',Env.like {c with ni:=c.ni + 1} ρ1 ρ''→∀ β w,RdOk W m o (blksOf (svCells (.cv (.one (.omap j))))) ρ'' β w →
        ∃ es:List MapEntry,es.flatMap entCells=ceDen ρ'' β ce∧(∀ e∈es,shOk (shNo y.gk y.ks.length) e.key∧shOk (shNo y.ge y.ne) e.val) ∧
        (∀ i,mfindF y.ks.length (y.ks.length + y.ne) (kv.cells.map (At.den ρ'' β)) (ceDen ρ'' β ce).length (ceDen ρ'' β ce)=some i→∃ e,es[i]? = some e) ∧
        (Instr.lookup t ((SV.cv (.one (.omap j))).den ρ'' β) ((SV.cv kv).den ρ'' β) ok).run P w =
          .ok (if ok=true then .tuple #[(((mfindF y.ks.length (y.ks.length + y.ne) (kv.cells.map (At.den ρ'' β)) (ceDen ρ'' β ce).length (ceDen ρ'' β ce)).map fun i=>((es[i]?).map (·.val)).getD undef)).getD (z.den ρ'' β),.bool (mfindF y.ks.length (y.ks.length + y.ne) (kv.cells.map (At.den ρ'' β)) (ceDen ρ'' β ce).length (ceDen ρ'' β ce)).isSome]
            else (((mfindF y.ks.length (y.ks.length + y.ne) (kv.cells.map (At.den ρ'' β)) (ceDen ρ'' β ce).length (ceDen ρ'' β ce)).map fun i=>((es[i]?).map (·.val)).getD undef)).getD (z.den ρ'' β)) w:=by
      intro ρ'' hl β w hr;have hrow:=hr j (by simp [svCells,CV.cells,blksOf]) _ (zla (hap j _ hgo) hgo);rcases hrow with hrow | ⟨_,_,_,ho⟩
      · exact absurd hrow.2.1 (by omega)
      obtain⟨es,clock,hb,hes,hsh⟩:=(zcc hx).1 ho;obtain⟨k1,k2⟩:=zjo hx c1 ρ'' β
      have hlen:es.toList.length≤(ceDen ρ'' β ce).length:=by
        rw [← hes,zle es.toList hsh];exact Nat.le_mul_of_pos_right _ (by omega)
      have hok:=(hfin ρ'' hl β).1;obtain⟨f1,f2⟩:=zph hx g1 (w:=w) k1 es.toList _ 0 hlen hsh (by rw [hes];exact hok);rw [hes]at f1 f2;refine⟨es.toList,hes,hsh,fun i hi=>by obtain⟨e,he,_⟩:=f2 i hi;exact⟨e,he⟩, ?_⟩
      have:=zln hx hb k1 k2 f1 (zjb hz ρ'' β w c).1 ok
      refine this.trans ?_;simp only [Option.map_map,Option.isSome_map,Function.comp_def]
    rcases zaa h1 with ⟨e1,h1⟩ | ⟨e1,h1⟩
    · obtain⟨l,c2,ρ2,q1,q2,q3,q4,q5⟩:=zoh (ix:=IE.var c.ni) ls y.ks.length _ c5 g2 g4' (by show decide (c.ni < c.ni + 1)=true;simp) h1;have q4':=q4.trans c4;refine⟨_,c2,ρ2,q1,Ctr.le_trans hle1 q2,Env.like_trans hle1 hl1 q3,fun ρ'' hl=>⟨by simp,by simp,by cases ok <;> simp,fun β w hr => ?_⟩⟩;have hl':Env.like {c with ni:=c.ni + 1} ρ1 ρ'':=Env.like_trans q2 q3 hl;obtain⟨es,hes,hsh,hget,hrun⟩:=run ρ'' hl' β w hr;rw [hrun];have hidx:=(hfin ρ'' hl' β).2
      have hge:0≤(IE.var c.ni).den ρ'':=by
        have e0:(IE.var c.ni).den ρ''=(IE.var c.ni).den ρ1:=IE.den_like hl' (by show decide (c.ni < c.ni + 1)=true;simp);rw [e0];simpa [BE.den,cmpB,IE.den]using e1
      unfold mfind at hidx;cases hmf:mfindF y.ks.length (y.ks.length + y.ne) (kv.cells.map (At.den ρ'' β)) (ceDen ρ'' β ce).length (ceDen ρ'' β ce)with
      | none=>rw [hmf]at hidx;simp only at hidx;omega
      | some i =>
        rw [hmf]at hidx;simp only at hidx;obtain⟨e,he⟩:=hget i hmf;have hmem:=hsh e (List.mem_of_getElem? he)
        have hval:e.val.cells.toList=l.map (At.den ρ'' β):=by
          have hz2:e.val.cells.toList.length=y.ne:=by simpa using zjd hmem.2
          apply List.ext_getElem?;intro k;by_cases hk:k < y.ne
          · have ha:l[k]? = some (l[k]'(by omega)):=List.getElem?_eq_getElem (by omega);have h5:=q5 ρ'' hl β k _ ha;rw [hidx]at h5;rw [List.getElem?_map,ha,Option.map_some,← h5,← hes,show ((i:Int)).toNat=i from rfl];exact (zmaa es i hsh he hk).symm
          · rw [List.getElem?_eq_none (by omega),List.getElem?_eq_none (by simp;omega)]
        have hv2:e.val=(cvOf y.ge l).den ρ'' β:=(ztp m4 hmem.2 hval).2.1;have he':(es[i]?).map (·.val)=some ((cvOf y.ge l).den ρ'' β):=by rw [he,Option.map_some,hv2]
        simp only [Option.map_some,he',Option.getD_some,Option.isSome_some];cases ok <;> rfl
    · refine⟨_,_,ρ1,h1,hle1,hl1,fun ρ'' hl=>⟨by simp,by simp,by cases ok <;> simp,fun β w hr => ?_⟩⟩;obtain⟨es,hes,hsh,hget,hrun⟩:=run ρ'' hl β w hr;rw [hrun];have hidx:=(hfin ρ'' hl β).2
      have hge:¬ 0≤(IE.var c.ni).den ρ'':=by
        have e0:(IE.var c.ni).den ρ''=(IE.var c.ni).den ρ1:=IE.den_like hl (by show decide (c.ni < c.ni + 1)=true;simp);rw [e0];simpa [BE.den,cmpB,IE.den]using e1
      unfold mfind at hidx;cases hmf:mfindF y.ks.length (y.ks.length + y.ne) (kv.cells.map (At.den ρ'' β)) (ceDen ρ'' β ce).length (ceDen ρ'' β ce)with
      | some i=>rw [hmf]at hidx;simp only at hidx;omega
      | none =>
        simp only [Option.map_none,Option.getD_none,Option.isSome_none];cases ok <;> rfl
  rename_i cs;split at h;rotate_left
  · exact h.elim
  rename_i hc;obtain⟨c1,rfl,rfl⟩:=hc;obtain⟨r,h1,h2⟩:=zye hx _ _ _ h
  have run:∀ ρ'',Env.like c ρ ρ''→∀ β w,RdOk W m o (blksOf (svCells (.cv (.one (.omap j))))) ρ'' β w →
      (Instr.lookup t ((SV.cv (.one (.omap j))).den ρ'' β) ((SV.cv kv).den ρ'' β) ok).run P w =
        .ok (if ok=true then .tuple #[((r.map fun q=>(0 + q.1,(cvOf y.ge q.2).den ρ'' β)).map (·.2)).getD (z.den ρ'' β),.bool (r.map fun q=>(0 + q.1,(cvOf y.ge q.2).den ρ'' β)).isSome]else ((r.map fun q=>(0 + q.1,(cvOf y.ge q.2).den ρ'' β)).map (·.2)).getD (z.den ρ'' β)) w:=by
    intro ρ'' hl β w hr;have hrow:=hr j (by simp [svCells,CV.cells,blksOf]) _ (zla (hap j _ hgo) hgo);rcases hrow with hrow | ⟨_,_,_,ho⟩
    · exact absurd hrow.2.1 (by omega)
    obtain⟨es,clock,hb,hes,hsh⟩:=(zcc hx).1 ho;rw [znf ρ'' β hce]at hes;obtain⟨k1,k2⟩:=zjo hx c1 ρ'' β;exact zln hx hb k1 k2 (h2 ρ'' hl β w _ es.toList k1 hes hsh).1 (zjb hz ρ'' β w c).1 ok
  cases r with
  | none =>
    refine Res.pure h1 fun ρ'' hl=>⟨by simp,by simp,by cases ok <;> simp,fun β w hr => ?_⟩;rw [run ρ'' hl β w hr];cases ok <;> rfl
  | some q =>
    refine Res.pure h1 fun ρ'' hl=>⟨by simp,by simp,by cases ok <;> simp,fun β w hr => ?_⟩;rw [run ρ'' hl β w hr];cases ok <;> rfl
end Vc
set_option linter.unusedVariables false
namespace Vc
open Go Go.RowKit
variable {P:Program} {W:Wld} {Q:Value→Prop} {QM QP:World→Value→Prop}
structure St.WF(st:St):Prop where
 t:∀ i,(getS st.t i).wf st.c=true
 m:∀ k cs t,getM st.m k=some (cs,t)→k < st.c.nk∧cs.all (At.wf st.c)=true
 o:∀ k ce sz t,getO st.o k=some (ce,sz,t)→k + 3 < st.c.nk∧ceWf st.c ce=true
 ap:Apart st.m st.o
 r:∀ k e,getR st.r k=some e→k < st.c.nk
 d:∀ k∈st.d,k < st.c.nk
 k:KnL.wf st.k st.c
 df:∀ x∈st.df,∀ y∈x.2,y.1 < st.c.nk
theorem St.WF.ev{st:St}(h:st.WF):∀ x:Operand,(st.ev x).wf st.c=true
  | .tmp t=>h.t t
  | .const v=>(SV.ofValue_den v st.c Env.zero b0).1
  | .global g=>by
    simp only [St.ev];split
    · rename_i p hp
      have:=h.k _ (zki hp)
      simp only [Kn.wf]at this;simp only [SV.wf,CV.wf,At.wf,IE.wf,this,Bool.and_self]
    · rfl
  | .func _=>rfl
def OpsOk(st:St)(o:Oper)(ρ:Env)(β:Nat→Nat)(a:Act):Prop:=∀ x∈o.op.operands,st.ev x ≠ .any→a.eval x=(st.ev x).den ρ β
def ValOk(P:Program)(W:Wld)(st:St)(o:Oper)(sv:SV)(ρ:Env):Prop :=
  ∀ (β:Nat→Nat) (a:Act) (w:World),Bel W w→OpsOk st o ρ β a→RdOk W st.m st.o (readsOf st o) ρ β w →
    ∀ (next:Act→World→Prop) (Q':Exit→Act→World→Prop),(∀ v w',(sv ≠ .any→v=sv.den ρ β)→Below w.heap.size w w'→next (a.put o.dst v) w')→o.wp P a w next Q'
theorem ValOk.run{st:St}{o:Oper}{sv:SV}{ρ:Env}(h:∀ (β:Nat→Nat) (a:Act) (w:World),Bel W w→OpsOk st o ρ β a→RdOk W st.m st.o (readsOf st o) ρ β w →
  ∃ v,(execOp a.eval o).run P w=.ok (.value v) w∧(sv ≠ .any→v=sv.den ρ β)):ValOk P W st o sv ρ:=by
 intro β a w hB ho hr next Q' hn
 obtain⟨v,hv,he⟩:=h β a w hB ho hr;unfold Oper.wp;rw [hv,Oper.upon_value];exact hn v w he (Below.refl _ _)
theorem zqi{place:Nat→Option (Nat × Nat)}:∀ (parts:List (Nat × SV)) (cells:List At) {cs:List At},fillA place cells parts=some cs→∀ p∈parts,p.2 ≠ .any
  | [],_,_,_,p,hp=>by cases hp
  | (i,.any)::r,_,_,h,_,_=>by simp [fillA]at h
  | (i,.und)::r,_,_,h,_,_=>by simp [fillA]at h
  | (i,.tup l)::r,_,_,h,_,_=>by simp [fillA]at h
  | (i,.cv v)::r,cells,cs,h,p,hp=>by
    simp only [fillA]at h;split at h
    · split at h
      · rcases List.mem_cons.1 hp with rfl | hp
        · simp
        · exact zqi r _ h p hp
      · cases h
    · cases h
theorem zxr{c:Ctr}{t:TypeId}{parts:List (Nat × SV)}{K:SV→Ctr→Env→Prop}{ρ:Env}(h:doBuild (PA P W Q QM QP) P c t parts K ρ):∀ p∈parts,p.2 ≠ .any:=by
 unfold doBuild at h;generalize h1:P.underlying t=u1 at h;generalize h2:zeroA P t=u2 at h;split at h
 ·rename_i fs z;generalize h3:fieldPlaces P fs.toList=u3 at h;split at h
  ·rename_i pl;generalize h4:fillA (fun x=>pl[x]?) z.cells parts=u4 at h;split at h
   ·exact zqi parts z.cells h4
   ·exact h.elim
  ·exact h.elim
 ·rename_i n el z;generalize h3:szAgg P el=u3 at h;split at h
  ·rename_i g s;generalize h4:fillA (fun i=>some (i * s,s)) z.cells parts=u4 at h;split at h
   ·exact zqi parts z.cells h4
   ·exact h.elim
  ·exact h.elim
 ·exact h.elim
theorem zyr{x:SV}{l:List SV}{r:List (Nat × Nat)}(h:locsOf (x::l)=some r):∃ k o r',x=.cv (.one (.loc k o))∧locsOf l=some r'∧r=(k,o)::r':=by
 unfold locsOf at h;split at h
 ·rename_i he;cases he
 ·rename_i k o l' he;cases he;simp only [Option.map_eq_some_iff]at h;obtain⟨r',h1,rfl⟩:=h;exact⟨k,o,r',rfl,h1,rfl⟩
 ·cases h
theorem ztc:∀ (l:List SV) {r:List (Nat × Nat)},locsOf l=some r→(∀ x∈l,x ≠ .any)∧∀ ρ β,l.map (SV.den ρ β)=r.map fun c=>.pointer (some ⟨β c.1,c.2,none⟩)
  | [],r,h=>by simp only [locsOf,Option.some.injEq]at h;subst h;exact⟨by simp,fun _ _=>rfl⟩
  | x::l,r,h=>by
    obtain⟨k,o,r',rfl,h1,rfl⟩:=zyr h;obtain⟨q1,q2⟩:=ztc l h1;exact⟨by simp;exact q1,fun ρ β=>by simp only [List.map_cons,q2];rfl⟩
theorem zzr{m:Mem}{o:OMem}(hap:Apart m o){c:Ctr}{t:Option TypeId}{x:SV}{K:SV→Ctr→Env→Prop}{ρ:Env}(hx:x.wf c=true)(h:doLen (PA P W Q QM QP) P o c t x K ρ) :
    Res c ρ K fun sv ρ''=>sv ≠ .any∧∃ ty,t=some ty∧∀ β w v,RdOk W m o (blksOf (svCells x)) ρ'' β w→(x ≠ .any→v=x.den ρ'' β)→(Builtin.len_ #[ty] ty #[v]).run P w=.ok (sv.den ρ'' β) w:=by
  unfold doLen at h;cases t with
  | none=>cases x <;> exact h.elim
  | some ty =>
    simp only [Option.bind_some]at h;generalize hu:P.underlying ty=u1 at h;split at h
    · rename_i el k;generalize hgo:getO o k=u2 at h;split at h
      · rename_i ce sz ty';split at h
        · rename_i hs0;obtain⟨n,c1,ρ1,r1,r2,r3,r4,r5,r6⟩:=zxa h;refine⟨_,c1,ρ1,r1,r2,r4,fun ρ'' hl=>⟨by simp,ty,rfl,fun β w v hrd hv => ?_⟩⟩;rw [hv (by simp)];have hrow:=(hrd k (by simp [svCells,CV.cells,blksOf]) _ (zla (hap k _ hgo) hgo)).old hs0;have e3:=r6 ρ'' β hl;rw [zvr hrow]at e3;have hlen:(SV.cv (.one (.own k))).den ρ'' β=(if β (k + 1)=0 then .slice none 0 0 else .slice (some ⟨β k,β (k + 3),none⟩) (β (k + 2)) (β (k + 1) - 1):Value):=rfl;rw [hlen]
          have hz:β (k + 1)=0→β (k + 2)=0:=fun h0=>by
            rcases hrow.2.2 with ⟨_,h1⟩ | ⟨h1,_⟩
            · exact h1
            · omega
          by_cases h0:β (k + 1)=0
          · rw [if_pos h0]
            have:=hz h0
            rw [this]at e3;simp [Builtin.len_,run_underlying hu,SV.den,CV.den,At.den,goInt,e3]
          · rw [if_neg h0];simp [Builtin.len_,run_underlying hu,SV.den,CV.den,At.den,goInt,e3]
        · exact h.elim
      · exact h.elim
    · rename_i el k;generalize hgo:getO o k=u2 at h;split at h
      · rename_i ce sz ty';split at h
        · rename_i hs0;obtain⟨rfl,rfl⟩:=hs0;obtain⟨n,c1,ρ1,r1,r2,r3,r4,r5,r6⟩:=zxa h;refine⟨_,c1,ρ1,r1,r2,r4,fun ρ'' hl=>⟨by simp,ty,rfl,fun β w v hrd hv => ?_⟩⟩;rw [hv (by simp)];have hrow:=hrd k (by simp [svCells,CV.cells,blksOf]) _ (zla (hap k _ hgo) hgo);rcases hrow with hrow | ⟨_,_,_,ho⟩
          · exact absurd hrow.2.1 (by omega)
          have e3:=r6 ρ'' β hl;rw [Nat.div_one,← ho.1]at e3;simp [Builtin.len_,run_underlying hu,SV.den,CV.den,At.den,goInt,e3]
        · exact h.elim
      · exact h.elim
    · rename_i el q p sz len cap;have wx:(decide (q < c.nb) && decide (p < c.np) && len.wf c && cap.wf c)=true:=hx;simp only [Bool.and_eq_true,decide_eq_true_eq]at wx;obtain⟨q1,h⟩:=zb h;obtain⟨q2,h⟩:=zb h;refine Res.pure h fun ρ'' hl=>⟨by simp,ty,rfl,fun β w v hrd hv => ?_⟩;rw [hv (by simp)];have p1:0≤len.den ρ'':=by rw [IE.den_like hl wx.1.2];exact q1
      have p2:ρ''.b q=true→len.den ρ''=0:=by
        rw [IE.den_like hl wx.1.2,hl.b q wx.1.1.1];intro hb;rcases q2 with h' | h'
        · exact (h' hb).elim
        · exact h'
      simp only [SV.den,CV.den,At.den];split
      · rename_i hb;simp [Builtin.len_,run_underlying hu,goInt,p2 hb]
      · have:((len.den ρ'').toNat:Int)=len.den ρ'':=by omega
        simp [Builtin.len_,run_underlying hu,goInt,this]
    · rename_i i;obtain⟨n,c1,ρ1,r1,r2,r3,r4,r5,r6⟩:=zie h;refine⟨_,c1,ρ1,r1,r2,r4,fun ρ'' hl=>⟨by simp,ty,rfl,fun β w v hrd hv => ?_⟩⟩;rw [hv (by simp)];have e:=r6 ρ'' hl;simp only [IP.den,SE.den]at e;have e2:(⟨(ρ''.s i).toArray⟩:ByteArray).size=(ρ''.s i).length:=by show (ρ''.s i).toArray.size=_;simp
      simp [Builtin.len_,run_underlying hu,SV.den,CV.den,At.den,goInt,e2,e]
    · refine Res.pure h fun ρ'' _=>⟨by simp,ty,rfl,fun β w v hrd hv => ?_⟩;rw [hv (by simp)];simp [Builtin.len_,run_underlying hu,SV.den,CV.den,At.den,goInt,zoa]
    · refine Res.pure h fun ρ'' _=>⟨by simp,ty,rfl,fun β w v hrd hv => ?_⟩;rw [hv (by simp)];simp [Builtin.len_,run_underlying hu,SV.den,CV.den,At.den,goInt,zoa]
    · rename_i p ix sz len cap;obtain⟨q1,h⟩:=zb h;have wx:((decide (p < c.np) && ix.wf c && len.wf c && cap.wf c))=true:=hx;simp only [Bool.and_eq_true]at wx;refine Res.pure h fun ρ'' hl=>⟨by simp,ty,rfl,fun β w v hrd hv => ?_⟩;rw [hv (by simp)];have q2:0≤len.den ρ'':=by rw [IE.den_like hl wx.1.2];exact q1
      simp [Builtin.len_,run_underlying hu,SV.den,CV.den,At.den,goInt,zoa,q2];omega
    · rename_i l;refine Res.pure h fun ρ'' _=>⟨by simp,ty,rfl,fun β w v hrd hv => ?_⟩;rw [hv (by simp)];have e:(⟨l.toArray⟩:ByteArray).size=l.length:=by show l.toArray.size=_;simp
      simp [Builtin.len_,run_underlying hu,SV.den,CV.den,At.den,goInt,zoa,e]
    · refine Res.pure h fun ρ'' _=>⟨by simp,ty,rfl,fun β w v hrd hv => ?_⟩;simp [Builtin.len_,run_underlying hu,SV.den,CV.den,At.den,goInt,zoa]
    · rename_i k;generalize hgo:getO o k=u2 at h;generalize hx:mapTy P ty=u3 at h;split at h;rotate_left
      · exact h.elim
      rename_i ce sz tc y;generalize hce:ceAts ce=u4 at h;split at h;rotate_left
      · clear hce;split at h;rotate_left
        · exact h.elim
        rename_i hc;obtain⟨rfl,rfl⟩:=hc;obtain⟨n,c1,ρ1,r1,r2,r3,r4,r5,r6⟩:=zxa h;refine⟨_,c1,ρ1,r1,r2,r4,fun ρ'' hl=>⟨by simp,ty,rfl,fun β w v hrd hv => ?_⟩⟩;rw [hv (by simp)];have hrow:=hrd k (by simp [svCells,CV.cells,blksOf]) _ (zla (hap k _ hgo) hgo);rcases hrow with hrow | ⟨_,_,_,ho⟩
        · exact absurd hrow.2.1 (by omega)
        obtain⟨es,clock,hb,hes,hsh⟩:=(zcc hx).1 ho;have hle:=zle es.toList hsh;rw [hes]at hle;simp only [Array.length_toList]at hle;have hp:0 < y.ks.length + y.ne:=by have:=(zfb hx).2.2.2.2.1;omega
        have hn:(ceDen ρ'' β ce).length / (y.ks.length + y.ne)=es.size:=by rw [hle,Nat.mul_div_cancel _ hp]
        have e3:=r6 ρ'' β hl;rw [hn]at e3;simp [Builtin.len_,run_underlying hu,SV.den,CV.den,At.den,goInt,e3,Go.MapKept.run_getObj_map hb]
      rename_i cs;split at h;rotate_left
      · exact h.elim
      rename_i hc;obtain⟨rfl,rfl⟩:=hc;refine Res.pure h fun ρ'' _=>⟨by simp,ty,rfl,fun β w v hrd hv => ?_⟩;rw [hv (by simp)];have hrow:=hrd k (by simp [svCells,CV.cells,blksOf]) _ (zla (hap k _ hgo) hgo);rcases hrow with hrow | ⟨_,_,_,ho⟩
      · exact absurd hrow.2.1 (by omega)
      obtain⟨es,clock,hb,hes,hsh⟩:=(zcc hx).1 ho;rw [znf ρ'' β hce]at hes;have hl:=zle es.toList hsh;rw [hes]at hl;simp only [List.length_map,Array.length_toList]at hl;have hp:0 < y.ks.length + y.ne:=by have:=(zfb hx).2.2.2.2.1;omega
      have hn:cs.length / (y.ks.length + y.ne)=es.size:=by rw [hl,Nat.mul_div_cancel _ hp]
      simp [Builtin.len_,run_underlying hu,SV.den,CV.den,At.den,goInt,zoa,hn,Go.MapKept.run_getObj_map hb]
    · exact h.elim
theorem zgh{c:Ctr}{mx:Bool}{x y:SV}{K:SV→Ctr→Env→Prop}{ρ:Env}(h:doMinMax (PA P W Q QM QP) c mx x y K ρ) :
  Res c ρ K fun sv ρ''=>sv ≠ .any∧x ≠ .any∧y ≠ .any∧∀ β w,(if mx then Builtin.max2 (x.den ρ'' β) (y.den ρ'' β)else Builtin.min2 (x.den ρ'' β) (y.den ρ'' β)).run P w=.ok (sv.den ρ'' β) w:=by
 unfold doMinMax at h;split at h
 ·refine (zba h).mono fun sv ρ'' _ hv=>⟨(hv b0).2,by simp,by simp,fun β w => ?_⟩;rw [(hv β).1];cases mx <;> simp [SV.den,CV.den,At.den,Builtin.max2,Builtin.min2,IP.den]
 ·exact h.elim
theorem zpa{d:IE}{o:Option SV}{e:IE}(h:intOr d o=some e):(o=none∧e=d)∨∃ k,o=some (.cv (.one (.int k e))):=by
 unfold intOr at h;split at h
 ·exact .inl ⟨rfl,by simpa using h.symm⟩
 ·rename_i k e';simp only [Option.some.injEq]at h;subst h;exact .inr ⟨k,rfl⟩
 ·cases h
theorem zme{lo hi:Option Value}{n c:Nat}{l h:Int}(isS:Bool)(hlo:(lo=none∧l=0)∨∃ k,lo=some (.int k l))(hhi:(hi=none∧h=n)∨∃ k,hi=some (.int k h))(h0:0≤l)(h1:l≤h)(h2:h≤c)(w:World) :
  (Instr.sliceBounds isS n c lo hi none).run P w=.ok (l.toNat,h.toNat,c) w:=by
 have a1:0≤h:=by omega
 rcases hlo with ⟨rfl,rfl⟩ | ⟨k,rfl⟩ <;> rcases hhi with ⟨rfl,rfl⟩ | ⟨k',rfl⟩
 ·simp [Instr.sliceBounds]
 ·simp [Instr.sliceBounds,Instr.sliceBound,asIntOf,a1,h2]
 ·simp [Instr.sliceBounds,Instr.sliceBound,asIntOf,h0,h1]
 ·have:l≤(h.toNat:Int):=by omega
  simp [Instr.sliceBounds,Instr.sliceBound,asIntOf,h0,h1,a1,h2,this];intro hx;omega
theorem zhh{c:Ctr}{t:TypeId}{x:SV}{lo hi:Option SV}{K:SV→Ctr→Env→Prop}{ρ:Env}(hx:x.wf c=true)(hlo:∀ v,lo=some v→v.wf c=true)(hhi:∀ v,hi=some v→v.wf c=true)(h:doSlice1 (PA P W Q QM QP) P c t x lo hi K ρ) :
  Res c ρ K fun sv ρ''=>sv ≠ .any∧x ≠ .any∧(∀ v,lo=some v→v ≠ .any)∧(∀ v,hi=some v→v ≠ .any) ∧
   ∀ β w,(Instr.sliceAt t (x.den ρ'' β) (lo.map (SV.den ρ'' β)) (hi.map (SV.den ρ'' β)) none).run P w=.ok (sv.den ρ'' β) w:=by
 have nany:∀ {d e} {o:Option SV},intOr d o=some e→∀ v,o=some v→v ≠ .any:=by
  intro d e o ho v hv;rcases zpa ho with ⟨h1,_⟩ | ⟨k,h1⟩
  ·rw [h1]at hv;cases hv
  ·rw [h1]at hv;cases hv;simp
 have wfI:∀ {d e} {o:Option SV},intOr d o=some e→d.wf c=true→(∀ v,o=some v→v.wf c=true)→e.wf c=true:=by
  intro d e o ho hd hv;rcases zpa ho with ⟨_,h1⟩ | ⟨k,h1⟩
  ·rw [h1];exact hd
  ·exact hv _ h1
 have mp:∀ {d e} {o:Option SV} (ρ'':Env) (β:Nat→Nat),intOr d o=some e→(o.map (SV.den ρ'' β)=none∧e.den ρ''=d.den ρ'')∨∃ k,o.map (SV.den ρ'' β)=some (.int k (e.den ρ'')):=by
  intro d e o ρ'' β ho;rcases zpa ho with ⟨h1,h2⟩ | ⟨k,h1⟩
  ·exact .inl ⟨by rw [h1];rfl,by rw [h2]⟩
  ·exact .inr ⟨k,by rw [h1];rfl⟩
 unfold doSlice1 at h;generalize hu:P.underlying t=u1 at h;split at h
 ·rename_i el p ix sz len cap;have wx:((decide (p < c.np) && ix.wf c && len.wf c && cap.wf c))=true:=hx;simp only [Bool.and_eq_true]at wx;generalize hz:szAgg P el=u2 at h;generalize hl:intOr (.lit 0) lo=u3 at h;generalize hh:intOr len hi=u4 at h;split at h
  ·rename_i g s l hI;split at h
   ·rename_i hs;subst hs;have wl:=wfI hl rfl hlo;have wh:=wfI hh wx.1.2 hhi;obtain⟨q1,ha⟩:=zb h;clear h;obtain⟨q2,h⟩:=zb ha;clear ha;obtain⟨q3,ha⟩:=zb h;clear h;obtain⟨q4,h⟩:=zb ha;clear ha;obtain⟨q5,ha⟩:=zb h;clear h;replace h:=ha;clear ha
    have tr:∀ {ρ''},Env.like c ρ ρ''→0≤len.den ρ''∧len.den ρ''≤cap.den ρ''∧0≤l.den ρ''∧l.den ρ''≤hI.den ρ''∧hI.den ρ''≤cap.den ρ'':=fun hk=>by
     rw [IE.den_like hk wx.1.2,IE.den_like hk wx.2,IE.den_like hk wl,IE.den_like hk wh];exact⟨q1,q2,q3,q4,q5⟩
    have run:∀ {ρ''} (β:Nat→Nat) (w:World),Env.like c ρ ρ'' →
      (Instr.sliceAt t ((SV.cv (.one (.xsl p ix s len cap))).den ρ'' β) (lo.map (SV.den ρ'' β)) (hi.map (SV.den ρ'' β)) none).run P w =
       .ok (.slice (if (cap.den ρ'').toNat=(l.den ρ'').toNat then some ⟨(ρ''.p p).1,(ρ''.p p).2 + (ix.den ρ'').toNat * s,none⟩else some ⟨(ρ''.p p).1,(ρ''.p p).2 + (ix.den ρ'').toNat * s + (l.den ρ'').toNat * s,none⟩)
        ((hI.den ρ'').toNat - (l.den ρ'').toNat) ((cap.den ρ'').toNat - (l.den ρ'').toNat)) w:=by
     intro ρ'' β w hk;obtain⟨t1,t2,t3,t4,t5⟩:=tr hk
     have hb:=zme (P:=P) (n:=(len.den ρ'').toNat) (c:=(cap.den ρ'').toNat) true (by
      rcases mp ρ'' β hl with ⟨m1,m2⟩ | m1
      ·exact .inl ⟨m1,m2⟩
      ·exact .inr m1) (by
      rcases mp ρ'' β hh with ⟨m1,m2⟩ | m1
      ·exact .inl ⟨m1,by rw [m2];omega⟩
      ·exact .inr m1) t3 t4 (by omega) w
     simp only [SV.den,CV.den,At.den,Instr.sliceAt,Sem.run_bind,run_underlying hu,Result.andThen_ok,Instr.slice,hb,zka hz,Sem.run_pure];split
     ·rfl
     ·simp [zob]
    split at h
    ·rename_i hl0;subst hl0;refine Res.pure h fun ρ'' hk=>⟨by simp,by simp,nany hl,nany hh,fun β w => ?_⟩;rw [run β w hk];simp only [zoa,SV.den,CV.den,At.den,Int.toNat_zero,Nat.sub_zero,Nat.zero_mul,Nat.add_zero];split <;> rfl
    ·obtain⟨q6,h⟩:=zb h;obtain⟨len',c1,ρ1,r1,r2,r3,r4,r5,r6⟩:=zxe h;obtain⟨cap',c2,ρ2,s1,s2,s3,s4,s5,s6⟩:=zxe r1;have k12:c.le c2:=Ctr.le_trans r2 s2;have l12:Env.like c ρ ρ2:=Env.like_trans r2 r4 s4;rcases zaa s1 with ⟨hd,h⟩ | ⟨hd,h⟩
     ·obtain⟨ix',c3,ρ3,u1,u2,u3,u4,u5,u6⟩:=zxe h;refine⟨_,c3,ρ3,u1,Ctr.le_trans k12 u2,Env.like_trans k12 l12 u4,fun ρ'' hk=>⟨by simp,by simp,nany hl,nany hh,fun β w => ?_⟩⟩;have hk2:=Env.like_trans u2 u4 hk;have hk1:=Env.like_trans s2 s4 hk2;have hk0:=Env.like_trans r2 r4 hk1;obtain⟨t1,t2,t3,t4,t5⟩:=tr hk0;rw [run β w hk0];have e1:=r6 ρ'' hk1;have e2:=s6 ρ'' hk2;have e3:=u6 ρ'' hk;simp only [IP.den]at e1 e2 e3;have p6:0≤ix.den ρ'':=by rw [IE.den_like hk0 wx.1.1.2];exact q6
      have p7:l.den ρ'' < cap.den ρ'':=by
       rw [IE.den_like (Env.like_trans k12 l12 hk2) wl,IE.den_like (Env.like_trans k12 l12 hk2) wx.2];rw [← IE.den_like l12 wl,← IE.den_like l12 wx.2];simpa [BE.den,cmpB]using hd
      have n1:¬ (cap.den ρ'').toNat=(l.den ρ'').toNat:=by omega
      rw [if_neg n1];simp only [SV.den,CV.den,At.den,e1,e2,e3];congr 2
      ·congr 2
       have:(ix.den ρ'' + l.den ρ'').toNat=(ix.den ρ'').toNat + (l.den ρ'').toNat:=by omega
       rw [this,Nat.add_mul,Nat.add_assoc]
      ·omega
      ·omega
     ·refine⟨_,c2,ρ2,h,k12,l12,fun ρ'' hk=>⟨by simp,by simp,nany hl,nany hh,fun β w => ?_⟩⟩;have hk1:=Env.like_trans s2 s4 hk;have hk0:=Env.like_trans r2 r4 hk1;obtain⟨t1,t2,t3,t4,t5⟩:=tr hk0;rw [run β w hk0];have e1:=r6 ρ'' hk1;have e2:=s6 ρ'' hk;simp only [IP.den]at e1 e2
      have p7:¬ l.den ρ'' < cap.den ρ'':=by
       rw [IE.den_like hk0 wl,IE.den_like hk0 wx.2,← IE.den_like l12 wl,← IE.den_like l12 wx.2];simpa [BE.den,cmpB]using hd
      have n1:(cap.den ρ'').toNat=(l.den ρ'').toNat:=by omega
      rw [if_pos n1];simp only [SV.den,CV.den,At.den,e1,e2];congr 2
      ·omega
      ·omega
   ·exact h.elim
  ·exact h.elim
 ·rename_i el k off len cap;generalize hz:szAgg P el=u2 at h;generalize hl:intOr (.lit 0) lo=u3 at h;generalize hh:intOr (.lit len) hi=u4 at h;split at h
  ·rename_i g s l hI;split at h
   ·rename_i hc;obtain⟨c1,c2,c3⟩:=hc;refine Res.pure h fun ρ'' hk=>⟨by simp,by simp,nany hl,nany hh,fun β w => ?_⟩
    have hb:=zme (P:=P) (n:=len) (c:=cap) (l:=l) (h:=hI) true (by
     rcases mp ρ'' β hl with ⟨m1,m2⟩ | m1
     ·exact .inl ⟨m1,m2⟩
     ·exact .inr m1) (by
     rcases mp ρ'' β hh with ⟨m1,m2⟩ | m1
     ·exact .inl ⟨m1,m2⟩
     ·exact .inr m1) c1 c2 c3 w
    simp only [SV.den,CV.den,At.den,Instr.sliceAt,Sem.run_bind,run_underlying hu,Result.andThen_ok,Instr.slice,hb,zka hz,Sem.run_pure];by_cases hcl:l.toNat=cap
    ·rw [if_pos hcl,if_pos hcl.symm]
    ·rw [if_neg hcl,if_neg (fun e=>hcl e.symm)];simp [zob]
   ·exact h.elim
  ·exact h.elim
 ·rename_i n el p j sz off;generalize hz:szAgg P el=u2 at h;generalize hl:intOr (.lit 0) lo=u3 at h;generalize hh:intOr (.lit n) hi=u4 at h;split at h
  ·rename_i g s l hI;split at h
   ·rename_i hc;obtain⟨c1,c2,c3,c4,c5,c6,c7⟩:=hc;subst c4 c5;refine Res.pure h fun ρ'' hk=>⟨by simp,by simp,nany hl,nany hh,fun β w => ?_⟩
    have hb:=zme (P:=P) (n:=n) (c:=n) (l:=l) (h:=hI) false (by
     rcases mp ρ'' β hl with ⟨m1,m2⟩ | m1
     ·exact .inl ⟨m1,m2⟩
     ·exact .inr m1) (by
     rcases mp ρ'' β hh with ⟨m1,m2⟩ | m1
     ·exact .inl ⟨m1,m2⟩
     ·exact .inr m1) c1 c2 c3 w
    simp only [SV.den,CV.den,At.den,IE.den,Int.toNat_zero,Nat.zero_mul,Nat.add_zero,Instr.sliceAt,Instr.sureAddr,Sem.run_bind,run_underlying hu,Result.andThen_ok,hb,zka hz,Sem.run_pure];have n1:(hI - l).toNat=hI.toNat - l.toNat:=by omega
    have n2:((n:Int) - l).toNat=n - l.toNat:=by omega
    by_cases hcl:l.toNat=n
    ·rw [if_pos hcl.symm,if_pos hcl,n1,n2];simp
    ·rw [if_neg (fun e=>hcl e.symm),if_neg hcl,n1,n2];simp [zob]
   ·exact h.elim
  ·exact h.elim
 ·rename_i n el k off;generalize hz:szAgg P el=u2 at h;generalize hl:intOr (.lit 0) lo=u3 at h;generalize hh:intOr (.lit n) hi=u4 at h;split at h
  ·rename_i g s l hI;split at h
   ·rename_i hc;obtain⟨c1,c2,c3⟩:=hc;refine Res.pure h fun ρ'' hk=>⟨by simp,by simp,nany hl,nany hh,fun β w => ?_⟩
    have hb:=zme (P:=P) (n:=n) (c:=n) (l:=l) (h:=hI) false (by
     rcases mp ρ'' β hl with ⟨m1,m2⟩ | m1
     ·exact .inl ⟨m1,m2⟩
     ·exact .inr m1) (by
     rcases mp ρ'' β hh with ⟨m1,m2⟩ | m1
     ·exact .inl ⟨m1,m2⟩
     ·exact .inr m1) c1 c2 c3 w
    simp only [SV.den,CV.den,At.den,Instr.sliceAt,Instr.sureAddr,Sem.run_bind,run_underlying hu,Result.andThen_ok,hb,zka hz,Sem.run_pure];by_cases hcl:l.toNat=n
    ·rw [if_pos hcl,if_pos hcl.symm]
    ·rw [if_neg hcl,if_neg (fun e=>hcl e.symm)];simp [zob]
   ·exact h.elim
  ·exact h.elim
 ·exact h.elim
theorem zih{c:Ctr}{t:TypeId}{s:SE}{lo hi:Option SV}{K:SV→Ctr→Env→Prop}{ρ:Env}(hs:s.wf c=true)(h:doSliceS (PA P W Q QM QP) P c t s lo hi K ρ) :
  Res c ρ K fun sv ρ''=>sv ≠ .any∧(∀ v,lo=some v→v ≠ .any)∧(∀ v,hi=some v→v ≠ .any) ∧
   ∀ β w,(Instr.sliceAt t (.string ⟨(s.den ρ'').toArray⟩) (lo.map (SV.den ρ'' β)) (hi.map (SV.den ρ'' β)) none).run P w=.ok (sv.den ρ'' β) w:=by
 have ext:∀ (l:List UInt8) (i j:Nat),(ByteArray.extract ⟨l.toArray⟩ i j)=⟨((l.drop i).take (j - i)).toArray⟩:=fun l i j=>by
  apply ByteArray.ext;simp [ByteArray.data_extract,List.extract_eq_take_drop]
 have run:∀ {ρ'':Env} {l e:Int} {lo' hi':Option Value},P.underlying t=some .string→((lo'=none∧l=0)∨∃ k,lo'=some (.int k l))→((hi'=none∧e=((s.den ρ'').length:Int))∨∃ k,hi'=some (.int k e))→0≤l→l≤e→e≤((s.den ρ'').length:Int) →
   ∀ w,(Instr.sliceAt t (.string ⟨(s.den ρ'').toArray⟩) lo' hi' none).run P w=.ok (.string ⟨(((s.den ρ'').drop l.toNat).take (e.toNat - l.toNat)).toArray⟩) w:=by
  intro ρ'' l e lo' hi' hu h1 h2 q0 q1 q2 w;have hb:=zme (P:=P) (n:=(s.den ρ'').length) (c:=(s.den ρ'').length) false h1 h2 q0 q1 q2 w
  have hz:((⟨(s.den ρ'').toArray⟩:ByteArray)).size=(s.den ρ'').length:=by
   show (s.den ρ'').toArray.size=_;simp
  simp only [Instr.sliceAt,Instr.slice,Sem.run_bind,run_underlying hu,Result.andThen_ok,Option.isSome_none,Bool.false_eq_true,if_false,hz,hb,Sem.run_pure,ext]
 unfold doSliceS at h;generalize hu:P.underlying t=u1 at h;generalize hl:intOr (.lit 0) lo=u3 at h;split at h
 ·rename_i l;split at h
  ·rename_i wl;obtain⟨n,c',ρ',h1,h2,h3,h4,h5,h6⟩:=zie h;obtain⟨sv,c2,ρ2,g1,g2,g3,g4⟩:=zid h1;refine⟨sv,c2,ρ2,g1,Ctr.le_trans h2 g2,Env.like_trans h2 h4 g3,fun ρ'' hk => ?_⟩;obtain⟨k1,k2,k3⟩:=g4 ρ'' hk;have en:=h6 ρ'' (Env.like_trans g2 g3 hk);simp only [SP.ok]at k1;refine⟨k2,fun v hv => ?_,fun v hv=>(by cases hv),fun β w => ?_⟩
   ·rcases zpa hl with ⟨a1,_⟩ | ⟨k,a1⟩
    ·rw [a1]at hv;cases hv
    ·rw [a1]at hv;cases hv;simp
   ·rw [k3 β];simp only [SP.den];refine run hu ?_ (.inl ⟨rfl,by rw [en];rfl⟩) k1.1 k1.2.1 k1.2.2 w;rcases zpa hl with ⟨a1,a2⟩ | ⟨k,a1⟩
    ·exact .inl ⟨by rw [a1];rfl,by rw [a2];rfl⟩
    ·exact .inr ⟨k,by rw [a1];rfl⟩
  ·exact h.elim
 ·rename_i l k0 e;obtain⟨sv,c2,ρ2,g1,g2,g3,g4⟩:=zid h;refine⟨sv,c2,ρ2,g1,g2,g3,fun ρ'' hk => ?_⟩;obtain⟨k1,k2,k3⟩:=g4 ρ'' hk;simp only [SP.ok]at k1;refine⟨k2,fun v hv => ?_,fun v hv=>(by cases hv;simp),fun β w => ?_⟩
  ·rcases zpa hl with ⟨a1,_⟩ | ⟨k,a1⟩
   ·rw [a1]at hv;cases hv
   ·rw [a1]at hv;cases hv;simp
  ·rw [k3 β];simp only [SP.den];refine run hu ?_ (.inr ⟨k0,rfl⟩) k1.1 k1.2.1 k1.2.2 w;rcases zpa hl with ⟨a1,a2⟩ | ⟨k,a1⟩
   ·exact .inl ⟨by rw [a1];rfl,by rw [a2];rfl⟩
   ·exact .inr ⟨k,by rw [a1];rfl⟩
 ·exact h.elim
theorem zko{c:Ctr}{t:TypeId}{x:SV}{lo hi:Option SV}{K:SV→Ctr→Env→Prop}{ρ:Env}(hx:x.wf c=true)(hlo:∀ v,lo=some v→v.wf c=true)(hhi:∀ v,hi=some v→v.wf c=true)(h:doSlice (PA P W Q QM QP) P c t x lo hi K ρ) :
    Res c ρ K fun sv ρ''=>sv ≠ .any∧x ≠ .any∧(∀ v,lo=some v→v ≠ .any)∧(∀ v,hi=some v→v ≠ .any) ∧
      ∀ β w,(Instr.sliceAt t (x.den ρ'' β) (lo.map (SV.den ρ'' β)) (hi.map (SV.den ρ'' β)) none).run P w=.ok (sv.den ρ'' β) w:=by
  unfold doSlice at h;split at h
  · rename_i q p sz len cap;have wx:(decide (q < c.nb) && decide (p < c.np) && len.wf c && cap.wf c)=true:=hx;simp only [Bool.and_eq_true,decide_eq_true_eq]at wx;obtain⟨q1,h⟩:=zb h;obtain⟨q2,h⟩:=zb h;refine (zhh (x := .cv (.one (.xsl p (.lit 0) sz len cap))) ?_ hlo hhi h).mono fun sv ρ'' hl hv => ?_
    · show (decide (p < c.np) && true && len.wf c && cap.wf c)=true;simp only [wx.1.1.2,wx.1.2,wx.2,decide_true,Bool.and_self]
    · obtain⟨v1,v2,v3,v4,v5⟩:=hv;refine⟨v1,by simp,v3,v4,fun β w => ?_⟩;have p0:¬ ρ''.b q=true:=by rw [hl.b q wx.1.1.1];exact q1
      have p2:0 < cap.den ρ'':=by rw [IE.den_like hl wx.2];exact q2
      have q0:¬ ((len.den ρ'').toNat=0∧(cap.den ρ'').toNat=0):=by omega
      have:=v5 β w
      simpa [SV.den,CV.den,At.den,p0,zoa,zal q0]using this
  · rename_i l;refine (zih (s := .lit l) rfl h).mono fun sv ρ'' hl hv=>⟨hv.1,by simp,hv.2.1,hv.2.2.1,fun β w=>hv.2.2.2 β w⟩
  · rename_i i;refine (zih (s := .var i) hx h).mono fun sv ρ'' hl hv=>⟨hv.1,by simp,hv.2.1,hv.2.2.1,fun β w=>hv.2.2.2 β w⟩
  · rename_i k;generalize hu:P.underlying t=u1 at h;generalize hl:intOr (.lit 0) lo=u3 at h;split at h;rotate_left
    · exact h.elim
    rename_i el l;generalize hz:szAgg P el=u2 at h;cases u2 with
    | none=>exact h.elim
    | some gs =>
      obtain⟨g,s⟩:=gs;simp only at h;split at h;rotate_left
      · exact h.elim
      rename_i hl0;subst hl0;refine Res.pure h fun ρ'' _=>⟨by simp,by simp,fun v hv => ?_,fun v hv=>(by cases hv),fun β w => ?_⟩
      · rcases zpa hl with ⟨a1,_⟩ | ⟨k,a1⟩
        · rw [a1]at hv;cases hv
        · rw [a1]at hv;cases hv;simp
      · have run:∀ (lo':Option Value),(lo'=none∨∃ kk,lo'=some (.int kk 0))→∀ (a:Option Addr) (n cp:Nat),(∀ x,a=some x→x.add 0=x)→(Instr.sliceAt t (.slice a n cp) lo' none none).run P w=.ok (.slice a n cp) w:=by
          intro lo' hlo' a n cp ha
          have hm:a.map (·.add (0 * s))=a:=by
            cases a with
            | none=>rfl
            | some x=>simp only [Option.map_some,Nat.zero_mul,ha x rfl]
          rcases hlo' with rfl | ⟨kk,rfl⟩
          · simp [Instr.sliceAt,Instr.slice,run_underlying hu,Instr.sliceBounds,zka hz];intro _;simpa using hm
          · simp [Instr.sliceAt,Instr.slice,run_underlying hu,Instr.sliceBounds,Instr.sliceBound,asIntOf,zka hz];intro _;simpa using hm
        have hlo2:lo.map (SV.den ρ'' β)=none∨∃ kk,lo.map (SV.den ρ'' β)=some (.int kk 0):=by
          rcases zpa hl with ⟨a1,_⟩ | ⟨kk,a1⟩
          · left;rw [a1];rfl
          · right;exact⟨kk,by rw [a1];rfl⟩
        show (Instr.sliceAt t (ownV _ _ _ _) _ none none).run P w=.ok (ownV _ _ _ _) w;unfold ownV;split
        · exact run _ hlo2 none 0 0 (fun x hx=>by cases hx)
        · refine run _ hlo2 _ _ _ fun x hx => ?_;cases hx;unfold Addr.add;split <;> simp_all
  · exact zhh hx hlo hhi h
theorem zew{α:Type}{x:α}{l:Array α}(h:x∈l.toList):x∈l:=Array.mem_toList_iff.1 h
theorem zca{st:St}{ρ:Env}{β:Nat→Nat}{a:Act}(l:List Operand)(h:∀ x∈l,a.eval x=(st.ev x).den ρ β):l.map a.eval=(l.map st.ev).map (SV.den ρ β):=by
 rw [List.map_map];exact List.map_congr_left h
theorem zl(s:Sem Value)(w:World)(v:Value)(h:s.run P w=.ok v w):((do pure (Next.value (← s))):Sem Next).run P w=.ok (.value v) w:=by
 simp [h]
theorem zvp:∀ {vs:List Value},(∀ v∈vs,∃ n:Int,v=.int .u8 n)→∃ ns:List Int,vs=ns.map (Value.int .u8)∧vs.map byteV=ns.map fun n=>UInt8.ofNat n.toNat
  | [],_=>⟨[],rfl,rfl⟩
  | v::l,h=>by
    obtain⟨n,rfl⟩:=h v (List.mem_cons_self ..);obtain⟨ns,h1,h2⟩:=zvp fun v hv=>h v (List.mem_cons_of_mem _ hv);exact⟨n::ns,by rw [h1];rfl,by simp only [List.map_cons,h2];rfl⟩
theorem zon:∀ (ns:List Int) (l:List UInt8),ns.foldl (fun (r:ByteArray) n=>r.push (UInt8.ofNat n.toNat)) ⟨l.toArray⟩=⟨(l++ns.map fun n=>UInt8.ofNat n.toNat).toArray⟩
  | [],l=>by simp
  | n::ns,l=>by
    simp only [List.foldl_cons]
    have e:(ByteArray.push ⟨l.toArray⟩ (UInt8.ofNat n.toNat))=⟨(l ++ [UInt8.ofNat n.toNat]).toArray⟩:=by
      apply ByteArray.ext;simp
    rw [e,zon ns];simp
theorem zrc{s d e:TypeId}(hs:P.underlying s=some (.slice e))(hd:P.underlying d=some .string)(he:P.underlying e=some (.int .u8)){vs:List Value}(hv:∀ v∈vs,∃ n:Int,v=.int .u8 n){a:Addr}{len cap:Nat}{w:World}(hl:vs.length=len)
  (hc:∀ j v,vs[j]? = some v→w.cell? (a.add j)=some v):(convert s d (.slice (some a) len cap)).run P w=.ok (.string ⟨(vs.map byteV).toArray⟩) w:=by
 obtain⟨ns,h1,h2⟩:=zvp hv;rw [run_convert_bytes_string w s d e (some a) len cap hs he hd]
 have:=run_loadCells_list (P:=P) w a vs hc
 rw [hl]at this;rw [run_bytesToString w a len cap ns (by rw [this,h1])];have e0:ByteArray.empty=⟨([]:List UInt8).toArray⟩:=rfl;rw [e0,zon,List.nil_append,h2]
theorem zde{s d e:TypeId}(hs:P.underlying s=some (.slice e))(hd:P.underlying d=some .string)(he:P.underlying e=some (.int .u8))(w:World):(convert s d (.slice none 0 0)).run P w=.ok (.string ⟨#[]⟩) w:=by
 rw [run_convert_bytes_string w s d e none 0 0 hs he hd];rfl
theorem zwp{c:Ctr}{s d:TypeId}{x:SV}{a0:At}{ρ ρ'':Env}{w:World}{L:List Value}(h:argBytes P c s d x=some a0)(hL:SlAt W.seen (a0.den ρ b0) 1 L)(hl:Env.like c ρ ρ'')(hcell:∀ {a:Addr} {u:Value},W.seen.cell? a=some u→w.cell? a=some u)
  (hok:∀ v∈L,∃ n:Int,v=.int .u8 n) (β:Nat→Nat):x ≠ .any∧(convert s d (x.den ρ'' β)).run P w=.ok (.string ⟨(L.map byteV).toArray⟩) w:=by
 unfold argBytes at h;generalize hs:P.underlying s=u1 at h;generalize hd:P.underlying d=u2 at h;split at h
 ·rename_i e;generalize he:P.underlying e=u3 at h;split at h
  ·rename_i a
   have key:∀ (hf:a.flat=true) (hw:a.wf c=true) (e0:a=a0),(SV.cv (.one a)) ≠ .any∧(convert s d ((SV.cv (.one a)).den ρ'' β)).run P w=.ok (.string ⟨(L.map byteV).toArray⟩) w:=by
    intro hf hw e0;subst e0;refine⟨by simp, ?_⟩
    have e1:(SV.cv (.one a)).den ρ'' β=a.den ρ b0:=by
     show a.den ρ'' β=_;rw [At.den_flat ρ'' β b0 hf];exact At.den_like hl (fun _ _=>rfl) hw
    rw [e1];rcases hL with ⟨h1,h2⟩ | ⟨q,h1,h2⟩ | ⟨b,o,len,cap,h1,h2,h3⟩
    ·rw [h1,h2,zde hs hd he];rfl
    ·rw [h1,h2];exact zrc (vs := []) hs hd he (fun v hv=>by cases hv) rfl (fun j v hj=>by simp at hj)
    ·rw [h1];refine zrc hs hd he hok (by omega) fun j v hj => ?_;rw [show (⟨b,o,none⟩:Addr).add j=⟨b,o + j,none⟩ by simp [Addr.add]];exact hcell (h3 j v hj)
   split at h
   ·split at h
    ·rename_i hw;simp only [Option.some.injEq]at h;exact key rfl hw h
    ·cases h
   ·split at h
    ·rename_i hw;simp only [Option.some.injEq]at h;exact key rfl hw h
    ·cases h
   ·cases h
  ·cases h
 ·cases h
theorem zas{m:Mem}{o:OMem}(hap:Apart m o){s d:TypeId}{x:SV}{ce:CE}{ρ:Env}{β:Nat→Nat}{w:World}(h:bytesOf P m o s d x=some ce)(hok:(SP.row ce).ok ρ)(hrd:RdOk W m o (blksOf (svCells x)) ρ β w) :
  x ≠ .any∧(convert s d (x.den ρ β)).run P w=.ok (.string ⟨((SP.row ce).den ρ).toArray⟩) w:=by
 unfold bytesOf at h;generalize hs:P.underlying s=u1 at h;generalize hd:P.underlying d=u2 at h;split at h
 ·rename_i e;generalize he:P.underlying e=u3 at h;split at h
  ·simp only [SP.ok]at hok;simp only [SP.den];unfold svRow at h;split at h
   ·rename_i k;generalize hg:getO o k=u4 at h;split at h
    ·rename_i ce' sz ty;split at h
     ·rename_i hc;simp only [Option.some.injEq]at h;subst h;obtain⟨rfl,hf⟩:=hc;refine⟨by simp, ?_⟩;have hrow:=(hrd k (by simp [svCells,CV.cells,blksOf]) _ (zla (hap k _ hg) hg)).old Nat.zero_lt_one;have hfl:=zlc ρ β (fun _=>0) hf;rw [hfl]at hrow;show (convert s d (if β (k + 1)=0 then .slice none 0 0 else .slice (some ⟨β k,β (k + 3),none⟩) (β (k + 2)) (β (k + 1) - 1):Value)).run P w=_;have hl:(ceDen ρ (fun _=>0) ce').length=β (k + 2):=by have:=hrow.1;omega
      by_cases h0:β (k + 1)=0
      ·rw [if_pos h0,zde hs hd he]
       have:β (k + 2)=0:=by
        rcases hrow.2.2 with ⟨_,h1⟩ | ⟨h1,_⟩
        ·exact h1
        ·omega
       have:ceDen ρ (fun _=>0) ce'=[]:=List.eq_nil_of_length_eq_zero (by omega)
       rw [this];rfl
      ·rw [if_neg h0];refine zrc hs hd he hok hl fun j v hj => ?_;rcases hrow.2.2 with ⟨_,h1⟩ | ⟨_,h2,_⟩
       ·have:=(List.getElem?_eq_some_iff.1 hj).1
        omega
       ·have:=zio hrow hj
        rw [h2,show (⟨β k,0,none⟩:Addr).add j=⟨β k,j,none⟩ by simp only [Addr.add];split <;> simp_all];exact this
     ·cases h
    ·cases h
   ·rename_i k off len cap;generalize hg:getM m k=u4 at h;split at h
    ·rename_i cs t;split at h
     ·rename_i hc;simp only [Option.some.injEq]at h;subst h;refine⟨by simp, ?_⟩;obtain⟨_,hh⟩:=hrd k (by simp [svCells,CV.cells,blksOf]) _ (zwb hg);have hfl:∀ a∈(cs.drop off).take len,a.flat=true:=fun a ha=>List.all_eq_true.1 hc.2 a (List.mem_of_mem_drop (List.mem_of_mem_take ha))
      have e1:ceDen ρ (fun _=>0) [.ats ((cs.drop off).take len)]=((cs.drop off).take len).map (At.den ρ β):=by
       simp only [ceDen,Sg.den,List.append_nil];exact List.map_congr_left fun a ha=>At.den_flat ρ (fun _=>0) β (hfl a ha)
      rw [e1]at hok ⊢;show (convert s d (.slice (some ⟨β k,off,none⟩) len cap)).run P w=_;refine zrc hs hd he hok (by simp;omega) fun j v hj => ?_;rw [show (⟨β k,off,none⟩:Addr).add j=⟨β k,off + j,none⟩ by simp [Addr.add],zma hh];simp only [List.getElem?_map,Option.map_eq_some_iff]at hj;obtain⟨a,ha,rfl⟩:=hj
      have hj2:j < len:=by
       rcases Nat.lt_or_ge j len with h' | h'
       ·exact h'
       ·rw [List.getElem?_eq_none (by simp;omega)]at ha;cases ha
      rw [List.getElem?_take_of_lt hj2,List.getElem?_drop]at ha;simp [ha]
     ·cases h
    ·cases h
   ·simp only [Option.some.injEq]at h;subst h;exact⟨by simp,by rw [show (SV.cv (.one .nils)).den ρ β=.slice none 0 0 from rfl,zde hs hd he];rfl⟩
   ·cases h
  ·cases h
 ·cases h
theorem zrba{t:TypeId}{cs:List At}{off:Nat}{v:CV}(h:partOf P t cs off=some v){ρ:Env}{g:Nat}{w:World}(hc:∀ j a,cs[j]? = some a→w.cell? ⟨g,j,none⟩=some (a.den ρ b0))(β:Nat→Nat)(hf:cs.all At.flat=true) :
    (Instr.loadAt t (.pointer (some ⟨g,off,none⟩))).run P w=.ok (v.den ρ β) w:=by
  unfold partOf at h;generalize hz:szAgg P t=u at h;split at h
  · rename_i n;split at h
    · rename_i hle;cases h;have hl:(((cs.drop off).take n).map (At.den ρ b0)).length=n:=by simp;omega
      have:=zyb hz w g off _ hl (fun j u hj=>by
        rw [List.getElem?_map]at hj;rw [List.getElem?_take]at hj;split at hj
        · rw [List.getElem?_drop]at hj;cases hx:cs[off + j]? with
          | none=>rw [hx]at hj;cases hj
          | some a =>
            rw [hx]at hj;simp only [Option.map_some,Option.some.injEq]at hj;rw [← hj];exact hc _ _ hx
        · cases hj)
      rw [show Instr.loadAt t (.pointer (some ⟨g,off,none⟩))=Instr.loadAt t (.pointer (some ⟨g,off,none⟩)) from rfl];have e:((cs.drop off).take n).map (At.den ρ β)=((cs.drop off).take n).map (At.den ρ b0):=zxb ρ β b0 (List.all_eq_true.2 fun x hx=>List.all_eq_true.1 hf x (List.mem_of_mem_drop (List.mem_of_mem_take hx)));simp only [CV.den,e];exact this
    · cases h
  · rename_i n;cases hx:cs[off]? with
    | none=>rw [hx]at h;cases h
    | some a =>
      rw [hx]at h;simp only [Option.map_some,Option.some.injEq]at h;subst h;simp only [CV.den];rw [At.den_flat ρ β b0 (List.all_eq_true.1 hf a (List.mem_of_getElem? hx))];exact zzb hz w g off _ (hc _ _ hx)
  · cases h
theorem zlk{k:KnL}{x:SV}{b:Bool}(h:ifcNil k x=some b){ρ:Env}(hk:KnL.den k ρ)(β:Nat→Nat):x ≠ .any∧(b=true→x.den ρ β=.nilIface)∧(b=false→∃ t v,x.den ρ β=.iface t v):=by
  unfold ifcNil at h;split at h
  · cases h;exact⟨by simp,⟨fun _=>rfl,fun h=>(by cases h)⟩⟩
  · rename_i i;generalize hf:findI k i=u at h;cases u with
    | none=>cases h
    | some z =>
      obtain⟨t,v⟩:=z;cases h;exact⟨by simp,⟨fun h=>(by cases h),fun _=>⟨_,_,hk _ (zfd hf)⟩⟩⟩
  · cases h
theorem zsba(d:Nat){t:TypeId}{ms}(w:World)(h:P.underlying t=some (.interface ms)):(Op.equalIn (d + 1) t .nilIface .nilIface).run P w=.ok true w:=by
 simp [Op.equalIn,run_underlying h]
theorem ztba(d:Nat){t:TypeId}{ms}(u:TypeId)(v:Value)(w:World)(h:P.underlying t=some (.interface ms)):(Op.equalIn (d + 1) t .nilIface (.iface u v)).run P w=.ok false w:=by
 simp [Op.equalIn,run_underlying h]
theorem zuba(d:Nat){t:TypeId}{ms}(u:TypeId)(v:Value)(w:World)(h:P.underlying t=some (.interface ms)):(Op.equalIn (d + 1) t (.iface u v) .nilIface).run P w=.ok false w:=by
 simp [Op.equalIn,run_underlying h]
theorem zbs(op:BinOp)(t:TypeId)(x y:Operand)(a b:Value)(ha:a=.nilIface∨∃ u v,a=.iface u v)(hb:b=.nilIface∨∃ u v,b=.iface u v)(hc:isCst x=true∨isCst y=true)(w:World):(eqGuard op t x y a b).run P w=.ok () w:=by
 rcases hc with h | h
 ·cases x <;> first
   | (simp [isCst]at h;done)
   | (rcases ha with rfl | ⟨u,v,rfl⟩ <;> rcases hb with rfl | ⟨u',v',rfl⟩ <;> cases op <;> simp [eqGuard])
 ·cases y <;> first
   | (simp [isCst]at h;done)
   | (rcases ha with rfl | ⟨u,v,rfl⟩ <;> rcases hb with rfl | ⟨u',v',rfl⟩ <;> cases op <;> simp [eqGuard])
theorem zxp{a b:Value}(ha:a=.nilIface∨∃ u v,a=.iface u v)(t:TypeId):(binOp .eql t a b=do pure (.bool (← Op.equal t a b)))∧(binOp .neq t a b=do pure (.bool (!(← Op.equal t a b)))):=by
 rcases ha with rfl | ⟨u,v,rfl⟩ <;> exact⟨rfl,rfl⟩
theorem zcs{k:KnL}{op:BinOp}{t:TypeId}{xo yo:Operand}{x y:SV}{b:Bool}(h:ifcEq P k op t xo yo x y=some b){ρ:Env}(hk:KnL.den k ρ)(β:Nat→Nat)(w:World):x ≠ .any∧y ≠ .any ∧
    ((do eqGuard op t xo yo (x.den ρ β) (y.den ρ β);binOp op t (x.den ρ β) (y.den ρ β)):Sem Value).run P w=.ok (.bool b) w:=by
  unfold ifcEq at h;generalize hu:P.underlying t=u at h;split at h
  · rename_i ms;generalize hx:ifcNil k x=u1 at h;generalize hy:ifcNil k y=u2 at h;split at h
    · rename_i a b';split at h
      · rename_i hc;obtain⟨x0,x1,x2⟩:=zlk hx hk β;obtain⟨y0,y1,y2⟩:=zlk hy hk β
        have hX:x.den ρ β=.nilIface∨∃ u v,x.den ρ β=.iface u v:=by
          cases a with
          | true=>exact .inl (x1 rfl)
          | false=>exact .inr (x2 rfl)
        have hY:y.den ρ β=.nilIface∨∃ u v,y.den ρ β=.iface u v:=by
          cases b' with
          | true=>exact .inl (y1 rfl)
          | false=>exact .inr (y2 rfl)
        have heq:(Op.equal t (x.den ρ β) (y.den ρ β)).run P w=.ok (a == b') w:=by
          unfold Op.equal;rw [show Op.maxDepth=9999 + 1 from rfl];cases a with
          | true =>
            rw [x1 rfl];cases b' with
            | true=>rw [y1 rfl];exact zsba _ w hu
            | false=>obtain⟨q,v,e⟩:=y2 rfl;rw [e];exact ztba _ _ _ w hu
          | false =>
            obtain⟨q,v,e⟩:=x2 rfl;rw [e];cases b' with
            | true=>rw [y1 rfl];exact zuba _ _ _ w hu
            | false=>simp at hc
        refine⟨x0,y0, ?_⟩;rw [Sem.run_bind,zbs _ _ _ _ _ _ hX hY hc.2,Result.andThen_ok];split at h
        · rename_i ho;subst ho;cases h;rw [(zxp hX t).1];simp [heq]
        · split at h
          · rename_i ho;subst ho;cases h;rw [(zxp hX t).2];simp [heq]
          · cases h
      · cases h
    · cases h
  · cases h
theorem zcn{k:KnL}{c:Ctr}{x:SV}{xT asserted:TypeId}{ok:Bool}{K:SV→Ctr→Env→Prop}{ρ:Env}(hkw:KnL.wf k c)(hk:KnL.den k ρ)(h:doAssert (PA P W Q QM QP) P k c x asserted ok K ρ) :
    Res c ρ K fun sv ρ''=>sv ≠ .any∧x ≠ .any∧∀ β w,(Instr.typeAssert (x.den ρ'' β) xT asserted ok).run P w=.ok (sv.den ρ'' β) w:=by
  unfold doAssert at h;generalize hu:P.underlying asserted=u at h;split at h
  · exact h.elim
  · rename_i d i hni;generalize hf:findI k i=u2 at h;cases u2 with
    | none=>exact h.elim
    | some z =>
      obtain⟨t,v⟩:=z;simp only at h;have hm:=zfd hf;have hw:=hkw _ hm;simp only [Kn.wf,Bool.and_eq_true]at hw
      have val:∀ {ρ''},Env.like c ρ ρ''→∀ β,(SV.cv (.one (.val i))).den ρ'' β=.iface t (v.den ρ'' β):=fun {ρ''} hl β=>by
        have h1:(Kn.ifc i t v).den ρ'':=Kn.den_like hl (hkw _ hm) (hk _ hm);simp only [Kn.den]at h1;show (ρ''.v i).1=_;rw [h1,CV.den_flat ρ'' β (fun _=>0) hw.2.2]
      split at h
      · rename_i ht;refine Res.pure h fun ρ'' hl=>⟨by cases ok <;> simp,by simp,fun β w => ?_⟩;rw [val hl]
        cases d <;> first
          | (exact (hni _ rfl).elim)
          | (cases ok <;> simp [Instr.typeAssert,run_underlying hu,ht,SV.den,CV.den,At.den,BE.den])
      · rename_i ht;split at h
        · rename_i hok;subst hok;generalize hz:zeroA P asserted=u3 at h;cases u3 with
          | none=>exact h.elim
          | some z =>
            refine Res.pure h fun ρ'' hl=>⟨by simp,by simp,fun β w => ?_⟩;have h0:=(zjb hz ρ'' β w c).1;rw [val hl]
            cases d <;> first
              | (exact (hni _ rfl).elim)
              | (simp [Instr.typeAssert,run_underlying hu,ht,h0,SV.den,CV.den,At.den,BE.den])
        · exact h.elim
  · rename_i d hni;split at h
    · rename_i hok;subst hok;generalize hz:zeroA P asserted=u3 at h;cases u3 with
      | none=>exact h.elim
      | some z =>
        refine Res.pure h fun ρ'' hl=>⟨by simp,by simp,fun β w => ?_⟩;have h0:=(zjb hz ρ'' β w c).1
        cases d <;> first
          | (exact (hni _ rfl).elim)
          | (simp [Instr.typeAssert,run_underlying hu,h0,SV.den,CV.den,At.den,BE.den])
    · exact h.elim
  · exact h.elim
theorem zdn{t:TypeId}{name:String}{f:FuncId}(h:methodOf P t name=some f)(n:Nat)(v:Value)(w:World):(method (n + 1) t v name).run P w=.ok (f,v) w:=by
 unfold methodOf at h;generalize hi:P.info? t=u1 at h;generalize hu:P.underlying t=u2 at h;split at h
 ·rename_i i d;generalize hm:i.methods.find? (·.name == name)=u3 at h;split at h
  ·rename_i m;generalize hf:m.func=u4 at h;generalize hp:m.path.toList=u5 at h;split at h
   ·rename_i f';simp only [method,Sem.run_bind,run_typeInfo _ hi,Result.andThen_ok,hm,hp,follow,Sem.run_pure,hf,receiverAt,run_underlying hu]
    cases d <;> first
     | (cases h;done)
     | (cases h;simp [Place.get])
   ·cases h
  ·cases h
 ·cases h
theorem zpn{t:TypeId}{name:String}{f:FuncId}(h:methodOf P t name=some f){ev:Operand→Value}{r:Operand}{v:Value}{args:Array Operand}{argTypes:Array TypeId}{dst:Option Tmp}{type:TypeId}{pos after guard}(er:ev r=.iface t v){all:Array Value}(ec:#[v]++args.map ev=all)(w:World) :
  (execOp ev ⟨dst,.call ⟨.invoke r name,args,argTypes⟩,type,pos,after,guard⟩).run P w=(callFunc f all).run P w:=by
 have hm:=zdn h (P.types.size + (Made.depth - 1)) v w;have hd:P.types.size + Made.depth=P.types.size + (Made.depth - 1) + 1:=by simp [Made.depth]
 simp only [execOp,resolve,Sem.run_bind,Sem.run_pure,Result.andThen_ok,invoke,er]
 have e0:(#[Value.iface t v]++Array.map ev args)[0]? = some (Value.iface t v):=by
  rw [Array.getElem?_append_left (by simp)];rfl
 have e1:(#[Value.iface t v]++Array.map ev args).extract 1 (#[Value.iface t v]++Array.map ev args).size=Array.map ev args:=by
  apply Array.ext';simp only [Array.toList_extract,Array.toList_append,Array.size_append];simp [List.extract];exact List.take_of_length_le (by simp)
 simp only [e0,e1,callMethod,Sem.run_bind,run_program,Result.andThen_ok,hd,hm,← ec]
theorem zpl{G:Cfg}(hG:G.Ok){st:St}{o:Oper}{K:SV→Ctr→Env→Prop}{ρ:Env}(wf:st.WF)(hk:KnL.den st.k ρ)(h:opv (PA G.P W Q QM QP) G st o K ρ) :
    Res st.c ρ K fun sv ρ''=>ValOk G.P W st o sv ρ'':=by
  obtain⟨dst,op,type,pos,after,guard⟩:=o;unfold opv at h;cases op
  case move x =>
    refine Res.pure h fun ρ'' _=>ValOk.run fun β a w hB ho hr=>⟨a.eval x,by simp [execOp],fun hn=>ho x (by simp [Op.operands]) hn⟩
  case assign x =>
    refine Res.pure h fun ρ'' _=>ValOk.run fun β a w hB ho hr=>⟨a.eval x,by simp [execOp],fun hn=>ho x (by simp [Op.operands]) hn⟩
  case pick x y z =>
    simp only at h;generalize hx:st.ev x=sx at h;split at h
    · rename_i e;have we:e.wf st.c=true:=by have:=wf.ev x;rw [hx]at this;exact this
      rcases zaa h with ⟨hd,h⟩ | ⟨hd,h⟩
      · refine Res.pure h fun ρ'' hl=>ValOk.run fun β a w hB ho hr=>⟨a.eval y, ?_,fun hn=>ho y (by simp [Op.operands]) hn⟩;have hc:=ho x (by simp [Op.operands]) (by rw [hx];simp);rw [hx]at hc;simp only [SV.den,CV.den,At.den,BE.den_like hl we,hd]at hc;simp [execOp,hc,asBool]
      · refine Res.pure h fun ρ'' hl=>ValOk.run fun β a w hB ho hr=>⟨a.eval z, ?_,fun hn=>ho z (by simp [Op.operands]) hn⟩;have hc:=ho x (by simp [Op.operands]) (by rw [hx];simp);rw [hx]at hc;simp only [SV.den,CV.den,At.den,BE.den_like hl we,hd]at hc;simp [execOp,hc,asBool]
    · exact h.elim
  case load t x =>
    simp only at h;generalize hgl:gloLoad G st.k st.c t (st.ev x)=gl at h;cases gl with
    | none =>
    simp only at h;refine (zqp wf.ap h).mono fun sv ρ'' hl hv=>ValOk.run fun β a w hB ho hr=>⟨sv.den ρ'' β, ?_,fun _=>rfl⟩;obtain⟨h1,h2,h3⟩:=hv;have e1:=ho x (by simp [Op.operands]) h1;simp only [execOp,e1];exact zl _ w _ (h3 β w hB hr)
    | some z =>
    obtain⟨g,cs,ty,v⟩:=z;simp only at h;obtain⟨⟨ty2,mk2,hh⟩,h⟩:=h;unfold gloLoad at hgl;split at hgl;rotate_left
    · cases hgl
    rename_i p j sz off hx;generalize hp:findP st.k p=u1 at hgl;cases u1 with
    | none=>cases hgl
    | some g' =>
    simp only at hgl;generalize hlk:G.globs.lookup g'=u2 at hgl;cases u2 with
    | none=>cases hgl
    | some cz =>
    obtain⟨cs',ty'⟩:=cz;simp only at hgl;generalize hpt:partOf G.P t cs' (j.toNat * sz + off)=u3 at hgl;cases u3 with
    | none=>cases hgl
    | some v' =>
    simp only at hgl;split at hgl;rotate_left
    · cases hgl
    rename_i hcs;simp only [Option.some.injEq,Prod.mk.injEq]at hgl;obtain⟨rfl,rfl,rfl,rfl⟩:=hgl;have hkn:=zbl hp;refine Res.pure h fun ρ'' hl=>ValOk.run fun β a w hB ho hr=>⟨(SV.cv v').den ρ'' β, ?_,fun _=>rfl⟩;have hden:ρ''.p p=(g',0):=Kn.den_like hl (wf.k _ hkn) (hk _ hkn);have e1:=ho x (by simp [Op.operands]) (by rw [hx];simp);rw [hx]at e1
    have e1:a.eval x=.pointer (some ⟨g',0 + j.toNat * sz + off,none⟩):=by
      rw [e1];show Value.pointer (some ⟨(ρ''.p p).1,(ρ''.p p).2 + j.toNat * sz + off,none⟩)=_;rw [hden]
    simp only [execOp,e1];refine zl _ w _ ?_
    have hcell:∀ j a,cs'[j]? = some a→w.cell? ⟨g',j,none⟩=some (a.den ρ'' b0):=fun j a ha=>by
      refine hB.cell ?_;rw [zma hh j];simp only [List.getElem?_toArray,List.getElem?_map,ha,Option.map_some];rw [At.den_like hl (fun _ _=>rfl) (List.all_eq_true.1 hcs.1 a (List.mem_of_getElem? ha))]
    have hrun:=zrba hpt hcell β hcs.2;rw [show (0:Nat) + j.toNat * sz + off=j.toNat * sz + off from by omega];exact hrun
  case nilCheck x =>
    simp only at h;generalize hx:st.ev x=sx at h;split at h
    all_goals first
      | exact h.elim
      | (refine Res.pure h fun ρ'' hl=>ValOk.run fun β a w hB ho hr=>⟨a.eval x, ?_,fun hn => ?_⟩
         · have hc:=ho x (by simp [Op.operands]) (by rw [hx];simp);rw [hx]at hc;simp [execOp,hc,SV.den,CV.den,At.den]
         · have hc:=ho x (by simp [Op.operands]) (by rw [hx];simp);rw [hx]at hc;exact hc)
  case binOp op t x y yt =>
    simp only at h;generalize hon:ownNil G.P st.o op t (st.ev x) (st.ev y)=on at h;cases on with
    | some cs =>
    obtain⟨ce,sz⟩:=cs;simp only at h;unfold ownNil at hon;split at hon;rotate_left
    · cases hon
    rename_i hop;generalize hu:G.P.underlying t=u1 at hon;generalize hsx:st.ev x=sx at hon;generalize hsy:st.ev y=sy at hon;split at hon;rotate_left
    · cases hon
    rename_i el k;generalize hg:getO st.o k=u2 at hon;split at hon;rotate_left
    · cases hon
    rename_i ce' sz' t';split at hon;rotate_left
    · cases hon
    rename_i hz;simp only [Option.some.injEq,Prod.mk.injEq]at hon;obtain⟨rfl,rfl⟩:=hon;obtain⟨n,c1,ρ1,r1,r2,r3,r4,r5,r6⟩:=zxa h;obtain⟨q1,q2⟩:=zb r1;refine⟨_,_,ρ1,q2,r2,r4,fun ρ'' hl=>ValOk.run fun β a w hB ho hr=>⟨.bool (decide (op=.neq)), ?_,fun _=>rfl⟩⟩;have e1:=ho x (by simp [Op.operands]) (by rw [hsx];simp);have e2:=ho y (by simp [Op.operands]) (by rw [hsy];simp);rw [hsx]at e1;rw [hsy]at e2;have hrow:=(hr k (by simp [readsOf,hsx]) _ (zla (wf.ap k _ hg) hg)).old hz
    have hn:0 < (ceDen ρ'' β ce').length / sz':=by
      have h1:=r6 ρ'' β hl;have h2:0 < n.den ρ1:=q1;rw [← IE.den_like hl r5,h1]at h2;omega
    have hcode:β (k + 1)≠0:=by
      rcases hrow.2.2 with ⟨_,h1⟩ | ⟨h1,_⟩
      · rw [hrow.1,h1,Nat.zero_mul]at hn;simp at hn
      · omega
    simp only [SV.den,CV.den,At.den,ownV,if_neg hcode]at e1 e2;simp only [execOp,e1,e2];refine zl _ w _ ?_;have heq:(Op.equal t (.slice (some ⟨β k,β (k + 3),none⟩) (β (k + 2)) (β (k + 1) - 1)) (.slice none 0 0)).run G.P w=.ok false w:=ztr 9999 _ _ _ w hu;rw [Sem.run_bind,zll _ _ _ _ _ _ rfl,Result.andThen_ok];rcases hop with rfl | rfl
    · rw [(zml _ rfl t).1];simp [heq]
    · rw [(zml _ rfl t).2];simp [heq]
    | none =>
    simp only at h;generalize hie:ifcEq G.P st.k op t x y (st.ev x) (st.ev y)=ie at h;cases ie with
    | some bb =>
    simp only at h;refine Res.pure h fun ρ'' hl=>ValOk.run fun β a w hB ho hr=>⟨.bool bb, ?_,fun _=>rfl⟩;obtain⟨q1,q2,q3⟩:=zcs hie (KnL.den_like hl wf.k hk) β w;have e1:=ho x (by simp [Op.operands]) q1;have e2:=ho y (by simp [Op.operands]) q2;simp only [execOp,e1,e2];exact zl _ w _ q3
    | none =>
    simp only at h;have hx:st.ev x ≠ .any:=by intro he;rw [he]at h;cases hy:st.ev y <;> rw [hy]at h <;> exact h
    have hy:st.ev y ≠ .any:=by
      intro he;rw [he]at h;cases hx2:st.ev x with
      | cv q=>rw [hx2]at h;cases q with
        | one q=>cases q <;> exact h
        | agg q=>exact h
      | _=>rw [hx2]at h;exact h
    refine (zur (wf.ev x) (wf.ev y) h).mono fun sv ρ'' hl hv=>ValOk.run fun β a w hB ho hr=>⟨sv.den ρ'' β, ?_,fun _=>rfl⟩;have e1:=ho x (by simp [Op.operands]) hx;have e2:=ho y (by simp [Op.operands]) hy;simp only [execOp,e1,e2];exact zl _ w _ (hv.2 β w x y)
  case lookup t x i ok =>
    simp only at h;refine (zbn wf.ap h).mono fun sv ρ'' hl hv=>ValOk.run fun β a w hB ho hr=>⟨sv.den ρ'' β, ?_,fun _=>rfl⟩;obtain⟨v1,v2,v3,v4⟩:=hv;have e1:=ho x (by simp [Op.operands]) v1;have e2:=ho i (by simp [Op.operands]) v2;simp only [execOp,e1,e2];exact zl _ w _ (v4 β w fun k hk=>hr k (by simpa [readsOf]using hk))
  case typeAssert x xt asserted ok =>
    simp only at h;refine (zcn (xT:=xt) wf.k hk h).mono fun sv ρ'' hl hv=>ValOk.run fun β a w hB ho hr=>⟨sv.den ρ'' β, ?_,fun _=>rfl⟩;have e1:=ho x (by simp [Op.operands]) hv.2.1;simp only [execOp,e1];exact zl _ w _ (hv.2.2 β w)
  case unOp op t x =>
    simp only at h;refine (zzu h).mono fun sv ρ'' hl hv=>ValOk.run fun β a w hB ho hr=>⟨sv.den ρ'' β, ?_,fun _=>rfl⟩;have e1:=ho x (by simp [Op.operands]) hv.2.1;simp only [execOp,e1];exact zl _ w _ (hv.2.2 β w)
  case convert s d x =>
    simp only at h;generalize hby:bytesOf G.P st.m st.o s d (st.ev x)=by' at h
    cases by' with
    | some ce =>
    simp only at h;refine (zid h).mono fun sv ρ'' hl hv=>ValOk.run fun β a w hB ho hr=>⟨sv.den ρ'' β, ?_,fun _=>rfl⟩;obtain⟨v1,v2,v3⟩:=hv;obtain⟨b1,b2⟩:=zas (W:=W) wf.ap hby v1 (fun k hk=>hr k (by simpa [readsOf]using hk));have e1:=ho x (by simp [Op.operands]) b1;rw [v3 β];simp only [execOp,e1];exact zl _ w _ b2
    | none =>
    simp only at h;generalize hab:argBytes G.P st.c s d (st.ev x)=ab at h;cases ab with
    | some at0 =>
      simp only at h;obtain⟨L,hL,h⟩:=h;have hle:st.c.le {st.c with nl:=st.c.nl + 1}:=⟨Nat.le_refl _,Nat.le_refl _,Nat.le_refl _,Nat.le_refl _,Nat.le_refl _,Nat.le_refl _,Nat.le_succ _⟩;obtain⟨sv,c2,ρ2,g1,g2,g3,g4⟩:=zid h;refine⟨sv,c2,ρ2,g1,Ctr.le_trans hle g2,Env.like_trans hle (zia st.c ρ L) g3,fun ρ'' hk=>ValOk.run fun β a w hB ho hr=>⟨sv.den ρ'' β, ?_,fun _=>rfl⟩⟩;obtain⟨v1,v2,v3⟩:=g4 ρ'' hk;have lk:Env.like {st.c with nl:=st.c.nl + 1} (ρ.setL st.c.nl L) ρ'':=Env.like_trans g2 g3 hk
      have eL:ceDen ρ'' (fun _=>0) [.var st.c.nl]=L.map (·.1):=by
        simp only [ceDen,Sg.den,List.append_nil];rw [lk.l st.c.nl (Nat.lt_succ_self _)];exact congrArg (List.map fun y:OV=>y.1) (if_pos rfl)
      obtain⟨b1,b2⟩:=zwp hab hL (Env.like_trans hle (zia st.c ρ L) (Env.like_trans g2 g3 hk)) (fun {a u} ha=>hB.cell ha) (by simp only [SP.ok,eL]at v1;exact v1) β;have e1:=ho x (by simp [Op.operands]) b1;rw [v3 β];simp only [execOp,e1,SP.den,eL];exact zl _ w _ b2
    | none =>
    simp only at h;refine (znp h).mono fun sv ρ'' hl hv=>ValOk.run fun β a w hB ho hr=>⟨sv.den ρ'' β, ?_,fun _=>rfl⟩;have e1:=ho x (by simp [Op.operands]) hv.2.1;simp only [execOp,e1];exact zl _ w _ (hv.2.2 β w)
  case field t x f =>
    simp only at h;refine (zfo h).mono fun sv ρ'' hl hv=>ValOk.run fun β a w hB ho hr=>⟨sv.den ρ'' β, ?_,fun _=>rfl⟩;have e1:=ho x (by simp [Op.operands]) hv.2.1;simp only [execOp,e1];exact zl _ w _ (hv.2.2 β w)
  case fieldAddr t x f =>
    simp only at h;refine (zrj h).mono fun sv ρ'' hl hv=>ValOk.run fun β a w hB ho hr=>⟨sv.den ρ'' β, ?_,fun _=>rfl⟩;have e1:=ho x (by simp [Op.operands]) hv.2.1;simp only [execOp,e1];exact zl _ w _ (hv.2.2 β w)
  case indexAddr t x i =>
    simp only at h;refine (zsj wf.ap (wf.ev x) (wf.ev i) h).mono fun sv ρ'' hl hv=>ValOk.run fun β a w hB ho hr=>⟨sv.den ρ'' β, ?_,fun _=>rfl⟩;have e1:=ho x (by simp [Op.operands]) hv.2.1.1;have e2:=ho i (by simp [Op.operands]) hv.2.1.2;simp only [execOp,e1,e2];exact zl _ w _ (hv.2.2 β w hr)
  case index t x i =>
    simp only at h;refine (zgo (wf.ev x) (wf.ev i) h).mono fun sv ρ'' hl hv=>ValOk.run fun β a w hB ho hr=>⟨sv.den ρ'' β, ?_,fun _=>rfl⟩;have e1:=ho x (by simp [Op.operands]) hv.2.1.1;have e2:=ho i (by simp [Op.operands]) hv.2.1.2;simp only [execOp,e1,e2];exact zl _ w _ (hv.2.2 β w)
  case extract x i =>
    simp only at h;generalize hx:st.ev x=sx at h;split at h
    · rename_i l;generalize hi:l[i]? = u at h;split at h
      · rename_i v;refine Res.pure h fun ρ'' _=>ValOk.run fun β a w hB ho hr=>⟨(SV.cv v).den ρ'' β, ?_,fun _=>rfl⟩;have e1:=ho x (by simp [Op.operands]) (by rw [hx];simp);rw [hx]at e1;simp only [execOp,e1];refine zl _ w _ ?_;simp [SV.den,Instr.extract,hi]
      · exact h.elim
    · exact h.elim
  case build t parts =>
    simp only at h;have hany:=zxr h;refine (zho h).mono fun sv ρ'' hl hv=>ValOk.run fun β a w hB ho hr=>⟨sv.den ρ'' β, ?_,fun _=>rfl⟩
    have e1:(parts.map fun x=>(x.1,a.eval x.2))=((parts.toList.map fun p=>(p.1,st.ev p.2)).map fun p=>(p.1,p.2.den ρ'' β)).toArray:=by
      rw [List.map_map];apply Array.ext';rw [Array.toList_map];apply List.map_congr_left;intro p hp
      have:=ho p.2 (by simp only [Op.operands];exact zew (by simpa using ⟨p.1,Array.mem_toList_iff.1 hp⟩)) (hany (p.1,st.ev p.2) (List.mem_map.2 ⟨p,hp,rfl⟩))
      simp [this]
    simp only [execOp];refine zl _ w _ ?_
    have:=hv.2 β w
    rw [← e1]at this;exact this
  case slice t x lo hi mx =>
    cases mx with
    | some m=>exact h.elim
    | none =>
      simp only at h;refine (zko (wf.ev x) (fun v hv => ?_) (fun v hv => ?_) h).mono fun sv ρ'' hl hv=>ValOk.run fun β a w hB ho hr=>⟨sv.den ρ'' β, ?_,fun _=>rfl⟩
      · cases lo <;> simp at hv;subst hv;exact wf.ev _
      · cases hi <;> simp at hv;subst hv;exact wf.ev _
      · obtain⟨v1,v2,v3,v4,v5⟩:=hv;have e1:=ho x (by simp [Op.operands]) v2
        have e2:lo.map a.eval=(lo.map st.ev).map (SV.den ρ'' β):=by
          cases lo with
          | none=>rfl
          | some l=>simp only [Option.map_some];rw [ho l (by simp [Op.operands]) (v3 _ rfl)]
        have e3:hi.map a.eval=(hi.map st.ev).map (SV.den ρ'' β):=by
          cases hi with
          | none=>rfl
          | some l=>simp only [Option.map_some];rw [ho l (by simp [Op.operands]) (v4 _ rfl)]
        simp only [execOp,e1,e2,e3,Option.map_none];exact zl _ w _ (v5 β w)
  case makeFunc fn first caps =>
    cases fn <;> simp only at h <;> first
      | exact h.elim
      | skip
    rename_i f;split at h
    · rename_i hf;generalize hl:locsOf (caps.toList.map st.ev)=u at h;split at h
      · rename_i l;obtain⟨q1,q2⟩:=ztc _ hl;refine Res.pure h fun ρ'' _=>ValOk.run fun β a w hB ho hr=>⟨_, ?_,fun _=>rfl⟩
        have e1:caps.map a.eval=(l.map fun c=>(.pointer (some ⟨β c.1,c.2,none⟩):Value)).toArray:=by
          rw [← q2 ρ'' β];apply Array.ext';rw [Array.toList_map];exact zca _ fun x hx=>ho x (by simp only [Op.operands];exact Array.mem_append.2 (.inr (Array.mem_toList_iff.1 hx))) (q1 _ (List.mem_map.2 ⟨x,hx,rfl⟩))
        have e2:first=#[]:=Array.size_eq_zero_iff.1 hf
        subst e2;simp only [execOp];refine zl _ w _ ?_;simp [Instr.makeFunc,e1,SV.den,CV.den,At.den]
      · exact h.elim
    · generalize hq:locsOf (first.toList.map st.ev)=u0 at h;generalize hl:locsOf (caps.toList.map st.ev)=u at h;split at h
      · rename_i q l;obtain⟨q1,q2⟩:=ztc _ hl;obtain⟨q3,q4⟩:=ztc _ hq;refine Res.pure h fun ρ'' _=>ValOk.run fun β a w hB ho hr=>⟨_, ?_,fun _=>rfl⟩
        have e1:caps.map a.eval=(l.map fun c=>(.pointer (some ⟨β c.1,c.2,none⟩):Value)).toArray:=by
          rw [← q2 ρ'' β];apply Array.ext';rw [Array.toList_map];exact zca _ fun x hx=>ho x (by simp only [Op.operands];exact Array.mem_append.2 (.inr (Array.mem_toList_iff.1 hx))) (q1 _ (List.mem_map.2 ⟨x,hx,rfl⟩))
        have e2:first.map a.eval=(q.map fun c=>(.pointer (some ⟨β c.1,c.2,none⟩):Value)).toArray:=by
          rw [← q4 ρ'' β];apply Array.ext';rw [Array.toList_map];exact zca _ fun x hx=>ho x (by simp only [Op.operands];exact Array.mem_append.2 (.inl (Array.mem_toList_iff.1 hx))) (q3 _ (List.mem_map.2 ⟨x,hx,rfl⟩))
        simp only [execOp];refine zl _ w _ ?_;simp [Instr.makeFunc,e1,e2,SV.den,CV.den,At.den]
      · rename_i l;obtain⟨q1,q2⟩:=ztc _ hl;generalize hf1:first.toList.map st.ev=fl at h
        split at h;rotate_left
        · exact h.elim
        rename_i cs;generalize hof:Cell0.ofs cs=u2 at h;split at h;rotate_left
        · exact h.elim
        rename_i r;refine Res.pure h fun ρ'' _=>ValOk.run fun β a w hB ho hr=>⟨_, ?_,fun _=>rfl⟩
        have e1:caps.map a.eval=(l.map fun c=>(.pointer (some ⟨β c.1,c.2,none⟩):Value)).toArray:=by
          rw [← q2 ρ'' β];apply Array.ext';rw [Array.toList_map];exact zca _ fun x hx=>ho x (by simp only [Op.operands];exact Array.mem_append.2 (.inr (Array.mem_toList_iff.1 hx))) (q1 _ (List.mem_map.2 ⟨x,hx,rfl⟩))
        have e2:first.map a.eval=#[.agg (r.map (Cell0.den ρ'' β)).toArray]:=by
          apply Array.ext'
          rw [Array.toList_map,zca (st:=st) (ρ:=ρ'') (β:=β) _ fun x hx=>ho x (by simp only [Op.operands];exact Array.mem_append.2 (.inl (Array.mem_toList_iff.1 hx))) (by
            have:st.ev x∈first.toList.map st.ev:=List.mem_map.2 ⟨x,hx,rfl⟩
            rw [hf1]at this;simp only [List.mem_singleton]at this;rw [this];simp)]
          rw [hf1]
          have:cs.map (At.den ρ'' β)=r.map (Cell0.den ρ'' β):=by
            rw [← Cell0.ofs_at hof,List.map_map];exact List.map_congr_left fun x _=>Cell0.den_at ρ'' β x
          simp only [List.map_cons,List.map_nil,SV.den,CV.den,this]
        simp only [execOp];refine zl _ w _ ?_;simp [Instr.makeFunc,e1,e2,SV.den,CV.den,At.den]
      · exact h.elim
  case call cl =>
    obtain⟨callee,args,argTypes⟩:=cl;cases callee
    case invoke r m =>
      simp only at h;generalize hr0:st.ev r=sr at h;split at h
      · rename_i i;generalize hf:findI st.k i=u1 at h;cases u1 with
        | none=>exact h.elim
        | some z =>
        obtain⟨t,v⟩:=z;simp only at h;generalize hm:methodOf G.P t m=u2 at h;cases u2 with
        | none=>exact h.elim
        | some f =>
        simp only at h;have hmem:=zfd hf;have hwv:=wf.k _ hmem;simp only [Kn.wf,Bool.and_eq_true]at hwv;refine (zjk hG wf.ap (fun k cs t hm=>(wf.m k cs t hm).2) (fun k ce sz t hm=>(wf.o k ce sz t hm).2) h).mono fun sv ρ'' hl hv => ?_;obtain⟨h1,h2,h3⟩:=hv;intro β a w hB ho hr next Q' hn
        have er:=ho r (by simp [Op.operands,Call.operands]) (by rw [hr0];simp);rw [hr0]at er;have hd:(Kn.ifc i t v).den ρ'':=Kn.den_like hl (wf.k _ hmem) (hk _ hmem);simp only [Kn.den]at hd
        have er:a.eval r=.iface t (v.den ρ'' β):=by
          rw [er];show (ρ''.v i).1=_;rw [hd,CV.den_flat ρ'' (fun _=>0) β hwv.2.2]
        have ea:(args.map a.eval).toList=(args.toList.map st.ev).map (SV.den ρ'' β):=by
          rw [Array.toList_map];exact zca _ fun x hx=>ho x (by simp only [Op.operands,Call.operands];exact Array.mem_append.2 (.inr (Array.mem_toList_iff.1 hx))) (h2 _ (List.mem_cons_of_mem _ (List.mem_map.2 ⟨x,hx,rfl⟩)))
        have ec:#[v.den ρ'' β]++args.map a.eval=(((SV.cv v)::args.toList.map st.ev).map (SV.den ρ'' β)).toArray:=by
          apply Array.ext';rw [Array.toList_append,ea];simp [SV.den]
        have hx:(execOp a.eval ⟨dst,.call ⟨.invoke r m,args,argTypes⟩,type,pos,after,guard⟩).run G.P w=(callFunc f (((SV.cv v)::args.toList.map st.ev).map (SV.den ρ'' β)).toArray).run G.P w:=zpn hm er ec w
        have hrd:RdOk W st.m st.o (blksOf (deepSV st.m st.o ((SV.cv v)::args.toList.map st.ev))) ρ'' β w:=fun k hk=>hr k (by
          simp only [readsOf,hr0,hf];exact hk)
        unfold Oper.wp;rw [hx];rcases h3 β w hB hrd with h4 | ⟨h4,h5⟩
        · rw [h4,Oper.upon_value];exact hn _ w (fun _=>rfl) (Below.refl _ _)
        · rw [h4,Oper.upon_enter]
          exact h5.mono fun e w' he=>by
            obtain⟨rfl,hb⟩:=he;exact hn _ w' (fun _=>rfl) hb
      · exact h.elim
    case builtin b =>
      cases b <;> simp only at h <;> first
        | exact h.elim
        | skip
      case len =>
        generalize ha:args.toList=al at h;split at h
        · rename_i x;refine (zzr wf.ap (wf.ev x) h).mono fun sv ρ'' hl hv=>ValOk.run fun β a w hB ho hr=>⟨sv.den ρ'' β, ?_,fun _=>rfl⟩;obtain⟨h1,ty,h2,h3⟩:=hv;have ea:args=#[x]:=by apply Array.ext';rw [ha]
          subst ea;have e1:=ho x (by simp [Op.operands,Call.operands]);have h4:=h3 β w (a.eval x) (by simpa [readsOf]using hr) e1;have ht:argTypes[0]? = some ty:=h2
          have h5:(Builtin.len_ argTypes type #[a.eval x]).run G.P w=.ok (sv.den ρ'' β) w:=by
            have:Builtin.len_ argTypes type #[a.eval x]=Builtin.len_ #[ty] ty #[a.eval x]:=by simp only [Builtin.len_,ht];rfl
            rw [this];exact h4
          simp [execOp,resolve,invoke,builtin,h5]
        · exact h.elim
      case max =>
        generalize ha:args.toList=al at h;split at h
        · rename_i x y;refine (zgh h).mono fun sv ρ'' hl hv=>ValOk.run fun β a w hB ho hr=>⟨sv.den ρ'' β, ?_,fun _=>rfl⟩;obtain⟨h1,h2,h3,h4⟩:=hv;have ea:args=#[x,y]:=by apply Array.ext';rw [ha]
          subst ea;have e1:=ho x (by simp [Op.operands,Call.operands]) h2;have e2:=ho y (by simp [Op.operands,Call.operands]) h3;have h5:=h4 β w;rw [← e1,← e2]at h5;simp only [if_true]at h5;simp [execOp,resolve,invoke,builtin,Builtin.max_,h5]
        · exact h.elim
      case min =>
        generalize ha:args.toList=al at h;split at h
        · rename_i x y;refine (zgh h).mono fun sv ρ'' hl hv=>ValOk.run fun β a w hB ho hr=>⟨sv.den ρ'' β, ?_,fun _=>rfl⟩;obtain⟨h1,h2,h3,h4⟩:=hv;have ea:args=#[x,y]:=by apply Array.ext';rw [ha]
          subst ea;have e1:=ho x (by simp [Op.operands,Call.operands]) h2;have e2:=ho y (by simp [Op.operands,Call.operands]) h3;have h5:=h4 β w;rw [← e1,← e2]at h5;simp only [Bool.false_eq_true,if_false]at h5;simp [execOp,resolve,invoke,builtin,Builtin.min_,h5]
        · exact h.elim
    case value g =>
      simp only at h
      have main:∀ (f:FuncId) (first caps:List (Nat × Nat)) (all:List SV),all=(first.map fun x=>SV.cv (.one (.loc x.1 x.2)))++(args.toList.map st.ev++caps.map fun x=>SV.cv (.one (.loc x.1 x.2))) →
          st.ev g ≠ .any →
          (∀ (ρ'':Env) (β:Nat→Nat),(st.ev g).den ρ'' β=.func (.func f) (first.map fun c=>.pointer (some ⟨β c.1,c.2,none⟩)).toArray (caps.map fun c=>.pointer (some ⟨β c.1,c.2,none⟩)).toArray) →
          (∀ k∈blksOf (deepSV st.m st.o all),k∈readsOf st ⟨dst,.call ⟨.value g,args,argTypes⟩,type,pos,after,guard⟩) →
          doCall (PA G.P W Q QM QP) G st.m st.o st.c f all K ρ →
          Res st.c ρ K fun sv ρ''=>ValOk G.P W st ⟨dst,.call ⟨.value g,args,argTypes⟩,type,pos,after,guard⟩ sv ρ'':=by
        intro f first caps all hall hgany hgden hreads h
        refine (zjk hG wf.ap (fun k cs t hm=>(wf.m k cs t hm).2) (fun k ce sz t hm=>(wf.o k ce sz t hm).2) h).mono fun sv ρ'' hl hv => ?_;obtain⟨h1,h2,h3⟩:=hv;intro β a w hB ho hr next Q' hn
        have eg:=ho g (by simp [Op.operands,Call.operands]) hgany;rw [hgden ρ'' β]at eg
        have ea:(args.map a.eval).toList=(args.toList.map st.ev).map (SV.den ρ'' β):=by
          rw [Array.toList_map];exact zca _ fun x hx=>ho x (by simp only [Op.operands,Call.operands];exact Array.mem_append.2 (.inr (Array.mem_toList_iff.1 hx))) (h2 _ (by rw [hall];exact List.mem_append.2 (.inr (List.mem_append.2 (.inl (List.mem_map.2 ⟨x,hx,rfl⟩))))))
        have ec:(first.map fun c=>(.pointer (some ⟨β c.1,c.2,none⟩):Value)).toArray++args.map a.eval++(caps.map fun c=>(.pointer (some ⟨β c.1,c.2,none⟩):Value)).toArray=(all.map (SV.den ρ'' β)).toArray:=by
          apply Array.ext';rw [Array.toList_append,Array.toList_append,ea,hall];simp [SV.den,CV.den,At.den,Function.comp_def]
        have hx:(execOp a.eval ⟨dst,.call ⟨.value g,args,argTypes⟩,type,pos,after,guard⟩).run G.P w=(callFunc f (all.map (SV.den ρ'' β)).toArray).run G.P w:=by
          simp only [execOp,resolve,eg,Deferred.ofValue,Sem.run_bind,Sem.run_pure,Result.andThen_ok,invoke];rw [← ec]
        have hrd:RdOk W st.m st.o (blksOf (deepSV st.m st.o all)) ρ'' β w:=fun k hk=>hr k (hreads k hk);unfold Oper.wp;rw [hx];rcases h3 β w hB hrd with h4 | ⟨h4,h5⟩
        · rw [h4,Oper.upon_value];exact hn _ w (fun _=>rfl) (Below.refl _ _)
        · rw [h4,Oper.upon_enter]
          exact h5.mono fun e w' he=>by
            obtain⟨rfl,hb⟩:=he;exact hn _ w' (fun _=>rfl) hb
      have app:∀ (l1 l2:List At),blksOf (l1++l2)=blksOf l1++blksOf l2:=by
        intro l1 l2
        induction l1 with
        | nil=>rfl
        | cons x l1 ih=>cases x <;> simp [blksOf,ih]
      generalize hg:st.ev g=sg at h;split at h
      · rename_i f caps;refine main f [] caps _ (by simp) (by rw [hg];simp) (fun ρ'' β=>by rw [hg];rfl) (fun k hk => ?_) h;simp only [readsOf,hg];exact hk
      · rename_i f first caps
        refine main f first caps _ rfl (by rw [hg];simp) (fun ρ'' β=>by rw [hg];rfl) (fun k hk => ?_) h
        simp only [readsOf,hg];exact hk
      · exact h.elim
  all_goals exact h.elim
end Vc
set_option linter.unusedVariables false
namespace Vc
open Go Go.RowKit
variable {P:Program} {W:Wld} {Q:Value→Prop} {QM QP:World→Value→Prop}
theorem heap_lt{w:World}{b:Nat}{o:Obj}(h:w.heap[b]? = some o):b < w.heap.size:=(Array.getElem?_eq_some_iff.1 h).1
theorem zq(t:List (Nat × SV))(d i:Nat)(v:SV):getS ((d,v)::t) i=if d=i then v else getS t i:=by
 show (match Nat.beq d i with | true=>v | false=>getS t i)=_;cases h:Nat.beq d i with
 | true=>rw [if_pos (Nat.eq_of_beq_eq_true h)]
 | false=>rw [if_neg (Nat.ne_of_beq_eq_false h)]
theorem zuc(m:Mem)(d i:Nat)(v:List At × TypeId):getM ((d,v)::m) i=if d=i then some v else getM m i:=rfl
theorem zda(m:OMem)(d i:Nat)(v:CE × Nat × TypeId):getO ((d,v)::m) i=if d=i then some v else getO m i:=rfl
theorem zlo:∀ (o:OMem) (k i:Nat),getO (delO o k) i=if k=i then none else getO o i
  | [],k,i=>by simp [delO,getO]
  | (j,v)::r,k,i=>by
    simp only [delO];by_cases hj:j=k
    · subst hj;rw [if_pos rfl,zlo r j i,zda];by_cases hi:j=i
      · rw [if_pos hi,if_pos hi]
      · rw [if_neg hi,if_neg hi,if_neg hi]
    · rw [if_neg hj,zda,zda,zlo r k i];by_cases hi:j=i
      · rw [if_pos hi,if_pos hi,if_neg (fun e=>hj (hi.trans e.symm))]
      · rw [if_neg hi,if_neg hi]
theorem zqb:∀ (l:List Nat) (o:OMem) (i:Nat),getO (delOs o l) i=if i∈l then none else getO o i
  | [],o,i=>by simp [delOs]
  | k::l,o,i=>by
    simp only [delOs,zqb l,zlo,List.mem_cons];by_cases h1:i∈l
    · simp [h1]
    · by_cases h2:k=i
      · simp [h2]
      · have:¬ i=k:=fun e=>h2 e.symm
        simp [h1,h2,this]
theorem zkd:∀ (o:OMem) (k i:Nat) (ce:CE),getO (setO o k ce) i=if k=i then (getO o i).map (fun x=>(ce,x.2))else getO o i
  | [],k,i,ce=>by simp [setO,getO]
  | (j,v)::r,k,i,ce=>by
    simp only [setO];by_cases hj:j=k
    · subst hj;rw [if_pos rfl];simp only [zda];by_cases hi:j=i
      · simp [hi]
      · simp [hi]
    · rw [if_neg hj];simp only [zda,zkd r k i ce];by_cases hi:j=i
      · subst hi;rw [if_pos rfl,if_neg (fun h=>hj h.symm),if_pos rfl]
      · simp [hi]
theorem zsa:∀ (m:Mem) (k i:Nat) (cs:List At),getM (setM m k cs) i=if k=i then (getM m i).map (fun x=>(cs,x.2))else getM m i
  | [],k,i,cs=>by simp [setM,getM]
  | (j,v)::r,k,i,cs=>by
    simp only [setM];by_cases hj:j=k
    · subst hj;rw [if_pos rfl];simp only [zuc];by_cases hi:j=i
      · simp [hi]
      · simp [hi]
    · rw [if_neg hj];simp only [zuc,zsa r k i cs];by_cases hi:j=i
      · subst hi;rw [if_pos rfl,if_neg (fun h=>hj h.symm),if_pos rfl]
      · simp [hi]
theorem zee(w:World)(g k:Nat)(cs:Array Value)(h:k≠g):(w.setRow g cs).heap[k]? = w.heap[k]? := by
 simp only [World.setRow,Array.getElem?_modify];rw [if_neg (by omega)]
theorem zql{t:TypeId}{g:Bool}{n:Nat}(hz:szAgg P t=some (g,n))(w:World)(b o:Nat)(v:Value)(cur:Array Value)(ty:TypeId)(hb:w.heap[b]? = some (.cells cur ty))(hn:v.cells.size=n)(ho:o + n≤cur.size)
  (h1:∀ x∈v.cells.toList,x.oneCell'=true) :
  (Instr.storeAt t (ptr b o) v).run P w=.ok () (w.setRow b (cur.toList.take o++v.cells.toList++cur.toList.drop (o + n)).toArray):=by
 have hst:=run_storeCells_at P b o ty v.cells.toList 0 cur w hb (by simp [hn];exact ho) h1;simp only [Array.length_toList,hn,Nat.add_zero]at hst;simp [Instr.storeAt,ptr,Instr.sureAddr,storeVar,zka hz,hn,hst]
theorem zy{c:Ctr}{l:List At}(h:l.all (At.wf c)=true)(n:Nat):(l.take n).all (At.wf c)=true∧(l.drop n).all (At.wf c)=true :=
 ⟨List.all_eq_true.2 fun x hx=>List.all_eq_true.1 h x (List.mem_of_mem_take hx),List.all_eq_true.2 fun x hx=>List.all_eq_true.1 h x (List.mem_of_mem_drop hx)⟩
theorem CV.wf_cells{c:Ctr}:∀ {v:CV},v.wf c=true→v.cells.all (At.wf c)=true
 | .one a,h=>by simpa [CV.cells,CV.wf]using h
 | .agg l,h=>h
theorem zrl{α β:Type}(f:α→β)(l:List α):∀ n,(times l n).map f=times (l.map f) n
 | 0=>rfl
 | n + 1=>by simp [times,zrl f l n]
theorem zvd{α:Type}(l:List α):∀ n,(times l n).length=n * l.length
 | 0=>by simp [times]
 | n + 1=>by simp [times,zvd l n,Nat.add_mul,Nat.add_comm]
theorem zyp{α:Type}(l:List α)(hl:0 < l.length):∀ n i,i < n * l.length→(times l n)[i]? = l[i % l.length]?
  | 0,i,h=>by omega
  | n + 1,i,h=>by
    simp only [times];by_cases hi:i < l.length
    · rw [List.getElem?_append_left hi,Nat.mod_eq_of_lt hi]
    · rw [Nat.succ_mul]at h;rw [List.getElem?_append_right (by omega),zyp l hl n (i - l.length) (by omega)];congr 1;exact (Nat.mod_eq_sub_mod (by omega)).symm
theorem zqn(z:Array Value)(n:Nat)(hz:0 < z.size):(Array.range (n * z.size)).map (fun i=>z[i % z.size]!)=(times z.toList n).toArray:=by
 apply Array.ext';apply List.ext_getElem?;intro i;simp only [Array.toList_map,Array.toList_range,List.getElem?_map,List.getElem?_range'];by_cases hi:i < n * z.size
 ·rw [List.getElem?_range hi,zyp _ (by simpa using hz) n i (by simpa using hi)]
  have:i % z.size < z.size:=Nat.mod_lt _ hz
  simp [this]
 ·rw [List.getElem?_eq_none (by simp;omega),List.getElem?_eq_none (by simp [zvd];omega)];rfl
theorem getElem?_put{a:Act}{d:Nat}{v:Value}(i:Nat)(hd:d < a.tmps.size):(a.put (some d) v).tmps[i]? = if d=i then some v else a.tmps[i]? := by
 simp only [Act.put];by_cases h:d=i
 ·subst h;simp [hd]
 ·rw [if_neg h,Array.getElem?_setIfInBounds_ne h]
theorem zmo(a:Act)(dst:Option Tmp)(v:Value):(a.put dst v).tmps.size=a.tmps.size:=by
 cases dst <;> simp [Act.put]
theorem zds(a:Act)(dst:Option Tmp)(v:Value):(a.put dst v).defers=a.defers:=by
 cases dst <;> rfl
def blkE(β:Nat→Nat)(k:Nat):Ent→Option Nat
 | .fix _ _=>some (β k)
 | .row _ _ _=>if 2≤β (k + 1)then some (β k)else none
def entWf(c:Ctr)(k:Nat):Ent→Prop
 | .fix cs _=>k < c.nk∧cs.all (At.wf c)=true
 | .row ce _ _=>k + 3 < c.nk∧ceWf c ce=true
def sgIds:Sg→List Nat
 | .ats l=>idsOf l
 | .var _=>[]
def entIds:Ent→List Nat
 | .fix cs _=>idsOf cs
 | .row ce _ _=>ce.flatMap sgIds
theorem St.WF.ent{st:St}(h:st.WF){k:Nat}{e:Ent}(hg:getE st.m st.o k=some e):entWf st.c k e:=by
  unfold getE at hg;cases hm:getM st.m k with
  | some x =>
    rw [hm]at hg;simp only [Option.some.injEq]at hg;subst hg;exact h.m k x.1 x.2 hm
  | none =>
    rw [hm]at hg;cases ho:getO st.o k with
    | some x =>
      rw [ho]at hg;simp only [Option.some.injEq]at hg;subst hg;exact h.o k x.1 x.2.1 x.2.2 ho
    | none=>rw [ho]at hg;cases hg
theorem zog{c:Ctr}{k:Nat}:∀ {e:Ent},entWf c k e→k < c.nk
 | .fix ..,h=>h.1
 | .row ..,h=>by have:=h.1;omega
theorem Holds.blk{ρ:Env}{β:Nat→Nat}{k:Nat}{w:World}:∀ {e:Ent},Holds W ρ β k e w→∀ b,blkE β k e=some b→(b∈W.lent∨W.heap.size≤b)∧b < w.heap.size∧∃ o,w.heap[b]? = some o∧Datum o
  | .fix cs t,h,b,hb=>by
    simp only [blkE,Option.some.injEq]at hb;subst hb;exact⟨h.1.out,heap_lt h.2,_,h.2,trivial⟩
  | .row ce sz t,h,b,hb=>by
    simp only [blkE]at hb;split at hb
    · rename_i hc;simp only [Option.some.injEq]at hb;subst hb;obtain⟨ob,h3,h4⟩:=RowOkP.datum h hc;exact⟨(RowOkP.own h hc).out,heap_lt h3,_,h3,h4⟩
    · cases hb
theorem Holds.keep{ρ ρ':Env}{β β':Nat→Nat}{c:Ctr}{k:Nat}{w w':World}:∀ {e:Ent},Holds W ρ β k e w→entWf c k e→Env.like c ρ ρ'→(∀ j,j < c.nk→β' j=β j) →
    (∀ b,blkE β k e=some b→w'.heap[b]? = w.heap[b]?)→Holds W ρ' β' k e w'
  | .fix cs t,h,hw,hl,hb,hh=>by
    refine⟨by rw [hb k hw.1];exact h.1, ?_⟩;rw [hb k hw.1,zha hl hb hw.2,hh _ rfl];exact h.2
  | .row ce sz t,h,hw,hl,hb,hh=>by
    have h1:=hw.1;simp only [Holds]at h ⊢;rw [hb k (by omega),hb (k + 1) (by omega),hb (k + 2) (by omega),hb (k + 3) (by omega),zga hl hb hw.2];exact h.heap fun h2=>hh (β k) (by simp only [blkE,h2,if_true])
theorem zuf{β β':Nat→Nat}{c:Ctr}{k:Nat}:∀ {e:Ent},entWf c k e→(∀ j,j < c.nk→β' j=β j)→blkE β' k e=blkE β k e
 | .fix ..,hw,hb=>by simp only [blkE,hb k hw.1]
 | .row ..,hw,hb=>by have:=hw.1;simp only [blkE,hb k (by omega),hb (k + 1) (by omega)]
def recAt(r:Loop):Option Ex→Loop
 | none => {r with state := .ready,pending:=none}
 | some .normal => {r with state := .busy,pending:=none}
 | some (.exit id) => {r with state := .done,pending:=some (.exit id)}
 | some .ret => {r with state := .done,pending:=some .ret}
 | some (.pan _)=>r
def marksOf(β:Nat→Nat)(d:List Nat):List Deferred:=d.map fun k => {target := .collected (β k),args := #[]}
def closOf(β:Nat→Nat)(df:List (FuncId × List (Nat × Nat))):List Deferred:=df.map fun x => {target := .fn (.func x.1) (x.2.map fun c=>(.pointer (some ⟨β c.1,c.2,none⟩):Value)).toArray,args := #[]}
theorem zze{β β':Nat→Nat}{n:Nat}{df:List (FuncId × List (Nat × Nat))}(h:∀ x∈df,∀ y∈x.2,y.1 < n)(hb:∀ k,k < n→β' k=β k):closOf β' df=closOf β df:=by
 simp only [closOf];refine List.map_congr_left fun x hx => ?_;congr 3;exact List.map_congr_left fun y hy=>by rw [hb y.1 (h x hx y hy)]
structure Core(W:Wld)(R:Nat→Loop)(Z:List Nat)(ρ:Env)(β:Nat→Nat)(st:St)(a:Act)(w:World):Prop where
 size:a.tmps.size=st.n
 tmps:∀ i,getS st.t i ≠ .any→a.tmps[i]? = some ((getS st.t i).den ρ β)
 dfr:a.defers=closOf β st.df++marksOf β st.d
 below:Bel W w
 mem:∀ k e,getE st.m st.o k=some e→Holds W ρ β k e w
 inj:∀ k k' e e' b,getE st.m st.o k=some e→getE st.m st.o k'=some e'→blkE β k e=some b→blkE β k' e'=some b→k=k'
 lps:∀ k e,getR st.r k=some e→W.heap.size≤β k∧w.heap[β k]? = some (.loop (recAt (R k) e))
 rin:∀ k k' e e',getR st.r k=some e→getR st.r k'=some e'→β k=β k'→k=k'
 ded:∀ b∈Z++st.d.map β,W.heap.size≤b∧w.heap[b]? = some (.deferred (some []))
 dn:(Z++st.d.map β).Nodup
 wf:st.WF
 kn:KnL.den st.k ρ
variable {R:Nat→Loop} {Z:List Nat}
theorem zsl{ρ:Env}{st:St}(h:KnL.den st.k ρ){g:Nat}(hn:st.ev (.global g) ≠ .any)(β:Nat→Nat):Value.pointer (some ⟨g,0,none⟩)=(st.ev (.global g)).den ρ β:=by
  simp only [St.ev]at hn ⊢;generalize hf:findG st.k g=u at hn;cases u with
  | none=>exact (hn rfl).elim
  | some p =>
    have:=h _ (zki hf)
    simp only [Kn.den]at this;show Value.pointer (some ⟨g,0,none⟩)=Value.pointer (some ⟨(ρ.p p).1,(ρ.p p).2 + 0 * 0 + 0,none⟩);rw [this]
theorem Core.eval{ρ:Env}{β:Nat→Nat}{st:St}{a:Act}{w:World}(h:Core W R Z ρ β st a w):∀ x:Operand,st.ev x ≠ .any→a.eval x=(st.ev x).den ρ β
  | .tmp t,hn=>by
    have:=h.tmps t hn
    simp only [Act.eval,St.ev,Array.getD_eq_getD_getElem?,this,Option.getD_some]
  | .const v,hn=>((SV.ofValue_den v st.c ρ β).2 hn).symm
  | .global g,hn=>zsl h.kn hn β
  | .func _,hn=>rfl
theorem Core.ops{ρ:Env}{β:Nat→Nat}{st:St}{a:Act}{w:World}(h:Core W R Z ρ β st a w)(o:Oper):OpsOk st o ρ β a:=fun x _ hn=>h.eval x hn
theorem Core.fix{ρ:Env}{β:Nat→Nat}{st:St}{a:Act}{w:World}(h:Core W R Z ρ β st a w){k:Nat}{cs:List At}{t:TypeId}(hg:getM st.m k=some (cs,t)) :
  OwnB W (β k)∧w.heap[β k]? = some (.cells (cs.map (At.den ρ β)).toArray t):=h.mem k _ (zwb hg)
theorem Core.like{ρ ρ':Env}{β:Nat→Nat}{st:St}{a:Act}{w:World}(h:Core W R Z ρ β st a w)(hl:Env.like st.c ρ ρ'):Core W R Z ρ' β st a w where
 size:=h.size
 tmps i hn:=by
  rw [h.tmps i hn];exact congrArg some (SV.den_like hl (fun _ _=>rfl) (h.wf.t i)).symm
 dfr:=h.dfr
 below:=h.below
 mem k e hg:=(h.mem k e hg).keep (h.wf.ent hg) hl (fun _ _=>rfl) (fun _ _=>rfl)
 inj:=h.inj
 lps:=h.lps
 rin:=h.rin
 ded:=h.ded
 dn:=h.dn
 wf:=h.wf
 kn:=KnL.den_like hl h.wf.k h.kn
theorem St.WF.grow{st:St}(h:st.WF){c:Ctr}(hc:st.c.le c):({st with c:=c}:St).WF where
 t i:=SV.wf_le hc (h.t i)
 m k cs t hg:=⟨Nat.lt_of_lt_of_le (h.m k cs t hg).1 hc.k,zed hc (h.m k cs t hg).2⟩
 o k ce sz t hg:=⟨Nat.lt_of_lt_of_le (h.o k ce sz t hg).1 hc.k,zmh hc (h.o k ce sz t hg).2⟩
 ap:=h.ap
 r k e hg:=Nat.lt_of_lt_of_le (h.r k e hg) hc.k
 d k hk:=Nat.lt_of_lt_of_le (h.d k hk) hc.k
 k:=KnL.wf_le hc h.k
 df x hx y hy:=Nat.lt_of_lt_of_le (h.df x hx y hy) hc.k
structure Chg(W:Wld)(s1 s':St)(ρ:Env)(C:List Nat)(β β':Nat→Nat)(w w':World):Prop where
 os:w'.os=w.os
 tape:w'.tape=w.tape
 output:w'.output=w.output
 size:w.heap.size≤w'.heap.size
 frame:∀ b,b < w.heap.size→(∀ k e,k∈C→getE s1.m s1.o k=some e→blkE β k e≠some b)→w'.heap[b]? = w.heap[b]?
 off:∀ k,¬ (s1.c.nk≤k∧k < s'.c.nk)→β' k=β k
 new:∀ k e',(k∈C∨s1.c.nk≤k)→getE s'.m s'.o k=some e'→Holds W ρ β' k e' w'∧∀ b,blkE β' k e'=some b→w.heap.size≤b∨∃ j e,j∈C∧getE s1.m s1.o j=some e∧blkE β j e=some b∧(j=k∨getE s'.m s'.o j=none)
 inj:∀ k k' e e' b,(k∈C∨s1.c.nk≤k)→(k'∈C∨s1.c.nk≤k')→getE s'.m s'.o k=some e→getE s'.m s'.o k'=some e'→blkE β' k e=some b→blkE β' k' e'=some b→k=k'
def ApartOk(m:Mem)(o:OMem)(l:List Nat)(β:Nat→Nat):Prop:=∀ k k' e e' b,k∈l→k'∈l→getE m o k=some e→getE m o k'=some e'→blkE β k e=some b→blkE β k' e'=some b→k=k'
structure OFact(P:Program)(W:Wld)(s1:St)(o:Oper)(ρ:Env)(s':St)(sv:SV)(C:List Nat):Prop where
 kn:KnL.den s1.k ρ→KnL.den s'.k ρ
 dfs:s'.df=s1.df
 n:s'.n=s1.n
 rs:s'.r=s1.r
 ds:s'.d=s1.d
 cle:s1.c.le s'.c
 wf:s'.WF
 slot:∀ t,getS s'.t t=if o.dst=some t then sv else getS s1.t t
 dst:∀ d,o.dst=some d→d < s1.n
 chg:∀ k∈C,k∈writesOf s1 o∧k < s1.c.nk
 same:∀ k,k < s1.c.nk→k ∉ C→getE s'.m s'.o k=getE s1.m s1.o k
 ids:∀ k e',(k∈C∨s1.c.nk≤k)→getE s'.m s'.o k=some e'→∀ x∈entIds e',x∈valIds s1 o∨∃ j e,j∈readsOf s1 o++writesOf s1 o∧getE s1.m s1.o j=some e∧x∈entIds e
 sem:∀ (β:Nat→Nat) (a:Act) (w:World),Bel W w→OpsOk s1 o ρ β a→RdOk W s1.m s1.o (readsOf s1 o++writesOf s1 o) ρ β w→ApartOk s1.m s1.o (writesOf s1 o) β →
  ∀ (next:Act→World→Prop) (Q':Exit→Act→World→Prop),(∀ β' v w',(sv ≠ .any→v=sv.den ρ β')→Chg W s1 s' ρ C β β' w w'→next (a.put o.dst v) w')→o.wp P a w next Q'
theorem Chg.below{s1 s':St}{ρ:Env}{C:List Nat}{β β':Nat→Nat}{w w':World}(h:Chg W s1 s' ρ C β β' w w')(hB:Bel W w)(hC:∀ k e,k∈C→getE s1.m s1.o k=some e→Holds W ρ β k e w):Bel W w' :=
 Bel.mk (h.os.trans hB.os) (h.tape.trans hB.tape) (h.output.trans hB.output) (Nat.le_trans hB.size h.size) fun b hb hl=>by
  rw [h.frame b (Nat.lt_of_lt_of_le hb hB.size) fun k e hk hg hbk => ?_]
  ·exact hB.block b hb hl
  ·rcases ((hC k e hk hg).blk b hbk).1 with h1 | h1
   ·exact hl h1
   ·omega
theorem Chg.other{s1 s':St}{ρ:Env}{C:List Nat}{β β':Nat→Nat}{w w':World}(h:Chg W s1 s' ρ C β β' w w')(hC:∀ k e,k∈C→getE s1.m s1.o k=some e→Holds W ρ β k e w){b:Nat}{o:Obj}(hb:w.heap[b]? = some o)
  (ho:¬ Datum o):w'.heap[b]? = some o:=by
 rw [h.frame b (heap_lt hb) fun k e hk hg hbk => ?_]
 ·exact hb
 ·obtain⟨_,_,o',hc,hd⟩:=(hC k e hk hg).blk b hbk;rw [hb]at hc;cases hc;exact ho hd
theorem zfw{s1 s':St}{o:Oper}{ρ:Env}{sv:SV}{C:List Nat}{β:Nat→Nat}{a:Act}{w:World}(hC:Core W R Z ρ β s1 a w)(hF:OFact P W s1 o ρ s' sv C){next:Act→World→Prop}(Q':Exit→Act→World→Prop)
    (hn:∀ β' a' w',(∀ k,k < s1.c.nk→β' k=β k)→Core W R Z ρ β' s' a' w'→next a' w'):o.wp P a w next Q':=by
  refine hF.sem β a w hC.below (hC.ops o) (fun k _ e hg=>hC.mem k e hg) (fun k k' e e' b _ _=>hC.inj k k' e e' b) next Q' fun β' v w' hv hc => ?_
  have hb:∀ k,k < s1.c.nk→β' k=β k:=fun k hk=>hc.off k (by omega);have hCm:∀ k e,k∈C→getE s1.m s1.o k=some e→Holds W ρ β k e w:=fun k e _ hg=>hC.mem k e hg
  have old:∀ {k e},¬ (k∈C∨s1.c.nk≤k)→getE s'.m s'.o k=some e→getE s1.m s1.o k=some e:=fun {k e} hk hg=>by
    rw [← hF.same k (by omega) (fun h=>hk (.inl h))];exact hg
  have oldb:∀ {k e},¬ (k∈C∨s1.c.nk≤k)→getE s1.m s1.o k=some e→∀ b,blkE β k e=some b→w'.heap[b]? = w.heap[b]? := fun {k e} hk hg b hbk=>by
    have hl:=(hC.mem k e hg).blk b hbk;refine hc.frame b hl.2.1 fun j e' hj hg' hbj => ?_
    have:=hC.inj k j e e' b hg hg' hbk hbj
    exact hk (.inl (this▸hj))
  have hmap:s1.d.map β'=s1.d.map β:=List.map_congr_left fun k hk=>hb k (hC.wf.d k hk);refine hn β' _ w' hb ⟨by rw [zmo,hC.size,hF.n],fun i hi => ?_, ?_,hc.below hC.below hCm,fun k e hg => ?_,fun k k' e e' b hx hy hbx hby => ?_,fun k e hg => ?_,fun k k' e e' hx hy he => ?_,fun b hbm => ?_, ?_,hF.wf,hF.kn hC.kn⟩
  · rw [hF.slot]at hi ⊢;by_cases hd:o.dst=some i
    · rw [if_pos hd]at hi ⊢;rw [hd,getElem?_put i (by rw [hC.size];exact hF.dst i hd),if_pos rfl,hv hi]
    · rw [if_neg hd]at hi ⊢
      have h1:(a.put o.dst v).tmps[i]? = a.tmps[i]? := by
        cases hdd:o.dst with
        | none=>rfl
        | some d =>
          rw [getElem?_put i (by rw [hC.size];exact hF.dst d hdd),if_neg (fun e=>hd (by rw [hdd,e]))]
      rw [h1,hC.tmps i hi,SV.den_like (Env.like_refl _ ρ) hb (hC.wf.t i)]
  · rw [zds,hC.dfr,hF.ds,hF.dfs,zze hC.wf.df hb];simp only [marksOf];exact congrArg _ (List.map_congr_left fun k hk=>by rw [hb k (hC.wf.d k hk)])
  · by_cases hk:k∈C∨s1.c.nk≤k
    · exact (hc.new k e hk hg).1
    · have hg1:=old hk hg;exact (hC.mem k e hg1).keep (hC.wf.ent hg1) (Env.like_refl _ _) hb (oldb hk hg1)
  · have cross:∀ {k k' e e' b},(k∈C∨s1.c.nk≤k)→¬ (k'∈C∨s1.c.nk≤k')→getE s'.m s'.o k=some e→getE s'.m s'.o k'=some e'→blkE β' k e=some b→blkE β' k' e'=some b→False:=by
      intro k k' e e' b h1 h2 hx hy hbx hby
      have hy1:=old h2 hy;rw [zuf (hC.wf.ent hy1) hb]at hby
      have hl:=(hC.mem k' e' hy1).blk b hby
      rcases (hc.new k e h1 hx).2 b hbx with h3 | ⟨j,ej,h3,h4,h5,_⟩
      · omega
      · have:=hC.inj j k' ej e' b h4 hy1 h5 hby
        exact h2 (.inl (this▸h3))
    by_cases h1:k∈C∨s1.c.nk≤k <;> by_cases h2:k'∈C∨s1.c.nk≤k'
    · exact hc.inj k k' e e' b h1 h2 hx hy hbx hby
    · exact (cross h1 h2 hx hy hbx hby).elim
    · exact (cross h2 h1 hy hx hby hbx).elim
    · have hx1:=old h1 hx;have hy1:=old h2 hy;rw [zuf (hC.wf.ent hx1) hb]at hbx;rw [zuf (hC.wf.ent hy1) hb]at hby
      exact hC.inj k k' e e' b hx1 hy1 hbx hby
  · rw [hF.rs]at hg;rw [hb k (hC.wf.r k e hg)];exact⟨(hC.lps k e hg).1,hc.other hCm (hC.lps k e hg).2 (fun h=>h)⟩
  · rw [hF.rs]at hx hy;rw [hb k (hC.wf.r k e hx),hb k' (hC.wf.r k' e' hy)]at he;exact hC.rin k k' e e' hx hy he
  · rw [hF.ds,hmap]at hbm;exact⟨(hC.ded b hbm).1,hc.other hCm (hC.ded b hbm).2 (fun h=>h)⟩
  · rw [hF.ds,hmap];exact hC.dn
end Vc
