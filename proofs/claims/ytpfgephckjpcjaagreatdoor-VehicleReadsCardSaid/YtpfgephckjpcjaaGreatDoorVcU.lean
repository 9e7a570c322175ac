import Derived.Test.YtpfgephckjpcjaaGreatDoorVcR
import Derived.OrdersIn
import Derived.StillTail
set_option linter.unusedVariables false
set_option linter.unusedSimpArgs false
namespace Vc
open Go Go.RowKit
variable {P:Program} {W:e_} {R:Nat->Loop} {Z:List Nat} {ops:Array Oper} {n:Nat} {ρ:Env} {sts:Nat->St} {iw:Nat->SV} {cs:Nat->List Nat} {rd wr:List (Nat × Nat)}
theorem Ki(hw:Way P W ops n ρ sts iw cs rd wr)(hd:eJ ops=true){a0 a:Act}{bE β an:Nat->Nat}{w w' w0:World}(wQ:Core W R Z ρ bE (sts 0) a0 w0){listed:Array Bool}(inv:Inv W R Z ops n ρ sts cs a0 bE listed a w β){i:Nat}{o:Oper}(hi:i < n)(ho:ops[i]? = some o)
    (gT:listed.getD i false=false) (hr:∀e∈o.after,Region.binds .any e=true->listed.getD e.on false=true) {s1:St} (hk:pU ρ (sts i) s1) (mY:C1 s1 o (sts (i+1)) (iw i) (cs i)) {val:Value} (mh:iw i ≠ .any->val=(iw i).den ρ an)
    (ve:z6 W s1 (sts (i+1)) ρ (cs i) β an w w') (jj:∀k∈cs i,cut n sts cs listed k i)
    (kX:∀k e',(k∈cs i∨s1.c.nk<=k)->aK (sts (i+1)).m (sts (i+1)).o k=some e'->∀x∈fD e',∀m,m<n->laid sts m x->listed.getD m false=true) :
    Inv W R Z ops n ρ sts cs a0 bE (listed.setIfInBounds i true) (a.put o.dst val) w' an:=by
  have xQ:i<ops.size:=Nat.lt_of_lt_of_le hi hw.le;have sQ:i<listed.size:=by rw [inv.ri];exact xQ
  obtain⟨kc,km,kn,ko,kr,kd⟩:=hk.c;have mf:∀m,i≠m->(listed.setIfInBounds i true).getD m false=listed.getD m false:=λm hm=>by rw [Ad listed i m sQ,if_neg hm]
  have C2:(listed.setIfInBounds i true).getD i false=true:=by rw [Ad listed i i sQ,if_pos rfl]
  have Af:∀m,listed.getD m false=true->(listed.setIfInBounds i true).getD m false=true:=λm hm=>by
    rw [Ad listed i m sQ];split
    · rfl
    · exact hm
  have sG:∀k,¬laid sts i k->an k=β k:=λk hk=>ve.off k (by rw [kc];exact hk);have Bm:∀k e,k∈cs i->aK s1.m s1.o k=some e->Holds W ρ β k e w:=λk e Bh hg=>inv.mem k i (by omega) (jj k Bh) e (by rw [km,ko]at hg;exact hg)
  have wR:∀{k j},tR sts cs i k->j<=n->cut n sts cs (listed.setIfInBounds i true) k j->aK (sts j).m (sts j).o k=aK (sts (i+1)).m (sts (i+1)).o k:=by
    intro k j ht hj hcut;have sP:i<j:=(hcut i hi ht).2 C2;refine hw.chain j (i+1) (by omega) hj λm a1 a2 Ag => ?_;have mJ:m<n:=by omega
    have yD:=(hcut m mJ Ag).1 a2;rw [mf m (by omega)]at yD
    have no:∀h:reach ops 3 m i=true,False:=λh=>by
      rw [later inv gT (Nat.lt_of_lt_of_le mJ hw.le) h]at yD;cases yD
    have uz:=hw.nk m (i+1) a1 (by omega);have Uz:=hw.nk (i+1) i (by omega) (by omega);rcases ht with hc|hl<;>rcases Ag with eS|jH
    · obtain⟨b1,_,_⟩:=hw.cls hi hc;obtain⟨c1,_,_⟩:=hw.cls mJ eS;rcases hw.apart k m i (.inr c1) b1 with rfl|⟨_,d2⟩|⟨d1,_⟩
      · omega
      · rw [EL inv gT (Nat.lt_of_lt_of_le mJ hw.le) d2]at yD;cases yD
      · omega
    · have:=(hw.cls hi hc).2.1
      have:=jH.1
      omega
    · exact no ((hw.cls mJ eS).2.2 i (by omega) hl)
    · have:=hl.2
      have:=jH.1
      omega
  have told:∀{k},tR sts cs i k->k∈cs i∨s1.c.nk<=k:=λht=>by
    rcases ht with h|h
    · exact .inl h
    · rw [kc];exact .inr h.1
  have wS:∀{k j},¬tR sts cs i k->cut n sts cs (listed.setIfInBounds i true) k j->cut n sts cs listed k j:=λ{k j} ht hcut m hm QG=>by
    have:=hcut m hm QG
    rwa [mf m (λe=>ht (e▸QG))]at this
  have tU:∀{k j e},¬tR sts cs i k->j<=n->aK (sts j).m (sts j).o k=some e->∀x∈eE k e,an x=β x:=by
    intro k j e ht hj hg x hx;refine sG x λhl => ?_;cases e with
    |fix c t =>
      simp only [eE,List.mem_singleton]at hx;subst hx;exact ht (.inr hl)
    |row ce sz t =>
      have br:=hw.rows j hj k ce sz t hg i hi;simp only [eE,List.mem_cons,List.not_mem_nil,or_false]at hx
      have:∃d,d<4/\x=k+d:=by
        rcases hx with rfl|rfl|rfl|rfl
        · exact⟨0,by omega,rfl⟩
        · exact⟨1,by omega,rfl⟩
        · exact⟨2,by omega,rfl⟩
        · exact⟨3,by omega,rfl⟩
      obtain⟨d,h1,rfl⟩:=this;exact ht (.inr (br d h1 hl))
  have EM:∀{k j e},¬tR sts cs i k->j<=n->cut n sts cs listed k j->aK (sts j).m (sts j).o k=some e->∀b,bK β k e=some b->w'.heap[b]? = w.heap[b]? := by
    intro k j e ht hj hcut hg b hb;have hl:=(inv.mem k j hj hcut e hg).wg b hb;refine ve.frame b hl.2.1 λk0 e0 lU j7 iE => ?_;rw [km,ko]at j7
    have:=inv.inj k k0 j i hj (by omega) hcut (jj k0 lU) e e0 b hg j7 hb iE
    exact ht (.inl (this▸lU))
  have EN:=hw.step hi ho;have lJ:a.tmps.size=(sts i).n:=by rw [(hw.n0 i (by omega)).1];exact inv.size
  have EO:∀(t:Nat),(a.put o.dst val).tmps[t]? = if o.dst=some t then some val else a.tmps[t]? := λt=>by
    cases kJ:o.dst with
    |none=>simp [Act.put]
    |some d =>
      rw [fC t (by rw [lJ];exact EN.2.2.2.2.2.2.1 d kJ)];simp only [Option.some.injEq]
  refine⟨by simp [inv.ri],λj oj hj hl e he hb => ?_,λj hj=>by rw [mf j (by omega)];exact inv.only j hj,by rw [IW];exact inv.size,by rw [IX];exact inv.kQ,ve.below inv.below Bm,
    λt j p Ah hj qC hl hn => ?_,λt ht => ?_,λk j hj hcut e hg => ?_,λk j hj hcut e hg x hx m hm hl => ?_,λk k' j j' hj tO hcut mM e e' b hg fM hb il => ?_,λk e hg => ?_,λb hb => ?_,λk hk => ?_⟩
  · rw [Ad listed i _ sQ]at hl ⊢;by_cases oJ:i=e.on
    · rw [if_pos oJ]
    · rw [if_neg oJ];by_cases sP:i=j
      · subst sP;rw [ho]at hj;cases hj;exact hr e he hb
      · rw [if_neg sP]at hl;exact inv.closed j oj hj hl e he hb
  · rw [EO]
    have gO:fE ρ (ay (sts (j+1)).t t) (ay (sts n).t t):=by
      refine hw.same n (j+1) (by omega) (Nat.le_refl _) λm h1 h3 q hq BQ => ?_;rcases ((wO hd hq).2 j p hj t qC).1 with h4|h4
      · omega
      · exact h4 BQ
    have EP:ay (sts (j+1)).t t=iw j:=(hw.step Ah hj).2.2.2.2.2.1 t qC;by_cases sP:i=j
    · subst sP;rw [ho]at hj;cases hj;rw [if_pos qC];have h5:iw i ≠ .any:=by rw [<-EP];exact gO.any hn
      rw [mh h5,<-gO.den,EP]
    · rw [mf j sP]at hl
      have iS:o.dst≠some t:=by
        rcases ((wO hd ho).2 j p hj t qC).1 with h4|h4
        · exact (sP h4).elim
        · exact h4
      rw [if_neg iS,inv.s2 t j p Ah hj qC hl hn];refine congrArg some (SV.jL λy hy=>sG y λQH => ?_).symm;have G_:=gO.ids hy;rw [EP]at G_;have eD:=Ae (EP▸(hw.wf (j+1) (by omega)).t t) _ G_;rcases Nat.lt_or_ge i j with a1|a1
      · have:=later inv gT (Array.getElem?_eq_some_iff.1 hj).1 (hw.dst Ah hj qC G_ a1 QH)
        rw [hl]at this;cases this
      · have:=hw.nk i (j+1) (by omega) (by omega)
        have:=QH.1
        omega
  · have iS:o.dst≠some t:=by
      intro he
      have:=ht i o hi ho he
      rw [C2]at this;cases this
    rw [EO,if_neg iS];refine inv.s3 t λj p Ah hj qC => ?_
    have:=ht j p Ah hj qC
    by_cases sP:i=j
    · subst sP;rw [C2]at this;cases this
    · rwa [mf j sP]at this
  · by_cases yE:tR sts cs i k
    · rw [wR yE hj hcut]at hg;exact (ve.new k e (told yE) hg).1
    · have pw:=wS yE hcut;refine (inv.mem k j hj pw e hg).wN (tU yE hj hg) (λx hx=>sG x λhl => ?_) (EM yE hj pw hg)
      have:=inv.Kc k j hj pw e hg x hx i hi hl
      rw [gT]at this;cases this
  · by_cases yE:tR sts cs i k
    · rw [wR yE hj hcut]at hg;exact Af m (kX k e (told yE) hg x hx m hm hl)
    · exact Af m (inv.Kc k j hj (wS yE hcut) e hg x hx m hm hl)
  · have q_:∀ {k k' j j' e e'},tR sts cs i k->¬ tR sts cs i k'->j<=n->j'<=n->cut n sts cs (listed.setIfInBounds i true) k j->cut n sts cs (listed.setIfInBounds i true) k' j'->aK (sts j).m (sts j).o k=some e->aK (sts j').m (sts j').o k'=some e'->bK an k e=some b->bK an k' e'=some b->False:=by
      intro k k' j j' e e' h1 h2 hj tO hcut mM hg fM hb il;have pw:=wS h2 mM;rw [J' (tU h2 tO fM)]at il;have hl:=(inv.mem k' j' tO pw e' fM).wg b il;rw [wR h1 hj hcut]at hg;rcases (ve.new k e (told h1) hg).2 b hb with h3|⟨k0,e0,h3,h4,h5,_⟩
      · omega
      · rw [km,ko]at h4
        have:=inv.inj k0 k' i j' (by omega) tO (jj k0 h3) pw e0 e' b h4 fM h5 il
        exact h2 (.inl (this▸h3))
    by_cases h1:tR sts cs i k<;>by_cases h2:tR sts cs i k'
    · rw [wR h1 hj hcut]at hg;rw [wR h2 tO mM]at fM;exact ve.inj k k' e e' b (told h1) (told h2) hg fM hb il
    · exact (q_ h1 h2 hj tO hcut mM hg fM hb il).elim
    · exact (q_ h2 h1 tO hj mM hcut fM hg il hb).elim
    · rw [J' (tU h1 hj hg)]at hb;rw [J' (tU h2 tO fM)]at il;exact inv.inj k k' j j' hj tO (wS h1 hcut) (wS h2 mM) e e' b hg fM hb il
  · exact ve.other Bm (inv.gz k e hg) (λh=>h)
  · exact ve.other Bm (inv.ia b hb) (λh=>h)
  · have:=hw.nk i 0 (by omega) (by omega)
    rw [sG k λhl=>by have:=hl.1;omega];exact inv.agree k hk
theorem Kj{r:Option Nat}{mm:Nat}(hw:Way P W ops n ρ sts iw cs rd wr)(hd:eJ ops=true){a0 a:Act}{bE β:Nat->Nat}{w0 w:World}(hC:Core W R Z ρ bE (sts 0) a0 w0)
    {listed:Array Bool} (inv:Inv W R Z ops n ρ sts cs a0 bE listed a w β) {i:Nat} {o:Oper} (hi:i<n) (ho:ops[i]? = some o) (gT:listed.getD i false=false) (hr:∀e∈o.after,Region.binds .any e=true->listed.getD e.on false=true)
    {Q':Exit->Act->World->Prop} {K:Act->World->Prop} (hK:∀a' w' an,Inv W R Z ops n ρ sts cs a0 bE (listed.setIfInBounds i true) a' w' an->K a' w'):wpOpIn (Fr r) mm P ops Q' i K a w:=by
  have Ai:=hw.wf i (by omega);have yF:=hw.EH i o hi ho
  have next:∀ s1,pU ρ (sts i) s1->C1 s1 o (sts (i + 1)) (iw i) (cs i)->∀ val an w',(iw i ≠ .any->val=(iw i).den ρ an)->z6 W s1 (sts (i + 1)) ρ (cs i) β an w w'->(∀ k∈cs i,cut n sts cs listed k i) ->
      (∀k e',(k∈cs i∨s1.c.nk<=k)->aK (sts (i+1)).m (sts (i+1)).o k=some e'->∀x∈fD e',∀m,m<n->laid sts m x->listed.getD m false=true)->K (a.put o.dst val) w' :=
    λs1 hk mY val an w' mh ve jj kX=>hK _ _ _ (Ki hw hd hC inv hi ho gT hr hk mY mh ve jj kX)
  unfold wpOpIn;simp only [ho];generalize Xs:sts (i+1)=s' at yF next
  generalize EP:iw i=sv at yF next
  generalize uu:cs i=C at yF next
  cases yF with
  |skip s1 k wt p =>
    rw [QB hw hd hC inv hi ho gT hr wt];simp only [Bool.false_eq_true,if_false];refine⟨λf _=>uD r f,next s1 k (Qz (k.wf Ai) p) undef β w (λ_=>rfl) (I2 (k.wf Ai) ?_ (Below.refl _ _)) (λk hk=>by cases hk) ?_⟩
    · obtain⟨q1,q2,q3,q4,q5,q6⟩:=lg s1 o.dst .eH s1.c;rw [q2,q4]
    · intro k' e' oI hg;obtain⟨q1,q2,q3,q4,q5,q6⟩:=lg s1 o.dst .eH s1.c;rcases oI with oI|oI
      · cases oI
      · rw [q2,q4,(k.wf Ai).beyond oI]at hg;cases hg
  |run s1 _ _ _ k wt nd f h1 h2 h4 h5 =>
    rw [QB hw hd hC inv hi ho gT hr wt];simp only [if_true];obtain⟨kc,km,kn,ko,kr,kd⟩:=k.c
    have hcut:∀kk∈ba s1 o++aY s1 o,kk<(sts i).c.nk->cut n sts cs listed kk i:=λkk dq eD =>
      Kh hw inv hi ho gT hr eD (by
        rcases List.mem_append.1 dq with h|h
        · exact .inl (h4 kk h)
        · exact .inr (h5 kk h)) λm hm hl=>h1 kk (List.mem_append.2 (.inl dq)) m hm hl
    refine wB r mm nd (f.Pj β a w inv.below (Ke hw hd hC inv hi ho gT hr k) (λkk dq e hg => ?_) (λkk QI e e' b dq Kk hg fM hb il => ?_) K Q' λan v w' hv ve=>next s1 k f.fR v an w' hv ve (λkk dq => ?_) λkk e' dq hg x hx m hm hl => ?_)
    · rw [km,ko]at hg;exact inv.mem kk i (by omega) (hcut kk dq (CT (Ai.pq hg))) e hg
    · rw [km,ko]at hg fM;exact inv.inj kk QI i i (by omega) (by omega) (hcut kk (List.mem_append.2 (.inr dq)) (CT (Ai.pq hg))) (hcut QI (List.mem_append.2 (.inr Kk)) (CT (Ai.pq fM))) e e' b hg fM hb il
    · have:=f.IZ kk dq
      exact hcut kk (List.mem_append.2 (.inr this.1)) (by rw [<-kc];exact this.2)
    · rcases f.ids kk e' dq hg x hx with h|⟨j,e,hj,oV,UA⟩
      · have eD:=Kb (k.wf Ai) x h;rw [kc]at eD
        have Kl:m<i:=by
          rcases Nat.lt_or_ge m i with h'|h'
          · exact h'
          · have:=hw.nk m i h' (by omega)
            have:=hl.1
            omega
        exact G4 inv.closed 3 i m o ho hr (h1 x (List.mem_append.2 (.inr h)) m Kl hl)
      · rw [km,ko]at oV;exact inv.Kc j i (by omega) (hcut j hj (CT (Ai.pq oV))) e oV x UA m hm hl
theorem Km(hw:Way P W ops n ρ sts iw cs rd wr){a0 a:Act}{bE β:Nat->Nat}{w0 w:World}(hC:Core W R Z ρ bE (sts 0) a0 w0){listed:Array Bool}(inv:Inv W R Z ops n ρ sts cs a0 bE listed a w β)
  (cX:∀j,j<n->listed.getD j false=true):Core W R Z ρ β (sts n) a w:=by
 obtain⟨n1,n2,n3,n4⟩:=hw.n0 n (Nat.le_refl _);have hcut:∀k,cut n sts cs listed k n:=λk m hm _=>⟨λ_=>cX m hm,λ_=>hm⟩;have oW:(sts 0).d.map β=(sts 0).d.map bE:=List.map_congr_left λk hk=>inv.agree k (hC.wf.d k hk)
 refine⟨by rw [n1];exact inv.size,λt hn => ?_, ?_,inv.below,λk e hg=>inv.mem k n (Nat.le_refl _) (hcut k) e hg,λk k' e e' b hg fM hb il=>inv.inj k k' n n (Nat.le_refl _) (Nat.le_refl _) (hcut k) (hcut k') e e' b hg fM hb il,
  λk e hg => ?_,λk k' e e' hg fM he => ?_,λb hb => ?_, ?_,hw.wf n (Nat.le_refl _),hw.kn hC.kn n (Nat.le_refl _)⟩
 ·by_cases hx:∃(j:Nat) (p:Oper),j<n/\ops[j]? = some p/\p.dst=some t
  ·obtain⟨j,p,hj,hp,qC⟩:=hx;exact inv.s2 t j p hj hp qC (cX j hj) hn
  ·have rj:∀(m:Nat) (o':Oper),m<n->ops[m]? = some o'->o'.dst≠some t:=λm o' mJ hm he=>hx ⟨m,o',mJ,hm,he⟩;have gO:fE ρ (ay (sts 0).t t) (ay (sts n).t t):=hw.same n 0 (by omega) (Nat.le_refl _) λm _ h q hq=>rj m q h hq;rw [inv.s3 t (λm o' mJ hm he=>(rj m o' mJ hm he).elim),hC.tmps t (gO.any hn),<-gO.den,SV.ae (Env.aq _ ρ) inv.agree (hC.wf.t t)]
 ·rw [n3,inv.kQ,hw.df n (Nat.le_refl _),GD hC.wf.df inv.agree];simp only [marksOf];exact congrArg _ (List.map_congr_left λk hk=>by rw [inv.agree k (hC.wf.d k hk)])
 ·rw [n2]at hg;rw [inv.agree k (hC.wf.r k e hg)];exact⟨(hC.gz k e hg).1,inv.gz k e hg⟩
 ·rw [n2]at hg fM;rw [inv.agree k (hC.wf.r k e hg),inv.agree k' (hC.wf.r k' e' fM)]at he;exact hC.kF k k' e e' hg fM he
 ·rw [n3,oW]at hb;exact⟨(hC.ia b hb).1,inv.ia b hb⟩
 ·rw [n3,oW];exact hC.dn
theorem Ko{a0:Act}{bE:Nat->Nat}{w0:World}(hw:Way P W ops n ρ sts iw cs rd wr)(hC:Core W R Z ρ bE (sts 0) a0 w0):Inv W R Z ops n ρ sts cs a0 bE (Array.replicate ops.size false) a0 w0 bE:=by
  have hf:∀j,(Array.replicate ops.size false).getD j false=false:=λj=>by
    rw [Array.getD_eq_getD_getElem?,Array.getElem?_replicate];split<;>rfl
  have h0:∀{k i},i<=n->cut n sts cs (Array.replicate ops.size false) k i->aK (sts i).m (sts i).o k=aK (sts 0).m (sts 0).o k:=λ{k i} hi hcut =>
    hw.chain i 0 (by omega) hi λm _ h2 ht=>by
      have:=(hcut m (by omega) ht).1 h2
      rw [hf m]at this;cases this
  refine⟨by simp,λj oj _ h=>(by rw [hf j]at h;cases h),λj _=>hf j,hC.size,hC.kQ,hC.below,λt i o _ _ _ h=>(by rw [hf i]at h;cases h),λ_ _=>rfl,λk i hi hcut e hg => ?_,λk i hi hcut e hg x hx m hm hl => ?_,λk k' i i' hi zY hcut mM e e' b hg fM hb il => ?_,
    λk e hg=>(hC.gz k e hg).2,λb hb=>(hC.ia b hb).2,λ_ _=>rfl⟩
  · rw [h0 hi hcut]at hg;exact hC.mem k e hg
  · rw [h0 hi hcut]at hg
    have eD:x<(sts 0).c.nk:=by
      have vX:=hC.wf.pq hg;cases e with
      |fix c t=>exact EI vX.2 x hx
      |row ce sz t =>
        obtain⟨s,hs,qE⟩:=List.mem_flatMap.1 hx
        have:=List.all_eq_true.1 vX.2 s hs
        cases s with
        |cG l=>exact EI this x qE
        |var i=>cases qE
    have:=hw.nk m 0 (by omega) (by omega)
    have:=hl.1
    omega
  · rw [h0 hi hcut]at hg;rw [h0 zY mM]at fM;exact hC.inj k k' e e' b hg fM hb il
end Vc
set_option linter.unusedVariables false
namespace Vc
open Go Go.RowKit
variable {P:Program} {W:e_} {Q:Value->Prop} {QM QP:World->Value->Prop} {R:Nat->Loop} {Z:List Nat}
theorem xR(t:List (Nat × SV))(dst:Option Tmp)(v:SV)(d:Nat):ay (eZ t dst v) d=if dst=some d then v else ay t d:=by
  cases dst with
  |none=>simp [eZ]
  |some x =>
    simp only [eZ,zl];by_cases h:x=d<;>simp [h]
theorem wT(t:List (Nat × SV)):∀(L:List iu) (d:Nat),ay (cE t L) d=.any∨(ay (cE t L) d=ay t d/\∀p∈L,p.dst≠some d)
  | [],d=>.inr ⟨rfl,by simp⟩
  |p::L,d=>by
    simp only [cE];cases hp:p.dst with
    |none =>
      rcases wT t L d with h|⟨h1,h2⟩
      · exact .inl h
      · refine .inr ⟨h1,λq hq => ?_⟩;rcases List.mem_cons.1 hq with rfl|hq
        · rw [hp];simp
        · exact h2 q hq
    |some x =>
      simp only [zl];by_cases hx:x=d
      · exact .inl (if_pos hx)
      · rw [if_neg hx];rcases wT t L d with h|⟨h1,h2⟩
        · exact .inl h
        · refine .inr ⟨h1,λq hq => ?_⟩;rcases List.mem_cons.1 hq with rfl|hq
          · rw [hp];simpa using hx
          · exact h2 q hq
theorem C3(t:List (Nat × SV)):∀(L:List iu) (d:Nat),(∀p∈L,p.dst≠some d)->ay (cE t L) d=ay t d
  | [],d,_=>rfl
  |p::L,d,h=>by
    simp only [cE];have h2:=C3 t L d λq hq=>h q (List.mem_cons_of_mem _ hq);cases hp:p.dst with
    |none=>exact h2
    |some x =>
      have:x≠d:=λe=>h p (by simp) (by rw [hp,e])
      simp only [zl];rw [if_neg this];exact h2
theorem G'(a:Act)(dst:Option Tmp)(v:Value)(i:Nat)(hd:∀d,dst=some d->d<a.tmps.size):(a.put dst v).tmps[i]? = if dst=some i then some v else a.tmps[i]? := by
  cases dst with
  |none=>simp [Act.put]
  |some d =>
    have:=hd d rfl
    simp only [Act.put,Option.some.injEq];by_cases h:d=i
    · subst h;rw [if_pos rfl];simp [this]
    · rw [if_neg h];exact Array.getElem?_setIfInBounds_ne h
theorem Ha(a:Act)(dst:Option Tmp)(v:Value):(a.put dst v).tmps.size=a.tmps.size:=by
 cases dst<;>simp [Act.put]
theorem QJ(a:Act)(dst:Option Tmp)(v:Value):(a.put dst v).defers=a.defers:=by
 cases dst<;>rfl
theorem Kp{ρ:Env}{β:Nat->Nat}{st:St}{a a':Act}{w w':World}(hC:Core W R Z ρ β st a w)(hB:Below w.heap.size w w')(hs:a'.tmps.size=a.tmps.size)(qF:a'.defers=a.defers){t:List (Nat × SV)}(ht:∀i,(ay t i).wf st.c=true)
  (Ag:∀i,ay t i ≠ .any->a'.tmps[i]? = some ((ay t i).den ρ β)):Core W R Z ρ β {st with t:=t} a' w':=by
 refine⟨hs.trans hC.size,Ag,qF.trans hC.kQ,hC.below.trans hB,λk e hg=>(hC.mem k e hg).jf (hC.wf.pq hg) (Env.aq _ _) (λ_ _=>rfl) λb hb=>hB.block b ((hC.mem k e hg).wg b hb).2.1,hC.inj,λk e hg=>⟨(hC.gz k e hg).1, ?_⟩,hC.kF,λb hb=>⟨(hC.ia b hb).1, ?_⟩,hC.dn,⟨ht,hC.wf.m,hC.wf.o,hC.wf.ap,hC.wf.r,hC.wf.d,hC.wf.k,hC.wf.df⟩,hC.kn⟩
 ·rw [hB.block _ (uw (hC.gz k e hg).2)];exact (hC.gz k e hg).2
 ·rw [hB.block _ (uw (hC.ia b hb).2)];exact (hC.ia b hb).2
structure oo(P:Program)(W:e_)(ops:Array Oper)(rem:List Nat)(listed:Array Bool)(st:St)(ρ:Env)(β:Nat->Nat)(a:Act)(p:iu):Prop where
 dst:∃o,ops[p.j]? = some o/\o.dst=p.dst
 out:p.j ∉ rem
 slot:∀d,p.dst=some d->d<st.n
 pre:∀j∈dS ops p.j,j ∉ rem
 run:listed.getD p.j false=false->∃(o:Oper) (fR:St) (v:SV) (b:Bool),ops[p.j]? = some o/\fR.WF/\fR.c.le st.c/\cd.den fR.k ρ/\(∀d,p.dst=some d->ay st.t d=v)/\(∀c,o.op ≠ .defer c)/\ez ops ρ fR o b /\
  (∀d∈o.looksAt ops,(∀j oj,ops[j]? = some oj->oj.dst=some d->j∈dS ops p.j->ay fR.t d=ay st.t d) /\
   ((∃j oj,ops[j]? = some oj/\oj.dst=some d/\j∈dS ops p.j/\listed.getD j false=false)∨(ay fR.t d ≠ .any->a.tmps[d]? = some ((ay fR.t d).den ρ β)))) /\
  (b=false->v=.eH) /\
  (b=true->(∀U,Env.aE st.c ρ U->bL P W fR o v U)/\∀k∈ba fR o,k∈p.rd/\aK fR.m fR.o k=aK st.m st.o k) /\
  (∀q,p.ld=some q->∃t x,o.op=.load t x/\fR.ev x=.cv (.one (.loc q.1 q.2.1))/\aP P t=some (q.2.2.1,q.2.2.2))
structure rl(P:Program)(W:e_)(R:Nat->Loop)(Z:List Nat)(ops:Array Oper)(rem:List Nat)(st:St)(L:List iu)(ρ:Env)(listed:Array Bool)(β:Nat->Nat)(a:Act)(w:World):Prop where
 size:listed.size=ops.size
 C4:∀j o,ops[j]? = some o->listed.getD j false=true->∀e∈o.after,Region.binds .any e=true->listed.getD e.on false=true
 uh:∀j,listed.getD j false=true->j ∉ rem
 ER:∀j,j<ops.size->j ∉ rem->listed.getD j false=true∨∃p∈L,p.j=j
 yG:∀p∈L,oo P W ops rem listed st ρ β a p
 tw:∀i,(ay st.t i).wf st.c=true
 core:Core W R Z ρ β {st with t:=cE st.t (L.filter λp => !listed.getD p.j false)} a w
theorem C5{ops:Array Oper}{i j:Nat}{o:Oper}(ho:ops[i]? = some o):j∈dS ops i↔∃e∈o.after,Region.binds .any e=true/\e.on=j:=by
 unfold dS;rw [ho];simp only [List.mem_map,List.mem_filter];constructor
 ·rintro ⟨e,⟨h1,h2⟩,rfl⟩;exact⟨e,Array.mem_toList_iff.1 h1,h2,rfl⟩
 ·rintro ⟨e,h1,h2,rfl⟩;exact⟨e,⟨Array.mem_toList_iff.2 h1,h2⟩,rfl⟩
theorem QK{ops:Array Oper}{i j:Nat}(h:direct ops i j=true):j∈dS ops i:=by
  unfold direct at h;cases ho:ops[i]? with
  |none=>rw [ho]at h;cases h
  |some o =>
    rw [ho]at h;simp only [Array.any_eq_true',Bool.and_eq_true,decide_eq_true_eq]at h;obtain⟨e,he,hb,rfl⟩:=h;exact (C5 ho).2 ⟨e,he,hb,rfl⟩
theorem Kq{ops:Array Oper}(hd:eJ ops=true){i j d:Nat}{o p:Oper}(ho:ops[i]? = some o)(hp:ops[j]? = some p)(sR:p.dst=some d)(hl:d∈o.looksAt ops):j∈dS ops i∨i∈dS ops j:=by
 rcases ((wO hd ho).2 j p hp d sR).2 hl with ⟨_,h⟩|⟨_,h⟩
 ·exact .inl (QK h)
 ·exact .inr (QK h)
theorem Kr{ops:Array Oper}(hd:eJ ops=true){i j d:Nat}{o p:Oper}(ho:ops[i]? = some o)(hp:ops[j]? = some p)(pV:o.dst=some d)(sR:p.dst=some d):i=j :=
 ((wO hd ho).2 j p hp d sR).1.resolve_right λh=>h pV
theorem Ks{ops:Array Oper}{o:Oper}{fR:St}{ρ:Env}{β:Nat->Nat}{a:Act}(ga:cd.den fR.k ρ)(h:∀d∈o.looksAt ops,ay fR.t d ≠ .any->a.tmps[d]? = some ((ay fR.t d).den ρ β)):eG fR o ρ β a:=by
  intro x hx hn;cases x with
  |tmp t =>
    have:=h t (by
      simp only [Oper.looksAt,List.mem_append];exact .inl (List.mem_filterMap.2 ⟨.tmp t,Array.mem_toList_iff.2 hx,rfl⟩)) hn
    show a.tmps.getD t undef=_;rw [Array.getD_eq_getD_getElem?,this,Option.getD_some];rfl
  |const v=>exact ((SV.db v fR.c ρ β).2 hn).symm
  |global g=>exact IY ga hn β
  |func f=>rfl
theorem QL{ops:Array Oper}{o:Oper}{fR:St}{ρ:Env}{β:Nat->Nat}{a:Act}{b:Bool}(hb:ez ops ρ fR o b)(h:∀d∈o.looksAt ops,ay fR.t d ≠ .any->a.tmps[d]? = some ((ay fR.t d).den ρ β)):Region.wanted o (yielded ops a.tmps)=b:=by
  unfold ez at hb;cases hg:o.guard with
  |none=>rw [hg]at hb;simp only at hb;subst hb;simp [Region.wanted,hg]
  |some jw =>
    obtain⟨j,want⟩:=jw;rw [hg]at hb;obtain⟨x,hx,hb⟩:=hb
    have rk:x∈o.looksAt ops:=by
      simp only [Oper.looksAt,hg,List.mem_append];exact .inr (by simp [hx])
    rcases hb with ⟨e,he,hb⟩|⟨he,rfl⟩
    · have:=h x rk (by rw [he];simp)
      rw [he]at this;have hy:=Jy (b:=e.den ρ) hx this;simp only [Region.wanted,hg,hy];exact hb
    · have:=h x rk (by rw [he];simp)
      rw [he]at this;have hy:=Jz hx this;simp [Region.wanted,hg,hy]
theorem QN{ops:Array Oper}(hd:eJ ops=true){rem:List Nat}{st:St}{L:List iu}{ρ:Env}{listed:Array Bool}{β:Nat->Nat}{a:Act}{w:World}(inv:rl P W R Z ops rem st L ρ listed β a w){p:iu}(hp:p∈L)
    (gT:listed.getD p.j false=false) (hr:∀j∈dS ops p.j,listed.getD j false=true) {r:Option Nat} {mm:Nat} {Q':Exit->Act->World->Prop} {K:Act->World->Prop}
    (hK:∀a' w',rl P W R Z ops rem st L ρ (listed.setIfInBounds p.j true) β a' w'->K a' w'):wpOpIn (Fr r) mm P ops Q' p.j K a w:=by
  have fp:=inv.yG p hp;obtain⟨o,fR,v,b,ho,Xt,Xu,UB,hv,nd,hw,hl,iE,ji,_⟩:=fp.run gT;have pV:o.dst=p.dst:=by obtain⟨o',h1,h2⟩:=fp.dst;rw [ho]at h1;cases h1;exact h2
  have ES:p.j<ops.size:=(Array.getElem?_eq_some_iff.1 ho).1;have Kt:p.j<listed.size:=by rw [inv.size];exact ES
  have now:∀d∈o.looksAt ops,ay fR.t d ≠ .any->a.tmps[d]? = some ((ay fR.t d).den ρ β):=λd rJ hn=>by
    rcases (hl d rJ).2 with ⟨j,oj,_,_,h3,h4⟩|h
    · rw [hr j h3]at h4;cases h4
    · exact h hn
  have lJ:∀d,o.dst=some d->d<a.tmps.size:=λd qG=>by rw [inv.core.size];exact fp.slot d (by rw [<-pV];exact qG)
  have rn:∀j,(listed.setIfInBounds p.j true).getD j false=if p.j=j then true else listed.getD j false:=λj=>Ad listed p.j j Kt
  have next:∀(val:Value) (w':World),(v ≠ .any->val=v.den ρ β)->Below w.heap.size w w'->K (a.put o.dst val) w':=by
    intro val w' mh hB;refine hK _ _ ⟨by simp [inv.size],λj oj hj mo e he hb => ?_,λj mo => ?_,λj hj BR => ?_,λq hq => ?_,inv.tw, ?_⟩
    · rw [rn]at mo ⊢;by_cases tO:p.j=e.on
      · rw [if_pos tO]
      · rw [if_neg tO];by_cases pT:p.j=j
        · subst pT;rw [ho]at hj;cases hj;exact hr e.on ((C5 ho).2 ⟨e,he,hb,rfl⟩)
        · rw [if_neg pT]at mo;exact inv.C4 j oj hj mo e he hb
    · rw [rn]at mo;by_cases pT:p.j=j
      · subst pT;exact fp.out
      · rw [if_neg pT]at mo;exact inv.uh j mo
    · rw [rn];by_cases pT:p.j=j
      · rw [if_pos pT];exact .inl rfl
      · rw [if_neg pT];exact inv.ER j hj BR
    · have fq:=inv.yG q hq;refine⟨fq.dst,fq.out,fq.slot,fq.pre,λBS => ?_⟩;rw [rn]at BS;have iS:p.j≠q.j:=λe=>by rw [if_pos e]at BS;cases BS
      rw [if_neg iS]at BS;obtain⟨o2,UC,v2,b2,g1,g2,g3,g4,g5,g6,g7,g8,g9,g10,g11⟩:=fq.run BS;refine⟨o2,UC,v2,b2,g1,g2,g3,g4,g5,g6,g7,λd rJ=>⟨(g8 d rJ).1, ?_⟩,g9,g10,g11⟩;by_cases sR:o.dst=some d
      ·
        rcases Kq hd g1 ho sR rJ with h|h
        · right;intro hn;rw [G' a o.dst val d lJ,if_pos sR];have e1:=(g8 d rJ).1 p.j o ho sR h;have e2:=hv d (by rw [<-pV];exact sR);rw [e1,e2]at hn ⊢;rw [mh hn]
        · rw [hr q.j h]at BS;cases BS
      · rcases (g8 d rJ).2 with ⟨j,oj,h1,h2,h3,h4⟩|h
        · left;have pT:p.j≠j:=λe=>by subst e;rw [ho]at h1;cases h1;exact sR h2
          exact⟨j,oj,h1,h2,h3,by rw [rn,if_neg pT];exact h4⟩
        · right;intro hn;rw [G' a o.dst val d lJ,if_neg sR];exact h hn
    · refine Kp (st := {st with t:=cE st.t (L.filter λp => !listed.getD p.j false)}) inv.core hB (Ha _ _ _) (QJ _ _ _) (λi => ?_) λi hn => ?_
      · rcases wT st.t (L.filter λq => !(listed.setIfInBounds p.j true).getD q.j false) i with h|⟨h,_⟩
        · rw [h];rfl
        · rw [h];exact inv.tw i
      · rcases wT st.t (L.filter λq => !(listed.setIfInBounds p.j true).getD q.j false) i with h|⟨h,h2⟩
        · exact (hn h).elim
        · rw [h]at hn ⊢;rw [G' a o.dst val i lJ];by_cases sR:o.dst=some i
          · rw [if_pos sR];have e2:=hv i (by rw [<-pV];exact sR);rw [e2]at hn ⊢;rw [mh hn]
          · rw [if_neg sR]
            have e3:ay (cE st.t (L.filter λq => !listed.getD q.j false)) i=ay st.t i:=C3 _ _ _ λq hq=>by
              simp only [List.mem_filter,Bool.not_eq_true']at hq;by_cases QO:p.j=q.j
              · obtain⟨oq,q1,q2⟩:=(inv.yG q hq.1).dst;rw [<-QO,ho]at q1;cases q1;rw [<-q2];exact sR
              · exact h2 q (List.mem_filter.2 ⟨hq.1,by rw [rn,if_neg QO,hq.2];rfl⟩)
            have:=inv.core.tmps i (by show ay (cE st.t _) i ≠ .any;rw [e3];exact hn)
            rw [this];show some ((ay (cE st.t _) i).den ρ β)=_;rw [e3]
  unfold wpOpIn;simp only [ho];rw [QL hw now];cases b with
  |false =>
    simp only [Bool.false_eq_true,if_false];refine⟨λf _=>uD r f,next undef w (λ_ => ?_) (Below.refl _ _)⟩;rw [iE rfl];rfl
  |true =>
    simp only [if_true];obtain⟨h1,h2⟩:=ji rfl;refine wB r mm nd (h1 ρ (Env.aq _ _) β a w inv.core.below (Ks UB now) (λk hk e hg => ?_) K Q' λval w' mh hB=>next val w' mh hB);rw [(h2 k hk).2]at hg;exact inv.core.mem k e hg
def Shape(o:Oper)(a a':Act):Prop:=a'.tmps.size=a.tmps.size/\∀d,o.dst≠some d->a'.tmps[d]? = a.tmps[d]?
theorem ET(o:Oper)(a:Act)(v:Value):Shape o a (a.put o.dst v):=by
 refine⟨Ha _ _ _,λd hd => ?_⟩;cases ho:o.dst with
 |none=>rfl
 |some x=>simp only [Act.put];exact Array.getElem?_setIfInBounds_ne (λe=>hd (by rw [ho,e]))
theorem UD(o:Oper)(a:Act)(d:Deferred)(v:Value):Shape o a (({a with defers:=d::a.defers}:Act).put o.dst v):=by
 refine⟨by rw [Ha],λd hd => ?_⟩;cases ho:o.dst with
 |none=>rfl
 |some x=>simp only [Act.put];exact Array.getElem?_setIfInBounds_ne (λe=>hd (by rw [ho,e]))
theorem UE{F:Fence}{n:Nat}{o:Oper}{a:Act}{w:World}{K:Act->World->Prop}{Q':Exit->Act->World->Prop}(hh:o.wpIn F n P a w (λa' w'=>Shape o a a'->K a' w') Q'):o.wpIn F n P a w K Q':=by
  unfold Oper.wpIn at *;refine⟨hh.1, ?_⟩;have hh:=hh.2;generalize (o.semAt F.round a.eval).run P w=r at *;cases r with
  |ok x w' =>
    cases x<;>simp only [Oper.uponIn]at hh ⊢ <;>
      first
        |exact hh (ET o a _)
        |exact hh (UD o a _ _)
        |exact⟨hh.1,CallsIn.mono hh.2 (λe BU he=>by cases e<;>first|exact he (ET o a _)|exact he)⟩
        |exact⟨hh.1,RowsIn.mono hh.2 (λ_ _ he=>he (ET o a _))⟩
        |exact⟨hh.1,RoundIn.mono hh.2 (λe BU he=>by cases e<;>first|exact he (ET o a _)|exact he)⟩
  |halt x w'=>cases x<;>simp only [Oper.uponIn]at hh ⊢<;>exact hh
theorem ez.aE{ops:Array Oper}{o:Oper}{fR:St}{ρ ah:Env}{b:Bool}(wf:fR.WF)(hl:Env.aE fR.c ρ ah)(h:ez ops ρ fR o b):ez ops ah fR o b:=by
 unfold ez at *;split
 ·rename_i hg;rw [hg]at h;exact h
 ·rename_i j want hg;rw [hg]at h;obtain⟨x,hx,h⟩:=h;refine⟨x,hx,h.imp (fun⟨e,he,hb⟩=>⟨e,he, ?_⟩) id⟩;have we:e.wf fR.c=true:=by have:=wf.t x;rw [he]at this;exact this
  rw [BE.ae hl we];exact hb
theorem Env.tV{c d:aw}{ρ ah:Env}(hc:c.le d)(h:Env.aE d ρ ah):Env.aE c ρ ah:=Env.aj hc (Env.aq _ _) h
theorem oo.move{ops:Array Oper}{rem wU:List Nat}{listed gd:Array Bool}{st iD:St}{ρ ah:Env}{β an:Nat->Nat}{a a':Act}{p:iu}(f:oo P W ops rem listed st ρ β a p)(hc:st.c.le iD.c)(hl:Env.aE st.c ρ ah)(hb:∀k,k<st.c.nk->an k=β k)(hn:iD.n=st.n)
  (wV:∀j∈wU,j∈rem) (gT:gd.getD p.j false=false->listed.getD p.j false=false) (kJ:∀d,p.dst=some d->ay iD.t d=ay st.t d)
  (ht:∀d j oj,ops[j]? = some oj->oj.dst=some d->j∈dS ops p.j->ay iD.t d=ay st.t d) (wW:∀j,listed.getD j false=false->j∈dS ops p.j->gd.getD j false=false)
  (Ag:gd.getD p.j false=false->∀d o,ops[p.j]? = some o->d∈o.looksAt ops->a'.tmps[d]? = a.tmps[d]?) (hm:gd.getD p.j false=false->∀k∈p.rd,aK iD.m iD.o k=aK st.m st.o k):oo P W ops wU gd iD ah an a' p:=by
 refine⟨f.dst,λh=>f.out (wV _ h),λd hd=>by rw [hn];exact f.slot d hd,λj hj h=>f.pre j hj (wV _ h),λhu => ?_⟩;obtain⟨o,fR,v,b,g1,g2,g3,g4,g5,g6,g7,g8,g9,g10,g11⟩:=f.run (gT hu);have jH:Env.aE fR.c ρ ah:=Env.tV g3 hl;refine⟨o,fR,v,b,g1,g2,aw.le_trans g3 hc,cd.ae jH g2.k g4,λd hd=>by rw [kJ d hd];exact g5 d hd,g6,g7.aE g2 jH,λd rJ=>⟨λj oj h1 h2 h3=>by rw [ht d j oj h1 h2 h3];exact (g8 d rJ).1 j oj h1 h2 h3, ?_⟩,g9,λji => ?_,g11⟩
 ·rcases (g8 d rJ).2 with ⟨j,oj,h1,h2,h3,h4⟩|h
  ·exact .inl ⟨j,oj,h1,h2,h3,wW j h4 h3⟩
  ·right;intro iS;rw [Ag hu d o g1 rJ,h iS,SV.ae jH (λk hk=>hb k (Nat.lt_of_lt_of_le hk g3.k)) (g2.t d)]
 ·obtain⟨q1,q2⟩:=g10 ji;refine⟨λU h=>q1 U (Env.aj hc hl h),λk hk=>⟨(q2 k hk).1, ?_⟩⟩;rw [hm hu k (q2 k hk).1];exact (q2 k hk).2
theorem UF{st:St}{o:Oper}{t:TypeId}{x:Operand}{q:Nat × Nat × Bool × Nat}{cs:List At}{ty:TypeId}{u:CV}{ρ:Env}(wf:st.WF)(hk:cd.den st.k ρ)(ho:o.op=.load t x)(hx:st.ev x=.cv (.one (.loc q.1 q.2.1)))(hz:aP P t=some (q.2.2.1,q.2.2.2))(hm:getM st.m q.1=some (cs,ty))(hu:vL q cs=some u):bL P W st o (.cv u) ρ:=by
  obtain⟨v,c',ah,h1,h2,h3,h4⟩:=IS (G:=⟨P,[],[],[],[],[],[],[]⟩) (W:=W) (Q:=λ_=>False) (QM:=λ_ _=>False) (QP:=λ_ _=>False) (K:=λv' c' _=>v'=.cv u/\c'=st.c) (ρ:=ρ) ⟨λf hf _ _=>absurd hf (by simp),λf hf _ _=>absurd hf (by simp),λe he=>absurd he (by simp)⟩ wf hk (by
    unfold vD;rw [ho];simp only [hx,lF,nJ,hz,hm];unfold vL at hu;by_cases hg:q.2.2.1=true
    · rw [if_pos hg]at hu;simp only [hg,if_true];split at hu
      · rename_i hle;rw [if_pos hle];cases hu
        first|exact⟨rfl,rfl⟩|exact⟨rfl,trivial⟩
      · cases hu
    · rw [if_neg hg]at hu;simp only [hg,if_false];cases hc:cs[q.2.1]? with
      |none=>rw [hc]at hu;cases hu
      |some a =>
        rw [hc]at hu;cases hu
        first|exact⟨rfl,rfl⟩|exact⟨rfl,trivial⟩)
  obtain⟨rfl,rfl⟩:=h1;exact h4 ρ ⟨λi hi=>(h3.i i hi).symm,λi hi=>(h3.b i hi).symm,λi hi=>(h3.v i hi).symm,λi hi=>(h3.p i hi).symm,λi hi=>(h3.s i hi).symm,λi hi=>(h3.l i hi).symm⟩
theorem Ku{st:St}{o:Oper}{q:Nat × Nat × Bool × Nat}(h:yf P st o=some q):∃t x,o.op=.load t x/\st.ev x=.cv (.one (.loc q.1 q.2.1))/\aP P t=some (q.2.2.1,q.2.2.2):=by
 unfold yf at h;split at h
 ·rename_i t x ho;split at h
  ·rename_i g n k off h1 h2;cases h;exact⟨t,x,ho,h2,h1⟩
  ·cases h
 ·cases h
theorem oo.BV{ops:Array Oper}{rem wU:List Nat}{listed gd:Array Bool}{st iD:St}{ρ ah:Env}{β an:Nat->Nat}{a a':Act}{p:iu}(f:oo P W ops rem listed st ρ β a p)(hc:st.c.le iD.c)(hl:Env.aE st.c ρ ah)(hb:∀k,k<st.c.nk->an k=β k)(hn:iD.n=st.n)
  (wV:∀j∈wU,j∈rem) (gT:gd.getD p.j false=false->listed.getD p.j false=false) (kJ:∀d,p.dst=some d->ay iD.t d=ay st.t d)
  (ht:∀d j oj,ops[j]? = some oj->oj.dst=some d->j∈dS ops p.j->ay iD.t d=ay st.t d) (wW:∀j,listed.getD j false=false->j∈dS ops p.j->gd.getD j false=false)
  (Ag:gd.getD p.j false=false->∀d o,ops[p.j]? = some o->d∈o.looksAt ops->a'.tmps[d]? = a.tmps[d]?) (hm:yg st.t iD.m p=true) (jG:iD.WF) (ga:cd.den iD.k ah):oo P W ops wU gd iD ah an a' p:=by
 refine⟨f.dst,λh=>f.out (wV _ h),λd hd=>by rw [hn];exact f.slot d hd,λj hj h=>f.pre j hj (wV _ h),λhu => ?_⟩;obtain⟨o,fR,v,b,g1,g2,g3,g4,g5,g6,g7,g8,g9,g10,g11⟩:=f.run (gT hu);have jH:Env.aE fR.c ρ ah:=Env.tV g3 hl;have hle:fR.c.le iD.c:=aw.le_trans g3 hc;unfold yg at hm;split at hm;rotate_left
 ·cases hm
 rename_i q d hq hd;split at hm;rotate_left
 ·cases hm
 rename_i cs ty u uu UG;have UH:=of_decide_eq_true hm;obtain⟨t,x,e1,e2,e3⟩:=g11 q hq;have hv:v=.cv u:=by rw [<-g5 d hd,UG]
 have QQ:({iD with t:=fR.t}:St).WF:=⟨λi=>SV.aT hle (g2.t i),jG.m,jG.o,jG.ap,jG.r,jG.d,jG.k,jG.df⟩
 have UI:∀y,fR.ev x=y->y ≠ .any->(∀g,x ≠ .global g)->({iD with t:=fR.t}:St).ev x=y:=λy hy _ hg=>by
  cases x with
  |tmp s=>exact hy
  |const s=>exact hy
  |func s=>exact hy
  |global g=>exact (hg g rfl).elim
 have yu:({iD with t:=fR.t}:St).ev x=.cv (.one (.loc q.1 q.2.1)):=UI _ e2 (by simp) λg hg=>by
  subst hg;simp only [St.ev]at e2;split at e2<;>cases e2
 have eK:ba ({iD with t:=fR.t}:St) o=ba fR o:=by
  unfold ba;rw [e1];simp only [yu,e2]
 refine⟨o,{iD with t:=fR.t},v,b,g1,QQ,aw.le_refl _,ga,λd hd=>by rw [kJ d hd];exact g5 d hd,g6, ?_,λd rJ=>⟨λj oj h1 h2 h3=>by rw [ht d j oj h1 h2 h3];exact (g8 d rJ).1 j oj h1 h2 h3, ?_⟩,g9,λji=>⟨λU h => ?_,λk hk=>⟨?_,rfl⟩⟩,λq' QR => ?_⟩
 ·have:=g7.aE g2 jH
  unfold ez at this ⊢;exact this
 ·rcases (g8 d rJ).2 with ⟨j,oj,h1,h2,h3,h4⟩|h
  ·exact .inl ⟨j,oj,h1,h2,h3,wW j h4 h3⟩
  ·right;intro iS;have iS:ay fR.t d ≠ .any:=iS;show _=some ((ay fR.t d).den ah an);rw [Ag hu d o g1 rJ,h iS,SV.ae jH (λk hk=>hb k (Nat.lt_of_lt_of_le hk g3.k)) (g2.t d)]
 ·rw [hv];exact UF (ty:=ty) QQ (cd.ae h jG.k ga) e1 yu e3 uu UH
 ·rw [eK]at hk;exact ((g10 ji).2 k hk).1
 ·rw [hq]at QR;cases QR;exact⟨t,x,e1,yu,e3⟩
theorem QS{ops:Array Oper}{listed:Array Bool}(j6:∀ j o,ops[j]? = some o->listed.getD j false=true->∀ e∈o.after,Region.binds .any e=true->listed.getD e.on false=true) :
    ∀(n:Nat) (acc:List Nat),(∀j∈acc,listed.getD j false=true)->∀j∈tu ops n acc,listed.getD j false=true
  |0,acc,h=>h
  |n+1,acc,h=>by
    unfold tu;refine QS j6 n _ λj hj => ?_;split at hj
    · rename_i hn;rcases EJ _ _ hj with hj|hj
      · exact h j hj
      · have UJ:=h n (List.contains_iff_mem.1 hn);cases ho:ops[n]? with
        |none=>unfold dS at hj;rw [ho]at hj;cases hj
        |some o =>
          obtain⟨e,he,hb,rfl⟩:=(C5 ho).1 hj;exact j6 n o ho UJ e he hb
    · exact h j hj
theorem Kv{ops:Array Oper}{listed:Array Bool}(j6:∀j o,ops[j]? = some o->listed.getD j false=true->∀e∈o.after,Region.binds .any e=true->listed.getD e.on false=true){i:Nat}(hr:∀j∈dS ops i,listed.getD j false=true):∀j∈before ops i,listed.getD j false=true:=by
 unfold before;refine QS j6 i _ λj hj => ?_;rcases EJ _ _ hj with h|h
 ·cases h
 ·exact hr j h
theorem QT{ops:Array Oper}(hd:eJ ops=true){i:Nat}{r:List Nat}{st:St}{L:List iu}{ρ:Env}{listed:Array Bool}{β:Nat->Nat}{a:Act}{w:World}(inv:rl P W R Z ops (i::r) st L ρ listed β a w){o:Oper}(ho:ops[i]? = some o)(rh:i ∉ r)(wX:∀j∈dS ops i,j ∉ i::r)
  (hr:∀j∈dS ops i,listed.getD j false=true) (kJ:qV st.n o.dst=true) {s:St} {aB:Env} {bc:Nat->Nat} {a2:Act} {w2:World} (hC:Core W R Z aB bc s a2 w2) (hc:st.c.le s.c) (hl:Env.aE st.c ρ aB) (hb:∀k,k<st.c.nk->bc k=β k) (iv:Shape o a a2)
  (gO:∀p∈L.filter (λp => !(before ops i).contains p.j),(∀k∈p.rd,aK s.m s.o k=aK st.m st.o k)∨yg st.t s.m p=true) :
  rl P W R Z ops r {s with t:=eZ st.t o.dst (match o.dst with|some d=>ay s.t d|none=>.any),n:=st.n} (L.filter λp => !(before ops i).contains p.j) aB (listed.setIfInBounds i true) bc a2 w2:=by
 have xQ:i<ops.size:=(Array.getElem?_eq_some_iff.1 ho).1;have sQ:i<listed.size:=by rw [inv.size];exact xQ
 have rn:∀j,(listed.setIfInBounds i true).getD j false=if i=j then true else listed.getD j false:=λj=>Ad listed i j sQ
 have EU:listed.getD i false=false:=by
  cases h:listed.getD i false with
  |false=>rfl
  |true=>exact (inv.uh i h (by simp)).elim
 have Aj:∀d,ay (eZ st.t o.dst (match o.dst with|some d=>ay s.t d|none=>.any)) d=if o.dst=some d then ay s.t d else ay st.t d:=λd=>by
  rw [xR];by_cases h:o.dst=some d
  ·rw [if_pos h,if_pos h,h]
  ·rw [if_neg h,if_neg h]
 refine⟨by simp [inv.size],λj oj hj mo e he il => ?_,λj mo => ?_,λj hj BR => ?_,λq hq => ?_,λd => ?_, ?_⟩
 ·rw [rn]at mo ⊢;by_cases h1:i=e.on
  ·rw [if_pos h1]
  ·rw [if_neg h1];by_cases h2:i=j
   ·subst h2;rw [ho]at hj;cases hj;exact hr e.on ((C5 ho).2 ⟨e,he,il,rfl⟩)
   ·rw [if_neg h2]at mo;exact inv.C4 j oj hj mo e he il
 ·rw [rn]at mo;by_cases h:i=j
  ·subst h;exact rh
  ·rw [if_neg h]at mo;exact λh2=>inv.uh j mo (List.mem_cons_of_mem _ h2)
 ·rw [rn];by_cases h:i=j
  ·rw [if_pos h];exact .inl rfl
  ·rw [if_neg h];rcases inv.ER j hj (λh2=>(List.mem_cons.1 h2).elim (λe=>h e.symm) BR)with h3|⟨p,hp,pT⟩
   ·exact .inl h3
   ·by_cases xS:p.j∈before ops i
    ·left;rw [<-pT];exact Kv inv.C4 hr _ xS
    ·exact .inr ⟨p,List.mem_filter.2 ⟨hp,by simpa using xS⟩,pT⟩
 ·have UK:q∈L:=(List.mem_filter.1 hq).1;have fq:=inv.yG q UK;have iS:i≠q.j:=λe=>fq.out (by rw [<-e];simp)
  have rp:∀d j oj,ops[j]? = some oj->oj.dst=some d->(j=q.j∨j∈dS ops q.j)->o.dst≠some d:=λd j oj h1 h2 h3 h4=>by
   have:=Kr hd ho h1 h4 h2
   subst this;rcases h3 with h3|h3
   ·exact iS h3
   ·exact fq.pre i h3 (by simp)
  have m1:∀d,q.dst=some d->ay (eZ st.t o.dst (match o.dst with|some d=>ay s.t d|none=>.any)) d=ay st.t d:=λd qG=>by
   obtain⟨oq,e1,e2⟩:=fq.dst;rw [Aj,if_neg (rp d q.j oq e1 (by rw [e2,qG]) (.inl rfl))]
  have m2:∀d j oj,ops[j]? = some oj->oj.dst=some d->j∈dS ops q.j->ay (eZ st.t o.dst (match o.dst with|some d=>ay s.t d|none=>.any)) d=ay st.t d:=λd j oj h1 h2 h3=>by
   rw [Aj,if_neg (rp d j oj h1 h2 (.inr h3))]
  have m3:∀j,listed.getD j false=false->j∈dS ops q.j->(listed.setIfInBounds i true).getD j false=false:=λj h1 h2=>by
   have:i≠j:=λe=>fq.pre j h2 (by rw [<-e];simp)
   rw [rn,if_neg this];exact h1
  have m4:(listed.setIfInBounds i true).getD q.j false=false->∀d o',ops[q.j]? = some o'->d∈o'.looksAt ops->a2.tmps[d]? = a.tmps[d]? := λh d oq h1 h2=>by
   refine iv.2 d λpV => ?_;rcases Kq hd h1 ho pV h2 with h3|h3
   ·exact fq.pre i h3 (by simp)
   ·rw [rn,if_neg iS]at h;rw [hr q.j h3]at h;cases h
  rcases gO q hq with EV|EV
  ·exact fq.move hc hl hb rfl (λj hj=>List.mem_cons_of_mem _ hj) (λh=>by rw [rn,if_neg iS]at h;exact h) m1 m2 m3 m4 λh k hk=>EV k hk
  ·refine fq.BV hc hl hb rfl (λj hj=>List.mem_cons_of_mem _ hj) (λh=>by rw [rn,if_neg iS]at h;exact h) m1 m2 m3 m4 EV ⟨λd => ?_,hC.wf.m,hC.wf.o,hC.wf.ap,hC.wf.r,hC.wf.d,hC.wf.k,hC.wf.df⟩ hC.kn;show (ay (eZ _ _ _) d).wf s.c=true;rw [Aj];split
   ·exact hC.wf.t d
   ·exact SV.aT hc (inv.tw d)
 ·show (ay (eZ _ _ _) d).wf s.c=true;rw [Aj];split
  ·exact hC.wf.t d
  ·exact SV.aT hc (inv.tw d)
 ·have mY:a2.tmps.size=st.n:=by rw [iv.1];exact inv.core.size
  refine⟨mY,λd hn => ?_,hC.kQ,hC.below,hC.mem,hC.inj,hC.gz,hC.kF,hC.ia,hC.dn,⟨λd => ?_,hC.wf.m,hC.wf.o,hC.wf.ap,hC.wf.r,hC.wf.d,hC.wf.k,hC.wf.df⟩,hC.kn⟩
  ·rcases wT (eZ st.t o.dst (match o.dst with|some d=>ay s.t d|none=>.any)) ((L.filter λp => !(before ops i).contains p.j).filter λp => !(listed.setIfInBounds i true).getD p.j false) d with h|⟨h,h2⟩
   ·exact (hn h).elim
   ·have mn:ay (eZ st.t o.dst (match o.dst with|some d=>ay s.t d|none=>.any)) d ≠ .any:=by rw [<-h];exact hn
    show _=some ((ay (cE _ _) d).den aB bc);rw [h];rw [Aj]at mn ⊢;by_cases pV:o.dst=some d
    ·rw [if_pos pV]at mn ⊢;exact hC.tmps d mn
    ·rw [if_neg pV]at mn ⊢;rw [iv.2 d pV]
     have e3:ay (cE st.t (L.filter λq => !listed.getD q.j false)) d=ay st.t d:=C3 _ _ _ λq hq=>by
      simp only [List.mem_filter,Bool.not_eq_true']at hq;have UM:i≠q.j:=λe=>(inv.yG q hq.1).out (by rw [<-e];simp)
      have xS:q.j ∉ before ops i:=λxS=>by
       have:=Kv inv.C4 hr _ xS
       rw [this]at hq;cases hq.2
      exact h2 q (List.mem_filter.2 ⟨List.mem_filter.2 ⟨hq.1,by simpa using xS⟩,by rw [rn,if_neg UM,hq.2];rfl⟩)
     have h5:=inv.core.tmps d (by show ay (cE st.t _) d ≠ .any;rw [e3];exact mn);rw [h5];show some ((ay (cE st.t _) d).den ρ β)=_;rw [e3,SV.ae hl hb (inv.tw d)]
  ·show (ay (cE _ _) d).wf s.c=true;rcases wT (eZ st.t o.dst (match o.dst with|some d=>ay s.t d|none=>.any)) ((L.filter λp => !(before ops i).contains p.j).filter λp => !(listed.setIfInBounds i true).getD p.j false) d with h|⟨h,_⟩
   ·rw [h];rfl
   ·rw [h,Aj];split
    ·exact hC.wf.t d
    ·exact SV.aT hc (inv.tw d)
def tW(F:Kf)(c:aw)(ρ:Env):Prop:=∀x∈F,x.1.wf c=true/\x.1.den ρ=x.2
theorem tW.mono{F:Kf}{c c':aw}{ρ ah:Env}(h:tW F c ρ)(hc:c.le c')(hl:Env.aE c ρ ah):tW F c' ah:=λx hx=>⟨BE.aT hc (h x hx).1,(BE.ae hl (h x hx).1).trans (h x hx).2⟩
theorem tW.look{F:Kf}{c:aw}{ρ:Env}(h:tW F c ρ){e:BE}{b:Bool}(he:F.lookup e=some b):e.den ρ=b:=by
  induction F with
  |nil=>cases he
  |cons x r ih =>
    rw [List.lookup_cons]at he;split at he
    · rename_i hq
      have:e=x.1:=by simpa using hq
      cases he;rw [this];exact (h x (by simp)).2
    · exact ih (λy hy=>h y (by simp [hy])) he
theorem QU{F:Kf}{c:aw}{e:BE}{t f:Kf->Env->Prop}{ρ:Env}(hF:tW F c ρ)(hw:e.wf c=true)(h:nt (PA P W Q QM QP) F e t f ρ):∃F',tW F' c ρ/\((e.den ρ=true/\t F' ρ)∨(e.den ρ=false/\f F' ρ)):=by
  unfold nt at h;cases he:F.lookup e with
  |some b =>
    rw [he]at h
    have:=hF.look he
    cases b with
    |true=>exact⟨F,hF,.inl ⟨this,h⟩⟩
    |false=>exact⟨F,hF,.inr ⟨this,h⟩⟩
  |none =>
    rw [he]at h
    have cons:∀b,e.den ρ=b->tW ((e,b)::F) c ρ:=λb hb x hx=>by
      rcases List.mem_cons.1 hx with rfl|hx
      · exact⟨hw,hb⟩
      · exact hF x hx
    rcases zw h with ⟨h1,h2⟩|⟨h1,h2⟩
    · exact⟨_,cons _ h1,.inl ⟨h1,h2⟩⟩
    · exact⟨_,cons _ h1,.inr ⟨h1,h2⟩⟩
theorem QW{ops:Array Oper}{st:St}{F:Kf}{o:Oper}{go no:Kf->Env->Prop}{ρ:Env}(hF:tW F st.c ρ)(Hb:∀ i,(ay st.t i).wf st.c=true)(h:nu (PA P W Q QM QP) F (guardOf ops st o) go no ρ) :
    ∃b F',tW F' st.c ρ/\ez ops ρ st o b/\(b=true->go F' ρ)/\(b=false->no F' ρ):=by
  unfold guardOf at h;cases hg:o.guard with
  |none =>
    rw [hg]at h;exact⟨true,F,hF,by unfold ez;rw [hg],λ_=>h,λe=>absurd e (by simp)⟩
  |some jw =>
    obtain⟨j,want⟩:=jw;rw [hg]at h;simp only at h;generalize hb:(ops[j]?).bind (·.dst)=u at h;cases u with
    |none=>exact h.elim
    |some d =>
      simp only at h;split at h;rotate_left
      · exact h.elim
      generalize hs:ay st.t d=sv at h;split at h
      · rename_i e;simp only [nu]at h;have vX:e.wf st.c=true:=by have:=Hb d;rw [hs]at this;exact this
        obtain⟨F',wY,⟨h1,h2⟩|⟨h1,h2⟩⟩:=QU hF vX h
        · refine⟨want,F',wY,by unfold ez;rw [hg];exact⟨d,hb,.inl ⟨e,hs,by rw [h1];cases want<;>rfl⟩⟩,λhw => ?_,λhw => ?_⟩
          · rw [if_pos hw]at h2;exact h2
          · rw [if_neg (by rw [hw];simp)]at h2;exact h2
        · refine⟨!want,F',wY,by unfold ez;rw [hg];exact⟨d,hb,.inl ⟨e,hs,by rw [h1];cases want<;>rfl⟩⟩,λhw => ?_,λhw => ?_⟩
          · rw [if_neg (by cases want<;>simp_all)]at h2;exact h2
          · rw [if_pos (by cases want<;>simp_all)]at h2;exact h2
      · exact⟨false,F,hF,by unfold ez;rw [hg];exact⟨d,hb,.inr ⟨hs,rfl⟩⟩,(λe=>absurd e (by simp)),λ_=>h⟩
      · exact h.elim
theorem Kw{G:bW}(hG:G.Ok){st:St}{o:Oper}{K:SV->aw->cd->Env->Prop}{ρ:Env}(wf:st.WF)(ga:cd.den st.k ρ)(h:Gk (PA G.P W Q QM QP) G st o K ρ) :
    ∃v c k ah,K v c k ah/\st.c.le c/\c.nk=st.c.nk/\Env.aE st.c ρ ah/\v.wf c=true/\cd.wf k c/\cd.den k ah/\∀U,Env.aE c ah U->bL G.P W st o v U:=by
  have val : vD (PA G.P W Q QM QP) G st o (λv c => if c.nk = st.c.nk /\ v.wf c = true then K v c st.k else (PA G.P W Q QM QP).fail "drawn: value") ρ ->
      ∃v c k ah,K v c k ah/\st.c.le c/\c.nk=st.c.nk/\Env.aE st.c ρ ah/\v.wf c=true/\cd.wf k c/\cd.den k ah/\∀U,Env.aE c ah U->bL G.P W st o v U:=by
    intro h;obtain⟨v,c,ah,h1,h2,h3,h4⟩:=IS hG wf ga h;split at h1
    · rename_i hc;exact⟨v,c,st.k,ah,h1,h2,hc.1,h3,hc.2,λz hz=>Kn.aT h2 (wf.k z hz),cd.ae h3 wf.k ga,h4⟩
    · exact h1.elim
  obtain⟨dst,op,type,pos,after,guard⟩:=o;unfold Gk at h;simp only [On]at h;cases op<;>first|exact val h|skip
  rename_i t x;simp only at h;generalize hu:G.P.underlying t=u1 at h;generalize hx:st.ev x=sx at h;split at h
  · exact h.elim
  · rename_i d v vZ;split at h
    · rename_i hv;obtain⟨D4,Bj⟩:=hv;have h:=h ⟨.iface t (v.den ρ b0),rfl⟩ rfl;have hle:st.c.le {st.c with nv:=st.c.nv+1}:=zq st.c .uY;have d_:=Dz st.c ρ ⟨.iface t (v.den ρ b0),rfl⟩
      have e0:∀U,Env.aE {st.c with nv:=st.c.nv+1} (ρ.oP st.c.nv ⟨.iface t (v.den ρ b0),rfl⟩) U->(U.v st.c.nv).1=.iface t (v.den U b0):=λU hl=>by
        rw [hl.v st.c.nv (Nat.lt_succ_self _),CV.ae (Env.aj hle d_ hl) (λ_ _=>rfl) Bj];exact congrArg (λy:OV=>y.1) (if_pos rfl)
      refine⟨_,_,_,_,h,hle,rfl,d_,by simp [SV.wf,CV.wf,At.wf],λz hz => ?_,λz hz => ?_,λU hl=>bL.run λβ a w hB bx hr=>⟨.iface t (v.den U β), ?_,λ_ => ?_⟩⟩
      · rcases List.mem_cons.1 hz with rfl|hz
        · simp only [Kn.wf,Bool.and_eq_true,decide_eq_true_eq];exact⟨Nat.lt_succ_self _,CV.aT hle Bj,D4⟩
        · exact Kn.aT hle (wf.k z hz)
      · rcases List.mem_cons.1 hz with rfl|hz
        · simp only [Kn.den];exact e0 _ (Env.aq _ _)
        · exact Kn.ae d_ (wf.k z hz) (ga z hz)
      · have e1:=bx x (by simp [Op.operands]) (by rw [hx];simp);rw [hx]at e1;simp only [execOp,e1];refine zj _ w _ ?_
        cases d<;>first
          | (exact (vZ _ rfl).elim)
          | (simp [Instr.makeInterface,run_underlying hu,SV.den])
      · show _=(U.v st.c.nv).1;rw [e0 U hl,CV.bn U β b0 D4]
    · exact h.elim
  · exact h.elim
theorem UN{G:bW}(hG:G.Ok){st:St}{F:Kf}{o:Oper}{K:SV->aw->cd->Kf->Env->Prop}{ρ:Env}(wf:st.WF)(hF:tW F st.c ρ)(ga:cd.den st.k ρ)(h:A8 (PA G.P W Q QM QP) G st F o K ρ) :
  ∃v c k ah F',tW F' c ah/\K v c k F' ah/\st.c.le c/\c.nk=st.c.nk/\Env.aE st.c ρ ah/\v.wf c=true/\cd.wf k c/\cd.den k ah/\∀U,Env.aE c ah U->bL G.P W st o v U:=by
 have gen:Gk (PA G.P W Q QM QP) G st o (λv c k=>K v c k F) ρ->∃v c k ah F',tW F' c ah/\K v c k F' ah/\st.c.le c/\c.nk=st.c.nk/\Env.aE st.c ρ ah/\v.wf c=true/\cd.wf k c/\cd.den k ah/\∀U,Env.aE c ah U->bL G.P W st o v U:=by
  intro h;obtain⟨v,c,k,ah,g1,g2,g3,g4,g5⟩:=Kw hG wf ga h;exact⟨v,c,k,ah,F,hF.mono g2 g4,g1,g2,g3,g4,g5⟩
 obtain⟨dst,op,type,pos,after,guard⟩:=o;unfold A8 at h;cases op<;>first|exact gen h|skip
 rename_i x a b;simp only at h;generalize hx:st.ev x=sx at h;split at h;rotate_left
 ·exact h.elim
 rename_i e;have vX:e.wf st.c=true:=by have:=wf.ev x;rw [hx]at this;exact this
 have fin:∀(bb:Bool),e.den ρ=bb->∀U,Env.aE st.c ρ U->bL G.P W st ⟨dst,.pick x a b,type,pos,after,guard⟩ (st.ev (if bb=true then a else b)) U:=by
  intro bb hd U hl;refine bL.run λβ ac w hB ho hr=>⟨ac.eval (if bb=true then a else b), ?_,λhn=>ho _ (by cases bb<;>simp [Op.operands]) hn⟩;have hc:=ho x (by simp [Op.operands]) (by rw [hx];simp);rw [hx]at hc;simp only [SV.den,CV.den,At.den,BE.ae hl vX,hd]at hc;cases bb<;>simp [execOp,hc,asBool]
 obtain⟨F',wY,⟨h1,h2⟩|⟨h1,h2⟩⟩:=QU hF vX h
 ·exact⟨_,_,_,ρ,F',wY,h2,aw.le_refl _,rfl,Env.aq _ _,wf.ev a,wf.k,ga,fin true h1⟩
 ·exact⟨_,_,_,ρ,F',wY,h2,aw.le_refl _,rfl,Env.aq _ _,wf.ev b,wf.k,ga,fin false h1⟩
theorem QX{ops:Array Oper}(hd:eJ ops=true){i:Nat}{r:List Nat}{st:St}{L:List iu}{ρ:Env}{listed:Array Bool}{β:Nat->Nat}{a:Act}{w:World}(inv:rl P W R Z ops (i::r) st L ρ listed β a w){o:Oper}(ho:ops[i]? = some o)(rh:i ∉ r)(wX:∀j∈dS ops i,j ∉ i::r)
  (kJ:qV st.n o.dst=true) {v:SV} {c:aw} {k:cd} {ah:Env} {b:Bool} {rd:List Nat} {ld:Option (Nat × Nat × Bool × Nat)} (hc:st.c.le c) (hl:Env.aE st.c ρ ah) (hv:v.wf c=true) (u_:cd.wf k c) (jr:cd.den k ah) (nd:∀c,o.op ≠ .defer c) (hw:ez ops ρ st o b) (iE:b=false->v=.eH)
  (ji:b=true->(∀U,Env.aE c ah U->bL P W st o v U)/\∀k∈ba st o,k∈rd) (UO:∀q,ld=some q->∃t x,o.op=.load t x/\st.ev x=.cv (.one (.loc q.1 q.2.1))/\aP P t=some (q.2.2.1,q.2.2.2)):rl P W R Z ops r {st with t:=eZ st.t o.dst v,c:=c,k:=k} (⟨i,o.dst,rd,ld⟩::L) ah listed β a w:=by
 have sS:st.WF:=⟨inv.tw,inv.core.wf.m,inv.core.wf.o,inv.core.wf.ap,inv.core.wf.r,inv.core.wf.d,inv.core.wf.k,inv.core.wf.df⟩
 have EU:listed.getD i false=false:=by
  cases h:listed.getD i false with
  |false=>rfl
  |true=>exact (inv.uh i h (by simp)).elim
 have iS:∀q∈L,i≠q.j:=λq hq e=>(inv.yG q hq).out (by rw [<-e];simp);refine⟨inv.size,inv.C4,λj hj h=>inv.uh j hj (List.mem_cons_of_mem _ h),λj hj BR => ?_,λq hq => ?_,λd => ?_, ?_⟩
 ·by_cases h:i=j
  ·exact .inr ⟨⟨i,o.dst,rd,ld⟩,by simp,h⟩
  ·rcases inv.ER j hj (λh2=>(List.mem_cons.1 h2).elim (λe=>h e.symm) BR)with h3|⟨p,hp,pT⟩
   ·exact .inl h3
   ·exact .inr ⟨p,List.mem_cons_of_mem _ hp,pT⟩
 ·rcases List.mem_cons.1 hq with rfl|hq
  ·refine⟨⟨o,ho,rfl⟩,rh,λd qG => ?_,λj hj h=>wX j hj (List.mem_cons_of_mem _ h),λ_=>⟨o,st,v,b,ho,sS,hc,cd.ae hl sS.k inv.core.kn,λd qG => ?_,nd,hw.aE sS hl,λd rJ=>⟨λj oj h1 h2 h3 => ?_, ?_⟩,iE,λhb=>⟨(ji hb).1,λk hk=>⟨(ji hb).2 k hk,rfl⟩⟩,UO⟩⟩
   ·rw [show o.dst=some d from qG]at kJ;simpa [qV]using kJ
   ·show ay (eZ st.t o.dst v) d=v;rw [xR,if_pos qG]
   ·show _=ay (eZ st.t o.dst v) d;rw [xR,if_neg λh => ?_]
    have:=Kr hd ho h1 h h2
    subst this;exact wX i h3 (by simp)
   ·by_cases hx:∃j oj,ops[j]? = some oj/\oj.dst=some d/\j∈dS ops i/\listed.getD j false=false
    ·exact .inl hx
    ·right;intro hn
     have e3:ay (cE st.t (L.filter λq => !listed.getD q.j false)) d=ay st.t d:=C3 _ _ _ λq hq h=>by
      simp only [List.mem_filter,Bool.not_eq_true']at hq;have fq:=inv.yG q hq.1;obtain⟨oq,q1,q2⟩:=fq.dst;rcases Kq hd ho q1 (by rw [q2,h]) rJ with h4|h4
      ·exact hx ⟨q.j,oq,q1,by rw [q2,h],h4,hq.2⟩
      ·exact fq.pre i h4 (by simp)
     have h5:=inv.core.tmps d (by show ay (cE st.t _) d ≠ .any;rw [e3];exact hn);rw [h5];show some ((ay (cE st.t _) d).den ρ β)=_;rw [e3,SV.ae hl (λ_ _=>rfl) (inv.tw d)]
  ·have fq:=inv.yG q hq
   have rp:∀d j oj,ops[j]? = some oj->oj.dst=some d->(j=q.j∨j∈dS ops q.j)->o.dst≠some d:=λd j oj h1 h2 h3 h4=>by
    have:=Kr hd ho h1 h4 h2
    subst this;rcases h3 with h3|h3
    ·exact iS q hq h3
    ·exact fq.pre i h3 (by simp)
   refine fq.move hc hl (λ_ _=>rfl) rfl (λj hj=>List.mem_cons_of_mem _ hj) (λh=>h) (λd qG => ?_) (λd j oj h1 h2 h3 => ?_) (λj h1 h2=>h1) (λ_ d oq h1 h2=>rfl) λ_ _ _=>rfl
   ·show ay (eZ _ _ _) d=_;obtain⟨oq,e1,e2⟩:=fq.dst;rw [xR,if_neg (rp d q.j oq e1 (by rw [e2,qG]) (.inl rfl))]
   ·show ay (eZ _ _ _) d=_;rw [xR,if_neg (rp d j oj h1 h2 (.inr h3))]
 ·show (ay (eZ _ _ _) d).wf c=true;rw [xR];split
  ·exact hv
  ·exact SV.aT hc (inv.tw d)
 ·have fb:=inv.core;have g:=sS.grow hc
  have EW:((⟨i,o.dst,rd,ld⟩:iu)::L).filter (λp => !listed.getD p.j false)=⟨i,o.dst,rd,ld⟩::L.filter (λp => !listed.getD p.j false):=by
   rw [List.filter_cons,if_pos (by simp [EU])]
  have Kx:∀d,(ay (cE (eZ st.t o.dst v) (((⟨i,o.dst,rd,ld⟩:iu)::L).filter λp => !listed.getD p.j false)) d).wf c=true:=λd=>by
   rcases wT (eZ st.t o.dst v) (((⟨i,o.dst,rd,ld⟩:iu)::L).filter λp => !listed.getD p.j false) d with h|⟨h,_⟩
   ·rw [h];rfl
   ·rw [h,xR];split
    ·exact hv
    ·exact SV.aT hc (inv.tw d)
  have dX:=fb.aE hl;refine⟨fb.size,λd hn => ?_,fb.kQ,fb.below,λk e hg=>dX.mem k e hg,fb.inj,fb.gz,fb.kF,fb.ia,fb.dn,⟨Kx,g.m,g.o,g.ap,g.r,g.d,u_,g.df⟩,jr⟩;rcases wT (eZ st.t o.dst v) (((⟨i,o.dst,rd,ld⟩:iu)::L).filter λp => !listed.getD p.j false) d with h|⟨h,h2⟩
  ·exact (hn h).elim
  ·have pV:o.dst≠some d:=h2 ⟨i,o.dst,rd,ld⟩ (by rw [EW];simp);have mn:ay (eZ st.t o.dst v) d ≠ .any:=by rw [<-h];exact hn
   show _=some ((ay (cE _ _) d).den ah β);rw [h];rw [xR,if_neg pV]at mn ⊢;have e3:ay (cE st.t (L.filter λq => !listed.getD q.j false)) d=ay st.t d:=C3 _ _ _ λq hq=>h2 q (by rw [EW];exact List.mem_cons_of_mem _ hq);have h5:=dX.tmps d (by show ay (cE st.t _) d ≠ .any;rw [e3];exact mn);rw [h5];show some ((ay (cE st.t _) d).den ah β)=_;rw [e3]
theorem EX{G:bW}(hG:G.Ok){ops:Array Oper}(hd:eJ ops=true){r:Option Nat}{mm:Nat}{c0:aw}{dL:Env}{bE:Nat->Nat}{Q':Exit->Act->World->Prop}{step:St->Oper->(St->Env->Prop)->Env->Prop}(hs:sH G.P W R Z r mm c0 dL bE Q' step){K:St->Env->Prop} :
    ∀(rem:List Nat) (st:St) (F:Kf) (L:List iu) (ρ:Env),Gj G.P ops rem=true->tW F st.c ρ->(∀i,(ay st.t i).wf st.c=true)->pg (PA G.P W Q QM QP) G step ops rem st F L K ρ->c0.le st.c->Env.aE c0 dL ρ ->
      ∀(fuel:Nat) (listed:Array Bool) (β:Nat->Nat) (a:Act) (w:World),(∀k,k<c0.nk->β k=bE k)->rl G.P W R Z ops rem st L ρ listed β a w->oL listed ops.size=fuel->va W R Z st ρ β K (Q' .normal)->wpAnyIn (Fr r) mm G.P .any ops Q' fuel listed a w
  | [],st,F,L,ρ,_,_,_,h,jJ,ja=>by
    intro fuel
    have done:∀(fuel:Nat) (listed:Array Bool) (β:Nat->Nat) (a:Act) (w:World),rl G.P W R Z ops [] st L ρ listed β a w->va W R Z st ρ β K (Q' .normal)->(∀j,j<ops.size->listed.getD j false=true)->wpAnyIn (Fr r) mm G.P .any ops Q' fuel listed a w:=by
      intro fuel listed β a w inv hn cX;refine wpAnyIn_done ?_ ?_ fuel
      · refine List.eq_nil_iff_forall_not_mem.2 λj hj => ?_;obtain⟨h1,o,ho,_⟩:=mem_ready.1 hj
        have:=cX j (Array.getElem?_eq_some_iff.1 ho).1
        rw [getD_both h1]at this;cases this
      · unfold pg at h
        have hf:(L.filter λp => !listed.getD p.j false)=[]:=by
          refine List.filter_eq_nil_iff.2 λp hp => ?_;obtain⟨o,ho,_⟩:=(inv.yG p hp).dst;rw [cX p.j (Array.getElem?_eq_some_iff.1 ho).1];simp
        have hC:=inv.core;rw [hf]at hC;exact hn st ρ β a w h (aw.le_refl _) (Env.aq _ _) (λ_ _=>rfl) hC
    induction fuel with
    |zero =>
      intro listed β a w _ inv hu hn;exact done 0 listed β a w inv hn λj hj=>EG hu j hj
    |succ fuel ih =>
      intro listed β a w iE inv hu hn;refine⟨λsT => ?_,λx hx => ?_⟩
      · obtain⟨j,hj,mo,eD⟩:=G5 (listed:=listed) (m:=ops.size) (by omega);have ho:ops[j]? = some ops[j]:=Array.getElem?_eq_getElem hj
        have:j∈Region.ready .any ops listed:=mem_ready.2 ⟨getD_in (by rw [inv.size];exact hj) mo,_,ho,λe he hb=>eD e.on ((wO hd ho).1 e he hb)⟩
        rw [sT]at this;cases this
      · obtain⟨h1,o,ho,hr⟩:=mem_ready.1 hx;have qE:=(Array.getElem?_eq_some_iff.1 ho).1;have Ky:x<listed.size:=by rw [inv.size];exact qE
        have gT:=getD_both h1;rcases inv.ER x qE (by simp)with h2|⟨p,hp,rfl⟩
        · rw [gT]at h2;cases h2
        · refine QN hd inv hp gT (λj hj => ?_) λa' w' wZ=>ih _ β a' w' iE wZ ?_ hn
          · obtain⟨e,he,hb,rfl⟩:=(C5 ho).1 hj;exact hr e he hb
          · have:=G6 Ky gT ops.size
            rw [if_pos qE]at this;omega
  |i::rm,st,F,L,ρ,kO,hF,Hb,h,jJ,ja=>by
    simp only [Gj,Bool.and_eq_true,decide_eq_true_eq,Bool.not_eq_true']at kO;obtain⟨⟨⟨⟨xQ,rh⟩,wX⟩,tX⟩,yH⟩:=kO;have ho:ops[i]? = some ops[i]:=Array.getElem?_eq_getElem xQ;generalize ops[i]=o at ho;have yI:i ∉ rm:=λhm=>by rw [List.contains_iff_mem.2 hm]at rh;cases rh
    have tY:∀j∈dS ops i,j ∉ i::rm:=λj hj hm=>by
      have:=List.all_eq_true.1 wX j hj
      rw [List.contains_iff_mem.2 hm]at this;cases this
    unfold pg at h;rw [St.norm_eq]at h;unfold Du Dv at h;simp only [ho]at h tX;split at h;rotate_left
    · exact h.elim
    rename_i kJ;split at h
    ·
      rename_i BW;rw [BW]at tX;simp only [Bool.not_true,Bool.false_or]at tX
      obtain⟨b,F',wY,hw,jV,Kz⟩:=QW (st := {st with t:=cE st.t (L.filter λp => !(before ops i).contains p.j)}) hF (λd=>by
        rcases wT st.t (L.filter λp => !(before ops i).contains p.j) d with h|⟨h,_⟩
        · show (ay (cE st.t _) d).wf st.c=true;rw [h];rfl
        · show (ay (cE st.t _) d).wf st.c=true;rw [h];exact Hb d) h
      intro fuel
      induction fuel with
      |zero =>
        intro listed β a w _ inv hu hn;exact (inv.uh i (EG hu i xQ) (by simp)).elim
      |succ fuel ih =>
        intro listed β a w iE inv hu hn;refine⟨λsT => ?_,λx hx => ?_⟩
        · obtain⟨j,hj,mo,eD⟩:=G5 (listed:=listed) (m:=ops.size) (by omega);have ho:ops[j]? = some ops[j]:=Array.getElem?_eq_getElem hj
          have:j∈Region.ready .any ops listed:=mem_ready.2 ⟨getD_in (by rw [inv.size];exact hj) mo,_,ho,λe he hb=>eD e.on ((wO hd ho).1 e he hb)⟩
          rw [sT]at this;cases this
        · obtain⟨h1,ox,Hc,hr⟩:=mem_ready.1 hx;have qE:=(Array.getElem?_eq_some_iff.1 Hc).1;have Ky:x<listed.size:=by rw [inv.size];exact qE
          have gT:=getD_both h1
          have eK:∀j∈dS ops x,listed.getD j false=true:=λj hj=>by
            obtain⟨e,he,hb,rfl⟩:=(C5 Hc).1 hj;exact hr e he hb
          have lN:oL (listed.setIfInBounds x true) ops.size=fuel:=by
            have:=G6 Ky gT ops.size
            rw [if_pos qE]at this;omega
          by_cases Hd:x∈i::rm;rotate_left
          · rcases inv.ER x qE Hd with h2|⟨p,hp,rfl⟩
            · rw [gT]at h2;cases h2
            · exact QN hd inv hp gT eK λa' w' wZ=>ih _ β a' w' iE wZ lN hn
          rcases List.mem_cons.1 Hd with rfl|Hd;rotate_left
          · obtain⟨j,hj,Ka⟩:=List.any_eq_true.1 (List.all_eq_true.1 tX x Hd);exact (inv.uh j (eK j hj) (List.contains_iff_mem.1 Ka)).elim
          rw [ho]at Hc;cases Hc
          have wQ:Core W R Z ρ β {st with t:=cE st.t (L.filter λp => !(before ops x).contains p.j)} a w:=by
            refine Kp (st := {st with t:=cE st.t (L.filter λp => !listed.getD p.j false)}) inv.core (Below.refl _ _) rfl rfl (λd => ?_) λd mn => ?_
            · rcases wT st.t (L.filter λp => !(before ops x).contains p.j) d with h|⟨h,_⟩
              · rw [h];rfl
              · rw [h];exact inv.tw d
            · rcases wT st.t (L.filter λp => !(before ops x).contains p.j) d with h|⟨h,h2⟩
              · exact (mn h).elim
              · rw [h]at mn ⊢
                have e3:ay (cE st.t (L.filter λq => !listed.getD q.j false)) d=ay st.t d:=C3 _ _ _ λq hq=>by
                  simp only [List.mem_filter,Bool.not_eq_true']at hq;refine h2 q (List.mem_filter.2 ⟨hq.1, ?_⟩)
                  have xS:q.j ∉ before ops x:=λxS=>by
                    have:=Kv inv.C4 eK _ xS
                    rw [this]at hq;cases hq.2
                  simpa using xS
                have h5:=inv.core.tmps d (by show ay (cE st.t _) d ≠ .any;rw [e3];exact mn);rw [h5];show some ((ay (cE st.t _) d).den ρ β)=_;rw [e3]
          have lJ:∀d,o.dst=some d->d<a.tmps.size:=λd qG=>by
            rw [inv.core.size];rw [qG]at kJ;simpa [qV]using kJ
          unfold wpOpIn;simp only [ho];rw [QL hw λd _ mn=>wQ.tmps d mn];cases b with
          |false =>
            simp only [Bool.false_eq_true,if_false];refine⟨λf _=>uD r f, ?_⟩;have JC:=Kz rfl
            have dX:Core W R Z ρ β {st with t:=eZ (cE st.t (L.filter λp => !(before ops x).contains p.j)) o.dst .eH} (a.put o.dst undef) w:=by
              refine Kp wQ (Below.refl _ _) (Ha _ _ _) (QJ _ _ _) (λd => ?_) λd mn => ?_
              · rw [xR];split
                · rfl
                · exact wQ.wf.t d
              · rw [G' a o.dst undef d lJ];rw [xR]at mn ⊢;by_cases pV:o.dst=some d
                · rw [if_pos pV,if_pos pV];rfl
                · rw [if_neg pV]at mn ⊢;rw [if_neg pV];exact wQ.tmps d mn
            have inv2:=QT hd inv ho yI tY eK kJ dX (aw.le_refl _) (Env.aq _ _) (λ_ _=>rfl) (ET o a undef) (λp hp=>.inl λk hk=>rfl)
            have he:eZ st.t o.dst (match o.dst with|some d=>ay (eZ (cE st.t (L.filter λp => !(before ops x).contains p.j)) o.dst .eH) d|none=>.any)=eZ st.t o.dst .eH:=by
              cases pV:o.dst with
              |none=>rfl
              |some d=>simp only [eZ,zl,if_true]
            simp only [he]at inv2;exact EX hG hd hs rm _ _ _ ρ yH (by exact wY) (by exact inv2.tw) JC jJ ja fuel _ β _ w iE inv2 lN (hn.oK (aw.le_refl _) (Env.aq _ _) λ_ _=>rfl)
          |true =>
            simp only [if_true];refine UE ?_;refine hs _ o _ ρ (jV rfl) jJ ja β a w iE wQ _ λs aB bc a2 w2 hk hc hl hb dX iv => ?_;dsimp only at hk;split at hk;rotate_left
            · exact hk.elim
            rename_i EV
            have inv2:=QT hd inv ho yI tY eK kJ dX hc hl hb iv (λp hp=>by
              have h0:=List.all_eq_true.1 EV p hp;rw [Bool.or_eq_true]at h0;rcases h0 with h0|h0
              · refine .inl λk jr => ?_
                have:=List.all_eq_true.1 h0 k jr
                simp only [zS,Bool.and_eq_true,decide_eq_true_eq]at this;unfold aK;rw [this.1,this.2]
              · exact .inr h0)
            exact EX hG hd hs rm _ _ _ aB yH (by exact wY.mono hc hl) (by exact inv2.tw) hk (aw.le_trans jJ hc) (Env.aj jJ ja hl) fuel _ bc a2 w2 (λk hk=>(hb k (Nat.lt_of_lt_of_le hk jJ.k)).trans (iE k hk)) inv2 lN (hn.oK hc hl hb)
    ·
      rename_i BW;intro fuel listed β a w iE inv hu hn;have sS:st.WF:=⟨inv.tw,inv.core.wf.m,inv.core.wf.o,inv.core.wf.ap,inv.core.wf.r,inv.core.wf.d,inv.core.wf.k,inv.core.wf.df⟩;have nd:∀c,o.op ≠ .defer c:=λc he=>BW (by unfold nV;rw [he]);obtain⟨b,F',wY,hw,jV,Kz⟩:=QW hF Hb h;cases b with
      |true =>
        obtain⟨v,c,k,ah,F2,UP,g1,g2,g3,g4,g5,g6,g7,g8⟩:=UN hG sS wY inv.core.kn (jV rfl);have inv2:=QX hd inv ho yI tY kJ (rd:=ba st o) (ld:=yf G.P st o) g2 g4 g5 g6 g7 nd hw (λe=>absurd e (by simp)) (λ_=>⟨g8,λk hk=>hk⟩) (λq hq=>Ku hq);exact EX hG hd hs rm _ _ _ ah yH (by exact UP) (by exact inv2.tw) g1 (aw.le_trans jJ g2) (Env.aj jJ ja g4) fuel listed β a w iE inv2 hu (hn.oK g2 g4 λ_ _=>rfl)
      |false =>
        have inv2:=QX hd inv ho yI tY kJ (rd := []) (v := .eH) (aw.le_refl st.c) (Env.aq _ _) rfl sS.k inv.core.kn nd hw (λ_=>rfl) (λe=>absurd e (by simp)) (ld:=none) (λq hq=>by cases hq);exact EX hG hd hs rm _ _ _ ρ yH (by exact wY) (by exact inv2.tw) (Kz rfl) jJ ja fuel listed β a w iE inv2 hu (hn.oK (aw.le_refl _) (Env.aq _ _) λ_ _=>rfl)
end Vc
set_option linter.unusedVariables false
namespace Vc
open Go Go.RowKit
variable {P:Program} {W:e_} {Q:Value->Prop} {QM QP:World->Value->Prop} {R:Nat->Loop} {Z:List Nat}
attribute [local irreducible] behind in
theorem QY(ops:Array Oper):∀m,nU ops m<=m/\∀i,nU ops m<=i->i<m->∀j,j<i->CC ops i j=true
  |0=>⟨Nat.le_refl _,λi _ h=>by omega⟩
  |m+1=>by
    obtain⟨h1,h2⟩:=QY ops m;unfold nU;split
    · rename_i cX;refine⟨by omega,λi h3 h4 j hj => ?_⟩;by_cases G7:i=m
      · subst G7;exact List.all_eq_true.1 cX j (List.mem_range.2 hj)
      · exact h2 i h3 (by omega) j hj
    · exact⟨Nat.le_refl _,λi h3 h4=>by omega⟩
section
variable {ops:Array Oper} {n:Nat} {r:Option Nat} {mm:Nat} {Q':Exit->Act->World->Prop}
theorem QZ(hd:eJ ops=true)(hcut:∀ i,n<=i->i < ops.size->∀ j,j < i->CC ops i j=true) :
    ∀(l:List Oper) (i:Nat) (fuel:Nat) (listed:Array Bool) (a:Act) (w:World),(∀j,l[j]? = ops[i+j]?)->n<=i->i+l.length=ops.size->listed.size=ops.size->(∀j,listed.getD j false=true↔j<i) ->
      wpListIn (Fr r) mm P ops Q' l a w->l.length<=fuel->wpAnyIn (Fr r) mm P .any ops Q' fuel listed a w
  | [],i,fuel,listed,a,w,hl,hn,hlen,lJ,vf,h,hf=>by
    refine wpAnyIn_done ?_ h fuel;refine List.eq_nil_iff_forall_not_mem.2 λj hj => ?_;obtain⟨h1,o,ho,_⟩:=mem_ready.1 hj;have ES:=(Array.getElem?_eq_some_iff.1 ho).1
    have:=(vf j).2 (by simp at hlen;omega)
    rw [getD_both h1]at this;cases this
  |o::l,i,0,listed,a,w,hl,hn,hlen,lJ,vf,h,hf=>by simp at hf
  |o::l,i,fuel+1,listed,a,w,hl,hn,hlen,lJ,vf,h,hf=>by
    have ho:ops[i]? = some o:=by have:=hl 0;simpa using this.symm
    have hi:i<ops.size:=(Array.getElem?_eq_some_iff.1 ho).1
    have gT:listed.getD i false=false:=by
      cases hx:listed.getD i false with
      |false=>rfl
      |true=>have:=(vf i).1 hx;omega
    have yJ:∀j oj,ops[j]? = some oj->listed.getD j false=true->∀e∈oj.after,Region.binds .any e=true->listed.getD e.on false=true:=λj oj hj mo e he hb=>by
      have:=(vf j).1 mo
      have:=(wO hd hj).1 e he hb
      exact (vf e.on).2 (by omega)
    refine⟨λsT => ?_,λj hj => ?_⟩
    · exfalso
      have:i∈Region.ready .any ops listed:=mem_ready.2 ⟨getD_in (by rw [lJ];exact hi) gT,o,ho,λe he hb=>(vf e.on).2 ((wO hd ho).1 e he hb)⟩
      rw [sT]at this;cases this
    · obtain⟨h1,oj,Q0,hr⟩:=mem_ready.1 hj;have ES:=(Array.getElem?_eq_some_iff.1 Q0).1
      have sP:j=i:=by
        rcases Nat.lt_or_ge j i with a1|a1
        · have:=(vf j).2 a1
          rw [getD_both h1]at this;cases this
        · rcases Nat.lt_or_ge i j with a2|a2
          · have:=Kg yJ Q0 hr (hcut j (by omega) ES i a2)
            rw [gT]at this;cases this
          · omega
      subst sP
      have h2:wpOpIn (Fr r) mm P ops Q' j (wpListIn (Fr r) mm P ops Q' l) a w:=by
        unfold wpOpIn;simp only [ho];exact h
      have Kt:j<listed.size:=by rw [lJ];exact ES
      refine wpOpIn_mono (λa' w' h3=>QZ hd hcut l (j+1) fuel _ a' w' (λk => ?_) (by omega) (by simp at hlen;omega) (by simp [lJ]) (λk => ?_) h3 (by simpa using hf)) h2
      · have:=hl (k+1)
        rw [show j+1+k=j+(k+1) by omega];simpa using this
      · rw [Ad listed j k Kt];by_cases tL:j=k
        · subst tL;simp
        · rw [if_neg tL,vf k];omega
theorem EY{listed:Array Bool}(h:∀j,listed.getD j false=true↔j<n):∀m,oL listed m=m-n
  |0=>by simp [oL]
  |m+1=>by
    simp only [oL,EY h m];by_cases hm:m<n
    · rw [if_pos ((h m).2 hm)];omega
    · rw [if_neg (λe=>hm ((h m).1 e))];omega
variable {ρ:Env} {sts:Nat->St} {iw:Nat->SV} {cs:Nat->List Nat} {rd wr:List (Nat × Nat)}
theorem KA(hw:Way P W ops n ρ sts iw cs rd wr)(hd:eJ ops=true)(hcut:∀ i,n<=i->i < ops.size->∀ j,j < i->CC ops i j=true){a0:Act}{bE:Nat->Nat}{w0:World}(hC:Core W R Z ρ bE (sts 0) a0 w0)
    (hQ:∀a w β,(∀k,k<(sts 0).c.nk->β k=bE k)->Core W R Z ρ β (sts n) a w->wpListIn (Fr r) mm P ops Q' (ops.toList.drop n) a w) :
    ∀(fuel:Nat) (listed:Array Bool) (a:Act) (w:World) (β:Nat->Nat),Inv W R Z ops n ρ sts cs a0 bE listed a w β->oL listed ops.size=fuel->wpAnyIn (Fr r) mm P .any ops Q' fuel listed a w:=by
  have done:∀(fuel:Nat) (listed:Array Bool) (a:Act) (w:World) (β:Nat->Nat),Inv W R Z ops n ρ sts cs a0 bE listed a w β->oL listed ops.size=fuel->(∀j,j<n->listed.getD j false=true)->wpAnyIn (Fr r) mm P .any ops Q' fuel listed a w:=by
    intro fuel listed a w β inv hu cX
    have vf:∀j,listed.getD j false=true↔j<n:=λj=>by
      refine⟨λh => ?_,cX j⟩;rcases Nat.lt_or_ge j n with h'|h'
      · exact h'
      · rw [inv.only j h']at h;cases h
    have hle:=hw.le;rw [EY vf]at hu;refine QZ hd hcut (ops.toList.drop n) n fuel listed a w (λj=>by simp) (Nat.le_refl _) (by simp;omega) inv.ri vf (hQ a w β inv.agree (Km hw hC inv cX)) (by simp;omega)
  intro fuel
  induction fuel with
  |zero =>
    intro listed a w β inv hu;exact done 0 listed a w β inv hu λj hj=>EG hu j (Nat.lt_of_lt_of_le hj hw.le)
  |succ fuel ih =>
    intro listed a w β inv hu;by_cases cX:∀j,j<n->listed.getD j false=true
    · exact done (fuel+1) listed a w β inv hu cX
    · refine⟨λsT => ?_,λi hi => ?_⟩
      · exfalso;obtain⟨j,hj,mo,eD⟩:=G5 (listed:=listed) (m:=ops.size) (by omega);have ho:ops[j]? = some ops[j]:=Array.getElem?_eq_getElem hj
        have:j∈Region.ready .any ops listed:=mem_ready.2 ⟨getD_in (by rw [inv.ri];exact hj) mo,_,ho,λe he hb=>eD e.on ((wO hd ho).1 e he hb)⟩
        rw [sT]at this;cases this
      · obtain⟨h1,o,ho,hr⟩:=mem_ready.1 hi;have xQ:=(Array.getElem?_eq_some_iff.1 ho).1;have sQ:i<listed.size:=by rw [inv.ri];exact xQ
        have nz:i<n:=by
          rcases Nat.lt_or_ge i n with h'|h'
          · exact h'
          · exact (cX λj hj=>Kg inv.closed ho hr (hcut i h' xQ j (by omega))).elim
        refine Kj hw hd hC inv nz ho (getD_both h1) hr λa' w' an wZ=>ih _ a' w' an wZ ?_
        have:=G6 sQ (getD_both h1) ops.size
        rw [if_pos xQ]at this;omega
end
theorem Q1(a i k:Nat)(l:List (Nat × Nat)):∀(L:List Nat),(L.map (λj=>(a+j,i))++l).lookup k=if ∃j∈L,a+j=k then some i else l.lookup k
  | []=>by simp
  |x::L=>by
    simp only [List.map_cons,List.cons_append,List.lookup_cons,Q1 a i k l L];by_cases h:k=a+x
    · subst h;simp
    · have:(k == a+x)=false:=by simpa using h
      rw [this]
      have e:(∃j∈x::L,a+j=k)↔∃j∈L,a+j=k:=by
        constructor
        · rintro ⟨j,hj,rfl⟩;rcases List.mem_cons.1 hj with rfl|hj
          · exact (h rfl).elim
          · exact⟨j,hj,rfl⟩
        · rintro ⟨j,hj,he⟩;exact⟨j,List.mem_cons_of_mem _ hj,he⟩
      by_cases h2:∃j∈L,a+j=k
      · rw [if_pos h2,if_pos (e.2 h2)]
      · rw [if_neg h2,if_neg (λh3=>h2 (e.1 h3))]
theorem UQ(a b i k:Nat)(l:List (Nat × Nat)):(iR a b i++l).lookup k=if a<=k/\k<b then some i else l.lookup k:=by
 unfold iR;rw [Q1]
 have e:(∃j∈List.range (b-a),a+j=k)↔(a<=k/\k<b):=by
  constructor
  ·rintro ⟨j,hj,rfl⟩
   have:=List.mem_range.1 hj
   omega
  ·intro h;exact⟨k-a,List.mem_range.2 (by omega),by omega⟩
 by_cases h:a<=k/\k<b
 ·rw [if_pos h,if_pos (e.2 h)]
 ·rw [if_neg h,if_neg (λh2=>h (e.1 h2))]
theorem Q3(a i:Nat):iR a a i=[]:=by simp [iR]
def tZ (G:bW) (W:e_) (ops:Array Oper) (K:St->Env->Prop) (l:List Oper) (i:Nat) (d:DS) (st:St) (ρ:Env):Prop :=
    ∃(sts:Nat->St) (iw:Nat->SV) (cs:Nat->List Nat) (ds:Nat->DS) (o5:Env),sts i=st/\ds i=d/\K (sts (i+l.length)) o5/\Env.aE st.c ρ o5/\si ops (ds (i+l.length)).rd (ds (i+l.length)).wr=true /\
      (∀k∈d.rd,k∈(ds (i+l.length)).rd)/\(∀k∈d.wr,k∈(ds (i+l.length)).wr)/\(∀j,j<=l.length->(sts (i+j)).WF/\pf (ds (i+j)).al (sts (i+j)).o=true) /\
      ∀j o,l[j]? = some o->((ds (i+j+1)).al=iR (sts (i+j)).c.nk (sts (i+j+1)).c.nk (i+j)++(ds (i+j)).al) /\
        vc G.P W ops o5 (λk=>(ds (i+j)).fh ops (i+j) k=true) (i+j) (ds (i+l.length)).rd (ds (i+l.length)).wr (sts (i+j)) o (sts (i+j+1)) (iw (i+j)) (cs (i+j))
theorem UR{G:bW}(hG:G.Ok){st:St}{o:Oper}{K:St->Env->Prop}{ρ:Env}(wf:st.WF)(ga:cd.den st.k ρ)(h:H9 (PA G.P W Q QM QP) G st o K ρ):re G.P W st o K ρ/\∀c,o.op ≠ .defer c:=by
 have jK:oG (PA G.P W Q QM QP) G st o K ρ->re G.P W st o K ρ/\∀c,o.op ≠ .defer c:=λh=>⟨PE hG wf ga h,PU h⟩;have BA:zQ (PA G.P W Q QM QP) G st o K ρ->re G.P W st o K ρ/\∀c,o.op ≠ .defer c:=λh=>⟨PK wf h,PV h⟩;obtain⟨dst,op,type,pos,after,guard⟩:=o;unfold H9 at h;have kG:oH (PA G.P W Q QM QP) G st ⟨dst,op,type,pos,after,guard⟩ K ρ->re G.P W st ⟨dst,op,type,pos,after,guard⟩ K ρ/\∀c,(⟨dst,op,type,pos,after,guard⟩:Oper).op ≠ .defer c:=λh=>⟨PO wf h,PW h⟩;cases op<;>first|exact jK h|skip
 case buildSlice t len parts =>
  simp only at h;split at h
  ·exact kG h
  ·exact jK h
 case store t a x =>
  simp only at h;generalize st.ev a=sa at h;split at h
  ·exact kG h
  ·exact jK h
 case makeMap t rs=>exact kG h
 case mapUpdate t m k v=>exact kG h
 case insert t m k v=>exact kG h
 case convert s d x =>
  simp only at h;split at h
  ·exact kG h
  ·exact jK h
 rename_i cl;obtain⟨callee,args,argTypes⟩:=cl;cases callee<;>first|exact jK h|skip
 rename_i b;cases b<;>first|exact jK h|exact BA h
theorem Q4{G:bW}(hG:G.Ok){ops:Array Oper}{K:St->Env->Prop}:∀(l:List Oper) (i:Nat) (d:DS) (st:St) (ρ:Env),jd (PA G.P W Q QM QP) G ops i l d st K ρ->st.WF->cd.den st.k ρ->pf d.al st.o=true->tZ G W ops K l i d st ρ
  | [],i,d,st,ρ,h,hw,_,kI=>by
    unfold jd at h;split at h;rotate_left
    · exact h.elim
    · rename_i iS;refine⟨λ_=>st,λ_=>.eH,λ_=>[],λ_=>d,ρ,rfl,rfl,h,Env.aq _ _,iS,λ_ h=>h,λ_ h=>h,λ_ _=>⟨hw,kI⟩,λj o hj=>by simp at hj⟩
  |o::r,i,d,st,ρ,h,hw,uH,kI=>by
    have glue:∀ (s':St) (d':DS) (ah:Env) (sv:SV) (C:List Nat),jd (PA G.P W Q QM QP) G ops (i + 1) r d' s' K ah->s'.WF->cd.den s'.k ah->pf d'.al s'.o=true->st.c.le s'.c->Env.aE st.c ρ ah->(∀ k∈d.rd,k∈d'.rd)->(∀ k∈d.wr,k∈d'.wr) ->
        (d'.al=iR st.c.nk s'.c.nk i++d.al) ->
        (∀U,Env.aE s'.c ah U->∀rd wr,(∀k∈d'.rd,k∈rd)->(∀k∈d'.wr,k∈wr)->vc G.P W ops U (λk=>d.fh ops i k=true) i rd wr st o s' sv C)->tZ G W ops K (o::r) i d st ρ:=by
      intro s' d' ah sv C hx US yw UT hle d_ eK lO xI hf;obtain⟨sts,iw,cs,ds,o5,e1,e2,e3,e4,e5,e6,e7,e8,e9⟩:=Q4 hG r (i+1) d' s' ah hx US yw UT;have hlen:i+(o::r).length=i+1+r.length:=by simp;omega
      refine⟨λj=>if j<=i then st else sts j,λj=>if j<=i then sv else iw j,λj=>if j<=i then C else cs j,λj=>if j<=i then d else ds j,o5,if_pos (Nat.le_refl _),if_pos (Nat.le_refl _), ?_⟩;have c1:¬(i+1+r.length<=i):=by omega
      rw [hlen];simp only [c1,if_false];refine⟨e3,Env.aj hle d_ e4,e5,λk hk=>e6 k (eK k hk),λk hk=>e7 k (lO k hk),λj hj => ?_,λj o' hj => ?_⟩
      · by_cases DQ:j=0
        · subst DQ;simp only [Nat.add_zero,Nat.le_refl,if_true];exact⟨hw,kI⟩
        · have c2:¬(i+j<=i):=by omega
          simp only [c2,if_false]
          have:=e8 (j-1) (by simp at hj;omega)
          rwa [show i+1+(j-1)=i+j by omega]at this
      · cases j with
        |zero =>
          simp only [List.getElem?_cons_zero,Option.some.injEq]at hj;subst hj;have c2:¬(i+0+1<=i):=by omega
          simp only [Nat.add_zero,Nat.le_refl,if_true];have c3:¬(i+1<=i):=by omega
          simp only [c3,if_false,e1,e2];exact⟨xI,hf o5 e4 _ _ e6 e7⟩
        |succ j =>
          have c2:¬(i+(j+1)<=i):=by omega
          have c3:¬(i+(j+1)+1<=i):=by omega
          simp only [c2,c3,if_false]
          have:=e9 j o' (by simpa using hj)
          rw [show i+1+j=i+(j+1) by omega]at this;exact this
    have run:∀ (s1:St),s1.WF->s1.k=st.k->s1.c=st.c->(∀ U,Env.aE st.c ρ U->pU U st s1)->(∀ U,Env.aE st.c ρ U->ez ops U st o true) ->
        qU (PA G.P W Q QM QP) G ops i d s1 o (λd' s=>jd (PA G.P W Q QM QP) G ops (i+1) r d' s K) ρ->tZ G W ops K (o::r) i d st ρ:=by
      intro s1 tT u_ gA ga Kx hs;unfold qU at hs;by_cases hold:(ba s1 o++aY s1 o++dM s1 o).all (d.fh ops i)=true
      · rw [if_pos hold]at hs;obtain⟨⟨s',ah,sv,C,g1,g2,g3,g4⟩,nd⟩:=UR hG tT (by rw [u_];exact uH) hs;dsimp only at g1;by_cases iF:(H8 ops i d o s' && pf (iR s1.c.nk s'.c.nk i++d.al) s'.o)=true
        · rw [if_pos iF]at g1;rw [Bool.and_eq_true]at iF;obtain⟨q1,q2⟩:=iF;unfold H8 at q1;refine glue s' _ ah sv C g1 (g4 ah (Env.aq _ _)).wf ((g4 ah (Env.aq _ _)).kn (cd.ae g3 tT.k (by rw [u_];exact uH))) q2 (by rw [<-gA];exact g2) (by rw [<-gA];exact g3) (λk hk=>List.mem_append.2 (.inr hk)) (λk hk=>List.mem_append.2 (.inr hk)) (by rw [gA]) ?_;intro U hl rd wr h1 h2;have jH:Env.aE st.c ρ U:=by rw [<-gA];exact Env.aj g2 g3 hl
          have hf:=g4 U hl;refine .run s1 s' sv C (ga U jH) (Kx U jH) nd hf (λk hk=>List.all_eq_true.1 hold k hk) (λx hx k hk => ?_) (λk hk=>h1 _ (List.mem_append.2 (.inl (List.mem_map.2 ⟨k,hk,rfl⟩)))) (λk hk=>h2 _ (List.mem_append.2 (.inl (List.mem_map.2 ⟨k,hk,rfl⟩))));rw [hx]at q1;have zV:=hf.slot x;rw [if_pos hx]at zV;exact List.all_eq_true.1 q1 k (by rw [zV];exact hk)
        · rw [if_neg iF]at g1;exact g1.elim
      · rw [if_neg hold]at hs;exact hs.elim
    have pW:∀{x:Nat} {b:Bool},(st.dP x b).WF:=λ{x b}=>by
      refine⟨λi => ?_,hw.m,hw.o,hw.ap,hw.r,hw.d,hw.k,hw.df⟩;simp only [St.dP,zl];by_cases hi:x=i
      · rw [if_pos hi];rfl
      · rw [if_neg hi];exact hw.t i
    unfold jd at h;cases rI:o.guard with
    |none =>
      simp only [rI]at h;exact run st hw rfl rfl (λ_ _=>.refl) (λ_ _=>by unfold ez;rw [rI]) h
    |some jw =>
      obtain⟨j,want⟩:=jw;simp only [rI]at h;generalize qG:(ops[j]?).bind (·.dst)=u at h;cases u with
      |none=>exact h.elim
      |some x =>
        simp only at h;split at h
        · rename_i eD;generalize hg:ay st.t x=sv at h;split at h
          · rename_i e;have we:e.wf st.c=true:=by have:=hw.t x;rw [hg]at this;exact this
            have kn:∀b,e.den ρ=b->∀U,Env.aE st.c ρ U->pU U st (st.dP x b):=λb hb U hl=>.dP x b e hg (by rw [BE.ae hl we];exact hb)
            have wt:∀b c,e.den ρ=b->(b == want)=c->∀U,Env.aE st.c ρ U->ez ops U st o c:=by
              intro b c hb hc U hl;unfold ez;rw [rI];exact⟨x,qG,.inl ⟨e,hg,by rw [BE.ae hl we,hb];exact hc⟩⟩
            have Q6:∀b,e.den ρ=b->(b == want)=false->(St.put (PA G.P W Q QM QP) (st.dP x b) o.dst .eH st.c λs=>jd (PA G.P W Q QM QP) G ops (i+1) r d s K) ρ->tZ G W ops K (o::r) i d st ρ:=by
              intro b hb hc hp;obtain⟨p1,p2⟩:=zi hp;obtain⟨q1,q2,q3,q4,q5,q6⟩:=lg (st.dP x b) o.dst .eH st.c;refine glue _ d ρ .eH [] p1 (DZ pW (aw.le_refl _) p2) (by rw [(zm _ _ _ _).1];exact uH) (by rw [q4];exact kI) (by rw [q1];exact aw.le_refl _) (Env.aq _ _) (λ_ h=>h) (λ_ h=>h) (by rw [q1,Q3];rfl) ?_;intro U hl rd wr _ _;rw [q1]at hl;exact .skip (st.dP x b) (kn b hb U hl) (wt b false hb hc U hl) p2
            rcases zw h with ⟨hb,h⟩|⟨hb,h⟩
            · cases want with
              |true=>exact run (st.dP x true) pW rfl rfl (kn true hb) (wt true true hb rfl) h
              |false=>exact Q6 true hb rfl h
            · cases want with
              |true=>exact Q6 false hb rfl h
              |false=>exact run (st.dP x false) pW rfl rfl (kn false hb) (wt false true hb rfl) h
          · obtain⟨p1,p2⟩:=zi h;obtain⟨q1,q2,q3,q4,q5,q6⟩:=lg st o.dst .eH st.c;refine glue _ d ρ .eH [] p1 (DZ hw (aw.le_refl _) p2) (by rw [(zm _ _ _ _).1];exact uH) (by rw [q4];exact kI) (by rw [q1];exact aw.le_refl _) (Env.aq _ _) (λ_ h=>h) (λ_ h=>h) (by rw [q1,Q3];rfl) ?_;intro U hl rd wr _ _;refine .skip st .refl ?_ p2;unfold ez;rw [rI];exact⟨x,qG,.inr ⟨hg,rfl⟩⟩
          · exact h.elim
        · exact h.elim
theorem Q7{sts:Nat->St}{ds:Nat->DS}{n:Nat}(h0:(ds 0).al=[])(xI:∀ j,j < n->(ds (j + 1)).al=iR (sts j).c.nk (sts (j + 1)).c.nk j++(ds j).al)
    (uz:∀i j,i<=j->j<=n->(sts i).c.nk<=(sts j).c.nk):∀(i:Nat),i<=n->∀m k,(ds i).al.lookup k=some m↔(m<i/\laid sts m k)
  |0,_,m,k=>by rw [h0];simp
  |i+1,hi,m,k=>by
    rw [xI i (by omega),UQ];have ih:=Q7 h0 xI uz i (by omega) m k;by_cases hk:(sts i).c.nk<=k/\k<(sts (i+1)).c.nk
    · rw [if_pos hk];constructor
      · intro h;cases h;exact⟨by omega,hk⟩
      · rintro ⟨h1,h2⟩;rcases Nat.lt_or_ge m i with h'|h'
        · have:=uz (m+1) i (by omega) (by omega)
          have:=h2.2
          omega
        · have:m=i:=by omega
          rw [this]
    · rw [if_neg hk,ih];constructor
      · rintro ⟨h1,h2⟩;exact⟨by omega,h2⟩
      · rintro ⟨h1,h2⟩;refine⟨?_,h2⟩;rcases Nat.lt_or_ge m i with h'|h'
        · exact h'
        · have:m=i:=by omega
          subst this;exact (hk h2).elim
theorem vc.imp{ops:Array Oper}{ρ:Env}{fh EZ:Nat->Prop}{i:Nat}{rd wr:List (Nat × Nat)}{s s':St}{o:Oper}{sv:SV}{C:List Nat}(h:vc P W ops ρ fh i rd wr s o s' sv C)(h1:∀k,fh k->EZ k):vc P W ops ρ EZ i rd wr s o s' sv C:=by
 cases h with
 |skip s1 k w p=>exact .skip s1 k w p
 |run s1 _ _ _ k w nd f a1 a2 a4 a5=>exact .run s1 _ _ _ k w nd f (λk hk=>h1 k (a1 k hk)) (λx hx k hk=>h1 k (a2 x hx k hk)) a4 a5
theorem Q8{ops:Array Oper}{x y:Nat × Nat}(h:yd ops x y=true)(he:x.1=y.1):x.2=y.2∨(y.2<x.2/\pK ops x.2 y.2=true)∨(x.2<y.2/\pK ops y.2 x.2=true):=by
 unfold yd at h;simp only [Bool.or_eq_true,decide_eq_true_eq,Bool.and_eq_true]at h;rcases h with ((h|h)|h)|h
 ·exact (h he).elim
 ·exact .inl h
 ·exact .inr (.inl h)
 ·exact .inr (.inr h)
theorem He{G:bW}(hG:G.Ok)(hm:G.P.follows .mixedOrders=true):wJ G W Q QM QP:=by
  intro R Z r n inl yl rG KP id ops st K ρ h β a w hC Q' hI hY sI hP next hq hn
  unfold sj at h;rw [H7]at h;by_cases hd:eJ ops=true
  · rw [if_pos hd]at h;by_cases w5:pM G.P ops=true
    · rw [if_pos w5]at h;unfold pM at w5;simp only [Bool.and_eq_true]at w5;obtain⟨⟨_,kO⟩,KB⟩:=w5
      have hu:∀m,m<=ops.size->oL (Array.replicate ops.size false) m=m:=by
        intro m
        induction m with
        |zero=>intro _;rfl
        |succ m ih =>
          intro C0;simp only [oL,ih (by omega)];rw [if_neg (by rw [Array.getD_eq_getD_getElem?,Array.getElem?_replicate];split<;>simp)]
      have hf:∀j,(Array.replicate ops.size false).getD j false=false:=λj=>by
        rw [Array.getD_eq_getD_getElem?,Array.getElem?_replicate];split<;>rfl
      have hB:Below w.heap.size w {w with drawn:=w.drawn+1}:=(Below.refl _ w).drew
      have wQ:Core W R Z ρ β st a {w with drawn:=w.drawn+1} :=
        ⟨hC.size,hC.tmps,hC.kQ,hC.below.drew,λk e hg=>(hC.mem k e hg).wN (λ_ _=>rfl) (λ_ _=>rfl) (λ_ _=>rfl),hC.inj,hC.gz,hC.kF,hC.ia,hC.dn,hC.wf,hC.kn⟩
      refine wpIn_region_any hm ?_;refine EX hG hd (JE hG hI hY sI hP) (pL G.P ops) st [] [] ρ kO (λx hx=>by cases hx) hC.wf.t h (aw.le_refl _) (Env.aq _ _) ops.size _ β a _ (λ_ _=>rfl) ⟨by simp,λj oj _ h=>(by rw [hf j]at h;cases h),λj h=>(by rw [hf j]at h;cases h),λj hj BR => ?_,λp hp=>(by cases hp),hC.wf.t,wQ⟩ (hu _ (Nat.le_refl _)) ?_
      · exact (BR (List.contains_iff_mem.1 (List.all_eq_true.1 KB j (List.mem_range.2 hj)))).elim
      · exact λs aB bc a2 w2 h1 h2 h3 h4 h5=>hq _ _ (hn s aB bc a2 w2 h1 h2 h3 h4 h5)
    rw [if_neg w5]at h;obtain⟨j6,hcut⟩:=QY ops ops.size;generalize nU ops ops.size=nn at h j6 hcut;obtain⟨sts,iw,cs,ds,o5,e1,e2,e3,e4,e5,_,_,e8,e9⟩:=Q4 hG (ops.toList.take nn) 0 ⟨[],[],[]⟩ st ρ h hC.wf hC.kn (by unfold pf;simp);have hlen:(ops.toList.take nn).length=nn:=by simp;omega
    simp only [Nat.zero_add,hlen]at e3 e5 e8 e9;have KC:∀j o,j<nn->ops[j]? = some o->_:=λj o hj ho=>e9 j o (by rw [List.getElem?_take,if_pos hj];simpa using ho)
    have mf:∀j,j<nn->ops[j]? = some (ops[j]!):=λj hj=>by
      rw [getElem!_pos ops j (by omega),Array.getElem?_eq_getElem (by omega)]
    have uz:∀j i,i<=j->j<=nn->(sts i).c.nk<=(sts j).c.nk:=by
      intro j
      induction j with
      | zero => intro i h _;obtain rfl:i=0:=by omega
                exact Nat.le_refl _
      |succ j ih =>
        intro i h hj;by_cases hi:i=j+1
        · subst hi;exact Nat.le_refl _
        · obtain⟨s1,k1,mY⟩:=(KC j _ (by omega) (mf j (by omega))).2.fR (e8 j (by omega)).1
          have:=mY.GG.k
          rw [k1.c.1]at this;exact Nat.le_trans (ih i (by omega) (by omega)) this
    have d_:=Q7 (sts:=sts) (ds:=ds) (n:=nn) (by rw [e2]) (λj hj=>(KC j _ hj (mf j hj)).1) (λi j h1 h2=>uz j i h1 h2)
    have hw:Way G.P W ops nn o5 sts iw cs (ds nn).rd (ds nn).wr:=by
      refine⟨j6,λi hi=>(e8 i hi).1,λi o hi ho => ?_,λk i j h1 h2 => ?_,λi hi k ce sz t hg m mJ d Xv hl => ?_⟩
      · refine (KC i o hi ho).2.imp λk hk m Kl hl => ?_
        have:=(d_ i (by omega) m k).2 ⟨Kl,hl⟩
        simpa [DS.fh,this]using hk
      · unfold si at e5;rw [Bool.and_eq_true]at e5;rcases h1 with h1|h1
        · exact Q8 (List.all_eq_true.1 (List.all_eq_true.1 e5.1 _ h1) _ h2) rfl
        · exact Q8 (List.all_eq_true.1 (List.all_eq_true.1 e5.2 _ h1) _ h2) rfl
      · have jV:aM (sts i).o k=some (ce,sz,t):=by
          unfold aK at hg;split at hg
          · cases hg
          · split at hg
            · rename_i h3;simp only [Option.some.injEq,qB.row.injEq]at hg;obtain⟨rfl,rfl,rfl⟩:=hg;exact h3
            · cases hg
        have G8:=(e8 i hi).1.o k ce sz t jV;rcases Nat.lt_or_ge m i with h'|h'
        · have hb:=List.all_eq_true.1 (e8 i hi).2 _ (GX jV);simp only [List.all_cons,List.all_nil,Bool.and_true,Bool.and_eq_true,decide_eq_true_eq]at hb;have h5:=(d_ i hi m (k+d)).2 ⟨h',hl⟩
          have h6:(ds i).al.lookup k=some m:=by
            rcases (by omega:d=0∨d=1∨d=2∨d=3)with rfl|rfl|rfl|rfl
            · exact h5
            · rw [<-hb.1];exact h5
            · rw [<-hb.2.1];exact h5
            · rw [<-hb.2.2];exact h5
          exact ((d_ i hi m k).1 h6).2
        · have:=uz m i h' (by omega)
          have:=hl.1
          have:=G8.1
          omega
    have hB:Below w.heap.size w {w with drawn:=w.drawn+1}:=(Below.refl _ w).drew
    have wQ:Core W R Z o5 β (sts 0) a {w with drawn:=w.drawn+1}:=by
      rw [e1];have pt:=hC.aE e4;exact⟨pt.size,pt.tmps,pt.kQ,pt.below.drew,λk e hg=>(pt.mem k e hg).wN (λ_ _=>rfl) (λ_ _=>rfl) (λ_ _=>rfl),pt.inj,pt.gz,pt.kF,pt.ia,pt.dn,pt.wf,pt.kn⟩
    refine wpIn_region_any hm ?_
    have hu:∀m,m<=ops.size->oL (Array.replicate ops.size false) m=m:=by
      intro m
      induction m with
      |zero=>intro _;rfl
      |succ m ih =>
        intro C0;simp only [oL,ih (by omega)];rw [if_neg (by rw [Array.getD_eq_getD_getElem?,Array.getElem?_replicate];split<;>simp)]
    have hle:=(hw.n0 nn (Nat.le_refl _)).2.2.2;rw [e1]at hle;refine KA hw hd hcut wQ (λa' w' an KD fb => ?_) ops.size _ a _ β (Ko hw wQ) (hu _ (Nat.le_refl _));rw [e1]at KD;exact JA (JE hG hI hY sI hP) (ops.toList.drop nn) (sts nn) o5 e3 hle e4 an a' w' KD fb next hq (hn.oK hle e4 KD)
  · rw [if_neg hd]at h;exact h.elim
theorem Q9{G:bW}(hG:G.Ok)(hm:G.P.follows .mixedOrders=true){f:FuncId}{fn:Func}{b:Code}(hf:G.P.funcs[f]? = some fn)(hb:fn.body=some b){args:List SV}{c:aw}{ρ:Env}{w:World}(n:Nat)
  {kn:cd} (ga:cd.wf kn c/\cd.den kn ρ) (hw:args.all (SV.wf c)=true) (h:tx (PA G.P ⟨w,[]⟩ Q QM QP) G n fn b args c kn ρ) :
  Calls G.P f (args.map (SV.den ρ b0)).toArray w λe w'=>(∃v,e=.returned v/\Below w.heap.size w w'/\(Q v∨QM w' v))∨∃v,e=.panicked [{v:=v,recovered:=false}]/\Below w.heap.size w w'/\QP w' v:=by
 refine GS (n:=0) hf hb ?_;have hC:=T0 (W:=⟨w,[]⟩) (R:=λ_ => {state := .ready,pending:=none,fn:=0,tmps := #[],params := #[],assign := .skip,body := .skip,defers:=0}) (ρ:=ρ) (β:=b0) (args:=args) (n:=fn.ntmps) (c:=c) (w:=w) ga.1 ga.2 hw (dT.refl ⟨w,[]⟩);refine EA hG (He hG hm) n none _ b _ _ ρ h _ _ none 0 b0 _ w hC ?_ rfl _ ?_
 ·intro k args s K' ρ hy;exact hy.elim
 intro e s ah an a' w' hk kO h1 h2 h3 fb
 have fin:=JJ hG (c0:=c) (dL:=ρ) (bE:=b0) (λc2 EB K2 aB hx g1 g2 m2 bc a2 w2 g3 g4 Q2 g5=>EA hG (He hG hm) n none _ c2 EB K2 aB hx _ _ none m2 bc a2 w2 g4 (λk args s K' ρ hy=>hy.elim) rfl Q2 g5) hk h1 h2 h3 fb kO 0
  (T:=λe w'=>(∃v,e=.returned v/\Below w.heap.size w w'/\(Q v∨QM w' v))∨∃v,e=.panicked [{v:=v,recovered:=false}]/\Below w.heap.size w w'/\QP w' v)
  (λv s2 aB bc w2 jr tE BC q1 q2 q3 dX=>by
   refine .inl ⟨_,rfl,dX.below, ?_⟩;simp only [PA]at jr;split at jr
   ·rename_i lN;rw [SV.bn aB bc b0 lN];exact .inl jr
   ·exact .inr (jr bc w2 dX.below (Bf dX.wf.ap (Env.aq _ aB) (λk cs t hg=>(dX.wf.m k cs t hg).2) (λk ce sz t hg=>(dX.wf.o k ce sz t hg).2) _ λk _ e hg=>dX.mem k e hg)))
  (λi s2 aB bc w2 jr hi q1 q2 q3 dX=>.inr ⟨_,rfl,dX.below,jr w2 dX.below⟩)
 cases e with
 |normal=>exact fin.2
 |ret=>exact fin.2
 |exit id=>exact (fin.1 id rfl).elim
 |j4 i=>exact fin.2
theorem KE{m:Mem}{k:Nat}{v:List At × TypeId}:∀{l:List At},getM (c9 m l) k=some v->getM m k=some v:=by
  intro l
  induction l with
  |nil=>intro h;simp [c9,getM]at h
  |cons a l ih =>
    have key:∀ q,getM (match getM m q with
        |some v=>(q,v)::c9 m l
        |none=>c9 m l) k=some v->getM m k=some v:=λq h=>by
      split at h
      · rename_i u hu;rw [zZ]at h;split at h
        · rename_i he;subst he;rw [hu];exact h
        · exact ih h
      · exact ih h
    intro h;cases a<;>first|exact ih h|exact key _ h
theorem KF{ρ:Env}{β an:Nat->Nat}{n:Nat}(h:∀k,k<n->β k=an k):∀{a:At},a.ke n=true->a.den ρ β=a.den ρ an
  | .loc k o,ha=>by
    simp only [At.ke,decide_eq_true_eq]at ha;simp only [At.den,h k ha]
  | .fn f aI,ha=>by
    simp only [At.ke]at ha
    have:(aI.map λc=>(.pointer (some ⟨β c.1,c.2,none⟩):Value))=aI.map λc=>.pointer (some ⟨an c.1,c.2,none⟩) :=
      List.map_congr_left λx hx=>by rw [h x.1 (by simpa using List.all_eq_true.1 ha x hx)]
    simp only [At.den,this]
  | .int ..,_=>rfl
  | .bool ..,_=>rfl
  | .val ..,_=>rfl
  | .str ..,_=>rfl
  | .sv ..,_=>rfl
  | .dK,_=>rfl
  | .qL,_=>rfl
  | .rU,_=>rfl
  | .oQ,_=>rfl
  | .kD,_=>rfl
  | .nm ..,_=>rfl
  | .gV ..,_=>rfl
  | .ext ..,_=>rfl
  | .gY ..,ha=>by simp [At.ke,At.flat]at ha
  | .own ..,ha=>by simp [At.ke,At.flat]at ha
  | .gg ..,ha | .omap ..,ha | .qz ..,ha | .qM ..,ha=>by simp [At.ke,At.flat]at ha
  | .ir ..,ha=>by simp [At.ke,At.flat]at ha
theorem Q_{G:bW}(hG:G.Ok)(hm:G.P.follows .mixedOrders=true){f:FuncId}{fn:Func}{b:Code}(hf:G.P.funcs[f]? = some fn)(hb:fn.body=some b){args:List SV}{c:aw}{ρ:Env}{w:World}(n:Nat){xs:List Nat}{bs:List (List At × TypeId)}
    {kn:cd} (ga:cd.wf kn c/\cd.den kn ρ) (hw:args.all (SV.wf c)=true) (hc:bs.all (λb=>b.1.all (At.wf c))=true) (h0:bs.length<=c.nk) (hlen:xs.length=bs.length) (tF:xs.Nodup) (hx:wC ρ xs bs w) (h:sq (PA G.P ⟨w,xs⟩ Q QM QP) G n fn b args bs c kn ρ) :
    Calls G.P f (args.map (SV.den ρ (ep xs))).toArray w λe w'=>(∃v,e=.panicked [{v:=v,recovered:=false}]/\dT ⟨w,xs⟩ w'/\QP w' v)∨∃v cells,e=.returned v/\dT ⟨w,xs⟩ w'/\cells.length=bs.length/\(∀k cs t,bs[k]? = some (cs,t)->∃new,cells[k]? = some (.agg new)/\w'.heap[ep xs k]? = some (.cells new t))/\Q (.agg (v::cells).toArray):=by
  refine GS (n:=0) hf hb ?_;have hC:=T1 (W:=⟨w,xs⟩) (R:=λ_ => {state := .ready,pending:=none,fn:=0,tmps := #[],params := #[],assign := .skip,body := .skip,defers:=0}) (ρ:=ρ) (args:=args) (n:=fn.ntmps) (c:=c) (w:=w) ga.1 ga.2 hw hc h0 hlen tF rfl (dT.refl ⟨w,xs⟩) hx;refine EA hG (He hG hm) n none _ b _ _ ρ h _ _ none 0 (ep xs) _ w hC ?_ rfl _ ?_
  · intro k args s K' ρ hy;exact hy.elim
  intro e s ah an a' w' hk kO h1 h2 h3 fb
  have fin:=JJ hG (c0:=c) (dL:=ρ) (bE:=ep xs) (λc2 EB K2 aB hx g1 g2 m2 bc a2 w2 g3 g4 Q2 g5=>EA hG (He hG hm) n none _ c2 EB K2 aB hx _ _ none m2 bc a2 w2 g4 (λk args s K' ρ hy=>hy.elim) rfl Q2 g5) hk h1 h2 h3 fb kO 0
    (T:=λe w'=>(∃v,e=.panicked [{v:=v,recovered:=false}]/\dT ⟨w,xs⟩ w'/\QP w' v)∨∃v cells,e=.returned v/\dT ⟨w,xs⟩ w'/\cells.length=bs.length/\(∀k cs t,bs[k]? = some (cs,t)->∃new,cells[k]? = some (.agg new)/\w'.heap[ep xs k]? = some (.cells new t))/\Q (.agg (v::cells).toArray))
    (λv s2 aB bc w2 jr tE BC q1 q2 q3 dX=>by
      right;simp only [PA]at jr;split at jr
      · rename_i ll hg;split at jr
        · rename_i lN;simp only [Bool.and_eq_true]at lN;obtain⟨lN,Ab⟩:=lN
          have kR:∀k,k<(bs.map Prod.snd).length->bc k=ep xs k:=λk hk=>by
            have Ra:k<c.nk:=Nat.lt_of_lt_of_le (by simpa using hk) h0;exact (q3 k (Nat.lt_of_lt_of_le Ra h1.k)).trans (h3 k Ra)
          have rn:∀ {k0:Nat} {ts:List TypeId} {ll:List (List At)},qX (c9 s2.m ((List.range bs.length).map (fun k=>At.loc k 0)++(nL v).flatMap CV.cells)) k0 ts=some ll ->
              ll.length=ts.length/\∀k t,ts[k]? = some t->∃gS,ll[k]? = some gS/\getM s2.m (k0+k)=some (gS,t):=by
            intro k0 ts
            induction ts generalizing k0 with
            |nil=>intro ll h;simp only [qX,Option.some.injEq]at h;subst h;exact⟨rfl,λk t h=>by simp at h⟩
            |cons t0 r ih =>
              intro ll h;simp only [qX]at h;split at h
              · rename_i cs t' l' g1 g2;split at h
                · rename_i he;simp only [Option.some.injEq]at h;subst h;obtain⟨i1,i2⟩:=ih g2;refine⟨by simp [i1],λk t hk => ?_⟩;cases k with
                  |zero =>
                    simp only [List.getElem?_cons_zero,Option.some.injEq]at hk;subst hk;exact⟨cs,rfl,by rw [Nat.add_zero,KE g1,he]⟩
                  |succ k =>
                    obtain⟨gS,j1,j2⟩:=i2 k t (by simpa using hk);exact⟨gS,by simpa using j1,by rw [show k0+(k+1)=k0+1+k by omega];exact j2⟩
                · cases h
              · cases h
          obtain⟨i1,i2⟩:=rn hg;refine⟨_,ll.map λcs=>Value.agg (cs.map (At.den aB (ep xs))).toArray,rfl,dX.below, ?_,λk cs t lV => ?_, ?_⟩
          rotate_right
          · rw [SV.bn aB bc b0 lN];exact jr
          · simpa using i1
          · obtain⟨gS,j1,j2⟩:=i2 k t (by rw [List.getElem?_map,lV];rfl);rw [Nat.zero_add]at j2
            have yK:k<(bs.map Prod.snd).length:=by
              have:=(List.getElem?_eq_some_iff.1 lV).1
              simpa using this
            have hh:=(dX.fix (k:=k) j2).2;rw [kR k yK]at hh;refine⟨(gS.map (At.den aB (ep xs))).toArray,by rw [List.getElem?_map,j1];rfl, ?_⟩
            have e2:gS.map (At.den aB bc)=gS.map (At.den aB (ep xs)):=List.map_congr_left λy hy =>
              KF kR (List.all_eq_true.1 (List.all_eq_true.1 Ab gS (List.mem_of_getElem? j1)) y hy)
            rw [<-e2];exact hh
        · exact jr.elim
      · exact jr.elim)
    (λi s2 aB bc w2 jr hi q1 q2 q3 dX=>.inl ⟨_,rfl,dX.below,jr w2 dX.below⟩)
  cases e with
  |normal=>exact fin.2
  |ret=>exact fin.2
  |exit id=>exact (fin.1 id rfl).elim
  |j4 i=>exact fin.2
end Vc
set_option linter.unusedVariables false
namespace Vc
open Go Go.RowKit
def aH(is:List Int)(bs:List Bool)(vs:List OV)(ps:List (Nat × Nat))(ss:List (List UInt8) := [])(ls:List (List OV) := []):Env :=
 ⟨λj=>is.getD j 0,λj=>bs.getD j false,λj=>vs.getD j ⟨.nilFunc,rfl⟩,λj=>ps.getD j (0,0),λj=>ss.getD j [],λj=>ls.getD j []⟩
def lQ(P:Program)(l:List FuncId):Bool :=
  l.all λf=>match P.funcs[f]? with
    |some fn => (fn.name != "runtime.NumGoroutine") && fn.body.isSome
    |none=>false
theorem Hf{P:Program}{l:List FuncId}(h:lQ P l=true){f:FuncId}(hf:l.contains f=true)(args:Array Value)(w:World):(callFunc f args).run P w=.ok (.enter f args) w:=by
  have:=List.all_eq_true.1 h f (List.contains_iff_mem.1 hf)
  cases hp:P.funcs[f]? with
  |none=>simp [hp]at this
  |some fn =>
    simp only [hp,Bool.and_eq_true,bne_iff_ne,ne_eq]at this;obtain⟨h1,h2⟩:=this;have h3:fn.body.isNone=false:=by cases hb:fn.body<;>simp_all
    have h4:fn.body≠none:=by intro he;rw [he]at h2;cases h2
    simp [callFunc,hp,h1,h4]
structure oY(P:Program)(calls ext inl:List FuncId):Prop where
 calls:lQ P calls=true
 inl:lQ P inl=true
 mix:P.follows .mixedOrders=true
theorem oY.ok{P:Program}{calls ext inl:List FuncId}(h:oY P calls ext inl)(loops:List (Nat × LH))(aZ:List (Nat × List At × TypeId)):(⟨P,calls,ext,inl,loops,aZ,[],[]⟩:bW).Ok :=
 ⟨λf hf args w=>Hf h.calls hf args w,λf hf args w=>Hf h.inl hf args w,λe he=>absurd he (by simp)⟩
theorem oY.UU{P:Program}{calls ext inl:List FuncId}(h:oY P calls ext inl)(loops:List (Nat × LH))(aZ:List (Nat × List At × TypeId))(jR:List fZ)(hs:∀e∈jR,∀(A:b_ (Env->Prop)) (yl:Yl (Env->Prop)) (K:Ex->St->Env->Prop) (K':SV->St->Env->Prop),mU A ⟨P,calls,ext,inl,loops,aZ,jR,[]⟩ (exec A ⟨P,calls,ext,inl,loops,aZ,jR,[]⟩ e.n) yl K e.f e.args e.s K'=j_ A e.asks (K' e.v e.s')):(⟨P,calls,ext,inl,loops,aZ,jR,[]⟩:bW).Ok :=
 ⟨λf hf args w=>Hf h.calls hf args w,λf hf args w=>Hf h.inl hf args w,hs⟩
theorem zc{c:aw}{ρ:Env}:cd.wf [] c/\cd.den [] ρ:=⟨λx h=>(by cases h),λx h=>(by cases h)⟩
theorem zo{x:Kn}{k:cd}{c:aw}{ρ:Env}(h1:x.wf c=true)(h2:x.den ρ)(h:cd.wf k c/\cd.den k ρ):cd.wf (x::k) c/\cd.den (x::k) ρ :=
 ⟨λy hy=>(List.mem_cons.1 hy).elim (λe=>e▸h1) (h.1 y),λy hy=>(List.mem_cons.1 hy).elim (λe=>e▸h2) (h.2 y)⟩
theorem aR.mono{P:Program}{f:FuncId}{args:Array Value}{w:World}{v v':Value}(h:Calls P f args w (aR v w))(e:v=v'):Calls P f args w (aR v' w):=e▸h
def kg:Code->Code
 | .seq a _=>a
 |c=>c
def aG:Code->Code
 | .seq _ b=>b
 |c=>c
def E0 {R : Type} (A : b_ R) : Yl R := λ_ _ _ _ => A.fail "yield"
def E1{R:Type}(A:b_ R)(G:bW)(n:Nat)(fn:Func):Ex->St->R:=λe s =>
  leave A G (exec A G n none λ_ _ _ _ => A.fail "yield") fn e s (λv s2 => A.fin v (c9 s2.m ((nL v).flatMap CV.cells)) (eI s2.o ((nL v).flatMap CV.cells))) λi _ => A.x_ i
theorem Ak{R:Type}{A:b_ R}{G:bW}{n:Nat}{yl:Yl R}{c:Code}{S S':St}{W:R->R}{K:Ex->St->R}(hc:c=.seq (kg c) (aG c))
  (hp:∀K,exec A G n none yl (kg c) S K=W (K .normal S')):exec A G (n+1) none yl c S K=W (exec A G n none yl (aG c) S' K):=by
 generalize kg c=x at hc hp;generalize aG c=y at hc ⊢;subst hc;exact hp _
abbrev rd(w:World)(p:Nat × Nat)(x m k:Nat)(v:Value):Prop:=w.cell? ⟨p.1,p.2+x*m+k,none⟩=some v
theorem za{P:Program}{calls ext inl:List FuncId}(B:oY P calls ext inl)(loops:List (Nat × LH))(aZ:List (Nat × List At × TypeId))(n:Nat){f:FuncId}{fn:Func}{b:Code}(hf:P.funcs[f]? = some fn)(hb:fn.body=some b)
  (args:List SV) (c:aw) (kn:cd) (ρ:Env) {ot:Array Value} (ha:(args.map (SV.den ρ b0)).toArray=ot) (ga:cd.wf kn c/\cd.den kn ρ) (hw:args.all (SV.wf c)=true) {w:World} {v:Value} {p:Prop}
  (he:tx (PA P ⟨w,[]⟩ (λu=>u=v) (λ_ _=>False) (λ_ _=>False)) ⟨P,calls,ext,inl,loops,aZ,[],[]⟩ n fn b args c kn ρ=p) (h:p):Calls P f ot w (aR v w):=by
 subst ha;refine (Q9 (G:=⟨P,calls,ext,inl,loops,aZ,[],[]⟩) (B.ok loops aZ) B.mix hf hb n ga hw (Eq.mpr he h)).mono λe w' he => ?_;rcases he with ⟨u,h1,h2,h3⟩|⟨u,h1,h2,h3⟩
 ·rcases h3 with rfl|h3
  ·exact⟨h1,h2⟩
  ·exact h3.elim
 ·exact h3.elim
theorem KG{P:Program}{calls ext inl:List FuncId}(B:oY P calls ext inl)(loops:List (Nat × LH))(aZ:List (Nat × List At × TypeId))(jR:List fZ)(hs:∀e∈jR,∀(A:b_ (Env->Prop)) (yl:Yl (Env->Prop)) (K:Ex->St->Env->Prop) (K':SV->St->Env->Prop),mU A ⟨P,calls,ext,inl,loops,aZ,jR,[]⟩ (exec A ⟨P,calls,ext,inl,loops,aZ,jR,[]⟩ e.n) yl K e.f e.args e.s K'=j_ A e.asks (K' e.v e.s'))(n:Nat){f:FuncId}{fn:Func}{b:Code}(hf:P.funcs[f]? = some fn)(hb:fn.body=some b)
  (args:List SV) (c:aw) (kn:cd) (ρ:Env) {ot:Array Value} (ha:(args.map (SV.den ρ b0)).toArray=ot) (ga:cd.wf kn c/\cd.den kn ρ) (hw:args.all (SV.wf c)=true) {w:World} {v:Value} {p:Prop}
  (he:tx (PA P ⟨w,[]⟩ (λu=>u=v) (λ_ _=>False) (λ_ _=>False)) ⟨P,calls,ext,inl,loops,aZ,jR,[]⟩ n fn b args c kn ρ=p) (h:p):Calls P f ot w (aR v w):=by
 subst ha;refine (Q9 (G:=⟨P,calls,ext,inl,loops,aZ,jR,[]⟩) (B.UU loops aZ jR hs) B.mix hf hb n ga hw (Eq.mpr he h)).mono λe w' he => ?_;rcases he with ⟨u,h1,h2,h3⟩|⟨u,h1,h2,h3⟩
 ·rcases h3 with rfl|h3
  ·exact⟨h1,h2⟩
  ·exact h3.elim
 ·exact h3.elim
theorem E2{P:Program}{calls ext inl:List FuncId}(B:oY P calls ext inl)(loops:List (Nat × LH))(aZ:List (Nat × List At × TypeId))(n:Nat){f:FuncId}{fn:Func}{b:Code}(hf:P.funcs[f]? = some fn)(hb:fn.body=some b)
    (args:List SV) (cs:List At) (t:TypeId) (c:aw) (kn:cd) (ρ:Env) {x:Nat} {ot fh:Array Value} (ha:(args.map (SV.den ρ (ep [x]))).toArray=ot) (ho:(cs.map (At.den ρ (ep [x]))).toArray=fh) (ga:cd.wf kn c/\cd.den kn ρ) (hw:args.all (SV.wf c)=true) (hc:cs.all (At.wf c)=true) (h0:0<c.nk)
    {w:World} {v:Value} {new:Array Value} {p:Prop} (he:sq (PA P ⟨w,[x]⟩ (λu=>u=.agg #[v,.agg new]) (λ_ _=>False) (λ_ _=>False)) ⟨P,calls,ext,inl,loops,aZ,[],[]⟩ n fn b args [(cs,t)] c kn ρ=p)
    (hx:w.heap[x]? = some (.cells fh t)) (h:p):Calls P f ot w (f_ v x new t w):=by
  subst ha ho;refine (Q_ (G:=⟨P,calls,ext,inl,loops,aZ,[],[]⟩) (B.ok loops aZ) B.mix hf hb n ga hw (bs := [(cs,t)]) (xs := [x]) (by simpa using hc) h0 rfl (by simp) (λk gS t' hk => ?_) (Eq.mpr he h)).mono λe w' he => ?_
  · cases k with
    |zero =>
      simp only [List.getElem?_cons_zero,Option.some.injEq,Prod.mk.injEq]at hk;obtain⟨rfl,rfl⟩:=hk;exact hx
    |succ k=>simp at hk
  · rcases he with ⟨_,_,_,he⟩|he
    · exact he.elim
    obtain⟨u,cells,h1,h2,h3,h4,h5⟩:=he;obtain⟨n',h6,h7⟩:=h4 0 cs t rfl
    match cells,h3 with
    | [cell],_ =>
      simp only [List.getElem?_cons_zero,Option.some.injEq]at h6;subst h6;simp only [Value.agg.injEq]at h5;have h8:=congrArg Array.toList h5;simp only [List.cons.injEq,Value.agg.injEq,and_true]at h8;obtain⟨rfl,rfl⟩:=h8;exact⟨h1,h2,h7⟩
theorem Hg{P:Program}{calls ext inl:List FuncId}(B:oY P calls ext inl)(loops:List (Nat × LH))(aZ:List (Nat × List At × TypeId))(n:Nat){f:FuncId}{fn:Func}{b:Code}(hf:P.funcs[f]? = some fn)(hb:fn.body=some b)
    (args:List SV) (cs:List At) (t:TypeId) (c:aw) (kn:cd) (ρ:Env) {x:Nat} {ot fh:Array Value} (ha:(args.map (SV.den ρ (ep [x]))).toArray=ot) (ho:(cs.map (At.den ρ (ep [x]))).toArray=fh) (ga:cd.wf kn c/\cd.den kn ρ) (hw:args.all (SV.wf c)=true) (hc:cs.all (At.wf c)=true) (h0:0<c.nk)
    {w:World} {v:Value} {p:Prop} (he:sq (PA P ⟨w,[x]⟩ (λ_=>False) (λ_ _=>False) (λ_ u=>u=v)) ⟨P,calls,ext,inl,loops,aZ,[],[]⟩ n fn b args [(cs,t)] c kn ρ=p)
    (hx:w.heap[x]? = some (.cells fh t)) (h:p):Calls P f ot w (jU v [x] w):=by
  subst ha ho;refine (Q_ (G:=⟨P,calls,ext,inl,loops,aZ,[],[]⟩) (B.ok loops aZ) B.mix hf hb n ga hw (bs := [(cs,t)]) (xs := [x]) (by simpa using hc) h0 rfl (by simp) (λk gS t' hk => ?_) (Eq.mpr he h)).mono λe w' he => ?_
  · cases k with
    |zero =>
      simp only [List.getElem?_cons_zero,Option.some.injEq,Prod.mk.injEq]at hk;obtain⟨rfl,rfl⟩:=hk;exact hx
    |succ k=>simp at hk
  · rcases he with ⟨u,h1,h2,h3⟩|⟨_,_,_,_,_,_,he⟩
    · subst h3;have h2:bg x w w':=h2;exact⟨h1,h2.os,h2.tape,h2.output,h2.size,λk hk hn=>h2.block k hk λe=>hn (by simp [e])⟩
    · exact he.elim
def t_:List Nat->List (Array Value × TypeId)->World->Prop
 |x::xs,b::bs,w=>w.heap[x]? = some (.cells b.1 b.2)/\t_ xs bs w
 | [],[],_=>True
 |_,_,_=>False
theorem t_.get{w:World}:∀{xs:List Nat} {bs:List (Array Value × TypeId)},t_ xs bs w->xs.length=bs.length/\∀k b,bs[k]? = some b->w.heap[ep xs k]? = some (.cells b.1 b.2)
  | [],[],_=>⟨rfl,λk b h=>by simp at h⟩
  |x::xs,b::bs,h=>by
    obtain⟨h1,h2⟩:=t_.get h.2;refine⟨by simp [h1],λk b' hk => ?_⟩;cases k with
    |zero =>
      simp only [List.getElem?_cons_zero,Option.some.injEq]at hk;subst hk;exact h.1
    |succ k=>exact h2 k b' (by simpa using hk)
theorem mq(x:Int):IntKind.i64.wrap x=(x+9223372036854775808) % 18446744073709551616-9223372036854775808:=by
 unfold IntKind.wrap;simp only [IntKind.bits,IntKind.signed];simp;split<;>omega
theorem aL(x:Int):IntKind.u64.wrap x=x % 18446744073709551616:=by
 simp [IntKind.wrap,IntKind.bits,IntKind.signed]
theorem zk{x:Int}(h:-9223372036854775808<=x/\x<=9223372036854775807):IntKind.i64.wrap x=x:=by rw [mq];omega
end Vc
