import Derived.Test.YtocleppbcngcjaaGreatDoorVcR
import Derived.OrdersIn
import Derived.StillTail
set_option linter.unusedVariables false
set_option linter.unusedSimpArgs false
namespace Vc
open Go Go.RowKit
variable {P:Program} {W:dR} {R:Nat->Loop} {Z:List Nat} {ops:Array Oper} {n:Nat} {U:Env} {sts:Nat->St} {gj:Nat->SV} {cs:Nat->List Nat} {rd wr:List (Nat × Nat)}
theorem KU(hw:Way P W ops n U sts gj cs rd wr)(hd:dH ops=true){a0 a:Act}{bu β ak:Nat->Nat}{w w' w0:World}(wo:Core W R Z U bu (sts 0) a0 w0){listed:Array Bool}(inv:Inv W R Z ops n U sts cs a0 bu listed a w β){i:Nat}{o:Oper}(hi:i < n)(ho:ops[i]? = some o)
    (fb:listed.getD i false=false) (hr:∀e∈o.after,Region.binds .any e=true->listed.getD e.on false=true) {s1:St} (hk:oV U (sts i) s1) (lj:Da s1 o (sts (i+1)) (gj i) (cs i)) {val:Value} (dA:gj i ≠ .any->val=(gj i).den U ak)
    (uJ:zG W s1 (sts (i+1)) U (cs i) β ak w w') (gw:∀k∈cs i,cut n sts cs listed k i)
    (jG:∀k e',(k∈cs i∨s1.c.nk<=k)->aE (sts (i+1)).m (sts (i+1)).o k=some e'->∀x∈dS e',∀m,m<n->laid sts m x->listed.getD m false=true) :
    Inv W R Z ops n U sts cs a0 bu (listed.setIfInBounds i true) (a.put o.dst val) w' ak:=by
  have xz:i<ops.size:=Nat.lt_of_lt_of_le hi hw.le;have rT:i<listed.size:=by rw [inv.qx];exact xz
  obtain⟨kc,km,kn,ko,kr,kd⟩:=hk.c;have kS:∀m,i≠m->(listed.setIfInBounds i true).getD m false=listed.getD m false:=λm hm=>by rw [zO listed i m rT,if_neg hm]
  have KV:(listed.setIfInBounds i true).getD i false=true:=by rw [zO listed i i rT,if_pos rfl]
  have zQ:∀m,listed.getD m false=true->(listed.setIfInBounds i true).getD m false=true:=λm hm=>by
    rw [zO listed i m rT];split
    · rfl
    · exact hm
  have rN:∀k,¬laid sts i k->ak k=β k:=λk hk=>uJ.off k (by rw [kc];exact hk);have A2:∀k e,k∈cs i->aE s1.m s1.o k=some e->Holds W U β k e w:=λk e AY hg=>inv.mem k i (by omega) (gw k AY) e (by rw [km,ko]at hg;exact hg)
  have wq:∀{k j},tf sts cs i k->j<=n->cut n sts cs (listed.setIfInBounds i true) k j->aE (sts j).m (sts j).o k=aE (sts (i+1)).m (sts (i+1)).o k:=by
    intro k j ht hj hcut;have qy:i<j:=(hcut i hi ht).2 KV;refine hw.chain j (i+1) (by omega) hj λm a1 a2 xA => ?_;have kA:m<n:=by omega
    have ye:=(hcut m kA xA).1 a2;rw [kS m (by omega)]at ye
    have no:∀h:reach ops 3 m i=true,False:=λh=>by
      rw [later inv fb (Nat.lt_of_lt_of_le kA hw.le) h]at ye;cases ye
    have tU:=hw.nk m (i+1) a1 (by omega);have V0:=hw.nk (i+1) i (by omega) (by omega);rcases ht with hc|hl<;>rcases xA with iI|fX
    · obtain⟨b1,_,_⟩:=hw.cls hi hc;obtain⟨c1,_,_⟩:=hw.cls kA iI;rcases hw.apart k m i (.inr c1) b1 with rfl|⟨_,d2⟩|⟨d1,_⟩
      · omega
      · rw [E3 inv fb (Nat.lt_of_lt_of_le kA hw.le) d2]at ye;cases ye
      · omega
    · have:=(hw.cls hi hc).2.1
      have:=fX.1
      omega
    · exact no ((hw.cls kA iI).2.2 i (by omega) hl)
    · have:=hl.2
      have:=fX.1
      omega
  have told:∀{k},tf sts cs i k->k∈cs i∨s1.c.nk<=k:=λht=>by
    rcases ht with h|h
    · exact .inl h
    · rw [kc];exact .inr h.1
  have wu:∀{k j},¬tf sts cs i k->cut n sts cs (listed.setIfInBounds i true) k j->cut n sts cs listed k j:=λ{k j} ht hcut m hm RQ=>by
    have:=hcut m hm RQ
    rwa [kS m (λe=>ht (e▸RQ))]at this
  have tg:∀{k j e},¬tf sts cs i k->j<=n->aE (sts j).m (sts j).o k=some e->∀x∈dB k e,ak x=β x:=by
    intro k j e ht hj hg x hx;refine rN x λhl => ?_;cases e with
    |fix c t =>
      simp only [dB,List.mem_singleton]at hx;subst hx;exact ht (.inr hl)
    |row ce sz t =>
      have bj:=hw.rows j hj k ce sz t hg i hi;simp only [dB,List.mem_cons,List.not_mem_nil,or_false]at hx
      have:∃d,d<4/\x=k+d:=by
        rcases hx with rfl|rfl|rfl|rfl
        · exact⟨0,by omega,rfl⟩
        · exact⟨1,by omega,rfl⟩
        · exact⟨2,by omega,rfl⟩
        · exact⟨3,by omega,rfl⟩
      obtain⟨d,h1,rfl⟩:=this;exact ht (.inr (bj d h1 hl))
  have E4:∀{k j e},¬tf sts cs i k->j<=n->cut n sts cs listed k j->aE (sts j).m (sts j).o k=some e->∀b,bD β k e=some b->w'.heap[b]? = w.heap[b]? := by
    intro k j e ht hj hcut hg b hb;have hl:=(inv.mem k j hj hcut e hg).vI b hb;refine uJ.frame b hl.2.1 λk0 e0 oa ji gW => ?_;rw [km,ko]at ji
    have:=inv.inj k k0 j i hj (by omega) hcut (gw k0 oa) e e0 b hg ji hb gW
    exact ht (.inl (this▸oa))
  have E5:=hw.step hi ho;have fW:a.tmps.size=(sts i).n:=by rw [(hw.n0 i (by omega)).1];exact inv.size
  have wy:∀(t:Nat),(a.put o.dst val).tmps[t]? = if o.dst=some t then some val else a.tmps[t]? := λt=>by
    cases jn:o.dst with
    |none=>simp [Act.put]
    |some d =>
      rw [ez t (by rw [fW];exact E5.2.2.2.2.2.2.1 d jn)];simp only [Option.some.injEq]
  refine⟨by simp [inv.qx],λj oj hj hl e he hb => ?_,λj hj=>by rw [kS j (by omega)];exact inv.only j hj,by rw [Jt];exact inv.size,by rw [Ju];exact inv.jF,uJ.below inv.below A2,
    λt j p zR hj oc hl hn => ?_,λt ht => ?_,λk j hj hcut e hg => ?_,λk j hj hcut e hg x hx m hm hl => ?_,λk k' j j' hj ta hcut lr e e' b hg ep hb gg => ?_,λk e hg => ?_,λb hb => ?_,λk hk => ?_⟩
  · rw [zO listed i _ rT]at hl ⊢;by_cases nr:i=e.on
    · rw [if_pos nr]
    · rw [if_neg nr];by_cases qy:i=j
      · subst qy;rw [ho]at hj;cases hj;exact hr e he hb
      · rw [if_neg qy]at hl;exact inv.closed j oj hj hl e he hb
  · rw [wy]
    have eA:eB U (av (sts (j+1)).t t) (av (sts n).t t):=by
      refine hw.same n (j+1) (by omega) (Nat.le_refl _) λm h1 h3 q hq Br => ?_;rcases ((wg hd hq).2 j p hj t oc).1 with h4|h4
      · omega
      · exact h4 Br
    have zS:av (sts (j+1)).t t=gj j:=(hw.step zR hj).2.2.2.2.2.1 t oc;by_cases qy:i=j
    · subst qy;rw [ho]at hj;cases hj;rw [if_pos oc];have h5:gj i ≠ .any:=by rw [<-zS];exact eA.any hn
      rw [dA h5,<-eA.den,zS]
    · rw [kS j qy]at hl
      have cW:o.dst≠some t:=by
        rcases ((wg hd ho).2 j p hj t oc).1 with h4|h4
        · exact (qy h4).elim
        · exact h4
      rw [if_neg cW,inv.s2 t j p zR hj oc hl hn];refine congrArg some (SV.im λy hy=>rN y λRR => ?_).symm;have ue:=eA.ids hy;rw [zS]at ue;have cn:=zP (zS▸(hw.wf (j+1) (by omega)).t t) _ ue;rcases Nat.lt_or_ge i j with a1|a1
      · have:=later inv fb (Array.getElem?_eq_some_iff.1 hj).1 (hw.dst zR hj oc ue a1 RR)
        rw [hl]at this;cases this
      · have:=hw.nk i (j+1) (by omega) (by omega)
        have:=RR.1
        omega
  · have cW:o.dst≠some t:=by
      intro he
      have:=ht i o hi ho he
      rw [KV]at this;cases this
    rw [wy,if_neg cW];refine inv.s3 t λj p zR hj oc => ?_
    have:=ht j p zR hj oc
    by_cases qy:i=j
    · subst qy;rw [KV]at this;cases this
    · rwa [kS j qy]at this
  · by_cases yf:tf sts cs i k
    · rw [wq yf hj hcut]at hg;exact (uJ.new k e (told yf) hg).1
    · have oh:=wu yf hcut;refine (inv.mem k j hj oh e hg).wc (tg yf hj hg) (λx hx=>rN x λhl => ?_) (E4 yf hj oh hg)
      have:=inv.KN k j hj oh e hg x hx i hi hl
      rw [fb]at this;cases this
  · by_cases yf:tf sts cs i k
    · rw [wq yf hj hcut]at hg;exact zQ m (jG k e (told yf) hg x hx m hm hl)
    · exact zQ m (inv.KN k j hj (wu yf hcut) e hg x hx m hm hl)
  · have qp:∀ {k k' j j' e e'},tf sts cs i k->¬ tf sts cs i k'->j<=n->j'<=n->cut n sts cs (listed.setIfInBounds i true) k j->cut n sts cs (listed.setIfInBounds i true) k' j'->aE (sts j).m (sts j).o k=some e->aE (sts j').m (sts j').o k'=some e'->bD ak k e=some b->bD ak k' e'=some b->False:=by
      intro k k' j j' e e' h1 h2 hj ta hcut lr hg ep hb gg;have oh:=wu h2 lr;rw [KL (tg h2 ta ep)]at gg;have hl:=(inv.mem k' j' ta oh e' ep).vI b gg;rw [wq h1 hj hcut]at hg;rcases (uJ.new k e (told h1) hg).2 b hb with h3|⟨k0,e0,h3,h4,h5,_⟩
      · omega
      · rw [km,ko]at h4
        have:=inv.inj k0 k' i j' (by omega) ta (gw k0 h3) oh e0 e' b h4 ep h5 gg
        exact h2 (.inl (this▸h3))
    by_cases h1:tf sts cs i k<;>by_cases h2:tf sts cs i k'
    · rw [wq h1 hj hcut]at hg;rw [wq h2 ta lr]at ep;exact uJ.inj k k' e e' b (told h1) (told h2) hg ep hb gg
    · exact (qp h1 h2 hj ta hcut lr hg ep hb gg).elim
    · exact (qp h2 h1 ta hj lr hcut ep hg gg hb).elim
    · rw [KL (tg h1 hj hg)]at hb;rw [KL (tg h2 ta ep)]at gg;exact inv.inj k k' j j' hj ta (wu h1 hcut) (wu h2 lr) e e' b hg ep hb gg
  · exact uJ.other A2 (inv.ft k e hg) (λh=>h)
  · exact uJ.other A2 (inv.gd b hb) (λh=>h)
  · have:=hw.nk i 0 (by omega) (by omega)
    rw [rN k λhl=>by have:=hl.1;omega];exact inv.agree k hk
theorem KW{r:Option Nat}{mm:Nat}(hw:Way P W ops n U sts gj cs rd wr)(hd:dH ops=true){a0 a:Act}{bu β:Nat->Nat}{w0 w:World}(hC:Core W R Z U bu (sts 0) a0 w0)
    {listed:Array Bool} (inv:Inv W R Z ops n U sts cs a0 bu listed a w β) {i:Nat} {o:Oper} (hi:i<n) (ho:ops[i]? = some o) (fb:listed.getD i false=false) (hr:∀e∈o.after,Region.binds .any e=true->listed.getD e.on false=true)
    {Q':Exit->Act->World->Prop} {K:Act->World->Prop} (hK:∀a' w' ak,Inv W R Z ops n U sts cs a0 bu (listed.setIfInBounds i true) a' w' ak->K a' w'):wpOpIn (Fr r) mm P ops Q' i K a w:=by
  have uK:=hw.wf i (by omega);have yg:=hw.EY i o hi ho
  have next:∀ s1,oV U (sts i) s1->Da s1 o (sts (i + 1)) (gj i) (cs i)->∀ val ak w',(gj i ≠ .any->val=(gj i).den U ak)->zG W s1 (sts (i + 1)) U (cs i) β ak w w'->(∀ k∈cs i,cut n sts cs listed k i) ->
      (∀k e',(k∈cs i∨s1.c.nk<=k)->aE (sts (i+1)).m (sts (i+1)).o k=some e'->∀x∈dS e',∀m,m<n->laid sts m x->listed.getD m false=true)->K (a.put o.dst val) w' :=
    λs1 hk lj val ak w' dA uJ gw jG=>hK _ _ _ (KU hw hd hC inv hi ho fb hr hk lj dA uJ gw jG)
  unfold wpOpIn;simp only [ho];generalize uf:sts (i+1)=s' at yg next
  generalize zS:gj i=sv at yg next
  generalize mJ:cs i=C at yg next
  cases yg with
  |skip s1 k wt p =>
    rw [RM hw hd hC inv hi ho fb hr wt];simp only [Bool.false_eq_true,if_false];refine⟨λf _=>tW r f,next s1 k (RI (k.wf uK) p) undef β w (λ_=>rfl) (Jy (k.wf uK) ?_ (Below.refl _ _)) (λk hk=>by cases hk) ?_⟩
    · obtain⟨q1,q2,q3,q4,q5,q6⟩:=zz s1 o.dst .dF s1.c;rw [q2,q4]
    · intro k' e' gi hg;obtain⟨q1,q2,q3,q4,q5,q6⟩:=zz s1 o.dst .dF s1.c;rcases gi with gi|gi
      · cases gi
      · rw [q2,q4,(k.wf uK).beyond gi]at hg;cases hg
  |run s1 _ _ _ k wt nd f h1 h2 h4 h5 =>
    rw [RM hw hd hC inv hi ho fb hr wt];simp only [if_true];obtain⟨kc,km,kn,ko,kr,kd⟩:=k.c
    have hcut:∀kk∈aU s1 o++aQ s1 o,kk<(sts i).c.nk->cut n sts cs listed kk i:=λkk cC cn =>
      KT hw inv hi ho fb hr cn (by
        rcases List.mem_append.1 cC with h|h
        · exact .inl (h4 kk h)
        · exact .inr (h5 kk h)) λm hm hl=>h1 kk (List.mem_append.2 (.inl cC)) m hm hl
    refine uF r mm nd (f.Qx β a w inv.below (KQ hw hd hC inv hi ho fb hr k) (λkk cC e hg => ?_) (λkk RS e e' b cC KX hg ep hb gg => ?_) K Q' λak v w' hv uJ=>next s1 k f.eK v ak w' hv uJ (λkk cC => ?_) λkk e' cC hg x hx m hm hl => ?_)
    · rw [km,ko]at hg;exact inv.mem kk i (by omega) (hcut kk cC (CU (uK.dU hg))) e hg
    · rw [km,ko]at hg ep;exact inv.inj kk RS i i (by omega) (by omega) (hcut kk (List.mem_append.2 (.inr cC)) (CU (uK.dU hg))) (hcut RS (List.mem_append.2 (.inr KX)) (CU (uK.dU ep))) e e' b hg ep hb gg
    · have:=f.Jw kk cC
      exact hcut kk (List.mem_append.2 (.inr this.1)) (by rw [<-kc];exact this.2)
    · rcases f.ids kk e' cC hg x hx with h|⟨j,e,hj,kU,E6⟩
      · have cn:=VX (k.wf uK) x h;rw [kc]at cn
        have KY:m<i:=by
          rcases Nat.lt_or_ge m i with h'|h'
          · exact h'
          · have:=hw.nk m i h' (by omega)
            have:=hl.1
            omega
        exact Hp inv.closed 3 i m o ho hr (h1 x (List.mem_append.2 (.inr h)) m KY hl)
      · rw [km,ko]at kU;exact inv.KN j i (by omega) (hcut j hj (CU (uK.dU kU))) e kU x E6 m hm hl
theorem KZ(hw:Way P W ops n U sts gj cs rd wr){a0 a:Act}{bu β:Nat->Nat}{w0 w:World}(hC:Core W R Z U bu (sts 0) a0 w0){listed:Array Bool}(inv:Inv W R Z ops n U sts cs a0 bu listed a w β)
  (cf:∀j,j<n->listed.getD j false=true):Core W R Z U β (sts n) a w:=by
 obtain⟨n1,n2,n3,n4⟩:=hw.n0 n (Nat.le_refl _);have hcut:∀k,cut n sts cs listed k n:=λk m hm _=>⟨λ_=>cf m hm,λ_=>hm⟩;have nE:(sts 0).d.map β=(sts 0).d.map bu:=List.map_congr_left λk hk=>inv.agree k (hC.wf.d k hk)
 refine⟨by rw [n1];exact inv.size,λt hn => ?_, ?_,inv.below,λk e hg=>inv.mem k n (Nat.le_refl _) (hcut k) e hg,λk k' e e' b hg ep hb gg=>inv.inj k k' n n (Nat.le_refl _) (Nat.le_refl _) (hcut k) (hcut k') e e' b hg ep hb gg,
  λk e hg => ?_,λk k' e e' hg ep he => ?_,λb hb => ?_, ?_,hw.wf n (Nat.le_refl _),hw.kn hC.kn n (Nat.le_refl _)⟩
 ·by_cases hx:∃(j:Nat) (p:Oper),j<n/\ops[j]? = some p/\p.dst=some t
  ·obtain⟨j,p,hj,hp,oc⟩:=hx;exact inv.s2 t j p hj hp oc (cf j hj) hn
  ·have qz:∀(m:Nat) (o':Oper),m<n->ops[m]? = some o'->o'.dst≠some t:=λm o' kA hm he=>hx ⟨m,o',kA,hm,he⟩;have eA:eB U (av (sts 0).t t) (av (sts n).t t):=hw.same n 0 (by omega) (Nat.le_refl _) λm _ h q hq=>qz m q h hq;rw [inv.s3 t (λm o' kA hm he=>(qz m o' kA hm he).elim),hC.tmps t (eA.any hn),<-eA.den,SV.aa (Env.an _ U) inv.agree (hC.wf.t t)]
 ·rw [n3,inv.jF,hw.df n (Nat.le_refl _),G3 hC.wf.df inv.agree];simp only [marksOf];exact congrArg _ (List.map_congr_left λk hk=>by rw [inv.agree k (hC.wf.d k hk)])
 ·rw [n2]at hg;rw [inv.agree k (hC.wf.r k e hg)];exact⟨(hC.ft k e hg).1,inv.ft k e hg⟩
 ·rw [n2]at hg ep;rw [inv.agree k (hC.wf.r k e hg),inv.agree k' (hC.wf.r k' e' ep)]at he;exact hC.jz k k' e e' hg ep he
 ·rw [n3,nE]at hb;exact⟨(hC.gd b hb).1,inv.gd b hb⟩
 ·rw [n3,nE];exact hC.dn
theorem V1{a0:Act}{bu:Nat->Nat}{w0:World}(hw:Way P W ops n U sts gj cs rd wr)(hC:Core W R Z U bu (sts 0) a0 w0):Inv W R Z ops n U sts cs a0 bu (Array.replicate ops.size false) a0 w0 bu:=by
  have hf:∀j,(Array.replicate ops.size false).getD j false=false:=λj=>by
    rw [Array.getD_eq_getD_getElem?,Array.getElem?_replicate];split<;>rfl
  have h0:∀{k i},i<=n->cut n sts cs (Array.replicate ops.size false) k i->aE (sts i).m (sts i).o k=aE (sts 0).m (sts 0).o k:=λ{k i} hi hcut =>
    hw.chain i 0 (by omega) hi λm _ h2 ht=>by
      have:=(hcut m (by omega) ht).1 h2
      rw [hf m]at this;cases this
  refine⟨by simp,λj oj _ h=>(by rw [hf j]at h;cases h),λj _=>hf j,hC.size,hC.jF,hC.below,λt i o _ _ _ h=>(by rw [hf i]at h;cases h),λ_ _=>rfl,λk i hi hcut e hg => ?_,λk i hi hcut e hg x hx m hm hl => ?_,λk k' i i' hi nj hcut lr e e' b hg ep hb gg => ?_,
    λk e hg=>(hC.ft k e hg).2,λb hb=>(hC.gd b hb).2,λ_ _=>rfl⟩
  · rw [h0 hi hcut]at hg;exact hC.mem k e hg
  · rw [h0 hi hcut]at hg
    have cn:x<(sts 0).c.nk:=by
      have vC:=hC.wf.dU hg;cases e with
      |fix c t=>exact EZ vC.2 x hx
      |row ce sz t =>
        obtain⟨s,hs,pO⟩:=List.mem_flatMap.1 hx
        have:=List.all_eq_true.1 vC.2 s hs
        cases s with
        |bT l=>exact EZ this x pO
        |var i=>cases pO
    have:=hw.nk m 0 (by omega) (by omega)
    have:=hl.1
    omega
  · rw [h0 hi hcut]at hg;rw [h0 nj lr]at ep;exact hC.inj k k' e e' b hg ep hb gg
end Vc
set_option linter.unusedVariables false
namespace Vc
open Go Go.RowKit
variable {P:Program} {W:dR} {Q:Value->Prop} {QM QP:World->Value->Prop} {R:Nat->Loop} {Z:List Nat}
theorem xB(t:List (Nat × SV))(dst:Option Tmp)(v:SV)(d:Nat):av (dQ t dst v) d=if dst=some d then v else av t d:=by
  cases dst with
  |none=>simp [dQ]
  |some x =>
    simp only [dQ,zl];by_cases h:x=d<;>simp [h]
theorem wz(t:List (Nat × SV)):∀(L:List gh) (d:Nat),av (bR t L) d=.any∨(av (bR t L) d=av t d/\∀p∈L,p.dst≠some d)
  | [],d=>.inr ⟨rfl,by simp⟩
  |p::L,d=>by
    simp only [bR];cases hp:p.dst with
    |none =>
      rcases wz t L d with h|⟨h1,h2⟩
      · exact .inl h
      · refine .inr ⟨h1,λq hq => ?_⟩;rcases List.mem_cons.1 hq with rfl|hq
        · rw [hp];simp
        · exact h2 q hq
    |some x =>
      simp only [zl];by_cases hx:x=d
      · exact .inl (if_pos hx)
      · rw [if_neg hx];rcases wz t L d with h|⟨h1,h2⟩
        · exact .inl h
        · refine .inr ⟨h1,λq hq => ?_⟩;rcases List.mem_cons.1 hq with rfl|hq
          · rw [hp];simpa using hx
          · exact h2 q hq
theorem Db(t:List (Nat × SV)):∀(L:List gh) (d:Nat),(∀p∈L,p.dst≠some d)->av (bR t L) d=av t d
  | [],d,_=>rfl
  |p::L,d,h=>by
    simp only [bR];have h2:=Db t L d λq hq=>h q (List.mem_cons_of_mem _ hq);cases hp:p.dst with
    |none=>exact h2
    |some x =>
      have:x≠d:=λe=>h p (by simp) (by rw [hp,e])
      simp only [zl];rw [if_neg this];exact h2
theorem Hu(a:Act)(dst:Option Tmp)(v:Value)(i:Nat)(hd:∀d,dst=some d->d<a.tmps.size):(a.put dst v).tmps[i]? = if dst=some i then some v else a.tmps[i]? := by
  cases dst with
  |none=>simp [Act.put]
  |some d =>
    have:=hd d rfl
    simp only [Act.put,Option.some.injEq];by_cases h:d=i
    · subst h;rw [if_pos rfl];simp [this]
    · rw [if_neg h];exact Array.getElem?_setIfInBounds_ne h
theorem Hv(a:Act)(dst:Option Tmp)(v:Value):(a.put dst v).tmps.size=a.tmps.size:=by
 cases dst<;>simp [Act.put]
theorem RT(a:Act)(dst:Option Tmp)(v:Value):(a.put dst v).defers=a.defers:=by
 cases dst<;>rfl
theorem K0{U:Env}{β:Nat->Nat}{st:St}{a a':Act}{w w':World}(hC:Core W R Z U β st a w)(hB:Below w.heap.size w w')(hs:a'.tmps.size=a.tmps.size)(pP:a'.defers=a.defers){t:List (Nat × SV)}(ht:∀i,(av t i).wf st.c=true)
  (xA:∀i,av t i ≠ .any->a'.tmps[i]? = some ((av t i).den U β)):Core W R Z U β {st with t:=t} a' w':=by
 refine⟨hs.trans hC.size,xA,pP.trans hC.jF,hC.below.trans hB,λk e hg=>(hC.mem k e hg).cA (hC.wf.dU hg) (Env.an _ _) (λ_ _=>rfl) λb hb=>hB.block b ((hC.mem k e hg).vI b hb).2.1,hC.inj,λk e hg=>⟨(hC.ft k e hg).1, ?_⟩,hC.jz,λb hb=>⟨(hC.gd b hb).1, ?_⟩,hC.dn,⟨ht,hC.wf.m,hC.wf.o,hC.wf.ap,hC.wf.r,hC.wf.d,hC.wf.k,hC.wf.df⟩,hC.kn⟩
 ·rw [hB.block _ (bM (hC.ft k e hg).2)];exact (hC.ft k e hg).2
 ·rw [hB.block _ (bM (hC.gd b hb).2)];exact (hC.gd b hb).2
structure mU(P:Program)(W:dR)(ops:Array Oper)(rem:List Nat)(listed:Array Bool)(st:St)(U:Env)(β:Nat->Nat)(a:Act)(p:gh):Prop where
 dst:∃o,ops[p.j]? = some o/\o.dst=p.dst
 out:p.j ∉ rem
 slot:∀d,p.dst=some d->d<st.n
 pre:∀j∈cT ops p.j,j ∉ rem
 run:listed.getD p.j false=false->∃(o:Oper) (eK:St) (v:SV) (b:Bool),ops[p.j]? = some o/\eK.WF/\eK.c.le st.c/\bV.den eK.k U/\(∀d,p.dst=some d->av st.t d=v)/\(∀c,o.op ≠ .defer c)/\dp ops U eK o b /\
  (∀d∈o.looksAt ops,(∀j oj,ops[j]? = some oj->oj.dst=some d->j∈cT ops p.j->av eK.t d=av st.t d) /\
   ((∃j oj,ops[j]? = some oj/\oj.dst=some d/\j∈cT ops p.j/\listed.getD j false=false)∨(av eK.t d ≠ .any->a.tmps[d]? = some ((av eK.t d).den U β)))) /\
  (b=false->v=.dF) /\
  (b=true->(∀J,Env.ay st.c U J->bB P W eK o v J)/\∀k∈aU eK o,k∈p.rd/\aE eK.m eK.o k=aE st.m st.o k) /\
  (∀q,p.ld=some q->∃t x,o.op=.load t x/\eK.ev x=.cv (.one (.loc q.1 q.2.1))/\aH P t=some (q.2.2.1,q.2.2.2))
structure qC(P:Program)(W:dR)(R:Nat->Loop)(Z:List Nat)(ops:Array Oper)(rem:List Nat)(st:St)(L:List gh)(U:Env)(listed:Array Bool)(β:Nat->Nat)(a:Act)(w:World):Prop where
 size:listed.size=ops.size
 Dc:∀j o,ops[j]? = some o->listed.getD j false=true->∀e∈o.after,Region.binds .any e=true->listed.getD e.on false=true
 tK:∀j,listed.getD j false=true->j ∉ rem
 E7:∀j,j<ops.size->j ∉ rem->listed.getD j false=true∨∃p∈L,p.j=j
 yi:∀p∈L,mU P W ops rem listed st U β a p
 tw:∀i,(av st.t i).wf st.c=true
 core:Core W R Z U β {st with t:=bR st.t (L.filter λp => !listed.getD p.j false)} a w
theorem Dd{ops:Array Oper}{i j:Nat}{o:Oper}(ho:ops[i]? = some o):j∈cT ops i↔∃e∈o.after,Region.binds .any e=true/\e.on=j:=by
 unfold cT;rw [ho];simp only [List.mem_map,List.mem_filter];constructor
 ·rintro ⟨e,⟨h1,h2⟩,rfl⟩;exact⟨e,Array.mem_toList_iff.1 h1,h2,rfl⟩
 ·rintro ⟨e,h1,h2,rfl⟩;exact⟨e,⟨Array.mem_toList_iff.2 h1,h2⟩,rfl⟩
theorem RU{ops:Array Oper}{i j:Nat}(h:direct ops i j=true):j∈cT ops i:=by
  unfold direct at h;cases ho:ops[i]? with
  |none=>rw [ho]at h;cases h
  |some o =>
    rw [ho]at h;simp only [Array.any_eq_true',Bool.and_eq_true,decide_eq_true_eq]at h;obtain⟨e,he,hb,rfl⟩:=h;exact (Dd ho).2 ⟨e,he,hb,rfl⟩
theorem K1{ops:Array Oper}(hd:dH ops=true){i j d:Nat}{o p:Oper}(ho:ops[i]? = some o)(hp:ops[j]? = some p)(qY:p.dst=some d)(hl:d∈o.looksAt ops):j∈cT ops i∨i∈cT ops j:=by
 rcases ((wg hd ho).2 j p hp d qY).2 hl with ⟨_,h⟩|⟨_,h⟩
 ·exact .inl (RU h)
 ·exact .inr (RU h)
theorem K4{ops:Array Oper}(hd:dH ops=true){i j d:Nat}{o p:Oper}(ho:ops[i]? = some o)(hp:ops[j]? = some p)(oW:o.dst=some d)(qY:p.dst=some d):i=j :=
 ((wg hd ho).2 j p hp d qY).1.resolve_right λh=>h oW
theorem K5{ops:Array Oper}{o:Oper}{eK:St}{U:Env}{β:Nat->Nat}{a:Act}(eR:bV.den eK.k U)(h:∀d∈o.looksAt ops,av eK.t d ≠ .any->a.tmps[d]? = some ((av eK.t d).den U β)):dD eK o U β a:=by
  intro x hx hn;cases x with
  |tmp t =>
    have:=h t (by
      simp only [Oper.looksAt,List.mem_append];exact .inl (List.mem_filterMap.2 ⟨.tmp t,Array.mem_toList_iff.2 hx,rfl⟩)) hn
    show a.tmps.getD t undef=_;rw [Array.getD_eq_getD_getElem?,this,Option.getD_some];rfl
  |const v=>exact ((SV.cu v eK.c U β).2 hn).symm
  |global g=>exact Jv eR hn β
  |func f=>rfl
theorem RW{ops:Array Oper}{o:Oper}{eK:St}{U:Env}{β:Nat->Nat}{a:Act}{b:Bool}(hb:dp ops U eK o b)(h:∀d∈o.looksAt ops,av eK.t d ≠ .any->a.tmps[d]? = some ((av eK.t d).den U β)):Region.wanted o (yielded ops a.tmps)=b:=by
  unfold dp at hb;cases hg:o.guard with
  |none=>rw [hg]at hb;simp only at hb;subst hb;simp [Region.wanted,hg]
  |some jw =>
    obtain⟨j,want⟩:=jw;rw [hg]at hb;obtain⟨x,hx,hb⟩:=hb
    have qB:x∈o.looksAt ops:=by
      simp only [Oper.looksAt,hg,List.mem_append];exact .inr (by simp [hx])
    rcases hb with ⟨e,he,hb⟩|⟨he,rfl⟩
    · have:=h x qB (by rw [he];simp)
      rw [he]at this;have hy:=J4 (b:=e.den U) hx this;simp only [Region.wanted,hg,hy];exact hb
    · have:=h x qB (by rw [he];simp)
      rw [he]at this;have hy:=J5 hx this;simp [Region.wanted,hg,hy]
theorem RX{ops:Array Oper}(hd:dH ops=true){rem:List Nat}{st:St}{L:List gh}{U:Env}{listed:Array Bool}{β:Nat->Nat}{a:Act}{w:World}(inv:qC P W R Z ops rem st L U listed β a w){p:gh}(hp:p∈L)
    (fb:listed.getD p.j false=false) (hr:∀j∈cT ops p.j,listed.getD j false=true) {r:Option Nat} {mm:Nat} {Q':Exit->Act->World->Prop} {K:Act->World->Prop}
    (hK:∀a' w',qC P W R Z ops rem st L U (listed.setIfInBounds p.j true) β a' w'->K a' w'):wpOpIn (Fr r) mm P ops Q' p.j K a w:=by
  have fp:=inv.yi p hp;obtain⟨o,eK,v,b,ho,Zi,Zj,V2,hv,nd,hw,hl,gW,fy,_⟩:=fp.run fb;have oW:o.dst=p.dst:=by obtain⟨o',h1,h2⟩:=fp.dst;rw [ho]at h1;cases h1;exact h2
  have Az:p.j<ops.size:=(Array.getElem?_eq_some_iff.1 ho).1;have ti:p.j<listed.size:=by rw [inv.size];exact Az
  have now:∀d∈o.looksAt ops,av eK.t d ≠ .any->a.tmps[d]? = some ((av eK.t d).den U β):=λd qZ hn=>by
    rcases (hl d qZ).2 with ⟨j,oj,_,_,h3,h4⟩|h
    · rw [hr j h3]at h4;cases h4
    · exact h hn
  have fW:∀d,o.dst=some d->d<a.tmps.size:=λd pR=>by rw [inv.core.size];exact fp.slot d (by rw [<-oW];exact pR)
  have rU:∀j,(listed.setIfInBounds p.j true).getD j false=if p.j=j then true else listed.getD j false:=λj=>zO listed p.j j ti
  have next:∀(val:Value) (w':World),(v ≠ .any->val=v.den U β)->Below w.heap.size w w'->K (a.put o.dst val) w':=by
    intro val w' dA hB;refine hK _ _ ⟨by simp [inv.size],λj oj hj kZ e he hb => ?_,λj kZ => ?_,λj hj Bs => ?_,λq hq => ?_,inv.tw, ?_⟩
    · rw [rU]at kZ ⊢;by_cases ta:p.j=e.on
      · rw [if_pos ta]
      · rw [if_neg ta];by_cases oT:p.j=j
        · subst oT;rw [ho]at hj;cases hj;exact hr e.on ((Dd ho).2 ⟨e,he,hb,rfl⟩)
        · rw [if_neg oT]at kZ;exact inv.Dc j oj hj kZ e he hb
    · rw [rU]at kZ;by_cases oT:p.j=j
      · subst oT;exact fp.out
      · rw [if_neg oT]at kZ;exact inv.tK j kZ
    · rw [rU];by_cases oT:p.j=j
      · rw [if_pos oT];exact .inl rfl
      · rw [if_neg oT];exact inv.E7 j hj Bs
    · have fq:=inv.yi q hq;refine⟨fq.dst,fq.out,fq.slot,fq.pre,λBt => ?_⟩;rw [rU]at Bt;have cW:p.j≠q.j:=λe=>by rw [if_pos e]at Bt;cases Bt
      rw [if_neg cW]at Bt;obtain⟨o2,V3,v2,b2,g1,g2,g3,g4,g5,g6,g7,g8,g9,g10,g11⟩:=fq.run Bt;refine⟨o2,V3,v2,b2,g1,g2,g3,g4,g5,g6,g7,λd qZ=>⟨(g8 d qZ).1, ?_⟩,g9,g10,g11⟩;by_cases qY:o.dst=some d
      ·
        rcases K1 hd g1 ho qY qZ with h|h
        · right;intro hn;rw [Hu a o.dst val d fW,if_pos qY];have e1:=(g8 d qZ).1 p.j o ho qY h;have e2:=hv d (by rw [<-oW];exact qY);rw [e1,e2]at hn ⊢;rw [dA hn]
        · rw [hr q.j h]at Bt;cases Bt
      · rcases (g8 d qZ).2 with ⟨j,oj,h1,h2,h3,h4⟩|h
        · left;have oT:p.j≠j:=λe=>by subst e;rw [ho]at h1;cases h1;exact qY h2
          exact⟨j,oj,h1,h2,h3,by rw [rU,if_neg oT];exact h4⟩
        · right;intro hn;rw [Hu a o.dst val d fW,if_neg qY];exact h hn
    · refine K0 (st := {st with t:=bR st.t (L.filter λp => !listed.getD p.j false)}) inv.core hB (Hv _ _ _) (RT _ _ _) (λi => ?_) λi hn => ?_
      · rcases wz st.t (L.filter λq => !(listed.setIfInBounds p.j true).getD q.j false) i with h|⟨h,_⟩
        · rw [h];rfl
        · rw [h];exact inv.tw i
      · rcases wz st.t (L.filter λq => !(listed.setIfInBounds p.j true).getD q.j false) i with h|⟨h,h2⟩
        · exact (hn h).elim
        · rw [h]at hn ⊢;rw [Hu a o.dst val i fW];by_cases qY:o.dst=some i
          · rw [if_pos qY];have e2:=hv i (by rw [<-oW];exact qY);rw [e2]at hn ⊢;rw [dA hn]
          · rw [if_neg qY]
            have e3:av (bR st.t (L.filter λq => !listed.getD q.j false)) i=av st.t i:=Db _ _ _ λq hq=>by
              simp only [List.mem_filter,Bool.not_eq_true']at hq;by_cases De:p.j=q.j
              · obtain⟨oq,q1,q2⟩:=(inv.yi q hq.1).dst;rw [<-De,ho]at q1;cases q1;rw [<-q2];exact qY
              · exact h2 q (List.mem_filter.2 ⟨hq.1,by rw [rU,if_neg De,hq.2];rfl⟩)
            have:=inv.core.tmps i (by show av (bR st.t _) i ≠ .any;rw [e3];exact hn)
            rw [this];show some ((av (bR st.t _) i).den U β)=_;rw [e3]
  unfold wpOpIn;simp only [ho];rw [RW hw now];cases b with
  |false =>
    simp only [Bool.false_eq_true,if_false];refine⟨λf _=>tW r f,next undef w (λ_ => ?_) (Below.refl _ _)⟩;rw [gW rfl];rfl
  |true =>
    simp only [if_true];obtain⟨h1,h2⟩:=fy rfl;refine uF r mm nd (h1 U (Env.an _ _) β a w inv.core.below (K5 V2 now) (λk hk e hg => ?_) K Q' λval w' dA hB=>next val w' dA hB);rw [(h2 k hk).2]at hg;exact inv.core.mem k e hg
def Shape(o:Oper)(a a':Act):Prop:=a'.tmps.size=a.tmps.size/\∀d,o.dst≠some d->a'.tmps[d]? = a.tmps[d]?
theorem E8(o:Oper)(a:Act)(v:Value):Shape o a (a.put o.dst v):=by
 refine⟨Hv _ _ _,λd hd => ?_⟩;cases ho:o.dst with
 |none=>rfl
 |some x=>simp only [Act.put];exact Array.getElem?_setIfInBounds_ne (λe=>hd (by rw [ho,e]))
theorem V4(o:Oper)(a:Act)(d:Deferred)(v:Value):Shape o a (({a with defers:=d::a.defers}:Act).put o.dst v):=by
 refine⟨by rw [Hv],λd hd => ?_⟩;cases ho:o.dst with
 |none=>rfl
 |some x=>simp only [Act.put];exact Array.getElem?_setIfInBounds_ne (λe=>hd (by rw [ho,e]))
theorem V5{F:Fence}{n:Nat}{o:Oper}{a:Act}{w:World}{K:Act->World->Prop}{Q':Exit->Act->World->Prop}(hh:o.wpIn F n P a w (λa' w'=>Shape o a a'->K a' w') Q'):o.wpIn F n P a w K Q':=by
  unfold Oper.wpIn at *;refine⟨hh.1, ?_⟩;have hh:=hh.2;generalize (o.semAt F.round a.eval).run P w=r at *;cases r with
  |ok x w' =>
    cases x<;>simp only [Oper.uponIn]at hh ⊢ <;>
      first
        |exact hh (E8 o a _)
        |exact hh (V4 o a _ _)
        |exact⟨hh.1,CallsIn.mono hh.2 (λe iV he=>by cases e<;>first|exact he (E8 o a _)|exact he)⟩
        |exact⟨hh.1,RowsIn.mono hh.2 (λ_ _ he=>he (E8 o a _))⟩
        |exact⟨hh.1,RoundIn.mono hh.2 (λe iV he=>by cases e<;>first|exact he (E8 o a _)|exact he)⟩
  |halt x w'=>cases x<;>simp only [Oper.uponIn]at hh ⊢<;>exact hh
theorem dp.ay{ops:Array Oper}{o:Oper}{eK:St}{U af:Env}{b:Bool}(wf:eK.WF)(hl:Env.ay eK.c U af)(h:dp ops U eK o b):dp ops af eK o b:=by
 unfold dp at *;split
 ·rename_i hg;rw [hg]at h;exact h
 ·rename_i j want hg;rw [hg]at h;obtain⟨x,hx,h⟩:=h;refine⟨x,hx,h.imp (fun⟨e,he,hb⟩=>⟨e,he, ?_⟩) id⟩;have we:e.wf eK.c=true:=by have:=wf.t x;rw [he]at this;exact this
  rw [BE.aa hl we];exact hb
theorem Env.tk{c d:ar}{U af:Env}(hc:c.le d)(h:Env.ay d U af):Env.ay c U af:=Env.ah hc (Env.an _ _) h
theorem mU.move{ops:Array Oper}{rem wA:List Nat}{listed eS:Array Bool}{st gx:St}{U af:Env}{β ak:Nat->Nat}{a a':Act}{p:gh}(f:mU P W ops rem listed st U β a p)(hc:st.c.le gx.c)(hl:Env.ay st.c U af)(hb:∀k,k<st.c.nk->ak k=β k)(hn:gx.n=st.n)
  (wB:∀j∈wA,j∈rem) (fb:eS.getD p.j false=false->listed.getD p.j false=false) (jn:∀d,p.dst=some d->av gx.t d=av st.t d)
  (ht:∀d j oj,ops[j]? = some oj->oj.dst=some d->j∈cT ops p.j->av gx.t d=av st.t d) (wC:∀j,listed.getD j false=false->j∈cT ops p.j->eS.getD j false=false)
  (xA:eS.getD p.j false=false->∀d o,ops[p.j]? = some o->d∈o.looksAt ops->a'.tmps[d]? = a.tmps[d]?) (hm:eS.getD p.j false=false->∀k∈p.rd,aE gx.m gx.o k=aE st.m st.o k):mU P W ops wA eS gx af ak a' p:=by
 refine⟨f.dst,λh=>f.out (wB _ h),λd hd=>by rw [hn];exact f.slot d hd,λj hj h=>f.pre j hj (wB _ h),λhu => ?_⟩;obtain⟨o,eK,v,b,g1,g2,g3,g4,g5,g6,g7,g8,g9,g10,g11⟩:=f.run (fb hu);have fX:Env.ay eK.c U af:=Env.tk g3 hl;refine⟨o,eK,v,b,g1,g2,ar.le_trans g3 hc,bV.aa fX g2.k g4,λd hd=>by rw [jn d hd];exact g5 d hd,g6,g7.ay g2 fX,λd qZ=>⟨λj oj h1 h2 h3=>by rw [ht d j oj h1 h2 h3];exact (g8 d qZ).1 j oj h1 h2 h3, ?_⟩,g9,λfy => ?_,g11⟩
 ·rcases (g8 d qZ).2 with ⟨j,oj,h1,h2,h3,h4⟩|h
  ·exact .inl ⟨j,oj,h1,h2,h3,wC j h4 h3⟩
  ·right;intro cW;rw [xA hu d o g1 qZ,h cW,SV.aa fX (λk hk=>hb k (Nat.lt_of_lt_of_le hk g3.k)) (g2.t d)]
 ·obtain⟨q1,q2⟩:=g10 fy;refine⟨λJ h=>q1 J (Env.ah hc hl h),λk hk=>⟨(q2 k hk).1, ?_⟩⟩;rw [hm hu k (q2 k hk).1];exact (q2 k hk).2
theorem V6{st:St}{o:Oper}{t:TypeId}{x:Operand}{q:Nat × Nat × Bool × Nat}{cs:List At}{ty:TypeId}{u:CV}{U:Env}(wf:st.WF)(hk:bV.den st.k U)(ho:o.op=.load t x)(hx:st.ev x=.cv (.one (.loc q.1 q.2.1)))(hz:aH P t=some (q.2.2.1,q.2.2.2))(hm:getM st.m q.1=some (cs,ty))(hu:vp q cs=some u):bB P W st o (.cv u) U:=by
  obtain⟨v,c',af,h1,h2,h3,h4⟩:=Jp (G:=⟨P,[],[],[],[],[],[],[]⟩) (W:=W) (Q:=λ_=>False) (QM:=λ_ _=>False) (QP:=λ_ _=>False) (K:=λv' c' _=>v'=.cv u/\c'=st.c) (U:=U) ⟨λf hf _ _=>absurd hf (by simp),λf hf _ _=>absurd hf (by simp),λe he=>absurd he (by simp)⟩ wf hk (by
    unfold vg;rw [ho];simp only [hx,ke,mn,hz,hm];unfold vp at hu;by_cases hg:q.2.2.1=true
    · rw [if_pos hg]at hu;simp only [hg,if_true];split at hu
      · rename_i hle;rw [if_pos hle];cases hu
        first|exact⟨rfl,rfl⟩|exact⟨rfl,trivial⟩
      · cases hu
    · rw [if_neg hg]at hu;simp only [hg,if_false];cases hc:cs[q.2.1]? with
      |none=>rw [hc]at hu;cases hu
      |some a =>
        rw [hc]at hu;cases hu
        first|exact⟨rfl,rfl⟩|exact⟨rfl,trivial⟩)
  obtain⟨rfl,rfl⟩:=h1;exact h4 U ⟨λi hi=>(h3.i i hi).symm,λi hi=>(h3.b i hi).symm,λi hi=>(h3.v i hi).symm,λi hi=>(h3.p i hi).symm,λi hi=>(h3.s i hi).symm,λi hi=>(h3.l i hi).symm⟩
theorem V7{st:St}{o:Oper}{q:Nat × Nat × Bool × Nat}(h:xL P st o=some q):∃t x,o.op=.load t x/\st.ev x=.cv (.one (.loc q.1 q.2.1))/\aH P t=some (q.2.2.1,q.2.2.2):=by
 unfold xL at h;split at h
 ·rename_i t x ho;split at h
  ·rename_i g n k off h1 h2;cases h;exact⟨t,x,ho,h2,h1⟩
  ·cases h
 ·cases h
theorem mU.Bu{ops:Array Oper}{rem wA:List Nat}{listed eS:Array Bool}{st gx:St}{U af:Env}{β ak:Nat->Nat}{a a':Act}{p:gh}(f:mU P W ops rem listed st U β a p)(hc:st.c.le gx.c)(hl:Env.ay st.c U af)(hb:∀k,k<st.c.nk->ak k=β k)(hn:gx.n=st.n)
  (wB:∀j∈wA,j∈rem) (fb:eS.getD p.j false=false->listed.getD p.j false=false) (jn:∀d,p.dst=some d->av gx.t d=av st.t d)
  (ht:∀d j oj,ops[j]? = some oj->oj.dst=some d->j∈cT ops p.j->av gx.t d=av st.t d) (wC:∀j,listed.getD j false=false->j∈cT ops p.j->eS.getD j false=false)
  (xA:eS.getD p.j false=false->∀d o,ops[p.j]? = some o->d∈o.looksAt ops->a'.tmps[d]? = a.tmps[d]?) (hm:xM st.t gx.m p=true) (ic:gx.WF) (eR:bV.den gx.k af):mU P W ops wA eS gx af ak a' p:=by
 refine⟨f.dst,λh=>f.out (wB _ h),λd hd=>by rw [hn];exact f.slot d hd,λj hj h=>f.pre j hj (wB _ h),λhu => ?_⟩;obtain⟨o,eK,v,b,g1,g2,g3,g4,g5,g6,g7,g8,g9,g10,g11⟩:=f.run (fb hu);have fX:Env.ay eK.c U af:=Env.tk g3 hl;have hle:eK.c.le gx.c:=ar.le_trans g3 hc;unfold xM at hm;split at hm;rotate_left
 ·cases hm
 rename_i q d hq hd;split at hm;rotate_left
 ·cases hm
 rename_i cs ty u mJ V8;have V9:=of_decide_eq_true hm;obtain⟨t,x,e1,e2,e3⟩:=g11 q hq;have hv:v=.cv u:=by rw [<-g5 d hd,V8]
 have RY:({gx with t:=eK.t}:St).WF:=⟨λi=>SV.aL hle (g2.t i),ic.m,ic.o,ic.ap,ic.r,ic.d,ic.k,ic.df⟩
 have V_:∀y,eK.ev x=y->y ≠ .any->(∀g,x ≠ .global g)->({gx with t:=eK.t}:St).ev x=y:=λy hy _ hg=>by
  cases x with
  |tmp s=>exact hy
  |const s=>exact hy
  |func s=>exact hy
  |global g=>exact (hg g rfl).elim
 have xr:({gx with t:=eK.t}:St).ev x=.cv (.one (.loc q.1 q.2.1)):=V_ _ e2 (by simp) λg hg=>by
  subst hg;simp only [St.ev]at e2;split at e2<;>cases e2
 have dC:aU ({gx with t:=eK.t}:St) o=aU eK o:=by
  unfold aU;rw [e1];simp only [xr,e2]
 refine⟨o,{gx with t:=eK.t},v,b,g1,RY,ar.le_refl _,eR,λd hd=>by rw [jn d hd];exact g5 d hd,g6, ?_,λd qZ=>⟨λj oj h1 h2 h3=>by rw [ht d j oj h1 h2 h3];exact (g8 d qZ).1 j oj h1 h2 h3, ?_⟩,g9,λfy=>⟨λJ h => ?_,λk hk=>⟨?_,rfl⟩⟩,λq' RZ => ?_⟩
 ·have:=g7.ay g2 fX
  unfold dp at this ⊢;exact this
 ·rcases (g8 d qZ).2 with ⟨j,oj,h1,h2,h3,h4⟩|h
  ·exact .inl ⟨j,oj,h1,h2,h3,wC j h4 h3⟩
  ·right;intro cW;have cW:av eK.t d ≠ .any:=cW;show _=some ((av eK.t d).den af ak);rw [xA hu d o g1 qZ,h cW,SV.aa fX (λk hk=>hb k (Nat.lt_of_lt_of_le hk g3.k)) (g2.t d)]
 ·rw [hv];exact V6 (ty:=ty) RY (bV.aa h ic.k eR) e1 xr e3 mJ V9
 ·rw [dC]at hk;exact ((g10 fy).2 k hk).1
 ·rw [hq]at RZ;cases RZ;exact⟨t,x,e1,xr,e3⟩
theorem R0{ops:Array Oper}{listed:Array Bool}(iz:∀ j o,ops[j]? = some o->listed.getD j false=true->∀ e∈o.after,Region.binds .any e=true->listed.getD e.on false=true) :
    ∀(n:Nat) (acc:List Nat),(∀j∈acc,listed.getD j false=true)->∀j∈sH ops n acc,listed.getD j false=true
  |0,acc,h=>h
  |n+1,acc,h=>by
    unfold sH;refine R0 iz n _ λj hj => ?_;split at hj
    · rename_i hn;rcases E0 _ _ hj with hj|hj
      · exact h j hj
      · have K6:=h n (List.contains_iff_mem.1 hn);cases ho:ops[n]? with
        |none=>unfold cT at hj;rw [ho]at hj;cases hj
        |some o =>
          obtain⟨e,he,hb,rfl⟩:=(Dd ho).1 hj;exact iz n o ho K6 e he hb
    · exact h j hj
theorem K7{ops:Array Oper}{listed:Array Bool}(iz:∀j o,ops[j]? = some o->listed.getD j false=true->∀e∈o.after,Region.binds .any e=true->listed.getD e.on false=true){i:Nat}(hr:∀j∈cT ops i,listed.getD j false=true):∀j∈before ops i,listed.getD j false=true:=by
 unfold before;refine R0 iz i _ λj hj => ?_;rcases E0 _ _ hj with h|h
 ·cases h
 ·exact hr j h
theorem R3{ops:Array Oper}(hd:dH ops=true){i:Nat}{r:List Nat}{st:St}{L:List gh}{U:Env}{listed:Array Bool}{β:Nat->Nat}{a:Act}{w:World}(inv:qC P W R Z ops (i::r) st L U listed β a w){o:Oper}(ho:ops[i]? = some o)(qw:i ∉ r)(wD:∀j∈cT ops i,j ∉ i::r)
  (hr:∀j∈cT ops i,listed.getD j false=true) (jn:qk st.n o.dst=true) {s:St} {aw:Env} {bc:Nat->Nat} {a2:Act} {w2:World} (hC:Core W R Z aw bc s a2 w2) (hc:st.c.le s.c) (hl:Env.ay st.c U aw) (hb:∀k,k<st.c.nk->bc k=β k) (fM:Shape o a a2)
  (eA:∀p∈L.filter (λp => !(before ops i).contains p.j),(∀k∈p.rd,aE s.m s.o k=aE st.m st.o k)∨xM st.t s.m p=true) :
  qC P W R Z ops r {s with t:=dQ st.t o.dst (match o.dst with|some d=>av s.t d|none=>.any),n:=st.n} (L.filter λp => !(before ops i).contains p.j) aw (listed.setIfInBounds i true) bc a2 w2:=by
 have xz:i<ops.size:=(Array.getElem?_eq_some_iff.1 ho).1;have rT:i<listed.size:=by rw [inv.size];exact xz
 have rU:∀j,(listed.setIfInBounds i true).getD j false=if i=j then true else listed.getD j false:=λj=>zO listed i j rT
 have E9:listed.getD i false=false:=by
  cases h:listed.getD i false with
  |false=>rfl
  |true=>exact (inv.tK i h (by simp)).elim
 have yj:∀d,av (dQ st.t o.dst (match o.dst with|some d=>av s.t d|none=>.any)) d=if o.dst=some d then av s.t d else av st.t d:=λd=>by
  rw [xB];by_cases h:o.dst=some d
  ·rw [if_pos h,if_pos h,h]
  ·rw [if_neg h,if_neg h]
 refine⟨by simp [inv.size],λj oj hj kZ e he gg => ?_,λj kZ => ?_,λj hj Bs => ?_,λq hq => ?_,λd => ?_, ?_⟩
 ·rw [rU]at kZ ⊢;by_cases h1:i=e.on
  ·rw [if_pos h1]
  ·rw [if_neg h1];by_cases h2:i=j
   ·subst h2;rw [ho]at hj;cases hj;exact hr e.on ((Dd ho).2 ⟨e,he,gg,rfl⟩)
   ·rw [if_neg h2]at kZ;exact inv.Dc j oj hj kZ e he gg
 ·rw [rU]at kZ;by_cases h:i=j
  ·subst h;exact qw
  ·rw [if_neg h]at kZ;exact λh2=>inv.tK j kZ (List.mem_cons_of_mem _ h2)
 ·rw [rU];by_cases h:i=j
  ·rw [if_pos h];exact .inl rfl
  ·rw [if_neg h];rcases inv.E7 j hj (λh2=>(List.mem_cons.1 h2).elim (λe=>h e.symm) Bs)with h3|⟨p,hp,oT⟩
   ·exact .inl h3
   ·by_cases xC:p.j∈before ops i
    ·left;rw [<-oT];exact K7 inv.Dc hr _ xC
    ·exact .inr ⟨p,List.mem_filter.2 ⟨hp,by simpa using xC⟩,oT⟩
 ·have Wa:q∈L:=(List.mem_filter.1 hq).1;have fq:=inv.yi q Wa;have cW:i≠q.j:=λe=>fq.out (by rw [<-e];simp)
  have qD:∀d j oj,ops[j]? = some oj->oj.dst=some d->(j=q.j∨j∈cT ops q.j)->o.dst≠some d:=λd j oj h1 h2 h3 h4=>by
   have:=K4 hd ho h1 h4 h2
   subst this;rcases h3 with h3|h3
   ·exact cW h3
   ·exact fq.pre i h3 (by simp)
  have m1:∀d,q.dst=some d->av (dQ st.t o.dst (match o.dst with|some d=>av s.t d|none=>.any)) d=av st.t d:=λd pR=>by
   obtain⟨oq,e1,e2⟩:=fq.dst;rw [yj,if_neg (qD d q.j oq e1 (by rw [e2,pR]) (.inl rfl))]
  have m2:∀d j oj,ops[j]? = some oj->oj.dst=some d->j∈cT ops q.j->av (dQ st.t o.dst (match o.dst with|some d=>av s.t d|none=>.any)) d=av st.t d:=λd j oj h1 h2 h3=>by
   rw [yj,if_neg (qD d j oj h1 h2 (.inr h3))]
  have m3:∀j,listed.getD j false=false->j∈cT ops q.j->(listed.setIfInBounds i true).getD j false=false:=λj h1 h2=>by
   have:i≠j:=λe=>fq.pre j h2 (by rw [<-e];simp)
   rw [rU,if_neg this];exact h1
  have m4:(listed.setIfInBounds i true).getD q.j false=false->∀d o',ops[q.j]? = some o'->d∈o'.looksAt ops->a2.tmps[d]? = a.tmps[d]? := λh d oq h1 h2=>by
   refine fM.2 d λoW => ?_;rcases K1 hd h1 ho oW h2 with h3|h3
   ·exact fq.pre i h3 (by simp)
   ·rw [rU,if_neg cW]at h;rw [hr q.j h3]at h;cases h
  rcases eA q hq with lZ|lZ
  ·exact fq.move hc hl hb rfl (λj hj=>List.mem_cons_of_mem _ hj) (λh=>by rw [rU,if_neg cW]at h;exact h) m1 m2 m3 m4 λh k hk=>lZ k hk
  ·refine fq.Bu hc hl hb rfl (λj hj=>List.mem_cons_of_mem _ hj) (λh=>by rw [rU,if_neg cW]at h;exact h) m1 m2 m3 m4 lZ ⟨λd => ?_,hC.wf.m,hC.wf.o,hC.wf.ap,hC.wf.r,hC.wf.d,hC.wf.k,hC.wf.df⟩ hC.kn;show (av (dQ _ _ _) d).wf s.c=true;rw [yj];split
   ·exact hC.wf.t d
   ·exact SV.aL hc (inv.tw d)
 ·show (av (dQ _ _ _) d).wf s.c=true;rw [yj];split
  ·exact hC.wf.t d
  ·exact SV.aL hc (inv.tw d)
 ·have lj:a2.tmps.size=st.n:=by rw [fM.1];exact inv.core.size
  refine⟨lj,λd hn => ?_,hC.jF,hC.below,hC.mem,hC.inj,hC.ft,hC.jz,hC.gd,hC.dn,⟨λd => ?_,hC.wf.m,hC.wf.o,hC.wf.ap,hC.wf.r,hC.wf.d,hC.wf.k,hC.wf.df⟩,hC.kn⟩
  ·rcases wz (dQ st.t o.dst (match o.dst with|some d=>av s.t d|none=>.any)) ((L.filter λp => !(before ops i).contains p.j).filter λp => !(listed.setIfInBounds i true).getD p.j false) d with h|⟨h,h2⟩
   ·exact (hn h).elim
   ·have kY:av (dQ st.t o.dst (match o.dst with|some d=>av s.t d|none=>.any)) d ≠ .any:=by rw [<-h];exact hn
    show _=some ((av (bR _ _) d).den aw bc);rw [h];rw [yj]at kY ⊢;by_cases oW:o.dst=some d
    ·rw [if_pos oW]at kY ⊢;exact hC.tmps d kY
    ·rw [if_neg oW]at kY ⊢;rw [fM.2 d oW]
     have e3:av (bR st.t (L.filter λq => !listed.getD q.j false)) d=av st.t d:=Db _ _ _ λq hq=>by
      simp only [List.mem_filter,Bool.not_eq_true']at hq;have Wb:i≠q.j:=λe=>(inv.yi q hq.1).out (by rw [<-e];simp)
      have xC:q.j ∉ before ops i:=λxC=>by
       have:=K7 inv.Dc hr _ xC
       rw [this]at hq;cases hq.2
      exact h2 q (List.mem_filter.2 ⟨List.mem_filter.2 ⟨hq.1,by simpa using xC⟩,by rw [rU,if_neg Wb,hq.2];rfl⟩)
     have h5:=inv.core.tmps d (by show av (bR st.t _) d ≠ .any;rw [e3];exact kY);rw [h5];show some ((av (bR st.t _) d).den U β)=_;rw [e3,SV.aa hl hb (inv.tw d)]
  ·show (av (bR _ _) d).wf s.c=true;rcases wz (dQ st.t o.dst (match o.dst with|some d=>av s.t d|none=>.any)) ((L.filter λp => !(before ops i).contains p.j).filter λp => !(listed.setIfInBounds i true).getD p.j false) d with h|⟨h,_⟩
   ·rw [h];rfl
   ·rw [h,yj];split
    ·exact hC.wf.t d
    ·exact SV.aL hc (inv.tw d)
def tm(F:Kf)(c:ar)(U:Env):Prop:=∀x∈F,x.1.wf c=true/\x.1.den U=x.2
theorem tm.mono{F:Kf}{c c':ar}{U af:Env}(h:tm F c U)(hc:c.le c')(hl:Env.ay c U af):tm F c' af:=λx hx=>⟨BE.aL hc (h x hx).1,(BE.aa hl (h x hx).1).trans (h x hx).2⟩
theorem tm.look{F:Kf}{c:ar}{U:Env}(h:tm F c U){e:BE}{b:Bool}(he:F.lookup e=some b):e.den U=b:=by
  induction F with
  |nil=>cases he
  |cons x r ih =>
    rw [List.lookup_cons]at he;split at he
    · rename_i hq
      have:e=x.1:=by simpa using hq
      cases he;rw [this];exact (h x (by simp)).2
    · exact ih (λy hy=>h y (by simp [hy])) he
theorem R4{F:Kf}{c:ar}{e:BE}{t f:Kf->Env->Prop}{U:Env}(hF:tm F c U)(hw:e.wf c=true)(h:lU (PA P W Q QM QP) F e t f U):∃F',tm F' c U/\((e.den U=true/\t F' U)∨(e.den U=false/\f F' U)):=by
  unfold lU at h;cases he:F.lookup e with
  |some b =>
    rw [he]at h
    have:=hF.look he
    cases b with
    |true=>exact⟨F,hF,.inl ⟨this,h⟩⟩
    |false=>exact⟨F,hF,.inr ⟨this,h⟩⟩
  |none =>
    rw [he]at h
    have cons:∀b,e.den U=b->tm ((e,b)::F) c U:=λb hb x hx=>by
      rcases List.mem_cons.1 hx with rfl|hx
      · exact⟨hw,hb⟩
      · exact hF x hx
    rcases zw h with ⟨h1,h2⟩|⟨h1,h2⟩
    · exact⟨_,cons _ h1,.inl ⟨h1,h2⟩⟩
    · exact⟨_,cons _ h1,.inr ⟨h1,h2⟩⟩
theorem R5{ops:Array Oper}{st:St}{F:Kf}{o:Oper}{go no:Kf->Env->Prop}{U:Env}(hF:tm F st.c U)(Hw:∀ i,(av st.t i).wf st.c=true)(h:lV (PA P W Q QM QP) F (guardOf ops st o) go no U) :
    ∃b F',tm F' st.c U/\dp ops U st o b/\(b=true->go F' U)/\(b=false->no F' U):=by
  unfold guardOf at h;cases hg:o.guard with
  |none =>
    rw [hg]at h;exact⟨true,F,hF,by unfold dp;rw [hg],λ_=>h,λe=>absurd e (by simp)⟩
  |some jw =>
    obtain⟨j,want⟩:=jw;rw [hg]at h;simp only at h;generalize hb:(ops[j]?).bind (·.dst)=u at h;cases u with
    |none=>exact h.elim
    |some d =>
      simp only at h;split at h;rotate_left
      · exact h.elim
      generalize hs:av st.t d=sv at h;split at h
      · rename_i e;simp only [lV]at h;have vC:e.wf st.c=true:=by have:=Hw d;rw [hs]at this;exact this
        obtain⟨F',wE,⟨h1,h2⟩|⟨h1,h2⟩⟩:=R4 hF vC h
        · refine⟨want,F',wE,by unfold dp;rw [hg];exact⟨d,hb,.inl ⟨e,hs,by rw [h1];cases want<;>rfl⟩⟩,λhw => ?_,λhw => ?_⟩
          · rw [if_pos hw]at h2;exact h2
          · rw [if_neg (by rw [hw];simp)]at h2;exact h2
        · refine⟨!want,F',wE,by unfold dp;rw [hg];exact⟨d,hb,.inl ⟨e,hs,by rw [h1];cases want<;>rfl⟩⟩,λhw => ?_,λhw => ?_⟩
          · rw [if_neg (by cases want<;>simp_all)]at h2;exact h2
          · rw [if_pos (by cases want<;>simp_all)]at h2;exact h2
      · exact⟨false,F,hF,by unfold dp;rw [hg];exact⟨d,hb,.inr ⟨hs,rfl⟩⟩,(λe=>absurd e (by simp)),λ_=>h⟩
      · exact h.elim
theorem Wc{G:bF}(hG:G.Ok){st:St}{o:Oper}{K:SV->ar->bV->Env->Prop}{U:Env}(wf:st.WF)(eR:bV.den st.k U)(h:GN (PA G.P W Q QM QP) G st o K U) :
    ∃v c k af,K v c k af/\st.c.le c/\c.nk=st.c.nk/\Env.ay st.c U af/\v.wf c=true/\bV.wf k c/\bV.den k af/\∀J,Env.ay c af J->bB G.P W st o v J:=by
  have val : vg (PA G.P W Q QM QP) G st o (λv c => if c.nk = st.c.nk /\ v.wf c = true then K v c st.k else (PA G.P W Q QM QP).fail "drawn: value") U ->
      ∃v c k af,K v c k af/\st.c.le c/\c.nk=st.c.nk/\Env.ay st.c U af/\v.wf c=true/\bV.wf k c/\bV.den k af/\∀J,Env.ay c af J->bB G.P W st o v J:=by
    intro h;obtain⟨v,c,af,h1,h2,h3,h4⟩:=Jp hG wf eR h;split at h1
    · rename_i hc;exact⟨v,c,st.k,af,h1,h2,hc.1,h3,hc.2,λz hz=>Kn.aL h2 (wf.k z hz),bV.aa h3 wf.k eR,h4⟩
    · exact h1.elim
  obtain⟨dst,op,type,pos,after,guard⟩:=o;unfold GN at h;simp only [PD]at h;cases op<;>first|exact val h|skip
  rename_i t x;simp only at h;generalize hu:G.P.underlying t=u1 at h;generalize hx:st.ev x=sx at h;split at h
  · exact h.elim
  · rename_i d v vF;split at h
    · rename_i hv;obtain⟨A8,AZ⟩:=hv;have h:=h ⟨.iface t (v.den U b0),rfl⟩ rfl;have hle:st.c.le {st.c with nv:=st.c.nv+1}:=zr st.c .uA;have cX:=DQ st.c U ⟨.iface t (v.den U b0),rfl⟩
      have e0:∀J,Env.ay {st.c with nv:=st.c.nv+1} (U.ny st.c.nv ⟨.iface t (v.den U b0),rfl⟩) J->(J.v st.c.nv).1=.iface t (v.den J b0):=λJ hl=>by
        rw [hl.v st.c.nv (Nat.lt_succ_self _),CV.aa (Env.ah hle cX hl) (λ_ _=>rfl) AZ];exact congrArg (λy:OV=>y.1) (if_pos rfl)
      refine⟨_,_,_,_,h,hle,rfl,cX,by simp [SV.wf,CV.wf,At.wf],λz hz => ?_,λz hz => ?_,λJ hl=>bB.run λβ a w hB bh hr=>⟨.iface t (v.den J β), ?_,λ_ => ?_⟩⟩
      · rcases List.mem_cons.1 hz with rfl|hz
        · simp only [Kn.wf,Bool.and_eq_true,decide_eq_true_eq];exact⟨Nat.lt_succ_self _,CV.aL hle AZ,A8⟩
        · exact Kn.aL hle (wf.k z hz)
      · rcases List.mem_cons.1 hz with rfl|hz
        · simp only [Kn.den];exact e0 _ (Env.an _ _)
        · exact Kn.aa cX (wf.k z hz) (eR z hz)
      · have e1:=bh x (by simp [Op.operands]) (by rw [hx];simp);rw [hx]at e1;simp only [execOp,e1];refine zi _ w _ ?_
        cases d<;>first
          | (exact (vF _ rfl).elim)
          | (simp [Instr.makeInterface,run_underlying hu,SV.den])
      · show _=(J.v st.c.nv).1;rw [e0 J hl,CV.bg J β b0 A8]
    · exact h.elim
  · exact h.elim
theorem Wd{G:bF}(hG:G.Ok){st:St}{F:Kf}{o:Oper}{K:SV->ar->bV->Kf->Env->Prop}{U:Env}(wf:st.WF)(hF:tm F st.c U)(eR:bV.den st.k U)(h:AN (PA G.P W Q QM QP) G st F o K U) :
  ∃v c k af F',tm F' c af/\K v c k F' af/\st.c.le c/\c.nk=st.c.nk/\Env.ay st.c U af/\v.wf c=true/\bV.wf k c/\bV.den k af/\∀J,Env.ay c af J->bB G.P W st o v J:=by
 have gen:GN (PA G.P W Q QM QP) G st o (λv c k=>K v c k F) U->∃v c k af F',tm F' c af/\K v c k F' af/\st.c.le c/\c.nk=st.c.nk/\Env.ay st.c U af/\v.wf c=true/\bV.wf k c/\bV.den k af/\∀J,Env.ay c af J->bB G.P W st o v J:=by
  intro h;obtain⟨v,c,k,af,g1,g2,g3,g4,g5⟩:=Wc hG wf eR h;exact⟨v,c,k,af,F,hF.mono g2 g4,g1,g2,g3,g4,g5⟩
 obtain⟨dst,op,type,pos,after,guard⟩:=o;unfold AN at h;cases op<;>first|exact gen h|skip
 rename_i x a b;simp only at h;generalize hx:st.ev x=sx at h;split at h;rotate_left
 ·exact h.elim
 rename_i e;have vC:e.wf st.c=true:=by have:=wf.ev x;rw [hx]at this;exact this
 have fin:∀(bb:Bool),e.den U=bb->∀J,Env.ay st.c U J->bB G.P W st ⟨dst,.pick x a b,type,pos,after,guard⟩ (st.ev (if bb=true then a else b)) J:=by
  intro bb hd J hl;refine bB.run λβ ac w hB ho hr=>⟨ac.eval (if bb=true then a else b), ?_,λhn=>ho _ (by cases bb<;>simp [Op.operands]) hn⟩;have hc:=ho x (by simp [Op.operands]) (by rw [hx];simp);rw [hx]at hc;simp only [SV.den,CV.den,At.den,BE.aa hl vC,hd]at hc;cases bb<;>simp [execOp,hc,asBool]
 obtain⟨F',wE,⟨h1,h2⟩|⟨h1,h2⟩⟩:=R4 hF vC h
 ·exact⟨_,_,_,U,F',wE,h2,ar.le_refl _,rfl,Env.an _ _,wf.ev a,wf.k,eR,fin true h1⟩
 ·exact⟨_,_,_,U,F',wE,h2,ar.le_refl _,rfl,Env.an _ _,wf.ev b,wf.k,eR,fin false h1⟩
theorem R6{ops:Array Oper}(hd:dH ops=true){i:Nat}{r:List Nat}{st:St}{L:List gh}{U:Env}{listed:Array Bool}{β:Nat->Nat}{a:Act}{w:World}(inv:qC P W R Z ops (i::r) st L U listed β a w){o:Oper}(ho:ops[i]? = some o)(qw:i ∉ r)(wD:∀j∈cT ops i,j ∉ i::r)
  (jn:qk st.n o.dst=true) {v:SV} {c:ar} {k:bV} {af:Env} {b:Bool} {rd:List Nat} {ld:Option (Nat × Nat × Bool × Nat)} (hc:st.c.le c) (hl:Env.ay st.c U af) (hv:v.wf c=true) (si:bV.wf k c) (jk:bV.den k af) (nd:∀c,o.op ≠ .defer c) (hw:dp ops U st o b) (gW:b=false->v=.dF)
  (fy:b=true->(∀J,Env.ay c af J->bB P W st o v J)/\∀k∈aU st o,k∈rd) (We:∀q,ld=some q->∃t x,o.op=.load t x/\st.ev x=.cv (.one (.loc q.1 q.2.1))/\aH P t=some (q.2.2.1,q.2.2.2)):qC P W R Z ops r {st with t:=dQ st.t o.dst v,c:=c,k:=k} (⟨i,o.dst,rd,ld⟩::L) af listed β a w:=by
 have rV:st.WF:=⟨inv.tw,inv.core.wf.m,inv.core.wf.o,inv.core.wf.ap,inv.core.wf.r,inv.core.wf.d,inv.core.wf.k,inv.core.wf.df⟩
 have E9:listed.getD i false=false:=by
  cases h:listed.getD i false with
  |false=>rfl
  |true=>exact (inv.tK i h (by simp)).elim
 have cW:∀q∈L,i≠q.j:=λq hq e=>(inv.yi q hq).out (by rw [<-e];simp);refine⟨inv.size,inv.Dc,λj hj h=>inv.tK j hj (List.mem_cons_of_mem _ h),λj hj Bs => ?_,λq hq => ?_,λd => ?_, ?_⟩
 ·by_cases h:i=j
  ·exact .inr ⟨⟨i,o.dst,rd,ld⟩,by simp,h⟩
  ·rcases inv.E7 j hj (λh2=>(List.mem_cons.1 h2).elim (λe=>h e.symm) Bs)with h3|⟨p,hp,oT⟩
   ·exact .inl h3
   ·exact .inr ⟨p,List.mem_cons_of_mem _ hp,oT⟩
 ·rcases List.mem_cons.1 hq with rfl|hq
  ·refine⟨⟨o,ho,rfl⟩,qw,λd pR => ?_,λj hj h=>wD j hj (List.mem_cons_of_mem _ h),λ_=>⟨o,st,v,b,ho,rV,hc,bV.aa hl rV.k inv.core.kn,λd pR => ?_,nd,hw.ay rV hl,λd qZ=>⟨λj oj h1 h2 h3 => ?_, ?_⟩,gW,λhb=>⟨(fy hb).1,λk hk=>⟨(fy hb).2 k hk,rfl⟩⟩,We⟩⟩
   ·rw [show o.dst=some d from pR]at jn;simpa [qk]using jn
   ·show av (dQ st.t o.dst v) d=v;rw [xB,if_pos pR]
   ·show _=av (dQ st.t o.dst v) d;rw [xB,if_neg λh => ?_]
    have:=K4 hd ho h1 h h2
    subst this;exact wD i h3 (by simp)
   ·by_cases hx:∃j oj,ops[j]? = some oj/\oj.dst=some d/\j∈cT ops i/\listed.getD j false=false
    ·exact .inl hx
    ·right;intro hn
     have e3:av (bR st.t (L.filter λq => !listed.getD q.j false)) d=av st.t d:=Db _ _ _ λq hq h=>by
      simp only [List.mem_filter,Bool.not_eq_true']at hq;have fq:=inv.yi q hq.1;obtain⟨oq,q1,q2⟩:=fq.dst;rcases K1 hd ho q1 (by rw [q2,h]) qZ with h4|h4
      ·exact hx ⟨q.j,oq,q1,by rw [q2,h],h4,hq.2⟩
      ·exact fq.pre i h4 (by simp)
     have h5:=inv.core.tmps d (by show av (bR st.t _) d ≠ .any;rw [e3];exact hn);rw [h5];show some ((av (bR st.t _) d).den U β)=_;rw [e3,SV.aa hl (λ_ _=>rfl) (inv.tw d)]
  ·have fq:=inv.yi q hq
   have qD:∀d j oj,ops[j]? = some oj->oj.dst=some d->(j=q.j∨j∈cT ops q.j)->o.dst≠some d:=λd j oj h1 h2 h3 h4=>by
    have:=K4 hd ho h1 h4 h2
    subst this;rcases h3 with h3|h3
    ·exact cW q hq h3
    ·exact fq.pre i h3 (by simp)
   refine fq.move hc hl (λ_ _=>rfl) rfl (λj hj=>List.mem_cons_of_mem _ hj) (λh=>h) (λd pR => ?_) (λd j oj h1 h2 h3 => ?_) (λj h1 h2=>h1) (λ_ d oq h1 h2=>rfl) λ_ _ _=>rfl
   ·show av (dQ _ _ _) d=_;obtain⟨oq,e1,e2⟩:=fq.dst;rw [xB,if_neg (qD d q.j oq e1 (by rw [e2,pR]) (.inl rfl))]
   ·show av (dQ _ _ _) d=_;rw [xB,if_neg (qD d j oj h1 h2 (.inr h3))]
 ·show (av (dQ _ _ _) d).wf c=true;rw [xB];split
  ·exact hv
  ·exact SV.aL hc (inv.tw d)
 ·have dY:=inv.core;have g:=rV.grow hc
  have E_:((⟨i,o.dst,rd,ld⟩:gh)::L).filter (λp => !listed.getD p.j false)=⟨i,o.dst,rd,ld⟩::L.filter (λp => !listed.getD p.j false):=by
   rw [List.filter_cons,if_pos (by simp [E9])]
  have E':∀d,(av (bR (dQ st.t o.dst v) (((⟨i,o.dst,rd,ld⟩:gh)::L).filter λp => !listed.getD p.j false)) d).wf c=true:=λd=>by
   rcases wz (dQ st.t o.dst v) (((⟨i,o.dst,rd,ld⟩:gh)::L).filter λp => !listed.getD p.j false) d with h|⟨h,_⟩
   ·rw [h];rfl
   ·rw [h,xB];split
    ·exact hv
    ·exact SV.aL hc (inv.tw d)
  have dE:=dY.ay hl;refine⟨dY.size,λd hn => ?_,dY.jF,dY.below,λk e hg=>dE.mem k e hg,dY.inj,dY.ft,dY.jz,dY.gd,dY.dn,⟨E',g.m,g.o,g.ap,g.r,g.d,si,g.df⟩,jk⟩;rcases wz (dQ st.t o.dst v) (((⟨i,o.dst,rd,ld⟩:gh)::L).filter λp => !listed.getD p.j false) d with h|⟨h,h2⟩
  ·exact (hn h).elim
  ·have oW:o.dst≠some d:=h2 ⟨i,o.dst,rd,ld⟩ (by rw [E_];simp);have kY:av (dQ st.t o.dst v) d ≠ .any:=by rw [<-h];exact hn
   show _=some ((av (bR _ _) d).den af β);rw [h];rw [xB,if_neg oW]at kY ⊢;have e3:av (bR st.t (L.filter λq => !listed.getD q.j false)) d=av st.t d:=Db _ _ _ λq hq=>h2 q (by rw [E_];exact List.mem_cons_of_mem _ hq);have h5:=dE.tmps d (by show av (bR st.t _) d ≠ .any;rw [e3];exact kY);rw [h5];show some ((av (bR st.t _) d).den af β)=_;rw [e3]
theorem Fa{G:bF}(hG:G.Ok){ops:Array Oper}(hd:dH ops=true){r:Option Nat}{mm:Nat}{c0:ar}{cP:Env}{bu:Nat->Nat}{Q':Exit->Act->World->Prop}{step:St->Oper->(St->Env->Prop)->Env->Prop}(hs:rO G.P W R Z r mm c0 cP bu Q' step){K:St->Env->Prop} :
    ∀(rem:List Nat) (st:St) (F:Kf) (L:List gh) (U:Env),ng G.P ops rem=true->tm F st.c U->(∀i,(av st.t i).wf st.c=true)->n8 (PA G.P W Q QM QP) G step ops rem st F L K U->c0.le st.c->Env.ay c0 cP U ->
      ∀(fuel:Nat) (listed:Array Bool) (β:Nat->Nat) (a:Act) (w:World),(∀k,k<c0.nk->β k=bu k)->qC G.P W R Z ops rem st L U listed β a w->nt listed ops.size=fuel->uG W R Z st U β K (Q' .normal)->wpAnyIn (Fr r) mm G.P .any ops Q' fuel listed a w
  | [],st,F,L,U,_,_,_,h,ij,fI=>by
    intro fuel
    have done:∀(fuel:Nat) (listed:Array Bool) (β:Nat->Nat) (a:Act) (w:World),qC G.P W R Z ops [] st L U listed β a w->uG W R Z st U β K (Q' .normal)->(∀j,j<ops.size->listed.getD j false=true)->wpAnyIn (Fr r) mm G.P .any ops Q' fuel listed a w:=by
      intro fuel listed β a w inv hn cf;refine wpAnyIn_done ?_ ?_ fuel
      · refine List.eq_nil_iff_forall_not_mem.2 λj hj => ?_;obtain⟨h1,o,ho,_⟩:=mem_ready.1 hj
        have:=cf j (Array.getElem?_eq_some_iff.1 ho).1
        rw [getD_both h1]at this;cases this
      · unfold n8 at h
        have hf:(L.filter λp => !listed.getD p.j false)=[]:=by
          refine List.filter_eq_nil_iff.2 λp hp => ?_;obtain⟨o,ho,_⟩:=(inv.yi p hp).dst;rw [cf p.j (Array.getElem?_eq_some_iff.1 ho).1];simp
        have hC:=inv.core;rw [hf]at hC;exact hn st U β a w h (ar.le_refl _) (Env.an _ _) (λ_ _=>rfl) hC
    induction fuel with
    |zero =>
      intro listed β a w _ inv hu hn;exact done 0 listed β a w inv hn λj hj=>EX hu j hj
    |succ fuel ih =>
      intro listed β a w gW inv hu hn;refine⟨λcR => ?_,λx hx => ?_⟩
      · obtain⟨j,hj,kZ,cn⟩:=Hq (listed:=listed) (m:=ops.size) (by omega);have ho:ops[j]? = some ops[j]:=Array.getElem?_eq_getElem hj
        have:j∈Region.ready .any ops listed:=mem_ready.2 ⟨getD_in (by rw [inv.size];exact hj) kZ,_,ho,λe he hb=>cn e.on ((wg hd ho).1 e he hb)⟩
        rw [cR]at this;cases this
      · obtain⟨h1,o,ho,hr⟩:=mem_ready.1 hx;have pO:=(Array.getElem?_eq_some_iff.1 ho).1;have K8:x<listed.size:=by rw [inv.size];exact pO
        have fb:=getD_both h1;rcases inv.E7 x pO (by simp)with h2|⟨p,hp,rfl⟩
        · rw [fb]at h2;cases h2
        · refine RX hd inv hp fb (λj hj => ?_) λa' w' wF=>ih _ β a' w' gW wF ?_ hn
          · obtain⟨e,he,hb,rfl⟩:=(Dd ho).1 hj;exact hr e he hb
          · have:=Hr K8 fb ops.size
            rw [if_pos pO]at this;omega
  |i::rm,st,F,L,U,jR,hF,Hw,h,ij,fI=>by
    simp only [ng,Bool.and_eq_true,decide_eq_true_eq,Bool.not_eq_true']at jR;obtain⟨⟨⟨⟨xz,qw⟩,wD⟩,tn⟩,yk⟩:=jR;have ho:ops[i]? = some ops[i]:=Array.getElem?_eq_getElem xz;generalize ops[i]=o at ho;have ym:i ∉ rm:=λhm=>by rw [List.contains_iff_mem.2 hm]at qw;cases qw
    have tp:∀j∈cT ops i,j ∉ i::rm:=λj hj hm=>by
      have:=List.all_eq_true.1 wD j hj
      rw [List.contains_iff_mem.2 hm]at this;cases this
    unfold n8 at h;rw [St.norm_eq]at h;unfold DL DM at h;simp only [ho]at h tn;split at h;rotate_left
    · exact h.elim
    rename_i jn;split at h
    ·
      rename_i Bv;rw [Bv]at tn;simp only [Bool.not_true,Bool.false_or]at tn
      obtain⟨b,F',wE,hw,iJ,mV⟩:=R5 (st := {st with t:=bR st.t (L.filter λp => !(before ops i).contains p.j)}) hF (λd=>by
        rcases wz st.t (L.filter λp => !(before ops i).contains p.j) d with h|⟨h,_⟩
        · show (av (bR st.t _) d).wf st.c=true;rw [h];rfl
        · show (av (bR st.t _) d).wf st.c=true;rw [h];exact Hw d) h
      intro fuel
      induction fuel with
      |zero =>
        intro listed β a w _ inv hu hn;exact (inv.tK i (EX hu i xz) (by simp)).elim
      |succ fuel ih =>
        intro listed β a w gW inv hu hn;refine⟨λcR => ?_,λx hx => ?_⟩
        · obtain⟨j,hj,kZ,cn⟩:=Hq (listed:=listed) (m:=ops.size) (by omega);have ho:ops[j]? = some ops[j]:=Array.getElem?_eq_getElem hj
          have:j∈Region.ready .any ops listed:=mem_ready.2 ⟨getD_in (by rw [inv.size];exact hj) kZ,_,ho,λe he hb=>cn e.on ((wg hd ho).1 e he hb)⟩
          rw [cR]at this;cases this
        · obtain⟨h1,ox,Hy,hr⟩:=mem_ready.1 hx;have pO:=(Array.getElem?_eq_some_iff.1 Hy).1;have K8:x<listed.size:=by rw [inv.size];exact pO
          have fb:=getD_both h1
          have dC:∀j∈cT ops x,listed.getD j false=true:=λj hj=>by
            obtain⟨e,he,hb,rfl⟩:=(Dd Hy).1 hj;exact hr e he hb
          have kT:nt (listed.setIfInBounds x true) ops.size=fuel:=by
            have:=Hr K8 fb ops.size
            rw [if_pos pO]at this;omega
          by_cases Hz:x∈i::rm;rotate_left
          · rcases inv.E7 x pO Hz with h2|⟨p,hp,rfl⟩
            · rw [fb]at h2;cases h2
            · exact RX hd inv hp fb dC λa' w' wF=>ih _ β a' w' gW wF kT hn
          rcases List.mem_cons.1 Hz with rfl|Hz;rotate_left
          · obtain⟨j,hj,KM⟩:=List.any_eq_true.1 (List.all_eq_true.1 tn x Hz);exact (inv.tK j (dC j hj) (List.contains_iff_mem.1 KM)).elim
          rw [ho]at Hy;cases Hy
          have wo:Core W R Z U β {st with t:=bR st.t (L.filter λp => !(before ops x).contains p.j)} a w:=by
            refine K0 (st := {st with t:=bR st.t (L.filter λp => !listed.getD p.j false)}) inv.core (Below.refl _ _) rfl rfl (λd => ?_) λd kY => ?_
            · rcases wz st.t (L.filter λp => !(before ops x).contains p.j) d with h|⟨h,_⟩
              · rw [h];rfl
              · rw [h];exact inv.tw d
            · rcases wz st.t (L.filter λp => !(before ops x).contains p.j) d with h|⟨h,h2⟩
              · exact (kY h).elim
              · rw [h]at kY ⊢
                have e3:av (bR st.t (L.filter λq => !listed.getD q.j false)) d=av st.t d:=Db _ _ _ λq hq=>by
                  simp only [List.mem_filter,Bool.not_eq_true']at hq;refine h2 q (List.mem_filter.2 ⟨hq.1, ?_⟩)
                  have xC:q.j ∉ before ops x:=λxC=>by
                    have:=K7 inv.Dc dC _ xC
                    rw [this]at hq;cases hq.2
                  simpa using xC
                have h5:=inv.core.tmps d (by show av (bR st.t _) d ≠ .any;rw [e3];exact kY);rw [h5];show some ((av (bR st.t _) d).den U β)=_;rw [e3]
          have fW:∀d,o.dst=some d->d<a.tmps.size:=λd pR=>by
            rw [inv.core.size];rw [pR]at jn;simpa [qk]using jn
          unfold wpOpIn;simp only [ho];rw [RW hw λd _ kY=>wo.tmps d kY];cases b with
          |false =>
            simp only [Bool.false_eq_true,if_false];refine⟨λf _=>tW r f, ?_⟩;have CY:=mV rfl
            have dE:Core W R Z U β {st with t:=dQ (bR st.t (L.filter λp => !(before ops x).contains p.j)) o.dst .dF} (a.put o.dst undef) w:=by
              refine K0 wo (Below.refl _ _) (Hv _ _ _) (RT _ _ _) (λd => ?_) λd kY => ?_
              · rw [xB];split
                · rfl
                · exact wo.wf.t d
              · rw [Hu a o.dst undef d fW];rw [xB]at kY ⊢;by_cases oW:o.dst=some d
                · rw [if_pos oW,if_pos oW];rfl
                · rw [if_neg oW]at kY ⊢;rw [if_neg oW];exact wo.tmps d kY
            have inv2:=R3 hd inv ho ym tp dC jn dE (ar.le_refl _) (Env.an _ _) (λ_ _=>rfl) (E8 o a undef) (λp hp=>.inl λk hk=>rfl)
            have he:dQ st.t o.dst (match o.dst with|some d=>av (dQ (bR st.t (L.filter λp => !(before ops x).contains p.j)) o.dst .dF) d|none=>.any)=dQ st.t o.dst .dF:=by
              cases oW:o.dst with
              |none=>rfl
              |some d=>simp only [dQ,zl,if_true]
            simp only [he]at inv2;exact Fa hG hd hs rm _ _ _ U yk (by exact wE) (by exact inv2.tw) CY ij fI fuel _ β _ w gW inv2 kT (hn.lN (ar.le_refl _) (Env.an _ _) λ_ _=>rfl)
          |true =>
            simp only [if_true];refine V5 ?_;refine hs _ o _ U (iJ rfl) ij fI β a w gW wo _ λs aw bc a2 w2 hk hc hl hb dE fM => ?_;dsimp only at hk;split at hk;rotate_left
            · exact hk.elim
            rename_i lZ
            have inv2:=R3 hd inv ho ym tp dC jn dE hc hl hb fM (λp hp=>by
              have h0:=List.all_eq_true.1 lZ p hp;rw [Bool.or_eq_true]at h0;rcases h0 with h0|h0
              · refine .inl λk jk => ?_
                have:=List.all_eq_true.1 h0 k jk
                simp only [y8,Bool.and_eq_true,decide_eq_true_eq]at this;unfold aE;rw [this.1,this.2]
              · exact .inr h0)
            exact Fa hG hd hs rm _ _ _ aw yk (by exact wE.mono hc hl) (by exact inv2.tw) hk (ar.le_trans ij hc) (Env.ah ij fI hl) fuel _ bc a2 w2 (λk hk=>(hb k (Nat.lt_of_lt_of_le hk ij.k)).trans (gW k hk)) inv2 kT (hn.lN hc hl hb)
    ·
      rename_i Bv;intro fuel listed β a w gW inv hu hn;have rV:st.WF:=⟨inv.tw,inv.core.wf.m,inv.core.wf.o,inv.core.wf.ap,inv.core.wf.r,inv.core.wf.d,inv.core.wf.k,inv.core.wf.df⟩;have nd:∀c,o.op ≠ .defer c:=λc he=>Bv (by unfold mB;rw [he]);obtain⟨b,F',wE,hw,iJ,mV⟩:=R5 hF Hw h;cases b with
      |true =>
        obtain⟨v,c,k,af,F2,Wf,g1,g2,g3,g4,g5,g6,g7,g8⟩:=Wd hG rV wE inv.core.kn (iJ rfl);have inv2:=R6 hd inv ho ym tp jn (rd:=aU st o) (ld:=xL G.P st o) g2 g4 g5 g6 g7 nd hw (λe=>absurd e (by simp)) (λ_=>⟨g8,λk hk=>hk⟩) (λq hq=>V7 hq);exact Fa hG hd hs rm _ _ _ af yk (by exact Wf) (by exact inv2.tw) g1 (ar.le_trans ij g2) (Env.ah ij fI g4) fuel listed β a w gW inv2 hu (hn.lN g2 g4 λ_ _=>rfl)
      |false =>
        have inv2:=R6 hd inv ho ym tp jn (rd := []) (v := .dF) (ar.le_refl st.c) (Env.an _ _) rfl rV.k inv.core.kn nd hw (λ_=>rfl) (λe=>absurd e (by simp)) (ld:=none) (λq hq=>by cases hq);exact Fa hG hd hs rm _ _ _ U yk (by exact wE) (by exact inv2.tw) (mV rfl) ij fI fuel listed β a w gW inv2 hu (hn.lN (ar.le_refl _) (Env.an _ _) λ_ _=>rfl)
end Vc
set_option linter.unusedVariables false
namespace Vc
open Go Go.RowKit
variable {P:Program} {W:dR} {Q:Value->Prop} {QM QP:World->Value->Prop} {R:Nat->Loop} {Z:List Nat}
attribute [local irreducible] behind in
theorem R7(ops:Array Oper):∀m,mA ops m<=m/\∀i,mA ops m<=i->i<m->∀j,j<i->CA ops i j=true
  |0=>⟨Nat.le_refl _,λi _ h=>by omega⟩
  |m+1=>by
    obtain⟨h1,h2⟩:=R7 ops m;unfold mA;split
    · rename_i cf;refine⟨by omega,λi h3 h4 j hj => ?_⟩;by_cases Hs:i=m
      · subst Hs;exact List.all_eq_true.1 cf j (List.mem_range.2 hj)
      · exact h2 i h3 (by omega) j hj
    · exact⟨Nat.le_refl _,λi h3 h4=>by omega⟩
section
variable {ops:Array Oper} {n:Nat} {r:Option Nat} {mm:Nat} {Q':Exit->Act->World->Prop}
theorem R8(hd:dH ops=true)(hcut:∀ i,n<=i->i < ops.size->∀ j,j < i->CA ops i j=true) :
    ∀(l:List Oper) (i:Nat) (fuel:Nat) (listed:Array Bool) (a:Act) (w:World),(∀j,l[j]? = ops[i+j]?)->n<=i->i+l.length=ops.size->listed.size=ops.size->(∀j,listed.getD j false=true↔j<i) ->
      wpListIn (Fr r) mm P ops Q' l a w->l.length<=fuel->wpAnyIn (Fr r) mm P .any ops Q' fuel listed a w
  | [],i,fuel,listed,a,w,hl,hn,hlen,fW,uL,h,hf=>by
    refine wpAnyIn_done ?_ h fuel;refine List.eq_nil_iff_forall_not_mem.2 λj hj => ?_;obtain⟨h1,o,ho,_⟩:=mem_ready.1 hj;have Az:=(Array.getElem?_eq_some_iff.1 ho).1
    have:=(uL j).2 (by simp at hlen;omega)
    rw [getD_both h1]at this;cases this
  |o::l,i,0,listed,a,w,hl,hn,hlen,fW,uL,h,hf=>by simp at hf
  |o::l,i,fuel+1,listed,a,w,hl,hn,hlen,fW,uL,h,hf=>by
    have ho:ops[i]? = some o:=by have:=hl 0;simpa using this.symm
    have hi:i<ops.size:=(Array.getElem?_eq_some_iff.1 ho).1
    have fb:listed.getD i false=false:=by
      cases hx:listed.getD i false with
      |false=>rfl
      |true=>have:=(uL i).1 hx;omega
    have yn:∀j oj,ops[j]? = some oj->listed.getD j false=true->∀e∈oj.after,Region.binds .any e=true->listed.getD e.on false=true:=λj oj hj kZ e he hb=>by
      have:=(uL j).1 kZ
      have:=(wg hd hj).1 e he hb
      exact (uL e.on).2 (by omega)
    refine⟨λcR => ?_,λj hj => ?_⟩
    · exfalso
      have:i∈Region.ready .any ops listed:=mem_ready.2 ⟨getD_in (by rw [fW];exact hi) fb,o,ho,λe he hb=>(uL e.on).2 ((wg hd ho).1 e he hb)⟩
      rw [cR]at this;cases this
    · obtain⟨h1,oj,R9,hr⟩:=mem_ready.1 hj;have Az:=(Array.getElem?_eq_some_iff.1 R9).1
      have qy:j=i:=by
        rcases Nat.lt_or_ge j i with a1|a1
        · have:=(uL j).2 a1
          rw [getD_both h1]at this;cases this
        · rcases Nat.lt_or_ge i j with a2|a2
          · have:=KS yn R9 hr (hcut j (by omega) Az i a2)
            rw [fb]at this;cases this
          · omega
      subst qy
      have h2:wpOpIn (Fr r) mm P ops Q' j (wpListIn (Fr r) mm P ops Q' l) a w:=by
        unfold wpOpIn;simp only [ho];exact h
      have ti:j<listed.size:=by rw [fW];exact Az
      refine wpOpIn_mono (λa' w' h3=>R8 hd hcut l (j+1) fuel _ a' w' (λk => ?_) (by omega) (by simp at hlen;omega) (by simp [fW]) (λk => ?_) h3 (by simpa using hf)) h2
      · have:=hl (k+1)
        rw [show j+1+k=j+(k+1) by omega];simpa using this
      · rw [zO listed j k ti];by_cases sX:j=k
        · subst sX;simp
        · rw [if_neg sX,uL k];omega
theorem R_{listed:Array Bool}(h:∀j,listed.getD j false=true↔j<n):∀m,nt listed m=m-n
  |0=>by simp [nt]
  |m+1=>by
    simp only [nt,R_ h m];by_cases hm:m<n
    · rw [if_pos ((h m).2 hm)];omega
    · rw [if_neg (λe=>hm ((h m).1 e))];omega
variable {U:Env} {sts:Nat->St} {gj:Nat->SV} {cs:Nat->List Nat} {rd wr:List (Nat × Nat)}
theorem K9(hw:Way P W ops n U sts gj cs rd wr)(hd:dH ops=true)(hcut:∀ i,n<=i->i < ops.size->∀ j,j < i->CA ops i j=true){a0:Act}{bu:Nat->Nat}{w0:World}(hC:Core W R Z U bu (sts 0) a0 w0)
    (hQ:∀a w β,(∀k,k<(sts 0).c.nk->β k=bu k)->Core W R Z U β (sts n) a w->wpListIn (Fr r) mm P ops Q' (ops.toList.drop n) a w) :
    ∀(fuel:Nat) (listed:Array Bool) (a:Act) (w:World) (β:Nat->Nat),Inv W R Z ops n U sts cs a0 bu listed a w β->nt listed ops.size=fuel->wpAnyIn (Fr r) mm P .any ops Q' fuel listed a w:=by
  have done:∀(fuel:Nat) (listed:Array Bool) (a:Act) (w:World) (β:Nat->Nat),Inv W R Z ops n U sts cs a0 bu listed a w β->nt listed ops.size=fuel->(∀j,j<n->listed.getD j false=true)->wpAnyIn (Fr r) mm P .any ops Q' fuel listed a w:=by
    intro fuel listed a w β inv hu cf
    have uL:∀j,listed.getD j false=true↔j<n:=λj=>by
      refine⟨λh => ?_,cf j⟩;rcases Nat.lt_or_ge j n with h'|h'
      · exact h'
      · rw [inv.only j h']at h;cases h
    have hle:=hw.le;rw [R_ uL]at hu;refine R8 hd hcut (ops.toList.drop n) n fuel listed a w (λj=>by simp) (Nat.le_refl _) (by simp;omega) inv.qx uL (hQ a w β inv.agree (KZ hw hC inv cf)) (by simp;omega)
  intro fuel
  induction fuel with
  |zero =>
    intro listed a w β inv hu;exact done 0 listed a w β inv hu λj hj=>EX hu j (Nat.lt_of_lt_of_le hj hw.le)
  |succ fuel ih =>
    intro listed a w β inv hu;by_cases cf:∀j,j<n->listed.getD j false=true
    · exact done (fuel+1) listed a w β inv hu cf
    · refine⟨λcR => ?_,λi hi => ?_⟩
      · exfalso;obtain⟨j,hj,kZ,cn⟩:=Hq (listed:=listed) (m:=ops.size) (by omega);have ho:ops[j]? = some ops[j]:=Array.getElem?_eq_getElem hj
        have:j∈Region.ready .any ops listed:=mem_ready.2 ⟨getD_in (by rw [inv.qx];exact hj) kZ,_,ho,λe he hb=>cn e.on ((wg hd ho).1 e he hb)⟩
        rw [cR]at this;cases this
      · obtain⟨h1,o,ho,hr⟩:=mem_ready.1 hi;have xz:=(Array.getElem?_eq_some_iff.1 ho).1;have rT:i<listed.size:=by rw [inv.qx];exact xz
        have pM:i<n:=by
          rcases Nat.lt_or_ge i n with h'|h'
          · exact h'
          · exact (cf λj hj=>KS inv.closed ho hr (hcut i h' xz j (by omega))).elim
        refine KW hw hd hC inv pM ho (getD_both h1) hr λa' w' ak wF=>ih _ a' w' ak wF ?_
        have:=Hr rT (getD_both h1) ops.size
        rw [if_pos xz]at this;omega
end
theorem Sa(a i k:Nat)(l:List (Nat × Nat)):∀(L:List Nat),(L.map (λj=>(a+j,i))++l).lookup k=if ∃j∈L,a+j=k then some i else l.lookup k
  | []=>by simp
  |x::L=>by
    simp only [List.map_cons,List.cons_append,List.lookup_cons,Sa a i k l L];by_cases h:k=a+x
    · subst h;simp
    · have:(k == a+x)=false:=by simpa using h
      rw [this]
      have e:(∃j∈x::L,a+j=k)↔∃j∈L,a+j=k:=by
        constructor
        · rintro ⟨j,hj,rfl⟩;rcases List.mem_cons.1 hj with rfl|hj
          · exact (h rfl).elim
          · exact⟨j,hj,rfl⟩
        · rintro ⟨j,hj,he⟩;exact⟨j,List.mem_cons_of_mem _ hj,he⟩
      by_cases h2:∃j∈L,a+j=k
      · rw [if_pos h2,if_pos (e.2 h2)]
      · rw [if_neg h2,if_neg (λh3=>h2 (e.1 h3))]
theorem Wg(a b i k:Nat)(l:List (Nat × Nat)):(gH a b i++l).lookup k=if a<=k/\k<b then some i else l.lookup k:=by
 unfold gH;rw [Sa]
 have e:(∃j∈List.range (b-a),a+j=k)↔(a<=k/\k<b):=by
  constructor
  ·rintro ⟨j,hj,rfl⟩
   have:=List.mem_range.1 hj
   omega
  ·intro h;exact⟨k-a,List.mem_range.2 (by omega),by omega⟩
 by_cases h:a<=k/\k<b
 ·rw [if_pos h,if_pos (e.2 h)]
 ·rw [if_neg h,if_neg (λh2=>h (e.1 h2))]
theorem Sb(a i:Nat):gH a a i=[]:=by simp [gH]
def tq (G:bF) (W:dR) (ops:Array Oper) (K:St->Env->Prop) (l:List Oper) (i:Nat) (d:DS) (st:St) (U:Env):Prop :=
    ∃(sts:Nat->St) (gj:Nat->SV) (cs:Nat->List Nat) (ds:Nat->DS) (nN:Env),sts i=st/\ds i=d/\K (sts (i+l.length)) nN/\Env.ay st.c U nN/\rG ops (ds (i+l.length)).rd (ds (i+l.length)).wr=true /\
      (∀k∈d.rd,k∈(ds (i+l.length)).rd)/\(∀k∈d.wr,k∈(ds (i+l.length)).wr)/\(∀j,j<=l.length->(sts (i+j)).WF/\n7 (ds (i+j)).al (sts (i+j)).o=true) /\
      ∀j o,l[j]? = some o->((ds (i+j+1)).al=gH (sts (i+j)).c.nk (sts (i+j+1)).c.nk (i+j)++(ds (i+j)).al) /\
        uI G.P W ops nN (λk=>(ds (i+j)).eI ops (i+j) k=true) (i+j) (ds (i+l.length)).rd (ds (i+l.length)).wr (sts (i+j)) o (sts (i+j+1)) (gj (i+j)) (cs (i+j))
theorem Wh{G:bF}(hG:G.Ok){st:St}{o:Oper}{K:St->Env->Prop}{U:Env}(wf:st.WF)(eR:bV.den st.k U)(h:IK (PA G.P W Q QM QP) G st o K U):pL G.P W st o K U/\∀c,o.op ≠ .defer c:=by
 have il:nc (PA G.P W Q QM QP) G st o K U->pL G.P W st o K U/\∀c,o.op ≠ .defer c:=λh=>⟨QO hG wf eR h,Q4 h⟩;have Bf:yZ (PA G.P W Q QM QP) G st o K U->pL G.P W st o K U/\∀c,o.op ≠ .defer c:=λh=>⟨QW wf h,Q6 h⟩;obtain⟨dst,op,type,pos,after,guard⟩:=o;unfold IK at h;have jl:nf (PA G.P W Q QM QP) G st ⟨dst,op,type,pos,after,guard⟩ K U->pL G.P W st ⟨dst,op,type,pos,after,guard⟩ K U/\∀c,(⟨dst,op,type,pos,after,guard⟩:Oper).op ≠ .defer c:=λh=>⟨Q0 wf h,Q7 h⟩;cases op<;>first|exact il h|skip
 case buildSlice t len parts =>
  simp only at h;split at h
  ·exact jl h
  ·exact il h
 case store t a x =>
  simp only at h;generalize st.ev a=sa at h;split at h
  ·exact jl h
  ·exact il h
 case makeMap t rs=>exact jl h
 case mapUpdate t m k v=>exact jl h
 case insert t m k v=>exact jl h
 case convert s d x =>
  simp only at h;split at h
  ·exact jl h
  ·exact il h
 rename_i cl;obtain⟨callee,args,argTypes⟩:=cl;cases callee<;>first|exact il h|skip
 rename_i b;cases b<;>first|exact il h|exact Bf h
theorem Sc{G:bF}(hG:G.Ok){ops:Array Oper}{K:St->Env->Prop}:∀(l:List Oper) (i:Nat) (d:DS) (st:St) (U:Env),gQ (PA G.P W Q QM QP) G ops i l d st K U->st.WF->bV.den st.k U->n7 d.al st.o=true->tq G W ops K l i d st U
  | [],i,d,st,U,h,hw,_,jm=>by
    unfold gQ at h;split at h;rotate_left
    · exact h.elim
    · rename_i cW;refine⟨λ_=>st,λ_=>.dF,λ_=>[],λ_=>d,U,rfl,rfl,h,Env.an _ _,cW,λ_ h=>h,λ_ h=>h,λ_ _=>⟨hw,jm⟩,λj o hj=>by simp at hj⟩
  |o::r,i,d,st,U,h,hw,t_,jm=>by
    have glue:∀ (s':St) (d':DS) (af:Env) (sv:SV) (C:List Nat),gQ (PA G.P W Q QM QP) G ops (i + 1) r d' s' K af->s'.WF->bV.den s'.k af->n7 d'.al s'.o=true->st.c.le s'.c->Env.ay st.c U af->(∀ k∈d.rd,k∈d'.rd)->(∀ k∈d.wr,k∈d'.wr) ->
        (d'.al=gH st.c.nk s'.c.nk i++d.al) ->
        (∀J,Env.ay s'.c af J->∀rd wr,(∀k∈d'.rd,k∈rd)->(∀k∈d'.wr,k∈wr)->uI G.P W ops J (λk=>d.eI ops i k=true) i rd wr st o s' sv C)->tq G W ops K (o::r) i d st U:=by
      intro s' d' af sv C hx HA sR Wi hle cX dC kz xn hf;obtain⟨sts,gj,cs,ds,nN,e1,e2,e3,e4,e5,e6,e7,e8,e9⟩:=Sc hG r (i+1) d' s' af hx HA sR Wi;have hlen:i+(o::r).length=i+1+r.length:=by simp;omega
      refine⟨λj=>if j<=i then st else sts j,λj=>if j<=i then sv else gj j,λj=>if j<=i then C else cs j,λj=>if j<=i then d else ds j,nN,if_pos (Nat.le_refl _),if_pos (Nat.le_refl _), ?_⟩;have c1:¬(i+1+r.length<=i):=by omega
      rw [hlen];simp only [c1,if_false];refine⟨e3,Env.ah hle cX e4,e5,λk hk=>e6 k (dC k hk),λk hk=>e7 k (kz k hk),λj hj => ?_,λj o' hj => ?_⟩
      · by_cases D9:j=0
        · subst D9;simp only [Nat.add_zero,Nat.le_refl,if_true];exact⟨hw,jm⟩
        · have c2:¬(i+j<=i):=by omega
          simp only [c2,if_false]
          have:=e8 (j-1) (by simp at hj;omega)
          rwa [show i+1+(j-1)=i+j by omega]at this
      · cases j with
        |zero =>
          simp only [List.getElem?_cons_zero,Option.some.injEq]at hj;subst hj;have c2:¬(i+0+1<=i):=by omega
          simp only [Nat.add_zero,Nat.le_refl,if_true];have c3:¬(i+1<=i):=by omega
          simp only [c3,if_false,e1,e2];exact⟨xn,hf nN e4 _ _ e6 e7⟩
        |succ j =>
          have c2:¬(i+(j+1)<=i):=by omega
          have c3:¬(i+(j+1)+1<=i):=by omega
          simp only [c2,c3,if_false]
          have:=e9 j o' (by simpa using hj)
          rw [show i+1+j=i+(j+1) by omega]at this;exact this
    have run:∀ (s1:St),s1.WF->s1.k=st.k->s1.c=st.c->(∀ J,Env.ay st.c U J->oV J st s1)->(∀ J,Env.ay st.c U J->dp ops J st o true) ->
        qj (PA G.P W Q QM QP) G ops i d s1 o (λd' s=>gQ (PA G.P W Q QM QP) G ops (i+1) r d' s K) U->tq G W ops K (o::r) i d st U:=by
      intro s1 qX si kV eR E' hs;unfold qj at hs;by_cases hold:(aU s1 o++aQ s1 o++cN s1 o).all (d.eI ops i)=true
      · rw [if_pos hold]at hs;obtain⟨⟨s',af,sv,C,g1,g2,g3,g4⟩,nd⟩:=Wh hG qX (by rw [si];exact t_) hs;dsimp only at g1;by_cases gy:(IJ ops i d o s' && n7 (gH s1.c.nk s'.c.nk i++d.al) s'.o)=true
        · rw [if_pos gy]at g1;rw [Bool.and_eq_true]at gy;obtain⟨q1,q2⟩:=gy;unfold IJ at q1;refine glue s' _ af sv C g1 (g4 af (Env.an _ _)).wf ((g4 af (Env.an _ _)).kn (bV.aa g3 qX.k (by rw [si];exact t_))) q2 (by rw [<-kV];exact g2) (by rw [<-kV];exact g3) (λk hk=>List.mem_append.2 (.inr hk)) (λk hk=>List.mem_append.2 (.inr hk)) (by rw [kV]) ?_;intro J hl rd wr h1 h2;have fX:Env.ay st.c U J:=by rw [<-kV];exact Env.ah g2 g3 hl
          have hf:=g4 J hl;refine .run s1 s' sv C (eR J fX) (E' J fX) nd hf (λk hk=>List.all_eq_true.1 hold k hk) (λx hx k hk => ?_) (λk hk=>h1 _ (List.mem_append.2 (.inl (List.mem_map.2 ⟨k,hk,rfl⟩)))) (λk hk=>h2 _ (List.mem_append.2 (.inl (List.mem_map.2 ⟨k,hk,rfl⟩))));rw [hx]at q1;have zC:=hf.slot x;rw [if_pos hx]at zC;exact List.all_eq_true.1 q1 k (by rw [zC];exact hk)
        · rw [if_neg gy]at g1;exact g1.elim
      · rw [if_neg hold]at hs;exact hs.elim
    have oX:∀{x:Nat} {b:Bool},(st.cQ x b).WF:=λ{x b}=>by
      refine⟨λi => ?_,hw.m,hw.o,hw.ap,hw.r,hw.d,hw.k,hw.df⟩;simp only [St.cQ,zl];by_cases hi:x=i
      · rw [if_pos hi];rfl
      · rw [if_neg hi];exact hw.t i
    unfold gQ at h;cases sU:o.guard with
    |none =>
      simp only [sU]at h;exact run st hw rfl rfl (λ_ _=>.refl) (λ_ _=>by unfold dp;rw [sU]) h
    |some jw =>
      obtain⟨j,want⟩:=jw;simp only [sU]at h;generalize pR:(ops[j]?).bind (·.dst)=u at h;cases u with
      |none=>exact h.elim
      |some x =>
        simp only at h;split at h
        · rename_i cn;generalize hg:av st.t x=sv at h;split at h
          · rename_i e;have we:e.wf st.c=true:=by have:=hw.t x;rw [hg]at this;exact this
            have kn:∀b,e.den U=b->∀J,Env.ay st.c U J->oV J st (st.cQ x b):=λb hb J hl=>.cQ x b e hg (by rw [BE.aa hl we];exact hb)
            have wt:∀b c,e.den U=b->(b == want)=c->∀J,Env.ay st.c U J->dp ops J st o c:=by
              intro b c hb hc J hl;unfold dp;rw [sU];exact⟨x,pR,.inl ⟨e,hg,by rw [BE.aa hl we,hb];exact hc⟩⟩
            have Sd:∀b,e.den U=b->(b == want)=false->(St.put (PA G.P W Q QM QP) (st.cQ x b) o.dst .dF st.c λs=>gQ (PA G.P W Q QM QP) G ops (i+1) r d s K) U->tq G W ops K (o::r) i d st U:=by
              intro b hb hc hp;obtain⟨p1,p2⟩:=zh hp;obtain⟨q1,q2,q3,q4,q5,q6⟩:=zz (st.cQ x b) o.dst .dF st.c;refine glue _ d U .dF [] p1 (Ef oX (ar.le_refl _) p2) (by rw [(zn _ _ _ _).1];exact t_) (by rw [q4];exact jm) (by rw [q1];exact ar.le_refl _) (Env.an _ _) (λ_ h=>h) (λ_ h=>h) (by rw [q1,Sb];rfl) ?_;intro J hl rd wr _ _;rw [q1]at hl;exact .skip (st.cQ x b) (kn b hb J hl) (wt b false hb hc J hl) p2
            rcases zw h with ⟨hb,h⟩|⟨hb,h⟩
            · cases want with
              |true=>exact run (st.cQ x true) oX rfl rfl (kn true hb) (wt true true hb rfl) h
              |false=>exact Sd true hb rfl h
            · cases want with
              |true=>exact Sd false hb rfl h
              |false=>exact run (st.cQ x false) oX rfl rfl (kn false hb) (wt false true hb rfl) h
          · obtain⟨p1,p2⟩:=zh h;obtain⟨q1,q2,q3,q4,q5,q6⟩:=zz st o.dst .dF st.c;refine glue _ d U .dF [] p1 (Ef hw (ar.le_refl _) p2) (by rw [(zn _ _ _ _).1];exact t_) (by rw [q4];exact jm) (by rw [q1];exact ar.le_refl _) (Env.an _ _) (λ_ h=>h) (λ_ h=>h) (by rw [q1,Sb];rfl) ?_;intro J hl rd wr _ _;refine .skip st .refl ?_ p2;unfold dp;rw [sU];exact⟨x,pR,.inr ⟨hg,rfl⟩⟩
          · exact h.elim
        · exact h.elim
theorem Se{sts:Nat->St}{ds:Nat->DS}{n:Nat}(h0:(ds 0).al=[])(xn:∀ j,j < n->(ds (j + 1)).al=gH (sts j).c.nk (sts (j + 1)).c.nk j++(ds j).al)
    (tU:∀i j,i<=j->j<=n->(sts i).c.nk<=(sts j).c.nk):∀(i:Nat),i<=n->∀m k,(ds i).al.lookup k=some m↔(m<i/\laid sts m k)
  |0,_,m,k=>by rw [h0];simp
  |i+1,hi,m,k=>by
    rw [xn i (by omega),Wg];have ih:=Se h0 xn tU i (by omega) m k;by_cases hk:(sts i).c.nk<=k/\k<(sts (i+1)).c.nk
    · rw [if_pos hk];constructor
      · intro h;cases h;exact⟨by omega,hk⟩
      · rintro ⟨h1,h2⟩;rcases Nat.lt_or_ge m i with h'|h'
        · have:=tU (m+1) i (by omega) (by omega)
          have:=h2.2
          omega
        · have:m=i:=by omega
          rw [this]
    · rw [if_neg hk,ih];constructor
      · rintro ⟨h1,h2⟩;exact⟨by omega,h2⟩
      · rintro ⟨h1,h2⟩;refine⟨?_,h2⟩;rcases Nat.lt_or_ge m i with h'|h'
        · exact h'
        · have:m=i:=by omega
          subst this;exact (hk h2).elim
theorem uI.imp{ops:Array Oper}{U:Env}{eI Fb:Nat->Prop}{i:Nat}{rd wr:List (Nat × Nat)}{s s':St}{o:Oper}{sv:SV}{C:List Nat}(h:uI P W ops U eI i rd wr s o s' sv C)(h1:∀k,eI k->Fb k):uI P W ops U Fb i rd wr s o s' sv C:=by
 cases h with
 |skip s1 k w p=>exact .skip s1 k w p
 |run s1 _ _ _ k w nd f a1 a2 a4 a5=>exact .run s1 _ _ _ k w nd f (λk hk=>h1 k (a1 k hk)) (λx hx k hk=>h1 k (a2 x hx k hk)) a4 a5
theorem Sf{ops:Array Oper}{x y:Nat × Nat}(h:xJ ops x y=true)(he:x.1=y.1):x.2=y.2∨(y.2<x.2/\oH ops x.2 y.2=true)∨(x.2<y.2/\oH ops y.2 x.2=true):=by
 unfold xJ at h;simp only [Bool.or_eq_true,decide_eq_true_eq,Bool.and_eq_true]at h;rcases h with ((h|h)|h)|h
 ·exact (h he).elim
 ·exact .inl h
 ·exact .inr (.inl h)
 ·exact .inr (.inr h)
theorem Sh{G:bF}(hG:G.Ok)(hm:G.P.follows .mixedOrders=true):vX G W Q QM QP:=by
  intro R Z r n inl yl qT KP id ops st K U h β a w hC Q' hI hY rP hP next hq hn
  unfold rH at h;rw [II]at h;by_cases hd:dH ops=true
  · rw [if_pos hd]at h;by_cases wG:oJ G.P ops=true
    · rw [if_pos wG]at h;unfold oJ at wG;simp only [Bool.and_eq_true]at wG;obtain⟨⟨_,jR⟩,K_⟩:=wG
      have hu:∀m,m<=ops.size->nt (Array.replicate ops.size false) m=m:=by
        intro m
        induction m with
        |zero=>intro _;rfl
        |succ m ih =>
          intro zN;simp only [nt,ih (by omega)];rw [if_neg (by rw [Array.getD_eq_getD_getElem?,Array.getElem?_replicate];split<;>simp)]
      have hf:∀j,(Array.replicate ops.size false).getD j false=false:=λj=>by
        rw [Array.getD_eq_getD_getElem?,Array.getElem?_replicate];split<;>rfl
      have hB:Below w.heap.size w {w with drawn:=w.drawn+1}:=(Below.refl _ w).drew
      have wo:Core W R Z U β st a {w with drawn:=w.drawn+1} :=
        ⟨hC.size,hC.tmps,hC.jF,hC.below.drew,λk e hg=>(hC.mem k e hg).wc (λ_ _=>rfl) (λ_ _=>rfl) (λ_ _=>rfl),hC.inj,hC.ft,hC.jz,hC.gd,hC.dn,hC.wf,hC.kn⟩
      refine wpIn_region_any hm ?_;refine Fa hG hd (J9 hG hI hY rP hP) (oI G.P ops) st [] [] U jR (λx hx=>by cases hx) hC.wf.t h (ar.le_refl _) (Env.an _ _) ops.size _ β a _ (λ_ _=>rfl) ⟨by simp,λj oj _ h=>(by rw [hf j]at h;cases h),λj h=>(by rw [hf j]at h;cases h),λj hj Bs => ?_,λp hp=>(by cases hp),hC.wf.t,wo⟩ (hu _ (Nat.le_refl _)) ?_
      · exact (Bs (List.contains_iff_mem.1 (List.all_eq_true.1 K_ j (List.mem_range.2 hj)))).elim
      · exact λs aw bc a2 w2 h1 h2 h3 h4 h5=>hq _ _ (hn s aw bc a2 w2 h1 h2 h3 h4 h5)
    rw [if_neg wG]at h;obtain⟨iz,hcut⟩:=R7 ops ops.size;generalize mA ops ops.size=nn at h iz hcut;obtain⟨sts,gj,cs,ds,nN,e1,e2,e3,e4,e5,_,_,e8,e9⟩:=Sc hG (ops.toList.take nn) 0 ⟨[],[],[]⟩ st U h hC.wf hC.kn (by unfold n7;simp);have hlen:(ops.toList.take nn).length=nn:=by simp;omega
    simp only [Nat.zero_add,hlen]at e3 e5 e8 e9;have La:∀j o,j<nn->ops[j]? = some o->_:=λj o hj ho=>e9 j o (by rw [List.getElem?_take,if_pos hj];simpa using ho)
    have kS:∀j,j<nn->ops[j]? = some (ops[j]!):=λj hj=>by
      rw [getElem!_pos ops j (by omega),Array.getElem?_eq_getElem (by omega)]
    have tU:∀j i,i<=j->j<=nn->(sts i).c.nk<=(sts j).c.nk:=by
      intro j
      induction j with
      | zero => intro i h _;obtain rfl:i=0:=by omega
                exact Nat.le_refl _
      |succ j ih =>
        intro i h hj;by_cases hi:i=j+1
        · subst hi;exact Nat.le_refl _
        · obtain⟨s1,k1,lj⟩:=(La j _ (by omega) (kS j (by omega))).2.eK (e8 j (by omega)).1
          have:=lj.G5.k
          rw [k1.c.1]at this;exact Nat.le_trans (ih i (by omega) (by omega)) this
    have cX:=Se (sts:=sts) (ds:=ds) (n:=nn) (by rw [e2]) (λj hj=>(La j _ hj (kS j hj)).1) (λi j h1 h2=>tU j i h1 h2)
    have hw:Way G.P W ops nn nN sts gj cs (ds nn).rd (ds nn).wr:=by
      refine⟨iz,λi hi=>(e8 i hi).1,λi o hi ho => ?_,λk i j h1 h2 => ?_,λi hi k ce sz t hg m kA d Zk hl => ?_⟩
      · refine (La i o hi ho).2.imp λk hk m KY hl => ?_
        have:=(cX i (by omega) m k).2 ⟨KY,hl⟩
        simpa [DS.eI,this]using hk
      · unfold rG at e5;rw [Bool.and_eq_true]at e5;rcases h1 with h1|h1
        · exact Sf (List.all_eq_true.1 (List.all_eq_true.1 e5.1 _ h1) _ h2) rfl
        · exact Sf (List.all_eq_true.1 (List.all_eq_true.1 e5.2 _ h1) _ h2) rfl
      · have iJ:aG (sts i).o k=some (ce,sz,t):=by
          unfold aE at hg;split at hg
          · cases hg
          · split at hg
            · rename_i h3;simp only [Option.some.injEq,pI.row.injEq]at hg;obtain⟨rfl,rfl,rfl⟩:=hg;exact h3
            · cases hg
        have Ht:=(e8 i hi).1.o k ce sz t iJ;rcases Nat.lt_or_ge m i with h'|h'
        · have hb:=List.all_eq_true.1 (e8 i hi).2 _ (Hh iJ);simp only [List.all_cons,List.all_nil,Bool.and_true,Bool.and_eq_true,decide_eq_true_eq]at hb;have h5:=(cX i hi m (k+d)).2 ⟨h',hl⟩
          have h6:(ds i).al.lookup k=some m:=by
            rcases (by omega:d=0∨d=1∨d=2∨d=3)with rfl|rfl|rfl|rfl
            · exact h5
            · rw [<-hb.1];exact h5
            · rw [<-hb.2.1];exact h5
            · rw [<-hb.2.2];exact h5
          exact ((cX i hi m k).1 h6).2
        · have:=tU m i h' (by omega)
          have:=hl.1
          have:=Ht.1
          omega
    have hB:Below w.heap.size w {w with drawn:=w.drawn+1}:=(Below.refl _ w).drew
    have wo:Core W R Z nN β (sts 0) a {w with drawn:=w.drawn+1}:=by
      rw [e1];have oe:=hC.ay e4;exact⟨oe.size,oe.tmps,oe.jF,oe.below.drew,λk e hg=>(oe.mem k e hg).wc (λ_ _=>rfl) (λ_ _=>rfl) (λ_ _=>rfl),oe.inj,oe.ft,oe.jz,oe.gd,oe.dn,oe.wf,oe.kn⟩
    refine wpIn_region_any hm ?_
    have hu:∀m,m<=ops.size->nt (Array.replicate ops.size false) m=m:=by
      intro m
      induction m with
      |zero=>intro _;rfl
      |succ m ih =>
        intro zN;simp only [nt,ih (by omega)];rw [if_neg (by rw [Array.getD_eq_getD_getElem?,Array.getElem?_replicate];split<;>simp)]
    have hle:=(hw.n0 nn (Nat.le_refl _)).2.2.2;rw [e1]at hle;refine K9 hw hd hcut wo (λa' w' ak Lb dY => ?_) ops.size _ a _ β (V1 hw wo) (hu _ (Nat.le_refl _));rw [e1]at Lb;exact J6 (J9 hG hI hY rP hP) (ops.toList.drop nn) (sts nn) nN e3 hle e4 ak a' w' Lb dY next hq (hn.lN hle e4 Lb)
  · rw [if_neg hd]at h;exact h.elim
theorem Si{G:bF}(hG:G.Ok)(hm:G.P.follows .mixedOrders=true){f:FuncId}{fn:Func}{b:Code}(hf:G.P.funcs[f]? = some fn)(hb:fn.body=some b){args:List SV}{c:ar}{U:Env}{w:World}(n:Nat)
  {kn:bV} (eR:bV.wf kn c/\bV.den kn U) (hw:args.all (SV.wf c)=true) (h:sJ (PA G.P ⟨w,[]⟩ Q QM QP) G n fn b args c kn U) :
  Calls G.P f (args.map (SV.den U b0)).toArray w λe w'=>(∃v,e=.returned v/\Below w.heap.size w w'/\(Q v∨QM w' v))∨∃v,e=.panicked [{v:=v,recovered:=false}]/\Below w.heap.size w w'/\QP w' v:=by
 refine Kc (n:=0) hf hb ?_;have hC:=Vt (W:=⟨w,[]⟩) (R:=λ_ => {state := .ready,pending:=none,fn:=0,tmps := #[],params := #[],assign := .skip,body := .skip,defers:=0}) (U:=U) (β:=b0) (args:=args) (n:=fn.ntmps) (c:=c) (w:=w) eR.1 eR.2 hw (dz.refl ⟨w,[]⟩);refine KG hG (Sh hG hm) n none _ b _ _ U h _ _ none 0 b0 _ w hC ?_ rfl _ ?_
 ·intro k args s K' U hy;exact hy.elim
 intro e s af ak a' w' hk jR h1 h2 h3 dY
 have fin:=Re hG (c0:=c) (cP:=U) (bu:=b0) (λc2 KH K2 aw hx g1 g2 m2 bc a2 w2 g3 g4 Q2 g5=>KG hG (Sh hG hm) n none _ c2 KH K2 aw hx _ _ none m2 bc a2 w2 g4 (λk args s K' U hy=>hy.elim) rfl Q2 g5) hk h1 h2 h3 dY jR 0
  (T:=λe w'=>(∃v,e=.returned v/\Below w.heap.size w w'/\(Q v∨QM w' v))∨∃v,e=.panicked [{v:=v,recovered:=false}]/\Below w.heap.size w w'/\QP w' v)
  (λv s2 aw bc w2 jk tR CZ q1 q2 q3 dE=>by
   refine .inl ⟨_,rfl,dE.below, ?_⟩;simp only [PA]at jk;split at jk
   ·rename_i kT;rw [SV.bg aw bc b0 kT];exact .inl jk
   ·exact .inr (jk bc w2 dE.below (AW dE.wf.ap (Env.an _ aw) (λk cs t hg=>(dE.wf.m k cs t hg).2) (λk ce sz t hg=>(dE.wf.o k ce sz t hg).2) _ λk _ e hg=>dE.mem k e hg)))
  (λi s2 aw bc w2 jk hi q1 q2 q3 dE=>.inr ⟨_,rfl,dE.below,jk w2 dE.below⟩)
 cases e with
 |normal=>exact fin.2
 |ret=>exact fin.2
 |exit id=>exact (fin.1 id rfl).elim
 |iP i=>exact fin.2
end Vc
set_option linter.unusedVariables false
namespace Vc
open Go Go.RowKit
def aI(is:List Int)(bs:List Bool)(vs:List OV)(ps:List (Nat × Nat))(ss:List (List UInt8) := [])(ls:List (List OV) := []):Env :=
 ⟨λj=>is.getD j 0,λj=>bs.getD j false,λj=>vs.getD j ⟨.nilFunc,rfl⟩,λj=>ps.getD j (0,0),λj=>ss.getD j [],λj=>ls.getD j []⟩
def kC(P:Program)(l:List FuncId):Bool :=
  l.all λf=>match P.funcs[f]? with
    |some fn => (fn.name != "runtime.NumGoroutine") && fn.body.isSome
    |none=>false
theorem HB{P:Program}{l:List FuncId}(h:kC P l=true){f:FuncId}(hf:l.contains f=true)(args:Array Value)(w:World):(callFunc f args).run P w=.ok (.enter f args) w:=by
  have:=List.all_eq_true.1 h f (List.contains_iff_mem.1 hf)
  cases hp:P.funcs[f]? with
  |none=>simp [hp]at this
  |some fn =>
    simp only [hp,Bool.and_eq_true,bne_iff_ne,ne_eq]at this;obtain⟨h1,h2⟩:=this;have h3:fn.body.isNone=false:=by cases hb:fn.body<;>simp_all
    have h4:fn.body≠none:=by intro he;rw [he]at h2;cases h2
    simp [callFunc,hp,h1,h4]
structure qE(P:Program)(calls ext inl:List FuncId):Prop where
 calls:kC P calls=true
 inl:kC P inl=true
 mix:P.follows .mixedOrders=true
theorem qE.ok{P:Program}{calls ext inl:List FuncId}(h:qE P calls ext inl)(loops:List (Nat × LH))(aT:List (Nat × List At × TypeId)):(⟨P,calls,ext,inl,loops,aT,[],[]⟩:bF).Ok :=
 ⟨λf hf args w=>HB h.calls hf args w,λf hf args w=>HB h.inl hf args w,λe he=>absurd he (by simp)⟩
theorem qE.Wj{P:Program}{calls ext inl:List FuncId}(h:qE P calls ext inl)(loops:List (Nat × LH))(aT:List (Nat × List At × TypeId))(iG:List eQ)(hs:∀e∈iG,∀(A:bI (Env->Prop)) (yl:Yl (Env->Prop)) (K:Ex->St->Env->Prop) (K':SV->St->Env->Prop),lI A ⟨P,calls,ext,inl,loops,aT,iG,[]⟩ (exec A ⟨P,calls,ext,inl,loops,aT,iG,[]⟩ e.n) yl K e.f e.args e.s K'=iR A e.asks (K' e.v e.s')):(⟨P,calls,ext,inl,loops,aT,iG,[]⟩:bF).Ok :=
 ⟨λf hf args w=>HB h.calls hf args w,λf hf args w=>HB h.inl hf args w,hs⟩
theorem zc{c:ar}{U:Env}:bV.wf [] c/\bV.den [] U:=⟨λx h=>(by cases h),λx h=>(by cases h)⟩
theorem zq{x:Kn}{k:bV}{c:ar}{U:Env}(h1:x.wf c=true)(h2:x.den U)(h:bV.wf k c/\bV.den k U):bV.wf (x::k) c/\bV.den (x::k) U :=
 ⟨λy hy=>(List.mem_cons.1 hy).elim (λe=>e▸h1) (h.1 y),λy hy=>(List.mem_cons.1 hy).elim (λe=>e▸h2) (h.2 y)⟩
theorem Ret.mono{P:Program}{f:FuncId}{args:Array Value}{w:World}{v v':Value}(h:Calls P f args w (Ret v w))(e:v=v'):Calls P f args w (Ret v' w):=e▸h
def iW:Code->Code
 | .seq a _=>a
 |c=>c
def aA:Code->Code
 | .seq _ b=>b
 |c=>c
def Fc {R : Type} (A : bI R) : Yl R := λ_ _ _ _ => A.fail "yield"
def Fe{R:Type}(A:bI R)(G:bF)(n:Nat)(fn:Func):Ex->St->R:=λe s =>
  leave A G (exec A G n none λ_ _ _ _ => A.fail "yield") fn e s (λv s2 => A.fin v (dG s2.m ((sw v).flatMap CV.cells)) (dP s2.o ((sw v).flatMap CV.cells))) λi _ => A.AH i
theorem zT{R:Type}{A:bI R}{G:bF}{n:Nat}{yl:Yl R}{c:Code}{S S':St}{W:R->R}{K:Ex->St->R}(hc:c=.seq (iW c) (aA c))
  (hp:∀K,exec A G n none yl (iW c) S K=W (K .normal S')):exec A G (n+1) none yl c S K=W (exec A G n none yl (aA c) S' K):=by
 generalize iW c=x at hc hp;generalize aA c=y at hc ⊢;subst hc;exact hp _
abbrev rd(w:World)(p:Nat × Nat)(x m k:Nat)(v:Value):Prop:=w.cell? ⟨p.1,p.2+x*m+k,none⟩=some v
theorem zb{P:Program}{calls ext inl:List FuncId}(B:qE P calls ext inl)(loops:List (Nat × LH))(aT:List (Nat × List At × TypeId))(n:Nat){f:FuncId}{fn:Func}{b:Code}(hf:P.funcs[f]? = some fn)(hb:fn.body=some b)
  (args:List SV) (c:ar) (kn:bV) (U:Env) {wH:Array Value} (ha:(args.map (SV.den U b0)).toArray=wH) (eR:bV.wf kn c/\bV.den kn U) (hw:args.all (SV.wf c)=true) {w:World} {v:Value} {p:Prop}
  (he:sJ (PA P ⟨w,[]⟩ (λu=>u=v) (λ_ _=>False) (λ_ _=>False)) ⟨P,calls,ext,inl,loops,aT,[],[]⟩ n fn b args c kn U=p) (h:p):Calls P f wH w (Ret v w):=by
 subst ha;refine (Si (G:=⟨P,calls,ext,inl,loops,aT,[],[]⟩) (B.ok loops aT) B.mix hf hb n eR hw (Eq.mpr he h)).mono λe w' he => ?_;rcases he with ⟨u,h1,h2,h3⟩|⟨u,h1,h2,h3⟩
 ·rcases h3 with rfl|h3
  ·exact⟨h1,h2⟩
  ·exact h3.elim
 ·exact h3.elim
theorem Lc{P:Program}{calls ext inl:List FuncId}(B:qE P calls ext inl)(loops:List (Nat × LH))(aT:List (Nat × List At × TypeId))(iG:List eQ)(hs:∀e∈iG,∀(A:bI (Env->Prop)) (yl:Yl (Env->Prop)) (K:Ex->St->Env->Prop) (K':SV->St->Env->Prop),lI A ⟨P,calls,ext,inl,loops,aT,iG,[]⟩ (exec A ⟨P,calls,ext,inl,loops,aT,iG,[]⟩ e.n) yl K e.f e.args e.s K'=iR A e.asks (K' e.v e.s'))(n:Nat){f:FuncId}{fn:Func}{b:Code}(hf:P.funcs[f]? = some fn)(hb:fn.body=some b)
  (args:List SV) (c:ar) (kn:bV) (U:Env) {wH:Array Value} (ha:(args.map (SV.den U b0)).toArray=wH) (eR:bV.wf kn c/\bV.den kn U) (hw:args.all (SV.wf c)=true) {w:World} {v:Value} {p:Prop}
  (he:sJ (PA P ⟨w,[]⟩ (λu=>u=v) (λ_ _=>False) (λ_ _=>False)) ⟨P,calls,ext,inl,loops,aT,iG,[]⟩ n fn b args c kn U=p) (h:p):Calls P f wH w (Ret v w):=by
 subst ha;refine (Si (G:=⟨P,calls,ext,inl,loops,aT,iG,[]⟩) (B.Wj loops aT iG hs) B.mix hf hb n eR hw (Eq.mpr he h)).mono λe w' he => ?_;rcases he with ⟨u,h1,h2,h3⟩|⟨u,h1,h2,h3⟩
 ·rcases h3 with rfl|h3
  ·exact⟨h1,h2⟩
  ·exact h3.elim
 ·exact h3.elim
def tt:List Nat->List (Array Value × TypeId)->World->Prop
 |x::xs,b::bs,w=>w.heap[x]? = some (.cells b.1 b.2)/\tt xs bs w
 | [],[],_=>True
 |_,_,_=>False
theorem tt.get{w:World}:∀{xs:List Nat} {bs:List (Array Value × TypeId)},tt xs bs w->xs.length=bs.length/\∀k b,bs[k]? = some b->w.heap[zA xs k]? = some (.cells b.1 b.2)
  | [],[],_=>⟨rfl,λk b h=>by simp at h⟩
  |x::xs,b::bs,h=>by
    obtain⟨h1,h2⟩:=tt.get h.2;refine⟨by simp [h1],λk b' hk => ?_⟩;cases k with
    |zero =>
      simp only [List.getElem?_cons_zero,Option.some.injEq]at hk;subst hk;exact h.1
    |succ k=>exact h2 k b' (by simpa using hk)
theorem oY(x:Int):IntKind.i64.wrap x=(x+9223372036854775808) % 18446744073709551616-9223372036854775808:=by
 unfold IntKind.wrap;simp only [IntKind.bits,IntKind.signed];simp;split<;>omega
theorem aD(x:Int):IntKind.u64.wrap x=x % 18446744073709551616:=by
 simp [IntKind.wrap,IntKind.bits,IntKind.signed]
theorem zj{x:Int}(h:-9223372036854775808<=x/\x<=9223372036854775807):IntKind.i64.wrap x=x:=by rw [oY];omega
end Vc
