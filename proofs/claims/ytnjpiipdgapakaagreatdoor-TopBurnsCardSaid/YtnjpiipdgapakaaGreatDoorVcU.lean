import Derived.Test.YtnjpiipdgapakaaGreatDoorVcR
import Derived.OrdersIn
import Derived.StillTail
set_option linter.unusedVariables false
set_option linter.unusedSimpArgs false
namespace Vc
open Go Go.RowKit
variable {P:Program} {W:dN} {R:Nat->Loop} {Z:List Nat} {ops:Array Oper} {n:Nat} {J:Env} {sts:Nat->St} {gg:Nat->SV} {cs:Nat->List Nat} {rd wr:List (Nat × Nat)}
theorem JP(hw:Way P W ops n J sts gg cs rd wr)(hd:dz ops=true){a0 a:Act}{bh β ag:Nat->Nat}{w w' w0:World}(uL:Core W R Z J bh (sts 0) a0 w0){listed:Array Bool}(inv:Inv W R Z ops n J sts cs a0 bh listed a w β){i:Nat}{o:Oper}(hi:i < n)(ho:ops[i]? = some o)
    (fF:listed.getD i false=false) (hr:∀e∈o.after,Region.binds .any e=true->listed.getD e.on false=true) {s1:St} (hk:om J (sts i) s1) (mO:Bw s1 o (sts (i+1)) (gg i) (cs i)) {val:Value} (gR:gg i ≠ .any->val=(gg i).den J ag)
    (tx:xJ W s1 (sts (i+1)) J (cs i) β ag w w') (gq:∀k∈cs i,cut n sts cs listed k i)
    (jk:∀k e',(k∈cs i∨s1.c.nk<=k)->aC (sts (i+1)).m (sts (i+1)).o k=some e'->∀x∈dP e',∀m,m<n->laid sts m x->listed.getD m false=true) :
    Inv W R Z ops n J sts cs a0 bh (listed.setIfInBounds i true) (a.put o.dst val) w' ag:=by
  have vE:i<ops.size:=Nat.lt_of_lt_of_le hi hw.le;have xP:i<listed.size:=by rw [inv.pv];exact vE
  obtain⟨kc,km,kn,ko,kr,kd⟩:=hk.c;have j9:∀m,i≠m->(listed.setIfInBounds i true).getD m false=listed.getD m false:=λm hm=>by rw [xN listed i m xP,if_neg hm]
  have JQ:(listed.setIfInBounds i true).getD i false=true:=by rw [xN listed i i xP,if_pos rfl]
  have xQ:∀m,listed.getD m false=true->(listed.setIfInBounds i true).getD m false=true:=λm hm=>by
    rw [xN listed i m xP];split
    · rfl
    · exact hm
  have qy:∀k,¬laid sts i k->ag k=β k:=λk hk=>tx.off k (by rw [kc];exact hk);have y_:∀k e,k∈cs i->aC s1.m s1.o k=some e->Holds W J β k e w:=λk e y7 hg=>inv.mem k i (by omega) (gq k y7) e (by rw [km,ko]at hg;exact hg)
  have uM:∀{k j},rC sts cs i k->j<=n->cut n sts cs (listed.setIfInBounds i true) k j->aC (sts j).m (sts j).o k=aC (sts (i+1)).m (sts (i+1)).o k:=by
    intro k j ht hj hcut;have sP:i<j:=(hcut i hi ht).2 JQ;refine hw.chain j (i+1) (by omega) hj λm a1 a2 xR => ?_;have j_:m<n:=by omega
    have uK:=(hcut m j_ xR).1 a2;rw [j9 m (by omega)]at uK
    have no:∀h:reach ops 3 m i=true,False:=λh=>by
      rw [later inv fF (Nat.lt_of_lt_of_le j_ hw.le) h]at uK;cases uK
    have sw:=hw.nk m (i+1) a1 (by omega);have Tx:=hw.nk (i+1) i (by omega) (by omega);rcases ht with hc|hl<;>rcases xR with iT|fZ
    · obtain⟨b1,_,_⟩:=hw.cls hi hc;obtain⟨c1,_,_⟩:=hw.cls j_ iT;rcases hw.apart k m i (.inr c1) b1 with rfl|⟨_,d2⟩|⟨d1,_⟩
      · omega
      · rw [DG inv fF (Nat.lt_of_lt_of_le j_ hw.le) d2]at uK;cases uK
      · omega
    · have:=(hw.cls hi hc).2.1
      have:=fZ.1
      omega
    · exact no ((hw.cls j_ iT).2.2 i (by omega) hl)
    · have:=hl.2
      have:=fZ.1
      omega
  have told:∀{k},rC sts cs i k->k∈cs i∨s1.c.nk<=k:=λht=>by
    rcases ht with h|h
    · exact .inl h
    · rw [kc];exact .inr h.1
  have uN:∀{k j},¬rC sts cs i k->cut n sts cs (listed.setIfInBounds i true) k j->cut n sts cs listed k j:=λ{k j} ht hcut m hm PL=>by
    have:=hcut m hm PL
    rwa [j9 m (λe=>ht (e▸PL))]at this
  have rE:∀{k j e},¬rC sts cs i k->j<=n->aC (sts j).m (sts j).o k=some e->∀x∈dp k e,ag x=β x:=by
    intro k j e ht hj hg x hx;refine qy x λhl => ?_;cases e with
    |fix c t =>
      simp only [dp,List.mem_singleton]at hx;subst hx;exact ht (.inr hl)
    |row ce sz t =>
      have aZ:=hw.rows j hj k ce sz t hg i hi;simp only [dp,List.mem_cons,List.not_mem_nil,or_false]at hx
      have:∃d,d<4/\x=k+d:=by
        rcases hx with rfl|rfl|rfl|rfl
        · exact⟨0,by omega,rfl⟩
        · exact⟨1,by omega,rfl⟩
        · exact⟨2,by omega,rfl⟩
        · exact⟨3,by omega,rfl⟩
      obtain⟨d,h1,rfl⟩:=this;exact ht (.inr (aZ d h1 hl))
  have DH:∀{k j e},¬rC sts cs i k->j<=n->cut n sts cs listed k j->aC (sts j).m (sts j).o k=some e->∀b,bu β k e=some b->w'.heap[b]? = w.heap[b]? := by
    intro k j e ht hj hcut hg b hb;have hl:=(inv.mem k j hj hcut e hg).uk b hb;refine tx.frame b hl.2.1 λk0 e0 nB eK dU => ?_;rw [km,ko]at eK
    have:=inv.inj k k0 j i hj (by omega) hcut (gq k0 nB) e e0 b hg eK hb dU
    exact ht (.inl (this▸nB))
  have DI:=hw.step hi ho;have iS:a.tmps.size=(sts i).n:=by rw [(hw.n0 i (by omega)).1];exact inv.size
  have DJ:∀(t:Nat),(a.put o.dst val).tmps[t]? = if o.dst=some t then some val else a.tmps[t]? := λt=>by
    cases iX:o.dst with
    |none=>simp [Act.put]
    |some d =>
      rw [ed t (by rw [iS];exact DI.2.2.2.2.2.2.1 d iX)];simp only [Option.some.injEq]
  refine⟨by simp [inv.pv],λj oj hj hl e he hb => ?_,λj hj=>by rw [j9 j (by omega)];exact inv.only j hj,by rw [Ia];exact inv.size,by rw [Ib];exact inv.ja,tx.below inv.below y_,
    λt j p xS hj pT hl hn => ?_,λt ht => ?_,λk j hj hcut e hg => ?_,λk j hj hcut e hg x hx m hm hl => ?_,λk k' j j' hj rz hcut kG e e' b hg eF hb eG => ?_,λk e hg => ?_,λb hb => ?_,λk hk => ?_⟩
  · rw [xN listed i _ xP]at hl ⊢;by_cases mz:i=e.on
    · rw [if_pos mz]
    · rw [if_neg mz];by_cases sP:i=j
      · subst sP;rw [ho]at hj;cases hj;exact hr e he hb
      · rw [if_neg sP]at hl;exact inv.closed j oj hj hl e he hb
  · rw [DJ]
    have fC:ee J (aq (sts (j+1)).t t) (aq (sts n).t t):=by
      refine hw.same n (j+1) (by omega) (Nat.le_refl _) λm h1 h3 q hq z8 => ?_;rcases ((zw hd hq).2 j p hj t pT).1 with h4|h4
      · omega
      · exact h4 z8
    have DK:aq (sts (j+1)).t t=gg j:=(hw.step xS hj).2.2.2.2.2.1 t pT;by_cases sP:i=j
    · subst sP;rw [ho]at hj;cases hj;rw [if_pos pT];have h5:gg i ≠ .any:=by rw [<-DK];exact fC.any hn
      rw [gR h5,<-fC.den,DK]
    · rw [j9 j sP]at hl
      have dO:o.dst≠some t:=by
        rcases ((zw hd ho).2 j p hj t pT).1 with h4|h4
        · exact (sP h4).elim
        · exact h4
      rw [if_neg dO,inv.s2 t j p xS hj pT hl hn];refine congrArg some (SV.ir λy hy=>qy y λuO => ?_).symm;have F7:=fC.ids hy;rw [DK]at F7;have cw:=xO (DK▸(hw.wf (j+1) (by omega)).t t) _ F7;rcases Nat.lt_or_ge i j with a1|a1
      · have:=later inv fF (Array.getElem?_eq_some_iff.1 hj).1 (hw.dst xS hj pT F7 a1 uO)
        rw [hl]at this;cases this
      · have:=hw.nk i (j+1) (by omega) (by omega)
        have:=uO.1
        omega
  · have dO:o.dst≠some t:=by
      intro he
      have:=ht i o hi ho he
      rw [JQ]at this;cases this
    rw [DJ,if_neg dO];refine inv.s3 t λj p xS hj pT => ?_
    have:=ht j p xS hj pT
    by_cases sP:i=j
    · subst sP;rw [JQ]at this;cases this
    · rwa [j9 j sP]at this
  · by_cases wE:rC sts cs i k
    · rw [uM wE hj hcut]at hg;exact (tx.new k e (told wE) hg).1
    · have nG:=uN wE hcut;refine (inv.mem k j hj nG e hg).uI (rE wE hj hg) (λx hx=>qy x λhl => ?_) (DH wE hj nG hg)
      have:=inv.JK k j hj nG e hg x hx i hi hl
      rw [fF]at this;cases this
  · by_cases wE:rC sts cs i k
    · rw [uM wE hj hcut]at hg;exact xQ m (jk k e (told wE) hg x hx m hm hl)
    · exact xQ m (inv.JK k j hj (uN wE hcut) e hg x hx m hm hl)
  · have pg:∀ {k k' j j' e e'},rC sts cs i k->¬ rC sts cs i k'->j<=n->j'<=n->cut n sts cs (listed.setIfInBounds i true) k j->cut n sts cs (listed.setIfInBounds i true) k' j'->aC (sts j).m (sts j).o k=some e->aC (sts j').m (sts j').o k'=some e'->bu ag k e=some b->bu ag k' e'=some b->False:=by
      intro k k' j j' e e' h1 h2 hj rz hcut kG hg eF hb eG;have nG:=uN h2 kG;rw [JH (rE h2 rz eF)]at eG;have hl:=(inv.mem k' j' rz nG e' eF).uk b eG;rw [uM h1 hj hcut]at hg;rcases (tx.new k e (told h1) hg).2 b hb with h3|⟨k0,e0,h3,h4,h5,_⟩
      · omega
      · rw [km,ko]at h4
        have:=inv.inj k0 k' i j' (by omega) rz (gq k0 h3) nG e0 e' b h4 eF h5 eG
        exact h2 (.inl (this▸h3))
    by_cases h1:rC sts cs i k<;>by_cases h2:rC sts cs i k'
    · rw [uM h1 hj hcut]at hg;rw [uM h2 rz kG]at eF;exact tx.inj k k' e e' b (told h1) (told h2) hg eF hb eG
    · exact (pg h1 h2 hj rz hcut kG hg eF hb eG).elim
    · exact (pg h2 h1 rz hj kG hcut eF hg eG hb).elim
    · rw [JH (rE h1 hj hg)]at hb;rw [JH (rE h2 rz eF)]at eG;exact inv.inj k k' j j' hj rz (uN h1 hcut) (uN h2 kG) e e' b hg eF hb eG
  · exact tx.other y_ (inv.fb k e hg) (λh=>h)
  · exact tx.other y_ (inv.fR b hb) (λh=>h)
  · have:=hw.nk i 0 (by omega) (by omega)
    rw [qy k λhl=>by have:=hl.1;omega];exact inv.agree k hk
theorem JR{r:Option Nat}{mm:Nat}(hw:Way P W ops n J sts gg cs rd wr)(hd:dz ops=true){a0 a:Act}{bh β:Nat->Nat}{w0 w:World}(hC:Core W R Z J bh (sts 0) a0 w0)
    {listed:Array Bool} (inv:Inv W R Z ops n J sts cs a0 bh listed a w β) {i:Nat} {o:Oper} (hi:i<n) (ho:ops[i]? = some o) (fF:listed.getD i false=false) (hr:∀e∈o.after,Region.binds .any e=true->listed.getD e.on false=true)
    {Q':Exit->Act->World->Prop} {K:Act->World->Prop} (hK:∀a' w' ag,Inv W R Z ops n J sts cs a0 bh (listed.setIfInBounds i true) a' w' ag->K a' w'):wpOpIn (Fr r) mm P ops Q' i K a w:=by
  have xU:=hw.wf i (by omega);have wF:=hw.DC i o hi ho
  have next:∀ s1,om J (sts i) s1->Bw s1 o (sts (i + 1)) (gg i) (cs i)->∀ val ag w',(gg i ≠ .any->val=(gg i).den J ag)->xJ W s1 (sts (i + 1)) J (cs i) β ag w w'->(∀ k∈cs i,cut n sts cs listed k i) ->
      (∀k e',(k∈cs i∨s1.c.nk<=k)->aC (sts (i+1)).m (sts (i+1)).o k=some e'->∀x∈dP e',∀m,m<n->laid sts m x->listed.getD m false=true)->K (a.put o.dst val) w' :=
    λs1 hk mO val ag w' gR tx gq jk=>hK _ _ _ (JP hw hd hC inv hi ho fF hr hk mO gR tx gq jk)
  unfold wpOpIn;simp only [ho];generalize qF:sts (i+1)=s' at wF next
  generalize DK:gg i=sv at wF next
  generalize oc:cs i=C at wF next
  cases wF with
  |skip s1 k wt p =>
    rw [PH hw hd hC inv hi ho fF hr wt];simp only [Bool.false_eq_true,if_false];refine⟨λf _=>sD r f,next s1 k (PE (k.wf xU) p) undef β w (λ_=>rfl) (Ii (k.wf xU) ?_ (Below.refl _ _)) (λk hk=>by cases hk) ?_⟩
    · obtain⟨q1,q2,q3,q4,q5,q6⟩:=zu s1 o.dst .fJ s1.c;rw [q2,q4]
    · intro k' e' gJ hg;obtain⟨q1,q2,q3,q4,q5,q6⟩:=zu s1 o.dst .fJ s1.c;rcases gJ with gJ|gJ
      · cases gJ
      · rw [q2,q4,(k.wf xU).beyond gJ]at hg;cases hg
  |run s1 _ _ _ k wt nd f h1 h2 h4 h5 =>
    rw [PH hw hd hC inv hi ho fF hr wt];simp only [if_true];obtain⟨kc,km,kn,ko,kr,kd⟩:=k.c
    have hcut:∀kk∈aP s1 o++aL s1 o,kk<(sts i).c.nk->cut n sts cs listed kk i:=λkk ct cw =>
      JO hw inv hi ho fF hr cw (by
        rcases List.mem_append.1 ct with h|h
        · exact .inl (h4 kk h)
        · exact .inr (h5 kk h)) λm hm hl=>h1 kk (List.mem_append.2 (.inl ct)) m hm hl
    refine tq r mm nd (f.Ow β a w inv.below (JM hw hd hC inv hi ho fF hr k) (λkk ct e hg => ?_) (λkk PM e e' b ct JS hg eF hb eG => ?_) K Q' λag v w' hv tx=>next s1 k f.eM v ag w' hv tx (λkk ct => ?_) λkk e' ct hg x hx m hm hl => ?_)
    · rw [km,ko]at hg;exact inv.mem kk i (by omega) (hcut kk ct (Bm (xU.dR hg))) e hg
    · rw [km,ko]at hg eF;exact inv.inj kk PM i i (by omega) (by omega) (hcut kk (List.mem_append.2 (.inr ct)) (Bm (xU.dR hg))) (hcut PM (List.mem_append.2 (.inr JS)) (Bm (xU.dR eF))) e e' b hg eF hb eG
    · have:=f.Ie kk ct
      exact hcut kk (List.mem_append.2 (.inr this.1)) (by rw [<-kc];exact this.2)
    · rcases f.ids kk e' ct hg x hx with h|⟨j,e,hj,mN,Ty⟩
      · have cw:=JJ (k.wf xU) x h;rw [kc]at cw
        have JT:m<i:=by
          rcases Nat.lt_or_ge m i with h'|h'
          · exact h'
          · have:=hw.nk m i h' (by omega)
            have:=hl.1
            omega
        exact F0 inv.closed 3 i m o ho hr (h1 x (List.mem_append.2 (.inr h)) m JT hl)
      · rw [km,ko]at mN;exact inv.JK j i (by omega) (hcut j hj (Bm (xU.dR mN))) e mN x Ty m hm hl
theorem JU(hw:Way P W ops n J sts gg cs rd wr){a0 a:Act}{bh β:Nat->Nat}{w0 w:World}(hC:Core W R Z J bh (sts 0) a0 w0){listed:Array Bool}(inv:Inv W R Z ops n J sts cs a0 bh listed a w β)
  (bQ:∀j,j<n->listed.getD j false=true):Core W R Z J β (sts n) a w:=by
 obtain⟨n1,n2,n3,n4⟩:=hw.n0 n (Nat.le_refl _);have hcut:∀k,cut n sts cs listed k n:=λk m hm _=>⟨λ_=>bQ m hm,λ_=>hm⟩;have mP:(sts 0).d.map β=(sts 0).d.map bh:=List.map_congr_left λk hk=>inv.agree k (hC.wf.d k hk)
 refine⟨by rw [n1];exact inv.size,λt hn => ?_, ?_,inv.below,λk e hg=>inv.mem k n (Nat.le_refl _) (hcut k) e hg,λk k' e e' b hg eF hb eG=>inv.inj k k' n n (Nat.le_refl _) (Nat.le_refl _) (hcut k) (hcut k') e e' b hg eF hb eG,
  λk e hg => ?_,λk k' e e' hg eF he => ?_,λb hb => ?_, ?_,hw.wf n (Nat.le_refl _),hw.kn hC.kn n (Nat.le_refl _)⟩
 ·by_cases hx:∃(j:Nat) (p:Oper),j<n/\ops[j]? = some p/\p.dst=some t
  ·obtain⟨j,p,hj,hp,pT⟩:=hx;exact inv.s2 t j p hj hp pT (bQ j hj) hn
  ·have pw:∀(m:Nat) (o':Oper),m<n->ops[m]? = some o'->o'.dst≠some t:=λm o' j_ hm he=>hx ⟨m,o',j_,hm,he⟩;have fC:ee J (aq (sts 0).t t) (aq (sts n).t t):=hw.same n 0 (by omega) (Nat.le_refl _) λm _ h q hq=>pw m q h hq;rw [inv.s3 t (λm o' j_ hm he=>(pw m o' j_ hm he).elim),hC.tmps t (fC.any hn),<-fC.den,SV.U (Env.ah _ J) inv.agree (hC.wf.t t)]
 ·rw [n3,inv.ja,hw.df n (Nat.le_refl _),FA hC.wf.df inv.agree];simp only [marksOf];exact congrArg _ (List.map_congr_left λk hk=>by rw [inv.agree k (hC.wf.d k hk)])
 ·rw [n2]at hg;rw [inv.agree k (hC.wf.r k e hg)];exact⟨(hC.fb k e hg).1,inv.fb k e hg⟩
 ·rw [n2]at hg eF;rw [inv.agree k (hC.wf.r k e hg),inv.agree k' (hC.wf.r k' e' eF)]at he;exact hC.iU k k' e e' hg eF he
 ·rw [n3,mP]at hb;exact⟨(hC.fR b hb).1,inv.fR b hb⟩
 ·rw [n3,mP];exact hC.dn
theorem JV{a0:Act}{bh:Nat->Nat}{w0:World}(hw:Way P W ops n J sts gg cs rd wr)(hC:Core W R Z J bh (sts 0) a0 w0):Inv W R Z ops n J sts cs a0 bh (Array.replicate ops.size false) a0 w0 bh:=by
  have hf:∀j,(Array.replicate ops.size false).getD j false=false:=λj=>by
    rw [Array.getD_eq_getD_getElem?,Array.getElem?_replicate];split<;>rfl
  have h0:∀{k i},i<=n->cut n sts cs (Array.replicate ops.size false) k i->aC (sts i).m (sts i).o k=aC (sts 0).m (sts 0).o k:=λ{k i} hi hcut =>
    hw.chain i 0 (by omega) hi λm _ h2 ht=>by
      have:=(hcut m (by omega) ht).1 h2
      rw [hf m]at this;cases this
  refine⟨by simp,λj oj _ h=>(by rw [hf j]at h;cases h),λj _=>hf j,hC.size,hC.ja,hC.below,λt i o _ _ _ h=>(by rw [hf i]at h;cases h),λ_ _=>rfl,λk i hi hcut e hg => ?_,λk i hi hcut e hg x hx m hm hl => ?_,λk k' i i' hi tn hcut kG e e' b hg eF hb eG => ?_,
    λk e hg=>(hC.fb k e hg).2,λb hb=>(hC.fR b hb).2,λ_ _=>rfl⟩
  · rw [h0 hi hcut]at hg;exact hC.mem k e hg
  · rw [h0 hi hcut]at hg
    have cw:x<(sts 0).c.nk:=by
      have uf:=hC.wf.dR hg;cases e with
      |fix c t=>exact DD uf.2 x hx
      |row ce sz t =>
        obtain⟨s,hs,oK⟩:=List.mem_flatMap.1 hx
        have:=List.all_eq_true.1 uf.2 s hs
        cases s with
        |cE l=>exact DD this x oK
        |var i=>cases oK
    have:=hw.nk m 0 (by omega) (by omega)
    have:=hl.1
    omega
  · rw [h0 hi hcut]at hg;rw [h0 tn kG]at eF;exact hC.inj k k' e e' b hg eF hb eG
end Vc
set_option linter.unusedVariables false
namespace Vc
open Go Go.RowKit
variable {P:Program} {W:dN} {Q:Value->Prop} {QM QP:World->Value->Prop} {R:Nat->Loop} {Z:List Nat}
theorem vF(t:List (Nat × SV))(dst:Option Tmp)(v:SV)(d:Nat):aq (dM t dst v) d=if dst=some d then v else aq t d:=by
  cases dst with
  |none=>simp [dM]
  |some x =>
    simp only [dM,zi];by_cases h:x=d<;>simp [h]
theorem uP(t:List (Nat × SV)):∀(L:List fY) (d:Nat),aq (bO t L) d=.any∨(aq (bO t L) d=aq t d/\∀p∈L,p.dst≠some d)
  | [],d=>.inr ⟨rfl,by simp⟩
  |p::L,d=>by
    simp only [bO];cases hp:p.dst with
    |none =>
      rcases uP t L d with h|⟨h1,h2⟩
      · exact .inl h
      · refine .inr ⟨h1,λq hq => ?_⟩;rcases List.mem_cons.1 hq with rfl|hq
        · rw [hp];simp
        · exact h2 q hq
    |some x =>
      simp only [zi];by_cases hx:x=d
      · exact .inl (if_pos hx)
      · rw [if_neg hx];rcases uP t L d with h|⟨h1,h2⟩
        · exact .inl h
        · refine .inr ⟨h1,λq hq => ?_⟩;rcases List.mem_cons.1 hq with rfl|hq
          · rw [hp];simpa using hx
          · exact h2 q hq
theorem Bx(t:List (Nat × SV)):∀(L:List fY) (d:Nat),(∀p∈L,p.dst≠some d)->aq (bO t L) d=aq t d
  | [],d,_=>rfl
  |p::L,d,h=>by
    simp only [bO];have h2:=Bx t L d λq hq=>h q (List.mem_cons_of_mem _ hq);cases hp:p.dst with
    |none=>exact h2
    |some x =>
      have:x≠d:=λe=>h p (by simp) (by rw [hp,e])
      simp only [zi];rw [if_neg this];exact h2
theorem F9(a:Act)(dst:Option Tmp)(v:Value)(i:Nat)(hd:∀d,dst=some d->d<a.tmps.size):(a.put dst v).tmps[i]? = if dst=some i then some v else a.tmps[i]? := by
  cases dst with
  |none=>simp [Act.put]
  |some d =>
    have:=hd d rfl
    simp only [Act.put,Option.some.injEq];by_cases h:d=i
    · subst h;rw [if_pos rfl];simp [this]
    · rw [if_neg h];exact Array.getElem?_setIfInBounds_ne h
theorem F_(a:Act)(dst:Option Tmp)(v:Value):(a.put dst v).tmps.size=a.tmps.size:=by
 cases dst<;>simp [Act.put]
theorem PN(a:Act)(dst:Option Tmp)(v:Value):(a.put dst v).defers=a.defers:=by
 cases dst<;>rfl
theorem JW{J:Env}{β:Nat->Nat}{st:St}{a a':Act}{w w':World}(hC:Core W R Z J β st a w)(hB:Below w.heap.size w w')(hs:a'.tmps.size=a.tmps.size)(oL:a'.defers=a.defers){t:List (Nat × SV)}(ht:∀i,(aq t i).wf st.c=true)
  (xR:∀i,aq t i ≠ .any->a'.tmps[i]? = some ((aq t i).den J β)):Core W R Z J β {st with t:=t} a' w':=by
 refine⟨hs.trans hC.size,xR,oL.trans hC.ja,hC.below.trans hB,λk e hg=>(hC.mem k e hg).eE (hC.wf.dR hg) (Env.ah _ _) (λ_ _=>rfl) λb hb=>hB.block b ((hC.mem k e hg).uk b hb).2.1,hC.inj,λk e hg=>⟨(hC.fb k e hg).1, ?_⟩,hC.iU,λb hb=>⟨(hC.fR b hb).1, ?_⟩,hC.dn,⟨ht,hC.wf.m,hC.wf.o,hC.wf.ap,hC.wf.r,hC.wf.d,hC.wf.k,hC.wf.df⟩,hC.kn⟩
 ·rw [hB.block _ (sj (hC.fb k e hg).2)];exact (hC.fb k e hg).2
 ·rw [hB.block _ (sj (hC.fR b hb).2)];exact (hC.fR b hb).2
structure l_(P:Program)(W:dN)(ops:Array Oper)(rem:List Nat)(listed:Array Bool)(st:St)(J:Env)(β:Nat->Nat)(a:Act)(p:fY):Prop where
 dst:∃o,ops[p.j]? = some o/\o.dst=p.dst
 out:p.j ∉ rem
 slot:∀d,p.dst=some d->d<st.n
 pre:∀j∈cR ops p.j,j ∉ rem
 run:listed.getD p.j false=false->∃(o:Oper) (eM:St) (v:SV) (b:Bool),ops[p.j]? = some o/\eM.WF/\eM.c.le st.c/\bK.den eM.k J/\(∀d,p.dst=some d->aq st.t d=v)/\(∀c,o.op ≠ .defer c)/\dj ops J eM o b /\
  (∀d∈o.looksAt ops,(∀j oj,ops[j]? = some oj->oj.dst=some d->j∈cR ops p.j->aq eM.t d=aq st.t d) /\
   ((∃j oj,ops[j]? = some oj/\oj.dst=some d/\j∈cR ops p.j/\listed.getD j false=false)∨(aq eM.t d ≠ .any->a.tmps[d]? = some ((aq eM.t d).den J β)))) /\
  (b=false->v=.fJ) /\
  (b=true->(∀I,Env.au st.c J I->bx P W eM o v I)/\∀k∈aP eM o,k∈p.rd/\aC eM.m eM.o k=aC st.m st.o k) /\
  (∀q,p.ld=some q->∃t x,o.op=.load t x/\eM.ev x=.cv (.one (.loc q.1 q.2.1))/\aF P t=some (q.2.2.1,q.2.2.2))
structure pz(P:Program)(W:dN)(R:Nat->Loop)(Z:List Nat)(ops:Array Oper)(rem:List Nat)(st:St)(L:List fY)(J:Env)(listed:Array Bool)(β:Nat->Nat)(a:Act)(w:World):Prop where
 size:listed.size=ops.size
 By:∀j o,ops[j]? = some o->listed.getD j false=true->∀e∈o.after,Region.binds .any e=true->listed.getD e.on false=true
 rY:∀j,listed.getD j false=true->j ∉ rem
 DL:∀j,j<ops.size->j ∉ rem->listed.getD j false=true∨∃p∈L,p.j=j
 wG:∀p∈L,l_ P W ops rem listed st J β a p
 tw:∀i,(aq st.t i).wf st.c=true
 core:Core W R Z J β {st with t:=bO st.t (L.filter λp => !listed.getD p.j false)} a w
theorem Bz{ops:Array Oper}{i j:Nat}{o:Oper}(ho:ops[i]? = some o):j∈cR ops i↔∃e∈o.after,Region.binds .any e=true/\e.on=j:=by
 unfold cR;rw [ho];simp only [List.mem_map,List.mem_filter];constructor
 ·rintro ⟨e,⟨h1,h2⟩,rfl⟩;exact⟨e,Array.mem_toList_iff.1 h1,h2,rfl⟩
 ·rintro ⟨e,h1,h2,rfl⟩;exact⟨e,⟨Array.mem_toList_iff.2 h1,h2⟩,rfl⟩
theorem PO{ops:Array Oper}{i j:Nat}(h:direct ops i j=true):j∈cR ops i:=by
  unfold direct at h;cases ho:ops[i]? with
  |none=>rw [ho]at h;cases h
  |some o =>
    rw [ho]at h;simp only [Array.any_eq_true',Bool.and_eq_true,decide_eq_true_eq]at h;obtain⟨e,he,hb,rfl⟩:=h;exact (Bz ho).2 ⟨e,he,hb,rfl⟩
theorem JX{ops:Array Oper}(hd:dz ops=true){i j d:Nat}{o p:Oper}(ho:ops[i]? = some o)(hp:ops[j]? = some p)(qG:p.dst=some d)(hl:d∈o.looksAt ops):j∈cR ops i∨i∈cR ops j:=by
 rcases ((zw hd ho).2 j p hp d qG).2 hl with ⟨_,h⟩|⟨_,h⟩
 ·exact .inl (PO h)
 ·exact .inr (PO h)
theorem JY{ops:Array Oper}(hd:dz ops=true){i j d:Nat}{o p:Oper}(ho:ops[i]? = some o)(hp:ops[j]? = some p)(oo:o.dst=some d)(qG:p.dst=some d):i=j :=
 ((zw hd ho).2 j p hp d qG).1.resolve_right λh=>h oo
theorem JZ{ops:Array Oper}{o:Oper}{eM:St}{J:Env}{β:Nat->Nat}{a:Act}(fA:bK.den eM.k J)(h:∀d∈o.looksAt ops,aq eM.t d ≠ .any->a.tmps[d]? = some ((aq eM.t d).den J β)):dt eM o J β a:=by
  intro x hx hn;cases x with
  |tmp t =>
    have:=h t (by
      simp only [Oper.looksAt,List.mem_append];exact .inl (List.mem_filterMap.2 ⟨.tmp t,Array.mem_toList_iff.2 hx,rfl⟩)) hn
    show a.tmps.getD t undef=_;rw [Array.getD_eq_getD_getElem?,this,Option.getD_some];rfl
  |const v=>exact ((SV.cm v eM.c J β).2 hn).symm
  |global g=>exact Ic fA hn β
  |func f=>rfl
theorem PQ{ops:Array Oper}{o:Oper}{eM:St}{J:Env}{β:Nat->Nat}{a:Act}{b:Bool}(hb:dj ops J eM o b)(h:∀d∈o.looksAt ops,aq eM.t d ≠ .any->a.tmps[d]? = some ((aq eM.t d).den J β)):Region.wanted o (yielded ops a.tmps)=b:=by
  unfold dj at hb;cases hg:o.guard with
  |none=>rw [hg]at hb;simp only at hb;subst hb;simp [Region.wanted,hg]
  |some jw =>
    obtain⟨j,want⟩:=jw;rw [hg]at hb;obtain⟨x,hx,hb⟩:=hb
    have px:x∈o.looksAt ops:=by
      simp only [Oper.looksAt,hg,List.mem_append];exact .inr (by simp [hx])
    rcases hb with ⟨e,he,hb⟩|⟨he,rfl⟩
    · have:=h x px (by rw [he];simp)
      rw [he]at this;have hy:=I0 (b:=e.den J) hx this;simp only [Region.wanted,hg,hy];exact hb
    · have:=h x px (by rw [he];simp)
      rw [he]at this;have hy:=I1 hx this;simp [Region.wanted,hg,hy]
theorem PR{ops:Array Oper}(hd:dz ops=true){rem:List Nat}{st:St}{L:List fY}{J:Env}{listed:Array Bool}{β:Nat->Nat}{a:Act}{w:World}(inv:pz P W R Z ops rem st L J listed β a w){p:fY}(hp:p∈L)
    (fF:listed.getD p.j false=false) (hr:∀j∈cR ops p.j,listed.getD j false=true) {r:Option Nat} {mm:Nat} {Q':Exit->Act->World->Prop} {K:Act->World->Prop}
    (hK:∀a' w',pz P W R Z ops rem st L J (listed.setIfInBounds p.j true) β a' w'->K a' w'):wpOpIn (Fr r) mm P ops Q' p.j K a w:=by
  have fp:=inv.wG p hp;obtain⟨o,eM,v,b,ho,Xb,Xc,Tz,hv,nd,hw,hl,dU,gd,_⟩:=fp.run fF;have oo:o.dst=p.dst:=by obtain⟨o',h1,h2⟩:=fp.dst;rw [ho]at h1;cases h1;exact h2
  have DM:p.j<ops.size:=(Array.getElem?_eq_some_iff.1 ho).1;have DN:p.j<listed.size:=by rw [inv.size];exact DM
  have now:∀d∈o.looksAt ops,aq eM.t d ≠ .any->a.tmps[d]? = some ((aq eM.t d).den J β):=λd pV hn=>by
    rcases (hl d pV).2 with ⟨j,oj,_,_,h3,h4⟩|h
    · rw [hr j h3]at h4;cases h4
    · exact h hn
  have iS:∀d,o.dst=some d->d<a.tmps.size:=λd oM=>by rw [inv.core.size];exact fp.slot d (by rw [<-oo];exact oM)
  have pA:∀j,(listed.setIfInBounds p.j true).getD j false=if p.j=j then true else listed.getD j false:=λj=>xN listed p.j j DN
  have next:∀(val:Value) (w':World),(v ≠ .any->val=v.den J β)->Below w.heap.size w w'->K (a.put o.dst val) w':=by
    intro val w' gR hB;refine hK _ _ ⟨by simp [inv.size],λj oj hj kg e he hb => ?_,λj kg => ?_,λj hj z_ => ?_,λq hq => ?_,inv.tw, ?_⟩
    · rw [pA]at kg ⊢;by_cases rz:p.j=e.on
      · rw [if_pos rz]
      · rw [if_neg rz];by_cases oh:p.j=j
        · subst oh;rw [ho]at hj;cases hj;exact hr e.on ((Bz ho).2 ⟨e,he,hb,rfl⟩)
        · rw [if_neg oh]at kg;exact inv.By j oj hj kg e he hb
    · rw [pA]at kg;by_cases oh:p.j=j
      · subst oh;exact fp.out
      · rw [if_neg oh]at kg;exact inv.rY j kg
    · rw [pA];by_cases oh:p.j=j
      · rw [if_pos oh];exact .inl rfl
      · rw [if_neg oh];exact inv.DL j hj z_
    · have fq:=inv.wG q hq;refine⟨fq.dst,fq.out,fq.slot,fq.pre,λz' => ?_⟩;rw [pA]at z';have dO:p.j≠q.j:=λe=>by rw [if_pos e]at z';cases z'
      rw [if_neg dO]at z';obtain⟨o2,TA,v2,b2,g1,g2,g3,g4,g5,g6,g7,g8,g9,g10,g11⟩:=fq.run z';refine⟨o2,TA,v2,b2,g1,g2,g3,g4,g5,g6,g7,λd pV=>⟨(g8 d pV).1, ?_⟩,g9,g10,g11⟩;by_cases qG:o.dst=some d
      ·
        rcases JX hd g1 ho qG pV with h|h
        · right;intro hn;rw [F9 a o.dst val d iS,if_pos qG];have e1:=(g8 d pV).1 p.j o ho qG h;have e2:=hv d (by rw [<-oo];exact qG);rw [e1,e2]at hn ⊢;rw [gR hn]
        · rw [hr q.j h]at z';cases z'
      · rcases (g8 d pV).2 with ⟨j,oj,h1,h2,h3,h4⟩|h
        · left;have oh:p.j≠j:=λe=>by subst e;rw [ho]at h1;cases h1;exact qG h2
          exact⟨j,oj,h1,h2,h3,by rw [pA,if_neg oh];exact h4⟩
        · right;intro hn;rw [F9 a o.dst val d iS,if_neg qG];exact h hn
    · refine JW (st := {st with t:=bO st.t (L.filter λp => !listed.getD p.j false)}) inv.core hB (F_ _ _ _) (PN _ _ _) (λi => ?_) λi hn => ?_
      · rcases uP st.t (L.filter λq => !(listed.setIfInBounds p.j true).getD q.j false) i with h|⟨h,_⟩
        · rw [h];rfl
        · rw [h];exact inv.tw i
      · rcases uP st.t (L.filter λq => !(listed.setIfInBounds p.j true).getD q.j false) i with h|⟨h,h2⟩
        · exact (hn h).elim
        · rw [h]at hn ⊢;rw [F9 a o.dst val i iS];by_cases qG:o.dst=some i
          · rw [if_pos qG];have e2:=hv i (by rw [<-oo];exact qG);rw [e2]at hn ⊢;rw [gR hn]
          · rw [if_neg qG]
            have e3:aq (bO st.t (L.filter λq => !listed.getD q.j false)) i=aq st.t i:=Bx _ _ _ λq hq=>by
              simp only [List.mem_filter,Bool.not_eq_true']at hq;by_cases PS:p.j=q.j
              · obtain⟨oq,q1,q2⟩:=(inv.wG q hq.1).dst;rw [<-PS,ho]at q1;cases q1;rw [<-q2];exact qG
              · exact h2 q (List.mem_filter.2 ⟨hq.1,by rw [pA,if_neg PS,hq.2];rfl⟩)
            have:=inv.core.tmps i (by show aq (bO st.t _) i ≠ .any;rw [e3];exact hn)
            rw [this];show some ((aq (bO st.t _) i).den J β)=_;rw [e3]
  unfold wpOpIn;simp only [ho];rw [PQ hw now];cases b with
  |false =>
    simp only [Bool.false_eq_true,if_false];refine⟨λf _=>sD r f,next undef w (λ_ => ?_) (Below.refl _ _)⟩;rw [dU rfl];rfl
  |true =>
    simp only [if_true];obtain⟨h1,h2⟩:=gd rfl;refine tq r mm nd (h1 J (Env.ah _ _) β a w inv.core.below (JZ Tz now) (λk hk e hg => ?_) K Q' λval w' gR hB=>next val w' gR hB);rw [(h2 k hk).2]at hg;exact inv.core.mem k e hg
def Shape(o:Oper)(a a':Act):Prop:=a'.tmps.size=a.tmps.size/\∀d,o.dst≠some d->a'.tmps[d]? = a.tmps[d]?
theorem DO(o:Oper)(a:Act)(v:Value):Shape o a (a.put o.dst v):=by
 refine⟨F_ _ _ _,λd hd => ?_⟩;cases ho:o.dst with
 |none=>rfl
 |some x=>simp only [Act.put];exact Array.getElem?_setIfInBounds_ne (λe=>hd (by rw [ho,e]))
theorem TB(o:Oper)(a:Act)(d:Deferred)(v:Value):Shape o a (({a with defers:=d::a.defers}:Act).put o.dst v):=by
 refine⟨by rw [F_],λd hd => ?_⟩;cases ho:o.dst with
 |none=>rfl
 |some x=>simp only [Act.put];exact Array.getElem?_setIfInBounds_ne (λe=>hd (by rw [ho,e]))
theorem TC{F:Fence}{n:Nat}{o:Oper}{a:Act}{w:World}{K:Act->World->Prop}{Q':Exit->Act->World->Prop}(hh:o.wpIn F n P a w (λa' w'=>Shape o a a'->K a' w') Q'):o.wpIn F n P a w K Q':=by
  unfold Oper.wpIn at *;refine⟨hh.1, ?_⟩;have hh:=hh.2;generalize (o.semAt F.round a.eval).run P w=r at *;cases r with
  |ok x w' =>
    cases x<;>simp only [Oper.uponIn]at hh ⊢ <;>
      first
        |exact hh (DO o a _)
        |exact hh (TB o a _ _)
        |exact⟨hh.1,CallsIn.mono hh.2 (λe Aa he=>by cases e<;>first|exact he (DO o a _)|exact he)⟩
        |exact⟨hh.1,RowsIn.mono hh.2 (λ_ _ he=>he (DO o a _))⟩
        |exact⟨hh.1,RoundIn.mono hh.2 (λe Aa he=>by cases e<;>first|exact he (DO o a _)|exact he)⟩
  |halt x w'=>cases x<;>simp only [Oper.uponIn]at hh ⊢<;>exact hh
theorem dj.au{ops:Array Oper}{o:Oper}{eM:St}{J aa:Env}{b:Bool}(wf:eM.WF)(hl:Env.au eM.c J aa)(h:dj ops J eM o b):dj ops aa eM o b:=by
 unfold dj at *;split
 ·rename_i hg;rw [hg]at h;exact h
 ·rename_i j want hg;rw [hg]at h;obtain⟨x,hx,h⟩:=h;refine⟨x,hx,h.imp (fun⟨e,he,hb⟩=>⟨e,he, ?_⟩) id⟩;have we:e.wf eM.c=true:=by have:=wf.t x;rw [he]at this;exact this
  rw [BE.U hl we];exact hb
theorem Env.rF{c d:an}{J aa:Env}(hc:c.le d)(h:Env.au d J aa):Env.au c J aa:=Env.ae hc (Env.ah _ _) h
theorem l_.move{ops:Array Oper}{rem uQ:List Nat}{listed eS:Array Bool}{st gu:St}{J aa:Env}{β ag:Nat->Nat}{a a':Act}{p:fY}(f:l_ P W ops rem listed st J β a p)(hc:st.c.le gu.c)(hl:Env.au st.c J aa)(hb:∀k,k<st.c.nk->ag k=β k)(hn:gu.n=st.n)
  (uR:∀j∈uQ,j∈rem) (fF:eS.getD p.j false=false->listed.getD p.j false=false) (iX:∀d,p.dst=some d->aq gu.t d=aq st.t d)
  (ht:∀d j oj,ops[j]? = some oj->oj.dst=some d->j∈cR ops p.j->aq gu.t d=aq st.t d) (uS:∀j,listed.getD j false=false->j∈cR ops p.j->eS.getD j false=false)
  (xR:eS.getD p.j false=false->∀d o,ops[p.j]? = some o->d∈o.looksAt ops->a'.tmps[d]? = a.tmps[d]?) (hm:eS.getD p.j false=false->∀k∈p.rd,aC gu.m gu.o k=aC st.m st.o k):l_ P W ops uQ eS gu aa ag a' p:=by
 refine⟨f.dst,λh=>f.out (uR _ h),λd hd=>by rw [hn];exact f.slot d hd,λj hj h=>f.pre j hj (uR _ h),λhu => ?_⟩;obtain⟨o,eM,v,b,g1,g2,g3,g4,g5,g6,g7,g8,g9,g10,g11⟩:=f.run (fF hu);have fZ:Env.au eM.c J aa:=Env.rF g3 hl;refine⟨o,eM,v,b,g1,g2,an.le_trans g3 hc,bK.U fZ g2.k g4,λd hd=>by rw [iX d hd];exact g5 d hd,g6,g7.au g2 fZ,λd pV=>⟨λj oj h1 h2 h3=>by rw [ht d j oj h1 h2 h3];exact (g8 d pV).1 j oj h1 h2 h3, ?_⟩,g9,λgd => ?_,g11⟩
 ·rcases (g8 d pV).2 with ⟨j,oj,h1,h2,h3,h4⟩|h
  ·exact .inl ⟨j,oj,h1,h2,h3,uS j h4 h3⟩
  ·right;intro dO;rw [xR hu d o g1 pV,h dO,SV.U fZ (λk hk=>hb k (Nat.lt_of_lt_of_le hk g3.k)) (g2.t d)]
 ·obtain⟨q1,q2⟩:=g10 gd;refine⟨λI h=>q1 I (Env.ae hc hl h),λk hk=>⟨(q2 k hk).1, ?_⟩⟩;rw [hm hu k (q2 k hk).1];exact (q2 k hk).2
theorem TD{st:St}{o:Oper}{t:TypeId}{x:Operand}{q:Nat × Nat × Bool × Nat}{cs:List At}{ty:TypeId}{u:CV}{J:Env}(wf:st.WF)(hk:bK.den st.k J)(ho:o.op=.load t x)(hx:st.ev x=.cv (.one (.loc q.1 q.2.1)))(hz:aF P t=some (q.2.2.1,q.2.2.2))(hm:getM st.m q.1=some (cs,ty))(hu:tV q cs=some u):bx P W st o (.cv u) J:=by
  obtain⟨v,c',aa,h1,h2,h3,h4⟩:=H7 (G:=⟨P,[],[],[],[],[],[],[]⟩) (W:=W) (Q:=λ_=>False) (QM:=λ_ _=>False) (QP:=λ_ _=>False) (K:=λv' c' _=>v'=.cv u/\c'=st.c) (J:=J) ⟨λf hf _ _=>absurd hf (by simp),λf hf _ _=>absurd hf (by simp),λe he=>absurd he (by simp)⟩ wf hk (by
    unfold tM;rw [ho];simp only [hx,jL,lC,hz,hm];unfold tV at hu;by_cases hg:q.2.2.1=true
    · rw [if_pos hg]at hu;simp only [hg,if_true];split at hu
      · rename_i hle;rw [if_pos hle];cases hu
        first|exact⟨rfl,rfl⟩|exact⟨rfl,trivial⟩
      · cases hu
    · rw [if_neg hg]at hu;simp only [hg,if_false];cases hc:cs[q.2.1]? with
      |none=>rw [hc]at hu;cases hu
      |some a =>
        rw [hc]at hu;cases hu
        first|exact⟨rfl,rfl⟩|exact⟨rfl,trivial⟩)
  obtain⟨rfl,rfl⟩:=h1;exact h4 J ⟨λi hi=>(h3.i i hi).symm,λi hi=>(h3.b i hi).symm,λi hi=>(h3.v i hi).symm,λi hi=>(h3.p i hi).symm,λi hi=>(h3.s i hi).symm,λi hi=>(h3.l i hi).symm⟩
theorem J0{st:St}{o:Oper}{q:Nat × Nat × Bool × Nat}(h:vV P st o=some q):∃t x,o.op=.load t x/\st.ev x=.cv (.one (.loc q.1 q.2.1))/\aF P t=some (q.2.2.1,q.2.2.2):=by
 unfold vV at h;split at h
 ·rename_i t x ho;split at h
  ·rename_i g n k off h1 h2;cases h;exact⟨t,x,ho,h2,h1⟩
  ·cases h
 ·cases h
theorem l_.Ab{ops:Array Oper}{rem uQ:List Nat}{listed eS:Array Bool}{st gu:St}{J aa:Env}{β ag:Nat->Nat}{a a':Act}{p:fY}(f:l_ P W ops rem listed st J β a p)(hc:st.c.le gu.c)(hl:Env.au st.c J aa)(hb:∀k,k<st.c.nk->ag k=β k)(hn:gu.n=st.n)
  (uR:∀j∈uQ,j∈rem) (fF:eS.getD p.j false=false->listed.getD p.j false=false) (iX:∀d,p.dst=some d->aq gu.t d=aq st.t d)
  (ht:∀d j oj,ops[j]? = some oj->oj.dst=some d->j∈cR ops p.j->aq gu.t d=aq st.t d) (uS:∀j,listed.getD j false=false->j∈cR ops p.j->eS.getD j false=false)
  (xR:eS.getD p.j false=false->∀d o,ops[p.j]? = some o->d∈o.looksAt ops->a'.tmps[d]? = a.tmps[d]?) (hm:vW st.t gu.m p=true) (il:gu.WF) (fA:bK.den gu.k aa):l_ P W ops uQ eS gu aa ag a' p:=by
 refine⟨f.dst,λh=>f.out (uR _ h),λd hd=>by rw [hn];exact f.slot d hd,λj hj h=>f.pre j hj (uR _ h),λhu => ?_⟩;obtain⟨o,eM,v,b,g1,g2,g3,g4,g5,g6,g7,g8,g9,g10,g11⟩:=f.run (fF hu);have fZ:Env.au eM.c J aa:=Env.rF g3 hl;have hle:eM.c.le gu.c:=an.le_trans g3 hc;unfold vW at hm;split at hm;rotate_left
 ·cases hm
 rename_i q d hq hd;split at hm;rotate_left
 ·cases hm
 rename_i cs ty u oc TE;have TF:=of_decide_eq_true hm;obtain⟨t,x,e1,e2,e3⟩:=g11 q hq;have hv:v=.cv u:=by rw [<-g5 d hd,TE]
 have PT:({gu with t:=eM.t}:St).WF:=⟨λi=>SV.aH hle (g2.t i),il.m,il.o,il.ap,il.r,il.d,il.k,il.df⟩
 have TG:∀y,eM.ev x=y->y ≠ .any->(∀g,x ≠ .global g)->({gu with t:=eM.t}:St).ev x=y:=λy hy _ hg=>by
  cases x with
  |tmp s=>exact hy
  |const s=>exact hy
  |func s=>exact hy
  |global g=>exact (hg g rfl).elim
 have xH:({gu with t:=eM.t}:St).ev x=.cv (.one (.loc q.1 q.2.1)):=TG _ e2 (by simp) λg hg=>by
  subst hg;simp only [St.ev]at e2;split at e2<;>cases e2
 have dq:aP ({gu with t:=eM.t}:St) o=aP eM o:=by
  unfold aP;rw [e1];simp only [xH,e2]
 refine⟨o,{gu with t:=eM.t},v,b,g1,PT,an.le_refl _,fA,λd hd=>by rw [iX d hd];exact g5 d hd,g6, ?_,λd pV=>⟨λj oj h1 h2 h3=>by rw [ht d j oj h1 h2 h3];exact (g8 d pV).1 j oj h1 h2 h3, ?_⟩,g9,λgd=>⟨λI h => ?_,λk hk=>⟨?_,rfl⟩⟩,λq' PU => ?_⟩
 ·have:=g7.au g2 fZ
  unfold dj at this ⊢;exact this
 ·rcases (g8 d pV).2 with ⟨j,oj,h1,h2,h3,h4⟩|h
  ·exact .inl ⟨j,oj,h1,h2,h3,uS j h4 h3⟩
  ·right;intro dO;have dO:aq eM.t d ≠ .any:=dO;show _=some ((aq eM.t d).den aa ag);rw [xR hu d o g1 pV,h dO,SV.U fZ (λk hk=>hb k (Nat.lt_of_lt_of_le hk g3.k)) (g2.t d)]
 ·rw [hv];exact TD (ty:=ty) PT (bK.U h il.k fA) e1 xH e3 oc TF
 ·rw [dq]at hk;exact ((g10 gd).2 k hk).1
 ·rw [hq]at PU;cases PU;exact⟨t,x,e1,xH,e3⟩
theorem PV{ops:Array Oper}{listed:Array Bool}(iD:∀ j o,ops[j]? = some o->listed.getD j false=true->∀ e∈o.after,Region.binds .any e=true->listed.getD e.on false=true) :
    ∀(n:Nat) (acc:List Nat),(∀j∈acc,listed.getD j false=true)->∀j∈qY ops n acc,listed.getD j false=true
  |0,acc,h=>h
  |n+1,acc,h=>by
    unfold qY;refine PV iD n _ λj hj => ?_;split at hj
    · rename_i hn;rcases DE _ _ hj with hj|hj
      · exact h j hj
      · have TH:=h n (List.contains_iff_mem.1 hn);cases ho:ops[n]? with
        |none=>unfold cR at hj;rw [ho]at hj;cases hj
        |some o =>
          obtain⟨e,he,hb,rfl⟩:=(Bz ho).1 hj;exact iD n o ho TH e he hb
    · exact h j hj
theorem J1{ops:Array Oper}{listed:Array Bool}(iD:∀j o,ops[j]? = some o->listed.getD j false=true->∀e∈o.after,Region.binds .any e=true->listed.getD e.on false=true){i:Nat}(hr:∀j∈cR ops i,listed.getD j false=true):∀j∈before ops i,listed.getD j false=true:=by
 unfold before;refine PV iD i _ λj hj => ?_;rcases DE _ _ hj with h|h
 ·cases h
 ·exact hr j h
theorem PW{ops:Array Oper}(hd:dz ops=true){i:Nat}{r:List Nat}{st:St}{L:List fY}{J:Env}{listed:Array Bool}{β:Nat->Nat}{a:Act}{w:World}(inv:pz P W R Z ops (i::r) st L J listed β a w){o:Oper}(ho:ops[i]? = some o)(pt:i ∉ r)(uT:∀j∈cR ops i,j ∉ i::r)
  (hr:∀j∈cR ops i,listed.getD j false=true) (iX:o9 st.n o.dst=true) {s:St} {ar:Env} {aQ:Nat->Nat} {a2:Act} {w2:World} (hC:Core W R Z ar aQ s a2 w2) (hc:st.c.le s.c) (hl:Env.au st.c J ar) (hb:∀k,k<st.c.nk->aQ k=β k) (ga:Shape o a a2)
  (fC:∀p∈L.filter (λp => !(before ops i).contains p.j),(∀k∈p.rd,aC s.m s.o k=aC st.m st.o k)∨vW st.t s.m p=true) :
  pz P W R Z ops r {s with t:=dM st.t o.dst (match o.dst with|some d=>aq s.t d|none=>.any),n:=st.n} (L.filter λp => !(before ops i).contains p.j) ar (listed.setIfInBounds i true) aQ a2 w2:=by
 have vE:i<ops.size:=(Array.getElem?_eq_some_iff.1 ho).1;have xP:i<listed.size:=by rw [inv.size];exact vE
 have pA:∀j,(listed.setIfInBounds i true).getD j false=if i=j then true else listed.getD j false:=λj=>xN listed i j xP
 have DP:listed.getD i false=false:=by
  cases h:listed.getD i false with
  |false=>rfl
  |true=>exact (inv.rY i h (by simp)).elim
 have BA:∀d,aq (dM st.t o.dst (match o.dst with|some d=>aq s.t d|none=>.any)) d=if o.dst=some d then aq s.t d else aq st.t d:=λd=>by
  rw [vF];by_cases h:o.dst=some d
  ·rw [if_pos h,if_pos h,h]
  ·rw [if_neg h,if_neg h]
 refine⟨by simp [inv.size],λj oj hj kg e he eG => ?_,λj kg => ?_,λj hj z_ => ?_,λq hq => ?_,λd => ?_, ?_⟩
 ·rw [pA]at kg ⊢;by_cases h1:i=e.on
  ·rw [if_pos h1]
  ·rw [if_neg h1];by_cases h2:i=j
   ·subst h2;rw [ho]at hj;cases hj;exact hr e.on ((Bz ho).2 ⟨e,he,eG,rfl⟩)
   ·rw [if_neg h2]at kg;exact inv.By j oj hj kg e he eG
 ·rw [pA]at kg;by_cases h:i=j
  ·subst h;exact pt
  ·rw [if_neg h]at kg;exact λh2=>inv.rY j kg (List.mem_cons_of_mem _ h2)
 ·rw [pA];by_cases h:i=j
  ·rw [if_pos h];exact .inl rfl
  ·rw [if_neg h];rcases inv.DL j hj (λh2=>(List.mem_cons.1 h2).elim (λe=>h e.symm) z_)with h3|⟨p,hp,oh⟩
   ·exact .inl h3
   ·by_cases vG:p.j∈before ops i
    ·left;rw [<-oh];exact J1 inv.By hr _ vG
    ·exact .inr ⟨p,List.mem_filter.2 ⟨hp,by simpa using vG⟩,oh⟩
 ·have TI:q∈L:=(List.mem_filter.1 hq).1;have fq:=inv.wG q TI;have dO:i≠q.j:=λe=>fq.out (by rw [<-e];simp)
  have pB:∀d j oj,ops[j]? = some oj->oj.dst=some d->(j=q.j∨j∈cR ops q.j)->o.dst≠some d:=λd j oj h1 h2 h3 h4=>by
   have:=JY hd ho h1 h4 h2
   subst this;rcases h3 with h3|h3
   ·exact dO h3
   ·exact fq.pre i h3 (by simp)
  have m1:∀d,q.dst=some d->aq (dM st.t o.dst (match o.dst with|some d=>aq s.t d|none=>.any)) d=aq st.t d:=λd oM=>by
   obtain⟨oq,e1,e2⟩:=fq.dst;rw [BA,if_neg (pB d q.j oq e1 (by rw [e2,oM]) (.inl rfl))]
  have m2:∀d j oj,ops[j]? = some oj->oj.dst=some d->j∈cR ops q.j->aq (dM st.t o.dst (match o.dst with|some d=>aq s.t d|none=>.any)) d=aq st.t d:=λd j oj h1 h2 h3=>by
   rw [BA,if_neg (pB d j oj h1 h2 (.inr h3))]
  have m3:∀j,listed.getD j false=false->j∈cR ops q.j->(listed.setIfInBounds i true).getD j false=false:=λj h1 h2=>by
   have:i≠j:=λe=>fq.pre j h2 (by rw [<-e];simp)
   rw [pA,if_neg this];exact h1
  have m4:(listed.setIfInBounds i true).getD q.j false=false->∀d o',ops[q.j]? = some o'->d∈o'.looksAt ops->a2.tmps[d]? = a.tmps[d]? := λh d oq h1 h2=>by
   refine ga.2 d λoo => ?_;rcases JX hd h1 ho oo h2 with h3|h3
   ·exact fq.pre i h3 (by simp)
   ·rw [pA,if_neg dO]at h;rw [hr q.j h3]at h;cases h
  rcases fC q hq with DQ|DQ
  ·exact fq.move hc hl hb rfl (λj hj=>List.mem_cons_of_mem _ hj) (λh=>by rw [pA,if_neg dO]at h;exact h) m1 m2 m3 m4 λh k hk=>DQ k hk
  ·refine fq.Ab hc hl hb rfl (λj hj=>List.mem_cons_of_mem _ hj) (λh=>by rw [pA,if_neg dO]at h;exact h) m1 m2 m3 m4 DQ ⟨λd => ?_,hC.wf.m,hC.wf.o,hC.wf.ap,hC.wf.r,hC.wf.d,hC.wf.k,hC.wf.df⟩ hC.kn;show (aq (dM _ _ _) d).wf s.c=true;rw [BA];split
   ·exact hC.wf.t d
   ·exact SV.aH hc (inv.tw d)
 ·show (aq (dM _ _ _) d).wf s.c=true;rw [BA];split
  ·exact hC.wf.t d
  ·exact SV.aH hc (inv.tw d)
 ·have mO:a2.tmps.size=st.n:=by rw [ga.1];exact inv.core.size
  refine⟨mO,λd hn => ?_,hC.ja,hC.below,hC.mem,hC.inj,hC.fb,hC.iU,hC.fR,hC.dn,⟨λd => ?_,hC.wf.m,hC.wf.o,hC.wf.ap,hC.wf.r,hC.wf.d,hC.wf.k,hC.wf.df⟩,hC.kn⟩
  ·rcases uP (dM st.t o.dst (match o.dst with|some d=>aq s.t d|none=>.any)) ((L.filter λp => !(before ops i).contains p.j).filter λp => !(listed.setIfInBounds i true).getD p.j false) d with h|⟨h,h2⟩
   ·exact (hn h).elim
   ·have ke:aq (dM st.t o.dst (match o.dst with|some d=>aq s.t d|none=>.any)) d ≠ .any:=by rw [<-h];exact hn
    show _=some ((aq (bO _ _) d).den ar aQ);rw [h];rw [BA]at ke ⊢;by_cases oo:o.dst=some d
    ·rw [if_pos oo]at ke ⊢;exact hC.tmps d ke
    ·rw [if_neg oo]at ke ⊢;rw [ga.2 d oo]
     have e3:aq (bO st.t (L.filter λq => !listed.getD q.j false)) d=aq st.t d:=Bx _ _ _ λq hq=>by
      simp only [List.mem_filter,Bool.not_eq_true']at hq;have TJ:i≠q.j:=λe=>(inv.wG q hq.1).out (by rw [<-e];simp)
      have vG:q.j ∉ before ops i:=λvG=>by
       have:=J1 inv.By hr _ vG
       rw [this]at hq;cases hq.2
      exact h2 q (List.mem_filter.2 ⟨List.mem_filter.2 ⟨hq.1,by simpa using vG⟩,by rw [pA,if_neg TJ,hq.2];rfl⟩)
     have h5:=inv.core.tmps d (by show aq (bO st.t _) d ≠ .any;rw [e3];exact ke);rw [h5];show some ((aq (bO st.t _) d).den J β)=_;rw [e3,SV.U hl hb (inv.tw d)]
  ·show (aq (bO _ _) d).wf s.c=true;rcases uP (dM st.t o.dst (match o.dst with|some d=>aq s.t d|none=>.any)) ((L.filter λp => !(before ops i).contains p.j).filter λp => !(listed.setIfInBounds i true).getD p.j false) d with h|⟨h,_⟩
   ·rw [h];rfl
   ·rw [h,BA];split
    ·exact hC.wf.t d
    ·exact SV.aH hc (inv.tw d)
def rG(F:Kf)(c:an)(J:Env):Prop:=∀x∈F,x.1.wf c=true/\x.1.den J=x.2
theorem rG.mono{F:Kf}{c c':an}{J aa:Env}(h:rG F c J)(hc:c.le c')(hl:Env.au c J aa):rG F c' aa:=λx hx=>⟨BE.aH hc (h x hx).1,(BE.U hl (h x hx).1).trans (h x hx).2⟩
theorem rG.look{F:Kf}{c:an}{J:Env}(h:rG F c J){e:BE}{b:Bool}(he:F.lookup e=some b):e.den J=b:=by
  induction F with
  |nil=>cases he
  |cons x r ih =>
    rw [List.lookup_cons]at he;split at he
    · rename_i hq
      have:e=x.1:=by simpa using hq
      cases he;rw [this];exact (h x (by simp)).2
    · exact ih (λy hy=>h y (by simp [hy])) he
theorem PX{F:Kf}{c:an}{e:BE}{t f:Kf->Env->Prop}{J:Env}(hF:rG F c J)(hw:e.wf c=true)(h:lb (PA P W Q QM QP) F e t f J):∃F',rG F' c J/\((e.den J=true/\t F' J)∨(e.den J=false/\f F' J)):=by
  unfold lb at h;cases he:F.lookup e with
  |some b =>
    rw [he]at h
    have:=hF.look he
    cases b with
    |true=>exact⟨F,hF,.inl ⟨this,h⟩⟩
    |false=>exact⟨F,hF,.inr ⟨this,h⟩⟩
  |none =>
    rw [he]at h
    have cons:∀b,e.den J=b->rG ((e,b)::F) c J:=λb hb x hx=>by
      rcases List.mem_cons.1 hx with rfl|hx
      · exact⟨hw,hb⟩
      · exact hF x hx
    rcases zq h with ⟨h1,h2⟩|⟨h1,h2⟩
    · exact⟨_,cons _ h1,.inl ⟨h1,h2⟩⟩
    · exact⟨_,cons _ h1,.inr ⟨h1,h2⟩⟩
theorem PY{ops:Array Oper}{st:St}{F:Kf}{o:Oper}{go no:Kf->Env->Prop}{J:Env}(hF:rG F st.c J)(Ga:∀ i,(aq st.t i).wf st.c=true)(h:lf (PA P W Q QM QP) F (guardOf ops st o) go no J) :
    ∃b F',rG F' st.c J/\dj ops J st o b/\(b=true->go F' J)/\(b=false->no F' J):=by
  unfold guardOf at h;cases hg:o.guard with
  |none =>
    rw [hg]at h;exact⟨true,F,hF,by unfold dj;rw [hg],λ_=>h,λe=>absurd e (by simp)⟩
  |some jw =>
    obtain⟨j,want⟩:=jw;rw [hg]at h;simp only at h;generalize hb:(ops[j]?).bind (·.dst)=u at h;cases u with
    |none=>exact h.elim
    |some d =>
      simp only at h;split at h;rotate_left
      · exact h.elim
      generalize hs:aq st.t d=sv at h;split at h
      · rename_i e;simp only [lf]at h;have uf:e.wf st.c=true:=by have:=Ga d;rw [hs]at this;exact this
        obtain⟨F',uU,⟨h1,h2⟩|⟨h1,h2⟩⟩:=PX hF uf h
        · refine⟨want,F',uU,by unfold dj;rw [hg];exact⟨d,hb,.inl ⟨e,hs,by rw [h1];cases want<;>rfl⟩⟩,λhw => ?_,λhw => ?_⟩
          · rw [if_pos hw]at h2;exact h2
          · rw [if_neg (by rw [hw];simp)]at h2;exact h2
        · refine⟨!want,F',uU,by unfold dj;rw [hg];exact⟨d,hb,.inl ⟨e,hs,by rw [h1];cases want<;>rfl⟩⟩,λhw => ?_,λhw => ?_⟩
          · rw [if_neg (by cases want<;>simp_all)]at h2;exact h2
          · rw [if_pos (by cases want<;>simp_all)]at h2;exact h2
      · exact⟨false,F,hF,by unfold dj;rw [hg];exact⟨d,hb,.inr ⟨hs,rfl⟩⟩,(λe=>absurd e (by simp)),λ_=>h⟩
      · exact h.elim
theorem J2{G:bY}(hG:G.Ok){st:St}{o:Oper}{K:SV->an->bK->Env->Prop}{J:Env}(wf:st.WF)(fA:bK.den st.k J)(h:Fi (PA G.P W Q QM QP) G st o K J) :
    ∃v c k aa,K v c k aa/\st.c.le c/\c.nk=st.c.nk/\Env.au st.c J aa/\v.wf c=true/\bK.wf k c/\bK.den k aa/\∀I,Env.au c aa I->bx G.P W st o v I:=by
  have val : tM (PA G.P W Q QM QP) G st o (λv c => if c.nk = st.c.nk /\ v.wf c = true then K v c st.k else (PA G.P W Q QM QP).fail "drawn: value") J ->
      ∃v c k aa,K v c k aa/\st.c.le c/\c.nk=st.c.nk/\Env.au st.c J aa/\v.wf c=true/\bK.wf k c/\bK.den k aa/\∀I,Env.au c aa I->bx G.P W st o v I:=by
    intro h;obtain⟨v,c,aa,h1,h2,h3,h4⟩:=H7 hG wf fA h;split at h1
    · rename_i hc;exact⟨v,c,st.k,aa,h1,h2,hc.1,h3,hc.2,λz hz=>Kn.aH h2 (wf.k z hz),bK.U h3 wf.k fA,h4⟩
    · exact h1.elim
  obtain⟨dst,op,type,pos,after,guard⟩:=o;unfold Fi at h;simp only [Cg]at h;cases op<;>first|exact val h|skip
  rename_i t x;simp only at h;generalize hu:G.P.underlying t=u1 at h;generalize hx:st.ev x=sx at h;split at h
  · exact h.elim
  · rename_i d v uh;split at h
    · rename_i hv;obtain⟨zF,wo⟩:=hv;have h:=h ⟨.iface t (v.den J b0),rfl⟩ rfl;have hle:st.c.le {st.c with nv:=st.c.nv+1}:=zn st.c .tf;have cX:=Co st.c J ⟨.iface t (v.den J b0),rfl⟩
      have e0:∀I,Env.au {st.c with nv:=st.c.nv+1} (J.mD st.c.nv ⟨.iface t (v.den J b0),rfl⟩) I->(I.v st.c.nv).1=.iface t (v.den I b0):=λI hl=>by
        rw [hl.v st.c.nv (Nat.lt_succ_self _),CV.U (Env.ae hle cX hl) (λ_ _=>rfl) wo];exact congrArg (λy:OV=>y.1) (if_pos rfl)
      refine⟨_,_,_,_,h,hle,rfl,cX,by simp [SV.wf,CV.wf,At.wf],λz hz => ?_,λz hz => ?_,λI hl=>bx.run λβ a w hB aX hr=>⟨.iface t (v.den I β), ?_,λ_ => ?_⟩⟩
      · rcases List.mem_cons.1 hz with rfl|hz
        · simp only [Kn.wf,Bool.and_eq_true,decide_eq_true_eq];exact⟨Nat.lt_succ_self _,CV.aH hle wo,zF⟩
        · exact Kn.aH hle (wf.k z hz)
      · rcases List.mem_cons.1 hz with rfl|hz
        · simp only [Kn.den];exact e0 _ (Env.ah _ _)
        · exact Kn.U cX (wf.k z hz) (fA z hz)
      · have e1:=aX x (by simp [Op.operands]) (by rw [hx];simp);rw [hx]at e1;simp only [execOp,e1];refine zg _ w _ ?_
        cases d<;>first
          | (exact (uh _ rfl).elim)
          | (simp [Instr.makeInterface,run_underlying hu,SV.den])
      · show _=(I.v st.c.nv).1;rw [e0 I hl,CV.aU I β b0 zF]
    · exact h.elim
  · exact h.elim
theorem TK{G:bY}(hG:G.Ok){st:St}{F:Kf}{o:Oper}{K:SV->an->bK->Kf->Env->Prop}{J:Env}(wf:st.WF)(hF:rG F st.c J)(fA:bK.den st.k J)(h:yP (PA G.P W Q QM QP) G st F o K J) :
  ∃v c k aa F',rG F' c aa/\K v c k F' aa/\st.c.le c/\c.nk=st.c.nk/\Env.au st.c J aa/\v.wf c=true/\bK.wf k c/\bK.den k aa/\∀I,Env.au c aa I->bx G.P W st o v I:=by
 have gen:Fi (PA G.P W Q QM QP) G st o (λv c k=>K v c k F) J->∃v c k aa F',rG F' c aa/\K v c k F' aa/\st.c.le c/\c.nk=st.c.nk/\Env.au st.c J aa/\v.wf c=true/\bK.wf k c/\bK.den k aa/\∀I,Env.au c aa I->bx G.P W st o v I:=by
  intro h;obtain⟨v,c,k,aa,g1,g2,g3,g4,g5⟩:=J2 hG wf fA h;exact⟨v,c,k,aa,F,hF.mono g2 g4,g1,g2,g3,g4,g5⟩
 obtain⟨dst,op,type,pos,after,guard⟩:=o;unfold yP at h;cases op<;>first|exact gen h|skip
 rename_i x a b;simp only at h;generalize hx:st.ev x=sx at h;split at h;rotate_left
 ·exact h.elim
 rename_i e;have uf:e.wf st.c=true:=by have:=wf.ev x;rw [hx]at this;exact this
 have fin:∀(bb:Bool),e.den J=bb->∀I,Env.au st.c J I->bx G.P W st ⟨dst,.pick x a b,type,pos,after,guard⟩ (st.ev (if bb=true then a else b)) I:=by
  intro bb hd I hl;refine bx.run λβ ac w hB ho hr=>⟨ac.eval (if bb=true then a else b), ?_,λhn=>ho _ (by cases bb<;>simp [Op.operands]) hn⟩;have hc:=ho x (by simp [Op.operands]) (by rw [hx];simp);rw [hx]at hc;simp only [SV.den,CV.den,At.den,BE.U hl uf,hd]at hc;cases bb<;>simp [execOp,hc,asBool]
 obtain⟨F',uU,⟨h1,h2⟩|⟨h1,h2⟩⟩:=PX hF uf h
 ·exact⟨_,_,_,J,F',uU,h2,an.le_refl _,rfl,Env.ah _ _,wf.ev a,wf.k,fA,fin true h1⟩
 ·exact⟨_,_,_,J,F',uU,h2,an.le_refl _,rfl,Env.ah _ _,wf.ev b,wf.k,fA,fin false h1⟩
theorem PZ{ops:Array Oper}(hd:dz ops=true){i:Nat}{r:List Nat}{st:St}{L:List fY}{J:Env}{listed:Array Bool}{β:Nat->Nat}{a:Act}{w:World}(inv:pz P W R Z ops (i::r) st L J listed β a w){o:Oper}(ho:ops[i]? = some o)(pt:i ∉ r)(uT:∀j∈cR ops i,j ∉ i::r)
  (iX:o9 st.n o.dst=true) {v:SV} {c:an} {k:bK} {aa:Env} {b:Bool} {rd:List Nat} {ld:Option (Nat × Nat × Bool × Nat)} (hc:st.c.le c) (hl:Env.au st.c J aa) (hv:v.wf c=true) (tm:bK.wf k c) (g_:bK.den k aa) (nd:∀c,o.op ≠ .defer c) (hw:dj ops J st o b) (dU:b=false->v=.fJ)
  (gd:b=true->(∀I,Env.au c aa I->bx P W st o v I)/\∀k∈aP st o,k∈rd) (nH:∀q,ld=some q->∃t x,o.op=.load t x/\st.ev x=.cv (.one (.loc q.1 q.2.1))/\aF P t=some (q.2.2.1,q.2.2.2)):pz P W R Z ops r {st with t:=dM st.t o.dst v,c:=c,k:=k} (⟨i,o.dst,rd,ld⟩::L) aa listed β a w:=by
 have qH:st.WF:=⟨inv.tw,inv.core.wf.m,inv.core.wf.o,inv.core.wf.ap,inv.core.wf.r,inv.core.wf.d,inv.core.wf.k,inv.core.wf.df⟩
 have DP:listed.getD i false=false:=by
  cases h:listed.getD i false with
  |false=>rfl
  |true=>exact (inv.rY i h (by simp)).elim
 have dO:∀q∈L,i≠q.j:=λq hq e=>(inv.wG q hq).out (by rw [<-e];simp);refine⟨inv.size,inv.By,λj hj h=>inv.rY j hj (List.mem_cons_of_mem _ h),λj hj z_ => ?_,λq hq => ?_,λd => ?_, ?_⟩
 ·by_cases h:i=j
  ·exact .inr ⟨⟨i,o.dst,rd,ld⟩,by simp,h⟩
  ·rcases inv.DL j hj (λh2=>(List.mem_cons.1 h2).elim (λe=>h e.symm) z_)with h3|⟨p,hp,oh⟩
   ·exact .inl h3
   ·exact .inr ⟨p,List.mem_cons_of_mem _ hp,oh⟩
 ·rcases List.mem_cons.1 hq with rfl|hq
  ·refine⟨⟨o,ho,rfl⟩,pt,λd oM => ?_,λj hj h=>uT j hj (List.mem_cons_of_mem _ h),λ_=>⟨o,st,v,b,ho,qH,hc,bK.U hl qH.k inv.core.kn,λd oM => ?_,nd,hw.au qH hl,λd pV=>⟨λj oj h1 h2 h3 => ?_, ?_⟩,dU,λhb=>⟨(gd hb).1,λk hk=>⟨(gd hb).2 k hk,rfl⟩⟩,nH⟩⟩
   ·rw [show o.dst=some d from oM]at iX;simpa [o9]using iX
   ·show aq (dM st.t o.dst v) d=v;rw [vF,if_pos oM]
   ·show _=aq (dM st.t o.dst v) d;rw [vF,if_neg λh => ?_]
    have:=JY hd ho h1 h h2
    subst this;exact uT i h3 (by simp)
   ·by_cases hx:∃j oj,ops[j]? = some oj/\oj.dst=some d/\j∈cR ops i/\listed.getD j false=false
    ·exact .inl hx
    ·right;intro hn
     have e3:aq (bO st.t (L.filter λq => !listed.getD q.j false)) d=aq st.t d:=Bx _ _ _ λq hq h=>by
      simp only [List.mem_filter,Bool.not_eq_true']at hq;have fq:=inv.wG q hq.1;obtain⟨oq,q1,q2⟩:=fq.dst;rcases JX hd ho q1 (by rw [q2,h]) pV with h4|h4
      ·exact hx ⟨q.j,oq,q1,by rw [q2,h],h4,hq.2⟩
      ·exact fq.pre i h4 (by simp)
     have h5:=inv.core.tmps d (by show aq (bO st.t _) d ≠ .any;rw [e3];exact hn);rw [h5];show some ((aq (bO st.t _) d).den J β)=_;rw [e3,SV.U hl (λ_ _=>rfl) (inv.tw d)]
  ·have fq:=inv.wG q hq
   have pB:∀d j oj,ops[j]? = some oj->oj.dst=some d->(j=q.j∨j∈cR ops q.j)->o.dst≠some d:=λd j oj h1 h2 h3 h4=>by
    have:=JY hd ho h1 h4 h2
    subst this;rcases h3 with h3|h3
    ·exact dO q hq h3
    ·exact fq.pre i h3 (by simp)
   refine fq.move hc hl (λ_ _=>rfl) rfl (λj hj=>List.mem_cons_of_mem _ hj) (λh=>h) (λd oM => ?_) (λd j oj h1 h2 h3 => ?_) (λj h1 h2=>h1) (λ_ d oq h1 h2=>rfl) λ_ _ _=>rfl
   ·show aq (dM _ _ _) d=_;obtain⟨oq,e1,e2⟩:=fq.dst;rw [vF,if_neg (pB d q.j oq e1 (by rw [e2,oM]) (.inl rfl))]
   ·show aq (dM _ _ _) d=_;rw [vF,if_neg (pB d j oj h1 h2 (.inr h3))]
 ·show (aq (dM _ _ _) d).wf c=true;rw [vF];split
  ·exact hv
  ·exact SV.aH hc (inv.tw d)
 ·have dS:=inv.core;have g:=qH.grow hc
  have DR:((⟨i,o.dst,rd,ld⟩:fY)::L).filter (λp => !listed.getD p.j false)=⟨i,o.dst,rd,ld⟩::L.filter (λp => !listed.getD p.j false):=by
   rw [List.filter_cons,if_pos (by simp [DP])]
  have DT:∀d,(aq (bO (dM st.t o.dst v) (((⟨i,o.dst,rd,ld⟩:fY)::L).filter λp => !listed.getD p.j false)) d).wf c=true:=λd=>by
   rcases uP (dM st.t o.dst v) (((⟨i,o.dst,rd,ld⟩:fY)::L).filter λp => !listed.getD p.j false) d with h|⟨h,_⟩
   ·rw [h];rfl
   ·rw [h,vF];split
    ·exact hv
    ·exact SV.aH hc (inv.tw d)
  have cV:=dS.au hl;refine⟨dS.size,λd hn => ?_,dS.ja,dS.below,λk e hg=>cV.mem k e hg,dS.inj,dS.fb,dS.iU,dS.fR,dS.dn,⟨DT,g.m,g.o,g.ap,g.r,g.d,tm,g.df⟩,g_⟩;rcases uP (dM st.t o.dst v) (((⟨i,o.dst,rd,ld⟩:fY)::L).filter λp => !listed.getD p.j false) d with h|⟨h,h2⟩
  ·exact (hn h).elim
  ·have oo:o.dst≠some d:=h2 ⟨i,o.dst,rd,ld⟩ (by rw [DR];simp);have ke:aq (dM st.t o.dst v) d ≠ .any:=by rw [<-h];exact hn
   show _=some ((aq (bO _ _) d).den aa β);rw [h];rw [vF,if_neg oo]at ke ⊢;have e3:aq (bO st.t (L.filter λq => !listed.getD q.j false)) d=aq st.t d:=Bx _ _ _ λq hq=>h2 q (by rw [DR];exact List.mem_cons_of_mem _ hq);have h5:=cV.tmps d (by show aq (bO st.t _) d ≠ .any;rw [e3];exact ke);rw [h5];show some ((aq (bO st.t _) d).den aa β)=_;rw [e3]
theorem DU{G:bY}(hG:G.Ok){ops:Array Oper}(hd:dz ops=true){r:Option Nat}{mm:Nat}{c0:an}{cM:Env}{bh:Nat->Nat}{Q':Exit->Act->World->Prop}{step:St->Oper->(St->Env->Prop)->Env->Prop}(hs:qz G.P W R Z r mm c0 cM bh Q' step){K:St->Env->Prop} :
    ∀(rem:List Nat) (st:St) (F:Kf) (L:List fY) (J:Env),A8 G.P ops rem=true->rG F st.c J->(∀i,(aq st.t i).wf st.c=true)->nw (PA G.P W Q QM QP) G step ops rem st F L K J->c0.le st.c->Env.au c0 cM J ->
      ∀(fuel:Nat) (listed:Array Bool) (β:Nat->Nat) (a:Act) (w:World),(∀k,k<c0.nk->β k=bh k)->pz G.P W R Z ops rem st L J listed β a w->mA listed ops.size=fuel->tt W R Z st J β K (Q' .normal)->wpAnyIn (Fr r) mm G.P .any ops Q' fuel listed a w
  | [],st,F,L,J,_,_,_,h,gU,fP=>by
    intro fuel
    have done:∀(fuel:Nat) (listed:Array Bool) (β:Nat->Nat) (a:Act) (w:World),pz G.P W R Z ops [] st L J listed β a w->tt W R Z st J β K (Q' .normal)->(∀j,j<ops.size->listed.getD j false=true)->wpAnyIn (Fr r) mm G.P .any ops Q' fuel listed a w:=by
      intro fuel listed β a w inv hn bQ;refine wpAnyIn_done ?_ ?_ fuel
      · refine List.eq_nil_iff_forall_not_mem.2 λj hj => ?_;obtain⟨h1,o,ho,_⟩:=mem_ready.1 hj
        have:=bQ j (Array.getElem?_eq_some_iff.1 ho).1
        rw [getD_both h1]at this;cases this
      · unfold nw at h
        have hf:(L.filter λp => !listed.getD p.j false)=[]:=by
          refine List.filter_eq_nil_iff.2 λp hp => ?_;obtain⟨o,ho,_⟩:=(inv.wG p hp).dst;rw [bQ p.j (Array.getElem?_eq_some_iff.1 ho).1];simp
        have hC:=inv.core;rw [hf]at hC;exact hn st J β a w h (an.le_refl _) (Env.ah _ _) (λ_ _=>rfl) hC
    induction fuel with
    |zero =>
      intro listed β a w _ inv hu hn;exact done 0 listed β a w inv hn λj hj=>DB hu j hj
    |succ fuel ih =>
      intro listed β a w dU inv hu hn;refine⟨λjl => ?_,λx hx => ?_⟩
      · obtain⟨j,hj,kg,cw⟩:=F1 (listed:=listed) (m:=ops.size) (by omega);have ho:ops[j]? = some ops[j]:=Array.getElem?_eq_getElem hj
        have:j∈Region.ready .any ops listed:=mem_ready.2 ⟨getD_in (by rw [inv.size];exact hj) kg,_,ho,λe he hb=>cw e.on ((zw hd ho).1 e he hb)⟩
        rw [jl]at this;cases this
      · obtain⟨h1,o,ho,hr⟩:=mem_ready.1 hx;have oK:=(Array.getElem?_eq_some_iff.1 ho).1;have J3:x<listed.size:=by rw [inv.size];exact oK
        have fF:=getD_both h1;rcases inv.DL x oK (by simp)with h2|⟨p,hp,rfl⟩
        · rw [fF]at h2;cases h2
        · refine PR hd inv hp fF (λj hj => ?_) λa' w' uV=>ih _ β a' w' dU uV ?_ hn
          · obtain⟨e,he,hb,rfl⟩:=(Bz ho).1 hj;exact hr e he hb
          · have:=F3 J3 fF ops.size
            rw [if_pos oK]at this;omega
  |i::rm,st,F,L,J,i_,hF,Ga,h,gU,fP=>by
    simp only [A8,Bool.and_eq_true,decide_eq_true_eq,Bool.not_eq_true']at i_;obtain⟨⟨⟨⟨vE,pt⟩,uT⟩,rH⟩,wH⟩:=i_;have ho:ops[i]? = some ops[i]:=Array.getElem?_eq_getElem vE;generalize ops[i]=o at ho;have wI:i ∉ rm:=λhm=>by rw [List.contains_iff_mem.2 hm]at pt;cases pt
    have rI:∀j∈cR ops i,j ∉ i::rm:=λj hj hm=>by
      have:=List.all_eq_true.1 uT j hj
      rw [List.contains_iff_mem.2 hm]at this;cases this
    unfold nw at h;rw [St.norm_eq]at h;unfold Cj Ck at h;simp only [ho]at h rH;split at h;rotate_left
    · exact h.elim
    rename_i iX;split at h
    ·
      rename_i Ac;rw [Ac]at rH;simp only [Bool.not_true,Bool.false_or]at rH
      obtain⟨b,F',uU,hw,iz,kH⟩:=PY (st := {st with t:=bO st.t (L.filter λp => !(before ops i).contains p.j)}) hF (λd=>by
        rcases uP st.t (L.filter λp => !(before ops i).contains p.j) d with h|⟨h,_⟩
        · show (aq (bO st.t _) d).wf st.c=true;rw [h];rfl
        · show (aq (bO st.t _) d).wf st.c=true;rw [h];exact Ga d) h
      intro fuel
      induction fuel with
      |zero =>
        intro listed β a w _ inv hu hn;exact (inv.rY i (DB hu i vE) (by simp)).elim
      |succ fuel ih =>
        intro listed β a w dU inv hu hn;refine⟨λjl => ?_,λx hx => ?_⟩
        · obtain⟨j,hj,kg,cw⟩:=F1 (listed:=listed) (m:=ops.size) (by omega);have ho:ops[j]? = some ops[j]:=Array.getElem?_eq_getElem hj
          have:j∈Region.ready .any ops listed:=mem_ready.2 ⟨getD_in (by rw [inv.size];exact hj) kg,_,ho,λe he hb=>cw e.on ((zw hd ho).1 e he hb)⟩
          rw [jl]at this;cases this
        · obtain⟨h1,ox,Gb,hr⟩:=mem_ready.1 hx;have oK:=(Array.getElem?_eq_some_iff.1 Gb).1;have J3:x<listed.size:=by rw [inv.size];exact oK
          have fF:=getD_both h1
          have dq:∀j∈cR ops x,listed.getD j false=true:=λj hj=>by
            obtain⟨e,he,hb,rfl⟩:=(Bz Gb).1 hj;exact hr e he hb
          have jS:mA (listed.setIfInBounds x true) ops.size=fuel:=by
            have:=F3 J3 fF ops.size
            rw [if_pos oK]at this;omega
          by_cases Gc:x∈i::rm;rotate_left
          · rcases inv.DL x oK Gc with h2|⟨p,hp,rfl⟩
            · rw [fF]at h2;cases h2
            · exact PR hd inv hp fF dq λa' w' uV=>ih _ β a' w' dU uV jS hn
          rcases List.mem_cons.1 Gc with rfl|Gc;rotate_left
          · obtain⟨j,hj,JI⟩:=List.any_eq_true.1 (List.all_eq_true.1 rH x Gc);exact (inv.rY j (dq j hj) (List.contains_iff_mem.1 JI)).elim
          rw [ho]at Gb;cases Gb
          have uL:Core W R Z J β {st with t:=bO st.t (L.filter λp => !(before ops x).contains p.j)} a w:=by
            refine JW (st := {st with t:=bO st.t (L.filter λp => !listed.getD p.j false)}) inv.core (Below.refl _ _) rfl rfl (λd => ?_) λd ke => ?_
            · rcases uP st.t (L.filter λp => !(before ops x).contains p.j) d with h|⟨h,_⟩
              · rw [h];rfl
              · rw [h];exact inv.tw d
            · rcases uP st.t (L.filter λp => !(before ops x).contains p.j) d with h|⟨h,h2⟩
              · exact (ke h).elim
              · rw [h]at ke ⊢
                have e3:aq (bO st.t (L.filter λq => !listed.getD q.j false)) d=aq st.t d:=Bx _ _ _ λq hq=>by
                  simp only [List.mem_filter,Bool.not_eq_true']at hq;refine h2 q (List.mem_filter.2 ⟨hq.1, ?_⟩)
                  have vG:q.j ∉ before ops x:=λvG=>by
                    have:=J1 inv.By dq _ vG
                    rw [this]at hq;cases hq.2
                  simpa using vG
                have h5:=inv.core.tmps d (by show aq (bO st.t _) d ≠ .any;rw [e3];exact ke);rw [h5];show some ((aq (bO st.t _) d).den J β)=_;rw [e3]
          have iS:∀d,o.dst=some d->d<a.tmps.size:=λd oM=>by
            rw [inv.core.size];rw [oM]at iX;simpa [o9]using iX
          unfold wpOpIn;simp only [ho];rw [PQ hw λd _ ke=>uL.tmps d ke];cases b with
          |false =>
            simp only [Bool.false_eq_true,if_false];refine⟨λf _=>sD r f, ?_⟩;have I4:=kH rfl
            have cV:Core W R Z J β {st with t:=dM (bO st.t (L.filter λp => !(before ops x).contains p.j)) o.dst .fJ} (a.put o.dst undef) w:=by
              refine JW uL (Below.refl _ _) (F_ _ _ _) (PN _ _ _) (λd => ?_) λd ke => ?_
              · rw [vF];split
                · rfl
                · exact uL.wf.t d
              · rw [F9 a o.dst undef d iS];rw [vF]at ke ⊢;by_cases oo:o.dst=some d
                · rw [if_pos oo,if_pos oo];rfl
                · rw [if_neg oo]at ke ⊢;rw [if_neg oo];exact uL.tmps d ke
            have inv2:=PW hd inv ho wI rI dq iX cV (an.le_refl _) (Env.ah _ _) (λ_ _=>rfl) (DO o a undef) (λp hp=>.inl λk hk=>rfl)
            have he:dM st.t o.dst (match o.dst with|some d=>aq (dM (bO st.t (L.filter λp => !(before ops x).contains p.j)) o.dst .fJ) d|none=>.any)=dM st.t o.dst .fJ:=by
              cases oo:o.dst with
              |none=>rfl
              |some d=>simp only [dM,zi,if_true]
            simp only [he]at inv2;exact DU hG hd hs rm _ _ _ J wH (by exact uU) (by exact inv2.tw) I4 gU fP fuel _ β _ w dU inv2 jS (hn.kU (an.le_refl _) (Env.ah _ _) λ_ _=>rfl)
          |true =>
            simp only [if_true];refine TC ?_;refine hs _ o _ J (iz rfl) gU fP β a w dU uL _ λs ar aQ a2 w2 hk hc hl hb cV ga => ?_;dsimp only at hk;split at hk;rotate_left
            · exact hk.elim
            rename_i DQ
            have inv2:=PW hd inv ho wI rI dq iX cV hc hl hb ga (λp hp=>by
              have h0:=List.all_eq_true.1 DQ p hp;rw [Bool.or_eq_true]at h0;rcases h0 with h0|h0
              · refine .inl λk g_ => ?_
                have:=List.all_eq_true.1 h0 k g_
                simp only [xz,Bool.and_eq_true,decide_eq_true_eq]at this;unfold aC;rw [this.1,this.2]
              · exact .inr h0)
            exact DU hG hd hs rm _ _ _ ar wH (by exact uU.mono hc hl) (by exact inv2.tw) hk (an.le_trans gU hc) (Env.ae gU fP hl) fuel _ aQ a2 w2 (λk hk=>(hb k (Nat.lt_of_lt_of_le hk gU.k)).trans (dU k hk)) inv2 jS (hn.kU hc hl hb)
    ·
      rename_i Ac;intro fuel listed β a w dU inv hu hn;have qH:st.WF:=⟨inv.tw,inv.core.wf.m,inv.core.wf.o,inv.core.wf.ap,inv.core.wf.r,inv.core.wf.d,inv.core.wf.k,inv.core.wf.df⟩;have nd:∀c,o.op ≠ .defer c:=λc he=>Ac (by unfold lO;rw [he]);obtain⟨b,F',uU,hw,iz,kH⟩:=PY hF Ga h;cases b with
      |true =>
        obtain⟨v,c,k,aa,F2,TL,g1,g2,g3,g4,g5,g6,g7,g8⟩:=TK hG qH uU inv.core.kn (iz rfl);have inv2:=PZ hd inv ho wI rI iX (rd:=aP st o) (ld:=vV G.P st o) g2 g4 g5 g6 g7 nd hw (λe=>absurd e (by simp)) (λ_=>⟨g8,λk hk=>hk⟩) (λq hq=>J0 hq);exact DU hG hd hs rm _ _ _ aa wH (by exact TL) (by exact inv2.tw) g1 (an.le_trans gU g2) (Env.ae gU fP g4) fuel listed β a w dU inv2 hu (hn.kU g2 g4 λ_ _=>rfl)
      |false =>
        have inv2:=PZ hd inv ho wI rI iX (rd := []) (v := .fJ) (an.le_refl st.c) (Env.ah _ _) rfl qH.k inv.core.kn nd hw (λ_=>rfl) (λe=>absurd e (by simp)) (ld:=none) (λq hq=>by cases hq);exact DU hG hd hs rm _ _ _ J wH (by exact uU) (by exact inv2.tw) (kH rfl) gU fP fuel listed β a w dU inv2 hu (hn.kU (an.le_refl _) (Env.ah _ _) λ_ _=>rfl)
end Vc
set_option linter.unusedVariables false
namespace Vc
open Go Go.RowKit
variable {P:Program} {W:dN} {Q:Value->Prop} {QM QP:World->Value->Prop} {R:Nat->Loop} {Z:List Nat}
attribute [local irreducible] behind in
theorem P1(ops:Array Oper):∀m,lN ops m<=m/\∀i,lN ops m<=i->i<m->∀j,j<i->A7 ops i j=true
  |0=>⟨Nat.le_refl _,λi _ h=>by omega⟩
  |m+1=>by
    obtain⟨h1,h2⟩:=P1 ops m;unfold lN;split
    · rename_i bQ;refine⟨by omega,λi h3 h4 j hj => ?_⟩;by_cases F4:i=m
      · subst F4;exact List.all_eq_true.1 bQ j (List.mem_range.2 hj)
      · exact h2 i h3 (by omega) j hj
    · exact⟨Nat.le_refl _,λi h3 h4=>by omega⟩
section
variable {ops:Array Oper} {n:Nat} {r:Option Nat} {mm:Nat} {Q':Exit->Act->World->Prop}
theorem P2(hd:dz ops=true)(hcut:∀ i,n<=i->i < ops.size->∀ j,j < i->A7 ops i j=true) :
    ∀(l:List Oper) (i:Nat) (fuel:Nat) (listed:Array Bool) (a:Act) (w:World),(∀j,l[j]? = ops[i+j]?)->n<=i->i+l.length=ops.size->listed.size=ops.size->(∀j,listed.getD j false=true↔j<i) ->
      wpListIn (Fr r) mm P ops Q' l a w->l.length<=fuel->wpAnyIn (Fr r) mm P .any ops Q' fuel listed a w
  | [],i,fuel,listed,a,w,hl,hn,hlen,iS,tz,h,hf=>by
    refine wpAnyIn_done ?_ h fuel;refine List.eq_nil_iff_forall_not_mem.2 λj hj => ?_;obtain⟨h1,o,ho,_⟩:=mem_ready.1 hj;have DM:=(Array.getElem?_eq_some_iff.1 ho).1
    have:=(tz j).2 (by simp at hlen;omega)
    rw [getD_both h1]at this;cases this
  |o::l,i,0,listed,a,w,hl,hn,hlen,iS,tz,h,hf=>by simp at hf
  |o::l,i,fuel+1,listed,a,w,hl,hn,hlen,iS,tz,h,hf=>by
    have ho:ops[i]? = some o:=by have:=hl 0;simpa using this.symm
    have hi:i<ops.size:=(Array.getElem?_eq_some_iff.1 ho).1
    have fF:listed.getD i false=false:=by
      cases hx:listed.getD i false with
      |false=>rfl
      |true=>have:=(tz i).1 hx;omega
    have wJ:∀j oj,ops[j]? = some oj->listed.getD j false=true->∀e∈oj.after,Region.binds .any e=true->listed.getD e.on false=true:=λj oj hj kg e he hb=>by
      have:=(tz j).1 kg
      have:=(zw hd hj).1 e he hb
      exact (tz e.on).2 (by omega)
    refine⟨λjl => ?_,λj hj => ?_⟩
    · exfalso
      have:i∈Region.ready .any ops listed:=mem_ready.2 ⟨getD_in (by rw [iS];exact hi) fF,o,ho,λe he hb=>(tz e.on).2 ((zw hd ho).1 e he hb)⟩
      rw [jl]at this;cases this
    · obtain⟨h1,oj,P3,hr⟩:=mem_ready.1 hj;have DM:=(Array.getElem?_eq_some_iff.1 P3).1
      have sP:j=i:=by
        rcases Nat.lt_or_ge j i with a1|a1
        · have:=(tz j).2 a1
          rw [getD_both h1]at this;cases this
        · rcases Nat.lt_or_ge i j with a2|a2
          · have:=JN wJ P3 hr (hcut j (by omega) DM i a2)
            rw [fF]at this;cases this
          · omega
      subst sP
      have h2:wpOpIn (Fr r) mm P ops Q' j (wpListIn (Fr r) mm P ops Q' l) a w:=by
        unfold wpOpIn;simp only [ho];exact h
      have DN:j<listed.size:=by rw [iS];exact DM
      refine wpOpIn_mono (λa' w' h3=>P2 hd hcut l (j+1) fuel _ a' w' (λk => ?_) (by omega) (by simp at hlen;omega) (by simp [iS]) (λk => ?_) h3 (by simpa using hf)) h2
      · have:=hl (k+1)
        rw [show j+1+k=j+(k+1) by omega];simpa using this
      · rw [xN listed j k DN];by_cases rr:j=k
        · subst rr;simp
        · rw [if_neg rr,tz k];omega
theorem DV{listed:Array Bool}(h:∀j,listed.getD j false=true↔j<n):∀m,mA listed m=m-n
  |0=>by simp [mA]
  |m+1=>by
    simp only [mA,DV h m];by_cases hm:m<n
    · rw [if_pos ((h m).2 hm)];omega
    · rw [if_neg (λe=>hm ((h m).1 e))];omega
variable {J:Env} {sts:Nat->St} {gg:Nat->SV} {cs:Nat->List Nat} {rd wr:List (Nat × Nat)}
theorem J4(hw:Way P W ops n J sts gg cs rd wr)(hd:dz ops=true)(hcut:∀ i,n<=i->i < ops.size->∀ j,j < i->A7 ops i j=true){a0:Act}{bh:Nat->Nat}{w0:World}(hC:Core W R Z J bh (sts 0) a0 w0)
    (hQ:∀a w β,(∀k,k<(sts 0).c.nk->β k=bh k)->Core W R Z J β (sts n) a w->wpListIn (Fr r) mm P ops Q' (ops.toList.drop n) a w) :
    ∀(fuel:Nat) (listed:Array Bool) (a:Act) (w:World) (β:Nat->Nat),Inv W R Z ops n J sts cs a0 bh listed a w β->mA listed ops.size=fuel->wpAnyIn (Fr r) mm P .any ops Q' fuel listed a w:=by
  have done:∀(fuel:Nat) (listed:Array Bool) (a:Act) (w:World) (β:Nat->Nat),Inv W R Z ops n J sts cs a0 bh listed a w β->mA listed ops.size=fuel->(∀j,j<n->listed.getD j false=true)->wpAnyIn (Fr r) mm P .any ops Q' fuel listed a w:=by
    intro fuel listed a w β inv hu bQ
    have tz:∀j,listed.getD j false=true↔j<n:=λj=>by
      refine⟨λh => ?_,bQ j⟩;rcases Nat.lt_or_ge j n with h'|h'
      · exact h'
      · rw [inv.only j h']at h;cases h
    have hle:=hw.le;rw [DV tz]at hu;refine P2 hd hcut (ops.toList.drop n) n fuel listed a w (λj=>by simp) (Nat.le_refl _) (by simp;omega) inv.pv tz (hQ a w β inv.agree (JU hw hC inv bQ)) (by simp;omega)
  intro fuel
  induction fuel with
  |zero =>
    intro listed a w β inv hu;exact done 0 listed a w β inv hu λj hj=>DB hu j (Nat.lt_of_lt_of_le hj hw.le)
  |succ fuel ih =>
    intro listed a w β inv hu;by_cases bQ:∀j,j<n->listed.getD j false=true
    · exact done (fuel+1) listed a w β inv hu bQ
    · refine⟨λjl => ?_,λi hi => ?_⟩
      · exfalso;obtain⟨j,hj,kg,cw⟩:=F1 (listed:=listed) (m:=ops.size) (by omega);have ho:ops[j]? = some ops[j]:=Array.getElem?_eq_getElem hj
        have:j∈Region.ready .any ops listed:=mem_ready.2 ⟨getD_in (by rw [inv.pv];exact hj) kg,_,ho,λe he hb=>cw e.on ((zw hd ho).1 e he hb)⟩
        rw [jl]at this;cases this
      · obtain⟨h1,o,ho,hr⟩:=mem_ready.1 hi;have vE:=(Array.getElem?_eq_some_iff.1 ho).1;have xP:i<listed.size:=by rw [inv.pv];exact vE
        have su:i<n:=by
          rcases Nat.lt_or_ge i n with h'|h'
          · exact h'
          · exact (bQ λj hj=>JN inv.closed ho hr (hcut i h' vE j (by omega))).elim
        refine JR hw hd hC inv su ho (getD_both h1) hr λa' w' ag uV=>ih _ a' w' ag uV ?_
        have:=F3 xP (getD_both h1) ops.size
        rw [if_pos vE]at this;omega
end
theorem P4(a i k:Nat)(l:List (Nat × Nat)):∀(L:List Nat),(L.map (λj=>(a+j,i))++l).lookup k=if ∃j∈L,a+j=k then some i else l.lookup k
  | []=>by simp
  |x::L=>by
    simp only [List.map_cons,List.cons_append,List.lookup_cons,P4 a i k l L];by_cases h:k=a+x
    · subst h;simp
    · have:(k == a+x)=false:=by simpa using h
      rw [this]
      have e:(∃j∈x::L,a+j=k)↔∃j∈L,a+j=k:=by
        constructor
        · rintro ⟨j,hj,rfl⟩;rcases List.mem_cons.1 hj with rfl|hj
          · exact (h rfl).elim
          · exact⟨j,hj,rfl⟩
        · rintro ⟨j,hj,he⟩;exact⟨j,List.mem_cons_of_mem _ hj,he⟩
      by_cases h2:∃j∈L,a+j=k
      · rw [if_pos h2,if_pos (e.2 h2)]
      · rw [if_neg h2,if_neg (λh3=>h2 (e.1 h3))]
theorem TM(a b i k:Nat)(l:List (Nat × Nat)):(gI a b i++l).lookup k=if a<=k/\k<b then some i else l.lookup k:=by
 unfold gI;rw [P4]
 have e:(∃j∈List.range (b-a),a+j=k)↔(a<=k/\k<b):=by
  constructor
  ·rintro ⟨j,hj,rfl⟩
   have:=List.mem_range.1 hj
   omega
  ·intro h;exact⟨k-a,List.mem_range.2 (by omega),by omega⟩
 by_cases h:a<=k/\k<b
 ·rw [if_pos h,if_pos (e.2 h)]
 ·rw [if_neg h,if_neg (λh2=>h (e.1 h2))]
theorem P5(a i:Nat):gI a a i=[]:=by simp [gI]
def rJ (G:bY) (W:dN) (ops:Array Oper) (K:St->Env->Prop) (l:List Oper) (i:Nat) (d:DS) (st:St) (J:Env):Prop :=
    ∃(sts:Nat->St) (gg:Nat->SV) (cs:Nat->List Nat) (ds:Nat->DS) (mX:Env),sts i=st/\ds i=d/\K (sts (i+l.length)) mX/\Env.au st.c J mX/\qq ops (ds (i+l.length)).rd (ds (i+l.length)).wr=true /\
      (∀k∈d.rd,k∈(ds (i+l.length)).rd)/\(∀k∈d.wr,k∈(ds (i+l.length)).wr)/\(∀j,j<=l.length->(sts (i+j)).WF/\nu (ds (i+j)).al (sts (i+j)).o=true) /\
      ∀j o,l[j]? = some o->((ds (i+j+1)).al=gI (sts (i+j)).c.nk (sts (i+j+1)).c.nk (i+j)++(ds (i+j)).al) /\
        tv G.P W ops mX (λk=>(ds (i+j)).eB ops (i+j) k=true) (i+j) (ds (i+l.length)).rd (ds (i+l.length)).wr (sts (i+j)) o (sts (i+j+1)) (gg (i+j)) (cs (i+j))
theorem TN{G:bY}(hG:G.Ok){st:St}{o:Oper}{K:St->Env->Prop}{J:Env}(wf:st.WF)(fA:bK.den st.k J)(h:Hp (PA G.P W Q QM QP) G st o K J):oI G.P W st o K J/\∀c,o.op ≠ .defer c:=by
 have iq:mw (PA G.P W Q QM QP) G st o K J->oI G.P W st o K J/\∀c,o.op ≠ .defer c:=λh=>⟨ON hG wf fA h,O1 h⟩;have zM:xw (PA G.P W Q QM QP) G st o K J->oI G.P W st o K J/\∀c,o.op ≠ .defer c:=λh=>⟨OT wf h,O2 h⟩;obtain⟨dst,op,type,pos,after,guard⟩:=o;unfold Hp at h;have iV:my (PA G.P W Q QM QP) G st ⟨dst,op,type,pos,after,guard⟩ K J->oI G.P W st ⟨dst,op,type,pos,after,guard⟩ K J/\∀c,(⟨dst,op,type,pos,after,guard⟩:Oper).op ≠ .defer c:=λh=>⟨OY wf h,O3 h⟩;cases op<;>first|exact iq h|skip
 case buildSlice t len parts =>
  simp only at h;split at h
  ·exact iV h
  ·exact iq h
 case store t a x =>
  simp only at h;generalize st.ev a=sa at h;split at h
  ·exact iV h
  ·exact iq h
 case makeMap t rs=>exact iV h
 case mapUpdate t m k v=>exact iV h
 case insert t m k v=>exact iV h
 case convert s d x =>
  simp only at h;split at h
  ·exact iV h
  ·exact iq h
 rename_i cl;obtain⟨callee,args,argTypes⟩:=cl;cases callee<;>first|exact iq h|skip
 rename_i b;cases b<;>first|exact iq h|exact zM h
theorem P6{G:bY}(hG:G.Ok){ops:Array Oper}{K:St->Env->Prop}:∀(l:List Oper) (i:Nat) (d:DS) (st:St) (J:Env),gN (PA G.P W Q QM QP) G ops i l d st K J->st.WF->bK.den st.k J->nu d.al st.o=true->rJ G W ops K l i d st J
  | [],i,d,st,J,h,hw,_,iW=>by
    unfold gN at h;split at h;rotate_left
    · exact h.elim
    · rename_i dO;refine⟨λ_=>st,λ_=>.fJ,λ_=>[],λ_=>d,J,rfl,rfl,h,Env.ah _ _,dO,λ_ h=>h,λ_ h=>h,λ_ _=>⟨hw,iW⟩,λj o hj=>by simp at hj⟩
  |o::r,i,d,st,J,h,hw,sH,iW=>by
    have glue:∀ (s':St) (d':DS) (aa:Env) (sv:SV) (C:List Nat),gN (PA G.P W Q QM QP) G ops (i + 1) r d' s' K aa->s'.WF->bK.den s'.k aa->nu d'.al s'.o=true->st.c.le s'.c->Env.au st.c J aa->(∀ k∈d.rd,k∈d'.rd)->(∀ k∈d.wr,k∈d'.wr) ->
        (d'.al=gI st.c.nk s'.c.nk i++d.al) ->
        (∀I,Env.au s'.c aa I->∀rd wr,(∀k∈d'.rd,k∈rd)->(∀k∈d'.wr,k∈wr)->tv G.P W ops I (λk=>d.eB ops i k=true) i rd wr st o s' sv C)->rJ G W ops K (o::r) i d st J:=by
      intro s' d' aa sv C hx Ge rk TO hle cX dq jT vw hf;obtain⟨sts,gg,cs,ds,mX,e1,e2,e3,e4,e5,e6,e7,e8,e9⟩:=P6 hG r (i+1) d' s' aa hx Ge rk TO;have hlen:i+(o::r).length=i+1+r.length:=by simp;omega
      refine⟨λj=>if j<=i then st else sts j,λj=>if j<=i then sv else gg j,λj=>if j<=i then C else cs j,λj=>if j<=i then d else ds j,mX,if_pos (Nat.le_refl _),if_pos (Nat.le_refl _), ?_⟩;have c1:¬(i+1+r.length<=i):=by omega
      rw [hlen];simp only [c1,if_false];refine⟨e3,Env.ae hle cX e4,e5,λk hk=>e6 k (dq k hk),λk hk=>e7 k (jT k hk),λj hj => ?_,λj o' hj => ?_⟩
      · by_cases CI:j=0
        · subst CI;simp only [Nat.add_zero,Nat.le_refl,if_true];exact⟨hw,iW⟩
        · have c2:¬(i+j<=i):=by omega
          simp only [c2,if_false]
          have:=e8 (j-1) (by simp at hj;omega)
          rwa [show i+1+(j-1)=i+j by omega]at this
      · cases j with
        |zero =>
          simp only [List.getElem?_cons_zero,Option.some.injEq]at hj;subst hj;have c2:¬(i+0+1<=i):=by omega
          simp only [Nat.add_zero,Nat.le_refl,if_true];have c3:¬(i+1<=i):=by omega
          simp only [c3,if_false,e1,e2];exact⟨vw,hf mX e4 _ _ e6 e7⟩
        |succ j =>
          have c2:¬(i+(j+1)<=i):=by omega
          have c3:¬(i+(j+1)+1<=i):=by omega
          simp only [c2,c3,if_false]
          have:=e9 j o' (by simpa using hj)
          rw [show i+1+j=i+(j+1) by omega]at this;exact this
    have run:∀ (s1:St),s1.WF->s1.k=st.k->s1.c=st.c->(∀ I,Env.au st.c J I->om I st s1)->(∀ I,Env.au st.c J I->dj ops I st o true) ->
        o8 (PA G.P W Q QM QP) G ops i d s1 o (λd' s=>gN (PA G.P W Q QM QP) G ops (i+1) r d' s K) J->rJ G W ops K (o::r) i d st J:=by
      intro s1 rD tm kD fA DT hs;unfold o8 at hs;by_cases hold:(aP s1 o++aL s1 o++cN s1 o).all (d.eB ops i)=true
      · rw [if_pos hold]at hs;obtain⟨⟨s',aa,sv,C,g1,g2,g3,g4⟩,nd⟩:=TN hG rD (by rw [tm];exact sH) hs;dsimp only at g1;by_cases gv:(Ho ops i d o s' && nu (gI s1.c.nk s'.c.nk i++d.al) s'.o)=true
        · rw [if_pos gv]at g1;rw [Bool.and_eq_true]at gv;obtain⟨q1,q2⟩:=gv;unfold Ho at q1;refine glue s' _ aa sv C g1 (g4 aa (Env.ah _ _)).wf ((g4 aa (Env.ah _ _)).kn (bK.U g3 rD.k (by rw [tm];exact sH))) q2 (by rw [<-kD];exact g2) (by rw [<-kD];exact g3) (λk hk=>List.mem_append.2 (.inr hk)) (λk hk=>List.mem_append.2 (.inr hk)) (by rw [kD]) ?_;intro I hl rd wr h1 h2;have fZ:Env.au st.c J I:=by rw [<-kD];exact Env.ae g2 g3 hl
          have hf:=g4 I hl;refine .run s1 s' sv C (fA I fZ) (DT I fZ) nd hf (λk hk=>List.all_eq_true.1 hold k hk) (λx hx k hk => ?_) (λk hk=>h1 _ (List.mem_append.2 (.inl (List.mem_map.2 ⟨k,hk,rfl⟩)))) (λk hk=>h2 _ (List.mem_append.2 (.inl (List.mem_map.2 ⟨k,hk,rfl⟩))));rw [hx]at q1;have xE:=hf.slot x;rw [if_pos hx]at xE;exact List.all_eq_true.1 q1 k (by rw [xE];exact hk)
        · rw [if_neg gv]at g1;exact g1.elim
      · rw [if_neg hold]at hs;exact hs.elim
    have ot:∀{x:Nat} {b:Bool},(st.cQ x b).WF:=λ{x b}=>by
      refine⟨λi => ?_,hw.m,hw.o,hw.ap,hw.r,hw.d,hw.k,hw.df⟩;simp only [St.cQ,zi];by_cases hi:x=i
      · rw [if_pos hi];rfl
      · rw [if_neg hi];exact hw.t i
    unfold gN at h;cases rn:o.guard with
    |none =>
      simp only [rn]at h;exact run st hw rfl rfl (λ_ _=>.refl) (λ_ _=>by unfold dj;rw [rn]) h
    |some jw =>
      obtain⟨j,want⟩:=jw;simp only [rn]at h;generalize oM:(ops[j]?).bind (·.dst)=u at h;cases u with
      |none=>exact h.elim
      |some x =>
        simp only at h;split at h
        · rename_i cw;generalize hg:aq st.t x=sv at h;split at h
          · rename_i e;have we:e.wf st.c=true:=by have:=hw.t x;rw [hg]at this;exact this
            have kn:∀b,e.den J=b->∀I,Env.au st.c J I->om I st (st.cQ x b):=λb hb I hl=>.cQ x b e hg (by rw [BE.U hl we];exact hb)
            have wt:∀b c,e.den J=b->(b == want)=c->∀I,Env.au st.c J I->dj ops I st o c:=by
              intro b c hb hc I hl;unfold dj;rw [rn];exact⟨x,oM,.inl ⟨e,hg,by rw [BE.U hl we,hb];exact hc⟩⟩
            have P7:∀b,e.den J=b->(b == want)=false->(St.put (PA G.P W Q QM QP) (st.cQ x b) o.dst .fJ st.c λs=>gN (PA G.P W Q QM QP) G ops (i+1) r d s K) J->rJ G W ops K (o::r) i d st J:=by
              intro b hb hc hp;obtain⟨p1,p2⟩:=zf hp;obtain⟨q1,q2,q3,q4,q5,q6⟩:=zu (st.cQ x b) o.dst .fJ st.c;refine glue _ d J .fJ [] p1 (CT ot (an.le_refl _) p2) (by rw [(zk _ _ _ _).1];exact sH) (by rw [q4];exact iW) (by rw [q1];exact an.le_refl _) (Env.ah _ _) (λ_ h=>h) (λ_ h=>h) (by rw [q1,P5];rfl) ?_;intro I hl rd wr _ _;rw [q1]at hl;exact .skip (st.cQ x b) (kn b hb I hl) (wt b false hb hc I hl) p2
            rcases zq h with ⟨hb,h⟩|⟨hb,h⟩
            · cases want with
              |true=>exact run (st.cQ x true) ot rfl rfl (kn true hb) (wt true true hb rfl) h
              |false=>exact P7 true hb rfl h
            · cases want with
              |true=>exact P7 false hb rfl h
              |false=>exact run (st.cQ x false) ot rfl rfl (kn false hb) (wt false true hb rfl) h
          · obtain⟨p1,p2⟩:=zf h;obtain⟨q1,q2,q3,q4,q5,q6⟩:=zu st o.dst .fJ st.c;refine glue _ d J .fJ [] p1 (CT hw (an.le_refl _) p2) (by rw [(zk _ _ _ _).1];exact sH) (by rw [q4];exact iW) (by rw [q1];exact an.le_refl _) (Env.ah _ _) (λ_ h=>h) (λ_ h=>h) (by rw [q1,P5];rfl) ?_;intro I hl rd wr _ _;refine .skip st .refl ?_ p2;unfold dj;rw [rn];exact⟨x,oM,.inr ⟨hg,rfl⟩⟩
          · exact h.elim
        · exact h.elim
theorem P8{sts:Nat->St}{ds:Nat->DS}{n:Nat}(h0:(ds 0).al=[])(vw:∀ j,j < n->(ds (j + 1)).al=gI (sts j).c.nk (sts (j + 1)).c.nk j++(ds j).al)
    (sw:∀i j,i<=j->j<=n->(sts i).c.nk<=(sts j).c.nk):∀(i:Nat),i<=n->∀m k,(ds i).al.lookup k=some m↔(m<i/\laid sts m k)
  |0,_,m,k=>by rw [h0];simp
  |i+1,hi,m,k=>by
    rw [vw i (by omega),TM];have ih:=P8 h0 vw sw i (by omega) m k;by_cases hk:(sts i).c.nk<=k/\k<(sts (i+1)).c.nk
    · rw [if_pos hk];constructor
      · intro h;cases h;exact⟨by omega,hk⟩
      · rintro ⟨h1,h2⟩;rcases Nat.lt_or_ge m i with h'|h'
        · have:=sw (m+1) i (by omega) (by omega)
          have:=h2.2
          omega
        · have:m=i:=by omega
          rw [this]
    · rw [if_neg hk,ih];constructor
      · rintro ⟨h1,h2⟩;exact⟨by omega,h2⟩
      · rintro ⟨h1,h2⟩;refine⟨?_,h2⟩;rcases Nat.lt_or_ge m i with h'|h'
        · exact h'
        · have:m=i:=by omega
          subst this;exact (hk h2).elim
theorem tv.imp{ops:Array Oper}{J:Env}{eB DW:Nat->Prop}{i:Nat}{rd wr:List (Nat × Nat)}{s s':St}{o:Oper}{sv:SV}{C:List Nat}(h:tv P W ops J eB i rd wr s o s' sv C)(h1:∀k,eB k->DW k):tv P W ops J DW i rd wr s o s' sv C:=by
 cases h with
 |skip s1 k w p=>exact .skip s1 k w p
 |run s1 _ _ _ k w nd f a1 a2 a4 a5=>exact .run s1 _ _ _ k w nd f (λk hk=>h1 k (a1 k hk)) (λx hx k hk=>h1 k (a2 x hx k hk)) a4 a5
theorem P9{ops:Array Oper}{x y:Nat × Nat}(h:vT ops x y=true)(he:x.1=y.1):x.2=y.2∨(y.2<x.2/\nZ ops x.2 y.2=true)∨(x.2<y.2/\nZ ops y.2 x.2=true):=by
 unfold vT at h;simp only [Bool.or_eq_true,decide_eq_true_eq,Bool.and_eq_true]at h;rcases h with ((h|h)|h)|h
 ·exact (h he).elim
 ·exact .inl h
 ·exact .inr (.inl h)
 ·exact .inr (.inr h)
theorem Gf{G:bY}(hG:G.Ok)(hm:G.P.follows .mixedOrders=true):uE G W Q QM QP:=by
  intro R Z r n inl yl pQ KP id ops st K J h β a w hC Q' hI hY qB hP next hq hn
  unfold qs at h;rw [Hn]at h;by_cases hd:dz ops=true
  · rw [if_pos hd]at h;by_cases uW:n8 G.P ops=true
    · rw [if_pos uW]at h;unfold n8 at uW;simp only [Bool.and_eq_true]at uW;obtain⟨⟨_,i_⟩,J5⟩:=uW
      have hu:∀m,m<=ops.size->mA (Array.replicate ops.size false) m=m:=by
        intro m
        induction m with
        |zero=>intro _;rfl
        |succ m ih =>
          intro JD;simp only [mA,ih (by omega)];rw [if_neg (by rw [Array.getD_eq_getD_getElem?,Array.getElem?_replicate];split<;>simp)]
      have hf:∀j,(Array.replicate ops.size false).getD j false=false:=λj=>by
        rw [Array.getD_eq_getD_getElem?,Array.getElem?_replicate];split<;>rfl
      have hB:Below w.heap.size w {w with drawn:=w.drawn+1}:=(Below.refl _ w).drew
      have uL:Core W R Z J β st a {w with drawn:=w.drawn+1} :=
        ⟨hC.size,hC.tmps,hC.ja,hC.below.drew,λk e hg=>(hC.mem k e hg).uI (λ_ _=>rfl) (λ_ _=>rfl) (λ_ _=>rfl),hC.inj,hC.fb,hC.iU,hC.fR,hC.dn,hC.wf,hC.kn⟩
      refine wpIn_region_any hm ?_;refine DU hG hd (I6 hG hI hY qB hP) (n7 G.P ops) st [] [] J i_ (λx hx=>by cases hx) hC.wf.t h (an.le_refl _) (Env.ah _ _) ops.size _ β a _ (λ_ _=>rfl) ⟨by simp,λj oj _ h=>(by rw [hf j]at h;cases h),λj h=>(by rw [hf j]at h;cases h),λj hj z_ => ?_,λp hp=>(by cases hp),hC.wf.t,uL⟩ (hu _ (Nat.le_refl _)) ?_
      · exact (z_ (List.contains_iff_mem.1 (List.all_eq_true.1 J5 j (List.mem_range.2 hj)))).elim
      · exact λs ar aQ a2 w2 h1 h2 h3 h4 h5=>hq _ _ (hn s ar aQ a2 w2 h1 h2 h3 h4 h5)
    rw [if_neg uW]at h;obtain⟨iD,hcut⟩:=P1 ops ops.size;generalize lN ops ops.size=nn at h iD hcut;obtain⟨sts,gg,cs,ds,mX,e1,e2,e3,e4,e5,_,_,e8,e9⟩:=P6 hG (ops.toList.take nn) 0 ⟨[],[],[]⟩ st J h hC.wf hC.kn (by unfold nu;simp);have hlen:(ops.toList.take nn).length=nn:=by simp;omega
    simp only [Nat.zero_add,hlen]at e3 e5 e8 e9;have J6:∀j o,j<nn->ops[j]? = some o->_:=λj o hj ho=>e9 j o (by rw [List.getElem?_take,if_pos hj];simpa using ho)
    have j9:∀j,j<nn->ops[j]? = some (ops[j]!):=λj hj=>by
      rw [getElem!_pos ops j (by omega),Array.getElem?_eq_getElem (by omega)]
    have sw:∀j i,i<=j->j<=nn->(sts i).c.nk<=(sts j).c.nk:=by
      intro j
      induction j with
      | zero => intro i h _;obtain rfl:i=0:=by omega
                exact Nat.le_refl _
      |succ j ih =>
        intro i h hj;by_cases hi:i=j+1
        · subst hi;exact Nat.le_refl _
        · obtain⟨s1,k1,mO⟩:=(J6 j _ (by omega) (j9 j (by omega))).2.eM (e8 j (by omega)).1
          have:=mO.FC.k
          rw [k1.c.1]at this;exact Nat.le_trans (ih i (by omega) (by omega)) this
    have cX:=P8 (sts:=sts) (ds:=ds) (n:=nn) (by rw [e2]) (λj hj=>(J6 j _ hj (j9 j hj)).1) (λi j h1 h2=>sw j i h1 h2)
    have hw:Way G.P W ops nn mX sts gg cs (ds nn).rd (ds nn).wr:=by
      refine⟨iD,λi hi=>(e8 i hi).1,λi o hi ho => ?_,λk i j h1 h2 => ?_,λi hi k ce sz t hg m j_ d Xd hl => ?_⟩
      · refine (J6 i o hi ho).2.imp λk hk m JT hl => ?_
        have:=(cX i (by omega) m k).2 ⟨JT,hl⟩
        simpa [DS.eB,this]using hk
      · unfold qq at e5;rw [Bool.and_eq_true]at e5;rcases h1 with h1|h1
        · exact P9 (List.all_eq_true.1 (List.all_eq_true.1 e5.1 _ h1) _ h2) rfl
        · exact P9 (List.all_eq_true.1 (List.all_eq_true.1 e5.2 _ h1) _ h2) rfl
      · have iz:aD (sts i).o k=some (ce,sz,t):=by
          unfold aC at hg;split at hg
          · cases hg
          · split at hg
            · rename_i h3;simp only [Option.some.injEq,oF.row.injEq]at hg;obtain⟨rfl,rfl,rfl⟩:=hg;exact h3
            · cases hg
        have F5:=(e8 i hi).1.o k ce sz t iz;rcases Nat.lt_or_ge m i with h'|h'
        · have hb:=List.all_eq_true.1 (e8 i hi).2 _ (FT iz);simp only [List.all_cons,List.all_nil,Bool.and_true,Bool.and_eq_true,decide_eq_true_eq]at hb;have h5:=(cX i hi m (k+d)).2 ⟨h',hl⟩
          have h6:(ds i).al.lookup k=some m:=by
            rcases (by omega:d=0∨d=1∨d=2∨d=3)with rfl|rfl|rfl|rfl
            · exact h5
            · rw [<-hb.1];exact h5
            · rw [<-hb.2.1];exact h5
            · rw [<-hb.2.2];exact h5
          exact ((cX i hi m k).1 h6).2
        · have:=sw m i h' (by omega)
          have:=hl.1
          have:=F5.1
          omega
    have hB:Below w.heap.size w {w with drawn:=w.drawn+1}:=(Below.refl _ w).drew
    have uL:Core W R Z mX β (sts 0) a {w with drawn:=w.drawn+1}:=by
      rw [e1];have nE:=hC.au e4;exact⟨nE.size,nE.tmps,nE.ja,nE.below.drew,λk e hg=>(nE.mem k e hg).uI (λ_ _=>rfl) (λ_ _=>rfl) (λ_ _=>rfl),nE.inj,nE.fb,nE.iU,nE.fR,nE.dn,nE.wf,nE.kn⟩
    refine wpIn_region_any hm ?_
    have hu:∀m,m<=ops.size->mA (Array.replicate ops.size false) m=m:=by
      intro m
      induction m with
      |zero=>intro _;rfl
      |succ m ih =>
        intro JD;simp only [mA,ih (by omega)];rw [if_neg (by rw [Array.getD_eq_getD_getElem?,Array.getElem?_replicate];split<;>simp)]
    have hle:=(hw.n0 nn (Nat.le_refl _)).2.2.2;rw [e1]at hle;refine J4 hw hd hcut uL (λa' w' ag J7 dS => ?_) ops.size _ a _ β (JV hw uL) (hu _ (Nat.le_refl _));rw [e1]at J7;exact I2 (I6 hG hI hY qB hP) (ops.toList.drop nn) (sts nn) mX e3 hle e4 ag a' w' J7 dS next hq (hn.kU hle e4 J7)
  · rw [if_neg hd]at h;exact h.elim
theorem TP{G:bY}(hG:G.Ok)(hm:G.P.follows .mixedOrders=true){f:FuncId}{fn:Func}{b:Code}(hf:G.P.funcs[f]? = some fn)(hb:fn.body=some b){args:List SV}{c:an}{J:Env}{w:World}(n:Nat)
  {kn:bK} (fA:bK.wf kn c/\bK.den kn J) (hw:args.all (SV.wf c)=true) (h:xA (PA G.P ⟨w,[]⟩ Q QM QP) G n fn b args c kn J) :
  Calls G.P f (args.map (SV.den J b0)).toArray w λe w'=>(∃v,e=.returned v/\Below w.heap.size w w'/\(Q v∨QM w' v))∨∃v,e=.panicked [{v:=v,recovered:=false}]/\Below w.heap.size w w'/\QP w' v:=by
 refine FM (n:=0) hf hb ?_;have hC:=SY (W:=⟨w,[]⟩) (R:=λ_ => {state := .ready,pending:=none,fn:=0,tmps := #[],params := #[],assign := .skip,body := .skip,defers:=0}) (J:=J) (β:=b0) (args:=args) (n:=fn.ntmps) (c:=c) (w:=w) fA.1 fA.2 hw (cS.refl ⟨w,[]⟩);refine Dv hG (Gf hG hm) n none _ b _ _ J h _ _ none 0 b0 _ w hC ?_ rfl _ ?_
 ·intro k args s K' J hy;exact hy.elim
 intro e s aa ag a' w' hk i_ h1 h2 h3 dS
 have fin:=Jc hG (c0:=c) (cM:=J) (bh:=b0) (λc2 Dw K2 ar hx g1 g2 m2 aQ a2 w2 g3 g4 Q2 g5=>Dv hG (Gf hG hm) n none _ c2 Dw K2 ar hx _ _ none m2 aQ a2 w2 g4 (λk args s K' J hy=>hy.elim) rfl Q2 g5) hk h1 h2 h3 dS i_ 0
  (T:=λe w'=>(∃v,e=.returned v/\Below w.heap.size w w'/\(Q v∨QM w' v))∨∃v,e=.panicked [{v:=v,recovered:=false}]/\Below w.heap.size w w'/\QP w' v)
  (λv s2 ar aQ w2 g_ ri zO q1 q2 q3 cV=>by
   refine .inl ⟨_,rfl,cV.below, ?_⟩;simp only [PA]at g_;split at g_
   ·rename_i jS;rw [SV.aU ar aQ b0 jS];exact .inl g_
   ·exact .inr (g_ aQ w2 cV.below (yY cV.wf.ap (Env.ah _ ar) (λk cs t hg=>(cV.wf.m k cs t hg).2) (λk ce sz t hg=>(cV.wf.o k ce sz t hg).2) _ λk _ e hg=>cV.mem k e hg)))
  (λi s2 ar aQ w2 g_ hi q1 q2 q3 cV=>.inr ⟨_,rfl,cV.below,g_ w2 cV.below⟩)
 cases e with
 |normal=>exact fin.2
 |ret=>exact fin.2
 |exit id=>exact (fin.1 id rfl).elim
 |iC i=>exact fin.2
theorem J8{m:Mem}{k:Nat}{v:List At × TypeId}:∀{l:List At},getM (cu m l) k=some v->getM m k=some v:=by
  intro l
  induction l with
  |nil=>intro h;simp [cu,getM]at h
  |cons a l ih =>
    have key:∀ q,getM (match getM m q with
        |some v=>(q,v)::cu m l
        |none=>cu m l) k=some v->getM m k=some v:=λq h=>by
      split at h
      · rename_i u hu;rw [xI]at h;split at h
        · rename_i he;subst he;rw [hu];exact h
        · exact ih h
      · exact ih h
    intro h;cases a<;>first|exact ih h|exact key _ h
theorem J9{J:Env}{β ag:Nat->Nat}{n:Nat}(h:∀k,k<n->β k=ag k):∀{a:At},a.iH n=true->a.den J β=a.den J ag
  | .loc k o,ha=>by
    simp only [At.iH,decide_eq_true_eq]at ha;simp only [At.den,h k ha]
  | .fn f az,ha=>by
    simp only [At.iH]at ha
    have:(az.map λc=>(.pointer (some ⟨β c.1,c.2,none⟩):Value))=az.map λc=>.pointer (some ⟨ag c.1,c.2,none⟩) :=
      List.map_congr_left λx hx=>by rw [h x.1 (by simpa using List.all_eq_true.1 ha x hx)]
    simp only [At.den,this]
  | .int ..,_=>rfl
  | .bool ..,_=>rfl
  | .val ..,_=>rfl
  | .str ..,_=>rfl
  | .sv ..,_=>rfl
  | .c_,_=>rfl
  | .oT,_=>rfl
  | .p9,_=>rfl
  | .mE,_=>rfl
  | .rW,_=>rfl
  | .jf ..,_=>rfl
  | .fu ..,_=>rfl
  | .ext ..,_=>rfl
  | .gZ ..,ha=>by simp [At.iH,At.flat]at ha
  | .own ..,ha=>by simp [At.iH,At.flat]at ha
  | .eT ..,ha | .omap ..,ha | .oE ..,ha | .oU ..,ha=>by simp [At.iH,At.flat]at ha
  | .kM ..,ha=>by simp [At.iH,At.flat]at ha
theorem TQ{G:bY}(hG:G.Ok)(hm:G.P.follows .mixedOrders=true){f:FuncId}{fn:Func}{b:Code}(hf:G.P.funcs[f]? = some fn)(hb:fn.body=some b){args:List SV}{c:an}{J:Env}{w:World}(n:Nat){xs:List Nat}{bs:List (List At × TypeId)}
    {kn:bK} (fA:bK.wf kn c/\bK.den kn J) (hw:args.all (SV.wf c)=true) (hc:bs.all (λb=>b.1.all (At.wf c))=true) (h0:bs.length<=c.nk) (hlen:xs.length=bs.length) (rj:xs.Nodup) (hx:ux J xs bs w) (h:t_ (PA G.P ⟨w,xs⟩ Q QM QP) G n fn b args bs c kn J) :
    Calls G.P f (args.map (SV.den J (dD xs))).toArray w λe w'=>(∃v,e=.panicked [{v:=v,recovered:=false}]/\cS ⟨w,xs⟩ w'/\QP w' v)∨∃v cells,e=.returned v/\cS ⟨w,xs⟩ w'/\cells.length=bs.length/\(∀k cs t,bs[k]? = some (cs,t)->∃new,cells[k]? = some (.agg new)/\w'.heap[dD xs k]? = some (.cells new t))/\Q (.agg (v::cells).toArray):=by
  refine FM (n:=0) hf hb ?_;have hC:=SZ (W:=⟨w,xs⟩) (R:=λ_ => {state := .ready,pending:=none,fn:=0,tmps := #[],params := #[],assign := .skip,body := .skip,defers:=0}) (J:=J) (args:=args) (n:=fn.ntmps) (c:=c) (w:=w) fA.1 fA.2 hw hc h0 hlen rj rfl (cS.refl ⟨w,xs⟩) hx;refine Dv hG (Gf hG hm) n none _ b _ _ J h _ _ none 0 (dD xs) _ w hC ?_ rfl _ ?_
  · intro k args s K' J hy;exact hy.elim
  intro e s aa ag a' w' hk i_ h1 h2 h3 dS
  have fin:=Jc hG (c0:=c) (cM:=J) (bh:=dD xs) (λc2 Dw K2 ar hx g1 g2 m2 aQ a2 w2 g3 g4 Q2 g5=>Dv hG (Gf hG hm) n none _ c2 Dw K2 ar hx _ _ none m2 aQ a2 w2 g4 (λk args s K' J hy=>hy.elim) rfl Q2 g5) hk h1 h2 h3 dS i_ 0
    (T:=λe w'=>(∃v,e=.panicked [{v:=v,recovered:=false}]/\cS ⟨w,xs⟩ w'/\QP w' v)∨∃v cells,e=.returned v/\cS ⟨w,xs⟩ w'/\cells.length=bs.length/\(∀k cs t,bs[k]? = some (cs,t)->∃new,cells[k]? = some (.agg new)/\w'.heap[dD xs k]? = some (.cells new t))/\Q (.agg (v::cells).toArray))
    (λv s2 ar aQ w2 g_ ri zO q1 q2 q3 cV=>by
      right;simp only [PA]at g_;split at g_
      · rename_i ll hg;split at g_
        · rename_i jS;simp only [Bool.and_eq_true]at jS;obtain⟨jS,Bu⟩:=jS
          have jb:∀k,k<(bs.map Prod.snd).length->aQ k=dD xs k:=λk hk=>by
            have P_:k<c.nk:=Nat.lt_of_lt_of_le (by simpa using hk) h0;exact (q3 k (Nat.lt_of_lt_of_le P_ h1.k)).trans (h3 k P_)
          have pA:∀ {k0:Nat} {ts:List TypeId} {ll:List (List At)},pb (cu s2.m ((List.range bs.length).map (fun k=>At.loc k 0)++(oZ v).flatMap CV.cells)) k0 ts=some ll ->
              ll.length=ts.length/\∀k t,ts[k]? = some t->∃fH,ll[k]? = some fH/\getM s2.m (k0+k)=some (fH,t):=by
            intro k0 ts
            induction ts generalizing k0 with
            |nil=>intro ll h;simp only [pb,Option.some.injEq]at h;subst h;exact⟨rfl,λk t h=>by simp at h⟩
            |cons t0 r ih =>
              intro ll h;simp only [pb]at h;split at h
              · rename_i cs t' l' g1 g2;split at h
                · rename_i he;simp only [Option.some.injEq]at h;subst h;obtain⟨i1,i2⟩:=ih g2;refine⟨by simp [i1],λk t hk => ?_⟩;cases k with
                  |zero =>
                    simp only [List.getElem?_cons_zero,Option.some.injEq]at hk;subst hk;exact⟨cs,rfl,by rw [Nat.add_zero,J8 g1,he]⟩
                  |succ k =>
                    obtain⟨fH,j1,j2⟩:=i2 k t (by simpa using hk);exact⟨fH,by simpa using j1,by rw [show k0+(k+1)=k0+1+k by omega];exact j2⟩
                · cases h
              · cases h
          obtain⟨i1,i2⟩:=pA hg;refine⟨_,ll.map λcs=>Value.agg (cs.map (At.den ar (dD xs))).toArray,rfl,cV.below, ?_,λk cs t jX => ?_, ?_⟩
          rotate_right
          · rw [SV.aU ar aQ b0 jS];exact g_
          · simpa using i1
          · obtain⟨fH,j1,j2⟩:=i2 k t (by rw [List.getElem?_map,jX];rfl);rw [Nat.zero_add]at j2
            have Gg:k<(bs.map Prod.snd).length:=by
              have:=(List.getElem?_eq_some_iff.1 jX).1
              simpa using this
            have hh:=(cV.fix (k:=k) j2).2;rw [jb k Gg]at hh;refine⟨(fH.map (At.den ar (dD xs))).toArray,by rw [List.getElem?_map,j1];rfl, ?_⟩
            have e2:fH.map (At.den ar aQ)=fH.map (At.den ar (dD xs)):=List.map_congr_left λy hy =>
              J9 jb (List.all_eq_true.1 (List.all_eq_true.1 Bu fH (List.mem_of_getElem? j1)) y hy)
            rw [<-e2];exact hh
        · exact g_.elim
      · exact g_.elim)
    (λi s2 ar aQ w2 g_ hi q1 q2 q3 cV=>.inl ⟨_,rfl,cV.below,g_ w2 cV.below⟩)
  cases e with
  |normal=>exact fin.2
  |ret=>exact fin.2
  |exit id=>exact (fin.1 id rfl).elim
  |iC i=>exact fin.2
end Vc
set_option linter.unusedVariables false
namespace Vc
open Go Go.RowKit
def aB(is:List Int)(bs:List Bool)(vs:List OV)(ps:List (Nat × Nat))(ss:List (List UInt8) := [])(ls:List (List OV) := []):Env :=
 ⟨λj=>is.getD j 0,λj=>bs.getD j false,λj=>vs.getD j ⟨.nilFunc,rfl⟩,λj=>ps.getD j (0,0),λj=>ss.getD j [],λj=>ls.getD j []⟩
def lq(P:Program)(l:List FuncId):Bool :=
  l.all λf=>match P.funcs[f]? with
    |some fn => (fn.name != "runtime.NumGoroutine") && fn.body.isSome
    |none=>false
theorem P'{P:Program}{l:List FuncId}(h:lq P l=true){f:FuncId}(hf:l.contains f=true)(args:Array Value)(w:World):(callFunc f args).run P w=.ok (.enter f args) w:=by
  have:=List.all_eq_true.1 h f (List.contains_iff_mem.1 hf)
  cases hp:P.funcs[f]? with
  |none=>simp [hp]at this
  |some fn =>
    simp only [hp,Bool.and_eq_true,bne_iff_ne,ne_eq]at this;obtain⟨h1,h2⟩:=this;have h3:fn.body.isNone=false:=by cases hb:fn.body<;>simp_all
    have h4:fn.body≠none:=by intro he;rw [he]at h2;cases h2
    simp [callFunc,hp,h1,h4]
structure sQ(P:Program)(calls ext inl:List FuncId):Prop where
 calls:lq P calls=true
 inl:lq P inl=true
 mix:P.follows .mixedOrders=true
theorem sQ.ok{P:Program}{calls ext inl:List FuncId}(h:sQ P calls ext inl)(loops:List (Nat × LH))(fw:List (Nat × List At × TypeId)):(⟨P,calls,ext,inl,loops,fw,[],[]⟩:bY).Ok :=
 ⟨λf hf args w=>P' h.calls hf args w,λf hf args w=>P' h.inl hf args w,λe he=>absurd he (by simp)⟩
theorem zc{c:an}{J:Env}:bK.wf [] c/\bK.den [] J:=⟨λx h=>(by cases h),λx h=>(by cases h)⟩
theorem J_{x:Kn}{k:bK}{c:an}{J:Env}(h1:x.wf c=true)(h2:x.den J)(h:bK.wf k c/\bK.den k J):bK.wf (x::k) c/\bK.den (x::k) J :=
 ⟨λy hy=>(List.mem_cons.1 hy).elim (λe=>e▸h1) (h.1 y),λy hy=>(List.mem_cons.1 hy).elim (λe=>e▸h2) (h.2 y)⟩
theorem aw.mono{P:Program}{f:FuncId}{args:Array Value}{w:World}{v v':Value}(h:Calls P f args w (aw v w))(e:v=v'):Calls P f args w (aw v' w):=e▸h
abbrev rd(w:World)(p:Nat × Nat)(x m k:Nat)(v:Value):Prop:=w.cell? ⟨p.1,p.2+x*m+k,none⟩=some v
theorem zb{P:Program}{calls ext inl:List FuncId}(B:sQ P calls ext inl)(loops:List (Nat × LH))(fw:List (Nat × List At × TypeId))(n:Nat){f:FuncId}{fn:Func}{b:Code}(hf:P.funcs[f]? = some fn)(hb:fn.body=some b)
  (args:List SV) (c:an) (kn:bK) (J:Env) {uX:Array Value} (ha:(args.map (SV.den J b0)).toArray=uX) (fA:bK.wf kn c/\bK.den kn J) (hw:args.all (SV.wf c)=true) {w:World} {v:Value} {p:Prop}
  (he:xA (PA P ⟨w,[]⟩ (λu=>u=v) (λ_ _=>False) (λ_ _=>False)) ⟨P,calls,ext,inl,loops,fw,[],[]⟩ n fn b args c kn J=p) (h:p):Calls P f uX w (aw v w):=by
 subst ha;refine (TP (G:=⟨P,calls,ext,inl,loops,fw,[],[]⟩) (B.ok loops fw) B.mix hf hb n fA hw (Eq.mpr he h)).mono λe w' he => ?_;rcases he with ⟨u,h1,h2,h3⟩|⟨u,h1,h2,h3⟩
 ·rcases h3 with rfl|h3
  ·exact⟨h1,h2⟩
  ·exact h3.elim
 ·exact h3.elim
theorem pC{P:Program}{calls ext inl:List FuncId}(B:sQ P calls ext inl)(loops:List (Nat × LH))(fw:List (Nat × List At × TypeId))(n:Nat){f:FuncId}{fn:Func}{b:Code}(hf:P.funcs[f]? = some fn)(hb:fn.body=some b)
    (args:List SV) (cs:List At) (t:TypeId) (c:an) (kn:bK) (J:Env) {x:Nat} {uX eB:Array Value} (ha:(args.map (SV.den J (dD [x]))).toArray=uX) (ho:(cs.map (At.den J (dD [x]))).toArray=eB) (fA:bK.wf kn c/\bK.den kn J) (hw:args.all (SV.wf c)=true) (hc:cs.all (At.wf c)=true) (h0:0<c.nk)
    {w:World} {v:Value} {new:Array Value} {p:Prop} (he:t_ (PA P ⟨w,[x]⟩ (λu=>u=.agg #[v,.agg new]) (λ_ _=>False) (λ_ _=>False)) ⟨P,calls,ext,inl,loops,fw,[],[]⟩ n fn b args [(cs,t)] c kn J=p)
    (hx:w.heap[x]? = some (.cells eB t)) (h:p):Calls P f uX w (ny v x new t w):=by
  subst ha ho;refine (TQ (G:=⟨P,calls,ext,inl,loops,fw,[],[]⟩) (B.ok loops fw) B.mix hf hb n fA hw (bs := [(cs,t)]) (xs := [x]) (by simpa using hc) h0 rfl (by simp) (λk fH t' hk => ?_) (Eq.mpr he h)).mono λe w' he => ?_
  · cases k with
    |zero =>
      simp only [List.getElem?_cons_zero,Option.some.injEq,Prod.mk.injEq]at hk;obtain⟨rfl,rfl⟩:=hk;exact hx
    |succ k=>simp at hk
  · rcases he with ⟨_,_,_,he⟩|he
    · exact he.elim
    obtain⟨u,cells,h1,h2,h3,h4,h5⟩:=he;obtain⟨n',h6,h7⟩:=h4 0 cs t rfl
    match cells,h3 with
    | [cell],_ =>
      simp only [List.getElem?_cons_zero,Option.some.injEq]at h6;subst h6;simp only [Value.agg.injEq]at h5;have h8:=congrArg Array.toList h5;simp only [List.cons.injEq,Value.agg.injEq,and_true]at h8;obtain⟨rfl,rfl⟩:=h8;exact⟨h1,h2,h7⟩
def rK:List Nat->List (Array Value × TypeId)->World->Prop
 |x::xs,b::bs,w=>w.heap[x]? = some (.cells b.1 b.2)/\rK xs bs w
 | [],[],_=>True
 |_,_,_=>False
theorem rK.get{w:World}:∀{xs:List Nat} {bs:List (Array Value × TypeId)},rK xs bs w->xs.length=bs.length/\∀k b,bs[k]? = some b->w.heap[dD xs k]? = some (.cells b.1 b.2)
  | [],[],_=>⟨rfl,λk b h=>by simp at h⟩
  |x::xs,b::bs,h=>by
    obtain⟨h1,h2⟩:=rK.get h.2;refine⟨by simp [h1],λk b' hk => ?_⟩;cases k with
    |zero =>
      simp only [List.getElem?_cons_zero,Option.some.injEq]at hk;subst hk;exact h.1
    |succ k=>exact h2 k b' (by simpa using hk)
theorem ft(x:Int):IntKind.i64.wrap x=(x+9223372036854775808) % 18446744073709551616-9223372036854775808:=by
 unfold IntKind.wrap;simp only [IntKind.bits,IntKind.signed];simp;split<;>omega
theorem ay(x:Int):IntKind.u64.wrap x=x % 18446744073709551616:=by
 simp [IntKind.wrap,IntKind.bits,IntKind.signed]
theorem zx{x:Int}(h:-9223372036854775808<=x/\x<=9223372036854775807):IntKind.i64.wrap x=x:=by rw [ft];omega
end Vc
