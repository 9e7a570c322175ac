import Derived.Test.YtkbchjlnhgfpmaaGreatDoorVcR
import Derived.OrdersIn
import Derived.StillTail
set_option linter.unusedVariables false
set_option linter.unusedSimpArgs false
namespace Vc
open Go Go.RowKit
variable {P:Program} {W:eJ} {R:Nat->Loop} {Z:List Nat} {ops:Array Oper} {n:Nat} {U:Env} {sts:Nat->St} {gX:Nat->SV} {cs:Nat->List Nat} {rd wr:List (Nat × Nat)}
theorem Ni(hw:Way P W ops n U sts gX cs rd wr)(hd:dZ ops=true){a0 a:Act}{bI β an:Nat->Nat}{w w' w0:World}(xl:Core W R Z U bI (sts 0) a0 w0){listed:Array Bool}(inv:Inv W R Z ops n U sts cs a0 bI listed a w β){i:Nat}{o:Oper}(hi:i < n)(ho:ops[i]? = some o)
    (gA:listed.getD i false=false) (hr:∀e∈o.after,Region.binds .any e=true->listed.getD e.on false=true) {s1:St} (hk:pT U (sts i) s1) (mc:Ec s1 o (sts (i+1)) (gX i) (cs i)) {val:Value} (jE:gX i ≠ .any->val=(gX i).den U an)
    (vM:AT W s1 (sts (i+1)) U (cs i) β an w w') (iR:∀k∈cs i,cut n sts cs listed k i)
    (kF:∀k e',(k∈cs i\/s1.c.nk<=k)->aM (sts (i+1)).m (sts (i+1)).o k=some e'->∀x∈fe e',∀m,m<n->laid sts m x->listed.getD m false=true) :
    Inv W R Z ops n U sts cs a0 bI (listed.setIfInBounds i true) (a.put o.dst val) w' an:=by
  have yz:i<ops.size:=Nat.lt_of_lt_of_le hi hw.le;have tm:i<listed.size:=by rw [inv.ry];exact yz
  obtain⟨kc,km,kn,ko,kr,kd⟩:=hk.c;have lJ:∀m,i≠m->(listed.setIfInBounds i true).getD m false=listed.getD m false:=λm hm=>by rw [AY listed i m tm,if_neg hm]
  have CI:(listed.setIfInBounds i true).getD i false=true:=by rw [AY listed i i tm,if_pos rfl]
  have A1:∀m,listed.getD m false=true->(listed.setIfInBounds i true).getD m false=true:=λm hm=>by
    rw [AY listed i m tm];split
    · rfl
    · exact hm
  have sZ:∀k,¬laid sts i k->an k=β k:=λk hk=>vM.off k (by rw [kc];exact hk);have Ce:∀k e,k∈cs i->aM s1.m s1.o k=some e->Holds W U β k e w:=λk e E9 hg=>inv.mem k i (by omega) (iR k E9) e (by rw [km,ko]at hg;exact hg)
  have xm:∀{k j},uh sts cs i k->j<=n->cut n sts cs (listed.setIfInBounds i true) k j->aM (sts j).m (sts j).o k=aM (sts (i+1)).m (sts (i+1)).o k:=by
    intro k j ht hj hcut;have rz:i<j:=(hcut i hi ht).2 CI;refine hw.chain j (i+1) (by omega) hj λm a1 a2 A3 => ?_;have me:m<n:=by omega
    have zH:=(hcut m me A3).1 a2;rw [lJ m (by omega)]at zH
    have no:∀h:reach ops 3 m i=true,False:=λh=>by
      rw [later inv gA (Nat.lt_of_lt_of_le me hw.le) h]at zH;cases zH
    have uX:=hw.nk m (i+1) a1 (by omega);have XQ:=hw.nk (i+1) i (by omega) (by omega);rcases ht with hc|hl<;>rcases A3 with jV|gj
    · obtain⟨b1,_,_⟩:=hw.cls hi hc;obtain⟨c1,_,_⟩:=hw.cls me jV;rcases hw.apart k m i (.inr c1) b1 with rfl|⟨_,d2⟩|⟨d1,_⟩
      · omega
      · rw [F9 inv gA (Nat.lt_of_lt_of_le me hw.le) d2]at zH;cases zH
      · omega
    · have:=(hw.cls hi hc).2.1
      have:=gj.1
      omega
    · exact no ((hw.cls me jV).2.2 i (by omega) hl)
    · have:=hl.2
      have:=gj.1
      omega
  have told:∀{k},uh sts cs i k->k∈cs i\/s1.c.nk<=k:=λht=>by
    rcases ht with h|h
    · exact .inl h
    · rw [kc];exact .inr h.1
  have xn:∀{k j},¬uh sts cs i k->cut n sts cs (listed.setIfInBounds i true) k j->cut n sts cs listed k j:=λ{k j} ht hcut m hm Ux=>by
    have:=hcut m hm Ux
    rwa [lJ m (λe=>ht (e▸Ux))]at this
  have uj:∀{k j e},¬uh sts cs i k->j<=n->aM (sts j).m (sts j).o k=some e->∀x∈dU k e,an x=β x:=by
    intro k j e ht hj hg x hx;refine sZ x λhl => ?_;cases e with
    |fix c t =>
      simp only [dU,List.mem_singleton]at hx;subst hx;exact ht (.inr hl)
    |row ce sz t =>
      have bD:=hw.rows j hj k ce sz t hg i hi;simp only [dU,List.mem_cons,List.not_mem_nil,or_false]at hx
      have:∃d,d<4/\x=k+d:=by
        rcases hx with rfl|rfl|rfl|rfl
        · exact⟨0,by omega,rfl⟩
        · exact⟨1,by omega,rfl⟩
        · exact⟨2,by omega,rfl⟩
        · exact⟨3,by omega,rfl⟩
      obtain⟨d,h1,rfl⟩:=this;exact ht (.inr (bD d h1 hl))
  have F_:∀{k j e},¬uh sts cs i k->j<=n->cut n sts cs listed k j->aM (sts j).m (sts j).o k=some e->∀b,bM β k e=some b->w'.heap[b]? = w.heap[b]? := by
    intro k j e ht hj hcut hg b hb;have hl:=(inv.mem k j hj hcut e hg).wU b hb;refine vM.frame b hl.2.1 λk0 e0 oc dL ff => ?_;rw [km,ko]at dL
    have:=inv.inj k k0 j i hj (by omega) hcut (iR k0 oc) e e0 b hg dL hb ff
    exact ht (.inl (this▸oc))
  have Ga:=hw.step hi ho;have i_:a.tmps.size=(sts i).n:=by rw [(hw.n0 i (by omega)).1];exact inv.size
  have Gb:∀(t:Nat),(a.put o.dst val).tmps[t]? = if o.dst=some t then some val else a.tmps[t]? := λt=>by
    cases jZ:o.dst with
    |none=>simp [Act.put]
    |some d =>
      rw [fb t (by rw [i_];exact Ga.2.2.2.2.2.2.1 d jZ)];simp only [Option.some.injEq]
  refine⟨by simp [inv.ry],λj oj hj hl e he hb => ?_,λj hj=>by rw [lJ j (by omega)];exact inv.only j hj,by rw [LF];exact inv.size,by rw [LG];exact inv.kE,vM.below inv.below Ce,
    λt j p A6 hj qD hl hn => ?_,λt ht => ?_,λk j hj hcut e hg => ?_,λk j hj hcut e hg x hx m hm hl => ?_,λk k' j j' hj ue hcut mh e e' b hg fx hb gy => ?_,λk e hg => ?_,λb hb => ?_,λk hk => ?_⟩
  · rw [AY listed i _ tm]at hl ⊢;by_cases oe:i=e.on
    · rw [if_pos oe]
    · rw [if_neg oe];by_cases rz:i=j
      · subst rz;rw [ho]at hj;cases hj;exact hr e he hb
      · rw [if_neg rz]at hl;exact inv.closed j oj hj hl e he hb
  · rw [Gb]
    have gm:fg U (ay (sts (j+1)).t t) (ay (sts n).t t):=by
      refine hw.same n (j+1) (by omega) (Nat.le_refl _) λm h1 h3 q hq CH => ?_;rcases ((zz hd hq).2 j p hj t qD).1 with h4|h4
      · omega
      · exact h4 CH
    have Gc:ay (sts (j+1)).t t=gX j:=(hw.step A6 hj).2.2.2.2.2.1 t qD;by_cases rz:i=j
    · subst rz;rw [ho]at hj;cases hj;rw [if_pos qD];have h5:gX i ≠ .any:=by rw [<-Gc];exact gm.any hn
      rw [jE h5,<-gm.den,Gc]
    · rw [lJ j rz]at hl
      have dt:o.dst≠some t:=by
        rcases ((zz hd ho).2 j p hj t qD).1 with h4|h4
        · exact (rz h4).elim
        · exact h4
      rw [if_neg dt,inv.s2 t j p A6 hj qD hl hn];refine congrArg some (SV.je λy hy=>sZ y λJn => ?_).symm;have r9:=gm.ids hy;rw [Gc]at r9;have ct:=AZ (Gc▸(hw.wf (j+1) (by omega)).t t) _ r9;rcases Nat.lt_or_ge i j with a1|a1
      · have:=later inv gA (Array.getElem?_eq_some_iff.1 hj).1 (hw.dst A6 hj qD r9 a1 Jn)
        rw [hl]at this;cases this
      · have:=hw.nk i (j+1) (by omega) (by omega)
        have:=Jn.1
        omega
  · have dt:o.dst≠some t:=by
      intro he
      have:=ht i o hi ho he
      rw [CI]at this;cases this
    rw [Gb,if_neg dt];refine inv.s3 t λj p A6 hj qD => ?_
    have:=ht j p A6 hj qD
    by_cases rz:i=j
    · subst rz;rw [CI]at this;cases this
    · rwa [lJ j rz]at this
  · by_cases zI:uh sts cs i k
    · rw [xm zI hj hcut]at hg;exact (vM.new k e (told zI) hg).1
    · have pa:=xn zI hcut;refine (inv.mem k j hj pa e hg).xj (uj zI hj hg) (λx hx=>sZ x λhl => ?_) (F_ zI hj pa hg)
      have:=inv.Nc k j hj pa e hg x hx i hi hl
      rw [gA]at this;cases this
  · by_cases zI:uh sts cs i k
    · rw [xm zI hj hcut]at hg;exact A1 m (kF k e (told zI) hg x hx m hm hl)
    · exact A1 m (inv.Nc k j hj (xn zI hcut) e hg x hx m hm hl)
  · have rn:∀ {k k' j j' e e'},uh sts cs i k->¬ uh sts cs i k'->j<=n->j'<=n->cut n sts cs (listed.setIfInBounds i true) k j->cut n sts cs (listed.setIfInBounds i true) k' j'->aM (sts j).m (sts j).o k=some e->aM (sts j').m (sts j').o k'=some e'->bM an k e=some b->bM an k' e'=some b->False:=by
      intro k k' j j' e e' h1 h2 hj ue hcut mh hg fx hb gy;have pa:=xn h2 mh;rw [M' (uj h2 ue fx)]at gy;have hl:=(inv.mem k' j' ue pa e' fx).wU b gy;rw [xm h1 hj hcut]at hg;rcases (vM.new k e (told h1) hg).2 b hb with h3|⟨k0,e0,h3,h4,h5,_⟩
      · omega
      · rw [km,ko]at h4
        have:=inv.inj k0 k' i j' (by omega) ue (iR k0 h3) pa e0 e' b h4 fx h5 gy
        exact h2 (.inl (this▸h3))
    by_cases h1:uh sts cs i k<;>by_cases h2:uh sts cs i k'
    · rw [xm h1 hj hcut]at hg;rw [xm h2 ue mh]at fx;exact vM.inj k k' e e' b (told h1) (told h2) hg fx hb gy
    · exact (rn h1 h2 hj ue hcut mh hg fx hb gy).elim
    · exact (rn h2 h1 ue hj mh hcut fx hg gy hb).elim
    · rw [M' (uj h1 hj hg)]at hb;rw [M' (uj h2 ue fx)]at gy;exact inv.inj k k' j j' hj ue (xn h1 hcut) (xn h2 mh) e e' b hg fx hb gy
  · exact vM.other Ce (inv.fX k e hg) (λh=>h)
  · exact vM.other Ce (inv.gQ b hb) (λh=>h)
  · have:=hw.nk i 0 (by omega) (by omega)
    rw [sZ k λhl=>by have:=hl.1;omega];exact inv.agree k hk
theorem Nj{r:Option Nat}{mm:Nat}(hw:Way P W ops n U sts gX cs rd wr)(hd:dZ ops=true){a0 a:Act}{bI β:Nat->Nat}{w0 w:World}(hC:Core W R Z U bI (sts 0) a0 w0)
    {listed:Array Bool} (inv:Inv W R Z ops n U sts cs a0 bI listed a w β) {i:Nat} {o:Oper} (hi:i<n) (ho:ops[i]? = some o) (gA:listed.getD i false=false) (hr:∀e∈o.after,Region.binds .any e=true->listed.getD e.on false=true)
    {Q':Exit->Act->World->Prop} {K:Act->World->Prop} (hK:∀a' w' an,Inv W R Z ops n U sts cs a0 bI (listed.setIfInBounds i true) a' w' an->K a' w'):wpOpIn (Fr r) mm P ops Q' i K a w:=by
  have A8:=hw.wf i (by omega);have zJ:=hw.F5 i o hi ho
  have next:∀ s1,pT U (sts i) s1->Ec s1 o (sts (i + 1)) (gX i) (cs i)->∀ val an w',(gX i ≠ .any->val=(gX i).den U an)->AT W s1 (sts (i + 1)) U (cs i) β an w w'->(∀ k∈cs i,cut n sts cs listed k i) ->
      (∀k e',(k∈cs i\/s1.c.nk<=k)->aM (sts (i+1)).m (sts (i+1)).o k=some e'->∀x∈fe e',∀m,m<n->laid sts m x->listed.getD m false=true)->K (a.put o.dst val) w' :=
    λs1 hk mc val an w' jE vM iR kF=>hK _ _ _ (Ni hw hd hC inv hi ho gA hr hk mc jE vM iR kF)
  unfold wpOpIn;simp only [ho];generalize jv:sts (i+1)=s' at zJ next
  generalize Gc:gX i=sv at zJ next
  generalize pP:cs i=C at zJ next
  cases zJ with
  |skip s1 k wt p =>
    rw [Ut hw hd hC inv hi ho gA hr wt];simp only [Bool.false_eq_true,if_false];refine⟨λf _=>u_ r f,next s1 k (Ur (k.wf A8) p) undef β w (λ_=>rfl) (LM (k.wf A8) ?_ (Below.refl _ _)) (λk hk=>by cases hk) ?_⟩
    · obtain⟨q1,q2,q3,q4,q5,q6⟩:=kO s1 o.dst .dX s1.c;rw [q2,q4]
    · intro k' e' gE hg;obtain⟨q1,q2,q3,q4,q5,q6⟩:=kO s1 o.dst .dX s1.c;rcases gE with gE|gE
      · cases gE
      · rw [q2,q4,(k.wf A8).beyond gE]at hg;cases hg
  |run s1 _ _ _ k wt nd f h1 h2 h4 h5 =>
    rw [Ut hw hd hC inv hi ho gA hr wt];simp only [if_true];obtain⟨kc,km,kn,ko,kr,kd⟩:=k.c
    have hcut:∀kk∈bd s1 o++a8 s1 o,kk<(sts i).c.nk->cut n sts cs listed kk i:=λkk cQ ct =>
      Nh hw inv hi ho gA hr ct (by
        rcases List.mem_append.1 cQ with h|h
        · exact .inl (h4 kk h)
        · exact .inr (h5 kk h)) λm hm hl=>h1 kk (List.mem_append.2 (.inl cQ)) m hm hl
    refine w6 r mm nd (f.Tl β a w inv.below (Nf hw hd hC inv hi ho gA hr k) (λkk cQ e hg => ?_) (λkk Uy e e' b cQ Nk hg fx hb gy => ?_) K Q' λan v w' hv vM=>next s1 k f.fB v an w' hv vM (λkk cQ => ?_) λkk e' cQ hg x hx m hm hl => ?_)
    · rw [km,ko]at hg;exact inv.mem kk i (by omega) (hcut kk cQ (DZ (A8.eO hg))) e hg
    · rw [km,ko]at hg fx;exact inv.inj kk Uy i i (by omega) (by omega) (hcut kk (List.mem_append.2 (.inr cQ)) (DZ (A8.eO hg))) (hcut Uy (List.mem_append.2 (.inr Nk)) (DZ (A8.eO fx))) e e' b hg fx hb gy
    · have:=f.LJ kk cQ
      exact hcut kk (List.mem_append.2 (.inr this.1)) (by rw [<-kc];exact this.2)
    · rcases f.ids kk e' cQ hg x hx with h|⟨j,e,hj,kq,Ge⟩
      · have ct:=Nb (k.wf A8) x h;rw [kc]at ct
        have Nn:m<i:=by
          rcases Nat.lt_or_ge m i with h'|h'
          · exact h'
          · have:=hw.nk m i h' (by omega)
            have:=hl.1
            omega
        exact Jh inv.closed 3 i m o ho hr (h1 x (List.mem_append.2 (.inr h)) m Nn hl)
      · rw [km,ko]at kq;exact inv.Nc j i (by omega) (hcut j hj (DZ (A8.eO kq))) e kq x Ge m hm hl
theorem No(hw:Way P W ops n U sts gX cs rd wr){a0 a:Act}{bI β:Nat->Nat}{w0 w:World}(hC:Core W R Z U bI (sts 0) a0 w0){listed:Array Bool}(inv:Inv W R Z ops n U sts cs a0 bI listed a w β)
  (cH:∀j,j<n->listed.getD j false=true):Core W R Z U β (sts n) a w:=by
 obtain⟨n1,n2,n3,n4⟩:=hw.n0 n (Nat.le_refl _);have hcut:∀k,cut n sts cs listed k n:=λk m hm _=>⟨λ_=>cH m hm,λ_=>hm⟩;have oG:(sts 0).d.map β=(sts 0).d.map bI:=List.map_congr_left λk hk=>inv.agree k (hC.wf.d k hk)
 refine⟨by rw [n1];exact inv.size,λt hn => ?_, ?_,inv.below,λk e hg=>inv.mem k n (Nat.le_refl _) (hcut k) e hg,λk k' e e' b hg fx hb gy=>inv.inj k k' n n (Nat.le_refl _) (Nat.le_refl _) (hcut k) (hcut k') e e' b hg fx hb gy,
  λk e hg => ?_,λk k' e e' hg fx he => ?_,λb hb => ?_, ?_,hw.wf n (Nat.le_refl _),hw.kn hC.kn n (Nat.le_refl _)⟩
 ·by_cases hx:∃(j:Nat) (p:Oper),j<n/\ops[j]? = some p/\p.dst=some t
  ·obtain⟨j,p,hj,hp,qD⟩:=hx;exact inv.s2 t j p hj hp qD (cH j hj) hn
  ·have rA:∀(m:Nat) (o':Oper),m<n->ops[m]? = some o'->o'.dst≠some t:=λm o' me hm he=>hx ⟨m,o',me,hm,he⟩;have gm:fg U (ay (sts 0).t t) (ay (sts n).t t):=hw.same n 0 (by omega) (Nat.le_refl _) λm _ h q hq=>rA m q h hq;rw [inv.s3 t (λm o' me hm he=>(rA m o' me hm he).elim),hC.tmps t (gm.any hn),<-gm.den,SV.aa (Env.ao _ U) inv.agree (hC.wf.t t)]
 ·rw [n3,inv.kE,hw.df n (Nat.le_refl _),IU hC.wf.df inv.agree];simp only [marksOf];exact congrArg _ (List.map_congr_left λk hk=>by rw [inv.agree k (hC.wf.d k hk)])
 ·rw [n2]at hg;rw [inv.agree k (hC.wf.r k e hg)];exact⟨(hC.fX k e hg).1,inv.fX k e hg⟩
 ·rw [n2]at hg fx;rw [inv.agree k (hC.wf.r k e hg),inv.agree k' (hC.wf.r k' e' fx)]at he;exact hC.kt k k' e e' hg fx he
 ·rw [n3,oG]at hb;exact⟨(hC.gQ b hb).1,inv.gQ b hb⟩
 ·rw [n3,oG];exact hC.dn
theorem Np{a0:Act}{bI:Nat->Nat}{w0:World}(hw:Way P W ops n U sts gX cs rd wr)(hC:Core W R Z U bI (sts 0) a0 w0):Inv W R Z ops n U sts cs a0 bI (Array.replicate ops.size false) a0 w0 bI:=by
  have hf:∀j,(Array.replicate ops.size false).getD j false=false:=λj=>by
    rw [Array.getD_eq_getD_getElem?,Array.getElem?_replicate];split<;>rfl
  have h0:∀{k i},i<=n->cut n sts cs (Array.replicate ops.size false) k i->aM (sts i).m (sts i).o k=aM (sts 0).m (sts 0).o k:=λ{k i} hi hcut =>
    hw.chain i 0 (by omega) hi λm _ h2 ht=>by
      have:=(hcut m (by omega) ht).1 h2
      rw [hf m]at this;cases this
  refine⟨by simp,λj oj _ h=>(by rw [hf j]at h;cases h),λj _=>hf j,hC.size,hC.kE,hC.below,λt i o _ _ _ h=>(by rw [hf i]at h;cases h),λ_ _=>rfl,λk i hi hcut e hg => ?_,λk i hi hcut e hg x hx m hm hl => ?_,λk k' i i' hi od hcut mh e e' b hg fx hb gy => ?_,
    λk e hg=>(hC.fX k e hg).2,λb hb=>(hC.gQ b hb).2,λ_ _=>rfl⟩
  · rw [h0 hi hcut]at hg;exact hC.mem k e hg
  · rw [h0 hi hcut]at hg
    have ct:x<(sts 0).c.nk:=by
      have wO:=hC.wf.eO hg;cases e with
      |fix c t=>exact F6 wO.2 x hx
      |row ce sz t =>
        obtain⟨s,hs,qG⟩:=List.mem_flatMap.1 hx
        have:=List.all_eq_true.1 wO.2 s hs
        cases s with
        |cu l=>exact F6 this x qG
        |var i=>cases qG
    have:=hw.nk m 0 (by omega) (by omega)
    have:=hl.1
    omega
  · rw [h0 hi hcut]at hg;rw [h0 od mh]at fx;exact hC.inj k k' e e' b hg fx hb gy
end Vc
set_option linter.unusedVariables false
namespace Vc
open Go Go.RowKit
variable {P:Program} {W:eJ} {Q:Value->Prop} {QM QP:World->Value->Prop} {R:Nat->Loop} {Z:List Nat}
theorem yA(t:List (Nat × SV))(dst:Option Tmp)(v:SV)(d:Nat):ay (eI t dst v) d=if dst=some d then v else ay t d:=by
  cases dst with
  |none=>simp [eI]
  |some x =>
    simp only [eI,zj];by_cases h:x=d<;>simp [h]
theorem xp(t:List (Nat × SV)):∀(L:List gU) (d:Nat),ay (cn t L) d=.any\/(ay (cn t L) d=ay t d/\∀p∈L,p.dst≠some d)
  | [],d=>.inr ⟨rfl,by simp⟩
  |p::L,d=>by
    simp only [cn];cases hp:p.dst with
    |none =>
      rcases xp t L d with h|⟨h1,h2⟩
      · exact .inl h
      · refine .inr ⟨h1,λq hq => ?_⟩;rcases List.mem_cons.1 hq with rfl|hq
        · rw [hp];simp
        · exact h2 q hq
    |some x =>
      simp only [zj];by_cases hx:x=d
      · exact .inl (if_pos hx)
      · rw [if_neg hx];rcases xp t L d with h|⟨h1,h2⟩
        · exact .inl h
        · refine .inr ⟨h1,λq hq => ?_⟩;rcases List.mem_cons.1 hq with rfl|hq
          · rw [hp];simpa using hx
          · exact h2 q hq
theorem Ed(t:List (Nat × SV)):∀(L:List gU) (d:Nat),(∀p∈L,p.dst≠some d)->ay (cn t L) d=ay t d
  | [],d,_=>rfl
  |p::L,d,h=>by
    simp only [cn];have h2:=Ed t L d λq hq=>h q (List.mem_cons_of_mem _ hq);cases hp:p.dst with
    |none=>exact h2
    |some x =>
      have:x≠d:=λe=>h p (by simp) (by rw [hp,e])
      simp only [zj];rw [if_neg this];exact h2
theorem Jo(a:Act)(dst:Option Tmp)(v:Value)(i:Nat)(hd:∀d,dst=some d->d<a.tmps.size):(a.put dst v).tmps[i]? = if dst=some i then some v else a.tmps[i]? := by
  cases dst with
  |none=>simp [Act.put]
  |some d =>
    have:=hd d rfl
    simp only [Act.put,Option.some.injEq];by_cases h:d=i
    · subst h;rw [if_pos rfl];simp [this]
    · rw [if_neg h];exact Array.getElem?_setIfInBounds_ne h
theorem Jp(a:Act)(dst:Option Tmp)(v:Value):(a.put dst v).tmps.size=a.tmps.size:=by
 cases dst<;>simp [Act.put]
theorem Uz(a:Act)(dst:Option Tmp)(v:Value):(a.put dst v).defers=a.defers:=by
 cases dst<;>rfl
theorem Nq{U:Env}{β:Nat->Nat}{st:St}{a a':Act}{w w':World}(hC:Core W R Z U β st a w)(hB:Below w.heap.size w w')(hs:a'.tmps.size=a.tmps.size)(qH:a'.defers=a.defers){t:List (Nat × SV)}(ht:∀i,(ay t i).wf st.c=true)
  (A3:∀i,ay t i ≠ .any->a'.tmps[i]? = some ((ay t i).den U β)):Core W R Z U β {st with t:=t} a' w':=by
 refine⟨hs.trans hC.size,A3,qH.trans hC.kE,hC.below.trans hB,λk e hg=>(hC.mem k e hg).eK (hC.wf.eO hg) (Env.ao _ _) (λ_ _=>rfl) λb hb=>hB.block b ((hC.mem k e hg).wU b hb).2.1,hC.inj,λk e hg=>⟨(hC.fX k e hg).1, ?_⟩,hC.kt,λb hb=>⟨(hC.gQ b hb).1, ?_⟩,hC.dn,⟨ht,hC.wf.m,hC.wf.o,hC.wf.ap,hC.wf.r,hC.wf.d,hC.wf.k,hC.wf.df⟩,hC.kn⟩
 ·rw [hB.block _ (uV (hC.fX k e hg).2)];exact (hC.fX k e hg).2
 ·rw [hB.block _ (uV (hC.gQ b hb).2)];exact (hC.gQ b hb).2
structure nQ(P:Program)(W:eJ)(ops:Array Oper)(rem:List Nat)(listed:Array Bool)(st:St)(U:Env)(β:Nat->Nat)(a:Act)(p:gU):Prop where
 dst:∃o,ops[p.j]? = some o/\o.dst=p.dst
 out:p.j ∉ rem
 slot:∀d,p.dst=some d->d<st.n
 pre:∀j∈du ops p.j,j ∉ rem
 run:listed.getD p.j false=false->∃(o:Oper) (fB:St) (v:SV) (b:Bool),ops[p.j]? = some o/\fB.WF/\fB.c.le st.c/\cr.den fB.k U/\(∀d,p.dst=some d->ay st.t d=v)/\(∀c,o.op ≠ .defer c)/\dM ops U fB o b /\
  (∀d∈o.looksAt ops,(∀j oj,ops[j]? = some oj->oj.dst=some d->j∈du ops p.j->ay fB.t d=ay st.t d) /\
   ((∃j oj,ops[j]? = some oj/\oj.dst=some d/\j∈du ops p.j/\listed.getD j false=false)\/(ay fB.t d ≠ .any->a.tmps[d]? = some ((ay fB.t d).den U β)))) /\
  (b=false->v=.dX) /\
  (b=true->(∀J,Env.aC st.c U J->bK P W fB o v J)/\∀k∈bd fB o,k∈p.rd/\aM fB.m fB.o k=aM st.m st.o k) /\
  (∀q,p.ld=some q->∃t x,o.op=.load t x/\fB.ev x=.cv (.one (.loc q.1 q.2.1))/\aQ P t=some (q.2.2.1,q.2.2.2))
structure rB(P:Program)(W:eJ)(R:Nat->Loop)(Z:List Nat)(ops:Array Oper)(rem:List Nat)(st:St)(L:List gU)(U:Env)(listed:Array Bool)(β:Nat->Nat)(a:Act)(w:World):Prop where
 size:listed.size=ops.size
 Ee:∀j o,ops[j]? = some o->listed.getD j false=true->∀e∈o.after,Region.binds .any e=true->listed.getD e.on false=true
 uL:∀j,listed.getD j false=true->j ∉ rem
 Gf:∀j,j<ops.size->j ∉ rem->listed.getD j false=true\/∃p∈L,p.j=j
 zK:∀p∈L,nQ P W ops rem listed st U β a p
 tw:∀i,(ay st.t i).wf st.c=true
 core:Core W R Z U β {st with t:=cn st.t (L.filter λp => !listed.getD p.j false)} a w
theorem Ef{ops:Array Oper}{i j:Nat}{o:Oper}(ho:ops[i]? = some o):j∈du ops i↔∃e∈o.after,Region.binds .any e=true/\e.on=j:=by
 unfold du;rw [ho];simp only [List.mem_map,List.mem_filter];constructor
 ·rintro ⟨e,⟨h1,h2⟩,rfl⟩;exact⟨e,Array.mem_toList_iff.1 h1,h2,rfl⟩
 ·rintro ⟨e,h1,h2,rfl⟩;exact⟨e,⟨Array.mem_toList_iff.2 h1,h2⟩,rfl⟩
theorem UA{ops:Array Oper}{i j:Nat}(h:direct ops i j=true):j∈du ops i:=by
  unfold direct at h;cases ho:ops[i]? with
  |none=>rw [ho]at h;cases h
  |some o =>
    rw [ho]at h;simp only [Array.any_eq_true',Bool.and_eq_true,decide_eq_true_eq]at h;obtain⟨e,he,hb,rfl⟩:=h;exact (Ef ho).2 ⟨e,he,hb,rfl⟩
theorem Nr{ops:Array Oper}(hd:dZ ops=true){i j d:Nat}{o p:Oper}(ho:ops[i]? = some o)(hp:ops[j]? = some p)(tn:p.dst=some d)(hl:d∈o.looksAt ops):j∈du ops i\/i∈du ops j:=by
 rcases ((zz hd ho).2 j p hp d tn).2 hl with ⟨_,h⟩|⟨_,h⟩
 ·exact .inl (UA h)
 ·exact .inr (UA h)
theorem Ns{ops:Array Oper}(hd:dZ ops=true){i j d:Nat}{o p:Oper}(ho:ops[i]? = some o)(hp:ops[j]? = some p)(pU:o.dst=some d)(tn:p.dst=some d):i=j :=
 ((zz hd ho).2 j p hp d tn).1.resolve_right λh=>h pU
theorem Nt{ops:Array Oper}{o:Oper}{fB:St}{U:Env}{β:Nat->Nat}{a:Act}(gV:cr.den fB.k U)(h:∀d∈o.looksAt ops,ay fB.t d ≠ .any->a.tmps[d]? = some ((ay fB.t d).den U β)):dV fB o U β a:=by
  intro x hx hn;cases x with
  |tmp t =>
    have:=h t (by
      simp only [Oper.looksAt,List.mem_append];exact .inl (List.mem_filterMap.2 ⟨.tmp t,Array.mem_toList_iff.2 hx,rfl⟩)) hn
    show a.tmps.getD t undef=_;rw [Array.getD_eq_getD_getElem?,this,Option.getD_some];rfl
  |const v=>exact ((SV.cM v fB.c U β).2 hn).symm
  |global g=>exact LI gV hn β
  |func f=>rfl
theorem UB{ops:Array Oper}{o:Oper}{fB:St}{U:Env}{β:Nat->Nat}{a:Act}{b:Bool}(hb:dM ops U fB o b)(h:∀d∈o.looksAt ops,ay fB.t d ≠ .any->a.tmps[d]? = some ((ay fB.t d).den U β)):Region.wanted o (yielded ops a.tmps)=b:=by
  unfold dM at hb;cases hg:o.guard with
  |none=>rw [hg]at hb;simp only at hb;subst hb;simp [Region.wanted,hg]
  |some jw =>
    obtain⟨j,want⟩:=jw;rw [hg]at hb;obtain⟨x,hx,hb⟩:=hb
    have jF:x∈o.looksAt ops:=by
      simp only [Oper.looksAt,hg,List.mem_append];exact .inr (by simp [hx])
    rcases hb with ⟨e,he,hb⟩|⟨he,rfl⟩
    · have:=h x jF (by rw [he];simp)
      rw [he]at this;have hy:=Mt (b:=e.den U) hx this;simp only [Region.wanted,hg,hy];exact hb
    · have:=h x jF (by rw [he];simp)
      rw [he]at this;have hy:=Mu hx this;simp [Region.wanted,hg,hy]
theorem UC{ops:Array Oper}(hd:dZ ops=true){rem:List Nat}{st:St}{L:List gU}{U:Env}{listed:Array Bool}{β:Nat->Nat}{a:Act}{w:World}(inv:rB P W R Z ops rem st L U listed β a w){p:gU}(hp:p∈L)
    (gA:listed.getD p.j false=false) (hr:∀j∈du ops p.j,listed.getD j false=true) {r:Option Nat} {mm:Nat} {Q':Exit->Act->World->Prop} {K:Act->World->Prop}
    (hK:∀a' w',rB P W R Z ops rem st L U (listed.setIfInBounds p.j true) β a' w'->K a' w'):wpOpIn (Fr r) mm P ops Q' p.j K a w:=by
  have fp:=inv.zK p hp;obtain⟨o,fB,v,b,ho,wfp,clp,XR,hv,nd,hw,hl,ff,iQ,_⟩:=fp.run gA;have pU:o.dst=p.dst:=by obtain⟨o',h1,h2⟩:=fp.dst;rw [ho]at h1;cases h1;exact h2
  have Gg:p.j<ops.size:=(Array.getElem?_eq_some_iff.1 ho).1;have xq:p.j<listed.size:=by rw [inv.size];exact Gg
  have now:∀d∈o.looksAt ops,ay fB.t d ≠ .any->a.tmps[d]? = some ((ay fB.t d).den U β):=λd r_ hn=>by
    rcases (hl d r_).2 with ⟨j,oj,_,_,h3,h4⟩|h
    · rw [hr j h3]at h4;cases h4
    · exact h hn
  have i_:∀d,o.dst=some d->d<a.tmps.size:=λd qI=>by rw [inv.core.size];exact fp.slot d (by rw [<-pU];exact qI)
  have tp:∀j,(listed.setIfInBounds p.j true).getD j false=if p.j=j then true else listed.getD j false:=λj=>AY listed p.j j xq
  have next:∀(val:Value) (w':World),(v ≠ .any->val=v.den U β)->Below w.heap.size w w'->K (a.put o.dst val) w':=by
    intro val w' jE hB;refine hK _ _ ⟨by simp [inv.size],λj oj hj lP e he hb => ?_,λj lP => ?_,λj hj CJ => ?_,λq hq => ?_,inv.tw, ?_⟩
    · rw [tp]at lP ⊢;by_cases ue:p.j=e.on
      · rw [if_pos ue]
      · rw [if_neg ue];by_cases oI:p.j=j
        · subst oI;rw [ho]at hj;cases hj;exact hr e.on ((Ef ho).2 ⟨e,he,hb,rfl⟩)
        · rw [if_neg oI]at lP;exact inv.Ee j oj hj lP e he hb
    · rw [tp]at lP;by_cases oI:p.j=j
      · subst oI;exact fp.out
      · rw [if_neg oI]at lP;exact inv.uL j lP
    · rw [tp];by_cases oI:p.j=j
      · rw [if_pos oI];exact .inl rfl
      · rw [if_neg oI];exact inv.Gf j hj CJ
    · have fq:=inv.zK q hq;refine⟨fq.dst,fq.out,fq.slot,fq.pre,λCL => ?_⟩;rw [tp]at CL;have dt:p.j≠q.j:=λe=>by rw [if_pos e]at CL;cases CL
      rw [if_neg dt]at CL;obtain⟨o2,XS,v2,b2,g1,g2,g3,g4,g5,g6,g7,g8,g9,g10,g11⟩:=fq.run CL;refine⟨o2,XS,v2,b2,g1,g2,g3,g4,g5,g6,g7,λd r_=>⟨(g8 d r_).1, ?_⟩,g9,g10,g11⟩;by_cases tn:o.dst=some d
      ·
        rcases Nr hd g1 ho tn r_ with h|h
        · right;intro hn;rw [Jo a o.dst val d i_,if_pos tn];have e1:=(g8 d r_).1 p.j o ho tn h;have e2:=hv d (by rw [<-pU];exact tn);rw [e1,e2]at hn ⊢;rw [jE hn]
        · rw [hr q.j h]at CL;cases CL
      · rcases (g8 d r_).2 with ⟨j,oj,h1,h2,h3,h4⟩|h
        · left;have oI:p.j≠j:=λe=>by subst e;rw [ho]at h1;cases h1;exact tn h2
          exact⟨j,oj,h1,h2,h3,by rw [tp,if_neg oI];exact h4⟩
        · right;intro hn;rw [Jo a o.dst val d i_,if_neg tn];exact h hn
    · refine Nq (st := {st with t:=cn st.t (L.filter λp => !listed.getD p.j false)}) inv.core hB (Jp _ _ _) (Uz _ _ _) (λi => ?_) λi hn => ?_
      · rcases xp st.t (L.filter λq => !(listed.setIfInBounds p.j true).getD q.j false) i with h|⟨h,_⟩
        · rw [h];rfl
        · rw [h];exact inv.tw i
      · rcases xp st.t (L.filter λq => !(listed.setIfInBounds p.j true).getD q.j false) i with h|⟨h,h2⟩
        · exact (hn h).elim
        · rw [h]at hn ⊢;rw [Jo a o.dst val i i_];by_cases tn:o.dst=some i
          · rw [if_pos tn];have e2:=hv i (by rw [<-pU];exact tn);rw [e2]at hn ⊢;rw [jE hn]
          · rw [if_neg tn]
            have e3:ay (cn st.t (L.filter λq => !listed.getD q.j false)) i=ay st.t i:=Ed _ _ _ λq hq=>by
              simp only [List.mem_filter,Bool.not_eq_true']at hq;by_cases UD:p.j=q.j
              · obtain⟨oq,q1,q2⟩:=(inv.zK q hq.1).dst;rw [<-UD,ho]at q1;cases q1;rw [<-q2];exact tn
              · exact h2 q (List.mem_filter.2 ⟨hq.1,by rw [tp,if_neg UD,hq.2];rfl⟩)
            have:=inv.core.tmps i (by show ay (cn st.t _) i ≠ .any;rw [e3];exact hn)
            rw [this];show some ((ay (cn st.t _) i).den U β)=_;rw [e3]
  unfold wpOpIn;simp only [ho];rw [UB hw now];cases b with
  |false =>
    simp only [Bool.false_eq_true,if_false];refine⟨λf _=>u_ r f,next undef w (λ_ => ?_) (Below.refl _ _)⟩;rw [ff rfl];rfl
  |true =>
    simp only [if_true];obtain⟨h1,h2⟩:=iQ rfl;refine w6 r mm nd (h1 U (Env.ao _ _) β a w inv.core.below (Nt XR now) (λk hk e hg => ?_) K Q' λval w' jE hB=>next val w' jE hB);rw [(h2 k hk).2]at hg;exact inv.core.mem k e hg
def Shape(o:Oper)(a a':Act):Prop:=a'.tmps.size=a.tmps.size/\∀d,o.dst≠some d->a'.tmps[d]? = a.tmps[d]?
theorem Gh(o:Oper)(a:Act)(v:Value):Shape o a (a.put o.dst v):=by
 refine⟨Jp _ _ _,λd hd => ?_⟩;cases ho:o.dst with
 |none=>rfl
 |some x=>simp only [Act.put];exact Array.getElem?_setIfInBounds_ne (λe=>hd (by rw [ho,e]))
theorem Nu(o:Oper)(a:Act)(d:Deferred)(v:Value):Shape o a (({a with defers:=d::a.defers}:Act).put o.dst v):=by
 refine⟨by rw [Jp],λd hd => ?_⟩;cases ho:o.dst with
 |none=>rfl
 |some x=>simp only [Act.put];exact Array.getElem?_setIfInBounds_ne (λe=>hd (by rw [ho,e]))
theorem Nv{F:Fence}{n:Nat}{o:Oper}{a:Act}{w:World}{K:Act->World->Prop}{Q':Exit->Act->World->Prop}(hh:o.wpIn F n P a w (λa' w'=>Shape o a a'->K a' w') Q'):o.wpIn F n P a w K Q':=by
  unfold Oper.wpIn at *;refine⟨hh.1, ?_⟩;have hh:=hh.2;generalize (o.semAt F.round a.eval).run P w=r at *;cases r with
  |ok x w' =>
    cases x<;>simp only [Oper.uponIn]at hh ⊢ <;>
      first
        |exact hh (Gh o a _)
        |exact hh (Nu o a _ _)
        |exact⟨hh.1,CallsIn.mono hh.2 (λe CM he=>by cases e<;>first|exact he (Gh o a _)|exact he)⟩
        |exact⟨hh.1,RowsIn.mono hh.2 (λ_ _ he=>he (Gh o a _))⟩
        |exact⟨hh.1,RoundIn.mono hh.2 (λe CM he=>by cases e<;>first|exact he (Gh o a _)|exact he)⟩
  |halt x w'=>cases x<;>simp only [Oper.uponIn]at hh ⊢<;>exact hh
theorem dM.aC{ops:Array Oper}{o:Oper}{fB:St}{U ag:Env}{b:Bool}(wf:fB.WF)(hl:Env.aC fB.c U ag)(h:dM ops U fB o b):dM ops ag fB o b:=by
 unfold dM at *;split
 ·rename_i hg;rw [hg]at h;exact h
 ·rename_i j want hg;rw [hg]at h;obtain⟨x,hx,h⟩:=h;refine⟨x,hx,h.imp (fun⟨e,he,hb⟩=>⟨e,he, ?_⟩) id⟩;have we:e.wf fB.c=true:=by have:=wf.t x;rw [he]at this;exact this
  rw [BE.aa hl we];exact hb
theorem Env.uk{c d:ar}{U ag:Env}(hc:c.le d)(h:Env.aC d U ag):Env.aC c U ag:=Env.aj hc (Env.ao _ _) h
theorem nQ.move{ops:Array Oper}{rem xr:List Nat}{listed fH:Array Bool}{st ib:St}{U ag:Env}{β an:Nat->Nat}{a a':Act}{p:gU}(f:nQ P W ops rem listed st U β a p)(hc:st.c.le ib.c)(hl:Env.aC st.c U ag)(hb:∀k,k<st.c.nk->an k=β k)(hn:ib.n=st.n)
  (xu:∀j∈xr,j∈rem) (gA:fH.getD p.j false=false->listed.getD p.j false=false) (jZ:∀d,p.dst=some d->ay ib.t d=ay st.t d)
  (ht:∀d j oj,ops[j]? = some oj->oj.dst=some d->j∈du ops p.j->ay ib.t d=ay st.t d) (xv:∀j,listed.getD j false=false->j∈du ops p.j->fH.getD j false=false)
  (A3:fH.getD p.j false=false->∀d o,ops[p.j]? = some o->d∈o.looksAt ops->a'.tmps[d]? = a.tmps[d]?) (hm:fH.getD p.j false=false->∀k∈p.rd,aM ib.m ib.o k=aM st.m st.o k):nQ P W ops xr fH ib ag an a' p:=by
 refine⟨f.dst,λh=>f.out (xu _ h),λd hd=>by rw [hn];exact f.slot d hd,λj hj h=>f.pre j hj (xu _ h),λhu => ?_⟩;obtain⟨o,fB,v,b,g1,g2,g3,g4,g5,g6,g7,g8,g9,g10,g11⟩:=f.run (gA hu);have gj:Env.aC fB.c U ag:=Env.uk g3 hl;refine⟨o,fB,v,b,g1,g2,ar.le_trans g3 hc,cr.aa gj g2.k g4,λd hd=>by rw [jZ d hd];exact g5 d hd,g6,g7.aC g2 gj,λd r_=>⟨λj oj h1 h2 h3=>by rw [ht d j oj h1 h2 h3];exact (g8 d r_).1 j oj h1 h2 h3, ?_⟩,g9,λiQ => ?_,g11⟩
 ·rcases (g8 d r_).2 with ⟨j,oj,h1,h2,h3,h4⟩|h
  ·exact .inl ⟨j,oj,h1,h2,h3,xv j h4 h3⟩
  ·right;intro dt;rw [A3 hu d o g1 r_,h dt,SV.aa gj (λk hk=>hb k (Nat.lt_of_lt_of_le hk g3.k)) (g2.t d)]
 ·obtain⟨q1,q2⟩:=g10 iQ;refine⟨λJ h=>q1 J (Env.aj hc hl h),λk hk=>⟨(q2 k hk).1, ?_⟩⟩;rw [hm hu k (q2 k hk).1];exact (q2 k hk).2
theorem Nw{st:St}{o:Oper}{t:TypeId}{x:Operand}{q:Nat × Nat × Bool × Nat}{cs:List At}{ty:TypeId}{u:CV}{U:Env}(wf:st.WF)(hk:cr.den st.k U)(ho:o.op=.load t x)(hx:st.ev x=.cv (.one (.loc q.1 q.2.1)))(hz:aQ P t=some (q.2.2.1,q.2.2.2))(hm:getM st.m q.1=some (cs,ty))(hu:wE q cs=some u):bK P W st o (.cv u) U:=by
  obtain⟨v,c',ag,h1,h2,h3,h4⟩:=LA (G:=⟨P,[],[],[],[],[],[],[]⟩) (W:=W) (Q:=λ_=>False) (QM:=λ_ _=>False) (QP:=λ_ _=>False) (K:=λv' c' _=>v'=.cv u/\c'=st.c) (U:=U) ⟨λf hf _ _=>absurd hf (by simp),λf hf _ _=>absurd hf (by simp),λe he=>absurd he (by simp)⟩ wf hk (by
    unfold wq;rw [ho];simp only [hx,k7,nc,hz,hm];unfold wE at hu;by_cases hg:q.2.2.1=true
    · rw [if_pos hg]at hu;simp only [hg,if_true];split at hu
      · rename_i hle;rw [if_pos hle];cases hu
        first|exact⟨rfl,rfl⟩|exact⟨rfl,trivial⟩
      · cases hu
    · rw [if_neg hg]at hu;simp only [hg,if_false];cases hc:cs[q.2.1]? with
      |none=>rw [hc]at hu;cases hu
      |some a =>
        rw [hc]at hu;cases hu
        first|exact⟨rfl,rfl⟩|exact⟨rfl,trivial⟩)
  obtain⟨rfl,rfl⟩:=h1;exact h4 U ⟨λi hi=>(h3.i i hi).symm,λi hi=>(h3.b i hi).symm,λi hi=>(h3.v i hi).symm,λi hi=>(h3.p i hi).symm,λi hi=>(h3.s i hi).symm,λi hi=>(h3.l i hi).symm⟩
theorem Nx{st:St}{o:Oper}{q:Nat × Nat × Bool × Nat}(h:yP P st o=some q):∃t x,o.op=.load t x/\st.ev x=.cv (.one (.loc q.1 q.2.1))/\aQ P t=some (q.2.2.1,q.2.2.2):=by
 unfold yP at h;split at h
 ·rename_i t x ho;split at h
  ·rename_i g n k off h1 h2;cases h;exact⟨t,x,ho,h2,h1⟩
  ·cases h
 ·cases h
theorem nQ.CN{ops:Array Oper}{rem xr:List Nat}{listed fH:Array Bool}{st ib:St}{U ag:Env}{β an:Nat->Nat}{a a':Act}{p:gU}(f:nQ P W ops rem listed st U β a p)(hc:st.c.le ib.c)(hl:Env.aC st.c U ag)(hb:∀k,k<st.c.nk->an k=β k)(hn:ib.n=st.n)
  (xu:∀j∈xr,j∈rem) (gA:fH.getD p.j false=false->listed.getD p.j false=false) (jZ:∀d,p.dst=some d->ay ib.t d=ay st.t d)
  (ht:∀d j oj,ops[j]? = some oj->oj.dst=some d->j∈du ops p.j->ay ib.t d=ay st.t d) (xv:∀j,listed.getD j false=false->j∈du ops p.j->fH.getD j false=false)
  (A3:fH.getD p.j false=false->∀d o,ops[p.j]? = some o->d∈o.looksAt ops->a'.tmps[d]? = a.tmps[d]?) (hm:yQ st.t ib.m p=true) (ja:ib.WF) (gV:cr.den ib.k ag):nQ P W ops xr fH ib ag an a' p:=by
 refine⟨f.dst,λh=>f.out (xu _ h),λd hd=>by rw [hn];exact f.slot d hd,λj hj h=>f.pre j hj (xu _ h),λhu => ?_⟩;obtain⟨o,fB,v,b,g1,g2,g3,g4,g5,g6,g7,g8,g9,g10,g11⟩:=f.run (gA hu);have gj:Env.aC fB.c U ag:=Env.uk g3 hl;have hle:fB.c.le ib.c:=ar.le_trans g3 hc;unfold yQ at hm;split at hm;rotate_left
 ·cases hm
 rename_i q d hq hd;split at hm;rotate_left
 ·cases hm
 rename_i cs ty u pP XT;have XU:=of_decide_eq_true hm;obtain⟨t,x,e1,e2,e3⟩:=g11 q hq;have hv:v=.cv u:=by rw [<-g5 d hd,XT]
 have UE:({ib with t:=fB.t}:St).WF:=⟨λi=>SV.aU hle (g2.t i),ja.m,ja.o,ja.ap,ja.r,ja.d,ja.k,ja.df⟩
 have XV:∀y,fB.ev x=y->y ≠ .any->(∀g,x ≠ .global g)->({ib with t:=fB.t}:St).ev x=y:=λy hy _ hg=>by
  cases x with
  |tmp s=>exact hy
  |const s=>exact hy
  |func s=>exact hy
  |global g=>exact (hg g rfl).elim
 have zA:({ib with t:=fB.t}:St).ev x=.cv (.one (.loc q.1 q.2.1)):=XV _ e2 (by simp) λg hg=>by
  subst hg;simp only [St.ev]at e2;split at e2<;>cases e2
 have d_:bd ({ib with t:=fB.t}:St) o=bd fB o:=by
  unfold bd;rw [e1];simp only [zA,e2]
 refine⟨o,{ib with t:=fB.t},v,b,g1,UE,ar.le_refl _,gV,λd hd=>by rw [jZ d hd];exact g5 d hd,g6, ?_,λd r_=>⟨λj oj h1 h2 h3=>by rw [ht d j oj h1 h2 h3];exact (g8 d r_).1 j oj h1 h2 h3, ?_⟩,g9,λiQ=>⟨λJ h => ?_,λk hk=>⟨?_,rfl⟩⟩,λq' UF => ?_⟩
 ·have:=g7.aC g2 gj
  unfold dM at this ⊢;exact this
 ·rcases (g8 d r_).2 with ⟨j,oj,h1,h2,h3,h4⟩|h
  ·exact .inl ⟨j,oj,h1,h2,h3,xv j h4 h3⟩
  ·right;intro dt;have dt:ay fB.t d ≠ .any:=dt;show _=some ((ay fB.t d).den ag an);rw [A3 hu d o g1 r_,h dt,SV.aa gj (λk hk=>hb k (Nat.lt_of_lt_of_le hk g3.k)) (g2.t d)]
 ·rw [hv];exact Nw (ty:=ty) UE (cr.aa h ja.k gV) e1 zA e3 pP XU
 ·rw [d_]at hk;exact ((g10 iQ).2 k hk).1
 ·rw [hq]at UF;cases UF;exact⟨t,x,e1,zA,e3⟩
theorem UG{ops:Array Oper}{listed:Array Bool}(ju:∀ j o,ops[j]? = some o->listed.getD j false=true->∀ e∈o.after,Region.binds .any e=true->listed.getD e.on false=true) :
    ∀(n:Nat) (acc:List Nat),(∀j∈acc,listed.getD j false=true)->∀j∈tR ops n acc,listed.getD j false=true
  |0,acc,h=>h
  |n+1,acc,h=>by
    unfold tR;refine UG ju n _ λj hj => ?_;split at hj
    · rename_i hn;rcases F7 _ _ hj with hj|hj
      · exact h j hj
      · have XW:=h n (List.contains_iff_mem.1 hn);cases ho:ops[n]? with
        |none=>unfold du at hj;rw [ho]at hj;cases hj
        |some o =>
          obtain⟨e,he,hb,rfl⟩:=(Ef ho).1 hj;exact ju n o ho XW e he hb
    · exact h j hj
theorem Ny{ops:Array Oper}{listed:Array Bool}(ju:∀j o,ops[j]? = some o->listed.getD j false=true->∀e∈o.after,Region.binds .any e=true->listed.getD e.on false=true){i:Nat}(hr:∀j∈du ops i,listed.getD j false=true):∀j∈before ops i,listed.getD j false=true:=by
 unfold before;refine UG ju i _ λj hj => ?_;rcases F7 _ _ hj with h|h
 ·cases h
 ·exact hr j h
theorem UH{ops:Array Oper}(hd:dZ ops=true){i:Nat}{r:List Nat}{st:St}{L:List gU}{U:Env}{listed:Array Bool}{β:Nat->Nat}{a:Act}{w:World}(inv:rB P W R Z ops (i::r) st L U listed β a w){o:Oper}(ho:ops[i]? = some o)(ru:i ∉ r)(xw:∀j∈du ops i,j ∉ i::r)
  (hr:∀j∈du ops i,listed.getD j false=true) (jZ:re st.n o.dst=true) {s:St} {aB:Env} {bB:Nat->Nat} {a2:Act} {w2:World} (hC:Core W R Z aB bB s a2 w2) (hc:st.c.le s.c) (hl:Env.aC st.c U aB) (hb:∀k,k<st.c.nk->bB k=β k) (gW:Shape o a a2)
  (gm:∀p∈L.filter (λp => !(before ops i).contains p.j),(∀k∈p.rd,aM s.m s.o k=aM st.m st.o k)\/yQ st.t s.m p=true) :
  rB P W R Z ops r {s with t:=eI st.t o.dst (match o.dst with|some d=>ay s.t d|none=>.any),n:=st.n} (L.filter λp => !(before ops i).contains p.j) aB (listed.setIfInBounds i true) bB a2 w2:=by
 have yz:i<ops.size:=(Array.getElem?_eq_some_iff.1 ho).1;have tm:i<listed.size:=by rw [inv.size];exact yz
 have tp:∀j,(listed.setIfInBounds i true).getD j false=if i=j then true else listed.getD j false:=λj=>AY listed i j tm
 have Gi:listed.getD i false=false:=by
  cases h:listed.getD i false with
  |false=>rfl
  |true=>exact (inv.uL i h (by simp)).elim
 have zL:∀d,ay (eI st.t o.dst (match o.dst with|some d=>ay s.t d|none=>.any)) d=if o.dst=some d then ay s.t d else ay st.t d:=λd=>by
  rw [yA];by_cases h:o.dst=some d
  ·rw [if_pos h,if_pos h,h]
  ·rw [if_neg h,if_neg h]
 refine⟨by simp [inv.size],λj oj hj lP e he gy => ?_,λj lP => ?_,λj hj CJ => ?_,λq hq => ?_,λd => ?_, ?_⟩
 ·rw [tp]at lP ⊢;by_cases h1:i=e.on
  ·rw [if_pos h1]
  ·rw [if_neg h1];by_cases h2:i=j
   ·subst h2;rw [ho]at hj;cases hj;exact hr e.on ((Ef ho).2 ⟨e,he,gy,rfl⟩)
   ·rw [if_neg h2]at lP;exact inv.Ee j oj hj lP e he gy
 ·rw [tp]at lP;by_cases h:i=j
  ·subst h;exact ru
  ·rw [if_neg h]at lP;exact λh2=>inv.uL j lP (List.mem_cons_of_mem _ h2)
 ·rw [tp];by_cases h:i=j
  ·rw [if_pos h];exact .inl rfl
  ·rw [if_neg h];rcases inv.Gf j hj (λh2=>(List.mem_cons.1 h2).elim (λe=>h e.symm) CJ)with h3|⟨p,hp,oI⟩
   ·exact .inl h3
   ·by_cases yB:p.j∈before ops i
    ·left;rw [<-oI];exact Ny inv.Ee hr _ yB
    ·exact .inr ⟨p,List.mem_filter.2 ⟨hp,by simpa using yB⟩,oI⟩
 ·have XX:q∈L:=(List.mem_filter.1 hq).1;have fq:=inv.zK q XX;have dt:i≠q.j:=λe=>fq.out (by rw [<-e];simp)
  have rC:∀d j oj,ops[j]? = some oj->oj.dst=some d->(j=q.j\/j∈du ops q.j)->o.dst≠some d:=λd j oj h1 h2 h3 h4=>by
   have:=Ns hd ho h1 h4 h2
   subst this;rcases h3 with h3|h3
   ·exact dt h3
   ·exact fq.pre i h3 (by simp)
  have m1:∀d,q.dst=some d->ay (eI st.t o.dst (match o.dst with|some d=>ay s.t d|none=>.any)) d=ay st.t d:=λd qI=>by
   obtain⟨oq,e1,e2⟩:=fq.dst;rw [zL,if_neg (rC d q.j oq e1 (by rw [e2,qI]) (.inl rfl))]
  have m2:∀d j oj,ops[j]? = some oj->oj.dst=some d->j∈du ops q.j->ay (eI st.t o.dst (match o.dst with|some d=>ay s.t d|none=>.any)) d=ay st.t d:=λd j oj h1 h2 h3=>by
   rw [zL,if_neg (rC d j oj h1 h2 (.inr h3))]
  have m3:∀j,listed.getD j false=false->j∈du ops q.j->(listed.setIfInBounds i true).getD j false=false:=λj h1 h2=>by
   have:i≠j:=λe=>fq.pre j h2 (by rw [<-e];simp)
   rw [tp,if_neg this];exact h1
  have m4:(listed.setIfInBounds i true).getD q.j false=false->∀d o',ops[q.j]? = some o'->d∈o'.looksAt ops->a2.tmps[d]? = a.tmps[d]? := λh d oq h1 h2=>by
   refine gW.2 d λpU => ?_;rcases Nr hd h1 ho pU h2 with h3|h3
   ·exact fq.pre i h3 (by simp)
   ·rw [tp,if_neg dt]at h;rw [hr q.j h3]at h;cases h
  rcases gm q hq with xx|xx
  ·exact fq.move hc hl hb rfl (λj hj=>List.mem_cons_of_mem _ hj) (λh=>by rw [tp,if_neg dt]at h;exact h) m1 m2 m3 m4 λh k hk=>xx k hk
  ·refine fq.CN hc hl hb rfl (λj hj=>List.mem_cons_of_mem _ hj) (λh=>by rw [tp,if_neg dt]at h;exact h) m1 m2 m3 m4 xx ⟨λd => ?_,hC.wf.m,hC.wf.o,hC.wf.ap,hC.wf.r,hC.wf.d,hC.wf.k,hC.wf.df⟩ hC.kn;show (ay (eI _ _ _) d).wf s.c=true;rw [zL];split
   ·exact hC.wf.t d
   ·exact SV.aU hc (inv.tw d)
 ·show (ay (eI _ _ _) d).wf s.c=true;rw [zL];split
  ·exact hC.wf.t d
  ·exact SV.aU hc (inv.tw d)
 ·have mc:a2.tmps.size=st.n:=by rw [gW.1];exact inv.core.size
  refine⟨mc,λd hn => ?_,hC.kE,hC.below,hC.mem,hC.inj,hC.fX,hC.kt,hC.gQ,hC.dn,⟨λd => ?_,hC.wf.m,hC.wf.o,hC.wf.ap,hC.wf.r,hC.wf.d,hC.wf.k,hC.wf.df⟩,hC.kn⟩
  ·rcases xp (eI st.t o.dst (match o.dst with|some d=>ay s.t d|none=>.any)) ((L.filter λp => !(before ops i).contains p.j).filter λp => !(listed.setIfInBounds i true).getD p.j false) d with h|⟨h,h2⟩
   ·exact (hn h).elim
   ·have lO:ay (eI st.t o.dst (match o.dst with|some d=>ay s.t d|none=>.any)) d ≠ .any:=by rw [<-h];exact hn
    show _=some ((ay (cn _ _) d).den aB bB);rw [h];rw [zL]at lO ⊢;by_cases pU:o.dst=some d
    ·rw [if_pos pU]at lO ⊢;exact hC.tmps d lO
    ·rw [if_neg pU]at lO ⊢;rw [gW.2 d pU]
     have e3:ay (cn st.t (L.filter λq => !listed.getD q.j false)) d=ay st.t d:=Ed _ _ _ λq hq=>by
      simp only [List.mem_filter,Bool.not_eq_true']at hq;have XY:i≠q.j:=λe=>(inv.zK q hq.1).out (by rw [<-e];simp)
      have yB:q.j ∉ before ops i:=λyB=>by
       have:=Ny inv.Ee hr _ yB
       rw [this]at hq;cases hq.2
      exact h2 q (List.mem_filter.2 ⟨List.mem_filter.2 ⟨hq.1,by simpa using yB⟩,by rw [tp,if_neg XY,hq.2];rfl⟩)
     have h5:=inv.core.tmps d (by show ay (cn st.t _) d ≠ .any;rw [e3];exact lO);rw [h5];show some ((ay (cn st.t _) d).den U β)=_;rw [e3,SV.aa hl hb (inv.tw d)]
  ·show (ay (cn _ _) d).wf s.c=true;rcases xp (eI st.t o.dst (match o.dst with|some d=>ay s.t d|none=>.any)) ((L.filter λp => !(before ops i).contains p.j).filter λp => !(listed.setIfInBounds i true).getD p.j false) d with h|⟨h,_⟩
   ·rw [h];rfl
   ·rw [h,zL];split
    ·exact hC.wf.t d
    ·exact SV.aU hc (inv.tw d)
def uo(F:Kf)(c:ar)(U:Env):Prop:=∀x∈F,x.1.wf c=true/\x.1.den U=x.2
theorem uo.mono{F:Kf}{c c':ar}{U ag:Env}(h:uo F c U)(hc:c.le c')(hl:Env.aC c U ag):uo F c' ag:=λx hx=>⟨BE.aU hc (h x hx).1,(BE.aa hl (h x hx).1).trans (h x hx).2⟩
theorem uo.look{F:Kf}{c:ar}{U:Env}(h:uo F c U){e:BE}{b:Bool}(he:F.lookup e=some b):e.den U=b:=by
  induction F with
  |nil=>cases he
  |cons x r ih =>
    rw [List.lookup_cons]at he;split at he
    · rename_i hq
      have:e=x.1:=by simpa using hq
      cases he;rw [this];exact (h x (by simp)).2
    · exact ih (λy hy=>h y (by simp [hy])) he
theorem UI{F:Kf}{c:ar}{e:BE}{t f:Kf->Env->Prop}{U:Env}(hF:uo F c U)(hw:e.wf c=true)(h:mN (PA P W Q QM QP) F e t f U):∃F',uo F' c U/\((e.den U=true/\t F' U)\/(e.den U=false/\f F' U)):=by
  unfold mN at h;cases he:F.lookup e with
  |some b =>
    rw [he]at h
    have:=hF.look he
    cases b with
    |true=>exact⟨F,hF,.inl ⟨this,h⟩⟩
    |false=>exact⟨F,hF,.inr ⟨this,h⟩⟩
  |none =>
    rw [he]at h
    have cons:∀b,e.den U=b->uo ((e,b)::F) c U:=λb hb x hx=>by
      rcases List.mem_cons.1 hx with rfl|hx
      · exact⟨hw,hb⟩
      · exact hF x hx
    rcases zt h with ⟨h1,h2⟩|⟨h1,h2⟩
    · exact⟨_,cons _ h1,.inl ⟨h1,h2⟩⟩
    · exact⟨_,cons _ h1,.inr ⟨h1,h2⟩⟩
theorem UJ{ops:Array Oper}{st:St}{F:Kf}{o:Oper}{go no:Kf->Env->Prop}{U:Env}(hF:uo F st.c U)(Jq:∀ i,(ay st.t i).wf st.c=true)(h:mO (PA P W Q QM QP) F (guardOf ops st o) go no U) :
    ∃b F',uo F' st.c U/\dM ops U st o b/\(b=true->go F' U)/\(b=false->no F' U):=by
  unfold guardOf at h;cases hg:o.guard with
  |none =>
    rw [hg]at h;exact⟨true,F,hF,by unfold dM;rw [hg],λ_=>h,λe=>absurd e (by simp)⟩
  |some jw =>
    obtain⟨j,want⟩:=jw;rw [hg]at h;simp only at h;generalize hb:(ops[j]?).bind (·.dst)=u at h;cases u with
    |none=>exact h.elim
    |some d =>
      simp only at h;split at h;rotate_left
      · exact h.elim
      generalize hs:ay st.t d=sv at h;split at h
      · rename_i e;simp only [mO]at h;have wO:e.wf st.c=true:=by have:=Jq d;rw [hs]at this;exact this
        obtain⟨F',xz,⟨h1,h2⟩|⟨h1,h2⟩⟩:=UI hF wO h
        · refine⟨want,F',xz,by unfold dM;rw [hg];exact⟨d,hb,.inl ⟨e,hs,by rw [h1];cases want<;>rfl⟩⟩,λhw => ?_,λhw => ?_⟩
          · rw [if_pos hw]at h2;exact h2
          · rw [if_neg (by rw [hw];simp)]at h2;exact h2
        · refine⟨!want,F',xz,by unfold dM;rw [hg];exact⟨d,hb,.inl ⟨e,hs,by rw [h1];cases want<;>rfl⟩⟩,λhw => ?_,λhw => ?_⟩
          · rw [if_neg (by cases want<;>simp_all)]at h2;exact h2
          · rw [if_pos (by cases want<;>simp_all)]at h2;exact h2
      · exact⟨false,F,hF,by unfold dM;rw [hg];exact⟨d,hb,.inr ⟨hs,rfl⟩⟩,(λe=>absurd e (by simp)),λ_=>h⟩
      · exact h.elim
theorem Nz{G:bV}(hG:G.Ok){st:St}{o:Oper}{K:SV->ar->cr->Env->Prop}{U:Env}(wf:st.WF)(gV:cr.den st.k U)(h:Ix (PA G.P W Q QM QP) G st o K U) :
    ∃v c k ag,K v c k ag/\st.c.le c/\c.nk=st.c.nk/\Env.aC st.c U ag/\v.wf c=true/\cr.wf k c/\cr.den k ag/\∀J,Env.aC c ag J->bK G.P W st o v J:=by
  have val : wq (PA G.P W Q QM QP) G st o (λv c => if c.nk = st.c.nk /\ v.wf c = true then K v c st.k else (PA G.P W Q QM QP).fail "drawn: value") U ->
      ∃v c k ag,K v c k ag/\st.c.le c/\c.nk=st.c.nk/\Env.aC st.c U ag/\v.wf c=true/\cr.wf k c/\cr.den k ag/\∀J,Env.aC c ag J->bK G.P W st o v J:=by
    intro h;obtain⟨v,c,ag,h1,h2,h3,h4⟩:=LA hG wf gV h;split at h1
    · rename_i hc;exact⟨v,c,st.k,ag,h1,h2,hc.1,h3,hc.2,λz hz=>Kn.aU h2 (wf.k z hz),cr.aa h3 wf.k gV,h4⟩
    · exact h1.elim
  obtain⟨dst,op,type,pos,after,guard⟩:=o;unfold Ix at h;simp only [EJ]at h;cases op<;>first|exact val h|skip
  rename_i t x;simp only at h;generalize hu:G.P.underlying t=u1 at h;generalize hx:st.ev x=sx at h;split at h
  · exact h.elim
  · rename_i d v wR;split at h
    · rename_i hv;obtain⟨Ck,y7⟩:=hv;have h:=h ⟨.iface t (v.den U b0),rfl⟩ rfl;have hle:st.c.le {st.c with nv:=st.c.nv+1}:=zq st.c .vD;have dE:=ES st.c U ⟨.iface t (v.den U b0),rfl⟩
      have e0:∀J,Env.aC {st.c with nv:=st.c.nv+1} (U.ov st.c.nv ⟨.iface t (v.den U b0),rfl⟩) J->(J.v st.c.nv).1=.iface t (v.den J b0):=λJ hl=>by
        rw [hl.v st.c.nv (Nat.lt_succ_self _),CV.aa (Env.aj hle dE hl) (λ_ _=>rfl) y7];exact congrArg (λy:OV=>y.1) (if_pos rfl)
      refine⟨_,_,_,_,h,hle,rfl,dE,by simp [SV.wf,CV.wf,At.wf],λz hz => ?_,λz hz => ?_,λJ hl=>bK.run λβ a w hB bE hr=>⟨.iface t (v.den J β), ?_,λ_ => ?_⟩⟩
      · rcases List.mem_cons.1 hz with rfl|hz
        · simp only [Kn.wf,Bool.and_eq_true,decide_eq_true_eq];exact⟨Nat.lt_succ_self _,CV.aU hle y7,Ck⟩
        · exact Kn.aU hle (wf.k z hz)
      · rcases List.mem_cons.1 hz with rfl|hz
        · simp only [Kn.den];exact e0 _ (Env.ao _ _)
        · exact Kn.aa dE (wf.k z hz) (gV z hz)
      · have e1:=bE x (by simp [Op.operands]) (by rw [hx];simp);rw [hx]at e1;simp only [execOp,e1];refine zf _ w _ ?_
        cases d<;>first
          | (exact (wR _ rfl).elim)
          | (simp [Instr.makeInterface,run_underlying hu,SV.den])
      · show _=(J.v st.c.nv).1;rw [e0 J hl,CV.bC J β b0 Ck]
    · exact h.elim
  · exact h.elim
theorem NA{G:bV}(hG:G.Ok){st:St}{F:Kf}{o:Oper}{K:SV->ar->cr->Kf->Env->Prop}{U:Env}(wf:st.WF)(hF:uo F st.c U)(gV:cr.den st.k U)(h:B3 (PA G.P W Q QM QP) G st F o K U) :
  ∃v c k ag F',uo F' c ag/\K v c k F' ag/\st.c.le c/\c.nk=st.c.nk/\Env.aC st.c U ag/\v.wf c=true/\cr.wf k c/\cr.den k ag/\∀J,Env.aC c ag J->bK G.P W st o v J:=by
 have gen:Ix (PA G.P W Q QM QP) G st o (λv c k=>K v c k F) U->∃v c k ag F',uo F' c ag/\K v c k F' ag/\st.c.le c/\c.nk=st.c.nk/\Env.aC st.c U ag/\v.wf c=true/\cr.wf k c/\cr.den k ag/\∀J,Env.aC c ag J->bK G.P W st o v J:=by
  intro h;obtain⟨v,c,k,ag,g1,g2,g3,g4,g5⟩:=Nz hG wf gV h;exact⟨v,c,k,ag,F,hF.mono g2 g4,g1,g2,g3,g4,g5⟩
 obtain⟨dst,op,type,pos,after,guard⟩:=o;unfold B3 at h;cases op<;>first|exact gen h|skip
 rename_i x a b;simp only at h;generalize hx:st.ev x=sx at h;split at h;rotate_left
 ·exact h.elim
 rename_i e;have wO:e.wf st.c=true:=by have:=wf.ev x;rw [hx]at this;exact this
 have fin:∀(bb:Bool),e.den U=bb->∀J,Env.aC st.c U J->bK G.P W st ⟨dst,.pick x a b,type,pos,after,guard⟩ (st.ev (if bb=true then a else b)) J:=by
  intro bb hd J hl;refine bK.run λβ ac w hB ho hr=>⟨ac.eval (if bb=true then a else b), ?_,λhn=>ho _ (by cases bb<;>simp [Op.operands]) hn⟩;have hc:=ho x (by simp [Op.operands]) (by rw [hx];simp);rw [hx]at hc;simp only [SV.den,CV.den,At.den,BE.aa hl wO,hd]at hc;cases bb<;>simp [execOp,hc,asBool]
 obtain⟨F',xz,⟨h1,h2⟩|⟨h1,h2⟩⟩:=UI hF wO h
 ·exact⟨_,_,_,U,F',xz,h2,ar.le_refl _,rfl,Env.ao _ _,wf.ev a,wf.k,gV,fin true h1⟩
 ·exact⟨_,_,_,U,F',xz,h2,ar.le_refl _,rfl,Env.ao _ _,wf.ev b,wf.k,gV,fin false h1⟩
theorem UK{ops:Array Oper}(hd:dZ ops=true){i:Nat}{r:List Nat}{st:St}{L:List gU}{U:Env}{listed:Array Bool}{β:Nat->Nat}{a:Act}{w:World}(inv:rB P W R Z ops (i::r) st L U listed β a w){o:Oper}(ho:ops[i]? = some o)(ru:i ∉ r)(xw:∀j∈du ops i,j ∉ i::r)
  (jZ:re st.n o.dst=true) {v:SV} {c:ar} {k:cr} {ag:Env} {b:Bool} {rd:List Nat} {ld:Option (Nat × Nat × Bool × Nat)} (hc:st.c.le c) (hl:Env.aC st.c U ag) (hv:v.wf c=true) (vH:cr.wf k c) (jW:cr.den k ag) (nd:∀c,o.op ≠ .defer c) (hw:dM ops U st o b) (ff:b=false->v=.dX)
  (iQ:b=true->(∀J,Env.aC c ag J->bK P W st o v J)/\∀k∈bd st o,k∈rd) (Jr:∀q,ld=some q->∃t x,o.op=.load t x/\st.ev x=.cv (.one (.loc q.1 q.2.1))/\aQ P t=some (q.2.2.1,q.2.2.2)):rB P W R Z ops r {st with t:=eI st.t o.dst v,c:=c,k:=k} (⟨i,o.dst,rd,ld⟩::L) ag listed β a w:=by
 have tq:st.WF:=⟨inv.tw,inv.core.wf.m,inv.core.wf.o,inv.core.wf.ap,inv.core.wf.r,inv.core.wf.d,inv.core.wf.k,inv.core.wf.df⟩
 have Gi:listed.getD i false=false:=by
  cases h:listed.getD i false with
  |false=>rfl
  |true=>exact (inv.uL i h (by simp)).elim
 have dt:∀q∈L,i≠q.j:=λq hq e=>(inv.zK q hq).out (by rw [<-e];simp);refine⟨inv.size,inv.Ee,λj hj h=>inv.uL j hj (List.mem_cons_of_mem _ h),λj hj CJ => ?_,λq hq => ?_,λd => ?_, ?_⟩
 ·by_cases h:i=j
  ·exact .inr ⟨⟨i,o.dst,rd,ld⟩,by simp,h⟩
  ·rcases inv.Gf j hj (λh2=>(List.mem_cons.1 h2).elim (λe=>h e.symm) CJ)with h3|⟨p,hp,oI⟩
   ·exact .inl h3
   ·exact .inr ⟨p,List.mem_cons_of_mem _ hp,oI⟩
 ·rcases List.mem_cons.1 hq with rfl|hq
  ·refine⟨⟨o,ho,rfl⟩,ru,λd qI => ?_,λj hj h=>xw j hj (List.mem_cons_of_mem _ h),λ_=>⟨o,st,v,b,ho,tq,hc,cr.aa hl tq.k inv.core.kn,λd qI => ?_,nd,hw.aC tq hl,λd r_=>⟨λj oj h1 h2 h3 => ?_, ?_⟩,ff,λhb=>⟨(iQ hb).1,λk hk=>⟨(iQ hb).2 k hk,rfl⟩⟩,Jr⟩⟩
   ·rw [show o.dst=some d from qI]at jZ;simpa [re]using jZ
   ·show ay (eI st.t o.dst v) d=v;rw [yA,if_pos qI]
   ·show _=ay (eI st.t o.dst v) d;rw [yA,if_neg λh => ?_]
    have:=Ns hd ho h1 h h2
    subst this;exact xw i h3 (by simp)
   ·by_cases hx:∃j oj,ops[j]? = some oj/\oj.dst=some d/\j∈du ops i/\listed.getD j false=false
    ·exact .inl hx
    ·right;intro hn
     have e3:ay (cn st.t (L.filter λq => !listed.getD q.j false)) d=ay st.t d:=Ed _ _ _ λq hq h=>by
      simp only [List.mem_filter,Bool.not_eq_true']at hq;have fq:=inv.zK q hq.1;obtain⟨oq,q1,q2⟩:=fq.dst;rcases Nr hd ho q1 (by rw [q2,h]) r_ with h4|h4
      ·exact hx ⟨q.j,oq,q1,by rw [q2,h],h4,hq.2⟩
      ·exact fq.pre i h4 (by simp)
     have h5:=inv.core.tmps d (by show ay (cn st.t _) d ≠ .any;rw [e3];exact hn);rw [h5];show some ((ay (cn st.t _) d).den U β)=_;rw [e3,SV.aa hl (λ_ _=>rfl) (inv.tw d)]
  ·have fq:=inv.zK q hq
   have rC:∀d j oj,ops[j]? = some oj->oj.dst=some d->(j=q.j\/j∈du ops q.j)->o.dst≠some d:=λd j oj h1 h2 h3 h4=>by
    have:=Ns hd ho h1 h4 h2
    subst this;rcases h3 with h3|h3
    ·exact dt q hq h3
    ·exact fq.pre i h3 (by simp)
   refine fq.move hc hl (λ_ _=>rfl) rfl (λj hj=>List.mem_cons_of_mem _ hj) (λh=>h) (λd qI => ?_) (λd j oj h1 h2 h3 => ?_) (λj h1 h2=>h1) (λ_ d oq h1 h2=>rfl) λ_ _ _=>rfl
   ·show ay (eI _ _ _) d=_;obtain⟨oq,e1,e2⟩:=fq.dst;rw [yA,if_neg (rC d q.j oq e1 (by rw [e2,qI]) (.inl rfl))]
   ·show ay (eI _ _ _) d=_;rw [yA,if_neg (rC d j oj h1 h2 (.inr h3))]
 ·show (ay (eI _ _ _) d).wf c=true;rw [yA];split
  ·exact hv
  ·exact SV.aU hc (inv.tw d)
 ·have eV:=inv.core;have g:=tq.grow hc
  have Gj:((⟨i,o.dst,rd,ld⟩:gU)::L).filter (λp => !listed.getD p.j false)=⟨i,o.dst,rd,ld⟩::L.filter (λp => !listed.getD p.j false):=by
   rw [List.filter_cons,if_pos (by simp [Gi])]
  have Gk:∀d,(ay (cn (eI st.t o.dst v) (((⟨i,o.dst,rd,ld⟩:gU)::L).filter λp => !listed.getD p.j false)) d).wf c=true:=λd=>by
   rcases xp (eI st.t o.dst v) (((⟨i,o.dst,rd,ld⟩:gU)::L).filter λp => !listed.getD p.j false) d with h|⟨h,_⟩
   ·rw [h];rfl
   ·rw [h,yA];split
    ·exact hv
    ·exact SV.aU hc (inv.tw d)
  have dW:=eV.aC hl;refine⟨eV.size,λd hn => ?_,eV.kE,eV.below,λk e hg=>dW.mem k e hg,eV.inj,eV.fX,eV.kt,eV.gQ,eV.dn,⟨Gk,g.m,g.o,g.ap,g.r,g.d,vH,g.df⟩,jW⟩;rcases xp (eI st.t o.dst v) (((⟨i,o.dst,rd,ld⟩:gU)::L).filter λp => !listed.getD p.j false) d with h|⟨h,h2⟩
  ·exact (hn h).elim
  ·have pU:o.dst≠some d:=h2 ⟨i,o.dst,rd,ld⟩ (by rw [Gj];simp);have lO:ay (eI st.t o.dst v) d ≠ .any:=by rw [<-h];exact hn
   show _=some ((ay (cn _ _) d).den ag β);rw [h];rw [yA,if_neg pU]at lO ⊢;have e3:ay (cn st.t (L.filter λq => !listed.getD q.j false)) d=ay st.t d:=Ed _ _ _ λq hq=>h2 q (by rw [Gj];exact List.mem_cons_of_mem _ hq);have h5:=dW.tmps d (by show ay (cn st.t _) d ≠ .any;rw [e3];exact lO);rw [h5];show some ((ay (cn st.t _) d).den ag β)=_;rw [e3]
theorem Gl{G:bV}(hG:G.Ok){ops:Array Oper}(hd:dZ ops=true){r:Option Nat}{mm:Nat}{c0:ar}{dk:Env}{bI:Nat->Nat}{Q':Exit->Act->World->Prop}{step:St->Oper->(St->Env->Prop)->Env->Prop}(hs:s_ G.P W R Z r mm c0 dk bI Q' step){K:St->Env->Prop} :
    ∀(rem:List Nat) (st:St) (F:Kf) (L:List gU) (U:Env),DJ G.P ops rem=true->uo F st.c U->(∀i,(ay st.t i).wf st.c=true)->o3 (PA G.P W Q QM QP) G step ops rem st F L K U->c0.le st.c->Env.aC c0 dk U ->
      ∀(fuel:Nat) (listed:Array Bool) (β:Nat->Nat) (a:Act) (w:World),(∀k,k<c0.nk->β k=bI k)->rB G.P W R Z ops rem st L U listed β a w->oh listed ops.size=fuel->vI W R Z st U β K (Q' .normal)->wpAnyIn (Fr r) mm G.P .any ops Q' fuel listed a w
  | [],st,F,L,U,_,_,_,h,jc,gx=>by
    intro fuel
    have done:∀(fuel:Nat) (listed:Array Bool) (β:Nat->Nat) (a:Act) (w:World),rB G.P W R Z ops [] st L U listed β a w->vI W R Z st U β K (Q' .normal)->(∀j,j<ops.size->listed.getD j false=true)->wpAnyIn (Fr r) mm G.P .any ops Q' fuel listed a w:=by
      intro fuel listed β a w inv hn cH;refine wpAnyIn_done ?_ ?_ fuel
      · refine List.eq_nil_iff_forall_not_mem.2 λj hj => ?_;obtain⟨h1,o,ho,_⟩:=mem_ready.1 hj
        have:=cH j (Array.getElem?_eq_some_iff.1 ho).1
        rw [getD_both h1]at this;cases this
      · unfold o3 at h
        have hf:(L.filter λp => !listed.getD p.j false)=[]:=by
          refine List.filter_eq_nil_iff.2 λp hp => ?_;obtain⟨o,ho,_⟩:=(inv.zK p hp).dst;rw [cH p.j (Array.getElem?_eq_some_iff.1 ho).1];simp
        have hC:=inv.core;rw [hf]at hC;exact hn st U β a w h (ar.le_refl _) (Env.ao _ _) (λ_ _=>rfl) hC
    induction fuel with
    |zero =>
      intro listed β a w _ inv hu hn;exact done 0 listed β a w inv hn λj hj=>F4 hu j hj
    |succ fuel ih =>
      intro listed β a w ff inv hu hn;refine⟨λcI => ?_,λx hx => ?_⟩
      · obtain⟨j,hj,lP,ct⟩:=Ji (listed:=listed) (m:=ops.size) (by omega);have ho:ops[j]? = some ops[j]:=Array.getElem?_eq_getElem hj
        have:j∈Region.ready .any ops listed:=mem_ready.2 ⟨getD_in (by rw [inv.size];exact hj) lP,_,ho,λe he hb=>ct e.on ((zz hd ho).1 e he hb)⟩
        rw [cI]at this;cases this
      · obtain⟨h1,o,ho,hr⟩:=mem_ready.1 hx;have qG:=(Array.getElem?_eq_some_iff.1 ho).1;have NB:x<listed.size:=by rw [inv.size];exact qG
        have gA:=getD_both h1;rcases inv.Gf x qG (by simp)with h2|⟨p,hp,rfl⟩
        · rw [gA]at h2;cases h2
        · refine UC hd inv hp gA (λj hj => ?_) λa' w' xA=>ih _ β a' w' ff xA ?_ hn
          · obtain⟨e,he,hb,rfl⟩:=(Ef ho).1 hj;exact hr e he hb
          · have:=Jj NB gA ops.size
            rw [if_pos qG]at this;omega
  |i::rm,st,F,L,U,kN,hF,Jq,h,jc,gx=>by
    simp only [DJ,Bool.and_eq_true,decide_eq_true_eq,Bool.not_eq_true']at kN;obtain⟨⟨⟨⟨yz,ru⟩,xw⟩,uq⟩,zM⟩:=kN;have ho:ops[i]? = some ops[i]:=Array.getElem?_eq_getElem yz;generalize ops[i]=o at ho;have zN:i ∉ rm:=λhm=>by rw [List.contains_iff_mem.2 hm]at ru;cases ru
    have uu:∀j∈du ops i,j ∉ i::rm:=λj hj hm=>by
      have:=List.all_eq_true.1 xw j hj
      rw [List.contains_iff_mem.2 hm]at this;cases this
    unfold o3 at h;rw [St.norm_eq]at h;unfold EM EN at h;simp only [ho]at h uq;split at h;rotate_left
    · exact h.elim
    rename_i jZ;split at h
    ·
      rename_i CO;rw [CO]at uq;simp only [Bool.not_true,Bool.false_or]at uq
      obtain⟨b,F',xz,hw,jr,gR⟩:=UJ (st := {st with t:=cn st.t (L.filter λp => !(before ops i).contains p.j)}) hF (λd=>by
        rcases xp st.t (L.filter λp => !(before ops i).contains p.j) d with h|⟨h,_⟩
        · show (ay (cn st.t _) d).wf st.c=true;rw [h];rfl
        · show (ay (cn st.t _) d).wf st.c=true;rw [h];exact Jq d) h
      intro fuel
      induction fuel with
      |zero =>
        intro listed β a w _ inv hu hn;exact (inv.uL i (F4 hu i yz) (by simp)).elim
      |succ fuel ih =>
        intro listed β a w ff inv hu hn;refine⟨λcI => ?_,λx hx => ?_⟩
        · obtain⟨j,hj,lP,ct⟩:=Ji (listed:=listed) (m:=ops.size) (by omega);have ho:ops[j]? = some ops[j]:=Array.getElem?_eq_getElem hj
          have:j∈Region.ready .any ops listed:=mem_ready.2 ⟨getD_in (by rw [inv.size];exact hj) lP,_,ho,λe he hb=>ct e.on ((zz hd ho).1 e he hb)⟩
          rw [cI]at this;cases this
        · obtain⟨h1,ox,Js,hr⟩:=mem_ready.1 hx;have qG:=(Array.getElem?_eq_some_iff.1 Js).1;have NB:x<listed.size:=by rw [inv.size];exact qG
          have gA:=getD_both h1
          have d_:∀j∈du ops x,listed.getD j false=true:=λj hj=>by
            obtain⟨e,he,hb,rfl⟩:=(Ef Js).1 hj;exact hr e he hb
          have mR:oh (listed.setIfInBounds x true) ops.size=fuel:=by
            have:=Jj NB gA ops.size
            rw [if_pos qG]at this;omega
          by_cases Jt:x∈i::rm;rotate_left
          · rcases inv.Gf x qG Jt with h2|⟨p,hp,rfl⟩
            · rw [gA]at h2;cases h2
            · exact UC hd inv hp gA d_ λa' w' xA=>ih _ β a' w' ff xA mR hn
          rcases List.mem_cons.1 Jt with rfl|Jt;rotate_left
          · obtain⟨j,hj,Na⟩:=List.any_eq_true.1 (List.all_eq_true.1 uq x Jt);exact (inv.uL j (d_ j hj) (List.contains_iff_mem.1 Na)).elim
          rw [ho]at Js;cases Js
          have xl:Core W R Z U β {st with t:=cn st.t (L.filter λp => !(before ops x).contains p.j)} a w:=by
            refine Nq (st := {st with t:=cn st.t (L.filter λp => !listed.getD p.j false)}) inv.core (Below.refl _ _) rfl rfl (λd => ?_) λd lO => ?_
            · rcases xp st.t (L.filter λp => !(before ops x).contains p.j) d with h|⟨h,_⟩
              · rw [h];rfl
              · rw [h];exact inv.tw d
            · rcases xp st.t (L.filter λp => !(before ops x).contains p.j) d with h|⟨h,h2⟩
              · exact (lO h).elim
              · rw [h]at lO ⊢
                have e3:ay (cn st.t (L.filter λq => !listed.getD q.j false)) d=ay st.t d:=Ed _ _ _ λq hq=>by
                  simp only [List.mem_filter,Bool.not_eq_true']at hq;refine h2 q (List.mem_filter.2 ⟨hq.1, ?_⟩)
                  have yB:q.j ∉ before ops x:=λyB=>by
                    have:=Ny inv.Ee d_ _ yB
                    rw [this]at hq;cases hq.2
                  simpa using yB
                have h5:=inv.core.tmps d (by show ay (cn st.t _) d ≠ .any;rw [e3];exact lO);rw [h5];show some ((ay (cn st.t _) d).den U β)=_;rw [e3]
          have i_:∀d,o.dst=some d->d<a.tmps.size:=λd qI=>by
            rw [inv.core.size];rw [qI]at jZ;simpa [re]using jZ
          unfold wpOpIn;simp only [ho];rw [UB hw λd _ lO=>xl.tmps d lO];cases b with
          |false =>
            simp only [Bool.false_eq_true,if_false];refine⟨λf _=>u_ r f, ?_⟩;have D5:=gR rfl
            have dW:Core W R Z U β {st with t:=eI (cn st.t (L.filter λp => !(before ops x).contains p.j)) o.dst .dX} (a.put o.dst undef) w:=by
              refine Nq xl (Below.refl _ _) (Jp _ _ _) (Uz _ _ _) (λd => ?_) λd lO => ?_
              · rw [yA];split
                · rfl
                · exact xl.wf.t d
              · rw [Jo a o.dst undef d i_];rw [yA]at lO ⊢;by_cases pU:o.dst=some d
                · rw [if_pos pU,if_pos pU];rfl
                · rw [if_neg pU]at lO ⊢;rw [if_neg pU];exact xl.tmps d lO
            have inv2:=UH hd inv ho zN uu d_ jZ dW (ar.le_refl _) (Env.ao _ _) (λ_ _=>rfl) (Gh o a undef) (λp hp=>.inl λk hk=>rfl)
            have he:eI st.t o.dst (match o.dst with|some d=>ay (eI (cn st.t (L.filter λp => !(before ops x).contains p.j)) o.dst .dX) d|none=>.any)=eI st.t o.dst .dX:=by
              cases pU:o.dst with
              |none=>rfl
              |some d=>simp only [eI,zj,if_true]
            simp only [he]at inv2;exact Gl hG hd hs rm _ _ _ U zM (by exact xz) (by exact inv2.tw) D5 jc gx fuel _ β _ w ff inv2 mR (hn.og (ar.le_refl _) (Env.ao _ _) λ_ _=>rfl)
          |true =>
            simp only [if_true];refine Nv ?_;refine hs _ o _ U (jr rfl) jc gx β a w ff xl _ λs aB bB a2 w2 hk hc hl hb dW gW => ?_;dsimp only at hk;split at hk;rotate_left
            · exact hk.elim
            rename_i xx
            have inv2:=UH hd inv ho zN uu d_ jZ dW hc hl hb gW (λp hp=>by
              have h0:=List.all_eq_true.1 xx p hp;rw [Bool.or_eq_true]at h0;rcases h0 with h0|h0
              · refine .inl λk jW => ?_
                have:=List.all_eq_true.1 h0 k jW
                simp only [AK,Bool.and_eq_true,decide_eq_true_eq]at this;unfold aM;rw [this.1,this.2]
              · exact .inr h0)
            exact Gl hG hd hs rm _ _ _ aB zM (by exact xz.mono hc hl) (by exact inv2.tw) hk (ar.le_trans jc hc) (Env.aj jc gx hl) fuel _ bB a2 w2 (λk hk=>(hb k (Nat.lt_of_lt_of_le hk jc.k)).trans (ff k hk)) inv2 mR (hn.og hc hl hb)
    ·
      rename_i CO;intro fuel listed β a w ff inv hu hn;have tq:st.WF:=⟨inv.tw,inv.core.wf.m,inv.core.wf.o,inv.core.wf.ap,inv.core.wf.r,inv.core.wf.d,inv.core.wf.k,inv.core.wf.df⟩;have nd:∀c,o.op ≠ .defer c:=λc he=>CO (by unfold nz;rw [he]);obtain⟨b,F',xz,hw,jr,gR⟩:=UJ hF Jq h;cases b with
      |true =>
        obtain⟨v,c,k,ag,F2,XZ,g1,g2,g3,g4,g5,g6,g7,g8⟩:=NA hG tq xz inv.core.kn (jr rfl);have inv2:=UK hd inv ho zN uu jZ (rd:=bd st o) (ld:=yP G.P st o) g2 g4 g5 g6 g7 nd hw (λe=>absurd e (by simp)) (λ_=>⟨g8,λk hk=>hk⟩) (λq hq=>Nx hq);exact Gl hG hd hs rm _ _ _ ag zM (by exact XZ) (by exact inv2.tw) g1 (ar.le_trans jc g2) (Env.aj jc gx g4) fuel listed β a w ff inv2 hu (hn.og g2 g4 λ_ _=>rfl)
      |false =>
        have inv2:=UK hd inv ho zN uu jZ (rd := []) (v := .dX) (ar.le_refl st.c) (Env.ao _ _) rfl tq.k inv.core.kn nd hw (λ_=>rfl) (λe=>absurd e (by simp)) (ld:=none) (λq hq=>by cases hq);exact Gl hG hd hs rm _ _ _ U zM (by exact xz) (by exact inv2.tw) (gR rfl) jc gx fuel listed β a w ff inv2 hu (hn.og (ar.le_refl _) (Env.ao _ _) λ_ _=>rfl)
end Vc
set_option linter.unusedVariables false
namespace Vc
open Go Go.RowKit
variable {P:Program} {W:eJ} {Q:Value->Prop} {QM QP:World->Value->Prop} {R:Nat->Loop} {Z:List Nat}
attribute [local irreducible] behind in
theorem UL(ops:Array Oper):∀m,ny ops m<=m/\∀i,ny ops m<=i->i<m->∀j,j<i->DI ops i j=true
  |0=>⟨Nat.le_refl _,λi _ h=>by omega⟩
  |m+1=>by
    obtain⟨h1,h2⟩:=UL ops m;unfold ny;split
    · rename_i cH;refine⟨by omega,λi h3 h4 j hj => ?_⟩;by_cases Jk:i=m
      · subst Jk;exact List.all_eq_true.1 cH j (List.mem_range.2 hj)
      · exact h2 i h3 (by omega) j hj
    · exact⟨Nat.le_refl _,λi h3 h4=>by omega⟩
section
variable {ops:Array Oper} {n:Nat} {r:Option Nat} {mm:Nat} {Q':Exit->Act->World->Prop}
theorem UM(hd:dZ ops=true)(hcut:∀ i,n<=i->i < ops.size->∀ j,j < i->DI ops i j=true) :
    ∀(l:List Oper) (i:Nat) (fuel:Nat) (listed:Array Bool) (a:Act) (w:World),(∀j,l[j]? = ops[i+j]?)->n<=i->i+l.length=ops.size->listed.size=ops.size->(∀j,listed.getD j false=true↔j<i) ->
      wpListIn (Fr r) mm P ops Q' l a w->l.length<=fuel->wpAnyIn (Fr r) mm P .any ops Q' fuel listed a w
  | [],i,fuel,listed,a,w,hl,hn,hlen,i_,vN,h,hf=>by
    refine wpAnyIn_done ?_ h fuel;refine List.eq_nil_iff_forall_not_mem.2 λj hj => ?_;obtain⟨h1,o,ho,_⟩:=mem_ready.1 hj;have Gg:=(Array.getElem?_eq_some_iff.1 ho).1
    have:=(vN j).2 (by simp at hlen;omega)
    rw [getD_both h1]at this;cases this
  |o::l,i,0,listed,a,w,hl,hn,hlen,i_,vN,h,hf=>by simp at hf
  |o::l,i,fuel+1,listed,a,w,hl,hn,hlen,i_,vN,h,hf=>by
    have ho:ops[i]? = some o:=by have:=hl 0;simpa using this.symm
    have hi:i<ops.size:=(Array.getElem?_eq_some_iff.1 ho).1
    have gA:listed.getD i false=false:=by
      cases hx:listed.getD i false with
      |false=>rfl
      |true=>have:=(vN i).1 hx;omega
    have zO:∀j oj,ops[j]? = some oj->listed.getD j false=true->∀e∈oj.after,Region.binds .any e=true->listed.getD e.on false=true:=λj oj hj lP e he hb=>by
      have:=(vN j).1 lP
      have:=(zz hd hj).1 e he hb
      exact (vN e.on).2 (by omega)
    refine⟨λcI => ?_,λj hj => ?_⟩
    · exfalso
      have:i∈Region.ready .any ops listed:=mem_ready.2 ⟨getD_in (by rw [i_];exact hi) gA,o,ho,λe he hb=>(vN e.on).2 ((zz hd ho).1 e he hb)⟩
      rw [cI]at this;cases this
    · obtain⟨h1,oj,UN,hr⟩:=mem_ready.1 hj;have Gg:=(Array.getElem?_eq_some_iff.1 UN).1
      have rz:j=i:=by
        rcases Nat.lt_or_ge j i with a1|a1
        · have:=(vN j).2 a1
          rw [getD_both h1]at this;cases this
        · rcases Nat.lt_or_ge i j with a2|a2
          · have:=Ng zO UN hr (hcut j (by omega) Gg i a2)
            rw [gA]at this;cases this
          · omega
      subst rz
      have h2:wpOpIn (Fr r) mm P ops Q' j (wpListIn (Fr r) mm P ops Q' l) a w:=by
        unfold wpOpIn;simp only [ho];exact h
      have xq:j<listed.size:=by rw [i_];exact Gg
      refine wpOpIn_mono (λa' w' h3=>UM hd hcut l (j+1) fuel _ a' w' (λk => ?_) (by omega) (by simp at hlen;omega) (by simp [i_]) (λk => ?_) h3 (by simpa using hf)) h2
      · have:=hl (k+1)
        rw [show j+1+k=j+(k+1) by omega];simpa using this
      · rw [AY listed j k xq];by_cases ub:j=k
        · subst ub;simp
        · rw [if_neg ub,vN k];omega
theorem Gm{listed:Array Bool}(h:∀j,listed.getD j false=true↔j<n):∀m,oh listed m=m-n
  |0=>by simp [oh]
  |m+1=>by
    simp only [oh,Gm h m];by_cases hm:m<n
    · rw [if_pos ((h m).2 hm)];omega
    · rw [if_neg (λe=>hm ((h m).1 e))];omega
variable {U:Env} {sts:Nat->St} {gX:Nat->SV} {cs:Nat->List Nat} {rd wr:List (Nat × Nat)}
theorem NC(hw:Way P W ops n U sts gX cs rd wr)(hd:dZ ops=true)(hcut:∀ i,n<=i->i < ops.size->∀ j,j < i->DI ops i j=true){a0:Act}{bI:Nat->Nat}{w0:World}(hC:Core W R Z U bI (sts 0) a0 w0)
    (hQ:∀a w β,(∀k,k<(sts 0).c.nk->β k=bI k)->Core W R Z U β (sts n) a w->wpListIn (Fr r) mm P ops Q' (ops.toList.drop n) a w) :
    ∀(fuel:Nat) (listed:Array Bool) (a:Act) (w:World) (β:Nat->Nat),Inv W R Z ops n U sts cs a0 bI listed a w β->oh listed ops.size=fuel->wpAnyIn (Fr r) mm P .any ops Q' fuel listed a w:=by
  have done:∀(fuel:Nat) (listed:Array Bool) (a:Act) (w:World) (β:Nat->Nat),Inv W R Z ops n U sts cs a0 bI listed a w β->oh listed ops.size=fuel->(∀j,j<n->listed.getD j false=true)->wpAnyIn (Fr r) mm P .any ops Q' fuel listed a w:=by
    intro fuel listed a w β inv hu cH
    have vN:∀j,listed.getD j false=true↔j<n:=λj=>by
      refine⟨λh => ?_,cH j⟩;rcases Nat.lt_or_ge j n with h'|h'
      · exact h'
      · rw [inv.only j h']at h;cases h
    have hle:=hw.le;rw [Gm vN]at hu;refine UM hd hcut (ops.toList.drop n) n fuel listed a w (λj=>by simp) (Nat.le_refl _) (by simp;omega) inv.ry vN (hQ a w β inv.agree (No hw hC inv cH)) (by simp;omega)
  intro fuel
  induction fuel with
  |zero =>
    intro listed a w β inv hu;exact done 0 listed a w β inv hu λj hj=>F4 hu j (Nat.lt_of_lt_of_le hj hw.le)
  |succ fuel ih =>
    intro listed a w β inv hu;by_cases cH:∀j,j<n->listed.getD j false=true
    · exact done (fuel+1) listed a w β inv hu cH
    · refine⟨λcI => ?_,λi hi => ?_⟩
      · exfalso;obtain⟨j,hj,lP,ct⟩:=Ji (listed:=listed) (m:=ops.size) (by omega);have ho:ops[j]? = some ops[j]:=Array.getElem?_eq_getElem hj
        have:j∈Region.ready .any ops listed:=mem_ready.2 ⟨getD_in (by rw [inv.ry];exact hj) lP,_,ho,λe he hb=>ct e.on ((zz hd ho).1 e he hb)⟩
        rw [cI]at this;cases this
      · obtain⟨h1,o,ho,hr⟩:=mem_ready.1 hi;have yz:=(Array.getElem?_eq_some_iff.1 ho).1;have tm:i<listed.size:=by rw [inv.ry];exact yz
        have rX:i<n:=by
          rcases Nat.lt_or_ge i n with h'|h'
          · exact h'
          · exact (cH λj hj=>Ng inv.closed ho hr (hcut i h' yz j (by omega))).elim
        refine Nj hw hd hC inv rX ho (getD_both h1) hr λa' w' an xA=>ih _ a' w' an xA ?_
        have:=Jj tm (getD_both h1) ops.size
        rw [if_pos yz]at this;omega
end
theorem UO(a i k:Nat)(l:List (Nat × Nat)):∀(L:List Nat),(L.map (λj=>(a+j,i))++l).lookup k=if ∃j∈L,a+j=k then some i else l.lookup k
  | []=>by simp
  |x::L=>by
    simp only [List.map_cons,List.cons_append,List.lookup_cons,UO a i k l L];by_cases h:k=a+x
    · subst h;simp
    · have:(k == a+x)=false:=by simpa using h
      rw [this]
      have e:(∃j∈x::L,a+j=k)↔∃j∈L,a+j=k:=by
        constructor
        · rintro ⟨j,hj,rfl⟩;rcases List.mem_cons.1 hj with rfl|hj
          · exact (h rfl).elim
          · exact⟨j,hj,rfl⟩
        · rintro ⟨j,hj,he⟩;exact⟨j,List.mem_cons_of_mem _ hj,he⟩
      by_cases h2:∃j∈L,a+j=k
      · rw [if_pos h2,if_pos (e.2 h2)]
      · rw [if_neg h2,if_neg (λh3=>h2 (e.1 h3))]
theorem ND(a b i k:Nat)(l:List (Nat × Nat)):(iD a b i++l).lookup k=if a<=k/\k<b then some i else l.lookup k:=by
 unfold iD;rw [UO]
 have e:(∃j∈List.range (b-a),a+j=k)↔(a<=k/\k<b):=by
  constructor
  ·rintro ⟨j,hj,rfl⟩
   have:=List.mem_range.1 hj
   omega
  ·intro h;exact⟨k-a,List.mem_range.2 (by omega),by omega⟩
 by_cases h:a<=k/\k<b
 ·rw [if_pos h,if_pos (e.2 h)]
 ·rw [if_neg h,if_neg (λh2=>h (e.1 h2))]
theorem UP(a i:Nat):iD a a i=[]:=by simp [iD]
def uv (G:bV) (W:eJ) (ops:Array Oper) (K:St->Env->Prop) (l:List Oper) (i:Nat) (d:DS) (st:St) (U:Env):Prop :=
    ∃(sts:Nat->St) (gX:Nat->SV) (cs:Nat->List Nat) (ds:Nat->DS) (oP:Env),sts i=st/\ds i=d/\K (sts (i+l.length)) oP/\Env.aC st.c U oP/\sT ops (ds (i+l.length)).rd (ds (i+l.length)).wr=true /\
      (∀k∈d.rd,k∈(ds (i+l.length)).rd)/\(∀k∈d.wr,k∈(ds (i+l.length)).wr)/\(∀j,j<=l.length->(sts (i+j)).WF/\o1 (ds (i+j)).al (sts (i+j)).o=true) /\
      ∀j o,l[j]? = some o->((ds (i+j+1)).al=iD (sts (i+j)).c.nk (sts (i+j+1)).c.nk (i+j)++(ds (i+j)).al) /\
        vL G.P W ops oP (λk=>(ds (i+j)).fz ops (i+j) k=true) (i+j) (ds (i+l.length)).rd (ds (i+l.length)).wr (sts (i+j)) o (sts (i+j+1)) (gX (i+j)) (cs (i+j))
theorem X0{G:bV}(hG:G.Ok){st:St}{o:Oper}{K:St->Env->Prop}{U:Env}(wf:st.WF)(gV:cr.den st.k U)(h:KN (PA G.P W Q QM QP) G st o K U):rp G.P W st o K U/\∀c,o.op ≠ .defer c:=by
 have jd:n_ (PA G.P W Q QM QP) G st o K U->rp G.P W st o K U/\∀c,o.op ≠ .defer c:=λh=>⟨TD hG wf gV h,TR h⟩;have Ct:AI (PA G.P W Q QM QP) G st o K U->rp G.P W st o K U/\∀c,o.op ≠ .defer c:=λh=>⟨TJ wf h,TS h⟩;obtain⟨dst,op,type,pos,after,guard⟩:=o;unfold KN at h;have jX:oa (PA G.P W Q QM QP) G st ⟨dst,op,type,pos,after,guard⟩ K U->rp G.P W st ⟨dst,op,type,pos,after,guard⟩ K U/\∀c,(⟨dst,op,type,pos,after,guard⟩:Oper).op ≠ .defer c:=λh=>⟨TO wf h,TT h⟩;cases op<;>first|exact jd h|skip
 case buildSlice t len parts =>
  simp only at h;split at h
  ·exact jX h
  ·exact jd h
 case store t a x =>
  simp only at h;generalize st.ev a=sa at h;split at h
  ·exact jX h
  ·exact jd h
 case makeMap t rs=>exact jX h
 case mapUpdate t m k v=>exact jX h
 case insert t m k v=>exact jX h
 case convert s d x =>
  simp only at h;split at h
  ·exact jX h
  ·exact jd h
 rename_i cl;obtain⟨callee,args,argTypes⟩:=cl;cases callee<;>first|exact jd h|skip
 rename_i b;cases b<;>first|exact jd h|exact Ct h
theorem UQ{G:bV}(hG:G.Ok){ops:Array Oper}{K:St->Env->Prop}:∀(l:List Oper) (i:Nat) (d:DS) (st:St) (U:Env),iL (PA G.P W Q QM QP) G ops i l d st K U->st.WF->cr.den st.k U->o1 d.al st.o=true->uv G W ops K l i d st U
  | [],i,d,st,U,h,hw,_,jY=>by
    unfold iL at h;split at h;rotate_left
    · exact h.elim
    · rename_i dt;refine⟨λ_=>st,λ_=>.dX,λ_=>[],λ_=>d,U,rfl,rfl,h,Env.ao _ _,dt,λ_ h=>h,λ_ h=>h,λ_ _=>⟨hw,jY⟩,λj o hj=>by simp at hj⟩
  |o::r,i,d,st,U,h,hw,ve,jY=>by
    have glue:∀ (s':St) (d':DS) (ag:Env) (sv:SV) (C:List Nat),iL (PA G.P W Q QM QP) G ops (i + 1) r d' s' K ag->s'.WF->cr.den s'.k ag->o1 d'.al s'.o=true->st.c.le s'.c->Env.aC st.c U ag->(∀ k∈d.rd,k∈d'.rd)->(∀ k∈d.wr,k∈d'.wr) ->
        (d'.al=iD st.c.nk s'.c.nk i++d.al) ->
        (∀J,Env.aC s'.c ag J->∀rd wr,(∀k∈d'.rd,k∈rd)->(∀k∈d'.wr,k∈wr)->vL G.P W ops J (λk=>d.fz ops i k=true) i rd wr st o s' sv C)->uv G W ops K (o::r) i d st U:=by
      intro s' d' ag sv C hx Ju tX X1 hle dE d_ lj yn hf;obtain⟨sts,gX,cs,ds,oP,e1,e2,e3,e4,e5,e6,e7,e8,e9⟩:=UQ hG r (i+1) d' s' ag hx Ju tX X1;have hlen:i+(o::r).length=i+1+r.length:=by simp;omega
      refine⟨λj=>if j<=i then st else sts j,λj=>if j<=i then sv else gX j,λj=>if j<=i then C else cs j,λj=>if j<=i then d else ds j,oP,if_pos (Nat.le_refl _),if_pos (Nat.le_refl _), ?_⟩;have c1:¬(i+1+r.length<=i):=by omega
      rw [hlen];simp only [c1,if_false];refine⟨e3,Env.aj hle dE e4,e5,λk hk=>e6 k (d_ k hk),λk hk=>e7 k (lj k hk),λj hj => ?_,λj o' hj => ?_⟩
      · by_cases yp:j=0
        · subst yp;simp only [Nat.add_zero,Nat.le_refl,if_true];exact⟨hw,jY⟩
        · have c2:¬(i+j<=i):=by omega
          simp only [c2,if_false]
          have:=e8 (j-1) (by simp at hj;omega)
          rwa [show i+1+(j-1)=i+j by omega]at this
      · cases j with
        |zero =>
          simp only [List.getElem?_cons_zero,Option.some.injEq]at hj;subst hj;have c2:¬(i+0+1<=i):=by omega
          simp only [Nat.add_zero,Nat.le_refl,if_true];have c3:¬(i+1<=i):=by omega
          simp only [c3,if_false,e1,e2];exact⟨yn,hf oP e4 _ _ e6 e7⟩
        |succ j =>
          have c2:¬(i+(j+1)<=i):=by omega
          have c3:¬(i+(j+1)+1<=i):=by omega
          simp only [c2,c3,if_false]
          have:=e9 j o' (by simpa using hj)
          rw [show i+1+j=i+(j+1) by omega]at this;exact this
    have run:∀ (s1:St),s1.WF->s1.k=st.k->s1.c=st.c->(∀ J,Env.aC st.c U J->pT J st s1)->(∀ J,Env.aC st.c U J->dM ops J st o true) ->
        q_ (PA G.P W Q QM QP) G ops i d s1 o (λd' s=>iL (PA G.P W Q QM QP) G ops (i+1) r d' s K) U->uv G W ops K (o::r) i d st U:=by
      intro s1 ui vH mS gV Gk hs;unfold q_ at hs;by_cases hold:(bd s1 o++a8 s1 o++di s1 o).all (d.fz ops i)=true
      · rw [if_pos hold]at hs;obtain⟨⟨s',ag,sv,C,g1,g2,g3,g4⟩,nd⟩:=X0 hG ui (by rw [vH];exact ve) hs;dsimp only at g1;by_cases ic:(KM ops i d o s' && o1 (iD s1.c.nk s'.c.nk i++d.al) s'.o)=true
        · rw [if_pos ic]at g1;rw [Bool.and_eq_true]at ic;obtain⟨q1,q2⟩:=ic;unfold KM at q1;refine glue s' _ ag sv C g1 (g4 ag (Env.ao _ _)).wf ((g4 ag (Env.ao _ _)).kn (cr.aa g3 ui.k (by rw [vH];exact ve))) q2 (by rw [<-mS];exact g2) (by rw [<-mS];exact g3) (λk hk=>List.mem_append.2 (.inr hk)) (λk hk=>List.mem_append.2 (.inr hk)) (by rw [mS]) ?_;intro J hl rd wr h1 h2;have gj:Env.aC st.c U J:=by rw [<-mS];exact Env.aj g2 g3 hl
          have hf:=g4 J hl;refine .run s1 s' sv C (gV J gj) (Gk J gj) nd hf (λk hk=>List.all_eq_true.1 hold k hk) (λx hx k hk => ?_) (λk hk=>h1 _ (List.mem_append.2 (.inl (List.mem_map.2 ⟨k,hk,rfl⟩)))) (λk hk=>h2 _ (List.mem_append.2 (.inl (List.mem_map.2 ⟨k,hk,rfl⟩))));rw [hx]at q1;have AP:=hf.slot x;rw [if_pos hx]at AP;exact List.all_eq_true.1 q1 k (by rw [AP];exact hk)
        · rw [if_neg ic]at g1;exact g1.elim
      · rw [if_neg hold]at hs;exact hs.elim
    have pV:∀{x:Nat} {b:Bool},(st.dp x b).WF:=λ{x b}=>by
      refine⟨λi => ?_,hw.m,hw.o,hw.ap,hw.r,hw.d,hw.k,hw.df⟩;simp only [St.dp,zj];by_cases hi:x=i
      · rw [if_pos hi];rfl
      · rw [if_neg hi];exact hw.t i
    unfold iL at h;cases rY:o.guard with
    |none =>
      simp only [rY]at h;exact run st hw rfl rfl (λ_ _=>.refl) (λ_ _=>by unfold dM;rw [rY]) h
    |some jw =>
      obtain⟨j,want⟩:=jw;simp only [rY]at h;generalize qI:(ops[j]?).bind (·.dst)=u at h;cases u with
      |none=>exact h.elim
      |some x =>
        simp only at h;split at h
        · rename_i ct;generalize hg:ay st.t x=sv at h;split at h
          · rename_i e;have we:e.wf st.c=true:=by have:=hw.t x;rw [hg]at this;exact this
            have kn:∀b,e.den U=b->∀J,Env.aC st.c U J->pT J st (st.dp x b):=λb hb J hl=>.dp x b e hg (by rw [BE.aa hl we];exact hb)
            have wt:∀b c,e.den U=b->(b == want)=c->∀J,Env.aC st.c U J->dM ops J st o c:=by
              intro b c hb hc J hl;unfold dM;rw [rY];exact⟨x,qI,.inl ⟨e,hg,by rw [BE.aa hl we,hb];exact hc⟩⟩
            have UR:∀b,e.den U=b->(b == want)=false->(St.put (PA G.P W Q QM QP) (st.dp x b) o.dst .dX st.c λs=>iL (PA G.P W Q QM QP) G ops (i+1) r d s K) U->uv G W ops K (o::r) i d st U:=by
              intro b hb hc hp;obtain⟨p1,p2⟩:=ze hp;obtain⟨q1,q2,q3,q4,q5,q6⟩:=kO (st.dp x b) o.dst .dX st.c;refine glue _ d U .dX [] p1 (Fj pV (ar.le_refl _) p2) (by rw [(zk _ _ _ _).1];exact ve) (by rw [q4];exact jY) (by rw [q1];exact ar.le_refl _) (Env.ao _ _) (λ_ h=>h) (λ_ h=>h) (by rw [q1,UP];rfl) ?_;intro J hl rd wr _ _;rw [q1]at hl;exact .skip (st.dp x b) (kn b hb J hl) (wt b false hb hc J hl) p2
            rcases zt h with ⟨hb,h⟩|⟨hb,h⟩
            · cases want with
              |true=>exact run (st.dp x true) pV rfl rfl (kn true hb) (wt true true hb rfl) h
              |false=>exact UR true hb rfl h
            · cases want with
              |true=>exact UR false hb rfl h
              |false=>exact run (st.dp x false) pV rfl rfl (kn false hb) (wt false true hb rfl) h
          · obtain⟨p1,p2⟩:=ze h;obtain⟨q1,q2,q3,q4,q5,q6⟩:=kO st o.dst .dX st.c;refine glue _ d U .dX [] p1 (Fj hw (ar.le_refl _) p2) (by rw [(zk _ _ _ _).1];exact ve) (by rw [q4];exact jY) (by rw [q1];exact ar.le_refl _) (Env.ao _ _) (λ_ h=>h) (λ_ h=>h) (by rw [q1,UP];rfl) ?_;intro J hl rd wr _ _;refine .skip st .refl ?_ p2;unfold dM;rw [rY];exact⟨x,qI,.inr ⟨hg,rfl⟩⟩
          · exact h.elim
        · exact h.elim
theorem US{sts:Nat->St}{ds:Nat->DS}{n:Nat}(h0:(ds 0).al=[])(yn:∀ j,j < n->(ds (j + 1)).al=iD (sts j).c.nk (sts (j + 1)).c.nk j++(ds j).al)
    (uX:∀i j,i<=j->j<=n->(sts i).c.nk<=(sts j).c.nk):∀(i:Nat),i<=n->∀m k,(ds i).al.lookup k=some m↔(m<i/\laid sts m k)
  |0,_,m,k=>by rw [h0];simp
  |i+1,hi,m,k=>by
    rw [yn i (by omega),ND];have ih:=US h0 yn uX i (by omega) m k;by_cases hk:(sts i).c.nk<=k/\k<(sts (i+1)).c.nk
    · rw [if_pos hk];constructor
      · intro h;cases h;exact⟨by omega,hk⟩
      · rintro ⟨h1,h2⟩;rcases Nat.lt_or_ge m i with h'|h'
        · have:=uX (m+1) i (by omega) (by omega)
          have:=h2.2
          omega
        · have:m=i:=by omega
          rw [this]
    · rw [if_neg hk,ih];constructor
      · rintro ⟨h1,h2⟩;exact⟨by omega,h2⟩
      · rintro ⟨h1,h2⟩;refine⟨?_,h2⟩;rcases Nat.lt_or_ge m i with h'|h'
        · exact h'
        · have:m=i:=by omega
          subst this;exact (hk h2).elim
theorem vL.imp{ops:Array Oper}{U:Env}{fz Gn:Nat->Prop}{i:Nat}{rd wr:List (Nat × Nat)}{s s':St}{o:Oper}{sv:SV}{C:List Nat}(h:vL P W ops U fz i rd wr s o s' sv C)(h1:∀k,fz k->Gn k):vL P W ops U Gn i rd wr s o s' sv C:=by
 cases h with
 |skip s1 k w p=>exact .skip s1 k w p
 |run s1 _ _ _ k w nd f a1 a2 a4 a5=>exact .run s1 _ _ _ k w nd f (λk hk=>h1 k (a1 k hk)) (λx hx k hk=>h1 k (a2 x hx k hk)) a4 a5
theorem UT{ops:Array Oper}{x y:Nat × Nat}(h:yN ops x y=true)(he:x.1=y.1):x.2=y.2\/(y.2<x.2/\pH ops x.2 y.2=true)\/(x.2<y.2/\pH ops y.2 x.2=true):=by
 unfold yN at h;simp only [Bool.or_eq_true,decide_eq_true_eq,Bool.and_eq_true]at h;rcases h with ((h|h)|h)|h
 ·exact (h he).elim
 ·exact .inl h
 ·exact .inr (.inl h)
 ·exact .inr (.inr h)
theorem UU{G:bV}(hG:G.Ok)(hm:G.P.follows .mixedOrders=true):xf G W Q QM QP:=by
  intro R Z r n inl yl rU KP id ops st K U h β a w hC Q' hI hY td hP next hq hn
  unfold sU at h;rw [KL]at h;by_cases hd:dZ ops=true
  · rw [if_pos hd]at h;by_cases xB:pJ G.P ops=true
    · rw [if_pos xB]at h;unfold pJ at xB;simp only [Bool.and_eq_true]at xB;obtain⟨⟨_,kN⟩,NF⟩:=xB
      have hu:∀m,m<=ops.size->oh (Array.replicate ops.size false) m=m:=by
        intro m
        induction m with
        |zero=>intro _;rfl
        |succ m ih =>
          intro Eb;simp only [oh,ih (by omega)];rw [if_neg (by rw [Array.getD_eq_getD_getElem?,Array.getElem?_replicate];split<;>simp)]
      have hf:∀j,(Array.replicate ops.size false).getD j false=false:=λj=>by
        rw [Array.getD_eq_getD_getElem?,Array.getElem?_replicate];split<;>rfl
      have hB:Below w.heap.size w {w with drawn:=w.drawn+1}:=(Below.refl _ w).drew
      have xl:Core W R Z U β st a {w with drawn:=w.drawn+1} :=
        ⟨hC.size,hC.tmps,hC.kE,hC.below.drew,λk e hg=>(hC.mem k e hg).xj (λ_ _=>rfl) (λ_ _=>rfl) (λ_ _=>rfl),hC.inj,hC.fX,hC.kt,hC.gQ,hC.dn,hC.wf,hC.kn⟩
      refine wpIn_region_any hm ?_;refine Gl hG hd (My hG hI hY td hP) (pI G.P ops) st [] [] U kN (λx hx=>by cases hx) hC.wf.t h (ar.le_refl _) (Env.ao _ _) ops.size _ β a _ (λ_ _=>rfl) ⟨by simp,λj oj _ h=>(by rw [hf j]at h;cases h),λj h=>(by rw [hf j]at h;cases h),λj hj CJ => ?_,λp hp=>(by cases hp),hC.wf.t,xl⟩ (hu _ (Nat.le_refl _)) ?_
      · exact (CJ (List.contains_iff_mem.1 (List.all_eq_true.1 NF j (List.mem_range.2 hj)))).elim
      · exact λs aB bB a2 w2 h1 h2 h3 h4 h5=>hq _ _ (hn s aB bB a2 w2 h1 h2 h3 h4 h5)
    rw [if_neg xB]at h;obtain⟨ju,hcut⟩:=UL ops ops.size;generalize ny ops ops.size=nn at h ju hcut;obtain⟨sts,gX,cs,ds,oP,e1,e2,e3,e4,e5,_,_,e8,e9⟩:=UQ hG (ops.toList.take nn) 0 ⟨[],[],[]⟩ st U h hC.wf hC.kn (by unfold o1;simp);have hlen:(ops.toList.take nn).length=nn:=by simp;omega
    simp only [Nat.zero_add,hlen]at e3 e5 e8 e9;have NG:∀j o,j<nn->ops[j]? = some o->_:=λj o hj ho=>e9 j o (by rw [List.getElem?_take,if_pos hj];simpa using ho)
    have lJ:∀j,j<nn->ops[j]? = some (ops[j]!):=λj hj=>by
      rw [getElem!_pos ops j (by omega),Array.getElem?_eq_getElem (by omega)]
    have uX:∀j i,i<=j->j<=nn->(sts i).c.nk<=(sts j).c.nk:=by
      intro j
      induction j with
      | zero => intro i h _;obtain rfl:i=0:=by omega
                exact Nat.le_refl _
      |succ j ih =>
        intro i h hj;by_cases hi:i=j+1
        · subst hi;exact Nat.le_refl _
        · obtain⟨s1,k1,mc⟩:=(NG j _ (by omega) (lJ j (by omega))).2.fB (e8 j (by omega)).1
          have:=mc.IW.k
          rw [k1.c.1]at this;exact Nat.le_trans (ih i (by omega) (by omega)) this
    have dE:=US (sts:=sts) (ds:=ds) (n:=nn) (by rw [e2]) (λj hj=>(NG j _ hj (lJ j hj)).1) (λi j h1 h2=>uX j i h1 h2)
    have hw:Way G.P W ops nn oP sts gX cs (ds nn).rd (ds nn).wr:=by
      refine⟨ju,λi hi=>(e8 i hi).1,λi o hi ho => ?_,λk i j h1 h2 => ?_,λi hi k ce sz t hg m me d hd4 hl => ?_⟩
      · refine (NG i o hi ho).2.imp λk hk m Nn hl => ?_
        have:=(dE i (by omega) m k).2 ⟨Nn,hl⟩
        simpa [DS.fz,this]using hk
      · unfold sT at e5;rw [Bool.and_eq_true]at e5;rcases h1 with h1|h1
        · exact UT (List.all_eq_true.1 (List.all_eq_true.1 e5.1 _ h1) _ h2) rfl
        · exact UT (List.all_eq_true.1 (List.all_eq_true.1 e5.2 _ h1) _ h2) rfl
      · have jr:aO (sts i).o k=some (ce,sz,t):=by
          unfold aM at hg;split at hg
          · cases hg
          · split at hg
            · rename_i h3;simp only [Option.some.injEq,qB.row.injEq]at hg;obtain⟨rfl,rfl,rfl⟩:=hg;exact h3
            · cases hg
        have Jl:=(e8 i hi).1.o k ce sz t jr;rcases Nat.lt_or_ge m i with h'|h'
        · have hb:=List.all_eq_true.1 (e8 i hi).2 _ (Ja jr);simp only [List.all_cons,List.all_nil,Bool.and_true,Bool.and_eq_true,decide_eq_true_eq]at hb;have h5:=(dE i hi m (k+d)).2 ⟨h',hl⟩
          have h6:(ds i).al.lookup k=some m:=by
            rcases (by omega:d=0\/d=1\/d=2\/d=3)with rfl|rfl|rfl|rfl
            · exact h5
            · rw [<-hb.1];exact h5
            · rw [<-hb.2.1];exact h5
            · rw [<-hb.2.2];exact h5
          exact ((dE i hi m k).1 h6).2
        · have:=uX m i h' (by omega)
          have:=hl.1
          have:=Jl.1
          omega
    have hB:Below w.heap.size w {w with drawn:=w.drawn+1}:=(Below.refl _ w).drew
    have xl:Core W R Z oP β (sts 0) a {w with drawn:=w.drawn+1}:=by
      rw [e1];have o9:=hC.aC e4;exact⟨o9.size,o9.tmps,o9.kE,o9.below.drew,λk e hg=>(o9.mem k e hg).xj (λ_ _=>rfl) (λ_ _=>rfl) (λ_ _=>rfl),o9.inj,o9.fX,o9.kt,o9.gQ,o9.dn,o9.wf,o9.kn⟩
    refine wpIn_region_any hm ?_
    have hu:∀m,m<=ops.size->oh (Array.replicate ops.size false) m=m:=by
      intro m
      induction m with
      |zero=>intro _;rfl
      |succ m ih =>
        intro Eb;simp only [oh,ih (by omega)];rw [if_neg (by rw [Array.getD_eq_getD_getElem?,Array.getElem?_replicate];split<;>simp)]
    have hle:=(hw.n0 nn (Nat.le_refl _)).2.2.2;rw [e1]at hle;refine NC hw hd hcut xl (λa' w' an NH eV => ?_) ops.size _ a _ β (Np hw xl) (hu _ (Nat.le_refl _));rw [e1]at NH;exact Mv (My hG hI hY td hP) (ops.toList.drop nn) (sts nn) oP e3 hle e4 an a' w' NH eV next hq (hn.og hle e4 NH)
  · rw [if_neg hd]at h;exact h.elim
theorem UW{G:bV}(hG:G.Ok)(hm:G.P.follows .mixedOrders=true){f:FuncId}{fn:Func}{b:Code}(hf:G.P.funcs[f]? = some fn)(hb:fn.body=some b){args:List SV}{c:ar}{U:Env}{w:World}(n:Nat)
  {kn:cr} (gV:cr.wf kn c/\cr.den kn U) (hw:args.all (SV.wf c)=true) (h:rh (PA G.P ⟨w,[]⟩ Q QM QP) G n fn b args c kn U) :
  Calls G.P f (args.map (SV.den U b0)).toArray w λe w'=>(∃v,e=.returned v/\Below w.heap.size w w'/\(Q v\/QM w' v))\/∃v,e=.panicked [{v:=v,recovered:=false}]/\Below w.heap.size w w'/\QP w' v:=by
 refine ME (n:=0) hf hb ?_;have hC:=MD (W:=⟨w,[]⟩) (R:=λ_ => {state := .ready,pending:=none,fn:=0,tmps := #[],params := #[],assign := .skip,body := .skip,defers:=0}) (U:=U) (β:=b0) (args:=args) (n:=fn.ntmps) (c:=c) (w:=w) gV.1 gV.2 hw (dT.refl ⟨w,[]⟩);refine M5 hG (UU hG hm) n none _ b _ _ U h _ _ none 0 b0 _ w hC ?_ rfl _ ?_
 ·intro k args s K' U hy;exact hy.elim
 intro e s ag an a' w' hk kN h1 h2 h3 eV
 have fin:=T2 hG (c0:=c) (dk:=U) (bI:=b0) (λc2 M6 K2 aB hx g1 g2 m2 bB a2 w2 g3 g4 Q2 g5=>M5 hG (UU hG hm) n none _ c2 M6 K2 aB hx _ _ none m2 bB a2 w2 g4 (λk args s K' U hy=>hy.elim) rfl Q2 g5) hk h1 h2 h3 eV kN 0
  (T:=λe w'=>(∃v,e=.returned v/\Below w.heap.size w w'/\(Q v\/QM w' v))\/∃v,e=.panicked [{v:=v,recovered:=false}]/\Below w.heap.size w w'/\QP w' v)
  (λv s2 aB bB w2 jW uU D6 q1 q2 q3 dW=>by
   refine .inl ⟨_,rfl,dW.below, ?_⟩;simp only [PA]at jW;split at jW
   ·rename_i mR;rw [SV.bC aB bB b0 mR];exact .inl jW
   ·exact .inr (jW bB w2 dW.below (Ca dW.wf.ap (Env.ao _ aB) (λk cs t hg=>(dW.wf.m k cs t hg).2) (λk ce sz t hg=>(dW.wf.o k ce sz t hg).2) _ λk _ e hg=>dW.mem k e hg)))
  (λi s2 aB bB w2 jW hi q1 q2 q3 dW=>.inr ⟨_,rfl,dW.below,jW w2 dW.below⟩)
 cases e with
 |normal=>exact fin.2
 |ret=>exact fin.2
 |exit id=>exact (fin.1 id rfl).elim
 |jz i=>exact fin.2
end Vc
set_option linter.unusedVariables false
namespace Vc
open Go Go.RowKit
def aw(is:List Int)(bs:List Bool)(vs:List OV)(ps:List (Nat × Nat))(ss:List (List UInt8) := [])(ls:List (List OV) := []):Env :=
 ⟨λj=>is.getD j 0,λj=>bs.getD j false,λj=>vs.getD j ⟨.nilFunc,rfl⟩,λj=>ps.getD j (0,0),λj=>ss.getD j [],λj=>ls.getD j []⟩
def ln(P:Program)(l:List FuncId):Bool :=
  l.all λf=>match P.funcs[f]? with
    |some fn => (fn.name != "runtime.NumGoroutine") && fn.body.isSome
    |none=>false
theorem Jv{P:Program}{l:List FuncId}(h:ln P l=true){f:FuncId}(hf:l.contains f=true)(args:Array Value)(w:World):(callFunc f args).run P w=.ok (.enter f args) w:=by
  have:=List.all_eq_true.1 h f (List.contains_iff_mem.1 hf)
  cases hp:P.funcs[f]? with
  |none=>simp [hp]at this
  |some fn =>
    simp only [hp,Bool.and_eq_true,bne_iff_ne,ne_eq]at this;obtain⟨h1,h2⟩:=this;have h3:fn.body.isNone=false:=by cases hb:fn.body<;>simp_all
    have h4:fn.body≠none:=by intro he;rw [he]at h2;cases h2
    simp [callFunc,hp,h1,h4]
structure pW(P:Program)(calls ext inl:List FuncId):Prop where
 calls:ln P calls=true
 inl:ln P inl=true
 mix:P.follows .mixedOrders=true
theorem pW.ok{P:Program}{calls ext inl:List FuncId}(h:pW P calls ext inl)(loops:List (Nat × LH))(ba:List (Nat × List At × TypeId)):(⟨P,calls,ext,inl,loops,ba,[],[]⟩:bV).Ok :=
 ⟨λf hf args w=>Jv h.calls hf args w,λf hf args w=>Jv h.inl hf args w,λe he=>absurd he (by simp)⟩
theorem pW.X2{P:Program}{calls ext inl:List FuncId}(h:pW P calls ext inl)(loops:List (Nat × LH))(ba:List (Nat × List At × TypeId))(jm:List fG)(hs:∀e∈jm,∀(A:bX (Env->Prop)) (yl:Yl (Env->Prop)) (K:Ex->St->Env->Prop) (K':SV->St->Env->Prop),mA A ⟨P,calls,ext,inl,loops,ba,jm,[]⟩ (exec A ⟨P,calls,ext,inl,loops,ba,jm,[]⟩ e.n) yl K e.f e.args e.s K'=jB A e.asks (K' e.v e.s')):(⟨P,calls,ext,inl,loops,ba,jm,[]⟩:bV).Ok :=
 ⟨λf hf args w=>Jv h.calls hf args w,λf hf args w=>Jv h.inl hf args w,hs⟩
theorem zP{c:ar}{U:Env}:cr.wf [] c/\cr.den [] U:=⟨λx h=>(by cases h),λx h=>(by cases h)⟩
theorem zo{x:Kn}{k:cr}{c:ar}{U:Env}(h1:x.wf c=true)(h2:x.den U)(h:cr.wf k c/\cr.den k U):cr.wf (x::k) c/\cr.den (x::k) U :=
 ⟨λy hy=>(List.mem_cons.1 hy).elim (λe=>e▸h1) (h.1 y),λy hy=>(List.mem_cons.1 hy).elim (λe=>e▸h2) (h.2 y)⟩
theorem aI.mono{P:Program}{f:FuncId}{args:Array Value}{w:World}{v v':Value}(h:Calls P f args w (aI v w))(e:v=v'):Calls P f args w (aI v' w):=e▸h
def jG:Code->Code
 | .seq a _=>a
 |c=>c
def aG:Code->Code
 | .seq _ b=>b
 |c=>c
def Gp {R : Type} (A : bX R) : Yl R := λ_ _ _ _ => A.fail "yield"
def Gq{R:Type}(A:bX R)(G:bV)(n:Nat)(fn:Func):Ex->St->R:=λe s =>
  leave A G (exec A G n none λ_ _ _ _ => A.fail "yield") fn e s (λv s2 => A.fin v (dY s2.m ((tJ v).flatMap CV.cells)) (eH s2.o ((tJ v).flatMap CV.cells))) λi _ => A.BX i
theorem A9{R:Type}{A:bX R}{G:bV}{n:Nat}{yl:Yl R}{c:Code}{S S':St}{W:R->R}{K:Ex->St->R}(hc:c=.seq (jG c) (aG c))
  (hp:∀K,exec A G n none yl (jG c) S K=W (K .normal S')):exec A G (n+1) none yl c S K=W (exec A G n none yl (aG c) S' K):=by
 generalize jG c=x at hc hp;generalize aG c=y at hc ⊢;subst hc;exact hp _
abbrev iv(x:Int):Value := .int .i64 x
abbrev sq(b:Bool)(p:Nat × Nat)(x y:Nat):Value:=if b=true then .slice none 0 0 else .slice (some (iK p x y)) x y
abbrev rd(w:World)(p:Nat × Nat)(x m k:Nat)(v:Value):Prop:=w.cell? ⟨p.1,p.2+x*m+k,none⟩=some v
theorem A_{P:Program}{calls ext inl:List FuncId}(B:pW P calls ext inl)(loops:List (Nat × LH))(ba:List (Nat × List At × TypeId))(n:Nat){f:FuncId}{fn:Func}{b:Code}(hf:P.funcs[f]? = some fn)(hb:fn.body=some b)
  (args:List SV) (c:ar) (kn:cr) (U:Env) {rD:Array Value} (ha:(args.map (SV.den U b0)).toArray=rD) (gV:cr.wf kn c/\cr.den kn U) (hw:args.all (SV.wf c)=true) {w:World} {v:Value} {p:Prop}
  (he:rh (PA P ⟨w,[]⟩ (λu=>u=v) (λ_ _=>False) (λ_ _=>False)) ⟨P,calls,ext,inl,loops,ba,[],[]⟩ n fn b args c kn U=p) (h:p):Calls P f rD w (aI v w):=by
 subst ha;refine (UW (G:=⟨P,calls,ext,inl,loops,ba,[],[]⟩) (B.ok loops ba) B.mix hf hb n gV hw (Eq.mpr he h)).mono λe w' he => ?_;rcases he with ⟨u,h1,h2,h3⟩|⟨u,h1,h2,h3⟩
 ·rcases h3 with rfl|h3
  ·exact⟨h1,h2⟩
  ·exact h3.elim
 ·exact h3.elim
theorem pu{P:Program}{calls ext inl:List FuncId}(B:pW P calls ext inl)(loops:List (Nat × LH))(ba:List (Nat × List At × TypeId)){f:FuncId}{fn:Func}(hf:P.funcs[f]? = some fn)
  (args:List SV) (c:ar) (U:Env) {rD:Array Value} {w:World} {v:Value} {p:Prop} (h:p) (hb:fn.body=some (fn.body.getD .skip):=by kernel_rfl) (ha:(args.map (SV.den U b0)).toArray=rD:=by kernel_rfl) (hw:args.all (SV.wf c)=true:=by kernel_rfl)
  (he:rh (PA P ⟨w,[]⟩ (λu=>u=v) (λ_ _=>False) (λ_ _=>False)) ⟨P,calls,ext,inl,loops,ba,[],[]⟩ 200 fn (fn.body.getD .skip) args c [] U=p:=by kernel_rfl):Calls P f rD w (aI v w) :=
 A_ B loops ba 200 hf hb args c [] U ha zP hw he h
theorem NI{P:Program}{calls ext inl:List FuncId}(B:pW P calls ext inl)(loops:List (Nat × LH))(ba:List (Nat × List At × TypeId))(jm:List fG)(hs:∀e∈jm,∀(A:bX (Env->Prop)) (yl:Yl (Env->Prop)) (K:Ex->St->Env->Prop) (K':SV->St->Env->Prop),mA A ⟨P,calls,ext,inl,loops,ba,jm,[]⟩ (exec A ⟨P,calls,ext,inl,loops,ba,jm,[]⟩ e.n) yl K e.f e.args e.s K'=jB A e.asks (K' e.v e.s'))(n:Nat){f:FuncId}{fn:Func}{b:Code}(hf:P.funcs[f]? = some fn)(hb:fn.body=some b)
  (args:List SV) (c:ar) (kn:cr) (U:Env) {rD:Array Value} (ha:(args.map (SV.den U b0)).toArray=rD) (gV:cr.wf kn c/\cr.den kn U) (hw:args.all (SV.wf c)=true) {w:World} {v:Value} {p:Prop}
  (he:rh (PA P ⟨w,[]⟩ (λu=>u=v) (λ_ _=>False) (λ_ _=>False)) ⟨P,calls,ext,inl,loops,ba,jm,[]⟩ n fn b args c kn U=p) (h:p):Calls P f rD w (aI v w):=by
 subst ha;refine (UW (G:=⟨P,calls,ext,inl,loops,ba,jm,[]⟩) (B.X2 loops ba jm hs) B.mix hf hb n gV hw (Eq.mpr he h)).mono λe w' he => ?_;rcases he with ⟨u,h1,h2,h3⟩|⟨u,h1,h2,h3⟩
 ·rcases h3 with rfl|h3
  ·exact⟨h1,h2⟩
  ·exact h3.elim
 ·exact h3.elim
def uw:List Nat->List (Array Value × TypeId)->World->Prop
 |x::xs,b::bs,w=>w.heap[x]? = some (.cells b.1 b.2)/\uw xs bs w
 | [],[],_=>True
 |_,_,_=>False
theorem uw.get{w:World}:∀{xs:List Nat} {bs:List (Array Value × TypeId)},uw xs bs w->xs.length=bs.length/\∀k b,bs[k]? = some b->w.heap[AN xs k]? = some (.cells b.1 b.2)
  | [],[],_=>⟨rfl,λk b h=>by simp at h⟩
  |x::xs,b::bs,h=>by
    obtain⟨h1,h2⟩:=uw.get h.2;refine⟨by simp [h1],λk b' hk => ?_⟩;cases k with
    |zero =>
      simp only [List.getElem?_cons_zero,Option.some.injEq]at hk;subst hk;exact h.1
    |succ k=>exact h2 k b' (by simpa using hk)
theorem fj(x:Int):IntKind.i64.wrap x=(x+9223372036854775808) % 18446744073709551616-9223372036854775808:=by
 unfold IntKind.wrap;simp only [IntKind.bits,IntKind.signed];simp;split<;>omega
theorem aD(x:Int):IntKind.u64.wrap x=x % 18446744073709551616:=by
 simp [IntKind.wrap,IntKind.bits,IntKind.signed]
theorem zb{x:Int}(h:-9223372036854775808<=x/\x<=9223372036854775807):IntKind.i64.wrap x=x:=by rw [fj];omega
theorem Jw{x:Int}(h:0<=x/\x<=18446744073709551615):IntKind.u64.wrap x=x:=by rw [aD];omega
end Vc
