import Derived.Test.YtdjgnbkclcjiiaaGreatDoorVcR
import Derived.OrdersIn
import Derived.StillTail
set_option linter.unusedVariables false
set_option linter.unusedSimpArgs false
namespace Vc
open Go Go.RowKit
variable {P:Program} {W:Wld} {R:Nat→Loop} {Z:List Nat} {ops:Array Oper} {n:Nat} {ρ:Env} {sts:Nat→St} {svs:Nat→SV} {cs:Nat→List Nat} {rd wr:List (Nat × Nat)}
theorem zvba(hw:Way P W ops n ρ sts svs cs rd wr)(hd:drawOk ops=true){a0 a:Act}{β0 β β':Nat→Nat}{w w' w0:World}(hC0:Core W R Z ρ β0 (sts 0) a0 w0){listed:Array Bool}(inv:Inv W R Z ops n ρ sts cs a0 β0 listed a w β){i:Nat}{o:Oper}(hi:i < n)(ho:ops[i]? = some o)
    (hun:listed.getD i false=false) (hr:∀ e∈o.after,Region.binds .any e=true→listed.getD e.on false=true) {s1:St} (hk:Knw ρ (sts i) s1) (hst:Stp s1 o (sts (i + 1)) (svs i) (cs i)) {val:Value} (hval:svs i ≠ .any→val=(svs i).den ρ β')
    (hch:Chg W s1 (sts (i + 1)) ρ (cs i) β β' w w') (hcc:∀ k∈cs i,cut n sts cs listed k i)
    (hids:∀ k e',(k∈cs i∨s1.c.nk≤k)→getE (sts (i + 1)).m (sts (i + 1)).o k=some e'→∀ x∈entIds e',∀ m,m < n→laid sts m x→listed.getD m false=true) :
    Inv W R Z ops n ρ sts cs a0 β0 (listed.setIfInBounds i true) (a.put o.dst val) w' β':=by
  have his:i < ops.size:=Nat.lt_of_lt_of_le hi hw.le;have hil:i < listed.size:=by rw [inv.lsize];exact his
  obtain⟨kc,km,kn,ko,kr,kd⟩:=hk.c;have hget:∀ m,i≠m→(listed.setIfInBounds i true).getD m false=listed.getD m false:=fun m hm=>by rw [zyd listed i m hil,if_neg hm]
  have hgi:(listed.setIfInBounds i true).getD i false=true:=by rw [zyd listed i i hil,if_pos rfl]
  have hmono:∀ m,listed.getD m false=true→(listed.setIfInBounds i true).getD m false=true:=fun m hm=>by
    rw [zyd listed i m hil];split
    · rfl
    · exact hm
  have hoff:∀ k,¬ laid sts i k→β' k=β k:=fun k hk=>hch.off k (by rw [kc];exact hk);have hCm:∀ k e,k∈cs i→getE s1.m s1.o k=some e→Holds W ρ β k e w:=fun k e hkc hg=>inv.mem k i (by omega) (hcc k hkc) e (by rw [km,ko]at hg;exact hg)
  have tcut:∀ {k j},tch sts cs i k→j≤n→cut n sts cs (listed.setIfInBounds i true) k j→getE (sts j).m (sts j).o k=getE (sts (i + 1)).m (sts (i + 1)).o k:=by
    intro k j ht hj hcut;have hij:i < j:=(hcut i hi ht).2 hgi;refine hw.chain j (i + 1) (by omega) hj fun m a1 a2 htm => ?_;have hmn:m < n:=by omega
    have hlm:=(hcut m hmn htm).1 a2;rw [hget m (by omega)]at hlm
    have no:∀ h:reach ops 3 m i=true,False:=fun h=>by
      rw [later inv hun (Nat.lt_of_lt_of_le hmn hw.le) h]at hlm;cases hlm
    have hnk:=hw.nk m (i + 1) a1 (by omega);have hnk2:=hw.nk (i + 1) i (by omega) (by omega);rcases ht with hc | hl <;> rcases htm with hc2 | hl2
    · obtain⟨b1,_,_⟩:=hw.cls hi hc;obtain⟨c1,_,_⟩:=hw.cls hmn hc2;rcases hw.apart k m i (.inr c1) b1 with rfl | ⟨_,d2⟩ | ⟨d1,_⟩
      · omega
      · rw [zoaa inv hun (Nat.lt_of_lt_of_le hmn hw.le) d2]at hlm;cases hlm
      · omega
    · have:=(hw.cls hi hc).2.1
      have:=hl2.1
      omega
    · exact no ((hw.cls hmn hc2).2.2 i (by omega) hl)
    · have:=hl.2
      have:=hl2.1
      omega
  have told:∀ {k},tch sts cs i k→k∈cs i∨s1.c.nk≤k:=fun ht=>by
    rcases ht with h | h
    · exact .inl h
    · rw [kc];exact .inr h.1
  have ucut:∀ {k j},¬ tch sts cs i k→cut n sts cs (listed.setIfInBounds i true) k j→cut n sts cs listed k j:=fun {k j} ht hcut m hm hmt=>by
    have:=hcut m hm hmt
    rwa [hget m (fun e=>ht (e▸hmt))]at this
  have hself:∀ {k j e},¬ tch sts cs i k→j≤n→getE (sts j).m (sts j).o k=some e→∀ x∈entSelf k e,β' x=β x:=by
    intro k j e ht hj hg x hx;refine hoff x fun hl => ?_;cases e with
    | fix c t =>
      simp only [entSelf,List.mem_singleton]at hx;subst hx;exact ht (.inr hl)
    | row ce sz t =>
      have hrow:=hw.rows j hj k ce sz t hg i hi;simp only [entSelf,List.mem_cons,List.not_mem_nil,or_false]at hx
      have:∃ d,d < 4∧x=k + d:=by
        rcases hx with rfl | rfl | rfl | rfl
        · exact⟨0,by omega,rfl⟩
        · exact⟨1,by omega,rfl⟩
        · exact⟨2,by omega,rfl⟩
        · exact⟨3,by omega,rfl⟩
      obtain⟨d,h1,rfl⟩:=this;exact ht (.inr (hrow d h1 hl))
  have hheap:∀ {k j e},¬ tch sts cs i k→j≤n→cut n sts cs listed k j→getE (sts j).m (sts j).o k=some e→∀ b,blkE β k e=some b→w'.heap[b]? = w.heap[b]? := by
    intro k j e ht hj hcut hg b hb;have hl:=(inv.mem k j hj hcut e hg).blk b hb;refine hch.frame b hl.2.1 fun k0 e0 hk0 hg0 hb0 => ?_;rw [km,ko]at hg0
    have:=inv.inj k k0 j i hj (by omega) hcut (hcc k0 hk0) e e0 b hg hg0 hb hb0
    exact ht (.inl (this▸hk0))
  have hstep:=hw.step hi ho;have hsz:a.tmps.size=(sts i).n:=by rw [(hw.n0 i (by omega)).1];exact inv.size
  have hput:∀ (t:Nat),(a.put o.dst val).tmps[t]? = if o.dst=some t then some val else a.tmps[t]? := fun t=>by
    cases hdst:o.dst with
    | none=>simp [Act.put]
    | some d =>
      rw [getElem?_put t (by rw [hsz];exact hstep.2.2.2.2.2.2.1 d hdst)];simp only [Option.some.injEq]
  refine⟨by simp [inv.lsize],fun j oj hj hl e he hb => ?_,fun j hj=>by rw [hget j (by omega)];exact inv.only j hj,by rw [zmo];exact inv.size,by rw [zds];exact inv.dfr,hch.below inv.below hCm,
    fun t j p hjn hj hpt hl hn => ?_,fun t ht => ?_,fun k j hj hcut e hg => ?_,fun k j hj hcut e hg x hx m hm hl => ?_,fun k k' j j' hj hj' hcut hcut' e e' b hg hg' hb hb' => ?_,fun k e hg => ?_,fun b hb => ?_,fun k hk => ?_⟩
  · rw [zyd listed i _ hil]at hl ⊢;by_cases hon:i=e.on
    · rw [if_pos hon]
    · rw [if_neg hon];by_cases hij:i=j
      · subst hij;rw [ho]at hj;cases hj;exact hr e he hb
      · rw [if_neg hij]at hl;exact inv.closed j oj hj hl e he hb
  · rw [hput]
    have hsame:SameS ρ (getS (sts (j + 1)).t t) (getS (sts n).t t):=by
      refine hw.same n (j + 1) (by omega) (Nat.le_refl _) fun m h1 h3 q hq hqt => ?_;rcases ((zea hd hq).2 j p hj t hpt).1 with h4 | h4
      · omega
      · exact h4 hqt
    have hsv:getS (sts (j + 1)).t t=svs j:=(hw.step hjn hj).2.2.2.2.2.1 t hpt;by_cases hij:i=j
    · subst hij;rw [ho]at hj;cases hj;rw [if_pos hpt];have h5:svs i ≠ .any:=by rw [← hsv];exact hsame.any hn
      rw [hval h5,← hsame.den,hsv]
    · rw [hget j hij]at hl
      have hne:o.dst≠some t:=by
        rcases ((zea hd ho).2 j p hj t hpt).1 with h4 | h4
        · exact (hij h4).elim
        · exact h4
      rw [if_neg hne,inv.s2 t j p hjn hj hpt hl hn];refine congrArg some (SV.den_ids fun y hy=>hoff y fun hly => ?_).symm;have hy2:=hsame.ids hy;rw [hsv]at hy2;have hlt:=zzd (hsv▸(hw.wf (j + 1) (by omega)).t t) _ hy2;rcases Nat.lt_or_ge i j with a1 | a1
      · have:=later inv hun (Array.getElem?_eq_some_iff.1 hj).1 (hw.dst hjn hj hpt hy2 a1 hly)
        rw [hl]at this;cases this
      · have:=hw.nk i (j + 1) (by omega) (by omega)
        have:=hly.1
        omega
  · have hne:o.dst≠some t:=by
      intro he
      have:=ht i o hi ho he
      rw [hgi]at this;cases this
    rw [hput,if_neg hne];refine inv.s3 t fun j p hjn hj hpt => ?_
    have:=ht j p hjn hj hpt
    by_cases hij:i=j
    · subst hij;rw [hgi]at this;cases this
    · rwa [hget j hij]at this
  · by_cases htc:tch sts cs i k
    · rw [tcut htc hj hcut]at hg;exact (hch.new k e (told htc) hg).1
    · have hcut2:=ucut htc hcut;refine (inv.mem k j hj hcut2 e hg).keepI (hself htc hj hg) (fun x hx=>hoff x fun hl => ?_) (hheap htc hj hcut2 hg)
      have:=inv.std k j hj hcut2 e hg x hx i hi hl
      rw [hun]at this;cases this
  · by_cases htc:tch sts cs i k
    · rw [tcut htc hj hcut]at hg;exact hmono m (hids k e (told htc) hg x hx m hm hl)
    · exact hmono m (inv.std k j hj (ucut htc hcut) e hg x hx m hm hl)
  · have cross:∀ {k k' j j' e e'},tch sts cs i k→¬ tch sts cs i k'→j≤n→j'≤n→cut n sts cs (listed.setIfInBounds i true) k j→cut n sts cs (listed.setIfInBounds i true) k' j'→getE (sts j).m (sts j).o k=some e→getE (sts j').m (sts j').o k'=some e'→blkE β' k e=some b→blkE β' k' e'=some b→False:=by
      intro k k' j j' e e' h1 h2 hj hj' hcut hcut' hg hg' hb hb';have hcut2:=ucut h2 hcut';rw [zwj (hself h2 hj' hg')]at hb';have hl:=(inv.mem k' j' hj' hcut2 e' hg').blk b hb';rw [tcut h1 hj hcut]at hg;rcases (hch.new k e (told h1) hg).2 b hb with h3 | ⟨k0,e0,h3,h4,h5,_⟩
      · omega
      · rw [km,ko]at h4
        have:=inv.inj k0 k' i j' (by omega) hj' (hcc k0 h3) hcut2 e0 e' b h4 hg' h5 hb'
        exact h2 (.inl (this▸h3))
    by_cases h1:tch sts cs i k <;> by_cases h2:tch sts cs i k'
    · rw [tcut h1 hj hcut]at hg;rw [tcut h2 hj' hcut']at hg';exact hch.inj k k' e e' b (told h1) (told h2) hg hg' hb hb'
    · exact (cross h1 h2 hj hj' hcut hcut' hg hg' hb hb').elim
    · exact (cross h2 h1 hj' hj hcut' hcut hg' hg hb' hb).elim
    · rw [zwj (hself h1 hj hg)]at hb;rw [zwj (hself h2 hj' hg')]at hb';exact inv.inj k k' j j' hj hj' (ucut h1 hcut) (ucut h2 hcut') e e' b hg hg' hb hb'
  · exact hch.other hCm (inv.lps k e hg) (fun h=>h)
  · exact hch.other hCm (inv.ded b hb) (fun h=>h)
  · have:=hw.nk i 0 (by omega) (by omega)
    rw [hoff k fun hl=>by have:=hl.1;omega];exact inv.agree k hk
theorem zaz{r:Option Nat}{mm:Nat}(hw:Way P W ops n ρ sts svs cs rd wr)(hd:drawOk ops=true){a0 a:Act}{β0 β:Nat→Nat}{w0 w:World}(hC:Core W R Z ρ β0 (sts 0) a0 w0)
    {listed:Array Bool} (inv:Inv W R Z ops n ρ sts cs a0 β0 listed a w β) {i:Nat} {o:Oper} (hi:i < n) (ho:ops[i]? = some o) (hun:listed.getD i false=false) (hr:∀ e∈o.after,Region.binds .any e=true→listed.getD e.on false=true)
    {Q':Exit→Act→World→Prop} {K:Act→World→Prop} (hK:∀ a' w' β',Inv W R Z ops n ρ sts cs a0 β0 (listed.setIfInBounds i true) a' w' β'→K a' w'):wpOpIn (Fr r) mm P ops Q' i K a w:=by
  have hwi:=hw.wf i (by omega);have hfct:=hw.fct i o hi ho
  have next:∀ s1,Knw ρ (sts i) s1→Stp s1 o (sts (i + 1)) (svs i) (cs i)→∀ val β' w',(svs i ≠ .any→val=(svs i).den ρ β')→Chg W s1 (sts (i + 1)) ρ (cs i) β β' w w'→(∀ k∈cs i,cut n sts cs listed k i) →
      (∀ k e',(k∈cs i∨s1.c.nk≤k)→getE (sts (i + 1)).m (sts (i + 1)).o k=some e'→∀ x∈entIds e',∀ m,m < n→laid sts m x→listed.getD m false=true)→K (a.put o.dst val) w' :=
    fun s1 hk hst val β' w' hval hch hcc hids=>hK _ _ _ (zvba hw hd hC inv hi ho hun hr hk hst hval hch hcc hids)
  unfold wpOpIn;simp only [ho];generalize hs':sts (i + 1)=s' at hfct next
  generalize hsv:svs i=sv at hfct next
  generalize hcs:cs i=C at hfct next
  cases hfct with
  | skip s1 k wt p =>
    rw [zvq hw hd hC inv hi ho hun hr wt];simp only [Bool.false_eq_true,if_false];refine⟨fun f _=>zvj r f,next s1 k (zst (k.wf hwi) p) undef β w (fun _=>rfl) (zul (k.wf hwi) ?_ (Below.refl _ _)) (fun k hk=>by cases hk) ?_⟩
    · obtain⟨q1,q2,q3,q4,q5,q6⟩:=zfa s1 o.dst .und s1.c;rw [q2,q4]
    · intro k' e' hk' hg;obtain⟨q1,q2,q3,q4,q5,q6⟩:=zfa s1 o.dst .und s1.c;rcases hk' with hk' | hk'
      · cases hk'
      · rw [q2,q4,(k.wf hwi).beyond hk']at hg;cases hg
  | run s1 _ _ _ k wt nd f h1 h2 h4 h5 =>
    rw [zvq hw hd hC inv hi ho hun hr wt];simp only [if_true];obtain⟨kc,km,kn,ko,kr,kd⟩:=k.c
    have hcut:∀ kk∈readsOf s1 o++writesOf s1 o,kk < (sts i).c.nk→cut n sts cs listed kk i:=fun kk hkk hlt =>
      zcda hw inv hi ho hun hr hlt (by
        rcases List.mem_append.1 hkk with h | h
        · exact .inl (h4 kk h)
        · exact .inr (h5 kk h)) fun m hm hl=>h1 kk (List.mem_append.2 (.inl hkk)) m hm hl
    refine zta r mm nd (f.sem β a w inv.below (zbda hw hd hC inv hi ho hun hr k) (fun kk hkk e hg => ?_) (fun kk kk' e e' b hkk hkk' hg hg' hb hb' => ?_) K Q' fun β' v w' hv hch=>next s1 k f.stp v β' w' hv hch (fun kk hkk => ?_) fun kk e' hkk hg x hx m hm hl => ?_)
    · rw [km,ko]at hg;exact inv.mem kk i (by omega) (hcut kk hkk (zog (hwi.ent hg))) e hg
    · rw [km,ko]at hg hg';exact inv.inj kk kk' i i (by omega) (by omega) (hcut kk (List.mem_append.2 (.inr hkk)) (zog (hwi.ent hg))) (hcut kk' (List.mem_append.2 (.inr hkk')) (zog (hwi.ent hg'))) e e' b hg hg' hb hb'
    · have:=f.chg kk hkk
      exact hcut kk (List.mem_append.2 (.inr this.1)) (by rw [← kc];exact this.2)
    · rcases f.ids kk e' hkk hg x hx with h | ⟨j,e,hj,hge,hxe⟩
      · have hlt:=zow (k.wf hwi) x h;rw [kc]at hlt
        have hmi:m < i:=by
          rcases Nat.lt_or_ge m i with h' | h'
          · exact h'
          · have:=hw.nk m i h' (by omega)
            have:=hl.1
            omega
        exact zxd inv.closed 3 i m o ho hr (h1 x (List.mem_append.2 (.inr h)) m hmi hl)
      · rw [km,ko]at hge;exact inv.std j i (by omega) (hcut j hj (zog (hwi.ent hge))) e hge x hxe m hm hl
theorem zbz(hw:Way P W ops n ρ sts svs cs rd wr){a0 a:Act}{β0 β:Nat→Nat}{w0 w:World}(hC:Core W R Z ρ β0 (sts 0) a0 w0){listed:Array Bool}(inv:Inv W R Z ops n ρ sts cs a0 β0 listed a w β)
  (hall:∀ j,j < n→listed.getD j false=true):Core W R Z ρ β (sts n) a w:=by
 obtain⟨n1,n2,n3,n4⟩:=hw.n0 n (Nat.le_refl _);have hcut:∀ k,cut n sts cs listed k n:=fun k m hm _=>⟨fun _=>hall m hm,fun _=>hm⟩;have hmap:(sts 0).d.map β=(sts 0).d.map β0:=List.map_congr_left fun k hk=>inv.agree k (hC.wf.d k hk)
 refine⟨by rw [n1];exact inv.size,fun t hn => ?_, ?_,inv.below,fun k e hg=>inv.mem k n (Nat.le_refl _) (hcut k) e hg,fun k k' e e' b hg hg' hb hb'=>inv.inj k k' n n (Nat.le_refl _) (Nat.le_refl _) (hcut k) (hcut k') e e' b hg hg' hb hb',
  fun k e hg => ?_,fun k k' e e' hg hg' he => ?_,fun b hb => ?_, ?_,hw.wf n (Nat.le_refl _),hw.kn hC.kn n (Nat.le_refl _)⟩
 ·by_cases hx:∃ (j:Nat) (p:Oper),j < n∧ops[j]? = some p∧p.dst=some t
  ·obtain⟨j,p,hj,hp,hpt⟩:=hx;exact inv.s2 t j p hj hp hpt (hall j hj) hn
  ·have hnone:∀ (m:Nat) (o':Oper),m < n→ops[m]? = some o'→o'.dst≠some t:=fun m o' hmn hm he=>hx ⟨m,o',hmn,hm,he⟩;have hsame:SameS ρ (getS (sts 0).t t) (getS (sts n).t t):=hw.same n 0 (by omega) (Nat.le_refl _) fun m _ h q hq=>hnone m q h hq;rw [inv.s3 t (fun m o' hmn hm he=>(hnone m o' hmn hm he).elim),hC.tmps t (hsame.any hn),← hsame.den,SV.den_like (Env.like_refl _ ρ) inv.agree (hC.wf.t t)]
 ·rw [n3,inv.dfr,hw.df n (Nat.le_refl _),zze hC.wf.df inv.agree];simp only [marksOf];exact congrArg _ (List.map_congr_left fun k hk=>by rw [inv.agree k (hC.wf.d k hk)])
 ·rw [n2]at hg;rw [inv.agree k (hC.wf.r k e hg)];exact⟨(hC.lps k e hg).1,inv.lps k e hg⟩
 ·rw [n2]at hg hg';rw [inv.agree k (hC.wf.r k e hg),inv.agree k' (hC.wf.r k' e' hg')]at he;exact hC.rin k k' e e' hg hg' he
 ·rw [n3,hmap]at hb;exact⟨(hC.ded b hb).1,inv.ded b hb⟩
 ·rw [n3,hmap];exact hC.dn
theorem zpw{a0:Act}{β0:Nat→Nat}{w0:World}(hw:Way P W ops n ρ sts svs cs rd wr)(hC:Core W R Z ρ β0 (sts 0) a0 w0):Inv W R Z ops n ρ sts cs a0 β0 (Array.replicate ops.size false) a0 w0 β0:=by
  have hf:∀ j,(Array.replicate ops.size false).getD j false=false:=fun j=>by
    rw [Array.getD_eq_getD_getElem?,Array.getElem?_replicate];split <;> rfl
  have h0:∀ {k i},i≤n→cut n sts cs (Array.replicate ops.size false) k i→getE (sts i).m (sts i).o k=getE (sts 0).m (sts 0).o k:=fun {k i} hi hcut =>
    hw.chain i 0 (by omega) hi fun m _ h2 ht=>by
      have:=(hcut m (by omega) ht).1 h2
      rw [hf m]at this;cases this
  refine⟨by simp,fun j oj _ h=>(by rw [hf j]at h;cases h),fun j _=>hf j,hC.size,hC.dfr,hC.below,fun t i o _ _ _ h=>(by rw [hf i]at h;cases h),fun _ _=>rfl,fun k i hi hcut e hg => ?_,fun k i hi hcut e hg x hx m hm hl => ?_,fun k k' i i' hi hi' hcut hcut' e e' b hg hg' hb hb' => ?_,
    fun k e hg=>(hC.lps k e hg).2,fun b hb=>(hC.ded b hb).2,fun _ _=>rfl⟩
  · rw [h0 hi hcut]at hg;exact hC.mem k e hg
  · rw [h0 hi hcut]at hg
    have hlt:x < (sts 0).c.nk:=by
      have hwe:=hC.wf.ent hg;cases e with
      | fix c t=>exact zuq hwe.2 x hx
      | row ce sz t =>
        obtain⟨s,hs,hxs⟩:=List.mem_flatMap.1 hx
        have:=List.all_eq_true.1 hwe.2 s hs
        cases s with
        | ats l=>exact zuq this x hxs
        | var i=>cases hxs
    have:=hw.nk m 0 (by omega) (by omega)
    have:=hl.1
    omega
  · rw [h0 hi hcut]at hg;rw [h0 hi' hcut']at hg';exact hC.inj k k' e e' b hg hg' hb hb'
end Vc
set_option linter.unusedVariables false
namespace Vc
open Go Go.RowKit
variable {P:Program} {W:Wld} {Q:Value→Prop} {QM QP:World→Value→Prop} {R:Nat→Loop} {Z:List Nat}
theorem zsb(t:List (Nat × SV))(dst:Option Tmp)(v:SV)(d:Nat):getS (putT t dst v) d=if dst=some d then v else getS t d:=by
  cases dst with
  | none=>simp [putT]
  | some x =>
    simp only [putT,zq];by_cases h:x=d <;> simp [h]
theorem zua(t:List (Nat × SV)):∀ (L:List Pend) (d:Nat),getS (hideP t L) d=.any∨(getS (hideP t L) d=getS t d∧∀ p∈L,p.dst≠some d)
  | [],d=>.inr ⟨rfl,by simp⟩
  | p::L,d=>by
    simp only [hideP];cases hp:p.dst with
    | none =>
      rcases zua t L d with h | ⟨h1,h2⟩
      · exact .inl h
      · refine .inr ⟨h1,fun q hq => ?_⟩;rcases List.mem_cons.1 hq with rfl | hq
        · rw [hp];simp
        · exact h2 q hq
    | some x =>
      simp only [zq];by_cases hx:x=d
      · exact .inl (if_pos hx)
      · rw [if_neg hx];rcases zua t L d with h | ⟨h1,h2⟩
        · exact .inl h
        · refine .inr ⟨h1,fun q hq => ?_⟩;rcases List.mem_cons.1 hq with rfl | hq
          · rw [hp];simpa using hx
          · exact h2 q hq
theorem zac(t:List (Nat × SV)):∀ (L:List Pend) (d:Nat),(∀ p∈L,p.dst≠some d)→getS (hideP t L) d=getS t d
  | [],d,_=>rfl
  | p::L,d,h=>by
    simp only [hideP];have h2:=zac t L d fun q hq=>h q (List.mem_cons_of_mem _ hq);cases hp:p.dst with
    | none=>exact h2
    | some x =>
      have:x≠d:=fun e=>h p (by simp) (by rw [hp,e])
      simp only [zq];rw [if_neg this];exact h2
theorem zvk(a:Act)(dst:Option Tmp)(v:Value)(i:Nat)(hd:∀ d,dst=some d→d < a.tmps.size):(a.put dst v).tmps[i]? = if dst=some i then some v else a.tmps[i]? := by
  cases dst with
  | none=>simp [Act.put]
  | some d =>
    have:=hd d rfl
    simp only [Act.put,Option.some.injEq];by_cases h:d=i
    · subst h;rw [if_pos rfl];simp [this]
    · rw [if_neg h];exact Array.getElem?_setIfInBounds_ne h
theorem zaj(a:Act)(dst:Option Tmp)(v:Value):(a.put dst v).tmps.size=a.tmps.size:=by
 cases dst <;> simp [Act.put]
theorem zlm(a:Act)(dst:Option Tmp)(v:Value):(a.put dst v).defers=a.defers:=by
 cases dst <;> rfl
theorem zvo{ρ:Env}{β:Nat→Nat}{st:St}{a a':Act}{w w':World}(hC:Core W R Z ρ β st a w)(hB:Below w.heap.size w w')(hs:a'.tmps.size=a.tmps.size)(hdf:a'.defers=a.defers){t:List (Nat × SV)}(ht:∀ i,(getS t i).wf st.c=true)
  (htm:∀ i,getS t i ≠ .any→a'.tmps[i]? = some ((getS t i).den ρ β)):Core W R Z ρ β {st with t:=t} a' w':=by
 refine⟨hs.trans hC.size,htm,hdf.trans hC.dfr,hC.below.trans hB,fun k e hg=>(hC.mem k e hg).keep (hC.wf.ent hg) (Env.like_refl _ _) (fun _ _=>rfl) fun b hb=>hB.block b ((hC.mem k e hg).blk b hb).2.1,hC.inj,fun k e hg=>⟨(hC.lps k e hg).1, ?_⟩,hC.rin,fun b hb=>⟨(hC.ded b hb).1, ?_⟩,hC.dn,⟨ht,hC.wf.m,hC.wf.o,hC.wf.ap,hC.wf.r,hC.wf.d,hC.wf.k,hC.wf.df⟩,hC.kn⟩
 ·rw [hB.block _ (heap_lt (hC.lps k e hg).2)];exact (hC.lps k e hg).2
 ·rw [hB.block _ (heap_lt (hC.ded b hb).2)];exact (hC.ded b hb).2
structure PFact(P:Program)(W:Wld)(ops:Array Oper)(rem:List Nat)(listed:Array Bool)(st:St)(ρ:Env)(β:Nat→Nat)(a:Act)(p:Pend):Prop where
 dst:∃ o,ops[p.j]? = some o∧o.dst=p.dst
 out:p.j ∉ rem
 slot:∀ d,p.dst=some d→d < st.n
 pre:∀ j∈dirs ops p.j,j ∉ rem
 run:listed.getD p.j false=false→∃ (o:Oper) (stp:St) (v:SV) (b:Bool),ops[p.j]? = some o∧stp.WF∧stp.c.le st.c∧KnL.den stp.k ρ∧(∀ d,p.dst=some d→getS st.t d=v)∧(∀ c,o.op ≠ .defer c)∧Wants ops ρ stp o b ∧
  (∀ d∈o.looksAt ops,(∀ j oj,ops[j]? = some oj→oj.dst=some d→j∈dirs ops p.j→getS stp.t d=getS st.t d) ∧
   ((∃ j oj,ops[j]? = some oj∧oj.dst=some d∧j∈dirs ops p.j∧listed.getD j false=false)∨(getS stp.t d ≠ .any→a.tmps[d]? = some ((getS stp.t d).den ρ β)))) ∧
  (b=false→v=.und) ∧
  (b=true→(∀ ρ'',Env.like st.c ρ ρ''→ValOk P W stp o v ρ'')∧∀ k∈readsOf stp o,k∈p.rd∧getE stp.m stp.o k=getE st.m st.o k) ∧
  (∀ q,p.ld=some q→∃ t x,o.op=.load t x∧stp.ev x=.cv (.one (.loc q.1 q.2.1))∧szAgg P t=some (q.2.2.1,q.2.2.2))
structure YInv(P:Program)(W:Wld)(R:Nat→Loop)(Z:List Nat)(ops:Array Oper)(rem:List Nat)(st:St)(L:List Pend)(ρ:Env)(listed:Array Bool)(β:Nat→Nat)(a:Act)(w:World):Prop where
 size:listed.size=ops.size
 clo:∀ j o,ops[j]? = some o→listed.getD j false=true→∀ e∈o.after,Region.binds .any e=true→listed.getD e.on false=true
 lst:∀ j,listed.getD j false=true→j ∉ rem
 cov:∀ j,j < ops.size→j ∉ rem→listed.getD j false=true∨∃ p∈L,p.j=j
 pnd:∀ p∈L,PFact P W ops rem listed st ρ β a p
 tw:∀ i,(getS st.t i).wf st.c=true
 core:Core W R Z ρ β {st with t:=hideP st.t (L.filter fun p => !listed.getD p.j false)} a w
theorem ztg{ops:Array Oper}{i j:Nat}{o:Oper}(ho:ops[i]? = some o):j∈dirs ops i↔∃ e∈o.after,Region.binds .any e=true∧e.on=j:=by
 unfold dirs;rw [ho];simp only [List.mem_map,List.mem_filter];constructor
 ·rintro ⟨e,⟨h1,h2⟩,rfl⟩;exact⟨e,Array.mem_toList_iff.1 h1,h2,rfl⟩
 ·rintro ⟨e,h1,h2,rfl⟩;exact⟨e,⟨Array.mem_toList_iff.2 h1,h2⟩,rfl⟩
theorem zmm{ops:Array Oper}{i j:Nat}(h:direct ops i j=true):j∈dirs ops i:=by
  unfold direct at h;cases ho:ops[i]? with
  | none=>rw [ho]at h;cases h
  | some o =>
    rw [ho]at h;simp only [Array.any_eq_true',Bool.and_eq_true,decide_eq_true_eq]at h;obtain⟨e,he,hb,rfl⟩:=h;exact (ztg ho).2 ⟨e,he,hb,rfl⟩
theorem znm{ops:Array Oper}(hd:drawOk ops=true){i j d:Nat}{o p:Oper}(ho:ops[i]? = some o)(hp:ops[j]? = some p)(hpd:p.dst=some d)(hl:d∈o.looksAt ops):j∈dirs ops i∨i∈dirs ops j:=by
 rcases ((zea hd ho).2 j p hp d hpd).2 hl with ⟨_,h⟩ | ⟨_,h⟩
 ·exact .inl (zmm h)
 ·exact .inr (zmm h)
theorem zyj{ops:Array Oper}(hd:drawOk ops=true){i j d:Nat}{o p:Oper}(ho:ops[i]? = some o)(hp:ops[j]? = some p)(hod:o.dst=some d)(hpd:p.dst=some d):i=j :=
 ((zea hd ho).2 j p hp d hpd).1.resolve_right fun h=>h hod
theorem zcz{ops:Array Oper}{o:Oper}{stp:St}{ρ:Env}{β:Nat→Nat}{a:Act}(hkn:KnL.den stp.k ρ)(h:∀ d∈o.looksAt ops,getS stp.t d ≠ .any→a.tmps[d]? = some ((getS stp.t d).den ρ β)):OpsOk stp o ρ β a:=by
  intro x hx hn;cases x with
  | tmp t =>
    have:=h t (by
      simp only [Oper.looksAt,List.mem_append];exact .inl (List.mem_filterMap.2 ⟨.tmp t,Array.mem_toList_iff.2 hx,rfl⟩)) hn
    show a.tmps.getD t undef=_;rw [Array.getD_eq_getD_getElem?,this,Option.getD_some];rfl
  | const v=>exact ((SV.ofValue_den v stp.c ρ β).2 hn).symm
  | global g=>exact zsl hkn hn β
  | func f=>rfl
theorem zwq{ops:Array Oper}{o:Oper}{stp:St}{ρ:Env}{β:Nat→Nat}{a:Act}{b:Bool}(hb:Wants ops ρ stp o b)(h:∀ d∈o.looksAt ops,getS stp.t d ≠ .any→a.tmps[d]? = some ((getS stp.t d).den ρ β)):Region.wanted o (yielded ops a.tmps)=b:=by
  unfold Wants at hb;cases hg:o.guard with
  | none=>rw [hg]at hb;simp only at hb;subst hb;simp [Region.wanted,hg]
  | some jw =>
    obtain⟨j,want⟩:=jw;rw [hg]at hb;obtain⟨x,hx,hb⟩:=hb
    have hlook:x∈o.looksAt ops:=by
      simp only [Oper.looksAt,hg,List.mem_append];exact .inr (by simp [hx])
    rcases hb with ⟨e,he,hb⟩ | ⟨he,rfl⟩
    · have:=h x hlook (by rw [he];simp)
      rw [he]at this;have hy:=zxf (b:=e.den ρ) hx this;simp only [Region.wanted,hg,hy];exact hb
    · have:=h x hlook (by rw [he];simp)
      rw [he]at this;have hy:=zyf hx this;simp [Region.wanted,hg,hy]
theorem zxq{ops:Array Oper}(hd:drawOk ops=true){rem:List Nat}{st:St}{L:List Pend}{ρ:Env}{listed:Array Bool}{β:Nat→Nat}{a:Act}{w:World}(inv:YInv P W R Z ops rem st L ρ listed β a w){p:Pend}(hp:p∈L)
    (hun:listed.getD p.j false=false) (hr:∀ j∈dirs ops p.j,listed.getD j false=true) {r:Option Nat} {mm:Nat} {Q':Exit→Act→World→Prop} {K:Act→World→Prop}
    (hK:∀ a' w',YInv P W R Z ops rem st L ρ (listed.setIfInBounds p.j true) β a' w'→K a' w'):wpOpIn (Fr r) mm P ops Q' p.j K a w:=by
  have fp:=inv.pnd p hp;obtain⟨o,stp,v,b,ho,wfp,clp,knp,hv,nd,hw,hl,hb0,hb1,_⟩:=fp.run hun;have hod:o.dst=p.dst:=by obtain⟨o',h1,h2⟩:=fp.dst;rw [ho]at h1;cases h1;exact h2
  have hjs:p.j < ops.size:=(Array.getElem?_eq_some_iff.1 ho).1;have hjl:p.j < listed.size:=by rw [inv.size];exact hjs
  have now:∀ d∈o.looksAt ops,getS stp.t d ≠ .any→a.tmps[d]? = some ((getS stp.t d).den ρ β):=fun d hdl hn=>by
    rcases (hl d hdl).2 with ⟨j,oj,_,_,h3,h4⟩ | h
    · rw [hr j h3]at h4;cases h4
    · exact h hn
  have hsz:∀ d,o.dst=some d→d < a.tmps.size:=fun d hd'=>by rw [inv.core.size];exact fp.slot d (by rw [← hod];exact hd')
  have hgs:∀ j,(listed.setIfInBounds p.j true).getD j false=if p.j=j then true else listed.getD j false:=fun j=>zyd listed p.j j hjl
  have next:∀ (val:Value) (w':World),(v ≠ .any→val=v.den ρ β)→Below w.heap.size w w'→K (a.put o.dst val) w':=by
    intro val w' hval hB;refine hK _ _ ⟨by simp [inv.size],fun j oj hj hlj e he hb => ?_,fun j hlj => ?_,fun j hj hjr => ?_,fun q hq => ?_,inv.tw, ?_⟩
    · rw [hgs]at hlj ⊢;by_cases hj':p.j=e.on
      · rw [if_pos hj']
      · rw [if_neg hj'];by_cases hpj:p.j=j
        · subst hpj;rw [ho]at hj;cases hj;exact hr e.on ((ztg ho).2 ⟨e,he,hb,rfl⟩)
        · rw [if_neg hpj]at hlj;exact inv.clo j oj hj hlj e he hb
    · rw [hgs]at hlj;by_cases hpj:p.j=j
      · subst hpj;exact fp.out
      · rw [if_neg hpj]at hlj;exact inv.lst j hlj
    · rw [hgs];by_cases hpj:p.j=j
      · rw [if_pos hpj];exact .inl rfl
      · rw [if_neg hpj];exact inv.cov j hj hjr
    · have fq:=inv.pnd q hq;refine⟨fq.dst,fq.out,fq.slot,fq.pre,fun hq2 => ?_⟩;rw [hgs]at hq2;have hne:p.j≠q.j:=fun e=>by rw [if_pos e]at hq2;cases hq2
      rw [if_neg hne]at hq2;obtain⟨o2,stq,v2,b2,g1,g2,g3,g4,g5,g6,g7,g8,g9,g10,g11⟩:=fq.run hq2;refine⟨o2,stq,v2,b2,g1,g2,g3,g4,g5,g6,g7,fun d hdl=>⟨(g8 d hdl).1, ?_⟩,g9,g10,g11⟩;by_cases hpd:o.dst=some d
      ·
        rcases znm hd g1 ho hpd hdl with h | h
        · right;intro hn;rw [zvk a o.dst val d hsz,if_pos hpd];have e1:=(g8 d hdl).1 p.j o ho hpd h;have e2:=hv d (by rw [← hod];exact hpd);rw [e1,e2]at hn ⊢;rw [hval hn]
        · rw [hr q.j h]at hq2;cases hq2
      · rcases (g8 d hdl).2 with ⟨j,oj,h1,h2,h3,h4⟩ | h
        · left;have hpj:p.j≠j:=fun e=>by subst e;rw [ho]at h1;cases h1;exact hpd h2
          exact⟨j,oj,h1,h2,h3,by rw [hgs,if_neg hpj];exact h4⟩
        · right;intro hn;rw [zvk a o.dst val d hsz,if_neg hpd];exact h hn
    · refine zvo (st := {st with t:=hideP st.t (L.filter fun p => !listed.getD p.j false)}) inv.core hB (zaj _ _ _) (zlm _ _ _) (fun i => ?_) fun i hn => ?_
      · rcases zua st.t (L.filter fun q => !(listed.setIfInBounds p.j true).getD q.j false) i with h | ⟨h,_⟩
        · rw [h];rfl
        · rw [h];exact inv.tw i
      · rcases zua st.t (L.filter fun q => !(listed.setIfInBounds p.j true).getD q.j false) i with h | ⟨h,h2⟩
        · exact (hn h).elim
        · rw [h]at hn ⊢;rw [zvk a o.dst val i hsz];by_cases hpd:o.dst=some i
          · rw [if_pos hpd];have e2:=hv i (by rw [← hod];exact hpd);rw [e2]at hn ⊢;rw [hval hn]
          · rw [if_neg hpd]
            have e3:getS (hideP st.t (L.filter fun q => !listed.getD q.j false)) i=getS st.t i:=zac _ _ _ fun q hq=>by
              simp only [List.mem_filter,Bool.not_eq_true']at hq;by_cases hpq:p.j=q.j
              · obtain⟨oq,q1,q2⟩:=(inv.pnd q hq.1).dst;rw [← hpq,ho]at q1;cases q1;rw [← q2];exact hpd
              · exact h2 q (List.mem_filter.2 ⟨hq.1,by rw [hgs,if_neg hpq,hq.2];rfl⟩)
            have:=inv.core.tmps i (by show getS (hideP st.t _) i ≠ .any;rw [e3];exact hn)
            rw [this];show some ((getS (hideP st.t _) i).den ρ β)=_;rw [e3]
  unfold wpOpIn;simp only [ho];rw [zwq hw now];cases b with
  | false =>
    simp only [Bool.false_eq_true,if_false];refine⟨fun f _=>zvj r f,next undef w (fun _ => ?_) (Below.refl _ _)⟩;rw [hb0 rfl];rfl
  | true =>
    simp only [if_true];obtain⟨h1,h2⟩:=hb1 rfl;refine zta r mm nd (h1 ρ (Env.like_refl _ _) β a w inv.core.below (zcz knp now) (fun k hk e hg => ?_) K Q' fun val w' hval hB=>next val w' hval hB);rw [(h2 k hk).2]at hg;exact inv.core.mem k e hg
def Shape(o:Oper)(a a':Act):Prop:=a'.tmps.size=a.tmps.size∧∀ d,o.dst≠some d→a'.tmps[d]? = a.tmps[d]?
theorem zcg(o:Oper)(a:Act)(v:Value):Shape o a (a.put o.dst v):=by
 refine⟨zaj _ _ _,fun d hd => ?_⟩;cases ho:o.dst with
 | none=>rfl
 | some x=>simp only [Act.put];exact Array.getElem?_setIfInBounds_ne (fun e=>hd (by rw [ho,e]))
theorem zhv(o:Oper)(a:Act)(d:Deferred)(v:Value):Shape o a (({a with defers:=d::a.defers}:Act).put o.dst v):=by
 refine⟨by rw [zaj],fun d hd => ?_⟩;cases ho:o.dst with
 | none=>rfl
 | some x=>simp only [Act.put];exact Array.getElem?_setIfInBounds_ne (fun e=>hd (by rw [ho,e]))
theorem ziv{F:Fence}{n:Nat}{o:Oper}{a:Act}{w:World}{K:Act→World→Prop}{Q':Exit→Act→World→Prop}(hh:o.wpIn F n P a w (fun a' w'=>Shape o a a'→K a' w') Q'):o.wpIn F n P a w K Q':=by
  unfold Oper.wpIn at *;refine⟨hh.1, ?_⟩;have hh:=hh.2;generalize (o.semAt F.round a.eval).run P w=r at *;cases r with
  | ok x w' =>
    cases x <;> simp only [Oper.uponIn]at hh ⊢ <;>
      first
        | exact hh (zcg o a _)
        | exact hh (zhv o a _ _)
        | exact⟨hh.1,CallsIn.mono hh.2 (fun e w'' he=>by cases e <;> first | exact he (zcg o a _) | exact he)⟩
        | exact⟨hh.1,RowsIn.mono hh.2 (fun _ _ he=>he (zcg o a _))⟩
        | exact⟨hh.1,RoundIn.mono hh.2 (fun e w'' he=>by cases e <;> first | exact he (zcg o a _) | exact he)⟩
  | halt x w'=>cases x <;> simp only [Oper.uponIn]at hh ⊢ <;> exact hh
theorem Wants.like{ops:Array Oper}{o:Oper}{stp:St}{ρ ρ':Env}{b:Bool}(wf:stp.WF)(hl:Env.like stp.c ρ ρ')(h:Wants ops ρ stp o b):Wants ops ρ' stp o b:=by
 unfold Wants at *;split
 ·rename_i hg;rw [hg]at h;exact h
 ·rename_i j want hg;rw [hg]at h;obtain⟨x,hx,h⟩:=h;refine⟨x,hx,h.imp (fun⟨e,he,hb⟩=>⟨e,he, ?_⟩) id⟩;have we:e.wf stp.c=true:=by have:=wf.t x;rw [he]at this;exact this
  rw [BE.den_like hl we];exact hb
theorem Env.like_le{c d:Ctr}{ρ ρ':Env}(hc:c.le d)(h:Env.like d ρ ρ'):Env.like c ρ ρ':=Env.like_trans hc (Env.like_refl _ _) h
theorem PFact.move{ops:Array Oper}{rem rem':List Nat}{listed listed':Array Bool}{st st':St}{ρ ρ':Env}{β β':Nat→Nat}{a a':Act}{p:Pend}(f:PFact P W ops rem listed st ρ β a p)(hc:st.c.le st'.c)(hl:Env.like st.c ρ ρ')(hb:∀ k,k < st.c.nk→β' k=β k)(hn:st'.n=st.n)
  (hrem:∀ j∈rem',j∈rem) (hun:listed'.getD p.j false=false→listed.getD p.j false=false) (hdst:∀ d,p.dst=some d→getS st'.t d=getS st.t d)
  (ht:∀ d j oj,ops[j]? = some oj→oj.dst=some d→j∈dirs ops p.j→getS st'.t d=getS st.t d) (hlist:∀ j,listed.getD j false=false→j∈dirs ops p.j→listed'.getD j false=false)
  (htm:listed'.getD p.j false=false→∀ d o,ops[p.j]? = some o→d∈o.looksAt ops→a'.tmps[d]? = a.tmps[d]?) (hm:listed'.getD p.j false=false→∀ k∈p.rd,getE st'.m st'.o k=getE st.m st.o k):PFact P W ops rem' listed' st' ρ' β' a' p:=by
 refine⟨f.dst,fun h=>f.out (hrem _ h),fun d hd=>by rw [hn];exact f.slot d hd,fun j hj h=>f.pre j hj (hrem _ h),fun hu => ?_⟩;obtain⟨o,stp,v,b,g1,g2,g3,g4,g5,g6,g7,g8,g9,g10,g11⟩:=f.run (hun hu);have hl2:Env.like stp.c ρ ρ':=Env.like_le g3 hl;refine⟨o,stp,v,b,g1,g2,Ctr.le_trans g3 hc,KnL.den_like hl2 g2.k g4,fun d hd=>by rw [hdst d hd];exact g5 d hd,g6,g7.like g2 hl2,fun d hdl=>⟨fun j oj h1 h2 h3=>by rw [ht d j oj h1 h2 h3];exact (g8 d hdl).1 j oj h1 h2 h3, ?_⟩,g9,fun hb1 => ?_,g11⟩
 ·rcases (g8 d hdl).2 with ⟨j,oj,h1,h2,h3,h4⟩ | h
  ·exact .inl ⟨j,oj,h1,h2,h3,hlist j h4 h3⟩
  ·right;intro hne;rw [htm hu d o g1 hdl,h hne,SV.den_like hl2 (fun k hk=>hb k (Nat.lt_of_lt_of_le hk g3.k)) (g2.t d)]
 ·obtain⟨q1,q2⟩:=g10 hb1;refine⟨fun ρ'' h=>q1 ρ'' (Env.like_trans hc hl h),fun k hk=>⟨(q2 k hk).1, ?_⟩⟩;rw [hm hu k (q2 k hk).1];exact (q2 k hk).2
theorem zjv{st:St}{o:Oper}{t:TypeId}{x:Operand}{q:Nat × Nat × Bool × Nat}{cs:List At}{ty:TypeId}{u:CV}{ρ:Env}(wf:st.WF)(hk:KnL.den st.k ρ)(ho:o.op=.load t x)(hx:st.ev x=.cv (.one (.loc q.1 q.2.1)))(hz:szAgg P t=some (q.2.2.1,q.2.2.2))(hm:getM st.m q.1=some (cs,ty))(hu:ldVal q cs=some u):ValOk P W st o (.cv u) ρ:=by
  obtain⟨v,c',ρ',h1,h2,h3,h4⟩:=zpl (G:=⟨P,[],[],[],[],[],[],[]⟩) (W:=W) (Q:=fun _=>False) (QM:=fun _ _=>False) (QP:=fun _ _=>False) (K:=fun v' c' _=>v'=.cv u∧c'=st.c) (ρ:=ρ) ⟨fun f hf _ _=>absurd hf (by simp),fun f hf _ _=>absurd hf (by simp),fun e he=>absurd he (by simp)⟩ wf hk (by
    unfold opv;rw [ho];simp only [hx,gloLoad,doLoad,hz,hm];unfold ldVal at hu;by_cases hg:q.2.2.1=true
    · rw [if_pos hg]at hu;simp only [hg,if_true];split at hu
      · rename_i hle;rw [if_pos hle];cases hu
        first | exact⟨rfl,rfl⟩ | exact⟨rfl,trivial⟩
      · cases hu
    · rw [if_neg hg]at hu;simp only [hg,if_false];cases hc:cs[q.2.1]? with
      | none=>rw [hc]at hu;cases hu
      | some a =>
        rw [hc]at hu;cases hu
        first | exact⟨rfl,rfl⟩ | exact⟨rfl,trivial⟩)
  obtain⟨rfl,rfl⟩:=h1;exact h4 ρ ⟨fun i hi=>(h3.i i hi).symm,fun i hi=>(h3.b i hi).symm,fun i hi=>(h3.v i hi).symm,fun i hi=>(h3.p i hi).symm,fun i hi=>(h3.s i hi).symm,fun i hi=>(h3.l i hi).symm⟩
theorem zqw{st:St}{o:Oper}{q:Nat × Nat × Bool × Nat}(h:ldOf P st o=some q):∃ t x,o.op=.load t x∧st.ev x=.cv (.one (.loc q.1 q.2.1))∧szAgg P t=some (q.2.2.1,q.2.2.2):=by
 unfold ldOf at h;split at h
 ·rename_i t x ho;split at h
  ·rename_i g n k off h1 h2;cases h;exact⟨t,x,ho,h2,h1⟩
  ·cases h
 ·cases h
theorem PFact.reload{ops:Array Oper}{rem rem':List Nat}{listed listed':Array Bool}{st st':St}{ρ ρ':Env}{β β':Nat→Nat}{a a':Act}{p:Pend}(f:PFact P W ops rem listed st ρ β a p)(hc:st.c.le st'.c)(hl:Env.like st.c ρ ρ')(hb:∀ k,k < st.c.nk→β' k=β k)(hn:st'.n=st.n)
  (hrem:∀ j∈rem',j∈rem) (hun:listed'.getD p.j false=false→listed.getD p.j false=false) (hdst:∀ d,p.dst=some d→getS st'.t d=getS st.t d)
  (ht:∀ d j oj,ops[j]? = some oj→oj.dst=some d→j∈dirs ops p.j→getS st'.t d=getS st.t d) (hlist:∀ j,listed.getD j false=false→j∈dirs ops p.j→listed'.getD j false=false)
  (htm:listed'.getD p.j false=false→∀ d o,ops[p.j]? = some o→d∈o.looksAt ops→a'.tmps[d]? = a.tmps[d]?) (hm:reld st.t st'.m p=true) (hwf:st'.WF) (hkn:KnL.den st'.k ρ'):PFact P W ops rem' listed' st' ρ' β' a' p:=by
 refine⟨f.dst,fun h=>f.out (hrem _ h),fun d hd=>by rw [hn];exact f.slot d hd,fun j hj h=>f.pre j hj (hrem _ h),fun hu => ?_⟩;obtain⟨o,stp,v,b,g1,g2,g3,g4,g5,g6,g7,g8,g9,g10,g11⟩:=f.run (hun hu);have hl2:Env.like stp.c ρ ρ':=Env.like_le g3 hl;have hle:stp.c.le st'.c:=Ctr.le_trans g3 hc;unfold reld at hm;split at hm;rotate_left
 ·cases hm
 rename_i q d hq hd;split at hm;rotate_left
 ·cases hm
 rename_i cs ty u hcs hgu;have hu2:=of_decide_eq_true hm;obtain⟨t,x,e1,e2,e3⟩:=g11 q hq;have hv:v=.cv u:=by rw [← g5 d hd,hgu]
 have wf2:({st' with t:=stp.t}:St).WF:=⟨fun i=>SV.wf_le hle (g2.t i),hwf.m,hwf.o,hwf.ap,hwf.r,hwf.d,hwf.k,hwf.df⟩
 have hev:∀ y,stp.ev x=y→y ≠ .any→(∀ g,x ≠ .global g)→({st' with t:=stp.t}:St).ev x=y:=fun y hy _ hg=>by
  cases x with
  | tmp s=>exact hy
  | const s=>exact hy
  | func s=>exact hy
  | global g=>exact (hg g rfl).elim
 have hx2:({st' with t:=stp.t}:St).ev x=.cv (.one (.loc q.1 q.2.1)):=hev _ e2 (by simp) fun g hg=>by
  subst hg;simp only [St.ev]at e2;split at e2 <;> cases e2
 have hrd:readsOf ({st' with t:=stp.t}:St) o=readsOf stp o:=by
  unfold readsOf;rw [e1];simp only [hx2,e2]
 refine⟨o,{st' with t:=stp.t},v,b,g1,wf2,Ctr.le_refl _,hkn,fun d hd=>by rw [hdst d hd];exact g5 d hd,g6, ?_,fun d hdl=>⟨fun j oj h1 h2 h3=>by rw [ht d j oj h1 h2 h3];exact (g8 d hdl).1 j oj h1 h2 h3, ?_⟩,g9,fun hb1=>⟨fun ρ'' h => ?_,fun k hk=>⟨?_,rfl⟩⟩,fun q' hq' => ?_⟩
 ·have:=g7.like g2 hl2
  unfold Wants at this ⊢;exact this
 ·rcases (g8 d hdl).2 with ⟨j,oj,h1,h2,h3,h4⟩ | h
  ·exact .inl ⟨j,oj,h1,h2,h3,hlist j h4 h3⟩
  ·right;intro hne;have hne:getS stp.t d ≠ .any:=hne;show _=some ((getS stp.t d).den ρ' β');rw [htm hu d o g1 hdl,h hne,SV.den_like hl2 (fun k hk=>hb k (Nat.lt_of_lt_of_le hk g3.k)) (g2.t d)]
 ·rw [hv];exact zjv (ty:=ty) wf2 (KnL.den_like h hwf.k hkn) e1 hx2 e3 hcs hu2
 ·rw [hrd]at hk;exact ((g10 hb1).2 k hk).1
 ·rw [hq]at hq';cases hq';exact⟨t,x,e1,hx2,e3⟩
theorem zok{ops:Array Oper}{listed:Array Bool}(hcl:∀ j o,ops[j]? = some o→listed.getD j false=true→∀ e∈o.after,Region.binds .any e=true→listed.getD e.on false=true) :
    ∀ (n:Nat) (acc:List Nat),(∀ j∈acc,listed.getD j false=true)→∀ j∈closD ops n acc,listed.getD j false=true
  | 0,acc,h=>h
  | n + 1,acc,h=>by
    unfold closD;refine zok hcl n _ fun j hj => ?_;split at hj
    · rename_i hn;rcases zoe _ _ hj with hj | hj
      · exact h j hj
      · have hln:=h n (List.contains_iff_mem.1 hn);cases ho:ops[n]? with
        | none=>unfold dirs at hj;rw [ho]at hj;cases hj
        | some o =>
          obtain⟨e,he,hb,rfl⟩:=(ztg ho).1 hj;exact hcl n o ho hln e he hb
    · exact h j hj
theorem zdf{ops:Array Oper}{listed:Array Bool}(hcl:∀ j o,ops[j]? = some o→listed.getD j false=true→∀ e∈o.after,Region.binds .any e=true→listed.getD e.on false=true){i:Nat}(hr:∀ j∈dirs ops i,listed.getD j false=true):∀ j∈before ops i,listed.getD j false=true:=by
 unfold before;refine zok hcl i _ fun j hj => ?_;rcases zoe _ _ hj with h | h
 ·cases h
 ·exact hr j h
theorem zyq{ops:Array Oper}(hd:drawOk ops=true){i:Nat}{r:List Nat}{st:St}{L:List Pend}{ρ:Env}{listed:Array Bool}{β:Nat→Nat}{a:Act}{w:World}(inv:YInv P W R Z ops (i::r) st L ρ listed β a w){o:Oper}(ho:ops[i]? = some o)(hir:i ∉ r)(hpre:∀ j∈dirs ops i,j ∉ i::r)
  (hr:∀ j∈dirs ops i,listed.getD j false=true) (hdst:dstOk st.n o.dst=true) {s:St} {ρ2:Env} {β2:Nat→Nat} {a2:Act} {w2:World} (hC:Core W R Z ρ2 β2 s a2 w2) (hc:st.c.le s.c) (hl:Env.like st.c ρ ρ2) (hb:∀ k,k < st.c.nk→β2 k=β k) (hsh:Shape o a a2)
  (hsame:∀ p∈L.filter (fun p => !(before ops i).contains p.j),(∀ k∈p.rd,getE s.m s.o k=getE st.m st.o k)∨reld st.t s.m p=true) :
  YInv P W R Z ops r {s with t:=putT st.t o.dst (match o.dst with | some d=>getS s.t d | none=>.any),n:=st.n} (L.filter fun p => !(before ops i).contains p.j) ρ2 (listed.setIfInBounds i true) β2 a2 w2:=by
 have his:i < ops.size:=(Array.getElem?_eq_some_iff.1 ho).1;have hil:i < listed.size:=by rw [inv.size];exact his
 have hgs:∀ j,(listed.setIfInBounds i true).getD j false=if i=j then true else listed.getD j false:=fun j=>zyd listed i j hil
 have hiun:listed.getD i false=false:=by
  cases h:listed.getD i false with
  | false=>rfl
  | true=>exact (inv.lst i h (by simp)).elim
 have hgt:∀ d,getS (putT st.t o.dst (match o.dst with | some d=>getS s.t d | none=>.any)) d=if o.dst=some d then getS s.t d else getS st.t d:=fun d=>by
  rw [zsb];by_cases h:o.dst=some d
  ·rw [if_pos h,if_pos h,h]
  ·rw [if_neg h,if_neg h]
 refine⟨by simp [inv.size],fun j oj hj hlj e he hb' => ?_,fun j hlj => ?_,fun j hj hjr => ?_,fun q hq => ?_,fun d => ?_, ?_⟩
 ·rw [hgs]at hlj ⊢;by_cases h1:i=e.on
  ·rw [if_pos h1]
  ·rw [if_neg h1];by_cases h2:i=j
   ·subst h2;rw [ho]at hj;cases hj;exact hr e.on ((ztg ho).2 ⟨e,he,hb',rfl⟩)
   ·rw [if_neg h2]at hlj;exact inv.clo j oj hj hlj e he hb'
 ·rw [hgs]at hlj;by_cases h:i=j
  ·subst h;exact hir
  ·rw [if_neg h]at hlj;exact fun h2=>inv.lst j hlj (List.mem_cons_of_mem _ h2)
 ·rw [hgs];by_cases h:i=j
  ·rw [if_pos h];exact .inl rfl
  ·rw [if_neg h];rcases inv.cov j hj (fun h2=>(List.mem_cons.1 h2).elim (fun e=>h e.symm) hjr)with h3 | ⟨p,hp,hpj⟩
   ·exact .inl h3
   ·by_cases hbf:p.j∈before ops i
    ·left;rw [← hpj];exact zdf inv.clo hr _ hbf
    ·exact .inr ⟨p,List.mem_filter.2 ⟨hp,by simpa using hbf⟩,hpj⟩
 ·have hqL:q∈L:=(List.mem_filter.1 hq).1;have fq:=inv.pnd q hqL;have hne:i≠q.j:=fun e=>fq.out (by rw [← e];simp)
  have nodst:∀ d j oj,ops[j]? = some oj→oj.dst=some d→(j=q.j∨j∈dirs ops q.j)→o.dst≠some d:=fun d j oj h1 h2 h3 h4=>by
   have:=zyj hd ho h1 h4 h2
   subst this;rcases h3 with h3 | h3
   ·exact hne h3
   ·exact fq.pre i h3 (by simp)
  have m1:∀ d,q.dst=some d→getS (putT st.t o.dst (match o.dst with | some d=>getS s.t d | none=>.any)) d=getS st.t d:=fun d hd'=>by
   obtain⟨oq,e1,e2⟩:=fq.dst;rw [hgt,if_neg (nodst d q.j oq e1 (by rw [e2,hd']) (.inl rfl))]
  have m2:∀ d j oj,ops[j]? = some oj→oj.dst=some d→j∈dirs ops q.j→getS (putT st.t o.dst (match o.dst with | some d=>getS s.t d | none=>.any)) d=getS st.t d:=fun d j oj h1 h2 h3=>by
   rw [hgt,if_neg (nodst d j oj h1 h2 (.inr h3))]
  have m3:∀ j,listed.getD j false=false→j∈dirs ops q.j→(listed.setIfInBounds i true).getD j false=false:=fun j h1 h2=>by
   have:i≠j:=fun e=>fq.pre j h2 (by rw [← e];simp)
   rw [hgs,if_neg this];exact h1
  have m4:(listed.setIfInBounds i true).getD q.j false=false→∀ d o',ops[q.j]? = some o'→d∈o'.looksAt ops→a2.tmps[d]? = a.tmps[d]? := fun h d oq h1 h2=>by
   refine hsh.2 d fun hod => ?_;rcases znm hd h1 ho hod h2 with h3 | h3
   ·exact fq.pre i h3 (by simp)
   ·rw [hgs,if_neg hne]at h;rw [hr q.j h3]at h;cases h
  rcases hsame q hq with hsm | hsm
  ·exact fq.move hc hl hb rfl (fun j hj=>List.mem_cons_of_mem _ hj) (fun h=>by rw [hgs,if_neg hne]at h;exact h) m1 m2 m3 m4 fun h k hk=>hsm k hk
  ·refine fq.reload hc hl hb rfl (fun j hj=>List.mem_cons_of_mem _ hj) (fun h=>by rw [hgs,if_neg hne]at h;exact h) m1 m2 m3 m4 hsm ⟨fun d => ?_,hC.wf.m,hC.wf.o,hC.wf.ap,hC.wf.r,hC.wf.d,hC.wf.k,hC.wf.df⟩ hC.kn;show (getS (putT _ _ _) d).wf s.c=true;rw [hgt];split
   ·exact hC.wf.t d
   ·exact SV.wf_le hc (inv.tw d)
 ·show (getS (putT _ _ _) d).wf s.c=true;rw [hgt];split
  ·exact hC.wf.t d
  ·exact SV.wf_le hc (inv.tw d)
 ·have hst:a2.tmps.size=st.n:=by rw [hsh.1];exact inv.core.size
  refine⟨hst,fun d hn => ?_,hC.dfr,hC.below,hC.mem,hC.inj,hC.lps,hC.rin,hC.ded,hC.dn,⟨fun d => ?_,hC.wf.m,hC.wf.o,hC.wf.ap,hC.wf.r,hC.wf.d,hC.wf.k,hC.wf.df⟩,hC.kn⟩
  ·rcases zua (putT st.t o.dst (match o.dst with | some d=>getS s.t d | none=>.any)) ((L.filter fun p => !(before ops i).contains p.j).filter fun p => !(listed.setIfInBounds i true).getD p.j false) d with h | ⟨h,h2⟩
   ·exact (hn h).elim
   ·have hn':getS (putT st.t o.dst (match o.dst with | some d=>getS s.t d | none=>.any)) d ≠ .any:=by rw [← h];exact hn
    show _=some ((getS (hideP _ _) d).den ρ2 β2);rw [h];rw [hgt]at hn' ⊢;by_cases hod:o.dst=some d
    ·rw [if_pos hod]at hn' ⊢;exact hC.tmps d hn'
    ·rw [if_neg hod]at hn' ⊢;rw [hsh.2 d hod]
     have e3:getS (hideP st.t (L.filter fun q => !listed.getD q.j false)) d=getS st.t d:=zac _ _ _ fun q hq=>by
      simp only [List.mem_filter,Bool.not_eq_true']at hq;have hqi:i≠q.j:=fun e=>(inv.pnd q hq.1).out (by rw [← e];simp)
      have hbf:q.j ∉ before ops i:=fun hbf=>by
       have:=zdf inv.clo hr _ hbf
       rw [this]at hq;cases hq.2
      exact h2 q (List.mem_filter.2 ⟨List.mem_filter.2 ⟨hq.1,by simpa using hbf⟩,by rw [hgs,if_neg hqi,hq.2];rfl⟩)
     have h5:=inv.core.tmps d (by show getS (hideP st.t _) d ≠ .any;rw [e3];exact hn');rw [h5];show some ((getS (hideP st.t _) d).den ρ β)=_;rw [e3,SV.den_like hl hb (inv.tw d)]
  ·show (getS (hideP _ _) d).wf s.c=true;rcases zua (putT st.t o.dst (match o.dst with | some d=>getS s.t d | none=>.any)) ((L.filter fun p => !(before ops i).contains p.j).filter fun p => !(listed.setIfInBounds i true).getD p.j false) d with h | ⟨h,_⟩
   ·rw [h];rfl
   ·rw [h,hgt];split
    ·exact hC.wf.t d
    ·exact SV.wf_le hc (inv.tw d)
def FOk(F:Kf)(c:Ctr)(ρ:Env):Prop:=∀ x∈F,x.1.wf c=true∧x.1.den ρ=x.2
theorem FOk.mono{F:Kf}{c c':Ctr}{ρ ρ':Env}(h:FOk F c ρ)(hc:c.le c')(hl:Env.like c ρ ρ'):FOk F c' ρ':=fun x hx=>⟨BE.wf_le hc (h x hx).1,(BE.den_like hl (h x hx).1).trans (h x hx).2⟩
theorem FOk.look{F:Kf}{c:Ctr}{ρ:Env}(h:FOk F c ρ){e:BE}{b:Bool}(he:F.lookup e=some b):e.den ρ=b:=by
  induction F with
  | nil=>cases he
  | cons x r ih =>
    rw [List.lookup_cons]at he;split at he
    · rename_i hq
      have:e=x.1:=by simpa using hq
      cases he;rw [this];exact (h x (by simp)).2
    · exact ih (fun y hy=>h y (by simp [hy])) he
theorem zbj{F:Kf}{c:Ctr}{e:BE}{t f:Kf→Env→Prop}{ρ:Env}(hF:FOk F c ρ)(hw:e.wf c=true)(h:doForkK (PA P W Q QM QP) F e t f ρ):∃ F',FOk F' c ρ∧((e.den ρ=true∧t F' ρ)∨(e.den ρ=false∧f F' ρ)):=by
  unfold doForkK at h;cases he:F.lookup e with
  | some b =>
    rw [he]at h
    have:=hF.look he
    cases b with
    | true=>exact⟨F,hF,.inl ⟨this,h⟩⟩
    | false=>exact⟨F,hF,.inr ⟨this,h⟩⟩
  | none =>
    rw [he]at h
    have cons:∀ b,e.den ρ=b→FOk ((e,b)::F) c ρ:=fun b hb x hx=>by
      rcases List.mem_cons.1 hx with rfl | hx
      · exact⟨hw,hb⟩
      · exact hF x hx
    rcases zaa h with ⟨h1,h2⟩ | ⟨h1,h2⟩
    · exact⟨_,cons _ h1,.inl ⟨h1,h2⟩⟩
    · exact⟨_,cons _ h1,.inr ⟨h1,h2⟩⟩
theorem zcj{ops:Array Oper}{st:St}{F:Kf}{o:Oper}{go no:Kf→Env→Prop}{ρ:Env}(hF:FOk F st.c ρ)(htw:∀ i,(getS st.t i).wf st.c=true)(h:doGuard (PA P W Q QM QP) F (guardOf ops st o) go no ρ) :
    ∃ b F',FOk F' st.c ρ∧Wants ops ρ st o b∧(b=true→go F' ρ)∧(b=false→no F' ρ):=by
  unfold guardOf at h;cases hg:o.guard with
  | none =>
    rw [hg]at h;exact⟨true,F,hF,by unfold Wants;rw [hg],fun _=>h,fun e=>absurd e (by simp)⟩
  | some jw =>
    obtain⟨j,want⟩:=jw;rw [hg]at h;simp only at h;generalize hb:(ops[j]?).bind (·.dst)=u at h;cases u with
    | none=>exact h.elim
    | some d =>
      simp only at h;split at h;rotate_left
      · exact h.elim
      generalize hs:getS st.t d=sv at h;split at h
      · rename_i e;simp only [doGuard]at h;have hwe:e.wf st.c=true:=by have:=htw d;rw [hs]at this;exact this
        obtain⟨F',hF',⟨h1,h2⟩ | ⟨h1,h2⟩⟩:=zbj hF hwe h
        · refine⟨want,F',hF',by unfold Wants;rw [hg];exact⟨d,hb,.inl ⟨e,hs,by rw [h1];cases want <;> rfl⟩⟩,fun hw => ?_,fun hw => ?_⟩
          · rw [if_pos hw]at h2;exact h2
          · rw [if_neg (by rw [hw];simp)]at h2;exact h2
        · refine⟨!want,F',hF',by unfold Wants;rw [hg];exact⟨d,hb,.inl ⟨e,hs,by rw [h1];cases want <;> rfl⟩⟩,fun hw => ?_,fun hw => ?_⟩
          · rw [if_neg (by cases want <;> simp_all)]at h2;exact h2
          · rw [if_pos (by cases want <;> simp_all)]at h2;exact h2
      · exact⟨false,F,hF,by unfold Wants;rw [hg];exact⟨d,hb,.inr ⟨hs,rfl⟩⟩,(fun e=>absurd e (by simp)),fun _=>h⟩
      · exact h.elim
theorem zrw{G:Cfg}(hG:G.Ok){st:St}{o:Oper}{K:SV→Ctr→KnL→Env→Prop}{ρ:Env}(wf:st.WF)(hkn:KnL.den st.k ρ)(h:opf (PA G.P W Q QM QP) G st o K ρ) :
    ∃ v c k ρ',K v c k ρ'∧st.c.le c∧c.nk=st.c.nk∧Env.like st.c ρ ρ'∧v.wf c=true∧KnL.wf k c∧KnL.den k ρ'∧∀ ρ'',Env.like c ρ' ρ''→ValOk G.P W st o v ρ'':=by
  have val : opv (PA G.P W Q QM QP) G st o (fun v c => if c.nk = st.c.nk ∧ v.wf c = true then K v c st.k else (PA G.P W Q QM QP).fail "drawn: value") ρ →
      ∃ v c k ρ',K v c k ρ'∧st.c.le c∧c.nk=st.c.nk∧Env.like st.c ρ ρ'∧v.wf c=true∧KnL.wf k c∧KnL.den k ρ'∧∀ ρ'',Env.like c ρ' ρ''→ValOk G.P W st o v ρ'':=by
    intro h;obtain⟨v,c,ρ',h1,h2,h3,h4⟩:=zpl hG wf hkn h;split at h1
    · rename_i hc;exact⟨v,c,st.k,ρ',h1,h2,hc.1,h3,hc.2,fun z hz=>Kn.wf_le h2 (wf.k z hz),KnL.den_like h3 wf.k hkn,h4⟩
    · exact h1.elim
  obtain⟨dst,op,type,pos,after,guard⟩:=o;unfold opf at h;simp only [zxv]at h;cases op <;> first | exact val h | skip
  rename_i t x;simp only at h;generalize hu:G.P.underlying t=u1 at h;generalize hx:st.ev x=sx at h;split at h
  · exact h.elim
  · rename_i d v hni;split at h
    · rename_i hv;obtain⟨hv1,hv2⟩:=hv;have h:=h ⟨.iface t (v.den ρ b0),rfl⟩ rfl;have hle:st.c.le {st.c with nv:=st.c.nv + 1}:=zx st.c .oth;have hlk:=zpf st.c ρ ⟨.iface t (v.den ρ b0),rfl⟩
      have e0:∀ ρ'',Env.like {st.c with nv:=st.c.nv + 1} (ρ.setV st.c.nv ⟨.iface t (v.den ρ b0),rfl⟩) ρ''→(ρ''.v st.c.nv).1=.iface t (v.den ρ'' b0):=fun ρ'' hl=>by
        rw [hl.v st.c.nv (Nat.lt_succ_self _),CV.den_like (Env.like_trans hle hlk hl) (fun _ _=>rfl) hv2];exact congrArg (fun y:OV=>y.1) (if_pos rfl)
      refine⟨_,_,_,_,h,hle,rfl,hlk,by simp [SV.wf,CV.wf,At.wf],fun z hz => ?_,fun z hz => ?_,fun ρ'' hl=>ValOk.run fun β a w hB hops hr=>⟨.iface t (v.den ρ'' β), ?_,fun _ => ?_⟩⟩
      · rcases List.mem_cons.1 hz with rfl | hz
        · simp only [Kn.wf,Bool.and_eq_true,decide_eq_true_eq];exact⟨Nat.lt_succ_self _,CV.wf_le hle hv2,hv1⟩
        · exact Kn.wf_le hle (wf.k z hz)
      · rcases List.mem_cons.1 hz with rfl | hz
        · simp only [Kn.den];exact e0 _ (Env.like_refl _ _)
        · exact Kn.den_like hlk (wf.k z hz) (hkn z hz)
      · have e1:=hops x (by simp [Op.operands]) (by rw [hx];simp);rw [hx]at e1;simp only [execOp,e1];refine zl _ w _ ?_
        cases d <;> first
          | (exact (hni _ rfl).elim)
          | (simp [Instr.makeInterface,run_underlying hu,SV.den])
      · show _=(ρ''.v st.c.nv).1;rw [e0 ρ'' hl,CV.den_flat ρ'' β b0 hv1]
    · exact h.elim
  · exact h.elim
theorem zkv{G:Cfg}(hG:G.Ok){st:St}{F:Kf}{o:Oper}{K:SV→Ctr→KnL→Kf→Env→Prop}{ρ:Env}(wf:st.WF)(hF:FOk F st.c ρ)(hkn:KnL.den st.k ρ)(h:opfK (PA G.P W Q QM QP) G st F o K ρ) :
  ∃ v c k ρ' F',FOk F' c ρ'∧K v c k F' ρ'∧st.c.le c∧c.nk=st.c.nk∧Env.like st.c ρ ρ'∧v.wf c=true∧KnL.wf k c∧KnL.den k ρ'∧∀ ρ'',Env.like c ρ' ρ''→ValOk G.P W st o v ρ'':=by
 have gen:opf (PA G.P W Q QM QP) G st o (fun v c k=>K v c k F) ρ→∃ v c k ρ' F',FOk F' c ρ'∧K v c k F' ρ'∧st.c.le c∧c.nk=st.c.nk∧Env.like st.c ρ ρ'∧v.wf c=true∧KnL.wf k c∧KnL.den k ρ'∧∀ ρ'',Env.like c ρ' ρ''→ValOk G.P W st o v ρ'':=by
  intro h;obtain⟨v,c,k,ρ',g1,g2,g3,g4,g5⟩:=zrw hG wf hkn h;exact⟨v,c,k,ρ',F,hF.mono g2 g4,g1,g2,g3,g4,g5⟩
 obtain⟨dst,op,type,pos,after,guard⟩:=o;unfold opfK at h;cases op <;> first | exact gen h | skip
 rename_i x a b;simp only at h;generalize hx:st.ev x=sx at h;split at h;rotate_left
 ·exact h.elim
 rename_i e;have hwe:e.wf st.c=true:=by have:=wf.ev x;rw [hx]at this;exact this
 have fin:∀ (bb:Bool),e.den ρ=bb→∀ ρ'',Env.like st.c ρ ρ''→ValOk G.P W st ⟨dst,.pick x a b,type,pos,after,guard⟩ (st.ev (if bb=true then a else b)) ρ'':=by
  intro bb hd ρ'' hl;refine ValOk.run fun β ac w hB ho hr=>⟨ac.eval (if bb=true then a else b), ?_,fun hn=>ho _ (by cases bb <;> simp [Op.operands]) hn⟩;have hc:=ho x (by simp [Op.operands]) (by rw [hx];simp);rw [hx]at hc;simp only [SV.den,CV.den,At.den,BE.den_like hl hwe,hd]at hc;cases bb <;> simp [execOp,hc,asBool]
 obtain⟨F',hF',⟨h1,h2⟩ | ⟨h1,h2⟩⟩:=zbj hF hwe h
 ·exact⟨_,_,_,ρ,F',hF',h2,Ctr.le_refl _,rfl,Env.like_refl _ _,wf.ev a,wf.k,hkn,fin true h1⟩
 ·exact⟨_,_,_,ρ,F',hF',h2,Ctr.le_refl _,rfl,Env.like_refl _ _,wf.ev b,wf.k,hkn,fin false h1⟩
theorem zxn{ops:Array Oper}(hd:drawOk ops=true){i:Nat}{r:List Nat}{st:St}{L:List Pend}{ρ:Env}{listed:Array Bool}{β:Nat→Nat}{a:Act}{w:World}(inv:YInv P W R Z ops (i::r) st L ρ listed β a w){o:Oper}(ho:ops[i]? = some o)(hir:i ∉ r)(hpre:∀ j∈dirs ops i,j ∉ i::r)
  (hdst:dstOk st.n o.dst=true) {v:SV} {c:Ctr} {k:KnL} {ρ':Env} {b:Bool} {rd:List Nat} {ld:Option (Nat × Nat × Bool × Nat)} (hc:st.c.le c) (hl:Env.like st.c ρ ρ') (hv:v.wf c=true) (hk1:KnL.wf k c) (hk2:KnL.den k ρ') (nd:∀ c,o.op ≠ .defer c) (hw:Wants ops ρ st o b) (hb0:b=false→v=.und)
  (hb1:b=true→(∀ ρ'',Env.like c ρ' ρ''→ValOk P W st o v ρ'')∧∀ k∈readsOf st o,k∈rd) (hld:∀ q,ld=some q→∃ t x,o.op=.load t x∧st.ev x=.cv (.one (.loc q.1 q.2.1))∧szAgg P t=some (q.2.2.1,q.2.2.2)):YInv P W R Z ops r {st with t:=putT st.t o.dst v,c:=c,k:=k} (⟨i,o.dst,rd,ld⟩::L) ρ' listed β a w:=by
 have wfst:st.WF:=⟨inv.tw,inv.core.wf.m,inv.core.wf.o,inv.core.wf.ap,inv.core.wf.r,inv.core.wf.d,inv.core.wf.k,inv.core.wf.df⟩
 have hiun:listed.getD i false=false:=by
  cases h:listed.getD i false with
  | false=>rfl
  | true=>exact (inv.lst i h (by simp)).elim
 have hne:∀ q∈L,i≠q.j:=fun q hq e=>(inv.pnd q hq).out (by rw [← e];simp);refine⟨inv.size,inv.clo,fun j hj h=>inv.lst j hj (List.mem_cons_of_mem _ h),fun j hj hjr => ?_,fun q hq => ?_,fun d => ?_, ?_⟩
 ·by_cases h:i=j
  ·exact .inr ⟨⟨i,o.dst,rd,ld⟩,by simp,h⟩
  ·rcases inv.cov j hj (fun h2=>(List.mem_cons.1 h2).elim (fun e=>h e.symm) hjr)with h3 | ⟨p,hp,hpj⟩
   ·exact .inl h3
   ·exact .inr ⟨p,List.mem_cons_of_mem _ hp,hpj⟩
 ·rcases List.mem_cons.1 hq with rfl | hq
  ·refine⟨⟨o,ho,rfl⟩,hir,fun d hd' => ?_,fun j hj h=>hpre j hj (List.mem_cons_of_mem _ h),fun _=>⟨o,st,v,b,ho,wfst,hc,KnL.den_like hl wfst.k inv.core.kn,fun d hd' => ?_,nd,hw.like wfst hl,fun d hdl=>⟨fun j oj h1 h2 h3 => ?_, ?_⟩,hb0,fun hb=>⟨(hb1 hb).1,fun k hk=>⟨(hb1 hb).2 k hk,rfl⟩⟩,hld⟩⟩
   ·rw [show o.dst=some d from hd']at hdst;simpa [dstOk]using hdst
   ·show getS (putT st.t o.dst v) d=v;rw [zsb,if_pos hd']
   ·show _=getS (putT st.t o.dst v) d;rw [zsb,if_neg fun h => ?_]
    have:=zyj hd ho h1 h h2
    subst this;exact hpre i h3 (by simp)
   ·by_cases hx:∃ j oj,ops[j]? = some oj∧oj.dst=some d∧j∈dirs ops i∧listed.getD j false=false
    ·exact .inl hx
    ·right;intro hn
     have e3:getS (hideP st.t (L.filter fun q => !listed.getD q.j false)) d=getS st.t d:=zac _ _ _ fun q hq h=>by
      simp only [List.mem_filter,Bool.not_eq_true']at hq;have fq:=inv.pnd q hq.1;obtain⟨oq,q1,q2⟩:=fq.dst;rcases znm hd ho q1 (by rw [q2,h]) hdl with h4 | h4
      ·exact hx ⟨q.j,oq,q1,by rw [q2,h],h4,hq.2⟩
      ·exact fq.pre i h4 (by simp)
     have h5:=inv.core.tmps d (by show getS (hideP st.t _) d ≠ .any;rw [e3];exact hn);rw [h5];show some ((getS (hideP st.t _) d).den ρ β)=_;rw [e3,SV.den_like hl (fun _ _=>rfl) (inv.tw d)]
  ·have fq:=inv.pnd q hq
   have nodst:∀ d j oj,ops[j]? = some oj→oj.dst=some d→(j=q.j∨j∈dirs ops q.j)→o.dst≠some d:=fun d j oj h1 h2 h3 h4=>by
    have:=zyj hd ho h1 h4 h2
    subst this;rcases h3 with h3 | h3
    ·exact hne q hq h3
    ·exact fq.pre i h3 (by simp)
   refine fq.move hc hl (fun _ _=>rfl) rfl (fun j hj=>List.mem_cons_of_mem _ hj) (fun h=>h) (fun d hd' => ?_) (fun d j oj h1 h2 h3 => ?_) (fun j h1 h2=>h1) (fun _ d oq h1 h2=>rfl) fun _ _ _=>rfl
   ·show getS (putT _ _ _) d=_;obtain⟨oq,e1,e2⟩:=fq.dst;rw [zsb,if_neg (nodst d q.j oq e1 (by rw [e2,hd']) (.inl rfl))]
   ·show getS (putT _ _ _) d=_;rw [zsb,if_neg (nodst d j oj h1 h2 (.inr h3))]
 ·show (getS (putT _ _ _) d).wf c=true;rw [zsb];split
  ·exact hv
  ·exact SV.wf_le hc (inv.tw d)
 ·have hC':=inv.core;have g:=wfst.grow hc
  have hfil:((⟨i,o.dst,rd,ld⟩:Pend)::L).filter (fun p => !listed.getD p.j false)=⟨i,o.dst,rd,ld⟩::L.filter (fun p => !listed.getD p.j false):=by
   rw [List.filter_cons,if_pos (by simp [hiun])]
  have hwt:∀ d,(getS (hideP (putT st.t o.dst v) (((⟨i,o.dst,rd,ld⟩:Pend)::L).filter fun p => !listed.getD p.j false)) d).wf c=true:=fun d=>by
   rcases zua (putT st.t o.dst v) (((⟨i,o.dst,rd,ld⟩:Pend)::L).filter fun p => !listed.getD p.j false) d with h | ⟨h,_⟩
   ·rw [h];rfl
   ·rw [h,zsb];split
    ·exact hv
    ·exact SV.wf_le hc (inv.tw d)
  have hC2:=hC'.like hl;refine⟨hC'.size,fun d hn => ?_,hC'.dfr,hC'.below,fun k e hg=>hC2.mem k e hg,hC'.inj,hC'.lps,hC'.rin,hC'.ded,hC'.dn,⟨hwt,g.m,g.o,g.ap,g.r,g.d,hk1,g.df⟩,hk2⟩;rcases zua (putT st.t o.dst v) (((⟨i,o.dst,rd,ld⟩:Pend)::L).filter fun p => !listed.getD p.j false) d with h | ⟨h,h2⟩
  ·exact (hn h).elim
  ·have hod:o.dst≠some d:=h2 ⟨i,o.dst,rd,ld⟩ (by rw [hfil];simp);have hn':getS (putT st.t o.dst v) d ≠ .any:=by rw [← h];exact hn
   show _=some ((getS (hideP _ _) d).den ρ' β);rw [h];rw [zsb,if_neg hod]at hn' ⊢;have e3:getS (hideP st.t (L.filter fun q => !listed.getD q.j false)) d=getS st.t d:=zac _ _ _ fun q hq=>h2 q (by rw [hfil];exact List.mem_cons_of_mem _ hq);have h5:=hC2.tmps d (by show getS (hideP st.t _) d ≠ .any;rw [e3];exact hn');rw [h5];show some ((getS (hideP st.t _) d).den ρ' β)=_;rw [e3]
theorem zmd{G:Cfg}(hG:G.Ok){ops:Array Oper}(hd:drawOk ops=true){r:Option Nat}{mm:Nat}{c0:Ctr}{ρ0:Env}{β0:Nat→Nat}{Q':Exit→Act→World→Prop}{step:St→Oper→(St→Env→Prop)→Env→Prop}(hs:StepOk G.P W R Z r mm c0 ρ0 β0 Q' step){K:St→Env→Prop} :
    ∀ (rem:List Nat) (st:St) (F:Kf) (L:List Pend) (ρ:Env),okC G.P ops rem=true→FOk F st.c ρ→(∀ i,(getS st.t i).wf st.c=true)→execY (PA G.P W Q QM QP) G step ops rem st F L K ρ→c0.le st.c→Env.like c0 ρ0 ρ →
      ∀ (fuel:Nat) (listed:Array Bool) (β:Nat→Nat) (a:Act) (w:World),(∀ k,k < c0.nk→β k=β0 k)→YInv G.P W R Z ops rem st L ρ listed β a w→unl listed ops.size=fuel→Nxt W R Z st ρ β K (Q' .normal)→wpAnyIn (Fr r) mm G.P .any ops Q' fuel listed a w
  | [],st,F,L,ρ,_,_,_,h,hc0,hl0=>by
    intro fuel
    have done:∀ (fuel:Nat) (listed:Array Bool) (β:Nat→Nat) (a:Act) (w:World),YInv G.P W R Z ops [] st L ρ listed β a w→Nxt W R Z st ρ β K (Q' .normal)→(∀ j,j < ops.size→listed.getD j false=true)→wpAnyIn (Fr r) mm G.P .any ops Q' fuel listed a w:=by
      intro fuel listed β a w inv hn hall;refine wpAnyIn_done ?_ ?_ fuel
      · refine List.eq_nil_iff_forall_not_mem.2 fun j hj => ?_;obtain⟨h1,o,ho,_⟩:=mem_ready.1 hj
        have:=hall j (Array.getElem?_eq_some_iff.1 ho).1
        rw [getD_both h1]at this;cases this
      · unfold execY at h
        have hf:(L.filter fun p => !listed.getD p.j false)=[]:=by
          refine List.filter_eq_nil_iff.2 fun p hp => ?_;obtain⟨o,ho,_⟩:=(inv.pnd p hp).dst;rw [hall p.j (Array.getElem?_eq_some_iff.1 ho).1];simp
        have hC:=inv.core;rw [hf]at hC;exact hn st ρ β a w h (Ctr.le_refl _) (Env.like_refl _ _) (fun _ _=>rfl) hC
    induction fuel with
    | zero =>
      intro listed β a w _ inv hu hn;exact done 0 listed β a w inv hn fun j hj=>zyi hu j hj
    | succ fuel ih =>
      intro listed β a w hb0 inv hu hn;refine⟨fun hnil => ?_,fun x hx => ?_⟩
      · obtain⟨j,hj,hlj,hlt⟩:=zto (listed:=listed) (m:=ops.size) (by omega);have ho:ops[j]? = some ops[j]:=Array.getElem?_eq_getElem hj
        have:j∈Region.ready .any ops listed:=mem_ready.2 ⟨getD_in (by rw [inv.size];exact hj) hlj,_,ho,fun e he hb=>hlt e.on ((zea hd ho).1 e he hb)⟩
        rw [hnil]at this;cases this
      · obtain⟨h1,o,ho,hr⟩:=mem_ready.1 hx;have hxs:=(Array.getElem?_eq_some_iff.1 ho).1;have hxl:x < listed.size:=by rw [inv.size];exact hxs
        have hun:=getD_both h1;rcases inv.cov x hxs (by simp)with h2 | ⟨p,hp,rfl⟩
        · rw [hun]at h2;cases h2
        · refine zxq hd inv hp hun (fun j hj => ?_) fun a' w' inv'=>ih _ β a' w' hb0 inv' ?_ hn
          · obtain⟨e,he,hb,rfl⟩:=(ztg ho).1 hj;exact hr e he hb
          · have:=zuo hxl hun ops.size
            rw [if_pos hxs]at this;omega
  | i::rm,st,F,L,ρ,hok,hF,htw,h,hc0,hl0=>by
    simp only [okC,Bool.and_eq_true,decide_eq_true_eq,Bool.not_eq_true']at hok;obtain⟨⟨⟨⟨his,hir⟩,hpre⟩,hwait⟩,hokr⟩:=hok;have ho:ops[i]? = some ops[i]:=Array.getElem?_eq_getElem his;generalize ops[i]=o at ho;have hir':i ∉ rm:=fun hm=>by rw [List.contains_iff_mem.2 hm]at hir;cases hir
    have hpre':∀ j∈dirs ops i,j ∉ i::rm:=fun j hj hm=>by
      have:=List.all_eq_true.1 hpre j hj
      rw [List.contains_iff_mem.2 hm]at this;cases this
    unfold execY at h;rw [St.norm_eq]at h;unfold ancY floY at h;simp only [ho]at h hwait;split at h;rotate_left
    · exact h.elim
    rename_i hdst;split at h
    ·
      rename_i hanc;rw [hanc]at hwait;simp only [Bool.not_true,Bool.false_or]at hwait
      obtain⟨b,F',hF',hw,hgo,hno⟩:=zcj (st := {st with t:=hideP st.t (L.filter fun p => !(before ops i).contains p.j)}) hF (fun d=>by
        rcases zua st.t (L.filter fun p => !(before ops i).contains p.j) d with h | ⟨h,_⟩
        · show (getS (hideP st.t _) d).wf st.c=true;rw [h];rfl
        · show (getS (hideP st.t _) d).wf st.c=true;rw [h];exact htw d) h
      intro fuel
      induction fuel with
      | zero =>
        intro listed β a w _ inv hu hn;exact (inv.lst i (zyi hu i his) (by simp)).elim
      | succ fuel ih =>
        intro listed β a w hb0 inv hu hn;refine⟨fun hnil => ?_,fun x hx => ?_⟩
        · obtain⟨j,hj,hlj,hlt⟩:=zto (listed:=listed) (m:=ops.size) (by omega);have ho:ops[j]? = some ops[j]:=Array.getElem?_eq_getElem hj
          have:j∈Region.ready .any ops listed:=mem_ready.2 ⟨getD_in (by rw [inv.size];exact hj) hlj,_,ho,fun e he hb=>hlt e.on ((zea hd ho).1 e he hb)⟩
          rw [hnil]at this;cases this
        · obtain⟨h1,ox,hox,hr⟩:=mem_ready.1 hx;have hxs:=(Array.getElem?_eq_some_iff.1 hox).1;have hxl:x < listed.size:=by rw [inv.size];exact hxs
          have hun:=getD_both h1
          have hrd:∀ j∈dirs ops x,listed.getD j false=true:=fun j hj=>by
            obtain⟨e,he,hb,rfl⟩:=(ztg hox).1 hj;exact hr e he hb
          have hfl:unl (listed.setIfInBounds x true) ops.size=fuel:=by
            have:=zuo hxl hun ops.size
            rw [if_pos hxs]at this;omega
          by_cases hxr:x∈i::rm;rotate_left
          · rcases inv.cov x hxs hxr with h2 | ⟨p,hp,rfl⟩
            · rw [hun]at h2;cases h2
            · exact zxq hd inv hp hun hrd fun a' w' inv'=>ih _ β a' w' hb0 inv' hfl hn
          rcases List.mem_cons.1 hxr with rfl | hxr;rotate_left
          · obtain⟨j,hj,hjm⟩:=List.any_eq_true.1 (List.all_eq_true.1 hwait x hxr);exact (inv.lst j (hrd j hj) (List.contains_iff_mem.1 hjm)).elim
          rw [ho]at hox;cases hox
          have hC0:Core W R Z ρ β {st with t:=hideP st.t (L.filter fun p => !(before ops x).contains p.j)} a w:=by
            refine zvo (st := {st with t:=hideP st.t (L.filter fun p => !listed.getD p.j false)}) inv.core (Below.refl _ _) rfl rfl (fun d => ?_) fun d hn' => ?_
            · rcases zua st.t (L.filter fun p => !(before ops x).contains p.j) d with h | ⟨h,_⟩
              · rw [h];rfl
              · rw [h];exact inv.tw d
            · rcases zua st.t (L.filter fun p => !(before ops x).contains p.j) d with h | ⟨h,h2⟩
              · exact (hn' h).elim
              · rw [h]at hn' ⊢
                have e3:getS (hideP st.t (L.filter fun q => !listed.getD q.j false)) d=getS st.t d:=zac _ _ _ fun q hq=>by
                  simp only [List.mem_filter,Bool.not_eq_true']at hq;refine h2 q (List.mem_filter.2 ⟨hq.1, ?_⟩)
                  have hbf:q.j ∉ before ops x:=fun hbf=>by
                    have:=zdf inv.clo hrd _ hbf
                    rw [this]at hq;cases hq.2
                  simpa using hbf
                have h5:=inv.core.tmps d (by show getS (hideP st.t _) d ≠ .any;rw [e3];exact hn');rw [h5];show some ((getS (hideP st.t _) d).den ρ β)=_;rw [e3]
          have hsz:∀ d,o.dst=some d→d < a.tmps.size:=fun d hd'=>by
            rw [inv.core.size];rw [hd']at hdst;simpa [dstOk]using hdst
          unfold wpOpIn;simp only [ho];rw [zwq hw fun d _ hn'=>hC0.tmps d hn'];cases b with
          | false =>
            simp only [Bool.false_eq_true,if_false];refine⟨fun f _=>zvj r f, ?_⟩;have hn2:=hno rfl
            have hC2:Core W R Z ρ β {st with t:=putT (hideP st.t (L.filter fun p => !(before ops x).contains p.j)) o.dst .und} (a.put o.dst undef) w:=by
              refine zvo hC0 (Below.refl _ _) (zaj _ _ _) (zlm _ _ _) (fun d => ?_) fun d hn' => ?_
              · rw [zsb];split
                · rfl
                · exact hC0.wf.t d
              · rw [zvk a o.dst undef d hsz];rw [zsb]at hn' ⊢;by_cases hod:o.dst=some d
                · rw [if_pos hod,if_pos hod];rfl
                · rw [if_neg hod]at hn' ⊢;rw [if_neg hod];exact hC0.tmps d hn'
            have inv2:=zyq hd inv ho hir' hpre' hrd hdst hC2 (Ctr.le_refl _) (Env.like_refl _ _) (fun _ _=>rfl) (zcg o a undef) (fun p hp=>.inl fun k hk=>rfl)
            have he:putT st.t o.dst (match o.dst with | some d=>getS (putT (hideP st.t (L.filter fun p => !(before ops x).contains p.j)) o.dst .und) d | none=>.any)=putT st.t o.dst .und:=by
              cases hod:o.dst with
              | none=>rfl
              | some d=>simp only [putT,zq,if_true]
            simp only [he]at inv2;exact zmd hG hd hs rm _ _ _ ρ hokr (by exact hF') (by exact inv2.tw) hn2 hc0 hl0 fuel _ β _ w hb0 inv2 hfl (hn.far (Ctr.le_refl _) (Env.like_refl _ _) fun _ _=>rfl)
          | true =>
            simp only [if_true];refine ziv ?_;refine hs _ o _ ρ (hgo rfl) hc0 hl0 β a w hb0 hC0 _ fun s ρ2 β2 a2 w2 hk hc hl hb hC2 hsh => ?_;dsimp only at hk;split at hk;rotate_left
            · exact hk.elim
            rename_i hsm
            have inv2:=zyq hd inv ho hir' hpre' hrd hdst hC2 hc hl hb hsh (fun p hp=>by
              have h0:=List.all_eq_true.1 hsm p hp;rw [Bool.or_eq_true]at h0;rcases h0 with h0 | h0
              · refine .inl fun k hk2 => ?_
                have:=List.all_eq_true.1 h0 k hk2
                simp only [sameE,Bool.and_eq_true,decide_eq_true_eq]at this;unfold getE;rw [this.1,this.2]
              · exact .inr h0)
            exact zmd hG hd hs rm _ _ _ ρ2 hokr (by exact hF'.mono hc hl) (by exact inv2.tw) hk (Ctr.le_trans hc0 hc) (Env.like_trans hc0 hl0 hl) fuel _ β2 a2 w2 (fun k hk=>(hb k (Nat.lt_of_lt_of_le hk hc0.k)).trans (hb0 k hk)) inv2 hfl (hn.far hc hl hb)
    ·
      rename_i hanc;intro fuel listed β a w hb0 inv hu hn;have wfst:st.WF:=⟨inv.tw,inv.core.wf.m,inv.core.wf.o,inv.core.wf.ap,inv.core.wf.r,inv.core.wf.d,inv.core.wf.k,inv.core.wf.df⟩;have nd:∀ c,o.op ≠ .defer c:=fun c he=>hanc (by unfold isAnch;rw [he]);obtain⟨b,F',hF',hw,hgo,hno⟩:=zcj hF htw h;cases b with
      | true =>
        obtain⟨v,c,k,ρ',F2,hF2,g1,g2,g3,g4,g5,g6,g7,g8⟩:=zkv hG wfst hF' inv.core.kn (hgo rfl);have inv2:=zxn hd inv ho hir' hpre' hdst (rd:=readsOf st o) (ld:=ldOf G.P st o) g2 g4 g5 g6 g7 nd hw (fun e=>absurd e (by simp)) (fun _=>⟨g8,fun k hk=>hk⟩) (fun q hq=>zqw hq);exact zmd hG hd hs rm _ _ _ ρ' hokr (by exact hF2) (by exact inv2.tw) g1 (Ctr.le_trans hc0 g2) (Env.like_trans hc0 hl0 g4) fuel listed β a w hb0 inv2 hu (hn.far g2 g4 fun _ _=>rfl)
      | false =>
        have inv2:=zxn hd inv ho hir' hpre' hdst (rd := []) (v := .und) (Ctr.le_refl st.c) (Env.like_refl _ _) rfl wfst.k inv.core.kn nd hw (fun _=>rfl) (fun e=>absurd e (by simp)) (ld:=none) (fun q hq=>by cases hq);exact zmd hG hd hs rm _ _ _ ρ hokr (by exact hF') (by exact inv2.tw) (hno rfl) hc0 hl0 fuel listed β a w hb0 inv2 hu (hn.far (Ctr.le_refl _) (Env.like_refl _ _) fun _ _=>rfl)
end Vc
set_option linter.unusedVariables false
namespace Vc
open Go Go.RowKit
variable {P:Program} {W:Wld} {Q:Value→Prop} {QM QP:World→Value→Prop} {R:Nat→Loop} {Z:List Nat}
attribute [local irreducible] behind in
theorem zyn(ops:Array Oper):∀ m,cutOf ops m≤m∧∀ i,cutOf ops m≤i→i < m→∀ j,j < i→beh ops i j=true
  | 0=>⟨Nat.le_refl _,fun i _ h=>by omega⟩
  | m + 1=>by
    obtain⟨h1,h2⟩:=zyn ops m;unfold cutOf;split
    · rename_i hall;refine⟨by omega,fun i h3 h4 j hj => ?_⟩;by_cases him:i=m
      · subst him;exact List.all_eq_true.1 hall j (List.mem_range.2 hj)
      · exact h2 i h3 (by omega) j hj
    · exact⟨Nat.le_refl _,fun i h3 h4=>by omega⟩
section
variable {ops:Array Oper} {n:Nat} {r:Option Nat} {mm:Nat} {Q':Exit→Act→World→Prop}
theorem ztt(hd:drawOk ops=true)(hcut:∀ i,n≤i→i < ops.size→∀ j,j < i→beh ops i j=true) :
    ∀ (l:List Oper) (i:Nat) (fuel:Nat) (listed:Array Bool) (a:Act) (w:World),(∀ j,l[j]? = ops[i + j]?)→n≤i→i + l.length=ops.size→listed.size=ops.size→(∀ j,listed.getD j false=true↔j < i) →
      wpListIn (Fr r) mm P ops Q' l a w→l.length≤fuel→wpAnyIn (Fr r) mm P .any ops Q' fuel listed a w
  | [],i,fuel,listed,a,w,hl,hn,hlen,hsz,hli,h,hf=>by
    refine wpAnyIn_done ?_ h fuel;refine List.eq_nil_iff_forall_not_mem.2 fun j hj => ?_;obtain⟨h1,o,ho,_⟩:=mem_ready.1 hj;have hjs:=(Array.getElem?_eq_some_iff.1 ho).1
    have:=(hli j).2 (by simp at hlen;omega)
    rw [getD_both h1]at this;cases this
  | o::l,i,0,listed,a,w,hl,hn,hlen,hsz,hli,h,hf=>by simp at hf
  | o::l,i,fuel + 1,listed,a,w,hl,hn,hlen,hsz,hli,h,hf=>by
    have ho:ops[i]? = some o:=by have:=hl 0;simpa using this.symm
    have hi:i < ops.size:=(Array.getElem?_eq_some_iff.1 ho).1
    have hun:listed.getD i false=false:=by
      cases hx:listed.getD i false with
      | false=>rfl
      | true=>have:=(hli i).1 hx;omega
    have hclosed:∀ j oj,ops[j]? = some oj→listed.getD j false=true→∀ e∈oj.after,Region.binds .any e=true→listed.getD e.on false=true:=fun j oj hj hlj e he hb=>by
      have:=(hli j).1 hlj
      have:=(zea hd hj).1 e he hb
      exact (hli e.on).2 (by omega)
    refine⟨fun hnil => ?_,fun j hj => ?_⟩
    · exfalso
      have:i∈Region.ready .any ops listed:=mem_ready.2 ⟨getD_in (by rw [hsz];exact hi) hun,o,ho,fun e he hb=>(hli e.on).2 ((zea hd ho).1 e he hb)⟩
      rw [hnil]at this;cases this
    · obtain⟨h1,oj,hoj,hr⟩:=mem_ready.1 hj;have hjs:=(Array.getElem?_eq_some_iff.1 hoj).1
      have hij:j=i:=by
        rcases Nat.lt_or_ge j i with a1 | a1
        · have:=(hli j).2 a1
          rw [getD_both h1]at this;cases this
        · rcases Nat.lt_or_ge i j with a2 | a2
          · have:=zxj hclosed hoj hr (hcut j (by omega) hjs i a2)
            rw [hun]at this;cases this
          · omega
      subst hij
      have h2:wpOpIn (Fr r) mm P ops Q' j (wpListIn (Fr r) mm P ops Q' l) a w:=by
        unfold wpOpIn;simp only [ho];exact h
      have hjl:j < listed.size:=by rw [hsz];exact hjs
      refine wpOpIn_mono (fun a' w' h3=>ztt hd hcut l (j + 1) fuel _ a' w' (fun k => ?_) (by omega) (by simp at hlen;omega) (by simp [hsz]) (fun k => ?_) h3 (by simpa using hf)) h2
      · have:=hl (k + 1)
        rw [show j + 1 + k=j + (k + 1) by omega];simpa using this
      · rw [zyd listed j k hjl];by_cases hjk:j=k
        · subst hjk;simp
        · rw [if_neg hjk,hli k];omega
theorem zsw{listed:Array Bool}(h:∀ j,listed.getD j false=true↔j < n):∀ m,unl listed m=m - n
  | 0=>by simp [unl]
  | m + 1=>by
    simp only [unl,zsw h m];by_cases hm:m < n
    · rw [if_pos ((h m).2 hm)];omega
    · rw [if_neg (fun e=>hm ((h m).1 e))];omega
variable {ρ:Env} {sts:Nat→St} {svs:Nat→SV} {cs:Nat→List Nat} {rd wr:List (Nat × Nat)}
theorem zwba(hw:Way P W ops n ρ sts svs cs rd wr)(hd:drawOk ops=true)(hcut:∀ i,n≤i→i < ops.size→∀ j,j < i→beh ops i j=true){a0:Act}{β0:Nat→Nat}{w0:World}(hC:Core W R Z ρ β0 (sts 0) a0 w0)
    (hQ:∀ a w β,(∀ k,k < (sts 0).c.nk→β k=β0 k)→Core W R Z ρ β (sts n) a w→wpListIn (Fr r) mm P ops Q' (ops.toList.drop n) a w) :
    ∀ (fuel:Nat) (listed:Array Bool) (a:Act) (w:World) (β:Nat→Nat),Inv W R Z ops n ρ sts cs a0 β0 listed a w β→unl listed ops.size=fuel→wpAnyIn (Fr r) mm P .any ops Q' fuel listed a w:=by
  have done:∀ (fuel:Nat) (listed:Array Bool) (a:Act) (w:World) (β:Nat→Nat),Inv W R Z ops n ρ sts cs a0 β0 listed a w β→unl listed ops.size=fuel→(∀ j,j < n→listed.getD j false=true)→wpAnyIn (Fr r) mm P .any ops Q' fuel listed a w:=by
    intro fuel listed a w β inv hu hall
    have hli:∀ j,listed.getD j false=true↔j < n:=fun j=>by
      refine⟨fun h => ?_,hall j⟩;rcases Nat.lt_or_ge j n with h' | h'
      · exact h'
      · rw [inv.only j h']at h;cases h
    have hle:=hw.le;rw [zsw hli]at hu;refine ztt hd hcut (ops.toList.drop n) n fuel listed a w (fun j=>by simp) (Nat.le_refl _) (by simp;omega) inv.lsize hli (hQ a w β inv.agree (zbz hw hC inv hall)) (by simp;omega)
  intro fuel
  induction fuel with
  | zero =>
    intro listed a w β inv hu;exact done 0 listed a w β inv hu fun j hj=>zyi hu j (Nat.lt_of_lt_of_le hj hw.le)
  | succ fuel ih =>
    intro listed a w β inv hu;by_cases hall:∀ j,j < n→listed.getD j false=true
    · exact done (fuel + 1) listed a w β inv hu hall
    · refine⟨fun hnil => ?_,fun i hi => ?_⟩
      · exfalso;obtain⟨j,hj,hlj,hlt⟩:=zto (listed:=listed) (m:=ops.size) (by omega);have ho:ops[j]? = some ops[j]:=Array.getElem?_eq_getElem hj
        have:j∈Region.ready .any ops listed:=mem_ready.2 ⟨getD_in (by rw [inv.lsize];exact hj) hlj,_,ho,fun e he hb=>hlt e.on ((zea hd ho).1 e he hb)⟩
        rw [hnil]at this;cases this
      · obtain⟨h1,o,ho,hr⟩:=mem_ready.1 hi;have his:=(Array.getElem?_eq_some_iff.1 ho).1;have hil:i < listed.size:=by rw [inv.lsize];exact his
        have hin:i < n:=by
          rcases Nat.lt_or_ge i n with h' | h'
          · exact h'
          · exact (hall fun j hj=>zxj inv.closed ho hr (hcut i h' his j (by omega))).elim
        refine zaz hw hd hC inv hin ho (getD_both h1) hr fun a' w' β' inv'=>ih _ a' w' β' inv' ?_
        have:=zuo hil (getD_both h1) ops.size
        rw [if_pos his]at this;omega
end
theorem zzn(a i k:Nat)(l:List (Nat × Nat)):∀ (L:List Nat),(L.map (fun j=>(a + j,i))++l).lookup k=if ∃ j∈L,a + j=k then some i else l.lookup k
  | []=>by simp
  | x::L=>by
    simp only [List.map_cons,List.cons_append,List.lookup_cons,zzn a i k l L];by_cases h:k=a + x
    · subst h;simp
    · have:(k == a + x)=false:=by simpa using h
      rw [this]
      have e:(∃ j∈x::L,a + j=k)↔∃ j∈L,a + j=k:=by
        constructor
        · rintro ⟨j,hj,rfl⟩;rcases List.mem_cons.1 hj with rfl | hj
          · exact (h rfl).elim
          · exact⟨j,hj,rfl⟩
        · rintro ⟨j,hj,he⟩;exact⟨j,List.mem_cons_of_mem _ hj,he⟩
      by_cases h2:∃ j∈L,a + j=k
      · rw [if_pos h2,if_pos (e.2 h2)]
      · rw [if_neg h2,if_neg (fun h3=>h2 (e.1 h3))]
theorem zlv(a b i k:Nat)(l:List (Nat × Nat)):(newIds a b i++l).lookup k=if a≤k∧k < b then some i else l.lookup k:=by
 unfold newIds;rw [zzn]
 have e:(∃ j∈List.range (b - a),a + j=k)↔(a≤k∧k < b):=by
  constructor
  ·rintro ⟨j,hj,rfl⟩
   have:=List.mem_range.1 hj
   omega
  ·intro h;exact⟨k - a,List.mem_range.2 (by omega),by omega⟩
 by_cases h:a≤k∧k < b
 ·rw [if_pos h,if_pos (e.2 h)]
 ·rw [if_neg h,if_neg (fun h2=>h (e.1 h2))]
theorem zom(a i:Nat):newIds a a i=[]:=by simp [newIds]
def ResAt (G:Cfg) (W:Wld) (ops:Array Oper) (K:St→Env→Prop) (l:List Oper) (i:Nat) (d:DS) (st:St) (ρ:Env):Prop :=
    ∃ (sts:Nat→St) (svs:Nat→SV) (cs:Nat→List Nat) (ds:Nat→DS) (ρF:Env),sts i=st∧ds i=d∧K (sts (i + l.length)) ρF∧Env.like st.c ρ ρF∧apartB ops (ds (i + l.length)).rd (ds (i + l.length)).wr=true ∧
      (∀ k∈d.rd,k∈(ds (i + l.length)).rd)∧(∀ k∈d.wr,k∈(ds (i + l.length)).wr)∧(∀ j,j≤l.length→(sts (i + j)).WF∧rowsB (ds (i + j)).al (sts (i + j)).o=true) ∧
      ∀ j o,l[j]? = some o→((ds (i + j + 1)).al=newIds (sts (i + j)).c.nk (sts (i + j + 1)).c.nk (i + j)++(ds (i + j)).al) ∧
        Fct G.P W ops ρF (fun k=>(ds (i + j)).old ops (i + j) k=true) (i + j) (ds (i + l.length)).rd (ds (i + l.length)).wr (sts (i + j)) o (sts (i + j + 1)) (svs (i + j)) (cs (i + j))
theorem zns{G:Cfg}(hG:G.Ok){st:St}{o:Oper}{K:St→Env→Prop}{ρ:Env}(wf:st.WF)(hkn:KnL.den st.k ρ)(h:opd (PA G.P W Q QM QP) G st o K ρ):Rsv G.P W st o K ρ∧∀ c,o.op ≠ .defer c:=by
 have memo:opm (PA G.P W Q QM QP) G st o K ρ→Rsv G.P W st o K ρ∧∀ c,o.op ≠ .defer c:=fun h=>⟨zzl hG wf hkn h,zhq h⟩;have appo:opa (PA G.P W Q QM QP) G st o K ρ→Rsv G.P W st o K ρ∧∀ c,o.op ≠ .defer c:=fun h=>⟨zbm wf h,ziq h⟩;obtain⟨dst,op,type,pos,after,guard⟩:=o;unfold opd at h;have rowo:opw (PA G.P W Q QM QP) G st ⟨dst,op,type,pos,after,guard⟩ K ρ→Rsv G.P W st ⟨dst,op,type,pos,after,guard⟩ K ρ∧∀ c,(⟨dst,op,type,pos,after,guard⟩:Oper).op ≠ .defer c:=fun h=>⟨zdm wf h,zjq h⟩;cases op <;> first | exact memo h | skip
 case buildSlice t len parts =>
  simp only at h;split at h
  ·exact rowo h
  ·exact memo h
 case store t a x =>
  simp only at h;generalize st.ev a=sa at h;split at h
  ·exact rowo h
  ·exact memo h
 case makeMap t rs=>exact rowo h
 case mapUpdate t m k v=>exact rowo h
 case insert t m k v=>exact rowo h
 case convert s d x =>
  simp only at h;split at h
  ·exact rowo h
  ·exact memo h
 rename_i cl;obtain⟨callee,args,argTypes⟩:=cl;cases callee <;> first | exact memo h | skip
 rename_i b;cases b <;> first | exact memo h | exact appo h
theorem zdj{G:Cfg}(hG:G.Ok){ops:Array Oper}{K:St→Env→Prop}:∀ (l:List Oper) (i:Nat) (d:DS) (st:St) (ρ:Env),execD (PA G.P W Q QM QP) G ops i l d st K ρ→st.WF→KnL.den st.k ρ→rowsB d.al st.o=true→ResAt G W ops K l i d st ρ
  | [],i,d,st,ρ,h,hw,_,hrb=>by
    unfold execD at h;split at h;rotate_left
    · exact h.elim
    · rename_i hne;refine⟨fun _=>st,fun _=>.und,fun _=>[],fun _=>d,ρ,rfl,rfl,h,Env.like_refl _ _,hne,fun _ h=>h,fun _ h=>h,fun _ _=>⟨hw,hrb⟩,fun j o hj=>by simp at hj⟩
  | o::r,i,d,st,ρ,h,hw,hkn0,hrb=>by
    have glue:∀ (s':St) (d':DS) (ρ':Env) (sv:SV) (C:List Nat),execD (PA G.P W Q QM QP) G ops (i + 1) r d' s' K ρ'→s'.WF→KnL.den s'.k ρ'→rowsB d'.al s'.o=true→st.c.le s'.c→Env.like st.c ρ ρ'→(∀ k∈d.rd,k∈d'.rd)→(∀ k∈d.wr,k∈d'.wr) →
        (d'.al=newIds st.c.nk s'.c.nk i++d.al) →
        (∀ ρ'',Env.like s'.c ρ' ρ''→∀ rd wr,(∀ k∈d'.rd,k∈rd)→(∀ k∈d'.wr,k∈wr)→Fct G.P W ops ρ'' (fun k=>d.old ops i k=true) i rd wr st o s' sv C)→ResAt G W ops K (o::r) i d st ρ:=by
      intro s' d' ρ' sv C hx hws hks hrs hle hlk hrd hwr hal hf;obtain⟨sts,svs,cs,ds,ρF,e1,e2,e3,e4,e5,e6,e7,e8,e9⟩:=zdj hG r (i + 1) d' s' ρ' hx hws hks hrs;have hlen:i + (o::r).length=i + 1 + r.length:=by simp;omega
      refine⟨fun j=>if j≤i then st else sts j,fun j=>if j≤i then sv else svs j,fun j=>if j≤i then C else cs j,fun j=>if j≤i then d else ds j,ρF,if_pos (Nat.le_refl _),if_pos (Nat.le_refl _), ?_⟩;have c1:¬ (i + 1 + r.length≤i):=by omega
      rw [hlen];simp only [c1,if_false];refine⟨e3,Env.like_trans hle hlk e4,e5,fun k hk=>e6 k (hrd k hk),fun k hk=>e7 k (hwr k hk),fun j hj => ?_,fun j o' hj => ?_⟩
      · by_cases hj0:j=0
        · subst hj0;simp only [Nat.add_zero,Nat.le_refl,if_true];exact⟨hw,hrb⟩
        · have c2:¬ (i + j≤i):=by omega
          simp only [c2,if_false]
          have:=e8 (j - 1) (by simp at hj;omega)
          rwa [show i + 1 + (j - 1)=i + j by omega]at this
      · cases j with
        | zero =>
          simp only [List.getElem?_cons_zero,Option.some.injEq]at hj;subst hj;have c2:¬ (i + 0 + 1≤i):=by omega
          simp only [Nat.add_zero,Nat.le_refl,if_true];have c3:¬ (i + 1≤i):=by omega
          simp only [c3,if_false,e1,e2];exact⟨hal,hf ρF e4 _ _ e6 e7⟩
        | succ j =>
          have c2:¬ (i + (j + 1)≤i):=by omega
          have c3:¬ (i + (j + 1) + 1≤i):=by omega
          simp only [c2,c3,if_false]
          have:=e9 j o' (by simpa using hj)
          rw [show i + 1 + j=i + (j + 1) by omega]at this;exact this
    have run:∀ (s1:St),s1.WF→s1.k=st.k→s1.c=st.c→(∀ ρ'',Env.like st.c ρ ρ''→Knw ρ'' st s1)→(∀ ρ'',Env.like st.c ρ ρ''→Wants ops ρ'' st o true) →
        stepD (PA G.P W Q QM QP) G ops i d s1 o (fun d' s=>execD (PA G.P W Q QM QP) G ops (i + 1) r d' s K) ρ→ResAt G W ops K (o::r) i d st ρ:=by
      intro s1 hw1 hk1 hc1 hkn hwt hs;unfold stepD at hs;by_cases hold:(readsOf s1 o++writesOf s1 o++valIds s1 o).all (d.old ops i)=true
      · rw [if_pos hold]at hs;obtain⟨⟨s',ρ',sv,C,g1,g2,g3,g4⟩,nd⟩:=zns hG hw1 (by rw [hk1];exact hkn0) hs;dsimp only at g1;by_cases hcond:(okD ops i d o s' && rowsB (newIds s1.c.nk s'.c.nk i++d.al) s'.o)=true
        · rw [if_pos hcond]at g1;rw [Bool.and_eq_true]at hcond;obtain⟨q1,q2⟩:=hcond;unfold okD at q1;refine glue s' _ ρ' sv C g1 (g4 ρ' (Env.like_refl _ _)).wf ((g4 ρ' (Env.like_refl _ _)).kn (KnL.den_like g3 hw1.k (by rw [hk1];exact hkn0))) q2 (by rw [← hc1];exact g2) (by rw [← hc1];exact g3) (fun k hk=>List.mem_append.2 (.inr hk)) (fun k hk=>List.mem_append.2 (.inr hk)) (by rw [hc1]) ?_;intro ρ'' hl rd wr h1 h2;have hl2:Env.like st.c ρ ρ'':=by rw [← hc1];exact Env.like_trans g2 g3 hl
          have hf:=g4 ρ'' hl;refine .run s1 s' sv C (hkn ρ'' hl2) (hwt ρ'' hl2) nd hf (fun k hk=>List.all_eq_true.1 hold k hk) (fun x hx k hk => ?_) (fun k hk=>h1 _ (List.mem_append.2 (.inl (List.mem_map.2 ⟨k,hk,rfl⟩)))) (fun k hk=>h2 _ (List.mem_append.2 (.inl (List.mem_map.2 ⟨k,hk,rfl⟩))));rw [hx]at q1;have hsx:=hf.slot x;rw [if_pos hx]at hsx;exact List.all_eq_true.1 q1 k (by rw [hsx];exact hk)
        · rw [if_neg hcond]at g1;exact g1.elim
      · rw [if_neg hold]at hs;exact hs.elim
    have know_wf:∀ {x:Nat} {b:Bool},(st.know x b).WF:=fun {x b}=>by
      refine⟨fun i => ?_,hw.m,hw.o,hw.ap,hw.r,hw.d,hw.k,hw.df⟩;simp only [St.know,zq];by_cases hi:x=i
      · rw [if_pos hi];rfl
      · rw [if_neg hi];exact hw.t i
    unfold execD at h;cases hgd:o.guard with
    | none =>
      simp only [hgd]at h;exact run st hw rfl rfl (fun _ _=>.refl) (fun _ _=>by unfold Wants;rw [hgd]) h
    | some jw =>
      obtain⟨j,want⟩:=jw;simp only [hgd]at h;generalize hd':(ops[j]?).bind (·.dst)=u at h;cases u with
      | none=>exact h.elim
      | some x =>
        simp only at h;split at h
        · rename_i hlt;generalize hg:getS st.t x=sv at h;split at h
          · rename_i e;have we:e.wf st.c=true:=by have:=hw.t x;rw [hg]at this;exact this
            have kn:∀ b,e.den ρ=b→∀ ρ'',Env.like st.c ρ ρ''→Knw ρ'' st (st.know x b):=fun b hb ρ'' hl=>.know x b e hg (by rw [BE.den_like hl we];exact hb)
            have wt:∀ b c,e.den ρ=b→(b == want)=c→∀ ρ'',Env.like st.c ρ ρ''→Wants ops ρ'' st o c:=by
              intro b c hb hc ρ'' hl;unfold Wants;rw [hgd];exact⟨x,hd',.inl ⟨e,hg,by rw [BE.den_like hl we,hb];exact hc⟩⟩
            have skp:∀ b,e.den ρ=b→(b == want)=false→(St.put (PA G.P W Q QM QP) (st.know x b) o.dst .und st.c fun s=>execD (PA G.P W Q QM QP) G ops (i + 1) r d s K) ρ→ResAt G W ops K (o::r) i d st ρ:=by
              intro b hb hc hp;obtain⟨p1,p2⟩:=zj hp;obtain⟨q1,q2,q3,q4,q5,q6⟩:=zfa (st.know x b) o.dst .und st.c;refine glue _ d ρ .und [] p1 (ztl know_wf (Ctr.le_refl _) p2) (by rw [(zr _ _ _ _).1];exact hkn0) (by rw [q4];exact hrb) (by rw [q1];exact Ctr.le_refl _) (Env.like_refl _ _) (fun _ h=>h) (fun _ h=>h) (by rw [q1,zom];rfl) ?_;intro ρ'' hl rd wr _ _;rw [q1]at hl;exact .skip (st.know x b) (kn b hb ρ'' hl) (wt b false hb hc ρ'' hl) p2
            rcases zaa h with ⟨hb,h⟩ | ⟨hb,h⟩
            · cases want with
              | true=>exact run (st.know x true) know_wf rfl rfl (kn true hb) (wt true true hb rfl) h
              | false=>exact skp true hb rfl h
            · cases want with
              | true=>exact skp false hb rfl h
              | false=>exact run (st.know x false) know_wf rfl rfl (kn false hb) (wt false true hb rfl) h
          · obtain⟨p1,p2⟩:=zj h;obtain⟨q1,q2,q3,q4,q5,q6⟩:=zfa st o.dst .und st.c;refine glue _ d ρ .und [] p1 (ztl hw (Ctr.le_refl _) p2) (by rw [(zr _ _ _ _).1];exact hkn0) (by rw [q4];exact hrb) (by rw [q1];exact Ctr.le_refl _) (Env.like_refl _ _) (fun _ h=>h) (fun _ h=>h) (by rw [q1,zom];rfl) ?_;intro ρ'' hl rd wr _ _;refine .skip st .refl ?_ p2;unfold Wants;rw [hgd];exact⟨x,hd',.inr ⟨hg,rfl⟩⟩
          · exact h.elim
        · exact h.elim
theorem zpm{sts:Nat→St}{ds:Nat→DS}{n:Nat}(h0:(ds 0).al=[])(hal:∀ j,j < n→(ds (j + 1)).al=newIds (sts j).c.nk (sts (j + 1)).c.nk j++(ds j).al)
    (hnk:∀ i j,i≤j→j≤n→(sts i).c.nk≤(sts j).c.nk):∀ (i:Nat),i≤n→∀ m k,(ds i).al.lookup k=some m↔(m < i∧laid sts m k)
  | 0,_,m,k=>by rw [h0];simp
  | i + 1,hi,m,k=>by
    rw [hal i (by omega),zlv];have ih:=zpm h0 hal hnk i (by omega) m k;by_cases hk:(sts i).c.nk≤k∧k < (sts (i + 1)).c.nk
    · rw [if_pos hk];constructor
      · intro h;cases h;exact⟨by omega,hk⟩
      · rintro ⟨h1,h2⟩;rcases Nat.lt_or_ge m i with h' | h'
        · have:=hnk (m + 1) i (by omega) (by omega)
          have:=h2.2
          omega
        · have:m=i:=by omega
          rw [this]
    · rw [if_neg hk,ih];constructor
      · rintro ⟨h1,h2⟩;exact⟨by omega,h2⟩
      · rintro ⟨h1,h2⟩;refine⟨?_,h2⟩;rcases Nat.lt_or_ge m i with h' | h'
        · exact h'
        · have:m=i:=by omega
          subst this;exact (hk h2).elim
theorem Fct.imp{ops:Array Oper}{ρ:Env}{old old':Nat→Prop}{i:Nat}{rd wr:List (Nat × Nat)}{s s':St}{o:Oper}{sv:SV}{C:List Nat}(h:Fct P W ops ρ old i rd wr s o s' sv C)(h1:∀ k,old k→old' k):Fct P W ops ρ old' i rd wr s o s' sv C:=by
 cases h with
 | skip s1 k w p=>exact .skip s1 k w p
 | run s1 _ _ _ k w nd f a1 a2 a4 a5=>exact .run s1 _ _ _ k w nd f (fun k hk=>h1 k (a1 k hk)) (fun x hx k hk=>h1 k (a2 x hx k hk)) a4 a5
theorem zzq{ops:Array Oper}{x y:Nat × Nat}(h:ordB ops x y=true)(he:x.1=y.1):x.2=y.2∨(y.2 < x.2∧ordr ops x.2 y.2=true)∨(x.2 < y.2∧ordr ops y.2 x.2=true):=by
 unfold ordB at h;simp only [Bool.or_eq_true,decide_eq_true_eq,Bool.and_eq_true]at h;rcases h with ((h | h) | h) | h
 ·exact (h he).elim
 ·exact .inl h
 ·exact .inr (.inl h)
 ·exact .inr (.inr h)
theorem zef{G:Cfg}(hG:G.Ok)(hm:G.P.follows .mixedOrders=true):DrawOk G W Q QM QP:=by
  intro R Z r n inl yl dok KP id ops st K ρ h β a w hC Q' hI hY hdok hP next hq hn
  unfold drawnX at h;rw [zgl]at h;by_cases hd:drawOk ops=true
  · rw [if_pos hd]at h;by_cases hcan:canonOk G.P ops=true
    · rw [if_pos hcan]at h;unfold canonOk at hcan;simp only [Bool.and_eq_true]at hcan;obtain⟨⟨_,hok⟩,hcov⟩:=hcan
      have hu:∀ m,m≤ops.size→unl (Array.replicate ops.size false) m=m:=by
        intro m
        induction m with
        | zero=>intro _;rfl
        | succ m ih =>
          intro hm';simp only [unl,ih (by omega)];rw [if_neg (by rw [Array.getD_eq_getD_getElem?,Array.getElem?_replicate];split <;> simp)]
      have hf:∀ j,(Array.replicate ops.size false).getD j false=false:=fun j=>by
        rw [Array.getD_eq_getD_getElem?,Array.getElem?_replicate];split <;> rfl
      have hB:Below w.heap.size w {w with drawn:=w.drawn + 1}:=(Below.refl _ w).drew
      have hC0:Core W R Z ρ β st a {w with drawn:=w.drawn + 1} :=
        ⟨hC.size,hC.tmps,hC.dfr,hC.below.drew,fun k e hg=>(hC.mem k e hg).keepI (fun _ _=>rfl) (fun _ _=>rfl) (fun _ _=>rfl),hC.inj,hC.lps,hC.rin,hC.ded,hC.dn,hC.wf,hC.kn⟩
      refine wpIn_region_any hm ?_;refine zmd hG hd (zrh hG hI hY hdok hP) (canonL G.P ops) st [] [] ρ hok (fun x hx=>by cases hx) hC.wf.t h (Ctr.le_refl _) (Env.like_refl _ _) ops.size _ β a _ (fun _ _=>rfl) ⟨by simp,fun j oj _ h=>(by rw [hf j]at h;cases h),fun j h=>(by rw [hf j]at h;cases h),fun j hj hjr => ?_,fun p hp=>(by cases hp),hC.wf.t,hC0⟩ (hu _ (Nat.le_refl _)) ?_
      · exact (hjr (List.contains_iff_mem.1 (List.all_eq_true.1 hcov j (List.mem_range.2 hj)))).elim
      · exact fun s ρ2 β2 a2 w2 h1 h2 h3 h4 h5=>hq _ _ (hn s ρ2 β2 a2 w2 h1 h2 h3 h4 h5)
    rw [if_neg hcan]at h;obtain⟨hcl,hcut⟩:=zyn ops ops.size;generalize cutOf ops ops.size=nn at h hcl hcut;obtain⟨sts,svs,cs,ds,ρF,e1,e2,e3,e4,e5,_,_,e8,e9⟩:=zdj hG (ops.toList.take nn) 0 ⟨[],[],[]⟩ st ρ h hC.wf hC.kn (by unfold rowsB;simp);have hlen:(ops.toList.take nn).length=nn:=by simp;omega
    simp only [Nat.zero_add,hlen]at e3 e5 e8 e9;have e9':∀ j o,j < nn→ops[j]? = some o→_:=fun j o hj ho=>e9 j o (by rw [List.getElem?_take,if_pos hj];simpa using ho)
    have hget:∀ j,j < nn→ops[j]? = some (ops[j]!):=fun j hj=>by
      rw [getElem!_pos ops j (by omega),Array.getElem?_eq_getElem (by omega)]
    have hnk:∀ j i,i≤j→j≤nn→(sts i).c.nk≤(sts j).c.nk:=by
      intro j
      induction j with
      | zero => intro i h _;obtain rfl:i=0:=by omega
                exact Nat.le_refl _
      | succ j ih =>
        intro i h hj;by_cases hi:i=j + 1
        · subst hi;exact Nat.le_refl _
        · obtain⟨s1,k1,hst⟩:=(e9' j _ (by omega) (hget j (by omega))).2.stp (e8 j (by omega)).1
          have:=hst.cle.k
          rw [k1.c.1]at this;exact Nat.le_trans (ih i (by omega) (by omega)) this
    have hlk:=zpm (sts:=sts) (ds:=ds) (n:=nn) (by rw [e2]) (fun j hj=>(e9' j _ hj (hget j hj)).1) (fun i j h1 h2=>hnk j i h1 h2)
    have hw:Way G.P W ops nn ρF sts svs cs (ds nn).rd (ds nn).wr:=by
      refine⟨hcl,fun i hi=>(e8 i hi).1,fun i o hi ho => ?_,fun k i j h1 h2 => ?_,fun i hi k ce sz t hg m hmn d hd4 hl => ?_⟩
      · refine (e9' i o hi ho).2.imp fun k hk m hmi hl => ?_
        have:=(hlk i (by omega) m k).2 ⟨hmi,hl⟩
        simpa [DS.old,this]using hk
      · unfold apartB at e5;rw [Bool.and_eq_true]at e5;rcases h1 with h1 | h1
        · exact zzq (List.all_eq_true.1 (List.all_eq_true.1 e5.1 _ h1) _ h2) rfl
        · exact zzq (List.all_eq_true.1 (List.all_eq_true.1 e5.2 _ h1) _ h2) rfl
      · have hgo:getO (sts i).o k=some (ce,sz,t):=by
          unfold getE at hg;split at hg
          · cases hg
          · split at hg
            · rename_i h3;simp only [Option.some.injEq,Ent.row.injEq]at hg;obtain⟨rfl,rfl,rfl⟩:=hg;exact h3
            · cases hg
        have hwk:=(e8 i hi).1.o k ce sz t hgo;rcases Nat.lt_or_ge m i with h' | h'
        · have hb:=List.all_eq_true.1 (e8 i hi).2 _ (ztk hgo);simp only [List.all_cons,List.all_nil,Bool.and_true,Bool.and_eq_true,decide_eq_true_eq]at hb;have h5:=(hlk i hi m (k + d)).2 ⟨h',hl⟩
          have h6:(ds i).al.lookup k=some m:=by
            rcases (by omega:d=0∨d=1∨d=2∨d=3)with rfl | rfl | rfl | rfl
            · exact h5
            · rw [← hb.1];exact h5
            · rw [← hb.2.1];exact h5
            · rw [← hb.2.2];exact h5
          exact ((hlk i hi m k).1 h6).2
        · have:=hnk m i h' (by omega)
          have:=hl.1
          have:=hwk.1
          omega
    have hB:Below w.heap.size w {w with drawn:=w.drawn + 1}:=(Below.refl _ w).drew
    have hC0:Core W R Z ρF β (sts 0) a {w with drawn:=w.drawn + 1}:=by
      rw [e1];have hC1:=hC.like e4;exact⟨hC1.size,hC1.tmps,hC1.dfr,hC1.below.drew,fun k e hg=>(hC1.mem k e hg).keepI (fun _ _=>rfl) (fun _ _=>rfl) (fun _ _=>rfl),hC1.inj,hC1.lps,hC1.rin,hC1.ded,hC1.dn,hC1.wf,hC1.kn⟩
    refine wpIn_region_any hm ?_
    have hu:∀ m,m≤ops.size→unl (Array.replicate ops.size false) m=m:=by
      intro m
      induction m with
      | zero=>intro _;rfl
      | succ m ih =>
        intro hm';simp only [unl,ih (by omega)];rw [if_neg (by rw [Array.getD_eq_getD_getElem?,Array.getElem?_replicate];split <;> simp)]
    have hle:=(hw.n0 nn (Nat.le_refl _)).2.2.2;rw [e1]at hle;refine zwba hw hd hcut hC0 (fun a' w' β' hag hC' => ?_) ops.size _ a _ β (zpw hw hC0) (hu _ (Nat.le_refl _));rw [e1]at hag;exact zqh (zrh hG hI hY hdok hP) (ops.toList.drop nn) (sts nn) ρF e3 hle e4 β' a' w' hag hC' next hq (hn.far hle e4 hag)
  · rw [if_neg hd]at h;exact h.elim
theorem zff{G:Cfg}(hG:G.Ok)(hm:G.P.follows .mixedOrders=true){f:FuncId}{fn:Func}{b:Code}(hf:G.P.funcs[f]? = some fn)(hb:fn.body=some b){args:List SV}{c:Ctr}{ρ:Env}{w:World}(n:Nat)
  {kn:KnL} (hkn:KnL.wf kn c∧KnL.den kn ρ) (hw:args.all (SV.wf c)=true) (h:execF (PA G.P ⟨w,[]⟩ Q QM QP) G n fn b args c kn ρ) :
  Calls G.P f (args.map (SV.den ρ b0)).toArray w fun e w'=>(∃ v,e=.returned v∧Below w.heap.size w w'∧(Q v∨QM w' v))∨∃ v,e=.panicked [{v:=v,recovered:=false}]∧Below w.heap.size w w'∧QP w' v:=by
 refine zpg (n:=0) hf hb ?_;have hC:=zgv (W:=⟨w,[]⟩) (R:=fun _ => {state := .ready,pending:=none,fn:=0,tmps := #[],params := #[],assign := .skip,body := .skip,defers:=0}) (ρ:=ρ) (β:=b0) (args:=args) (n:=fn.ntmps) (c:=c) (w:=w) hkn.1 hkn.2 hw (Bel.refl ⟨w,[]⟩);refine zne hG (zef hG hm) n none _ b _ _ ρ h _ _ none 0 b0 _ w hC ?_ rfl _ ?_
 ·intro k args s K' ρ hy;exact hy.elim
 intro e s ρ' β' a' w' hk hok h1 h2 h3 hC'
 have fin:=zth hG (c0:=c) (ρ0:=ρ) (β0:=b0) (fun c2 st2 K2 ρ2 hx g1 g2 m2 β2 a2 w2 g3 g4 Q2 g5=>zne hG (zef hG hm) n none _ c2 st2 K2 ρ2 hx _ _ none m2 β2 a2 w2 g4 (fun k args s K' ρ hy=>hy.elim) rfl Q2 g5) hk h1 h2 h3 hC' hok 0
  (T:=fun e w'=>(∃ v,e=.returned v∧Below w.heap.size w w'∧(Q v∨QM w' v))∨∃ v,e=.panicked [{v:=v,recovered:=false}]∧Below w.heap.size w w'∧QP w' v)
  (fun v s2 ρ2 β2 w2 hk2 hwv hva q1 q2 q3 hC2=>by
   refine .inl ⟨_,rfl,hC2.below, ?_⟩;simp only [PA]at hk2;split at hk2
   ·rename_i hfl;rw [SV.den_flat ρ2 β2 b0 hfl];exact .inl hk2
   ·exact .inr (hk2 β2 w2 hC2.below (zkb hC2.wf.ap (Env.like_refl _ ρ2) (fun k cs t hg=>(hC2.wf.m k cs t hg).2) (fun k ce sz t hg=>(hC2.wf.o k ce sz t hg).2) _ fun k _ e hg=>hC2.mem k e hg)))
  (fun i s2 ρ2 β2 w2 hk2 hi q1 q2 q3 hC2=>.inr ⟨_,rfl,hC2.below,hk2 w2 hC2.below⟩)
 cases e with
 | normal=>exact fin.2
 | ret=>exact fin.2
 | exit id=>exact (fin.1 id rfl).elim
 | pan i=>exact fin.2
theorem ztw{m:Mem}{k:Nat}{v:List At × TypeId}:∀ {l:List At},getM (namedM m l) k=some v→getM m k=some v:=by
  intro l
  induction l with
  | nil=>intro h;simp [namedM,getM]at h
  | cons a l ih =>
    have key:∀ q,getM (match getM m q with
        | some v=>(q,v)::namedM m l
        | none=>namedM m l) k=some v→getM m k=some v:=fun q h=>by
      split at h
      · rename_i u hu;rw [zuc]at h;split at h
        · rename_i he;subst he;rw [hu];exact h
        · exact ih h
      · exact ih h
    intro h;cases a <;> first | exact ih h | exact key _ h
theorem zdz{ρ:Env}{β β':Nat→Nat}{n:Nat}(h:∀ k,k < n→β k=β' k):∀ {a:At},a.lentOk n=true→a.den ρ β=a.den ρ β'
  | .loc k o,ha=>by
    simp only [At.lentOk,decide_eq_true_eq]at ha;simp only [At.den,h k ha]
  | .fn f caps,ha=>by
    simp only [At.lentOk]at ha
    have:(caps.map fun c=>(.pointer (some ⟨β c.1,c.2,none⟩):Value))=caps.map fun c=>.pointer (some ⟨β' c.1,c.2,none⟩) :=
      List.map_congr_left fun x hx=>by rw [h x.1 (by simpa using List.all_eq_true.1 ha x hx)]
    simp only [At.den,this]
  | .int ..,_=>rfl
  | .bool ..,_=>rfl
  | .val ..,_=>rfl
  | .str ..,_=>rfl
  | .sv ..,_=>rfl
  | .nils,_=>rfl
  | .nilp,_=>rfl
  | .nilf,_=>rfl
  | .nili,_=>rfl
  | .nilm,_=>rfl
  | .xsl ..,_=>rfl
  | .qsl ..,_=>rfl
  | .ext ..,_=>rfl
  | .lsl ..,ha=>by simp [At.lentOk,At.flat]at ha
  | .own ..,ha=>by simp [At.lentOk,At.flat]at ha
  | .oloc ..,ha | .omap ..,ha | .bts ..,ha | .gfn ..,ha=>by simp [At.lentOk,At.flat]at ha
  | .mfn ..,ha=>by simp [At.lentOk,At.flat]at ha
theorem zjh{G:Cfg}(hG:G.Ok)(hm:G.P.follows .mixedOrders=true){f:FuncId}{fn:Func}{b:Code}(hf:G.P.funcs[f]? = some fn)(hb:fn.body=some b){args:List SV}{c:Ctr}{ρ:Env}{w:World}(n:Nat){xs:List Nat}{bs:List (List At × TypeId)}
    {kn:KnL} (hkn:KnL.wf kn c∧KnL.den kn ρ) (hw:args.all (SV.wf c)=true) (hc:bs.all (fun b=>b.1.all (At.wf c))=true) (h0:bs.length≤c.nk) (hlen:xs.length=bs.length) (hnd:xs.Nodup) (hx:LentAt ρ xs bs w) (h:execFL (PA G.P ⟨w,xs⟩ Q QM QP) G n fn b args bs c kn ρ) :
    Calls G.P f (args.map (SV.den ρ (lentB xs))).toArray w fun e w'=>(∃ v,e=.panicked [{v:=v,recovered:=false}]∧Bel ⟨w,xs⟩ w'∧QP w' v)∨∃ v cells,e=.returned v∧Bel ⟨w,xs⟩ w'∧cells.length=bs.length∧(∀ k cs t,bs[k]? = some (cs,t)→∃ new,cells[k]? = some (.agg new)∧w'.heap[lentB xs k]? = some (.cells new t))∧Q (.agg (v::cells).toArray):=by
  refine zpg (n:=0) hf hb ?_;have hC:=zjs (W:=⟨w,xs⟩) (R:=fun _ => {state := .ready,pending:=none,fn:=0,tmps := #[],params := #[],assign := .skip,body := .skip,defers:=0}) (ρ:=ρ) (args:=args) (n:=fn.ntmps) (c:=c) (w:=w) hkn.1 hkn.2 hw hc h0 hlen hnd rfl (Bel.refl ⟨w,xs⟩) hx;refine zne hG (zef hG hm) n none _ b _ _ ρ h _ _ none 0 (lentB xs) _ w hC ?_ rfl _ ?_
  · intro k args s K' ρ hy;exact hy.elim
  intro e s ρ' β' a' w' hk hok h1 h2 h3 hC'
  have fin:=zth hG (c0:=c) (ρ0:=ρ) (β0:=lentB xs) (fun c2 st2 K2 ρ2 hx g1 g2 m2 β2 a2 w2 g3 g4 Q2 g5=>zne hG (zef hG hm) n none _ c2 st2 K2 ρ2 hx _ _ none m2 β2 a2 w2 g4 (fun k args s K' ρ hy=>hy.elim) rfl Q2 g5) hk h1 h2 h3 hC' hok 0
    (T:=fun e w'=>(∃ v,e=.panicked [{v:=v,recovered:=false}]∧Bel ⟨w,xs⟩ w'∧QP w' v)∨∃ v cells,e=.returned v∧Bel ⟨w,xs⟩ w'∧cells.length=bs.length∧(∀ k cs t,bs[k]? = some (cs,t)→∃ new,cells[k]? = some (.agg new)∧w'.heap[lentB xs k]? = some (.cells new t))∧Q (.agg (v::cells).toArray))
    (fun v s2 ρ2 β2 w2 hk2 hwv hva q1 q2 q3 hC2=>by
      right;simp only [PA]at hk2;split at hk2
      · rename_i ll hg;split at hk2
        · rename_i hfl;simp only [Bool.and_eq_true]at hfl;obtain⟨hfl,hll⟩:=hfl
          have hbx:∀ k,k < (bs.map Prod.snd).length→β2 k=lentB xs k:=fun k hk=>by
            have hk3:k < c.nk:=Nat.lt_of_lt_of_le (by simpa using hk) h0;exact (q3 k (Nat.lt_of_lt_of_le hk3 h1.k)).trans (h3 k hk3)
          have hgs:∀ {k0:Nat} {ts:List TypeId} {ll:List (List At)},getMs (namedM s2.m ((List.range bs.length).map (fun k=>At.loc k 0)++(tupSV v).flatMap CV.cells)) k0 ts=some ll →
              ll.length=ts.length∧∀ k t,ts[k]? = some t→∃ cs',ll[k]? = some cs'∧getM s2.m (k0 + k)=some (cs',t):=by
            intro k0 ts
            induction ts generalizing k0 with
            | nil=>intro ll h;simp only [getMs,Option.some.injEq]at h;subst h;exact⟨rfl,fun k t h=>by simp at h⟩
            | cons t0 r ih =>
              intro ll h;simp only [getMs]at h;split at h
              · rename_i cs t' l' g1 g2;split at h
                · rename_i he;simp only [Option.some.injEq]at h;subst h;obtain⟨i1,i2⟩:=ih g2;refine⟨by simp [i1],fun k t hk => ?_⟩;cases k with
                  | zero =>
                    simp only [List.getElem?_cons_zero,Option.some.injEq]at hk;subst hk;exact⟨cs,rfl,by rw [Nat.add_zero,ztw g1,he]⟩
                  | succ k =>
                    obtain⟨cs',j1,j2⟩:=i2 k t (by simpa using hk);exact⟨cs',by simpa using j1,by rw [show k0 + (k + 1)=k0 + 1 + k by omega];exact j2⟩
                · cases h
              · cases h
          obtain⟨i1,i2⟩:=hgs hg;refine⟨_,ll.map fun cs=>Value.agg (cs.map (At.den ρ2 (lentB xs))).toArray,rfl,hC2.below, ?_,fun k cs t hbk => ?_, ?_⟩
          rotate_right
          · rw [SV.den_flat ρ2 β2 b0 hfl];exact hk2
          · simpa using i1
          · obtain⟨cs',j1,j2⟩:=i2 k t (by rw [List.getElem?_map,hbk];rfl);rw [Nat.zero_add]at j2
            have hkl:k < (bs.map Prod.snd).length:=by
              have:=(List.getElem?_eq_some_iff.1 hbk).1
              simpa using this
            have hh:=(hC2.fix (k:=k) j2).2;rw [hbx k hkl]at hh;refine⟨(cs'.map (At.den ρ2 (lentB xs))).toArray,by rw [List.getElem?_map,j1];rfl, ?_⟩
            have e2:cs'.map (At.den ρ2 β2)=cs'.map (At.den ρ2 (lentB xs)):=List.map_congr_left fun y hy =>
              zdz hbx (List.all_eq_true.1 (List.all_eq_true.1 hll cs' (List.mem_of_getElem? j1)) y hy)
            rw [← e2];exact hh
        · exact hk2.elim
      · exact hk2.elim)
    (fun i s2 ρ2 β2 w2 hk2 hi q1 q2 q3 hC2=>.inl ⟨_,rfl,hC2.below,hk2 w2 hC2.below⟩)
  cases e with
  | normal=>exact fin.2
  | ret=>exact fin.2
  | exit id=>exact (fin.1 id rfl).elim
  | pan i=>exact fin.2
end Vc
set_option linter.unusedVariables false
namespace Vc
open Go Go.RowKit
def envOf(is:List Int)(bs:List Bool)(vs:List OV)(ps:List (Nat × Nat))(ss:List (List UInt8) := [])(ls:List (List OV) := []):Env :=
 ⟨fun j=>is.getD j 0,fun j=>bs.getD j false,fun j=>vs.getD j ⟨.nilFunc,rfl⟩,fun j=>ps.getD j (0,0),fun j=>ss.getD j [],fun j=>ls.getD j []⟩
def okCalls(P:Program)(l:List FuncId):Bool :=
  l.all fun f=>match P.funcs[f]? with
    | some fn => (fn.name != "runtime.NumGoroutine") && fn.body.isSome
    | none=>false
theorem zwk{P:Program}{l:List FuncId}(h:okCalls P l=true){f:FuncId}(hf:l.contains f=true)(args:Array Value)(w:World):(callFunc f args).run P w=.ok (.enter f args) w:=by
  have:=List.all_eq_true.1 h f (List.contains_iff_mem.1 hf)
  cases hp:P.funcs[f]? with
  | none=>simp [hp]at this
  | some fn =>
    simp only [hp,Bool.and_eq_true,bne_iff_ne,ne_eq]at this;obtain⟨h1,h2⟩:=this;have h3:fn.body.isNone=false:=by cases hb:fn.body <;> simp_all
    have h4:fn.body≠none:=by intro he;rw [he]at h2;cases h2
    simp [callFunc,hp,h1,h4]
structure Base(P:Program)(calls ext inl:List FuncId):Prop where
 calls:okCalls P calls=true
 inl:okCalls P inl=true
 mix:P.follows .mixedOrders=true
theorem Base.ok{P:Program}{calls ext inl:List FuncId}(h:Base P calls ext inl)(loops:List (Nat × LH))(globs:List (Nat × List At × TypeId)):(⟨P,calls,ext,inl,loops,globs,[],[]⟩:Cfg).Ok :=
 ⟨fun f hf args w=>zwk h.calls hf args w,fun f hf args w=>zwk h.inl hf args w,fun e he=>absurd he (by simp)⟩
theorem Base.okS{P:Program}{calls ext inl:List FuncId}(h:Base P calls ext inl)(loops:List (Nat × LH))(globs:List (Nat × List At × TypeId))(sums:List Summary)(hs:∀ e∈sums,∀ (A:Alg (Env→Prop)) (yl:Yl (Env→Prop)) (K:Ex→St→Env→Prop) (K':SV→St→Env→Prop),inlX A ⟨P,calls,ext,inl,loops,globs,sums,[]⟩ (exec A ⟨P,calls,ext,inl,loops,globs,sums,[]⟩ e.n) yl K e.f e.args e.s K'=askRun A e.asks (K' e.v e.s')):(⟨P,calls,ext,inl,loops,globs,sums,[]⟩:Cfg).Ok :=
 ⟨fun f hf args w=>zwk h.calls hf args w,fun f hf args w=>zwk h.inl hf args w,hs⟩
theorem zg{c:Ctr}{ρ:Env}:KnL.wf [] c∧KnL.den [] ρ:=⟨fun x h=>(by cases h),fun x h=>(by cases h)⟩
theorem zp{x:Kn}{k:KnL}{c:Ctr}{ρ:Env}(h1:x.wf c=true)(h2:x.den ρ)(h:KnL.wf k c∧KnL.den k ρ):KnL.wf (x::k) c∧KnL.den (x::k) ρ :=
 ⟨fun y hy=>(List.mem_cons.1 hy).elim (fun e=>e▸h1) (h.1 y),fun y hy=>(List.mem_cons.1 hy).elim (fun e=>e▸h2) (h.2 y)⟩
theorem Ret.mono{P:Program}{f:FuncId}{args:Array Value}{w:World}{v v':Value}(h:Calls P f args w (Ret v w))(e:v=v'):Calls P f args w (Ret v' w):=e▸h
def seqHd:Code→Code
 | .seq a _=>a
 | c=>c
def seqTl:Code→Code
 | .seq _ b=>b
 | c=>c
def cutY {R : Type} (A : Alg R) : Yl R := fun _ _ _ _ => A.fail "yield"
def cutK{R:Type}(A:Alg R)(G:Cfg)(n:Nat)(fn:Func):Ex→St→R:=fun e s =>
  leave A G (exec A G n none fun _ _ _ _ => A.fail "yield") fn e s (fun v s2 => A.fin v (namedM s2.m ((tupSV v).flatMap CV.cells)) (namedO s2.o ((tupSV v).flatMap CV.cells))) fun i _ => A.finP i
theorem zec{R:Type}{A:Alg R}{G:Cfg}{n:Nat}{yl:Yl R}{c:Code}{S S':St}{W:R→R}{K:Ex→St→R}(hc:c=.seq (seqHd c) (seqTl c))
  (hp:∀ K,exec A G n none yl (seqHd c) S K=W (K .normal S')):exec A G (n + 1) none yl c S K=W (exec A G n none yl (seqTl c) S' K):=by
 generalize seqHd c=x at hc hp;generalize seqTl c=y at hc ⊢;subst hc;exact hp _
abbrev rd(w:World)(p:Nat × Nat)(x m k:Nat)(v:Value):Prop:=w.cell? ⟨p.1,p.2 + x * m + k,none⟩=some v
theorem zi{P:Program}{calls ext inl:List FuncId}(B:Base P calls ext inl)(loops:List (Nat × LH))(globs:List (Nat × List At × TypeId))(n:Nat){f:FuncId}{fn:Func}{b:Code}(hf:P.funcs[f]? = some fn)(hb:fn.body=some b)
  (args:List SV) (c:Ctr) (kn:KnL) (ρ:Env) {vals:Array Value} (ha:(args.map (SV.den ρ b0)).toArray=vals) (hkn:KnL.wf kn c∧KnL.den kn ρ) (hw:args.all (SV.wf c)=true) {w:World} {v:Value} {p:Prop}
  (he:execF (PA P ⟨w,[]⟩ (fun u=>u=v) (fun _ _=>False) (fun _ _=>False)) ⟨P,calls,ext,inl,loops,globs,[],[]⟩ n fn b args c kn ρ=p) (h:p):Calls P f vals w (Ret v w):=by
 subst ha;refine (zff (G:=⟨P,calls,ext,inl,loops,globs,[],[]⟩) (B.ok loops globs) B.mix hf hb n hkn hw (Eq.mpr he h)).mono fun e w' he => ?_;rcases he with ⟨u,h1,h2,h3⟩ | ⟨u,h1,h2,h3⟩
 ·rcases h3 with rfl | h3
  ·exact⟨h1,h2⟩
  ·exact h3.elim
 ·exact h3.elim
theorem zez{P:Program}{calls ext inl:List FuncId}(B:Base P calls ext inl)(loops:List (Nat × LH))(globs:List (Nat × List At × TypeId))(sums:List Summary)(hs:∀ e∈sums,∀ (A:Alg (Env→Prop)) (yl:Yl (Env→Prop)) (K:Ex→St→Env→Prop) (K':SV→St→Env→Prop),inlX A ⟨P,calls,ext,inl,loops,globs,sums,[]⟩ (exec A ⟨P,calls,ext,inl,loops,globs,sums,[]⟩ e.n) yl K e.f e.args e.s K'=askRun A e.asks (K' e.v e.s'))(n:Nat){f:FuncId}{fn:Func}{b:Code}(hf:P.funcs[f]? = some fn)(hb:fn.body=some b)
  (args:List SV) (c:Ctr) (kn:KnL) (ρ:Env) {vals:Array Value} (ha:(args.map (SV.den ρ b0)).toArray=vals) (hkn:KnL.wf kn c∧KnL.den kn ρ) (hw:args.all (SV.wf c)=true) {w:World} {v:Value} {p:Prop}
  (he:execF (PA P ⟨w,[]⟩ (fun u=>u=v) (fun _ _=>False) (fun _ _=>False)) ⟨P,calls,ext,inl,loops,globs,sums,[]⟩ n fn b args c kn ρ=p) (h:p):Calls P f vals w (Ret v w):=by
 subst ha;refine (zff (G:=⟨P,calls,ext,inl,loops,globs,sums,[]⟩) (B.okS loops globs sums hs) B.mix hf hb n hkn hw (Eq.mpr he h)).mono fun e w' he => ?_;rcases he with ⟨u,h1,h2,h3⟩ | ⟨u,h1,h2,h3⟩
 ·rcases h3 with rfl | h3
  ·exact⟨h1,h2⟩
  ·exact h3.elim
 ·exact h3.elim
theorem zpk{P:Program}{calls ext inl:List FuncId}(B:Base P calls ext inl)(loops:List (Nat × LH))(globs:List (Nat × List At × TypeId))(n:Nat){f:FuncId}{fn:Func}{b:Code}(hf:P.funcs[f]? = some fn)(hb:fn.body=some b)
    (args:List SV) (cs:List At) (t:TypeId) (c:Ctr) (kn:KnL) (ρ:Env) {x:Nat} {vals old:Array Value} (ha:(args.map (SV.den ρ (lentB [x]))).toArray=vals) (ho:(cs.map (At.den ρ (lentB [x]))).toArray=old) (hkn:KnL.wf kn c∧KnL.den kn ρ) (hw:args.all (SV.wf c)=true) (hc:cs.all (At.wf c)=true) (h0:0 < c.nk)
    {w:World} {v:Value} {new:Array Value} {p:Prop} (he:execFL (PA P ⟨w,[x]⟩ (fun u=>u=.agg #[v,.agg new]) (fun _ _=>False) (fun _ _=>False)) ⟨P,calls,ext,inl,loops,globs,[],[]⟩ n fn b args [(cs,t)] c kn ρ=p)
    (hx:w.heap[x]? = some (.cells old t)) (h:p):Calls P f vals w (Eff v x new t w):=by
  subst ha ho;refine (zjh (G:=⟨P,calls,ext,inl,loops,globs,[],[]⟩) (B.ok loops globs) B.mix hf hb n hkn hw (bs := [(cs,t)]) (xs := [x]) (by simpa using hc) h0 rfl (by simp) (fun k cs' t' hk => ?_) (Eq.mpr he h)).mono fun e w' he => ?_
  · cases k with
    | zero =>
      simp only [List.getElem?_cons_zero,Option.some.injEq,Prod.mk.injEq]at hk;obtain⟨rfl,rfl⟩:=hk;exact hx
    | succ k=>simp at hk
  · rcases he with ⟨_,_,_,he⟩ | he
    · exact he.elim
    obtain⟨u,cells,h1,h2,h3,h4,h5⟩:=he;obtain⟨n',h6,h7⟩:=h4 0 cs t rfl
    match cells,h3 with
    | [cell],_ =>
      simp only [List.getElem?_cons_zero,Option.some.injEq]at h6;subst h6;simp only [Value.agg.injEq]at h5;have h8:=congrArg Array.toList h5;simp only [List.cons.injEq,Value.agg.injEq,and_true]at h8;obtain⟨rfl,rfl⟩:=h8;exact⟨h1,h2,h7⟩
theorem zpe{P:Program}{calls ext inl:List FuncId}(B:Base P calls ext inl)(loops:List (Nat × LH))(globs:List (Nat × List At × TypeId))(n:Nat){f:FuncId}{fn:Func}{b:Code}(hf:P.funcs[f]? = some fn)(hb:fn.body=some b)
    (args:List SV) (cs:List At) (t:TypeId) (c:Ctr) (kn:KnL) (ρ:Env) {x:Nat} {vals old:Array Value} (ha:(args.map (SV.den ρ (lentB [x]))).toArray=vals) (ho:(cs.map (At.den ρ (lentB [x]))).toArray=old) (hkn:KnL.wf kn c∧KnL.den kn ρ) (hw:args.all (SV.wf c)=true) (hc:cs.all (At.wf c)=true) (h0:0 < c.nk)
    {w:World} {v:Value} {p:Prop} (he:execFL (PA P ⟨w,[x]⟩ (fun _=>False) (fun _ _=>False) (fun _ u=>u=v)) ⟨P,calls,ext,inl,loops,globs,[],[]⟩ n fn b args [(cs,t)] c kn ρ=p)
    (hx:w.heap[x]? = some (.cells old t)) (h:p):Calls P f vals w (PanL v [x] w):=by
  subst ha ho;refine (zjh (G:=⟨P,calls,ext,inl,loops,globs,[],[]⟩) (B.ok loops globs) B.mix hf hb n hkn hw (bs := [(cs,t)]) (xs := [x]) (by simpa using hc) h0 rfl (by simp) (fun k cs' t' hk => ?_) (Eq.mpr he h)).mono fun e w' he => ?_
  · cases k with
    | zero =>
      simp only [List.getElem?_cons_zero,Option.some.injEq,Prod.mk.injEq]at hk;obtain⟨rfl,rfl⟩:=hk;exact hx
    | succ k=>simp at hk
  · rcases he with ⟨u,h1,h2,h3⟩ | ⟨_,_,_,_,_,_,he⟩
    · subst h3;have h2:BelX x w w':=h2;exact⟨h1,h2.os,h2.tape,h2.output,h2.size,fun k hk hn=>h2.block k hk fun e=>hn (by simp [e])⟩
    · exact he.elim
def LentH:List Nat→List (Array Value × TypeId)→World→Prop
 | x::xs,b::bs,w=>w.heap[x]? = some (.cells b.1 b.2)∧LentH xs bs w
 | [],[],_=>True
 | _,_,_=>False
theorem LentH.get{w:World}:∀ {xs:List Nat} {bs:List (Array Value × TypeId)},LentH xs bs w→xs.length=bs.length∧∀ k b,bs[k]? = some b→w.heap[lentB xs k]? = some (.cells b.1 b.2)
  | [],[],_=>⟨rfl,fun k b h=>by simp at h⟩
  | x::xs,b::bs,h=>by
    obtain⟨h1,h2⟩:=LentH.get h.2;refine⟨by simp [h1],fun k b' hk => ?_⟩;cases k with
    | zero =>
      simp only [List.getElem?_cons_zero,Option.some.injEq]at hk;subst hk;exact h.1
    | succ k=>exact h2 k b' (by simpa using hk)
theorem zxba{P:Program}{calls ext inl:List FuncId}(B:Base P calls ext inl)(loops:List (Nat × LH))(globs:List (Nat × List At × TypeId))(n:Nat){f:FuncId}{fn:Func}{b:Code}(hf:P.funcs[f]? = some fn)(hb:fn.body=some b)
  (args:List SV) (c:Ctr) (kn:KnL) (ρ:Env) {vals:Array Value} (ha:(args.map (SV.den ρ b0)).toArray=vals) (hkn:KnL.wf kn c∧KnL.den kn ρ) (hw:args.all (SV.wf c)=true) {w:World} {Q:Value→Prop} {QM:World→Value→Prop} {p:Prop}
  (he:execF (PA P ⟨w,[]⟩ Q QM (fun _ _=>False)) ⟨P,calls,ext,inl,loops,globs,[],[]⟩ n fn b args c kn ρ=p) (h:p):Calls P f vals w fun e w'=>∃ v,e=.returned v∧Below w.heap.size w w'∧(Q v∨QM w' v):=by
 subst ha
 exact (zff (G:=⟨P,calls,ext,inl,loops,globs,[],[]⟩) (B.ok loops globs) B.mix hf hb n hkn hw (Eq.mpr he h)).mono fun e w' he=>by
  rcases he with he | ⟨_,_,_,he⟩
  ·exact he
  ·exact he.elim
theorem zdda(x:Int):IntKind.i64.wrap x=(x + 9223372036854775808) % 18446744073709551616 - 9223372036854775808:=by
 unfold IntKind.wrap;simp only [IntKind.bits,IntKind.signed];simp;split <;> omega
theorem ze{x:Int}(h:-9223372036854775808≤x∧x≤9223372036854775807):IntKind.i64.wrap x=x:=by rw [zdda];omega
end Vc
