import Derived.Test.YtdjgnbkclcjiiaaGreatDoorPs
set_option linter.unusedVariables false
set_option linter.unusedSimpArgs false
namespace Go.Proofs.YtdjgnbkclcjiiaaGreatDoor
open Go Go.RowKit Go.Proofs
theorem zvb{r:Rl}(h:rightR r=true):(r.op=1∧atomB r=true)∨(∃ v k,r=.mk 2 0 [] 0 0 0 v [k]∧rightR k=true)∨(∃ op v a b,r=.mk op 0 [] 0 0 0 v [a,b]∧(op=3∨op=4)∧rightR a=true∧rightR b=true):=by
  obtain⟨op,ask,nm,wi,cm,n,v,ks⟩:=r;rw [rightR]at h;by_cases ho:op=1
  · rw [if_pos ho]at h;exact .inl ⟨ho,h⟩
  rw [if_neg ho]at h;simp only [Bool.and_eq_true]at h;obtain⟨⟨hb,hk⟩,hl⟩:=h;obtain⟨rfl,rfl,rfl,rfl,rfl⟩:=zif.1 hb;simp only [kidsB,Bool.or_eq_true,Bool.and_eq_true,decide_eq_true_eq]at hk;rcases hk with ⟨rfl,hk⟩ | ⟨ho,hk⟩
  · match ks,hk,hl with
    | [k],_,hl =>
      simp only [rightL,Bool.and_true]at hl;exact .inr (.inl ⟨v,k,rfl,hl⟩)
  · match ks,hk,hl with
    | [a,b],_,hl =>
      simp only [rightL,Bool.and_true,Bool.and_eq_true]at hl;exact .inr (.inr ⟨op,v,a,b,rfl,ho,hl.1,hl.2⟩)
theorem zhc{r:Rl}(h:rightR r=true):r.op=1∨r.op=2∨r.op=3∨r.op=4:=by
 rcases zvb h with ⟨h1,_⟩ | ⟨v,k,rfl,_⟩ | ⟨op,v,a,b,rfl,ho,_⟩
 ·exact .inl h1
 ·exact .inr (.inl rfl)
 ·exact .inr (.inr ho)
theorem zica{s t:List UInt8}{i:Nat}(h:s.drop i=32::t):tokS s i=tokS s (i + 1):=by
 have h2:s.drop (i + 1)=t:=zw h
 have h1:runB spB (32::t)=runB spB t + 1:=by
  show (if spB 32=true then _ else _)=_;rw [if_pos (by decide)]
 unfold tokS;rw [h,h2,h1,show i + (runB spB t + 1)=i + 1 + runB spB t by omega]
theorem zqx{s t:List UInt8}{i:Nat}(h:s.drop i=32::t)(n:Nat):pNot s n i=pNot s n (i + 1):=by
 have e:=zica h;have hT:∀ x,isT s i x=isT s (i + 1) x:=fun x=>by unfold isT;rw [e]
 have hN:pName s i=pName s (i + 1):=by unfold pName;rw [e]
 have hA:pAtom s i=pAtom s (i + 1):=by unfold pAtom;rw [hT,hT,hN,e]
 cases n with
 | zero=>rw [pNot,pNot]
 | succ n=>rw [pNot,pNot,hT,hT,hA,e]
theorem zjca{s t:List UInt8}{i:Nat}(h:s.drop i=32::t)(n:Nat):pAnd s n i=pAnd s n (i + 1):=by
 cases n with
 | zero=>simp only [pAnd]
 | succ n=>simp only [pAnd,zqx h]
theorem zrx{s t:List UInt8}{i:Nat}{ask wi cm n:Int}{nm:List UInt8}{op:Int}{v:Value}{ks:List Rl}(ha:atomB (.mk op ask nm wi cm n v ks)=true)(hd:s.drop i=txA ask nm wi cm n++t)(hf:Fw t):pAtom s i=.ok (.mk 1 ask nm wi cm n nilV []) (i + (txA ask nm wi cm n).length):=by
 obtain⟨⟨h1,h2⟩,h3,⟨h4,h5⟩,h6,⟨h7,h8⟩,⟨h9,h10⟩,_⟩:=zhb.1 ha;have hm:=zts hf;have hmt:∀ c∈t.head?,markB c=false:=fun c hc=>by rcases hm c hc with rfl | rfl <;> decide
 have hdt:∀ c∈t.head?,digB c=false:=fun c hc=>by rcases hm c hc with rfl | rfl <;> decide
 obtain⟨n1,n2,n3,n4,n5,n6⟩:=zmj h3;have hin:inB n (-1073741824) 1073741824=true:=by simp [inB,h9,h10]
 obtain⟨c,rfl⟩:∃ c:Nat,cm=c:=⟨cm.toNat,by omega⟩;have hc:c < 6:=by omega
 by_cases h0:ask=0
 ·subst h0;have hw:wi=0:=by rcases h6 with h | h;exact absurd rfl h;exact h
  subst hw
  have noT:∀ u:List UInt8,s.drop i=nm++u→(∀ c∈u.head?,markB c=false)→isT s i wMost=false∧isT s i wLeast=false:=fun u hu hu'=>by
   unfold isT;rw [zxm n1 n2 n3 n4 hu hu'];simp [n5,n6]
  by_cases hq:(c:Int)=5∧n=0
  ·have hT:txA 0 nm 0 c n=nm:=by unfold txA;rw [if_pos ⟨rfl,hq⟩]
   rw [hT]at hd ⊢;obtain⟨t1,t2⟩:=noT t hd hmt;unfold pAtom;rw [t1,t2,if_neg (by decide),if_neg (by decide),zfk h3 hd hmt];show pCmp s 0 nm 0 _=_;rw [zuz hf (zgc hd),hq.1,hq.2]
  ·have hT:txA 0 nm 0 c n=nm++32::(cmpsB.getD c []++32::intD n):=by unfold txA;rw [if_neg (fun h=>hq h.2),if_pos rfl];rfl
   rw [hT]at hd ⊢;rw [List.append_assoc]at hd;have hu:∀ d∈(32::(cmpsB.getD c []++32::intD n)++t).head?,markB d=false:=by simp [markB,letB,digB]
   obtain⟨t1,t2⟩:=noT _ hd hu;have hd2:=zgc hd;rw [List.cons_append,List.append_assoc,List.cons_append]at hd2;unfold pAtom;rw [t1,t2,if_neg (by decide),if_neg (by decide),zfk h3 hd hu];show pCmp s 0 nm 0 _=_;rw [zmu hc hd2 hin hdt];congr 1;simp only [List.length_append,List.length_cons];omega
 ·
  have key:∀ wd:List UInt8,(wd=wMost∨wd=wLeast)→s.drop i=wd++40::(nm++44::32::(intD wi++41::32::(cmpsB.getD c []++32::(intD n++t))))→tokS s i=⟨i,i + wd.length,wd,false,false⟩∧pAsk s ask (i + wd.length)=.ok (.mk 1 ask nm wi c n nilV []) (i + (wd++40::(nm++44::32::(intD wi++41::32::(cmpsB.getD c []++32::intD n)))).length):=fun wd hwd hd=>by
   have w1:wd ≠ []:=by rcases hwd with rfl | rfl <;> decide
   have w2:∀ c∈wd.head?,letB c=true:=by rcases hwd with rfl | rfl <;> decide
   have w3:∀ c∈wd,markB c=true:=by rcases hwd with rfl | rfl <;> decide
   have w4:wd.length≤32:=by rcases hwd with rfl | rfl <;> decide
   refine⟨zxm w1 w2 w3 w4 hd (by simp [markB,letB,digB]), ?_⟩;have d1:=zgc hd
   have hhd:∀ d∈(nm++44::32::(intD wi++41::32::(cmpsB.getD c []++32::(intD n++t)))).head?,d≠61:=by
    cases nm with
    | nil=>exact absurd rfl n1
    | cons e l=>intro d hd';simp at hd';subst hd';exact (zlu (n2 _ (by simp))).2
   have e1:=zlj (x := [40]) (by decide) d1 hhd;have d2:=zw d1;have e2:=zfk h3 d2 (by simp [markB,letB,digB]);have d3:=zgc d2;have e3:=zlj (x := [44]) (by decide) d3 (by simp);have d4:=zw d3;have hwin:inB wi 0 1000=true:=by simp [inB,h4,h5]
   have e4:=zku (lo:=0) (hi:=1000) d4 (by omega) hwin (by simp [digB]);have d5:=zgc (zw d4);have e5:=zlj (x := [41]) (by decide) d5 (by simp);have d6:=zw d5;have e6:=zmu (s:=s) (ask:=ask) (wi:=wi) (nm:=nm) hc d6 hin hdt;unfold pAsk;simp only [List.length_cons,List.length_nil,Nat.zero_add]at e1 e3 e5;rw [e1];simp only [Pr.bind];rw [e2];simp only [Pr.bind];rw [e3];simp only [Pr.bind];rw [e4];simp only [Pr.bind];rw [e5];simp only [Pr.bind];rw [e6];congr 1;simp only [List.length_append,List.length_cons];omega
  have hT:txA ask nm wi c n=(if ask=1 then wMost else wLeast)++40::(nm++44::32::(intD wi++41::32::(cmpsB.getD c []++32::intD n))):=by
   unfold txA;rw [if_neg (fun h=>h0 h.1),if_neg h0];simp
  rw [hT]at hd ⊢;by_cases hk:ask=1
  ·rw [if_pos hk]at hd ⊢;obtain⟨k1,k2⟩:=key wMost (.inl rfl) (by simpa using hd);unfold pAtom;rw [if_pos (by unfold isT;rw [k1];rfl),k1];subst hk;exact k2
  ·have h2':ask=2:=by omega
   rw [if_neg hk]at hd ⊢;obtain⟨k1,k2⟩:=key wLeast (.inr rfl) (by simpa using hd);unfold pAtom;rw [if_neg (by unfold isT;rw [k1];simp [wMost,wLeast]),if_pos (by unfold isT;rw [k1];rfl),k1];subst h2';exact k2
def txN(r:Rl):List UInt8:=parT (decide (2 < r.op)) (txR r)
def txD(r:Rl):List UInt8:=parT (decide (3 < r.op)) (txR r)
theorem znj{op ask:Int}{nm:List UInt8}{wi cm n:Int}{v:Value}{ks:List Rl}:txR (.mk op ask nm wi cm n v ks)=if op=1 then txA ask nm wi cm n else txK op (txL ks):=by rw [txR]
theorem zym{v:Value}{k:Rl}:txR (.mk 2 0 [] 0 0 0 v [k])=33::txN k:=by
 rw [znj,if_neg (by decide)];simp only [txL,txK,txN]
theorem zzm{v:Value}{a b:Rl}:txR (.mk 3 0 [] 0 0 0 v [a,b])=txD a++32::38::32::txN b:=by
 rw [znj,if_neg (by decide)];simp only [txL,txK,txN,txD,if_pos]
theorem zlr{v:Value}{a b:Rl}(ha:a.op≤4):txR (.mk 4 0 [] 0 0 0 v [a,b])=txR a++32::124::32::txD b:=by
 rw [znj,if_neg (by decide)];simp only [txL,txK,txD];rw [if_neg (by decide),show decide (4 < a.op)=false from decide_eq_false (by omega)];rfl
theorem zsx:∀ (m:Nat) (r:Rl),nodesR r≤m→rightR r=true→∃ c l,txR r=c::l∧(letB c=true∨c=33∨c=40):=by
  intro m
  induction m with
  | zero=>intro r hm;have:=zcb r;omega
  | succ m ih =>
  intro r hm hr
  have par:∀ (q:Rl) (b:Bool),nodesR q≤m→rightR q=true→∃ c l,parT b (txR q)=c::l∧(letB c=true∨c=33∨c=40):=fun q b hq hr'=>by
    cases b with
    | true=>exact⟨40,_,rfl,.inr (.inr rfl)⟩
    | false=>exact ih q hq hr'
  rcases zvb hr with ⟨ho,ha⟩ | ⟨v,k,rfl,hk⟩ | ⟨op,v,a,b,rfl,ho,ha,hb⟩
  · obtain⟨op,ask,nm,wi,cm,n,v,ks⟩:=r;obtain rfl:op=1:=ho;obtain⟨_,h3,_⟩:=zhb.1 ha;obtain⟨n1,n2,_⟩:=zmj h3;rw [znj,if_pos rfl];cases nm with
    | nil=>exact absurd rfl n1
    | cons c l =>
      have hc:=n2 c (by simp);unfold txA;split
      · exact⟨c,l,rfl,.inl hc⟩
      split
      · exact⟨c,_,rfl,.inl hc⟩
      split
      · exact⟨109,_,rfl,.inl (by decide)⟩
      · exact⟨108,_,rfl,.inl (by decide)⟩
  · exact⟨33,_,zym,.inr (.inl rfl)⟩
  · have hna:nodesR a≤m:=by simp only [nodesR,nodesL]at hm;omega
    rcases ho with rfl | rfl
    · rw [zzm];obtain⟨c,l,e,hc⟩:=par a (decide (3 < a.op)) hna ha;exact⟨c,_,by unfold txD;rw [e];rfl,hc⟩
    · obtain⟨c,l,e,hc⟩:=ih a hna ha;exact⟨c,_,by rw [zlr (by have:=zhc ha;omega),e];rfl,hc⟩
theorem zvda{r:Rl}(h:rightR r=true){t:List UInt8}:(∀ c∈(txR r++t).head?,c≠61)∧(∀ c∈(txN r++t).head?,c≠61)∧txR r ≠ []:=by
 obtain⟨c,l,e,hc⟩:=zsx _ r (Nat.le_refl _) h
 have hc':c≠61:=by
  rcases hc with hc | rfl | rfl
  ·exact (zlu hc).2
  ·decide
  ·decide
 refine⟨fun d hd => ?_,fun d hd => ?_,by rw [e];simp⟩
 ·rw [e]at hd;simp at hd;subst hd;exact hc'
 ·unfold txN parT at hd;split at hd
  ·simp at hd;subst hd;decide
  ·rw [e]at hd;simp at hd;subst hd;exact hc'
theorem zza{α β:Type}{r:Pr α}{k:α→Nat→Pr β}(h:(r.bind k).fed):r.fed:=by
 cases r with
 | ok v i=>trivial
 | err a e=>trivial
 | out=>exact h
theorem zkca{t:List UInt8}(h:Fw t):FwO (41::t) := .inr (.inl ⟨t,rfl,fun c hc=>by rcases zts h c hc with rfl | rfl <;> decide⟩)
theorem zlca{t:List UInt8}(h:FwO t):fx t ≠ [38]:=by
 rcases h with rfl | ⟨u,rfl,_⟩ | ⟨u,rfl⟩ <;> simp [fx]
theorem znu{s t:List UInt8}{i m:Nat}{r:Rl}(hf:FwO t)(hd:s.drop i=t)(h:(andL s m r i).fed):andL s m r i=.ok r i:=by
  cases m with
  | zero=>rw [andL]at h;exact h.elim
  | succ m =>
    rw [andL,zox (.inl hf) hd,if_neg (by simpa using zlca hf)]
theorem ztx{s t:List UInt8}{i m:Nat}{r:Rl}(hf:Fw t)(h0:fx t ≠ [124])(hd:s.drop i=t)(h:(orL s m r i).fed):orL s m r i=.ok r i:=by
  cases m with
  | zero=>rw [orL]at h;exact h.elim
  | succ m =>
    rw [orL,zox hf hd,if_neg (by simpa using h0)]
theorem zvz{s u:List UInt8}{i m:Nat}{r:Rl}(hd:s.drop i=32::38::32::u)(h:(andL s m r i).fed):∃ m',andL s m r i=(pNot s m' (i + 3)).bind fun q k=>andL s m' (aR r q) k:=by
  have hf:Fw (32::38::32::u) := .inr ⟨u,rfl⟩
  have ht:(tokS s i).t=i + 2:=by
    rw [zrm hd (by simp [spB]),show (38::32::u)=[38]++32::u from rfl,zbc (by decide) (by simp)];rfl
  cases m with
  | zero=>rw [andL]at h;exact h.elim
  | succ m =>
    refine⟨m, ?_⟩;rw [andL,zox hf hd,if_pos (by simp [fx]),ht,zqx (zw (zw hd))]
theorem zmca{s u:List UInt8}{i m:Nat}{r:Rl}(hd:s.drop i=32::124::32::u)(h:(orL s m r i).fed):∃ m',orL s m r i=(pAnd s m' (i + 3)).bind fun q k=>orL s m' (.mk 4 0 [] 0 0 0 nilV [r,q]) k:=by
  have hf:Fw (32::124::32::u) := .inl (.inr (.inr ⟨u,rfl⟩))
  have ht:(tokS s i).t=i + 2:=by
    rw [zrm hd (by simp [spB]),show (124::32::u)=[124]++32::u from rfl,zbc (by decide) (by simp)];rfl
  cases m with
  | zero=>rw [orL]at h;exact h.elim
  | succ m =>
    refine⟨m, ?_⟩;rw [orL,zox hf hd,if_pos (by simp [fx]),ht,zjca (zw (zw hd))]
theorem zhg{b:Bool}{x:List UInt8}:(parT b x).length=if b=true then x.length + 2 else x.length:=by
 unfold parT;split <;> simp
def NSay(s:List UInt8)(r:Rl):Prop:=∀ n i t,s.drop i=txN r++t→Fw t→(pNot s n i).fed→pNot s n i=.ok (erR r) (i + (txN r).length)
def ASay(s:List UInt8)(r:Rl):Prop:=∀ n i t,s.drop i=txD r++t→Fw t→(pAnd s n i).fed→∃ m,pAnd s n i=andL s m (erR r) (i + (txD r).length)
def OSay(s:List UInt8)(r:Rl):Prop:=∀ n i t,s.drop i=txR r++t→FwO t→(pOr s n i).fed→∃ m,pOr s n i=orL s m (erR r) (i + (txR r).length)
theorem znca{s:List UInt8}{r:Rl}(hr:rightR r=true)(hO:OSay s r){n i:Nat}{t:List UInt8}(hd:s.drop i=40::(txR r ++ [41])++t)(hf:Fw t)(h:(pNot s n i).fed):pNot s n i=.ok (erR r) (i + ((txR r).length + 2)):=by
  have hd':s.drop i=[40]++(txR r++41::t):=by simpa using hd
  have ht:=zwm (x := [40]) (by decide) hd' (zvda hr).1;have d1:s.drop (i + 1)=txR r++41::t:=zw hd';cases n with
  | zero=>rw [pNot]at h;exact h.elim
  | succ n =>
    have e1:isT s i [33]=false:=by unfold isT;rw [ht];simp
    have e2:isT s i [40]=true:=by unfold isT;rw [ht];rfl
    rw [pNot,e1,if_neg (by decide),if_pos e2,ht]at h ⊢;have hfo:=zkca hf;obtain⟨m,e3⟩:=hO n (i + 1) (41::t) d1 hfo (zza h);have d2:s.drop (i + 1 + (txR r).length)=41::t:=zgc d1;have e4:orL s m (erR r) (i + 1 + (txR r).length)=.ok (erR r) (i + 1 + (txR r).length):=ztx (.inl hfo) (by simp [fx]) d2 (by rw [← e3];exact zza h);have e5:=zlj (x := [41]) (by decide) (show s.drop (i + 1 + (txR r).length)=[41]++t from d2) (fun c hc=>by rcases zts hf c hc with rfl | rfl <;> decide);show (pOr s n (i + 1)).bind _=_;rw [e3,e4];simp only [Pr.bind];rw [e5];simp only [Pr.bind];congr 1;simp only [List.length_cons,List.length_nil];omega
theorem zwz(s:List UInt8):∀ (m:Nat) (r:Rl),nodesR r≤m→rightR r=true→NSay s r∧ASay s r∧OSay s r:=by
  intro m
  induction m with
  | zero=>intro r hm;have:=zcb r;omega
  | succ m ih =>
  intro r hm hr
  have toO:r.op≠4→ASay s r→OSay s r:=fun ho hA n i t hd hf h=>by
    have hx:txD r=txR r:=by
      unfold txD;rw [decide_eq_false (by have:=zhc hr;omega)];rfl
    cases n with
    | zero=>rw [pOr]at h;exact h.elim
    | succ n =>
      rw [pOr]at h ⊢;obtain⟨m',e⟩:=hA n i t (by rw [hx];exact hd) (.inl hf) (zza h);rw [hx]at e;have e2:=znu hf (zgc hd) (by rw [← e];exact zza h);exact⟨n,by rw [e,e2];rfl⟩
  have toA:r.op≠3→NSay s r→ASay s r:=fun ho hN n i t hd hf h=>by
    have hx:txD r=txN r:=by
      unfold txD txN;rw [show decide (3 < r.op)=decide (2 < r.op) by rw [decide_eq_decide];omega]
    rw [hx]at hd ⊢;cases n with
    | zero=>rw [pAnd]at h;exact h.elim
    | succ n =>
      rw [pAnd]at h ⊢;exact⟨n,by rw [hN n i t hd hf (zza h)];rfl⟩
  rcases zvb hr with ⟨ho,ha⟩ | ⟨v,k,rfl,hk⟩ | ⟨op,v,a,b,rfl,ho,ha,hb⟩
  · have hN:NSay s r:=fun n i t hd hf h=>by
      obtain⟨op,ask,nm,wi,cm,n',v,ks⟩:=r;obtain rfl:op=1:=ho
      have hx:txN (.mk 1 ask nm wi cm n' v ks)=txA ask nm wi cm n':=by
        unfold txN;rw [znj,if_pos rfl];rfl
      have hks:ks=[]:=List.eq_nil_of_length_eq_zero (zhb.1 ha).2.2.2.2.2.2;subst hks;have hh:=zsx _ _ (Nat.le_refl _) hr;rw [znj,if_pos rfl]at hh;rw [hx]at hd ⊢;cases n with
      | zero=>rw [pNot]at h;exact h.elim
      | succ n =>
        have hat:=zrx (op:=1) (v:=v) (ks := []) ha hd hf
        have hno:isT s i [33]=false∧isT s i [40]=false:=by
          obtain⟨c,l,e,hc⟩:=hh
          have hlc:letB c=true:=by
            obtain⟨_,h3,_⟩:=zhb.1 ha;obtain⟨n1,n2,_⟩:=zmj h3;cases nm with
            | nil=>exact absurd rfl n1
            | cons d l' =>
              have hd':=n2 d (by simp);unfold txA at e;split at e
              · cases e;exact hd'
              split at e
              · cases e;exact hd'
              split at e
              · cases e;decide
              · cases e;decide
          have htk:tokS s i=tokAt i (c::(l++t)):=by rw [e]at hd;exact zvg hd (by intro d hd2;simp at hd2;subst hd2;exact (zlu hlc).1)
          have hx2:∀ y:UInt8,letB y=false→(tokAt i (c::(l++t))).x ≠ [y]:=fun y hy hxe=>by
            rw [zu,if_pos hlc]at hxe
            have h1:1≤runB markB (c::(l++t)):=by
              unfold runB;rw [if_pos (by simp [markB,hlc])];omega
            dsimp only at hxe;cases hq:runB markB (c::(l++t))with
            | zero=>omega
            | succ q =>
              rw [hq]at hxe;simp only [List.take_succ_cons,List.cons.injEq]at hxe;rw [hxe.1,hy]at hlc;cases hlc
          constructor
          · unfold isT;rw [htk];simp [hx2 33 (by decide)]
          · unfold isT;rw [htk];simp [hx2 40 (by decide)]
        rw [pNot,hno.1,hno.2,if_neg (by decide),if_neg (by decide),hat];simp only [erR,erL]
    exact⟨hN,toA (by omega) hN,toO (by omega) (toA (by omega) hN)⟩
  · have hnk:nodesR k≤m:=by simp only [nodesR,nodesL]at hm;omega
    have hN:NSay s (.mk 2 0 [] 0 0 0 v [k]):=fun n i t hd hf h=>by
      have hx:txN (.mk 2 0 [] 0 0 0 v [k])=33::txN k:=by
        show parT (decide ((2:Int) < 2)) _=_;rw [zym];rfl
      rw [hx]at hd ⊢;have hd':s.drop i=[33]++(txN k++t):=by simpa using hd
      have ht:=zwm (x := [33]) (by decide) hd' (zvda hk).2.1;cases n with
      | zero=>rw [pNot]at h;exact h.elim
      | succ n =>
        have e2:isT s i [33]=true:=by unfold isT;rw [ht];rfl
        rw [pNot,if_pos e2,ht]at h ⊢;have e3:=(ih k hnk hk).1 n (i + 1) t (zw hd') hf (zza h);show (pNot s n (i + 1)).bind _=_;rw [e3];simp only [Pr.bind,erR,erL,nR,List.length_cons];congr 1;omega
    have n3:(Rl.mk 2 0 [] 0 0 0 v [k]).op≠3:=by show (2:Int)≠3;decide
    have n4:(Rl.mk 2 0 [] 0 0 0 v [k]).op≠4:=by show (2:Int)≠4;decide
    exact⟨hN,toA n3 hN,toO n4 (toA n3 hN)⟩
  · have hna:nodesR a≤m:=by simp only [nodesR,nodesL]at hm;omega
    have hnb:nodesR b≤m:=by simp only [nodesR,nodesL]at hm;omega
    obtain⟨_,aA,aO⟩:=ih a hna ha;obtain⟨bN,bA,_⟩:=ih b hnb hb
    have hO:OSay s (.mk op 0 [] 0 0 0 v [a,b])→NSay s (.mk op 0 [] 0 0 0 v [a,b]):=fun hO n i t hd hf h=>by
      have hx:txN (.mk op 0 [] 0 0 0 v [a,b])=40::(txR (.mk op 0 [] 0 0 0 v [a,b]) ++ [41]):=by
        show parT (decide (2 < op)) _=_;rw [decide_eq_true (by omega)];rfl
      rw [hx]at hd ⊢;rw [znca hr hO hd hf h];congr 1;simp
    rcases ho with rfl | rfl
    · have hA:ASay s (.mk 3 0 [] 0 0 0 v [a,b]):=fun n i t hd hf h=>by
        have hx:txD (.mk 3 0 [] 0 0 0 v [a,b])=txD a++32::38::32::txN b:=by
          show parT (decide ((3:Int) < 3)) _=_;rw [zzm];rfl
        rw [hx]at hd ⊢;have hd':s.drop i=txD a++32::38::32::(txN b++t):=by simpa using hd
        obtain⟨m1,e1⟩:=aA n i _ hd' (.inr ⟨_,rfl⟩) h;rw [e1]at h;have d1:=zgc hd';obtain⟨m2,e2⟩:=zvz d1 h;rw [e2]at h;have d2:=zw (zw (zw d1));have e3:=bN m2 _ t d2 hf (zza h);refine⟨m2, ?_⟩;rw [e1,e2,show i + (txD a).length + 3=i + (txD a).length + 1 + 1 + 1 from rfl,e3];simp only [Pr.bind,aR,erR,erL];congr 1;simp only [List.length_append,List.length_cons];omega
      have n4:(Rl.mk 3 0 [] 0 0 0 v [a,b]).op≠4:=by show (3:Int)≠4;decide
      exact⟨hO (toO n4 hA),hA,toO n4 hA⟩
    · have hOO:OSay s (.mk 4 0 [] 0 0 0 v [a,b]):=fun n i t hd hf h=>by
        have ho4:a.op≤4:=by have:=zhc ha;omega
        rw [zlr ho4]at hd ⊢;have hd':s.drop i=txR a++32::124::32::(txD b++t):=by simpa using hd
        obtain⟨m1,e1⟩:=aO n i _ hd' (.inr (.inr ⟨_,rfl⟩)) h;rw [e1]at h;have d1:=zgc hd';obtain⟨m2,e2⟩:=zmca d1 h;rw [e2]at h;have d2:=zw (zw (zw d1));obtain⟨m3,e3⟩:=bA m2 _ t d2 (.inl hf) (zza h);have e4:=znu hf (zgc d2) (by rw [← e3];exact zza h);refine⟨m2, ?_⟩;rw [e1,e2,show i + (txR a).length + 3=i + (txR a).length + 1 + 1 + 1 from rfl,e3,e4];simp only [Pr.bind,erR,erL];congr 1;simp only [List.length_append,List.length_cons];omega
      have n3:(Rl.mk 4 0 [] 0 0 0 v [a,b]).op≠3:=by show (4:Int)≠3;decide
      have hN:=hO hOO;exact⟨hN,toA n3 hN,hOO⟩
theorem zus{r:Rl}(hv:validR r=true)(hl:(txR r).length≤2000):parseS (txR r)=(erR r,0,0):=by
 have hr:rightR r=true:=by
  unfold validR at hv;simp only [Bool.and_eq_true]at hv;exact hv.2
 obtain⟨m,e⟩:=(zwz (txR r) _ r (Nat.le_refl _) hr).2.2 (4 * (txR r).length + 3) 0 [] (by simp) (.inl rfl) (znx _);have hd:(txR r).drop (0 + (txR r).length)=[]:=by simp
 have hf:=znx (txR r);rw [e]at hf;have e2:=ztx (.inl (.inl rfl)) (by simp [fx]) hd hf;obtain⟨t1,t2,_⟩:=zaba (.inl (.inl rfl)) hd;unfold parseS;rw [if_neg (by omega),e,e2];dsimp only;rw [if_neg (by rw [t1,t2];simp [fx]),zju,if_pos hv]
end Go.Proofs.YtdjgnbkclcjiiaaGreatDoor
