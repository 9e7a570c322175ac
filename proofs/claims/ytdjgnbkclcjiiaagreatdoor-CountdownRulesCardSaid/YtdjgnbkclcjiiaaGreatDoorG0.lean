import Derived.Test.YtdjgnbkclcjiiaaGreatDoorSn
import Derived.Test.YtdjgnbkclcjiiaaGreatDoorVcU
import Derived.Test.YtdjgnbkclcjiiaaGreatDoorRows
section
set_option linter.unusedVariables false
set_option linter.unusedSimpArgs false
namespace Go.Proofs.YtdjgnbkclcjiiaaGreatDoor
open Go Go.RowKit Vc
inductive Pr(α:Type) where
 | ok (v:α) (i:Nat)
 | err (a:Nat) (e:Int)
 | out
def Pr.bind{α β:Type}(r:Pr α)(k:α→Nat→Pr β):Pr β :=
 match r with
 | .ok v i=>k v i
 | .err a e=>.err a e
 | .out=>.out
structure Tk where
 a:Nat
 t:Nat
 x:List UInt8
 num:Bool
 bad:Bool
def runB(p:UInt8→Bool):List UInt8→Nat
 | []=>0
 | c::l=>if p c then runB p l + 1 else 0
theorem zzj(p:UInt8→Bool):∀ l,runB p l≤l.length
  | []=>Nat.le_refl _
  | c::l=>by
    unfold runB
    have:=zzj p l
    split
    · simp only [List.length_cons];omega
    · exact Nat.zero_le _
def spB(c:UInt8):Bool:=decide (c.toNat=32)
def signsB:List (List UInt8) := [[60,61],[62,61],[61,61],[33,61],[60],[62],[124],[38],[33],[40],[41],[44],[45]]
def cmpsB:List (List UInt8) := [[60],[60,61],[62],[62,61],[61,61],[33,61]]
def tokAt(a:Nat):List UInt8→Tk
  | []=>⟨a,a,[],false,false⟩
  | c::l =>
    if letB c=true then ⟨a,a + runB markB (c::l),(c::l).take (runB markB (c::l)),false,decide (32 < runB markB (c::l))⟩
    else if digB c=true then ⟨a,a + runB digB (c::l),(c::l).take (runB digB (c::l)),true,decide (10 < runB digB (c::l))⟩
    else match signsB.find? (fun x=>x.isPrefixOf (c::l))with
      | some x=>⟨a,a + x.length,x,false,false⟩
      | none=>⟨a,a,[],false,true⟩
def tokS(s:List UInt8)(i:Nat):Tk:=tokAt (i + runB spB (s.drop i)) (s.drop (i + runB spB (s.drop i)))
def isT(s:List UInt8)(i:Nat)(x:List UInt8):Bool := !(tokS s i).bad && decide ((tokS s i).x=x)
def pWant(s:List UInt8)(x:List UInt8)(i:Nat):Pr Unit:=if isT s i x=true then .ok () (tokS s i).t else .err (tokS s i).a 5
def pName(s:List UInt8)(i:Nat):Pr (List UInt8):=if (tokS s i).bad=true∨nameB (tokS s i).x=false then .err (tokS s i).a 5 else .ok (tokS s i).x (tokS s i).t
def digV(l:List UInt8):Int:=l.foldl (fun (n:Int) (c:UInt8)=>10 * n + ((c.toNat:Int) - 48)) 0
def pDig(s:List UInt8)(sg:Int)(lo hi:Int)(i0 i:Nat):Pr Int :=
 if (tokS s i).num=false∨(tokS s i).bad=true then .err (tokS s i).a 5
 else if inB (sg * digV (tokS s i).x) lo hi=true then .ok (sg * digV (tokS s i).x) (tokS s i).t else .err (tokS s i0).a 4
def pNum(s:List UInt8)(lo hi:Int)(i:Nat):Pr Int:=if isT s i [45]=true then pDig s (-1) lo hi i (tokS s i).t else pDig s 1 lo hi i i
def cmpI(s:List UInt8)(i:Nat):Nat→List (List UInt8)→Option Nat
 | _,[]=>none
 | c,x::l=>if isT s i x=true then some c else cmpI s i (c + 1) l
def pCmp(s:List UInt8)(ask:Int)(nm:List UInt8)(wi:Int)(i:Nat):Pr Rl :=
 match cmpI s i 0 cmpsB with
 | some c=>(pNum s (-1073741824) 1073741824 (tokS s i).t).bind fun n k=>.ok (.mk 1 ask nm wi (c:Nat) n nilV []) k
 | none=>if ask=0 then .ok (.mk 1 0 nm wi 5 0 nilV []) i else .err (tokS s i).a 5
def pAsk(s:List UInt8)(ask:Int)(i:Nat):Pr Rl :=
 (pWant s [40] i).bind fun _ i=>(pName s i).bind fun nm i=>(pWant s [44] i).bind fun _ i=>(pNum s 0 1000 i).bind fun wi i=>(pWant s [41] i).bind fun _ i=>pCmp s ask nm wi i
def pAtom(s:List UInt8)(i:Nat):Pr Rl :=
 if isT s i wMost=true then pAsk s 1 (tokS s i).t
 else if isT s i wLeast=true then pAsk s 2 (tokS s i).t
 else (pName s i).bind fun nm i=>pCmp s 0 nm 0 i
mutual
def pNot(s:List UInt8):Nat→Nat→Pr Rl
  | 0,_=>.out
  | n + 1,i =>
    if isT s i [33]=true then (pNot s n (tokS s i).t).bind fun r k=>.ok (nR r) k
    else if isT s i [40]=true then (pOr s n (tokS s i).t).bind fun r k=>(pWant s [41] k).bind fun _ k=>.ok r k
    else pAtom s i
def pAnd(s:List UInt8):Nat→Nat→Pr Rl
 | 0,_=>.out
 | n + 1,i=>(pNot s n i).bind fun r k=>andL s n r k
def andL(s:List UInt8):Nat→Rl→Nat→Pr Rl
 | 0,_,_=>.out
 | n + 1,r,i=>if isT s i [38]=true then (pNot s n (tokS s i).t).bind fun q k=>andL s n (aR r q) k else .ok r i
def pOr(s:List UInt8):Nat→Nat→Pr Rl
 | 0,_=>.out
 | n + 1,i=>(pAnd s n i).bind fun r k=>orL s n r k
def orL(s:List UInt8):Nat→Rl→Nat→Pr Rl
 | 0,_,_=>.out
 | n + 1,r,i=>if isT s i [124]=true then (pAnd s n (tokS s i).t).bind fun q k=>orL s n (.mk 4 0 [] 0 0 0 nilV [r,q]) k else .ok r i
end
theorem zyw(a:Nat):tokAt a []=⟨a,a,[],false,false⟩:=rfl
theorem zu(a:Nat)(c:UInt8)(l:List UInt8):tokAt a (c::l) =
  if letB c=true then ⟨a,a + runB markB (c::l),(c::l).take (runB markB (c::l)),false,decide (32 < runB markB (c::l))⟩
  else if digB c=true then ⟨a,a + runB digB (c::l),(c::l).take (runB digB (c::l)),true,decide (10 < runB digB (c::l))⟩
  else match signsB.find? (fun x=>x.isPrefixOf (c::l))with
   | some x=>⟨a,a + x.length,x,false,false⟩
   | none=>⟨a,a,[],false,true⟩:=rfl
theorem zzw(a:Nat)(l:List UInt8):(tokAt a l).a=a:=by
  cases l with
  | nil=>rfl
  | cons c l =>
    rw [zu];split
    · rfl
    split
    · rfl
    cases signsB.find? (fun x=>x.isPrefixOf (c::l)) <;> rfl
theorem zgz{x:List UInt8}(h:x∈signsB):1≤x.length:=by
 simp only [signsB,List.mem_cons,List.not_mem_nil,or_false]at h;rcases h with rfl | rfl | rfl | rfl | rfl | rfl | rfl | rfl | rfl | rfl | rfl | rfl | rfl <;> simp
theorem zwt(a:Nat)(l:List UInt8):a≤(tokAt a l).t∧(tokAt a l).t≤a + l.length∧((tokAt a l).x ≠ []→a < (tokAt a l).t):=by
  cases l with
  | nil=>exact⟨Nat.le_refl _,Nat.le_refl _,fun h=>absurd rfl h⟩
  | cons c l =>
    have hm:=zzj markB (c::l);have hd:=zzj digB (c::l)
    have run:∀ n,(c::l).take n ≠ []→0 < n:=fun n h=>by
      rcases Nat.eq_zero_or_pos n with e | e
      · rw [e]at h;exact absurd rfl h
      · exact e
    rw [zu];split
    · exact⟨Nat.le_add_right _ _,Nat.add_le_add_left hm _,fun h=>Nat.lt_add_of_pos_right (run _ h)⟩
    split
    · exact⟨Nat.le_add_right _ _,Nat.add_le_add_left hd _,fun h=>Nat.lt_add_of_pos_right (run _ h)⟩
    cases hx:signsB.find? (fun x=>x.isPrefixOf (c::l))with
    | some x =>
      have h1:=zgz (List.mem_of_find?_eq_some hx);have h2:=List.find?_some hx;have h3:=(List.isPrefixOf_iff_prefix.1 h2).length_le;exact⟨Nat.le_add_right _ _,Nat.add_le_add_left h3 _,fun _=>Nat.lt_add_of_pos_right h1⟩
    | none=>exact⟨Nat.le_refl _,Nat.le_add_right _ _,fun h=>absurd rfl h⟩
theorem zh(s:List UInt8){i:Nat}(hi:i≤s.length):i≤(tokS s i).a∧(tokS s i).a≤(tokS s i).t∧(tokS s i).t≤s.length∧((tokS s i).x ≠ []→i < (tokS s i).t):=by
 have h0:=zzj spB (s.drop i);rw [List.length_drop]at h0;obtain⟨h1,h2,h3⟩:=zwt (i + runB spB (s.drop i)) (s.drop (i + runB spB (s.drop i)));have ha:=zzw (i + runB spB (s.drop i)) (s.drop (i + runB spB (s.drop i)));rw [List.length_drop]at h2;unfold tokS;rw [ha];refine⟨Nat.le_add_right _ _,h1,by omega,fun h => ?_⟩
 have:=h3 h
 omega
theorem zxc{s:List UInt8}{i:Nat}(hi:i≤s.length){x:List UInt8}(hx:x ≠ [])(h:isT s i x=true):i < (tokS s i).t∧(tokS s i).t≤s.length:=by
 unfold isT at h;rw [Bool.and_eq_true,decide_eq_true_eq]at h;obtain⟨_,_,h3,h4⟩:=zh s hi;exact⟨h4 (by rw [h.2];exact hx),h3⟩
def Pr.In{α:Type}(P:α→Prop)(s:List UInt8)(i:Nat):Pr α→Prop
 | .ok v j=>i≤j∧j≤s.length∧P v
 | .err a e=>a≤s.length∧e≠0
 | .out=>True
theorem Pr.In.bind{α β:Type}{P:α→Prop}{Q:β→Prop}{s:List UInt8}{i:Nat}{r:Pr α}{k:α→Nat→Pr β}(h:r.In P s i)(hk:∀ v j,i≤j→j≤s.length→P v→(k v j).In Q s j):(r.bind k).In Q s i:=by
  cases r with
  | ok v j =>
    have h1:=hk v j h.1 h.2.1 h.2.2;show (k v j).In Q s i
    revert h1
    cases k v j with
    | ok v' j'=>exact fun h1=>⟨Nat.le_trans h.1 h1.1,h1.2⟩
    | err a e=>exact id
    | out=>exact id
  | err a e=>exact h
  | out=>exact h
theorem Pr.In.lower{α:Type}{P:α→Prop}{s:List UInt8}{i j:Nat}{r:Pr α}(h:r.In P s j)(hij:i≤j):r.In P s i:=by
 cases r with
 | ok v k=>exact⟨Nat.le_trans hij h.1,h.2⟩
 | err a e=>exact h
 | out=>exact h
theorem zo{s:List UInt8}{i:Nat}(hi:i≤s.length)(x:List UInt8):(pWant s x i).In (fun _=>True) s i:=by
 obtain⟨h1,h2,h3,_⟩:=zh s hi;unfold pWant;split
 ·exact⟨Nat.le_trans h1 h2,h3,trivial⟩
 ·exact⟨Nat.le_trans h2 h3,by decide⟩
theorem zub{s:List UInt8}{i:Nat}(hi:i≤s.length):(pName s i).In (fun nm=>nameB nm=true) s i:=by
 obtain⟨h1,h2,h3,_⟩:=zh s hi;unfold pName;split
 ·exact⟨Nat.le_trans h2 h3,by decide⟩
 ·rename_i h;refine⟨Nat.le_trans h1 h2,h3, ?_⟩;exact (Bool.not_eq_false _).mp fun hn=>h (.inr hn)
theorem zax{s:List UInt8}{i0 i:Nat}(h0:i0≤s.length)(hi:i≤s.length)(sg lo hi':Int):(pDig s sg lo hi' i0 i).In (fun n=>inB n lo hi'=true) s i:=by
 obtain⟨h1,h2,h3,_⟩:=zh s hi;obtain⟨g1,g2,g3,_⟩:=zh s h0;unfold pDig;split
 ·exact⟨Nat.le_trans h2 h3,by decide⟩
 split
 ·rename_i h;exact⟨Nat.le_trans h1 h2,h3,h⟩
 ·exact⟨Nat.le_trans g2 g3,by decide⟩
theorem zfe{s:List UInt8}{i:Nat}(hi:i≤s.length)(lo hi':Int):(pNum s lo hi' i).In (fun n=>inB n lo hi'=true) s i:=by
 unfold pNum;split
 ·rename_i h;obtain⟨h1,h2⟩:=zxc hi (by decide) h;exact (zax hi h2 _ _ _).lower (Nat.le_of_lt h1)
 ·exact zax hi hi _ _ _
theorem zbx{s:List UInt8}{i:Nat}:∀ (l:List (List UInt8)) {c m:Nat},cmpI s i c l=some m→c≤m∧m < c + l.length
  | [],_,_,h=>by cases h
  | x::l,c,m,h=>by
    unfold cmpI at h;split at h
    · cases h;simp only [List.length_cons];omega
    · have:=zbx l h;simp only [List.length_cons];omega
theorem zcx{s:List UInt8}{i:Nat}(hi:i≤s.length){ask wi:Int}{nm:List UInt8}(ha:inB ask 0 2=true)(hn:nameB nm=true)(hw:inB wi 0 1000=true)(haw:ask=0→wi=0):(pCmp s ask nm wi i).In (fun r=>rightR r=true) s i:=by
 obtain⟨h1,h2,h3,_⟩:=zh s hi;unfold pCmp
 have haw':(!decide (ask=0) || decide (wi=0))=true:=by
  by_cases h:ask=0
  ·simp [haw h]
  ·simp [h]
 split
 ·rename_i c hc;have hcl:=(zbx _ hc).2;have hcl':c≤5:=by simpa [cmpsB]using Nat.le_of_lt_succ hcl
  refine ((zfe h3 _ _).lower (Nat.le_trans h1 h2)).bind (Q:=fun r=>rightR r=true) fun n k hk hk' hn'=>⟨Nat.le_refl _,hk', ?_⟩;have hcc:inB (c:Nat) 0 5=true:=by simp only [inB,Bool.and_eq_true,decide_eq_true_eq];omega
  show rightR _=true;unfold rightR;rw [if_pos rfl];simp only [atomB,Rl.ask,Rl.nm,Rl.wi,Rl.cm,Rl.n,Rl.ks,ha,hn,hw,hcc,hn',List.length_nil,Bool.and_self,decide_true];by_cases h:ask=0
  ·simp [h,haw h]
  ·simp [h]
 ·split
  ·rename_i h0;refine⟨Nat.le_refl _,hi, ?_⟩;have hw0:=haw h0;subst hw0;show rightR _=true;unfold rightR;rw [if_pos rfl];simp only [atomB,Rl.ask,Rl.nm,Rl.wi,Rl.cm,Rl.n,Rl.ks,hn,List.length_nil];rfl
  ·exact⟨Nat.le_trans h2 h3,by decide⟩
theorem zdx{s:List UInt8}{i:Nat}(hi:i≤s.length){ask:Int}(ha:inB ask 0 2=true)(h0:ask≠0):(pAsk s ask i).In (fun r=>rightR r=true) s i:=by
 unfold pAsk;exact (zo hi _).bind fun _ j _ hj _=>(zub hj).bind fun nm j _ hj hn=>(zo hj _).bind fun _ j _ hj _=>(zfe hj _ _).bind fun wi j _ hj hw=>(zo hj _).bind fun _ j _ hj _=>zcx hj ha hn hw (fun h=>absurd h h0)
theorem zhz{s:List UInt8}{i:Nat}(hi:i≤s.length):(pAtom s i).In (fun r=>rightR r=true) s i:=by
 unfold pAtom;split
 ·rename_i h;obtain⟨h1,h2⟩:=zxc hi (by decide) h;exact (zdx h2 (by decide) (by decide)).lower (Nat.le_of_lt h1)
 split
 ·rename_i h;obtain⟨h1,h2⟩:=zxc hi (by decide) h;exact (zdx h2 (by decide) (by decide)).lower (Nat.le_of_lt h1)
 ·exact (zub hi).bind fun nm j _ hj hn=>zcx hj (by decide) hn (by decide) (fun _=>rfl)
theorem ziz{r:Rl}(h:rightR r=true):rightR (nR r)=true:=by
 unfold nR rightR;simp [rightL,h,bareB,kidsB,Rl.ask,Rl.nm,Rl.wi,Rl.cm,Rl.n]
theorem zej{op:Int}(ho:op=3∨op=4){r q:Rl}(h:rightR r=true)(h':rightR q=true):rightR (.mk op 0 [] 0 0 0 nilV [r,q])=true:=by
 unfold rightR;rcases ho with rfl | rfl <;> simp [rightL,h,h',bareB,kidsB,Rl.ask,Rl.nm,Rl.wi,Rl.cm,Rl.n]
theorem p_in(s:List UInt8):∀ n,(∀ i,i≤s.length→(pNot s n i).In (fun r=>rightR r=true) s i)∧(∀ i,i≤s.length→(pAnd s n i).In (fun r=>rightR r=true) s i)∧(∀ i r,i≤s.length→rightR r=true→(andL s n r i).In (fun r=>rightR r=true) s i)∧(∀ i,i≤s.length→(pOr s n i).In (fun r=>rightR r=true) s i)∧(∀ i r,i≤s.length→rightR r=true→(orL s n r i).In (fun r=>rightR r=true) s i)
  | 0=>⟨fun _ _=>by simp only [pNot];trivial,fun _ _=>by simp only [pAnd];trivial,fun _ _ _ _=>by simp only [andL];trivial,fun _ _=>by simp only [pOr];trivial,fun _ _ _ _=>by simp only [orL];trivial⟩
  | n + 1=>by
    obtain⟨h1,h2,h3,h4,h5⟩:=p_in s n;refine⟨fun i hi => ?_,fun i hi => ?_,fun i r hi hr => ?_,fun i hi => ?_,fun i r hi hr => ?_⟩
    · rw [pNot];split
      · rename_i h;obtain⟨g1,g2⟩:=zxc hi (by decide) h;exact ((h1 _ g2).bind (Q:=fun r=>rightR r=true) (k:=fun r k=>Pr.ok (nR r) k) fun r k _ hk hr=>⟨Nat.le_refl _,hk,ziz hr⟩).lower (Nat.le_of_lt g1)
      split
      · rename_i h;obtain⟨g1,g2⟩:=zxc hi (by decide) h;exact ((h4 _ g2).bind (Q:=fun r=>rightR r=true) fun r k _ hk hr=>(zo hk _).bind (k:=fun _ k=>Pr.ok r k) fun _ k _ hk _=>⟨Nat.le_refl _,hk,hr⟩).lower (Nat.le_of_lt g1)
      · exact zhz hi
    · rw [pAnd];exact (h1 _ hi).bind fun r k _ hk hr=>h3 _ _ hk hr
    · rw [andL];split
      · rename_i h;obtain⟨g1,g2⟩:=zxc hi (by decide) h;exact ((h1 _ g2).bind fun q k _ hk hq=>h3 _ _ hk (zej (.inl rfl) hr hq)).lower (Nat.le_of_lt g1)
      · exact⟨Nat.le_refl _,hi,hr⟩
    · rw [pOr];exact (h2 _ hi).bind fun r k _ hk hr=>h5 _ _ hk hr
    · rw [orL];split
      · rename_i h;obtain⟨g1,g2⟩:=zxc hi (by decide) h;exact ((h2 _ g2).bind fun q k _ hk hq=>h5 _ _ hk (zej (.inr rfl) hr hq)).lower (Nat.le_of_lt g1)
      · exact⟨Nat.le_refl _,hi,hr⟩
def Pr.fed{α:Type}:Pr α→Prop
 | .out=>False
 | _=>True
theorem zae{α β:Type}{P:α→Prop}{s:List UInt8}{i:Nat}{r:Pr α}{k:α→Nat→Pr β}(hr:r.fed)(hin:r.In P s i)(hk:∀ v j,i≤j→j≤s.length→(k v j).fed):(r.bind k).fed:=by
 cases r with
 | ok v j=>exact hk v j hin.1 hin.2.1
 | err a e=>trivial
 | out=>exact hr
theorem zfj(s:List UInt8)(x:List UInt8)(i:Nat):(pWant s x i).fed:=by unfold pWant;split <;> trivial
theorem zar(s:List UInt8)(i:Nat):(pName s i).fed:=by unfold pName;split <;> trivial
theorem zjz(s:List UInt8)(sg lo hi:Int)(i0 i:Nat):(pDig s sg lo hi i0 i).fed:=by unfold pDig;split;trivial;split <;> trivial
theorem zxt(s:List UInt8)(lo hi:Int)(i:Nat):(pNum s lo hi i).fed:=by unfold pNum;split <;> exact zjz ..
theorem zyt{s:List UInt8}{i:Nat}(hi:i≤s.length)(ask wi:Int)(nm:List UInt8):(pCmp s ask nm wi i).fed:=by
 unfold pCmp;split
 ·exact zae (zxt ..) (zfe (zh s hi).2.2.1 _ _) (fun _ _ _ _=>trivial)
 ·split <;> trivial
theorem zzt{s:List UInt8}{i:Nat}(hi:i≤s.length)(ask:Int):(pAsk s ask i).fed:=by
 unfold pAsk;exact zae (zfj ..) (zo hi _) fun _ j _ hj=>zae (zar ..) (zub hj) fun nm j _ hj=>zae (zfj ..) (zo hj _) fun _ j _ hj=>zae (zxt ..) (zfe hj _ _) fun wi j _ hj=>zae (zfj ..) (zo hj _) fun _ j _ hj=>zyt hj ..
theorem zex{s:List UInt8}{i:Nat}(hi:i≤s.length):(pAtom s i).fed:=by
 unfold pAtom;split
 ·exact zzt (zh s hi).2.2.1 _
 split
 ·exact zzt (zh s hi).2.2.1 _
 ·exact zae (zar ..) (zub hi) fun nm j _ hj=>zyt hj ..
theorem zeda(s:List UInt8):∀ n,(∀ i,i≤s.length→4 * (s.length - i) + 1≤n→(pNot s n i).fed)∧(∀ i,i≤s.length→4 * (s.length - i) + 2≤n→(pAnd s n i).fed)∧(∀ i r,i≤s.length→4 * (s.length - i) + 1≤n→rightR r=true→(andL s n r i).fed)∧(∀ i,i≤s.length→4 * (s.length - i) + 3≤n→(pOr s n i).fed)∧(∀ i r,i≤s.length→4 * (s.length - i) + 1≤n→rightR r=true→(orL s n r i).fed)
  | 0=>⟨fun _ _ h=>by omega,fun _ _ h=>by omega,fun _ _ _ h=>by omega,fun _ _ h=>by omega,fun _ _ _ h=>by omega⟩
  | n + 1=>by
    obtain⟨h1,h2,h3,h4,h5⟩:=zeda s n;obtain⟨i1,i2,i3,i4,i5⟩:=p_in s n
    have fb {α:Type} {s:List UInt8} {i:Nat} {r:Pr Rl} {k:Rl→Nat→Pr α} (hr:r.fed) (hin:r.In (fun r=>rightR r=true) s i) (hk:∀ v j,i≤j→j≤s.length→rightR v=true→(k v j).fed):(r.bind k).fed:=by
      cases r with
      | ok v j=>exact hk v j hin.1 hin.2.1 hin.2.2
      | err a e=>trivial
      | out=>exact hr
    refine⟨fun i hi hf => ?_,fun i hi hf => ?_,fun i r hi hf hr => ?_,fun i hi hf => ?_,fun i r hi hf hr => ?_⟩
    · rw [pNot];split
      · rename_i h;obtain⟨g1,g2⟩:=zxc hi (by decide) h;exact fb (h1 _ g2 (by omega)) (i1 _ g2) fun _ _ _ _ _=>trivial
      split
      · rename_i h;obtain⟨g1,g2⟩:=zxc hi (by decide) h;exact fb (h4 _ g2 (by omega)) (i4 _ g2) fun _ _ _ hj _=>zae (zfj ..) (zo hj _) fun _ _ _ _=>trivial
      · exact zex hi
    · rw [pAnd];exact fb (h1 _ hi (by omega)) (i1 _ hi) fun v j g1 hj hv=>h3 _ _ hj (by omega) hv
    · rw [andL];split
      · rename_i h;obtain⟨g1,g2⟩:=zxc hi (by decide) h;exact fb (h1 _ g2 (by omega)) (i1 _ g2) fun v j g1 hj hv=>h3 _ _ hj (by omega) (zej (.inl rfl) hr hv)
      · trivial
    · rw [pOr];exact fb (h2 _ hi (by omega)) (i2 _ hi) fun v j g1 hj hv=>h5 _ _ hj (by omega) hv
    · rw [orL];split
      · rename_i h;obtain⟨g1,g2⟩:=zxc hi (by decide) h;exact fb (h2 _ g2 (by omega)) (i2 _ g2) fun v j g1 hj hv=>h5 _ _ hj (by omega) (zej (.inr rfl) hr hv)
      · trivial
def zR:Rl := .mk 0 0 [] 0 0 0 nilV []
def parseS(s:List UInt8):Rl × Nat × Int :=
 if 2000 < s.length then (zR,0,3)else
 match pOr s (4 * s.length + 3) 0 with
 | .ok r i=>if (tokS s i).bad=true∨(tokS s i).x ≠ []then (zR,(tokS s i).a,5)else if validR r=true then (r,0,0)else (zR,s.length,3)
 | .err a e=>(zR,a,e)
 | .out=>(zR,0,0)
end Go.Proofs.YtdjgnbkclcjiiaaGreatDoor
end
section
set_option linter.unusedVariables false
set_option linter.unusedSimpArgs false
namespace Go.Proofs.YtdjgnbkclcjiiaaGreatDoor
open Go Go.RowKit Vc
def natD(n:Nat):List UInt8:=if n < 10 then [UInt8.ofNat (48 + n)]else natD (n / 10) ++ [UInt8.ofNat (48 + n % 10)]
def intD(n:Int):List UInt8:=if n < 0 then 45::natD (-n).toNat else natD n.toNat
theorem zqm{k:Nat}(h:k < 10):digB (UInt8.ofNat (48 + k))=true∧((UInt8.ofNat (48 + k)).toNat:Int) - 48=k:=by
 have:(UInt8.ofNat (48 + k)).toNat=48 + k:=by
  rw [UInt8.toNat_ofNat'];omega
 simp only [digB,this,Bool.and_eq_true,decide_eq_true_eq];omega
theorem zuh:∀ (m n:Nat),n < 10 ^ (m + 1)→1≤(natD n).length∧(natD n).length≤m + 1∧(∀ c∈natD n,digB c=true)∧digV (natD n)=n
  | 0,n,h=>by
    have h10:n < 10:=by simpa using h
    rw [natD,if_pos h10];obtain⟨h1,h2⟩:=zqm h10;refine⟨by simp,by simp,fun c hc=>by rw [List.mem_singleton.1 hc];exact h1, ?_⟩;simp only [digV,List.foldl_cons,List.foldl_nil];omega
  | m + 1,n,h=>by
    by_cases h10:n < 10
    · rw [natD,if_pos h10];obtain⟨h1,h2⟩:=zqm h10;refine⟨by simp,by simp,fun c hc=>by rw [List.mem_singleton.1 hc];exact h1, ?_⟩;simp only [digV,List.foldl_cons,List.foldl_nil];omega
    · rw [natD,if_neg h10]
      have hd:n / 10 < 10 ^ (m + 1):=by
        rw [Nat.pow_succ]at h;omega
      obtain⟨g1,g2,g3,g4⟩:=zuh m (n / 10) hd;obtain⟨h1,h2⟩:=zqm (k:=n % 10) (by omega);refine⟨by rw [List.length_append];simp,by rw [List.length_append];simp;exact g2,fun c hc => ?_, ?_⟩
      · rcases List.mem_append.1 hc with hc | hc
        · exact g3 c hc
        · rw [List.mem_singleton.1 hc];exact h1
      · have:digV (natD (n / 10) ++ [UInt8.ofNat (48 + n % 10)])=10 * digV (natD (n / 10)) + (((UInt8.ofNat (48 + n % 10)).toNat:Int) - 48):=by simp [digV]
        rw [this,g4,h2];omega
def parT(c:Bool)(t:List UInt8):List UInt8:=if c=true then 40::(t ++ [41])else t
def txA(ask:Int)(nm:List UInt8)(wi cm n:Int):List UInt8 :=
 if ask=0∧cm=5∧n=0 then nm
 else (if ask=0 then nm else (if ask=1 then wMost else wLeast)++40::(nm++44::32::(intD wi ++ [41])))++32::(cmpsB.getD cm.toNat []++32::intD n)
def txK(op:Int):List (Int × List UInt8)→List UInt8
 | [a]=>33::parT (decide (2 < a.1)) a.2
 | [a,b]=>if op=3 then parT (decide (3 < a.1)) a.2++32::38::32::parT (decide (2 < b.1)) b.2 else parT (decide (4 < a.1)) a.2++32::124::32::parT (decide (3 < b.1)) b.2
 | _=>[]
mutual
def txR:Rl→List UInt8
 | .mk op ask nm wi cm n v ks=>if op=1 then txA ask nm wi cm n else txK op (txL ks)
def txL:List Rl→List (Int × List UInt8)
 | []=>[]
 | r::l=>(r.op,txR r)::txL l
end
theorem zwo{p:UInt8→Bool}{t:List UInt8}(h:∀ c∈t.head?,p c=false):runB p t=0:=by
 cases t with
 | nil=>rfl
 | cons c l=>unfold runB;rw [if_neg (by rw [h c (by simp)];decide)]
theorem zos{p:UInt8→Bool}:∀ {x t:List UInt8},(∀ c∈x,p c=true)→(∀ c∈t.head?,p c=false)→runB p (x++t)=x.length
  | [],t,_,ht=>zwo ht
  | c::x,t,hx,ht=>by
    rw [List.cons_append];unfold runB;rw [if_pos (hx c (by simp)),zos (fun d hd=>hx d (by simp [hd])) ht];rfl
theorem zvg{s t:List UInt8}{i:Nat}(h:s.drop i=t)(ht:∀ c∈t.head?,spB c=false):tokS s i=tokAt i t:=by
 unfold tokS;rw [h,zwo ht,Nat.add_zero,h]
theorem zrm{s t:List UInt8}{i:Nat}(h:s.drop i=32::t)(ht:∀ c∈t.head?,spB c=false):tokS s i=tokAt (i + 1) t:=by
 have h1:runB spB (32::t)=1:=by
  unfold runB;rw [if_pos (by decide),zwo ht]
 unfold tokS;rw [h,h1]
 have:s.drop (i + 1)=t:=by rw [← List.drop_drop,h];rfl
 rw [this]
theorem zmv{a:Nat}{nm t:List UInt8}(hc:∀ c∈nm.head?,letB c=true)(h0:nm ≠ [])(hm:∀ c∈nm,markB c=true)(hl:nm.length≤32)(ht:∀ c∈t.head?,markB c=false):tokAt a (nm++t)=⟨a,a + nm.length,nm,false,false⟩:=by
  have hr:=zos hm ht;cases nm with
  | nil=>exact absurd rfl h0
  | cons c l =>
    rw [List.cons_append]at hr ⊢;rw [zu,if_pos (hc c (by simp)),hr,← List.cons_append,List.take_left',decide_eq_false (by omega)];rfl
theorem zbr{a:Nat}{ds t:List UInt8}(h0:ds ≠ [])(hm:∀ c∈ds,digB c=true)(hl:ds.length≤10)(ht:∀ c∈t.head?,digB c=false):tokAt a (ds++t)=⟨a,a + ds.length,ds,true,false⟩:=by
  have hr:=zos hm ht;cases ds with
  | nil=>exact absurd rfl h0
  | cons c l =>
    have hd:=hm c (by simp)
    have hnl:¬ letB c=true:=by
      simp only [digB,Bool.and_eq_true,decide_eq_true_eq]at hd;simp only [letB,Bool.and_eq_true,decide_eq_true_eq];omega
    rw [List.cons_append]at hr ⊢;rw [zu,if_neg hnl,if_pos hd,hr,← List.cons_append,List.take_left',decide_eq_false (by omega)];rfl
theorem zbc{a:Nat}{x t:List UInt8}(hx:x∈signsB)(ht:∀ c∈t.head?,c≠61):tokAt a (x++t)=⟨a,a + x.length,x,false,false⟩:=by
  have hf:signsB.find? (fun y=>y.isPrefixOf (x++t))=some x:=by
    cases t with
    | nil =>
      simp only [signsB,List.mem_cons,List.not_mem_nil,or_false]at hx;rcases hx with rfl | rfl | rfl | rfl | rfl | rfl | rfl | rfl | rfl | rfl | rfl | rfl | rfl <;> decide
    | cons c l =>
      have hc:¬ c=61:=ht c (by simp);have hc':¬ 61=c:=fun e=>hc e.symm;simp only [signsB,List.mem_cons,List.not_mem_nil,or_false]at hx;rcases hx with rfl | rfl | rfl | rfl | rfl | rfl | rfl | rfl | rfl | rfl | rfl | rfl | rfl <;> simp [signsB,List.find?_cons,List.isPrefixOf,hc,hc']
  simp only [signsB,List.mem_cons,List.not_mem_nil,or_false]at hx
  have hcons:∃ c l,x++t=c::l∧letB c=false∧digB c=false:=by
    rcases hx with rfl | rfl | rfl | rfl | rfl | rfl | rfl | rfl | rfl | rfl | rfl | rfl | rfl <;> exact⟨_,_,rfl,by decide,by decide⟩
  obtain⟨c,l,e,h1,h2⟩:=hcons;rw [e]at hf ⊢;rw [zu,if_neg (by rw [h1];decide),if_neg (by rw [h2];decide),hf]
end Go.Proofs.YtdjgnbkclcjiiaaGreatDoor
end
section
set_option linter.unusedVariables false
set_option maxRecDepth 100000
namespace Go.Proofs.YtdjgnbkclcjiiaaGreatDoor
open Go Go.RowKit
def fcalls:List Nat := [2,3,4,5,6,7,8,9,10,11,12,13,14,15,16,17,18,19,20,21,22,23,24,25,26,27,28,29,30,31,32,33,34,35,36,37,38,39,40,41,42,43,44,45,46,47,48,49,50,51,52,53,54,55,56,57,58,59,60,61,62,63,64,65,66,67,68,69,70,71,72,73,74,75,76,77,78,79,80,81,82,83,84,85,86,87,88,89,90,91,92,93,94,95,96,97,98,99,100,101,102,103,104,105,106,107,108,109,110,111,112,113,114,115,116,117,118,119,120,121,122,123,124,125,126,127,128,129,130,131,132,133,134,135,136,137,138,139,140,141,142,143,144,145,146,147,148,149,150,151,152,153,154,155,156,157,158,159,160,161,162,163,164,165,166,167,169,170,171,172,173,174,175,176,177,178,179,180,181,182,183,184,185,186,187,188,189,190,191,192,193,194,195,211,212,213,214,219,220,221,222,223,224,238]
def fext:List Nat := [0,1,168,196,197,198,199,200,201,202,203,204,205,206,207,208,209,210,215,216,217,218,225,226,227,228,229,230,231,232,233,234,235,236,237]
theorem base:Vc.Base Tryz.prog fcalls fext []:=⟨by kernel_rfl,by kernel_rfl,by kernel_rfl⟩
theorem zz(l:List Nat)(h:Vc.okCalls Tryz.prog l=true):Vc.Base Tryz.prog fcalls fext l:=⟨by kernel_rfl,h,by kernel_rfl⟩
def gl0:List Vc.At := [.str [],.str [109,111,115,116],.str [108,101,97,115,116]]
def gl1:List Vc.At := [.str [60],.fn 219 [],.str [60,61],.fn 220 [],.str [62],.fn 221 [],.str [62,61],.fn 222 [],.str [61,61],.fn 223 [],.str [33,61],.fn 224 []]
def gl2:List Vc.At := [.str [60,61],.str [62,61],.str [61,61],.str [33,61],.str [60],.str [62],.str [124],.str [38],.str [33],.str [40],.str [41],.str [44],.str [45]]
def gl3:List Vc.At := [.int .i64 (.lit (-1099511627776)),.int .i64 (.lit (1099511627776))]
def globs:List (Nat × List Vc.At × TypeId) := [(0,gl0,184),(1,gl1,189),(2,gl2,194),(3,gl3,201)]
def Vg_0(w:World):Prop:=∃ ty mk,w.heap[0]? = some (.cells #[.string ⟨(([]:List UInt8)).toArray⟩,.string ⟨(([109,111,115,116]:List UInt8)).toArray⟩,.string ⟨(([108,101,97,115,116]:List UInt8)).toArray⟩] ty mk)
def Vg_1(w:World):Prop:=∃ ty mk,w.heap[1]? = some (.cells #[.string ⟨(([60]:List UInt8)).toArray⟩,.func (.func 219) #[] #[],.string ⟨(([60,61]:List UInt8)).toArray⟩,.func (.func 220) #[] #[],.string ⟨(([62]:List UInt8)).toArray⟩,.func (.func 221) #[] #[],.string ⟨(([62,61]:List UInt8)).toArray⟩,.func (.func 222) #[] #[],.string ⟨(([61,61]:List UInt8)).toArray⟩,.func (.func 223) #[] #[],.string ⟨(([33,61]:List UInt8)).toArray⟩,.func (.func 224) #[] #[]] ty mk)
def Vg_2(w:World):Prop:=∃ ty mk,w.heap[2]? = some (.cells #[.string ⟨(([60,61]:List UInt8)).toArray⟩,.string ⟨(([62,61]:List UInt8)).toArray⟩,.string ⟨(([61,61]:List UInt8)).toArray⟩,.string ⟨(([33,61]:List UInt8)).toArray⟩,.string ⟨(([60]:List UInt8)).toArray⟩,.string ⟨(([62]:List UInt8)).toArray⟩,.string ⟨(([124]:List UInt8)).toArray⟩,.string ⟨(([38]:List UInt8)).toArray⟩,.string ⟨(([33]:List UInt8)).toArray⟩,.string ⟨(([40]:List UInt8)).toArray⟩,.string ⟨(([41]:List UInt8)).toArray⟩,.string ⟨(([44]:List UInt8)).toArray⟩,.string ⟨(([45]:List UInt8)).toArray⟩] ty mk)
def Vg_3(w:World):Prop:=∃ ty mk,w.heap[3]? = some (.cells #[.int .i64 (-1099511627776),.int .i64 1099511627776] ty mk)
abbrev Vq (w:World)(f:FuncId)(a:Array Value)(r:Value):Prop:=∀ w':World,Below w.heap.size w w' → Calls Tryz.prog f a w' (Vc.Ret r w')
end Go.Proofs.YtdjgnbkclcjiiaaGreatDoor
end
