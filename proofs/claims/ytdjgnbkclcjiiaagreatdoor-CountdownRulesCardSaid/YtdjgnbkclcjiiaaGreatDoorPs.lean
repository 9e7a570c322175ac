import Derived.Test.YtdjgnbkclcjiiaaGreatDoorPm
import Derived.Test.YtdjgnbkclcjiiaaGreatDoorG0
section
set_option linter.unusedVariables false
set_option linter.unusedSimpArgs false
set_option maxRecDepth 100000
namespace Go.Proofs.YtdjgnbkclcjiiaaGreatDoor
open Go Go.RowKit Go.Proofs Wk
open Vc (SlAt OV iteI Vl zwa ze)
attribute [local irreducible] Go.Calls
def ErB(r:Rl):Prop:=erR r=r
theorem zlx{s:List UInt8}{i:Nat}(hi:i≤s.length)(ask wi:Int)(nm:List UInt8):(pCmp s ask nm wi i).In ErB s i:=by
 obtain⟨h1,h2,h3,_⟩:=zh s hi;unfold pCmp;split
 ·exact ((zfe h3 _ _).lower (Nat.le_trans h1 h2)).bind (Q:=ErB) fun n k hk hk' hn'=>⟨Nat.le_refl _,hk',rfl⟩
 ·split
  ·exact⟨Nat.le_refl _,hi,rfl⟩
  ·exact⟨Nat.le_trans h2 h3,by decide⟩
theorem zmx{s:List UInt8}{i:Nat}(hi:i≤s.length)(ask:Int):(pAsk s ask i).In ErB s i:=by
 unfold pAsk;exact (zo hi _).bind fun _ j _ hj _=>(zub hj).bind fun nm j _ hj hn=>(zo hj _).bind fun _ j _ hj _=>(zfe hj _ _).bind fun wi j _ hj hw=>(zo hj _).bind fun _ j _ hj _=>zlx hj ..
theorem zrz{s:List UInt8}{i:Nat}(hi:i≤s.length):(pAtom s i).In ErB s i:=by
 unfold pAtom;split
 ·rename_i h;obtain⟨h1,h2⟩:=zxc hi (by decide) h;exact (zmx h2 _).lower (Nat.le_of_lt h1)
 split
 ·rename_i h;obtain⟨h1,h2⟩:=zxc hi (by decide) h;exact (zmx h2 _).lower (Nat.le_of_lt h1)
 ·exact (zub hi).bind fun nm j _ hj hn=>zlx hj ..
theorem ztda{r:Rl}(h:ErB r):ErB (nR r):=by unfold ErB at *;simp only [nR,erR,erL,h]
theorem zzaa{op:Int}{r q:Rl}(h:ErB r)(h':ErB q):ErB (.mk op 0 [] 0 0 0 nilV [r,q]):=by unfold ErB at *;simp only [erR,erL,h,h']
theorem p_er(s:List UInt8):∀ n,(∀ i,i≤s.length→(pNot s n i).In ErB s i)∧(∀ i,i≤s.length→(pAnd s n i).In ErB s i)∧(∀ i r,i≤s.length→ErB r→(andL s n r i).In ErB s i)∧(∀ i,i≤s.length→(pOr s n i).In ErB s i)∧(∀ i r,i≤s.length→ErB r→(orL s n r i).In ErB s i)
  | 0=>⟨fun _ _=>by simp only [pNot];trivial,fun _ _=>by simp only [pAnd];trivial,fun _ _ _ _=>by simp only [andL];trivial,fun _ _=>by simp only [pOr];trivial,fun _ _ _ _=>by simp only [orL];trivial⟩
  | n + 1=>by
    obtain⟨h1,h2,h3,h4,h5⟩:=p_er s n;refine⟨fun i hi => ?_,fun i hi => ?_,fun i r hi hr => ?_,fun i hi => ?_,fun i r hi hr => ?_⟩
    · rw [pNot];split
      · rename_i h;obtain⟨g1,g2⟩:=zxc hi (by decide) h;exact ((h1 _ g2).bind (Q:=ErB) (k:=fun r k=>Pr.ok (nR r) k) fun r k _ hk hr=>⟨Nat.le_refl _,hk,ztda hr⟩).lower (Nat.le_of_lt g1)
      split
      · rename_i h;obtain⟨g1,g2⟩:=zxc hi (by decide) h;exact ((h4 _ g2).bind (Q:=ErB) fun r k _ hk hr=>(zo hk _).bind (k:=fun _ k=>Pr.ok r k) fun _ k _ hk _=>⟨Nat.le_refl _,hk,hr⟩).lower (Nat.le_of_lt g1)
      · exact zrz hi
    · rw [pAnd];exact (h1 _ hi).bind fun r k _ hk hr=>h3 _ _ hk hr
    · rw [andL];split
      · rename_i h;obtain⟨g1,g2⟩:=zxc hi (by decide) h;exact ((h1 _ g2).bind fun q k _ hk hq=>h3 _ _ hk (zzaa hr hq)).lower (Nat.le_of_lt g1)
      · exact⟨Nat.le_refl _,hi,hr⟩
    · rw [pOr];exact (h2 _ hi).bind fun r k _ hk hr=>h5 _ _ hk hr
    · rw [orL];split
      · rename_i h;obtain⟨g1,g2⟩:=zxc hi (by decide) h;exact ((h2 _ g2).bind fun q k _ hk hq=>h5 _ _ hk (zzaa hr hq)).lower (Nat.le_of_lt g1)
      · exact⟨Nat.le_refl _,hi,hr⟩
theorem znx(s:List UInt8):(pOr s (4 * s.length + 3) 0).fed:=(zeda s _).2.2.2.1 0 (Nat.zero_le _) (by omega)
theorem zuda{w:World}{s:List UInt8}(hl:s.length < 4611686018427387904)(v0:Vg_0 w)(v1:Vg_1 w)(v2:Vg_2 w) :
    Calls Tryz.prog 26 #[.string ⟨s.toArray⟩] w (PrP (parseS s) w):=by
  have hszs:3≤w.heap.size:=by
    obtain⟨_,_,h2⟩:=v2;exact (Array.getElem?_eq_some_iff.1 h2).1
  have out:∀ (a:Nat) (e:Int),parseS s=(zR,a,e)→Calls Tryz.prog 26 #[.string ⟨s.toArray⟩] w (fun e' w'=>∃ v,e'=.returned v∧Below w.heap.size w w'∧(v=.tuple #[.agg #[.int .i64 0,.int .i64 0,.string ⟨(([]:List UInt8)).toArray⟩,.int .i64 0,.int .i64 0,.int .i64 0,.slice none 0 0],.int .i64 (a:Nat),.int .i64 e]∨False))→Calls Tryz.prog 26 #[.string ⟨s.toArray⟩] w (PrP (parseS s) w):=fun a e hp h=>h.mono fun e' w' hh=>by
    obtain⟨v,h1,h2,h3 | h3⟩:=hh
    · subst h3;rw [hp];exact⟨⟨zR,none,0,0,h1,rfl,fun w'' _=>⟨.inl ⟨rfl,rfl⟩,trivial⟩,rfl⟩,h2⟩
    · exact h3.elim
  have S0:∀ w',Below w.heap.size w w'→Calls Tryz.prog 60 #[.string ⟨s.toArray⟩,.int .i64 0] w' (Vc.Ret (.agg #[.int .i64 ((tokS s 0).a:Nat),.int .i64 ((tokS s 0).t:Nat),.string ⟨(tokS s 0).x.toArray⟩,.bool (tokS s 0).num,.bool (tokS s 0).bad]) w'):=fun w' hb=>zaca (i:=0) (vgk2 hb v2) hl (Nat.zero_le _);by_cases hlen:2000 < s.length
  · have hp:parseS s=(zR,0,3):=by unfold parseS;rw [if_pos hlen]
    refine out 0 3 hp (zgb s w (fun v=>v=_) (fun _ _=>False) ?_);rintro x0 rfl;exact iteI (fun _=>rfl) (fun h=>absurd (show (2000:Int) < (s.length:Nat) by omega) h)
  have PCx:∀ (b:Nat) (w':World),Below w.heap.size w w'→w.heap.size≤b→w'.heap[b]? = some (.cells (pcC s 0) PT)→PC s 0 b w':=fun b w' hb hbb hc=>⟨⟨vgk2 hb v0,vgk2 hb v1,vgk2 hb v2,by omega,by omega,by omega⟩,hl,Nat.zero_le _,hc⟩;have any:∀ {w':World} {b:Nat},PC s 0 b w'→PcR 61 #[Vc.ptr b 0] FM s b w' (pOr s (4 * s.length + 3) 0):=fun h=>(zhr s _ _ (Nat.le_refl (4 * s.length + 3))).2.2 h;have hin:=(p_in s (4 * s.length + 3)).2.2.2.1 0 (Nat.zero_le _);have her:=(p_er s (4 * s.length + 3)).2.2.2.1 0 (Nat.zero_le _);have hfed:=znx s;cases hr:pOr s (4 * s.length + 3) 0 with
  | out=>rw [hr]at hfed;exact hfed.elim
  | err a e =>
    have hp:parseS s=(zR,a,e):=by unfold parseS;rw [if_neg hlen,hr]
    refine out a e hp (zgb s w (fun v=>v=_) (fun _ _=>False) ?_);rintro x0 rfl;exact iteI (fun h=>absurd h (by omega)) (fun _=>⟨_,_,_,_,_,S0,.inr ⟨(a:Nat),e,fun β w' hb hh=>(any (PCx _ w' hb hh.1.1 hh.1.2)).err hr,fun v0 _=>rfl⟩⟩)
  | ok r k =>
    have hk:k≤s.length:=by rw [hr]at hin;exact hin.2.1
    by_cases hj:(tokS s k).bad=true∨(tokS s k).x ≠ []
    · have hp:parseS s=(zR,(tokS s k).a,5):=by
        unfold parseS;rw [if_neg hlen,hr];dsimp only;rw [if_pos hj]
      refine out (tokS s k).a 5 hp (zgb s w (fun v=>v=_) (fun _ _=>False) ?_);rintro x0 rfl;refine iteI (fun h=>absurd h (by omega)) (fun _=>⟨_,_,_,_,_,S0,.inl ⟨FO r,_,_,(tokS s k).x,_,(tokS s k).bad,fun β w' hb hh=>(any (PCx _ w' hb hh.1.1 hh.1.2)).ok hr,iteI (fun _=>fun v1 _=>rfl) (fun hb=>iteI (fun hx => ?_) (fun _=>fun v1 _=>rfl))⟩⟩);exact (hj.elim hb (fun h=>h hx)).elim
    · have hb:(tokS s k).bad=false:=Bool.eq_false_iff.2 fun h=>hj (.inl h);have hx:(tokS s k).x=[]:=Classical.byContradiction fun h=>hj (.inr h)
      have hp:parseS s=if validR r=true then (r,0,0)else (zR,s.length,3):=by
        unfold parseS;rw [if_neg hlen,hr];dsimp only;rw [if_neg hj]
      rw [hp];rw [hr]at hin her;exact zkx (by omega) v0 v1 v2 hr hb hx (zsda _ r (Nat.le_refl _) hin.2.2 her.2.2) ⟨fun _ _ h=>h⟩
end Go.Proofs.YtdjgnbkclcjiiaaGreatDoor
end
section
set_option linter.unusedVariables false
set_option linter.unusedSimpArgs false
namespace Go.Proofs.YtdjgnbkclcjiiaaGreatDoor
open Go Go.RowKit Go.Proofs
def FwO(t:List UInt8):Prop:=t=[]∨(∃ u,t=41::u∧∀ c∈u.head?,c≠61)∨(∃ u,t=32::124::32::u)
def Fw(t:List UInt8):Prop:=FwO t∨(∃ u,t=32::38::32::u)
def fx:List UInt8→List UInt8
 | 41::_=>[41]
 | 32::c::_=>[c]
 | _=>[]
theorem zts{t:List UInt8}(h:Fw t):∀ c∈t.head?,c=32∨c=41:=by
 rcases h with (rfl | ⟨u,rfl,_⟩ | ⟨u,rfl⟩) | ⟨u,rfl⟩ <;> intro c hc <;> simp at hc <;> simp [hc]
theorem zaba{s t:List UInt8}{i:Nat}(h:Fw t)(hd:s.drop i=t):(tokS s i).bad=false∧(tokS s i).x=fx t∧(tokS s i).num=false:=by
 rcases h with (rfl | ⟨u,rfl,hu⟩ | ⟨u,rfl⟩) | ⟨u,rfl⟩
 ·rw [zvg hd (by simp),zyw];exact⟨rfl,rfl,rfl⟩
 ·rw [zvg hd (by simp [spB]),show (41::u)=[41]++u from rfl,zbc (by decide) hu];exact⟨rfl,rfl,rfl⟩
 ·rw [zrm hd (by simp [spB]),show (124::32::u)=[124]++32::u from rfl,zbc (by decide) (by simp)];exact⟨rfl,rfl,rfl⟩
 ·rw [zrm hd (by simp [spB]),show (38::32::u)=[38]++32::u from rfl,zbc (by decide) (by simp)];exact⟨rfl,rfl,rfl⟩
theorem zox{s t x:List UInt8}{i:Nat}(h:Fw t)(hd:s.drop i=t):isT s i x=decide (fx t=x):=by
 obtain⟨h1,h2,_⟩:=zaba h hd;unfold isT;rw [h1,h2];rfl
theorem ztz{t:List UInt8}(h:Fw t):fx t=[]∨fx t=[41]∨fx t=[124]∨fx t=[38]:=by
 rcases h with (rfl | ⟨u,rfl,_⟩ | ⟨u,rfl⟩) | ⟨u,rfl⟩ <;> simp [fx]
theorem zgc{s t x:List UInt8}{i:Nat}(h:s.drop i=x++t):s.drop (i + x.length)=t:=by
 rw [← List.drop_drop,h,List.drop_left'];rfl
theorem zw{s t:List UInt8}{c:UInt8}{i:Nat}(h:s.drop i=c::t):s.drop (i + 1)=t:=by
 rw [← List.drop_drop,h];rfl
theorem zwm{s t x:List UInt8}{i:Nat}(hx:x∈signsB)(hd:s.drop i=x++t)(ht:∀ c∈t.head?,c≠61):tokS s i=⟨i,i + x.length,x,false,false⟩:=by
 have hh:∀ c∈(x++t).head?,spB c=false:=by
  simp only [signsB,List.mem_cons,List.not_mem_nil,or_false]at hx;rcases hx with rfl | rfl | rfl | rfl | rfl | rfl | rfl | rfl | rfl | rfl | rfl | rfl | rfl <;> simp [spB]
 rw [zvg hd hh,zbc hx ht]
theorem zlj{s t x:List UInt8}{i:Nat}(hx:x∈signsB)(hd:s.drop i=x++t)(ht:∀ c∈t.head?,c≠61):pWant s x i=.ok () (i + x.length):=by
 unfold pWant isT;rw [zwm hx hd ht];simp
theorem zpx{c:UInt8}(h:digB c=true):spB c=false∧c≠61:=by
 simp only [digB,Bool.and_eq_true,decide_eq_true_eq]at h;refine⟨?_,fun e => ?_⟩
 ·simp only [spB,decide_eq_false_iff_not];omega
 ·subst e;revert h;decide
theorem zku{s t:List UInt8}{i:Nat}{n lo hi:Int}(hd:s.drop i=32::(intD n++t))(hn:-10000000000 < n∧n < 10000000000)(hin:inB n lo hi=true)(ht:∀ c∈t.head?,digB c=false):pNum s lo hi i=.ok n (i + 1 + (intD n).length):=by
 by_cases h0:n < 0
 ·have hi':intD n=45::natD (-n).toNat:=by unfold intD;rw [if_pos h0]
  obtain⟨g1,g2,g3,g4⟩:=zuh 9 (-n).toNat (by omega);rw [hi']at hd ⊢;have hne:natD (-n).toNat ≠ []:=by intro e;rw [e]at g1;simp at g1
  have hhd:∀ c∈(natD (-n).toNat++t).head?,digB c=true:=by
   cases hq:natD (-n).toNat with
   | nil=>exact absurd hq hne
   | cons c l=>intro d hd';simp at hd';subst hd';exact g3 _ (by rw [hq];simp)
  have hts:tokS s i=⟨i + 1,i + 1 + 1,[45],false,false⟩:=by
   rw [zrm hd (by simp [spB]),List.cons_append,show (45::(natD (-n).toNat++t))=[45]++(natD (-n).toNat++t) from rfl,zbc (by decide) (fun c hc=>(zpx (hhd c hc)).2)];rfl
  have hd2:s.drop (i + 1 + 1)=natD (-n).toNat++t:=zw (zw hd)
  have ht2:tokS s (i + 1 + 1)=⟨i + 1 + 1,i + 1 + 1 + (natD (-n).toNat).length,natD (-n).toNat,true,false⟩:=by
   rw [zvg hd2 (fun c hc=>(zpx (hhd c hc)).1),zbr hne g3 g2 ht]
  have hT:isT s i [45]=true:=by unfold isT;rw [hts];rfl
  have hv:-1 * digV (natD (-n).toNat)=n:=by rw [g4];omega
  unfold pNum;rw [if_pos hT,hts];unfold pDig;dsimp only;rw [ht2];dsimp only;rw [if_neg (by simp),hv,if_pos hin,List.length_cons];congr 1;omega
 ·have hi':intD n=natD n.toNat:=by unfold intD;rw [if_neg h0]
  obtain⟨g1,g2,g3,g4⟩:=zuh 9 n.toNat (by omega);rw [hi']at hd ⊢;have hne:natD n.toNat ≠ []:=by intro e;rw [e]at g1;simp at g1
  have hhd:∀ c∈(natD n.toNat++t).head?,digB c=true:=by
   cases hq:natD n.toNat with
   | nil=>exact absurd hq hne
   | cons c l=>intro d hd';simp at hd';subst hd';exact g3 _ (by rw [hq];simp)
  have hts:tokS s i=⟨i + 1,i + 1 + (natD n.toNat).length,natD n.toNat,true,false⟩:=by
   rw [zrm hd (fun c hc=>(zpx (hhd c hc)).1),zbr hne g3 g2 ht]
  have hT:¬ isT s i [45]=true:=by
   unfold isT;rw [hts];intro h;simp only [Bool.not_false,Bool.true_and,decide_eq_true_eq]at h
   have:=g3 45 (by rw [h];simp)
   revert this;decide
  have hv:1 * digV (natD n.toNat)=n:=by rw [g4];omega
  unfold pNum;rw [if_neg hT];unfold pDig;rw [hts];dsimp only;rw [if_neg (by simp),hv,if_pos hin]
theorem zmj{nm:List UInt8}(h:nameB nm=true):nm ≠ []∧(∀ c∈nm.head?,letB c=true)∧(∀ c∈nm,markB c=true)∧nm.length≤32∧nm≠wMost∧nm≠wLeast:=by
 have hl:=zkj h;simp only [nameB,Bool.and_eq_true,decide_eq_true_eq,Bool.not_eq_true',decide_eq_false_iff_not]at h;obtain⟨⟨⟨⟨⟨h1,h2⟩,h3⟩,h4⟩,h5⟩,h6⟩:=h;refine⟨fun e=>by rw [e]at h1;simp at h1,fun c hc => ?_,fun c hc=>List.all_eq_true.1 h6 c hc,hl,h4,h5⟩;cases nm with
 | nil=>simp at hc
 | cons d l=>simp at hc;subst hc;exact h3
theorem zlu{c:UInt8}(h:letB c=true):spB c=false∧c≠61:=by
 simp only [letB,Bool.and_eq_true,decide_eq_true_eq]at h;refine⟨?_,fun e => ?_⟩
 ·simp only [spB,decide_eq_false_iff_not];omega
 ·subst e;revert h;decide
theorem zxm{s t nm:List UInt8}{i:Nat}(h0:nm ≠ [])(hc:∀ c∈nm.head?,letB c=true)(hm:∀ c∈nm,markB c=true)(hl:nm.length≤32)(hd:s.drop i=nm++t)(ht:∀ c∈t.head?,markB c=false):tokS s i=⟨i,i + nm.length,nm,false,false⟩:=by
 have hh:∀ c∈(nm++t).head?,spB c=false:=by
  cases nm with
  | nil=>exact absurd rfl h0
  | cons d l=>intro c hc';simp at hc';subst hc';exact (zlu (hc _ (by simp))).1
 rw [zvg hd hh,zmv hc h0 hm hl ht]
theorem zfk{s t nm:List UInt8}{i:Nat}(hn:nameB nm=true)(hd:s.drop i=nm++t)(ht:∀ c∈t.head?,markB c=false):pName s i=.ok nm (i + nm.length):=by
 obtain⟨h1,h2,h3,h4,_⟩:=zmj hn;unfold pName;rw [zxm h1 h2 h3 h4 hd ht];dsimp only;rw [if_neg (by simp [hn])]
theorem zmu{s t:List UInt8}{i c:Nat}{ask wi n:Int}{nm:List UInt8}(hc:c < 6)(hd:s.drop i=32::(cmpsB.getD c []++32::(intD n++t)))(hn:inB n (-1073741824) 1073741824=true)(ht:∀ c∈t.head?,digB c=false) :
  pCmp s ask nm wi i=.ok (.mk 1 ask nm wi (c:Nat) n nilV []) (i + 1 + (cmpsB.getD c []).length + 1 + (intD n).length):=by
 have hmem:cmpsB.getD c []∈signsB:=by
  obtain rfl | rfl | rfl | rfl | rfl | rfl:c=0∨c=1∨c=2∨c=3∨c=4∨c=5:=by omega
  all_goals decide
 have hsp:∀ d∈(cmpsB.getD c []++32::(intD n++t)).head?,spB d=false:=by
  obtain rfl | rfl | rfl | rfl | rfl | rfl:c=0∨c=1∨c=2∨c=3∨c=4∨c=5:=by omega
  all_goals simp [cmpsB,spB]
 have hts:tokS s i=⟨i + 1,i + 1 + (cmpsB.getD c []).length,cmpsB.getD c [],false,false⟩:=by
  rw [zrm hd hsp,zbc hmem (by simp)]
 have hci:cmpI s i 0 cmpsB=some c:=by
  have hT:∀ y,isT s i y=decide (cmpsB.getD c []=y):=fun y=>by unfold isT;rw [hts];rfl
  obtain rfl | rfl | rfl | rfl | rfl | rfl:c=0∨c=1∨c=2∨c=3∨c=4∨c=5:=by omega
  all_goals simp [cmpI,cmpsB,hT]
 have hd2:s.drop (i + 1 + (cmpsB.getD c []).length)=32::(intD n++t):=zgc (zw hd)
 have hn2:-10000000000 < n∧n < 10000000000:=by
  simp only [inB,Bool.and_eq_true,decide_eq_true_eq]at hn;omega
 unfold pCmp;rw [hci];dsimp only;rw [hts];dsimp only;rw [zku hd2 hn2 hn ht];rfl
theorem zuz{s t:List UInt8}{i:Nat}{nm:List UInt8}{wi:Int}(h:Fw t)(hd:s.drop i=t):pCmp s 0 nm wi i=.ok (.mk 1 0 nm wi 5 0 nilV []) i:=by
 have hci:cmpI s i 0 cmpsB=none:=by
  rcases ztz h with e | e | e | e <;> simp [cmpI,cmpsB,zox h hd,e]
 unfold pCmp;rw [hci];rfl
end Go.Proofs.YtdjgnbkclcjiiaaGreatDoor
end
