import Derived.Test.YtdjgnbkclcjiiaaGreatDoorM14
import Derived.Test.YtdjgnbkclcjiiaaGreatDoorM13
set_option linter.unusedVariables false
set_option linter.unusedSimpArgs false
set_option maxRecDepth 100000
namespace Go.Proofs.YtdjgnbkclcjiiaaGreatDoor
open Go Go.RowKit Go.Proofs Wk
open Vc (SlAt OV iteI Vl zwa ze)
attribute [local irreducible] Go.Calls
theorem Pr.bind_ok{α β:Type}{r:Pr α}{k:α→Nat→Pr β}{v:β}{j:Nat}(h:r.bind k=.ok v j):∃ u i,r=.ok u i∧k u i=.ok v j:=by
 cases r with
 | ok u i=>exact⟨u,i,rfl,h⟩
 | err a e=>cases h
 | out=>cases h
theorem Pr.bind_err{α β:Type}{r:Pr α}{k:α→Nat→Pr β}{a:Nat}{e:Int}(h:r.bind k=.err a e):r=.err a e∨∃ u i,r=.ok u i∧k u i=.err a e:=by
 cases r with
 | ok u i=>exact .inr ⟨u,i,rfl,h⟩
 | err a e=>cases h;exact .inl rfl
 | out=>cases h
theorem PcR.ok{α:Type}{f:FuncId}{args:Array Value}{val:α→Value}{s:List UInt8}{xl:Nat}{w:World}{r:Pr α}{v:α}{j:Nat}(h:PcR f args val s xl w r)(hr:r=.ok v j):Calls Tryz.prog f args w (Vc.Eff (val v) xl (pcC s j) PT w):=by
 subst hr;exact h
theorem PcR.err{α:Type}{f:FuncId}{args:Array Value}{val:α→Value}{s:List UInt8}{xl:Nat}{w:World}{r:Pr α}{a:Nat}{e:Int}(h:PcR f args val s xl w r)(hr:r=.err a e):Calls Tryz.prog f args w (Vc.PanL (fv a e) [xl] w):=by
 subst hr;exact h
theorem zlda(r:Rl):(FM r).oneCell'=true:=by
 obtain⟨op,ask,nm,wi,cm,n,v,ks⟩:=r;unfold FM fmV;split
 ·rfl
 ·exact zps _ _ _ _ _
def FO(r:Rl):OV:=⟨FM r,zlda r⟩
theorem ztb{α:Type}{Q:α→Prop}{s:List UInt8}{i j:Nat}{r:Pr α}{v:α}(h:r.In Q s i)(hr:r=.ok v j):i≤j∧j≤s.length:=by
 subst hr;exact⟨h.1,h.2.1⟩
set_option maxHeartbeats 2000000 in
theorem zmda{w:World}{xl i n:Nat}{s:List UInt8}(h:PC s i xl w)
  (ihN:∀ {w':World} {b j:Nat},PC s j b w'→PcR 151 #[Vc.ptr b 0] FM s b w' (pNot s n j)) (ihO:∀ {w':World} {b j:Nat},PC s j b w'→PcR 61 #[Vc.ptr b 0] FM s b w' (pOr s n j))
  {R:Rl} {J:Nat} (H:pNot s (n + 1) i=.ok R J):Calls Tryz.prog 151 #[Vc.ptr xl 0] w (Vc.Eff (FM R) xl (pcC s J) PT w):=by
 have h0:=h.le;rw [pNot]at H;refine ztd _ _ _ _ s (tokS s i).x xl w _ _ h.hx ?_;by_cases g:isT s i [33]=true
 ·rw [if_pos g]at H;obtain⟨u,k,hq,H⟩:=Pr.bind_ok H;injection H with H1 H2;subst H1 H2;exact⟨true,_,_,_,_,_,fun β w' hb hh=>za (h.next hb h0 hh) g,iteI (fun _=>⟨FO u,_,_,_,_,_,fun β w' hb hh=>(ihN (h.next hb h.tok hh)).ok hq,fun v1 e1=>by rw [e1];rfl⟩) (fun e=>absurd rfl e)⟩
 rw [if_neg g]at H;have g33:=Bool.eq_false_iff.2 g;clear g;refine⟨false,_,_,_,_,_,fun β w' hb hh=>zc (h.next hb h0 hh) g33,iteI (fun e=>by cases e) (fun _ => ?_)⟩;by_cases g:isT s i [40]=true
 ·rw [if_pos g]at H;obtain⟨u,k,hq,H⟩:=Pr.bind_ok H;have hk:=(ztb ((p_in s n).2.2.2.1 _ h.tok) hq).2;obtain⟨u2,k2,hq2,H⟩:=Pr.bind_ok H;injection H with H1 H2;subst H1 H2;exact⟨true,_,_,_,_,_,fun β w' hb hh=>za (h.next hb h0 hh) g,iteI (fun _=>⟨FO u,_,_,_,_,_,fun β w' hb hh=>(ihO (h.next hb h.tok hh)).ok hq,_,_,_,_,_,fun β w' hb hh=>(zqe [41] (h.next hb hk hh)).ok hq2,rfl⟩) (fun e=>absurd rfl e)⟩
 rw [if_neg g]at H;have g40:=Bool.eq_false_iff.2 g;clear g;refine⟨false,_,_,_,_,_,fun β w' hb hh=>zc (h.next hb h0 hh) g40,iteI (fun e=>by cases e) (fun _ => ?_)⟩;refine⟨h.ps.hide.1, ?_⟩;unfold pAtom at H;by_cases g:isT s i wMost=true
 ·rw [if_pos g]at H;refine⟨true,_,_,_,_,_,fun β w' hb hh=>za (h.next hb h0 hh) g,iteI (fun _ => ?_) (fun e=>absurd rfl e)⟩;clear g g33 g40;have ht:=h.tok;unfold pAsk at H;obtain⟨uk1,k1,hqk1,H⟩:=Pr.bind_ok H;have hk1:=(ztb ((fun h=>zo h [40]) ht) hqk1).2;refine⟨_,_,_,_,_,fun β w' hb hh=>(zqe [40] (h.next hb ht hh)).ok hqk1, ?_⟩;obtain⟨uk2,k2,hqk2,H⟩:=Pr.bind_ok H;have hk2:=(ztb ((fun h=>zub h) hk1) hqk2).2;refine⟨uk2,_,_,_,_,_,fun β w' hb hh=>(zbp (h.next hb hk1 hh)).ok hqk2, ?_⟩;obtain⟨uk3,k3,hqk3,H⟩:=Pr.bind_ok H;have hk3:=(ztb ((fun h=>zo h [44]) hk2) hqk3).2;refine⟨_,_,_,_,_,fun β w' hb hh=>(zqe [44] (h.next hb hk2 hh)).ok hqk3, ?_⟩;obtain⟨uk4,k4,hqk4,H⟩:=Pr.bind_ok H;have hk4:=(ztb ((fun h=>zfe h 0 1000) hk3) hqk4).2;refine⟨uk4,_,_,_,_,_,fun β w' hb hh=>(zf 0 1000 (h.next hb hk3 hh)).ok hqk4, ?_⟩;obtain⟨uk5,k5,hqk5,H⟩:=Pr.bind_ok H;have hk5:=(ztb ((fun h=>zo h [41]) hk4) hqk5).2;refine⟨_,_,_,_,_,fun β w' hb hh=>(zqe [41] (h.next hb hk4 hh)).ok hqk5, ?_⟩;refine⟨h.ps.hide.2, ?_⟩;unfold pCmp at H;by_cases g:isT s k5 [60]=true
  ·have e:cmpI s k5 0 cmpsB=some 0:=by simp [cmpsB,cmpI,g]
   rw [e]at H;dsimp only at H;have ht:=(zh s hk5).2.2.1;obtain⟨n,m,hq,H⟩:=Pr.bind_ok H;cases H;exact⟨true,_,_,_,_,_,fun β w' hb hh=>za (h.next hb hk5 hh) g,iteI (fun _=>⟨n,_,_,_,_,_,fun β w' hb hh=>(zf _ _ (h.next hb ht hh)).ok hq,fun v0 e0=>by rw [e0];rfl⟩) (fun e=>absurd rfl e)⟩
  have g0:=Bool.eq_false_iff.2 g;clear g;refine⟨false,_,_,_,_,_,fun β w' hb hh=>zc (h.next hb hk5 hh) g0,iteI (fun e=>by cases e) (fun _ => ?_)⟩;by_cases g:isT s k5 [60,61]=true
  ·have e:cmpI s k5 0 cmpsB=some 1:=by simp [cmpsB,cmpI,g0,g]
   rw [e]at H;dsimp only at H;have ht:=(zh s hk5).2.2.1;obtain⟨n,m,hq,H⟩:=Pr.bind_ok H;cases H;exact⟨true,_,_,_,_,_,fun β w' hb hh=>za (h.next hb hk5 hh) g,iteI (fun _=>⟨n,_,_,_,_,_,fun β w' hb hh=>(zf _ _ (h.next hb ht hh)).ok hq,fun v0 e0=>by rw [e0];rfl⟩) (fun e=>absurd rfl e)⟩
  have g1:=Bool.eq_false_iff.2 g;clear g;refine⟨false,_,_,_,_,_,fun β w' hb hh=>zc (h.next hb hk5 hh) g1,iteI (fun e=>by cases e) (fun _ => ?_)⟩;by_cases g:isT s k5 [62]=true
  ·have e:cmpI s k5 0 cmpsB=some 2:=by simp [cmpsB,cmpI,g0,g1,g]
   rw [e]at H;dsimp only at H;have ht:=(zh s hk5).2.2.1;obtain⟨n,m,hq,H⟩:=Pr.bind_ok H;cases H;exact⟨true,_,_,_,_,_,fun β w' hb hh=>za (h.next hb hk5 hh) g,iteI (fun _=>⟨n,_,_,_,_,_,fun β w' hb hh=>(zf _ _ (h.next hb ht hh)).ok hq,fun v0 e0=>by rw [e0];rfl⟩) (fun e=>absurd rfl e)⟩
  have g2:=Bool.eq_false_iff.2 g;clear g;refine⟨false,_,_,_,_,_,fun β w' hb hh=>zc (h.next hb hk5 hh) g2,iteI (fun e=>by cases e) (fun _ => ?_)⟩;by_cases g:isT s k5 [62,61]=true
  ·have e:cmpI s k5 0 cmpsB=some 3:=by simp [cmpsB,cmpI,g0,g1,g2,g]
   rw [e]at H;dsimp only at H;have ht:=(zh s hk5).2.2.1;obtain⟨n,m,hq,H⟩:=Pr.bind_ok H;cases H;exact⟨true,_,_,_,_,_,fun β w' hb hh=>za (h.next hb hk5 hh) g,iteI (fun _=>⟨n,_,_,_,_,_,fun β w' hb hh=>(zf _ _ (h.next hb ht hh)).ok hq,fun v0 e0=>by rw [e0];rfl⟩) (fun e=>absurd rfl e)⟩
  have g3:=Bool.eq_false_iff.2 g;clear g;refine⟨false,_,_,_,_,_,fun β w' hb hh=>zc (h.next hb hk5 hh) g3,iteI (fun e=>by cases e) (fun _ => ?_)⟩;by_cases g:isT s k5 [61,61]=true
  ·have e:cmpI s k5 0 cmpsB=some 4:=by simp [cmpsB,cmpI,g0,g1,g2,g3,g]
   rw [e]at H;dsimp only at H;have ht:=(zh s hk5).2.2.1;obtain⟨n,m,hq,H⟩:=Pr.bind_ok H;cases H;exact⟨true,_,_,_,_,_,fun β w' hb hh=>za (h.next hb hk5 hh) g,iteI (fun _=>⟨n,_,_,_,_,_,fun β w' hb hh=>(zf _ _ (h.next hb ht hh)).ok hq,fun v0 e0=>by rw [e0];rfl⟩) (fun e=>absurd rfl e)⟩
  have g4:=Bool.eq_false_iff.2 g;clear g;refine⟨false,_,_,_,_,_,fun β w' hb hh=>zc (h.next hb hk5 hh) g4,iteI (fun e=>by cases e) (fun _ => ?_)⟩;by_cases g:isT s k5 [33,61]=true
  ·have e:cmpI s k5 0 cmpsB=some 5:=by simp [cmpsB,cmpI,g0,g1,g2,g3,g4,g]
   rw [e]at H;dsimp only at H;have ht:=(zh s hk5).2.2.1;obtain⟨n,m,hq,H⟩:=Pr.bind_ok H;cases H;exact⟨true,_,_,_,_,_,fun β w' hb hh=>za (h.next hb hk5 hh) g,iteI (fun _=>⟨n,_,_,_,_,_,fun β w' hb hh=>(zf _ _ (h.next hb ht hh)).ok hq,fun v0 e0=>by rw [e0];rfl⟩) (fun e=>absurd rfl e)⟩
  have g5:=Bool.eq_false_iff.2 g;clear g;refine⟨false,_,_,_,_,_,fun β w' hb hh=>zc (h.next hb hk5 hh) g5,iteI (fun e=>by cases e) (fun _ => ?_)⟩;have e:cmpI s k5 0 cmpsB=none:=by simp [cmpsB,cmpI,g0,g1,g2,g3,g4,g5]
  rw [e]at H;dsimp only at H;rw [if_neg (by decide)]at H;cases H
 rw [if_neg g]at H;have gM:=Bool.eq_false_iff.2 g;clear g;refine⟨false,_,_,_,_,_,fun β w' hb hh=>zc (h.next hb h0 hh) gM,iteI (fun e=>by cases e) (fun _ => ?_)⟩;by_cases g:isT s i wLeast=true
 ·rw [if_pos g]at H;refine⟨h.ps.hide.1,true,_,_,_,_,_,fun β w' hb hh=>za (h.next hb h0 hh) g,iteI (fun _ => ?_) (fun e=>absurd rfl e)⟩;clear g g33 g40 gM;have ht:=h.tok;unfold pAsk at H;obtain⟨uk1,k1,hqk1,H⟩:=Pr.bind_ok H;have hk1:=(ztb ((fun h=>zo h [40]) ht) hqk1).2;refine⟨_,_,_,_,_,fun β w' hb hh=>(zqe [40] (h.next hb ht hh)).ok hqk1, ?_⟩;obtain⟨uk2,k2,hqk2,H⟩:=Pr.bind_ok H;have hk2:=(ztb ((fun h=>zub h) hk1) hqk2).2;refine⟨uk2,_,_,_,_,_,fun β w' hb hh=>(zbp (h.next hb hk1 hh)).ok hqk2, ?_⟩;obtain⟨uk3,k3,hqk3,H⟩:=Pr.bind_ok H;have hk3:=(ztb ((fun h=>zo h [44]) hk2) hqk3).2;refine⟨_,_,_,_,_,fun β w' hb hh=>(zqe [44] (h.next hb hk2 hh)).ok hqk3, ?_⟩;obtain⟨uk4,k4,hqk4,H⟩:=Pr.bind_ok H;have hk4:=(ztb ((fun h=>zfe h 0 1000) hk3) hqk4).2;refine⟨uk4,_,_,_,_,_,fun β w' hb hh=>(zf 0 1000 (h.next hb hk3 hh)).ok hqk4, ?_⟩;obtain⟨uk5,k5,hqk5,H⟩:=Pr.bind_ok H;have hk5:=(ztb ((fun h=>zo h [41]) hk4) hqk5).2;refine⟨_,_,_,_,_,fun β w' hb hh=>(zqe [41] (h.next hb hk4 hh)).ok hqk5, ?_⟩;refine⟨h.ps.hide.2, ?_⟩;unfold pCmp at H;by_cases g:isT s k5 [60]=true
  ·have e:cmpI s k5 0 cmpsB=some 0:=by simp [cmpsB,cmpI,g]
   rw [e]at H;dsimp only at H;have ht:=(zh s hk5).2.2.1;obtain⟨n,m,hq,H⟩:=Pr.bind_ok H;cases H;exact⟨true,_,_,_,_,_,fun β w' hb hh=>za (h.next hb hk5 hh) g,iteI (fun _=>⟨n,_,_,_,_,_,fun β w' hb hh=>(zf _ _ (h.next hb ht hh)).ok hq,fun v0 e0=>by rw [e0];rfl⟩) (fun e=>absurd rfl e)⟩
  have g0:=Bool.eq_false_iff.2 g;clear g;refine⟨false,_,_,_,_,_,fun β w' hb hh=>zc (h.next hb hk5 hh) g0,iteI (fun e=>by cases e) (fun _ => ?_)⟩;by_cases g:isT s k5 [60,61]=true
  ·have e:cmpI s k5 0 cmpsB=some 1:=by simp [cmpsB,cmpI,g0,g]
   rw [e]at H;dsimp only at H;have ht:=(zh s hk5).2.2.1;obtain⟨n,m,hq,H⟩:=Pr.bind_ok H;cases H;exact⟨true,_,_,_,_,_,fun β w' hb hh=>za (h.next hb hk5 hh) g,iteI (fun _=>⟨n,_,_,_,_,_,fun β w' hb hh=>(zf _ _ (h.next hb ht hh)).ok hq,fun v0 e0=>by rw [e0];rfl⟩) (fun e=>absurd rfl e)⟩
  have g1:=Bool.eq_false_iff.2 g;clear g;refine⟨false,_,_,_,_,_,fun β w' hb hh=>zc (h.next hb hk5 hh) g1,iteI (fun e=>by cases e) (fun _ => ?_)⟩;by_cases g:isT s k5 [62]=true
  ·have e:cmpI s k5 0 cmpsB=some 2:=by simp [cmpsB,cmpI,g0,g1,g]
   rw [e]at H;dsimp only at H;have ht:=(zh s hk5).2.2.1;obtain⟨n,m,hq,H⟩:=Pr.bind_ok H;cases H;exact⟨true,_,_,_,_,_,fun β w' hb hh=>za (h.next hb hk5 hh) g,iteI (fun _=>⟨n,_,_,_,_,_,fun β w' hb hh=>(zf _ _ (h.next hb ht hh)).ok hq,fun v0 e0=>by rw [e0];rfl⟩) (fun e=>absurd rfl e)⟩
  have g2:=Bool.eq_false_iff.2 g;clear g;refine⟨false,_,_,_,_,_,fun β w' hb hh=>zc (h.next hb hk5 hh) g2,iteI (fun e=>by cases e) (fun _ => ?_)⟩;by_cases g:isT s k5 [62,61]=true
  ·have e:cmpI s k5 0 cmpsB=some 3:=by simp [cmpsB,cmpI,g0,g1,g2,g]
   rw [e]at H;dsimp only at H;have ht:=(zh s hk5).2.2.1;obtain⟨n,m,hq,H⟩:=Pr.bind_ok H;cases H;exact⟨true,_,_,_,_,_,fun β w' hb hh=>za (h.next hb hk5 hh) g,iteI (fun _=>⟨n,_,_,_,_,_,fun β w' hb hh=>(zf _ _ (h.next hb ht hh)).ok hq,fun v0 e0=>by rw [e0];rfl⟩) (fun e=>absurd rfl e)⟩
  have g3:=Bool.eq_false_iff.2 g;clear g;refine⟨false,_,_,_,_,_,fun β w' hb hh=>zc (h.next hb hk5 hh) g3,iteI (fun e=>by cases e) (fun _ => ?_)⟩;by_cases g:isT s k5 [61,61]=true
  ·have e:cmpI s k5 0 cmpsB=some 4:=by simp [cmpsB,cmpI,g0,g1,g2,g3,g]
   rw [e]at H;dsimp only at H;have ht:=(zh s hk5).2.2.1;obtain⟨n,m,hq,H⟩:=Pr.bind_ok H;cases H;exact⟨true,_,_,_,_,_,fun β w' hb hh=>za (h.next hb hk5 hh) g,iteI (fun _=>⟨n,_,_,_,_,_,fun β w' hb hh=>(zf _ _ (h.next hb ht hh)).ok hq,fun v0 e0=>by rw [e0];rfl⟩) (fun e=>absurd rfl e)⟩
  have g4:=Bool.eq_false_iff.2 g;clear g;refine⟨false,_,_,_,_,_,fun β w' hb hh=>zc (h.next hb hk5 hh) g4,iteI (fun e=>by cases e) (fun _ => ?_)⟩;by_cases g:isT s k5 [33,61]=true
  ·have e:cmpI s k5 0 cmpsB=some 5:=by simp [cmpsB,cmpI,g0,g1,g2,g3,g4,g]
   rw [e]at H;dsimp only at H;have ht:=(zh s hk5).2.2.1;obtain⟨n,m,hq,H⟩:=Pr.bind_ok H;cases H;exact⟨true,_,_,_,_,_,fun β w' hb hh=>za (h.next hb hk5 hh) g,iteI (fun _=>⟨n,_,_,_,_,_,fun β w' hb hh=>(zf _ _ (h.next hb ht hh)).ok hq,fun v0 e0=>by rw [e0];rfl⟩) (fun e=>absurd rfl e)⟩
  have g5:=Bool.eq_false_iff.2 g;clear g;refine⟨false,_,_,_,_,_,fun β w' hb hh=>zc (h.next hb hk5 hh) g5,iteI (fun e=>by cases e) (fun _ => ?_)⟩;have e:cmpI s k5 0 cmpsB=none:=by simp [cmpsB,cmpI,g0,g1,g2,g3,g4,g5]
  rw [e]at H;dsimp only at H;rw [if_neg (by decide)]at H;cases H
 rw [if_neg g]at H;have gL:=Bool.eq_false_iff.2 g;clear g;refine⟨h.ps.hide.1,false,_,_,_,_,_,fun β w' hb hh=>zc (h.next hb h0 hh) gL,iteI (fun e=>by cases e) (fun _ => ?_)⟩;obtain⟨uk2,k2,hqk2,H⟩:=Pr.bind_ok H;have hk2:=(ztb ((fun h=>zub h) h0) hqk2).2;refine⟨uk2,_,_,_,_,_,fun β w' hb hh=>(zbp (h.next hb h0 hh)).ok hqk2, ?_⟩;refine⟨h.ps.hide.2, ?_⟩;unfold pCmp at H;by_cases g:isT s k2 [60]=true
 ·have e:cmpI s k2 0 cmpsB=some 0:=by simp [cmpsB,cmpI,g]
  rw [e]at H;dsimp only at H;have ht:=(zh s hk2).2.2.1;obtain⟨n,m,hq,H⟩:=Pr.bind_ok H;cases H;exact⟨true,_,_,_,_,_,fun β w' hb hh=>za (h.next hb hk2 hh) g,iteI (fun _=>⟨n,_,_,_,_,_,fun β w' hb hh=>(zf _ _ (h.next hb ht hh)).ok hq,fun v0 e0=>by rw [e0];rfl⟩) (fun e=>absurd rfl e)⟩
 have g0:=Bool.eq_false_iff.2 g;clear g;refine⟨false,_,_,_,_,_,fun β w' hb hh=>zc (h.next hb hk2 hh) g0,iteI (fun e=>by cases e) (fun _ => ?_)⟩;by_cases g:isT s k2 [60,61]=true
 ·have e:cmpI s k2 0 cmpsB=some 1:=by simp [cmpsB,cmpI,g0,g]
  rw [e]at H;dsimp only at H;have ht:=(zh s hk2).2.2.1;obtain⟨n,m,hq,H⟩:=Pr.bind_ok H;cases H;exact⟨true,_,_,_,_,_,fun β w' hb hh=>za (h.next hb hk2 hh) g,iteI (fun _=>⟨n,_,_,_,_,_,fun β w' hb hh=>(zf _ _ (h.next hb ht hh)).ok hq,fun v0 e0=>by rw [e0];rfl⟩) (fun e=>absurd rfl e)⟩
 have g1:=Bool.eq_false_iff.2 g;clear g;refine⟨false,_,_,_,_,_,fun β w' hb hh=>zc (h.next hb hk2 hh) g1,iteI (fun e=>by cases e) (fun _ => ?_)⟩;by_cases g:isT s k2 [62]=true
 ·have e:cmpI s k2 0 cmpsB=some 2:=by simp [cmpsB,cmpI,g0,g1,g]
  rw [e]at H;dsimp only at H;have ht:=(zh s hk2).2.2.1;obtain⟨n,m,hq,H⟩:=Pr.bind_ok H;cases H;exact⟨true,_,_,_,_,_,fun β w' hb hh=>za (h.next hb hk2 hh) g,iteI (fun _=>⟨n,_,_,_,_,_,fun β w' hb hh=>(zf _ _ (h.next hb ht hh)).ok hq,fun v0 e0=>by rw [e0];rfl⟩) (fun e=>absurd rfl e)⟩
 have g2:=Bool.eq_false_iff.2 g;clear g;refine⟨false,_,_,_,_,_,fun β w' hb hh=>zc (h.next hb hk2 hh) g2,iteI (fun e=>by cases e) (fun _ => ?_)⟩;by_cases g:isT s k2 [62,61]=true
 ·have e:cmpI s k2 0 cmpsB=some 3:=by simp [cmpsB,cmpI,g0,g1,g2,g]
  rw [e]at H;dsimp only at H;have ht:=(zh s hk2).2.2.1;obtain⟨n,m,hq,H⟩:=Pr.bind_ok H;cases H;exact⟨true,_,_,_,_,_,fun β w' hb hh=>za (h.next hb hk2 hh) g,iteI (fun _=>⟨n,_,_,_,_,_,fun β w' hb hh=>(zf _ _ (h.next hb ht hh)).ok hq,fun v0 e0=>by rw [e0];rfl⟩) (fun e=>absurd rfl e)⟩
 have g3:=Bool.eq_false_iff.2 g;clear g;refine⟨false,_,_,_,_,_,fun β w' hb hh=>zc (h.next hb hk2 hh) g3,iteI (fun e=>by cases e) (fun _ => ?_)⟩;by_cases g:isT s k2 [61,61]=true
 ·have e:cmpI s k2 0 cmpsB=some 4:=by simp [cmpsB,cmpI,g0,g1,g2,g3,g]
  rw [e]at H;dsimp only at H;have ht:=(zh s hk2).2.2.1;obtain⟨n,m,hq,H⟩:=Pr.bind_ok H;cases H;exact⟨true,_,_,_,_,_,fun β w' hb hh=>za (h.next hb hk2 hh) g,iteI (fun _=>⟨n,_,_,_,_,_,fun β w' hb hh=>(zf _ _ (h.next hb ht hh)).ok hq,fun v0 e0=>by rw [e0];rfl⟩) (fun e=>absurd rfl e)⟩
 have g4:=Bool.eq_false_iff.2 g;clear g;refine⟨false,_,_,_,_,_,fun β w' hb hh=>zc (h.next hb hk2 hh) g4,iteI (fun e=>by cases e) (fun _ => ?_)⟩;by_cases g:isT s k2 [33,61]=true
 ·have e:cmpI s k2 0 cmpsB=some 5:=by simp [cmpsB,cmpI,g0,g1,g2,g3,g4,g]
  rw [e]at H;dsimp only at H;have ht:=(zh s hk2).2.2.1;obtain⟨n,m,hq,H⟩:=Pr.bind_ok H;cases H;exact⟨true,_,_,_,_,_,fun β w' hb hh=>za (h.next hb hk2 hh) g,iteI (fun _=>⟨n,_,_,_,_,_,fun β w' hb hh=>(zf _ _ (h.next hb ht hh)).ok hq,fun v0 e0=>by rw [e0];rfl⟩) (fun e=>absurd rfl e)⟩
 have g5:=Bool.eq_false_iff.2 g;clear g;refine⟨false,_,_,_,_,_,fun β w' hb hh=>zc (h.next hb hk2 hh) g5,iteI (fun e=>by cases e) (fun _ => ?_)⟩;have e:cmpI s k2 0 cmpsB=none:=by simp [cmpsB,cmpI,g0,g1,g2,g3,g4,g5]
 rw [e]at H;dsimp only at H;rw [if_pos rfl]at H;cases H;exact fun v0 e0=>by rw [e0];rfl
set_option maxHeartbeats 2000000 in
theorem znda{w:World}{xl i n:Nat}{s:List UInt8}(h:PC s i xl w)
  (ihN:∀ {w':World} {b j:Nat},PC s j b w'→PcR 151 #[Vc.ptr b 0] FM s b w' (pNot s n j)) (ihO:∀ {w':World} {b j:Nat},PC s j b w'→PcR 61 #[Vc.ptr b 0] FM s b w' (pOr s n j))
  {a:Nat} {e:Int} (H:pNot s (n + 1) i=.err a e):Calls Tryz.prog 151 #[Vc.ptr xl 0] w (Vc.PanL (fv a e) [xl] w):=by
 have h0:=h.le;rw [pNot]at H;refine zcd _ _ _ _ s (tokS s i).x xl w _ h.hx ?_;by_cases g:isT s i [33]=true
 ·rw [if_pos g]at H;rcases Pr.bind_err H with hq | ⟨u,k,hq,H⟩
  ·exact⟨true,_,_,_,_,_,fun β w' hb hh=>za (h.next hb h0 hh) g,iteI (fun _=>.inr ⟨_,_,fun β w' hb hh=>(ihN (h.next hb h.tok hh)).err hq,fun v0 e0 w' hb=>e0⟩) (fun e=>absurd rfl e)⟩
  ·cases H
 rw [if_neg g]at H;have g33:=Bool.eq_false_iff.2 g;clear g;refine⟨false,_,_,_,_,_,fun β w' hb hh=>zc (h.next hb h0 hh) g33,iteI (fun e=>by cases e) (fun _ => ?_)⟩;by_cases g:isT s i [40]=true
 ·rw [if_pos g]at H;rcases Pr.bind_err H with hq | ⟨u,k,hq,H⟩
  ·exact⟨true,_,_,_,_,_,fun β w' hb hh=>za (h.next hb h0 hh) g,iteI (fun _=>.inr ⟨_,_,fun β w' hb hh=>(ihO (h.next hb h.tok hh)).err hq,fun v0 e0 w' hb=>e0⟩) (fun e=>absurd rfl e)⟩
  have hk:=(ztb ((p_in s n).2.2.2.1 _ h.tok) hq).2;rcases Pr.bind_err H with hq2 | ⟨u2,k2,hq2,H⟩
  ·exact⟨true,_,_,_,_,_,fun β w' hb hh=>za (h.next hb h0 hh) g,iteI (fun _=>.inl ⟨FO u,_,_,_,_,_,fun β w' hb hh=>(ihO (h.next hb h.tok hh)).ok hq,.inr ⟨_,_,fun β w' hb hh=>(zqe [41] (h.next hb hk hh)).err hq2,fun v0 e0 w' hb=>e0⟩⟩) (fun e=>absurd rfl e)⟩
  ·cases H
 rw [if_neg g]at H;have g40:=Bool.eq_false_iff.2 g;clear g;refine⟨false,_,_,_,_,_,fun β w' hb hh=>zc (h.next hb h0 hh) g40,iteI (fun e=>by cases e) (fun _ => ?_)⟩;refine⟨h.ps.hide.1, ?_⟩;unfold pAtom at H;by_cases g:isT s i wMost=true
 ·rw [if_pos g]at H;refine⟨true,_,_,_,_,_,fun β w' hb hh=>za (h.next hb h0 hh) g,iteI (fun _ => ?_) (fun e=>absurd rfl e)⟩;clear g g33 g40;have ht:=h.tok;unfold pAsk at H;rcases Pr.bind_err H with hq | ⟨uk1,k1,hqk1,H⟩
  ·exact .inr ⟨_,_,fun β w' hb hh=>(zqe [40] (h.next hb ht hh)).err hq,fun v0 e0 w' hb=>e0⟩
  have hk1:=(ztb ((fun h=>zo h [40]) ht) hqk1).2;left;refine⟨_,_,_,_,_,fun β w' hb hh=>(zqe [40] (h.next hb ht hh)).ok hqk1, ?_⟩;rcases Pr.bind_err H with hq | ⟨uk2,k2,hqk2,H⟩
  ·exact .inr ⟨_,_,fun β w' hb hh=>(zbp (h.next hb hk1 hh)).err hq,fun v0 e0 w' hb=>e0⟩
  have hk2:=(ztb ((fun h=>zub h) hk1) hqk2).2;left;refine⟨uk2,_,_,_,_,_,fun β w' hb hh=>(zbp (h.next hb hk1 hh)).ok hqk2, ?_⟩;rcases Pr.bind_err H with hq | ⟨uk3,k3,hqk3,H⟩
  ·exact .inr ⟨_,_,fun β w' hb hh=>(zqe [44] (h.next hb hk2 hh)).err hq,fun v0 e0 w' hb=>e0⟩
  have hk3:=(ztb ((fun h=>zo h [44]) hk2) hqk3).2;left;refine⟨_,_,_,_,_,fun β w' hb hh=>(zqe [44] (h.next hb hk2 hh)).ok hqk3, ?_⟩;rcases Pr.bind_err H with hq | ⟨uk4,k4,hqk4,H⟩
  ·exact .inr ⟨_,_,fun β w' hb hh=>(zf 0 1000 (h.next hb hk3 hh)).err hq,fun v0 e0 w' hb=>e0⟩
  have hk4:=(ztb ((fun h=>zfe h 0 1000) hk3) hqk4).2;left;refine⟨uk4,_,_,_,_,_,fun β w' hb hh=>(zf 0 1000 (h.next hb hk3 hh)).ok hqk4, ?_⟩;rcases Pr.bind_err H with hq | ⟨uk5,k5,hqk5,H⟩
  ·exact .inr ⟨_,_,fun β w' hb hh=>(zqe [41] (h.next hb hk4 hh)).err hq,fun v0 e0 w' hb=>e0⟩
  have hk5:=(ztb ((fun h=>zo h [41]) hk4) hqk5).2;left;refine⟨_,_,_,_,_,fun β w' hb hh=>(zqe [41] (h.next hb hk4 hh)).ok hqk5, ?_⟩;refine⟨h.ps.hide.2, ?_⟩;unfold pCmp at H;by_cases g:isT s k5 [60]=true
  ·have e:cmpI s k5 0 cmpsB=some 0:=by simp [cmpsB,cmpI,g]
   rw [e]at H;dsimp only at H;have ht:=(zh s hk5).2.2.1;rcases Pr.bind_err H with hq | ⟨n,m,hq,H⟩
   ·exact⟨true,_,_,_,_,_,fun β w' hb hh=>za (h.next hb hk5 hh) g,iteI (fun _=>.inr ⟨_,_,fun β w' hb hh=>(zf _ _ (h.next hb ht hh)).err hq,fun v0 e0 w' hb=>e0⟩) (fun e=>absurd rfl e)⟩
   ·cases H
  have g0:=Bool.eq_false_iff.2 g;clear g;refine⟨false,_,_,_,_,_,fun β w' hb hh=>zc (h.next hb hk5 hh) g0,iteI (fun e=>by cases e) (fun _ => ?_)⟩;by_cases g:isT s k5 [60,61]=true
  ·have e:cmpI s k5 0 cmpsB=some 1:=by simp [cmpsB,cmpI,g0,g]
   rw [e]at H;dsimp only at H;have ht:=(zh s hk5).2.2.1;rcases Pr.bind_err H with hq | ⟨n,m,hq,H⟩
   ·exact⟨true,_,_,_,_,_,fun β w' hb hh=>za (h.next hb hk5 hh) g,iteI (fun _=>.inr ⟨_,_,fun β w' hb hh=>(zf _ _ (h.next hb ht hh)).err hq,fun v0 e0 w' hb=>e0⟩) (fun e=>absurd rfl e)⟩
   ·cases H
  have g1:=Bool.eq_false_iff.2 g;clear g;refine⟨false,_,_,_,_,_,fun β w' hb hh=>zc (h.next hb hk5 hh) g1,iteI (fun e=>by cases e) (fun _ => ?_)⟩;by_cases g:isT s k5 [62]=true
  ·have e:cmpI s k5 0 cmpsB=some 2:=by simp [cmpsB,cmpI,g0,g1,g]
   rw [e]at H;dsimp only at H;have ht:=(zh s hk5).2.2.1;rcases Pr.bind_err H with hq | ⟨n,m,hq,H⟩
   ·exact⟨true,_,_,_,_,_,fun β w' hb hh=>za (h.next hb hk5 hh) g,iteI (fun _=>.inr ⟨_,_,fun β w' hb hh=>(zf _ _ (h.next hb ht hh)).err hq,fun v0 e0 w' hb=>e0⟩) (fun e=>absurd rfl e)⟩
   ·cases H
  have g2:=Bool.eq_false_iff.2 g;clear g;refine⟨false,_,_,_,_,_,fun β w' hb hh=>zc (h.next hb hk5 hh) g2,iteI (fun e=>by cases e) (fun _ => ?_)⟩;by_cases g:isT s k5 [62,61]=true
  ·have e:cmpI s k5 0 cmpsB=some 3:=by simp [cmpsB,cmpI,g0,g1,g2,g]
   rw [e]at H;dsimp only at H;have ht:=(zh s hk5).2.2.1;rcases Pr.bind_err H with hq | ⟨n,m,hq,H⟩
   ·exact⟨true,_,_,_,_,_,fun β w' hb hh=>za (h.next hb hk5 hh) g,iteI (fun _=>.inr ⟨_,_,fun β w' hb hh=>(zf _ _ (h.next hb ht hh)).err hq,fun v0 e0 w' hb=>e0⟩) (fun e=>absurd rfl e)⟩
   ·cases H
  have g3:=Bool.eq_false_iff.2 g;clear g;refine⟨false,_,_,_,_,_,fun β w' hb hh=>zc (h.next hb hk5 hh) g3,iteI (fun e=>by cases e) (fun _ => ?_)⟩;by_cases g:isT s k5 [61,61]=true
  ·have e:cmpI s k5 0 cmpsB=some 4:=by simp [cmpsB,cmpI,g0,g1,g2,g3,g]
   rw [e]at H;dsimp only at H;have ht:=(zh s hk5).2.2.1;rcases Pr.bind_err H with hq | ⟨n,m,hq,H⟩
   ·exact⟨true,_,_,_,_,_,fun β w' hb hh=>za (h.next hb hk5 hh) g,iteI (fun _=>.inr ⟨_,_,fun β w' hb hh=>(zf _ _ (h.next hb ht hh)).err hq,fun v0 e0 w' hb=>e0⟩) (fun e=>absurd rfl e)⟩
   ·cases H
  have g4:=Bool.eq_false_iff.2 g;clear g;refine⟨false,_,_,_,_,_,fun β w' hb hh=>zc (h.next hb hk5 hh) g4,iteI (fun e=>by cases e) (fun _ => ?_)⟩;by_cases g:isT s k5 [33,61]=true
  ·have e:cmpI s k5 0 cmpsB=some 5:=by simp [cmpsB,cmpI,g0,g1,g2,g3,g4,g]
   rw [e]at H;dsimp only at H;have ht:=(zh s hk5).2.2.1;rcases Pr.bind_err H with hq | ⟨n,m,hq,H⟩
   ·exact⟨true,_,_,_,_,_,fun β w' hb hh=>za (h.next hb hk5 hh) g,iteI (fun _=>.inr ⟨_,_,fun β w' hb hh=>(zf _ _ (h.next hb ht hh)).err hq,fun v0 e0 w' hb=>e0⟩) (fun e=>absurd rfl e)⟩
   ·cases H
  have g5:=Bool.eq_false_iff.2 g;clear g;refine⟨false,_,_,_,_,_,fun β w' hb hh=>zc (h.next hb hk5 hh) g5,iteI (fun e=>by cases e) (fun _ => ?_)⟩;have e:cmpI s k5 0 cmpsB=none:=by simp [cmpsB,cmpI,g0,g1,g2,g3,g4,g5]
  rw [e]at H;dsimp only at H;rw [if_neg (by decide)]at H;cases H;exact fun v0 e0 w' hb=>e0
 rw [if_neg g]at H;have gM:=Bool.eq_false_iff.2 g;clear g;refine⟨false,_,_,_,_,_,fun β w' hb hh=>zc (h.next hb h0 hh) gM,iteI (fun e=>by cases e) (fun _ => ?_)⟩;by_cases g:isT s i wLeast=true
 ·rw [if_pos g]at H;refine⟨h.ps.hide.1,true,_,_,_,_,_,fun β w' hb hh=>za (h.next hb h0 hh) g,iteI (fun _ => ?_) (fun e=>absurd rfl e)⟩;clear g g33 g40 gM;have ht:=h.tok;unfold pAsk at H;rcases Pr.bind_err H with hq | ⟨uk1,k1,hqk1,H⟩
  ·exact .inr ⟨_,_,fun β w' hb hh=>(zqe [40] (h.next hb ht hh)).err hq,fun v0 e0 w' hb=>e0⟩
  have hk1:=(ztb ((fun h=>zo h [40]) ht) hqk1).2;left;refine⟨_,_,_,_,_,fun β w' hb hh=>(zqe [40] (h.next hb ht hh)).ok hqk1, ?_⟩;rcases Pr.bind_err H with hq | ⟨uk2,k2,hqk2,H⟩
  ·exact .inr ⟨_,_,fun β w' hb hh=>(zbp (h.next hb hk1 hh)).err hq,fun v0 e0 w' hb=>e0⟩
  have hk2:=(ztb ((fun h=>zub h) hk1) hqk2).2;left;refine⟨uk2,_,_,_,_,_,fun β w' hb hh=>(zbp (h.next hb hk1 hh)).ok hqk2, ?_⟩;rcases Pr.bind_err H with hq | ⟨uk3,k3,hqk3,H⟩
  ·exact .inr ⟨_,_,fun β w' hb hh=>(zqe [44] (h.next hb hk2 hh)).err hq,fun v0 e0 w' hb=>e0⟩
  have hk3:=(ztb ((fun h=>zo h [44]) hk2) hqk3).2;left;refine⟨_,_,_,_,_,fun β w' hb hh=>(zqe [44] (h.next hb hk2 hh)).ok hqk3, ?_⟩;rcases Pr.bind_err H with hq | ⟨uk4,k4,hqk4,H⟩
  ·exact .inr ⟨_,_,fun β w' hb hh=>(zf 0 1000 (h.next hb hk3 hh)).err hq,fun v0 e0 w' hb=>e0⟩
  have hk4:=(ztb ((fun h=>zfe h 0 1000) hk3) hqk4).2;left;refine⟨uk4,_,_,_,_,_,fun β w' hb hh=>(zf 0 1000 (h.next hb hk3 hh)).ok hqk4, ?_⟩;rcases Pr.bind_err H with hq | ⟨uk5,k5,hqk5,H⟩
  ·exact .inr ⟨_,_,fun β w' hb hh=>(zqe [41] (h.next hb hk4 hh)).err hq,fun v0 e0 w' hb=>e0⟩
  have hk5:=(ztb ((fun h=>zo h [41]) hk4) hqk5).2;left;refine⟨_,_,_,_,_,fun β w' hb hh=>(zqe [41] (h.next hb hk4 hh)).ok hqk5, ?_⟩;refine⟨h.ps.hide.2, ?_⟩;unfold pCmp at H;by_cases g:isT s k5 [60]=true
  ·have e:cmpI s k5 0 cmpsB=some 0:=by simp [cmpsB,cmpI,g]
   rw [e]at H;dsimp only at H;have ht:=(zh s hk5).2.2.1;rcases Pr.bind_err H with hq | ⟨n,m,hq,H⟩
   ·exact⟨true,_,_,_,_,_,fun β w' hb hh=>za (h.next hb hk5 hh) g,iteI (fun _=>.inr ⟨_,_,fun β w' hb hh=>(zf _ _ (h.next hb ht hh)).err hq,fun v0 e0 w' hb=>e0⟩) (fun e=>absurd rfl e)⟩
   ·cases H
  have g0:=Bool.eq_false_iff.2 g;clear g;refine⟨false,_,_,_,_,_,fun β w' hb hh=>zc (h.next hb hk5 hh) g0,iteI (fun e=>by cases e) (fun _ => ?_)⟩;by_cases g:isT s k5 [60,61]=true
  ·have e:cmpI s k5 0 cmpsB=some 1:=by simp [cmpsB,cmpI,g0,g]
   rw [e]at H;dsimp only at H;have ht:=(zh s hk5).2.2.1;rcases Pr.bind_err H with hq | ⟨n,m,hq,H⟩
   ·exact⟨true,_,_,_,_,_,fun β w' hb hh=>za (h.next hb hk5 hh) g,iteI (fun _=>.inr ⟨_,_,fun β w' hb hh=>(zf _ _ (h.next hb ht hh)).err hq,fun v0 e0 w' hb=>e0⟩) (fun e=>absurd rfl e)⟩
   ·cases H
  have g1:=Bool.eq_false_iff.2 g;clear g;refine⟨false,_,_,_,_,_,fun β w' hb hh=>zc (h.next hb hk5 hh) g1,iteI (fun e=>by cases e) (fun _ => ?_)⟩;by_cases g:isT s k5 [62]=true
  ·have e:cmpI s k5 0 cmpsB=some 2:=by simp [cmpsB,cmpI,g0,g1,g]
   rw [e]at H;dsimp only at H;have ht:=(zh s hk5).2.2.1;rcases Pr.bind_err H with hq | ⟨n,m,hq,H⟩
   ·exact⟨true,_,_,_,_,_,fun β w' hb hh=>za (h.next hb hk5 hh) g,iteI (fun _=>.inr ⟨_,_,fun β w' hb hh=>(zf _ _ (h.next hb ht hh)).err hq,fun v0 e0 w' hb=>e0⟩) (fun e=>absurd rfl e)⟩
   ·cases H
  have g2:=Bool.eq_false_iff.2 g;clear g;refine⟨false,_,_,_,_,_,fun β w' hb hh=>zc (h.next hb hk5 hh) g2,iteI (fun e=>by cases e) (fun _ => ?_)⟩;by_cases g:isT s k5 [62,61]=true
  ·have e:cmpI s k5 0 cmpsB=some 3:=by simp [cmpsB,cmpI,g0,g1,g2,g]
   rw [e]at H;dsimp only at H;have ht:=(zh s hk5).2.2.1;rcases Pr.bind_err H with hq | ⟨n,m,hq,H⟩
   ·exact⟨true,_,_,_,_,_,fun β w' hb hh=>za (h.next hb hk5 hh) g,iteI (fun _=>.inr ⟨_,_,fun β w' hb hh=>(zf _ _ (h.next hb ht hh)).err hq,fun v0 e0 w' hb=>e0⟩) (fun e=>absurd rfl e)⟩
   ·cases H
  have g3:=Bool.eq_false_iff.2 g;clear g;refine⟨false,_,_,_,_,_,fun β w' hb hh=>zc (h.next hb hk5 hh) g3,iteI (fun e=>by cases e) (fun _ => ?_)⟩;by_cases g:isT s k5 [61,61]=true
  ·have e:cmpI s k5 0 cmpsB=some 4:=by simp [cmpsB,cmpI,g0,g1,g2,g3,g]
   rw [e]at H;dsimp only at H;have ht:=(zh s hk5).2.2.1;rcases Pr.bind_err H with hq | ⟨n,m,hq,H⟩
   ·exact⟨true,_,_,_,_,_,fun β w' hb hh=>za (h.next hb hk5 hh) g,iteI (fun _=>.inr ⟨_,_,fun β w' hb hh=>(zf _ _ (h.next hb ht hh)).err hq,fun v0 e0 w' hb=>e0⟩) (fun e=>absurd rfl e)⟩
   ·cases H
  have g4:=Bool.eq_false_iff.2 g;clear g;refine⟨false,_,_,_,_,_,fun β w' hb hh=>zc (h.next hb hk5 hh) g4,iteI (fun e=>by cases e) (fun _ => ?_)⟩;by_cases g:isT s k5 [33,61]=true
  ·have e:cmpI s k5 0 cmpsB=some 5:=by simp [cmpsB,cmpI,g0,g1,g2,g3,g4,g]
   rw [e]at H;dsimp only at H;have ht:=(zh s hk5).2.2.1;rcases Pr.bind_err H with hq | ⟨n,m,hq,H⟩
   ·exact⟨true,_,_,_,_,_,fun β w' hb hh=>za (h.next hb hk5 hh) g,iteI (fun _=>.inr ⟨_,_,fun β w' hb hh=>(zf _ _ (h.next hb ht hh)).err hq,fun v0 e0 w' hb=>e0⟩) (fun e=>absurd rfl e)⟩
   ·cases H
  have g5:=Bool.eq_false_iff.2 g;clear g;refine⟨false,_,_,_,_,_,fun β w' hb hh=>zc (h.next hb hk5 hh) g5,iteI (fun e=>by cases e) (fun _ => ?_)⟩;have e:cmpI s k5 0 cmpsB=none:=by simp [cmpsB,cmpI,g0,g1,g2,g3,g4,g5]
  rw [e]at H;dsimp only at H;rw [if_neg (by decide)]at H;cases H;exact fun v0 e0 w' hb=>e0
 rw [if_neg g]at H;have gL:=Bool.eq_false_iff.2 g;clear g;refine⟨h.ps.hide.1,false,_,_,_,_,_,fun β w' hb hh=>zc (h.next hb h0 hh) gL,iteI (fun e=>by cases e) (fun _ => ?_)⟩;rcases Pr.bind_err H with hq | ⟨uk2,k2,hqk2,H⟩
 ·exact .inr ⟨_,_,fun β w' hb hh=>(zbp (h.next hb h0 hh)).err hq,fun v0 e0 w' hb=>e0⟩
 have hk2:=(ztb ((fun h=>zub h) h0) hqk2).2;left;refine⟨uk2,_,_,_,_,_,fun β w' hb hh=>(zbp (h.next hb h0 hh)).ok hqk2, ?_⟩;refine⟨h.ps.hide.2, ?_⟩;unfold pCmp at H;by_cases g:isT s k2 [60]=true
 ·have e:cmpI s k2 0 cmpsB=some 0:=by simp [cmpsB,cmpI,g]
  rw [e]at H;dsimp only at H;have ht:=(zh s hk2).2.2.1;rcases Pr.bind_err H with hq | ⟨n,m,hq,H⟩
  ·exact⟨true,_,_,_,_,_,fun β w' hb hh=>za (h.next hb hk2 hh) g,iteI (fun _=>.inr ⟨_,_,fun β w' hb hh=>(zf _ _ (h.next hb ht hh)).err hq,fun v0 e0 w' hb=>e0⟩) (fun e=>absurd rfl e)⟩
  ·cases H
 have g0:=Bool.eq_false_iff.2 g;clear g;refine⟨false,_,_,_,_,_,fun β w' hb hh=>zc (h.next hb hk2 hh) g0,iteI (fun e=>by cases e) (fun _ => ?_)⟩;by_cases g:isT s k2 [60,61]=true
 ·have e:cmpI s k2 0 cmpsB=some 1:=by simp [cmpsB,cmpI,g0,g]
  rw [e]at H;dsimp only at H;have ht:=(zh s hk2).2.2.1;rcases Pr.bind_err H with hq | ⟨n,m,hq,H⟩
  ·exact⟨true,_,_,_,_,_,fun β w' hb hh=>za (h.next hb hk2 hh) g,iteI (fun _=>.inr ⟨_,_,fun β w' hb hh=>(zf _ _ (h.next hb ht hh)).err hq,fun v0 e0 w' hb=>e0⟩) (fun e=>absurd rfl e)⟩
  ·cases H
 have g1:=Bool.eq_false_iff.2 g;clear g;refine⟨false,_,_,_,_,_,fun β w' hb hh=>zc (h.next hb hk2 hh) g1,iteI (fun e=>by cases e) (fun _ => ?_)⟩;by_cases g:isT s k2 [62]=true
 ·have e:cmpI s k2 0 cmpsB=some 2:=by simp [cmpsB,cmpI,g0,g1,g]
  rw [e]at H;dsimp only at H;have ht:=(zh s hk2).2.2.1;rcases Pr.bind_err H with hq | ⟨n,m,hq,H⟩
  ·exact⟨true,_,_,_,_,_,fun β w' hb hh=>za (h.next hb hk2 hh) g,iteI (fun _=>.inr ⟨_,_,fun β w' hb hh=>(zf _ _ (h.next hb ht hh)).err hq,fun v0 e0 w' hb=>e0⟩) (fun e=>absurd rfl e)⟩
  ·cases H
 have g2:=Bool.eq_false_iff.2 g;clear g;refine⟨false,_,_,_,_,_,fun β w' hb hh=>zc (h.next hb hk2 hh) g2,iteI (fun e=>by cases e) (fun _ => ?_)⟩;by_cases g:isT s k2 [62,61]=true
 ·have e:cmpI s k2 0 cmpsB=some 3:=by simp [cmpsB,cmpI,g0,g1,g2,g]
  rw [e]at H;dsimp only at H;have ht:=(zh s hk2).2.2.1;rcases Pr.bind_err H with hq | ⟨n,m,hq,H⟩
  ·exact⟨true,_,_,_,_,_,fun β w' hb hh=>za (h.next hb hk2 hh) g,iteI (fun _=>.inr ⟨_,_,fun β w' hb hh=>(zf _ _ (h.next hb ht hh)).err hq,fun v0 e0 w' hb=>e0⟩) (fun e=>absurd rfl e)⟩
  ·cases H
 have g3:=Bool.eq_false_iff.2 g;clear g;refine⟨false,_,_,_,_,_,fun β w' hb hh=>zc (h.next hb hk2 hh) g3,iteI (fun e=>by cases e) (fun _ => ?_)⟩;by_cases g:isT s k2 [61,61]=true
 ·have e:cmpI s k2 0 cmpsB=some 4:=by simp [cmpsB,cmpI,g0,g1,g2,g3,g]
  rw [e]at H;dsimp only at H;have ht:=(zh s hk2).2.2.1;rcases Pr.bind_err H with hq | ⟨n,m,hq,H⟩
  ·exact⟨true,_,_,_,_,_,fun β w' hb hh=>za (h.next hb hk2 hh) g,iteI (fun _=>.inr ⟨_,_,fun β w' hb hh=>(zf _ _ (h.next hb ht hh)).err hq,fun v0 e0 w' hb=>e0⟩) (fun e=>absurd rfl e)⟩
  ·cases H
 have g4:=Bool.eq_false_iff.2 g;clear g;refine⟨false,_,_,_,_,_,fun β w' hb hh=>zc (h.next hb hk2 hh) g4,iteI (fun e=>by cases e) (fun _ => ?_)⟩;by_cases g:isT s k2 [33,61]=true
 ·have e:cmpI s k2 0 cmpsB=some 5:=by simp [cmpsB,cmpI,g0,g1,g2,g3,g4,g]
  rw [e]at H;dsimp only at H;have ht:=(zh s hk2).2.2.1;rcases Pr.bind_err H with hq | ⟨n,m,hq,H⟩
  ·exact⟨true,_,_,_,_,_,fun β w' hb hh=>za (h.next hb hk2 hh) g,iteI (fun _=>.inr ⟨_,_,fun β w' hb hh=>(zf _ _ (h.next hb ht hh)).err hq,fun v0 e0 w' hb=>e0⟩) (fun e=>absurd rfl e)⟩
  ·cases H
 have g5:=Bool.eq_false_iff.2 g;clear g;refine⟨false,_,_,_,_,_,fun β w' hb hh=>zc (h.next hb hk2 hh) g5,iteI (fun e=>by cases e) (fun _ => ?_)⟩;have e:cmpI s k2 0 cmpsB=none:=by simp [cmpsB,cmpI,g0,g1,g2,g3,g4,g5]
 rw [e]at H;dsimp only at H;rw [if_pos rfl]at H;cases H
def msQ(n:Nat):List Vl→Nat
 | [_,.i a,_,_,_,_]=>n + 1 - a.toNat
 | _=>0
theorem zfu{s:List UInt8}{i:Nat}{x:List UInt8}(hx:x ≠ [])(h:isT s i x=true):(tokS s i).a < (tokS s i).t:=by
 unfold isT at h;rw [Bool.and_eq_true,decide_eq_true_eq]at h;unfold tokS at *;rw [zzw];exact (zwt _ _).2.2 (by rw [h.2];exact hx)
set_option maxHeartbeats 1000000 in
theorem zoda{w:World}{xl i n:Nat}{s:List UInt8}(h:PC s i xl w)
  (ih:∀ {w':World} {b j m:Nat},m≤n→PC s j b w'→PcR 151 #[Vc.ptr b 0] FM s b w' (pNot s m j))
  {R:Rl} {J:Nat} (H:pAnd s (n + 1) i=.ok R J):Calls Tryz.prog 119 #[Vc.ptr xl 0] w (Vc.Eff (FM R) xl (pcC s J) PT w):=by
 rw [pAnd]at H;refine zsd _ _ _ _ s (tokS s i).x xl w _ _ h.hx ?_;obtain⟨r0,k0,hq0,H⟩:=Pr.bind_ok H;have hk0:=(ztb ((p_in s n).1 _ h.le) hq0).2;refine⟨FO r0,_,_,_,_,_,fun β w' hb hh=>(ih (Nat.le_refl _) (h.next hb h.le hh)).ok hq0,fun L=>∃ (m k:Nat) (r:Rl),L=[.v (FM r),.i ((tokS s k).a:Nat),.i ((tokS s k).t:Nat),.s (tokS s k).x,.b (tokS s k).num,.b (tokS s k).bad]∧k≤s.length∧m≤n∧andL s m r k=.ok R J,msQ s.length,⟨n,k0,r0,rfl,hk0,Nat.le_refl _,H⟩, ?_⟩;rintro v1 x4 x5 s3 b4 b5 ⟨m,k,r,hy,hk,hm,hr⟩;simp only [List.cons.injEq,Vl.v.injEq,Vl.i.injEq,Vl.s.injEq,Vl.b.injEq,and_true]at hy;obtain⟨hv1,rfl,rfl,rfl,rfl,rfl⟩:=hy;cases m with
 | zero=>rw [andL]at hr;cases hr
 | succ m =>
 rw [andL]at hr;by_cases g:isT s k [38]=true
 ·rw [if_pos g]at hr;have ht:=(zh s hk).2.2.1;have hat:=zfu (by decide) g;obtain⟨q,k',hq,hr⟩:=Pr.bind_ok hr
  exact⟨true,_,_,_,_,_,fun β w' hb hh=>za (h.next hb hk hh) g,iteI (fun _=>⟨FO q,_,_,_,_,_,fun β w' hb hh=>(ih (by omega) (h.next hb ht hh)).ok hq,fun v3 e3=>by
   obtain⟨h1,h2⟩:=ztb ((p_in s m).1 _ ht) hq;have h3:=(zh s h2).1;refine⟨⟨m,k',aR r q, ?_,h2,by omega,hr⟩, ?_⟩
   ·rw [e3,hv1];rfl
   ·simp only [msQ];omega⟩) (fun e=>absurd rfl e)⟩
 rw [if_neg g]at hr;cases hr;exact⟨false,_,_,_,_,_,fun β w' hb hh=>zc (h.next hb hk hh) (Bool.eq_false_iff.2 g),iteI (fun e=>by cases e) (fun _=>by rw [hv1])⟩
set_option maxHeartbeats 1000000 in
theorem zpda{w:World}{xl i n:Nat}{s:List UInt8}(h:PC s i xl w)
  (ih:∀ {w':World} {b j m:Nat},m≤n→PC s j b w'→PcR 151 #[Vc.ptr b 0] FM s b w' (pNot s m j))
  {a:Nat} {e:Int} (H:pAnd s (n + 1) i=.err a e):Calls Tryz.prog 119 #[Vc.ptr xl 0] w (Vc.PanL (fv a e) [xl] w):=by
 rw [pAnd]at H;refine zbd _ _ _ _ s (tokS s i).x xl w _ h.hx ?_;rcases Pr.bind_err H with hq | ⟨r0,k0,hq0,H⟩
 ·exact .inr ⟨_,_,fun β w' hb hh=>(ih (Nat.le_refl _) (h.next hb h.le hh)).err hq,fun v0 e0 w' hb=>e0⟩
 left;have hk0:=(ztb ((p_in s n).1 _ h.le) hq0).2;refine⟨FO r0,_,_,_,_,_,fun β w' hb hh=>(ih (Nat.le_refl _) (h.next hb h.le hh)).ok hq0,fun L=>∃ (m k:Nat) (r:Rl),L=[.v (FM r),.i ((tokS s k).a:Nat),.i ((tokS s k).t:Nat),.s (tokS s k).x,.b (tokS s k).num,.b (tokS s k).bad]∧k≤s.length∧m≤n∧andL s m r k=.err a e,msQ s.length,⟨n,k0,r0,rfl,hk0,Nat.le_refl _,H⟩, ?_⟩;rintro v1 x4 x5 s3 b4 b5 ⟨m,k,r,hy,hk,hm,hr⟩;simp only [List.cons.injEq,Vl.v.injEq,Vl.i.injEq,Vl.s.injEq,Vl.b.injEq,and_true]at hy;obtain⟨hv1,rfl,rfl,rfl,rfl,rfl⟩:=hy;cases m with
 | zero=>rw [andL]at hr;cases hr
 | succ m =>
 rw [andL]at hr;by_cases g:isT s k [38]=true
 ·rw [if_pos g]at hr;have ht:=(zh s hk).2.2.1;have hat:=zfu (by decide) g;rcases Pr.bind_err hr with hq | ⟨q,k',hq,hr⟩
  ·exact⟨true,_,_,_,_,_,fun β w' hb hh=>za (h.next hb hk hh) g,iteI (fun _=>.inr ⟨_,_,fun β w' hb hh=>(ih (by omega) (h.next hb ht hh)).err hq,fun v0 e0 w' hb=>e0⟩) (fun e=>absurd rfl e)⟩
  exact⟨true,_,_,_,_,_,fun β w' hb hh=>za (h.next hb hk hh) g,iteI (fun _=>.inl ⟨FO q,_,_,_,_,_,fun β w' hb hh=>(ih (by omega) (h.next hb ht hh)).ok hq,fun v3 e3=>by
   obtain⟨h1,h2⟩:=ztb ((p_in s m).1 _ ht) hq;have h3:=(zh s h2).1;refine⟨⟨m,k',aR r q, ?_,h2,by omega,hr⟩, ?_⟩
   ·rw [e3,hv1];rfl
   ·simp only [msQ];omega⟩) (fun e=>absurd rfl e)⟩
 rw [if_neg g]at hr;cases hr
set_option maxHeartbeats 1000000 in
theorem zdfa{w:World}{xl i n:Nat}{s:List UInt8}(h:PC s i xl w)
  (ih:∀ {w':World} {b j m:Nat},m≤n→PC s j b w'→PcR 119 #[Vc.ptr b 0] FM s b w' (pAnd s m j))
  {R:Rl} {J:Nat} (H:pOr s (n + 1) i=.ok R J):Calls Tryz.prog 61 #[Vc.ptr xl 0] w (Vc.Eff (FM R) xl (pcC s J) PT w):=by
 rw [pOr]at H;refine zhe _ _ _ _ s (tokS s i).x xl w _ _ h.hx ?_;obtain⟨r0,k0,hq0,H⟩:=Pr.bind_ok H;have hk0:=(ztb ((p_in s n).2.1 _ h.le) hq0).2;refine⟨FO r0,_,_,_,_,_,fun β w' hb hh=>(ih (Nat.le_refl _) (h.next hb h.le hh)).ok hq0,fun L=>∃ (m k:Nat) (r:Rl),L=[.v (FM r),.i ((tokS s k).a:Nat),.i ((tokS s k).t:Nat),.s (tokS s k).x,.b (tokS s k).num,.b (tokS s k).bad]∧k≤s.length∧m≤n∧orL s m r k=.ok R J,msQ s.length,⟨n,k0,r0,rfl,hk0,Nat.le_refl _,H⟩, ?_⟩;rintro v1 x4 x5 s3 b4 b5 ⟨m,k,r,hy,hk,hm,hr⟩;simp only [List.cons.injEq,Vl.v.injEq,Vl.i.injEq,Vl.s.injEq,Vl.b.injEq,and_true]at hy;obtain⟨hv1,rfl,rfl,rfl,rfl,rfl⟩:=hy;cases m with
 | zero=>rw [orL]at hr;cases hr
 | succ m =>
 rw [orL]at hr;by_cases g:isT s k [124]=true
 ·rw [if_pos g]at hr;have ht:=(zh s hk).2.2.1;have hat:=zfu (by decide) g;obtain⟨q,k',hq,hr⟩:=Pr.bind_ok hr
  exact⟨true,_,_,_,_,_,fun β w' hb hh=>za (h.next hb hk hh) g,iteI (fun _=>⟨FO q,_,_,_,_,_,fun β w' hb hh=>(ih (by omega) (h.next hb ht hh)).ok hq,fun v3 e3=>by
   obtain⟨h1,h2⟩:=ztb ((p_in s m).2.1 _ ht) hq;have h3:=(zh s h2).1;refine⟨⟨m,k',.mk 4 0 [] 0 0 0 nilV [r,q], ?_,h2,by omega,hr⟩, ?_⟩
   ·rw [e3,hv1];rfl
   ·simp only [msQ];omega⟩) (fun e=>absurd rfl e)⟩
 rw [if_neg g]at hr;cases hr;exact⟨false,_,_,_,_,_,fun β w' hb hh=>zc (h.next hb hk hh) (Bool.eq_false_iff.2 g),iteI (fun e=>by cases e) (fun _=>by rw [hv1])⟩
set_option maxHeartbeats 1000000 in
theorem zefa{w:World}{xl i n:Nat}{s:List UInt8}(h:PC s i xl w)
  (ih:∀ {w':World} {b j m:Nat},m≤n→PC s j b w'→PcR 119 #[Vc.ptr b 0] FM s b w' (pAnd s m j))
  {a:Nat} {e:Int} (H:pOr s (n + 1) i=.err a e):Calls Tryz.prog 61 #[Vc.ptr xl 0] w (Vc.PanL (fv a e) [xl] w):=by
 rw [pOr]at H;refine zqd _ _ _ _ s (tokS s i).x xl w _ h.hx ?_;rcases Pr.bind_err H with hq | ⟨r0,k0,hq0,H⟩
 ·exact .inr ⟨_,_,fun β w' hb hh=>(ih (Nat.le_refl _) (h.next hb h.le hh)).err hq,fun v0 e0 w' hb=>e0⟩
 left;have hk0:=(ztb ((p_in s n).2.1 _ h.le) hq0).2;refine⟨FO r0,_,_,_,_,_,fun β w' hb hh=>(ih (Nat.le_refl _) (h.next hb h.le hh)).ok hq0,fun L=>∃ (m k:Nat) (r:Rl),L=[.v (FM r),.i ((tokS s k).a:Nat),.i ((tokS s k).t:Nat),.s (tokS s k).x,.b (tokS s k).num,.b (tokS s k).bad]∧k≤s.length∧m≤n∧orL s m r k=.err a e,msQ s.length,⟨n,k0,r0,rfl,hk0,Nat.le_refl _,H⟩, ?_⟩;rintro v1 x4 x5 s3 b4 b5 ⟨m,k,r,hy,hk,hm,hr⟩;simp only [List.cons.injEq,Vl.v.injEq,Vl.i.injEq,Vl.s.injEq,Vl.b.injEq,and_true]at hy;obtain⟨hv1,rfl,rfl,rfl,rfl,rfl⟩:=hy;cases m with
 | zero=>rw [orL]at hr;cases hr
 | succ m =>
 rw [orL]at hr;by_cases g:isT s k [124]=true
 ·rw [if_pos g]at hr;have ht:=(zh s hk).2.2.1;have hat:=zfu (by decide) g;rcases Pr.bind_err hr with hq | ⟨q,k',hq,hr⟩
  ·exact⟨true,_,_,_,_,_,fun β w' hb hh=>za (h.next hb hk hh) g,iteI (fun _=>.inr ⟨_,_,fun β w' hb hh=>(ih (by omega) (h.next hb ht hh)).err hq,fun v0 e0 w' hb=>e0⟩) (fun e=>absurd rfl e)⟩
  exact⟨true,_,_,_,_,_,fun β w' hb hh=>za (h.next hb hk hh) g,iteI (fun _=>.inl ⟨FO q,_,_,_,_,_,fun β w' hb hh=>(ih (by omega) (h.next hb ht hh)).ok hq,fun v3 e3=>by
   obtain⟨h1,h2⟩:=ztb ((p_in s m).2.1 _ ht) hq;have h3:=(zh s h2).1;refine⟨⟨m,k',.mk 4 0 [] 0 0 0 nilV [r,q], ?_,h2,by omega,hr⟩, ?_⟩
   ·rw [e3,hv1];rfl
   ·simp only [msQ];omega⟩) (fun e=>absurd rfl e)⟩
 rw [if_neg g]at hr;cases hr
theorem zhr(s:List UInt8):∀ n m,m≤n→(∀ {w:World} {b j:Nat},PC s j b w→PcR 151 #[Vc.ptr b 0] FM s b w (pNot s m j))∧(∀ {w:World} {b j:Nat},PC s j b w→PcR 119 #[Vc.ptr b 0] FM s b w (pAnd s m j))∧(∀ {w:World} {b j:Nat},PC s j b w→PcR 61 #[Vc.ptr b 0] FM s b w (pOr s m j)):=by
  intro n
  induction n with
  | zero =>
    intro m hm;obtain rfl:m=0:=by omega
    refine⟨fun _ => ?_,fun _ => ?_,fun _ => ?_⟩
    · rw [pNot];trivial
    · rw [pAnd];trivial
    · rw [pOr];trivial
  | succ n ih =>
    intro m hm;rcases Nat.lt_or_ge n m with hlt | hge
    · obtain rfl:m=n + 1:=by omega
      refine⟨fun {w b j} h => ?_,fun {w b j} h => ?_,fun {w b j} h => ?_⟩
      · cases hr:pNot s (n + 1) j with
        | ok R J=>exact zmda h (fun q=>(ih n (Nat.le_refl _)).1 q) (fun q=>(ih n (Nat.le_refl _)).2.2 q) hr
        | err a e=>exact znda h (fun q=>(ih n (Nat.le_refl _)).1 q) (fun q=>(ih n (Nat.le_refl _)).2.2 q) hr
        | out=>trivial
      · cases hr:pAnd s (n + 1) j with
        | ok R J=>exact zoda h (fun hm q=>(ih _ hm).1 q) hr
        | err a e=>exact zpda h (fun hm q=>(ih _ hm).1 q) hr
        | out=>trivial
      · cases hr:pOr s (n + 1) j with
        | ok R J=>exact zdfa h (fun hm q=>(ih _ hm).2.1 q) hr
        | err a e=>exact zefa h (fun hm q=>(ih _ hm).2.1 q) hr
        | out=>trivial
    · exact ih m hge
end Go.Proofs.YtdjgnbkclcjiiaaGreatDoor
