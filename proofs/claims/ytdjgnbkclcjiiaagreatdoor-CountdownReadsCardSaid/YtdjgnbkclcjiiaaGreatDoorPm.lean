import Derived.Test.YtdjgnbkclcjiiaaGreatDoorM17
import Derived.Defers
import Derived.Recover
set_option linter.unusedVariables false
set_option linter.unusedSimpArgs false
set_option maxRecDepth 100000
namespace Wk
open Go Go.RowKit
theorem viaE{P:Program}{f:FuncId}{args:Array Value}{w0 W:World}{v:Value}{xl:Nat}{C C':Array Value}{T:TypeId}{Q:Ending→World→Prop}{L:List (Nat × Array Value × TypeId)}(hL:Kn w0 W ((xl,C,T)::L))(hx:w0.heap.size≤xl)(hne:∀ p∈L,p.1≠xl)
  (h:Calls P f args W (Vc.Eff v xl C' T W)) (k:∀ w1,Kn w0 w1 ((xl,C',T)::L)→Opened w1 ((xl,C',T)::L)→Q (.returned v) w1):Calls P f args W Q :=
 h.mono fun e w1 ⟨he,hb,hc⟩=>by
  subst he
  have K:Kn w0 w1 ((xl,C',T)::L):=⟨⟨hb.os.trans hL.below.os,hb.tape.trans hL.below.tape,hb.output.trans hL.below.output,Nat.le_trans hL.below.size hb.size,fun k hk=>by
   rw [hb.block k (Nat.lt_of_lt_of_le hk hL.below.size) (by omega)];exact hL.below.block k hk⟩,fun p hp=>by
   rcases List.mem_cons.1 hp with rfl | hp
   ·exact hc
   ·have h1:=hL.all p (List.mem_cons_of_mem _ hp);rw [hb.block _ (heap_lt h1) (hne p hp)];exact h1⟩
  exact k w1 K (Kn.opened_of K.all)
theorem zjda{w0 w:World}{L:List (Nat × Array Value × TypeId)}(h:Kn w0 w L):∀ p∈L,p.1 < w.heap.size:=fun p hp=>heap_lt (h.all p hp)
end Wk
namespace Go.Proofs.YtdjgnbkclcjiiaaGreatDoor
open Go Go.RowKit Go.Proofs Wk
open Vc (SlAt OV iteI Vl zfb zh)
attribute [local irreducible] Go.Calls
theorem vgk2{w w':World}{g:Nat}{cs:Array Value}(hb:Below w.heap.size w w')(h:∃ ty mk,w.heap[g]? = some (.cells cs ty mk)):∃ ty mk,w'.heap[g]? = some (.cells cs ty mk):=by
 obtain⟨ty,mk,hg⟩:=h;exact⟨ty,mk,by rw [hb.block _ (Array.getElem?_eq_some_iff.1 hg).1];exact hg⟩
theorem zdn(p q r:Addr)(w:World):CallsD Tryz.prog 59 #[.pointer (some p),.pointer (some q),.pointer (some r)] .returning w fun e u' w'=>e=.returned (.tuple #[])∧u'=.returning∧w'=w:=by
 refine callsD_of_wpS Tryz.func59 rfl fun c₀ cs hu => ?_;simp only [Tryz.ntmps59,List.size_toArray,List.length_cons,List.length_nil,Nat.reduceAdd,Nat.reduceSub,Array.replicate_succ,Array.replicate_zero,List.push_toArray,List.append_toArray,List.nil_append,List.cons_append];apply wpS_seq;apply wpS_region;simp [wpOpsS,go_sem,recoverD,hu,Exit.thenS];refine wpS_of_wp ?_
 repeat go_step
 cases c₀;simp_all [bodyPostS,results,Tryz.results59]
mutual
theorem zpt:∀ r:Rl,nodesR (erR r)=nodesR r
 | .mk op ask nm wi cm n v ks=>by simp only [erR,nodesR,zrq ks]
theorem zrq:∀ l:List Rl,nodesL (erL l)=nodesL l
 | []=>rfl
 | r::l=>by simp only [erL,nodesL,zpt r,zrq l]
end
mutual
theorem zqt:∀ r:Rl,depthR (erR r)=depthR r
 | .mk op ask nm wi cm n v ks=>by simp only [erR,depthR,zsq ks]
theorem zsq:∀ l:List Rl,depthL (erL l)=depthL l
 | []=>rfl
 | r::l=>by simp only [erL,depthL,zqt r,zsq l]
end
mutual
theorem zfo:∀ r:Rl,rightR (erR r)=rightR r
  | .mk op ask nm wi cm n v ks=>by
    have ha:atomB (.mk op ask nm wi cm n nilV (erL ks))=atomB (.mk op ask nm wi cm n v ks):=by simp only [atomB,Rl.ask,Rl.nm,Rl.wi,Rl.cm,Rl.n,Rl.ks,zdj];rfl
    have hb:bareB (.mk op ask nm wi cm n nilV (erL ks))=bareB (.mk op ask nm wi cm n v ks):=rfl;simp only [erR,rightR,zdj,ztq ks,ha,hb]
theorem ztq:∀ l:List Rl,rightL (erL l)=rightL l
 | []=>rfl
 | r::l=>by simp only [erL,rightL,zfo r,ztq l]
end
theorem zrt(r:Rl):validR (erR r)=validR r:=by unfold validR;rw [zpt,zqt,zfo]
theorem zaca{w:World}{r:Rl}(hV:Vg_0 w)(h:RlAt w r):Calls Tryz.prog 23 #[RV7 r] w (Vc.Ret (.bool (validR r)) w):=by
 have h':=h;have hks:=zwd h;obtain⟨b0,p0,c0,e0,f0,g0⟩:=zkc hks.1;have hno:=zhq f0;have E:RV7 r=.agg #[.int .i64 r.op,.int .i64 r.ask,.string ⟨r.nm.toArray⟩,.int .i64 r.wi,.int .i64 r.cm,.int .i64 r.n,(if b0=true then .slice none 0 0 else .slice (some (Vc.qad p0 (Int.toNat ((r.ks.length:Nat):Int)) (Int.toNat c0))) (Int.toNat ((r.ks.length:Nat):Int)) (Int.toNat c0):Value)]:=by unfold RV7;rw [e0]
 rw [E];exact zue p0 r.op r.ask r.wi r.cm r.n (r.ks.length:Nat) c0 b0 r.nm w _ ⟨⟨(MK 0 1 r).2.1,zvr _ _ _ _ r 0 1⟩,validR r,fun w' hb=>by rw [← E];exact zjy (vgk2 hb hV) (h'.below hb),rfl⟩
def PrP(z:Rl × Nat × Int)(w:World)(e:Ending)(w':World):Prop:=(∃ R xa xl xc,e=.returned (.tuple #[.agg #[.int .i64 R.op,.int .i64 R.ask,.string ⟨R.nm.toArray⟩,.int .i64 R.wi,.int .i64 R.cm,.int .i64 R.n,.slice xa xl xc],.int .i64 (z.2.1:Nat),.int .i64 z.2.2])∧R.v=.slice xa xl xc∧Rw (fun k=>w.heap.size≤k) w' R∧erR R=z.1)∧Below w.heap.size w w'
set_option maxHeartbeats 800000 in
theorem zsw{w:World}{s:List UInt8}{r:Rl}{k:Nat}{Q:Ending→World→Prop}(hlen:s.length≤2000)(v0:Vg_0 w)(v1:Vg_1 w)(v2:Vg_2 w)
  (hr:pOr s (4 * s.length + 3) 0=.ok r k) (hb:(tokS s k).bad=false) (hx:(tokS s k).x=[]) (hIm:Im r (FM r)) (hQ:Hd (∀ e w',PrP (if validR r=true then (r,0,0)else (zR,s.length,3)) w e w'→Q e w')) :
  Calls Tryz.prog 26 #[.string ⟨s.toArray⟩] w Q:=by
 have K:=Kn.start w
 have hszs:3≤w.heap.size:=by
  obtain⟨_,_,h2⟩:=v2;exact (Array.getElem?_eq_some_iff.1 h2).1
 have S0:∀ w',Below w.heap.size w w'→Calls Tryz.prog 60 #[.string ⟨s.toArray⟩,.int .i64 0] w' (Vc.Ret (.agg #[.int .i64 ((tokS s 0).a:Nat),.int .i64 ((tokS s 0).t:Nat),.string ⟨(tokS s 0).x.toArray⟩,.bool (tokS s 0).num,.bool (tokS s 0).bad]) w'):=fun w' hb=>zmaa (i:=0) (vgk2 hb v2) (by omega) (Nat.zero_le _)
 have O0:∀ w' b,Below w.heap.size w w'→w.heap.size≤b→w'.heap[b]? = some (.cells #[.string ⟨s.toArray⟩,.int .i64 ((tokS s 0).a:Nat),.int .i64 ((tokS s 0).t:Nat),.string ⟨(tokS s 0).x.toArray⟩,.bool (tokS s 0).num,.bool (tokS s 0).bad] PT)→Calls Tryz.prog 61 #[.pointer (some ⟨b,0,none⟩)] w' (Vc.Eff (FM r) b #[.string ⟨s.toArray⟩,.int .i64 ((tokS s k).a:Nat),.int .i64 ((tokS s k).t:Nat),.string ⟨(tokS s k).x.toArray⟩,.bool (tokS s k).num,.bool (tokS s k).bad] PT w'):=fun w' b hb hbb hc=>by
  have h:=(zpq s _ _ (Nat.le_refl (4 * s.length + 3))).2.2 (show PC s 0 b w' from⟨⟨vgk2 hb v0,vgk2 hb v1,vgk2 hb v2,by omega,by omega,by omega⟩,by omega,Nat.zero_le _,hc⟩);exact h.ok hr
 obtain⟨T,pl,f,hFM,hM,hC,hA'⟩:=hIm;have hA:=Hd.mk hA';clear hA';rw [hFM,hb,hx]at O0
 go_enter_defers Tryz.func26,Tryz.ntmps26
 go_wp2_with (go_at_call 60;refine via (by repeat (first | exact K | apply Kn.push | apply Kn.drew)) (S0 _ (by have B:=K.below;go_grown)) ?_;clear K;(try clear hO);intro wN K hO;simp only [Opened,World.size_alloc,World.size_drew,World.size_setCell]at hO)
 have hKs:=zjda K;have hwn:=K.below.size;refine viaE (Kn.push K _ _) hwn (fun p hp=>Nat.ne_of_lt (hKs p hp)) (O0 _ _ (by have B:=K.below;go_grown) hwn (by rw [heap_alloc,if_pos rfl])) ?_;clear K hKs O0 S0;intro w1 K hO;simp only [Opened,World.size_alloc,World.size_drew,World.size_setCell]at hO;dsimp only
 go_wp2_with fail
 refine via3 K (hA.out _) ?_;have hw1:=zr (K.all _ (List.mem_cons_self ..));clear K hO hM hC hA;rintro _ w2 ⟨R,xa,xl,xc,rfl,hv,hR,he⟩ hB K hO;simp only [Opened,World.size_alloc,World.size_drew,World.size_setCell]at hO;have hw2:=hB.size;have hval:validR R=validR r:=by rw [← zrt,he]
 have C0:∀ W':World,(∀ k,w1.heap.size≤k→k < w2.heap.size→W'.heap[k]? = w2.heap[k]?)→Below w.heap.size w W'→Calls Tryz.prog 23 #[.agg #[.int .i64 R.op,.int .i64 R.ask,.string ⟨R.nm.toArray⟩,.int .i64 R.wi,.int .i64 R.cm,.int .i64 R.n,.slice xa xl xc]] W' (Vc.Ret (.bool (validR r)) W'):=fun W' ha hb=>by
  have h:=zaca (vgk2 hb v0) (hR W' ha);unfold RV7 at h;rw [hv,hval]at h;exact h
 have hC0:=Hd.mk C0;have hRh:=Hd.mk hR;have hvh:=Hd.mk hv;have heh:=Hd.mk he;clear C0 hR hB hv he;dsimp only;by_cases hvr:validR r=true
 ·rw [hvr]at hC0;rw [if_pos hvr]at hQ
  go_wp2_with fail
  refine via3 (L := [(w.heap.size + 1 + 1,#[.int .i64 0],34),(w.heap.size + 1,#[.int .i64 0],3),(w.heap.size,#[.int .i64 R.op,.int .i64 R.ask,.string ⟨R.nm.toArray⟩,.int .i64 R.wi,.int .i64 R.cm,.int .i64 R.n,.slice xa xl xc],30)]) (Kn.of (w0:=w) (by have B:=K.below;go_grown) (by simp only [Held,heap_alloc,zc,ze,World.size_alloc,World.size_drew,World.size_setCell,IntWalk.iteOmega,Wk.setObj,hO,Option.map_some,↓reduceIte,if_true,if_false,List.setIfInBounds_toArray,List.set_cons_zero,List.set_cons_succ,and_self,and_true] <;> (try trivial))) (hC0.out _ (fun k h1 h2 => ?_) ?_) ?_
  ·simp only [heap_alloc,zc,ze,World.size_alloc,World.size_setCell,World.size_drew];repeat rw [if_neg (by omega)]
  ·have B:=K.below;go_grown
  rintro _ w3 rfl hB3 K hO
  have hR3:=Hd.mk ((hRh.out.next (by simp only [World.size_alloc,World.size_setCell,World.size_drew];omega) (fun k h1 h2=>by
   have h1':w1.heap.size≤k:=h1;simp only [heap_alloc,zc,ze,World.size_alloc,World.size_setCell,World.size_drew];repeat rw [if_neg (by omega)])).next hB3.size (fun k _ hk=>hB3.block k hk))
  clear hRh hB3 hC0;simp only [Opened,World.size_alloc,World.size_drew,World.size_setCell]at hO;dsimp only
  repeat go_step
  refine leaves_cons (f:=59) (args := #[.pointer (some ⟨w.heap.size,0,none⟩),.pointer (some ⟨w.heap.size + 1,0,none⟩),.pointer (some ⟨w.heap.size + 1 + 1,0,none⟩)]) (by simp) (by simp [go_sem]) ?_;refine (zdn _ _ _ _).mono ?_;rintro e u' w'' ⟨rfl,rfl,rfl⟩;refine⟨_,by simp [results,Tryz.results26,go_sem,hO];rfl,hQ.out _ _ ⟨?_,by have B:=K.below;go_grown⟩⟩;refine⟨R,xa,xl,xc,rfl,hvh.out, ?_,heh.out⟩;refine (hR3.out.next ?_ (fun k h1 h2 => ?_)).mono (fun k _ h => ?_)
  ·simp only [World.size_alloc,World.size_setCell,World.size_drew];omega
  ·have h1':w1.heap.size≤k:=h1;simp only [heap_alloc,zc,ze,World.size_alloc,World.size_setCell,World.size_drew];repeat rw [if_neg (by omega)]
  ·have h':w1.heap.size≤k:=h;omega
 ·have hvf:=Bool.eq_false_iff.2 hvr;rw [hvf]at hC0;rw [if_neg hvr]at hQ
  go_wp2_with fail
  refine via3 (L := [(w.heap.size + 1 + 1,#[.int .i64 0],34),(w.heap.size + 1,#[.int .i64 0],3),(w.heap.size,#[.int .i64 R.op,.int .i64 R.ask,.string ⟨R.nm.toArray⟩,.int .i64 R.wi,.int .i64 R.cm,.int .i64 R.n,.slice xa xl xc],30)]) (Kn.of (w0:=w) (by have B:=K.below;go_grown) (by simp only [Held,heap_alloc,zc,ze,World.size_alloc,World.size_drew,World.size_setCell,IntWalk.iteOmega,Wk.setObj,hO,Option.map_some,↓reduceIte,if_true,if_false,List.setIfInBounds_toArray,List.set_cons_zero,List.set_cons_succ,and_self,and_true] <;> (try trivial))) (hC0.out _ (fun k h1 h2 => ?_) ?_) ?_
  ·simp only [heap_alloc,zc,ze,World.size_alloc,World.size_setCell,World.size_drew];repeat rw [if_neg (by omega)]
  ·have B:=K.below;go_grown
  rintro _ w3 rfl hB3 K hO
  have hR3:=Hd.mk ((hRh.out.next (by simp only [World.size_alloc,World.size_setCell,World.size_drew];omega) (fun k h1 h2=>by
   have h1':w1.heap.size≤k:=h1;simp only [heap_alloc,zc,ze,World.size_alloc,World.size_setCell,World.size_drew];repeat rw [if_neg (by omega)])).next hB3.size (fun k _ hk=>hB3.block k hk))
  clear hRh hB3 hC0;simp only [Opened,World.size_alloc,World.size_drew,World.size_setCell]at hO;dsimp only
  repeat go_step
  refine leaves_cons (f:=59) (args := #[.pointer (some ⟨w.heap.size,0,none⟩),.pointer (some ⟨w.heap.size + 1,0,none⟩),.pointer (some ⟨w.heap.size + 1 + 1,0,none⟩)]) (by simp) (by simp [go_sem]) ?_;refine (zdn _ _ _ _).mono ?_;rintro e u' w'' ⟨rfl,rfl,rfl⟩;refine⟨_,by simp [results,Tryz.results26,go_sem,hO];rfl,hQ.out _ _ ⟨?_,by have B:=K.below;go_grown⟩⟩;exact⟨zR,none,0,0,rfl,rfl,fun w'' _=>⟨.inl ⟨rfl,rfl⟩,trivial⟩,rfl⟩
end Go.Proofs.YtdjgnbkclcjiiaaGreatDoor
