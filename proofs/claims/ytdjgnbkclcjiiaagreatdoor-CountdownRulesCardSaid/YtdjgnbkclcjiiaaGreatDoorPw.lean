import Derived.Test.YtdjgnbkclcjiiaaGreatDoorPu
section
set_option linter.unusedVariables false
set_option linter.unusedSimpArgs false
set_option maxRecDepth 100000
namespace Go.Proofs.YtdjgnbkclcjiiaaGreatDoor
open Go Go.RowKit Go.Proofs Wk
open Vc (SlAt OV iteI Vl zwa ze zug)
attribute [local irreducible] Go.Calls
theorem zsca{w:World}{r:Rl}{op:Int}(h:RlAt w r)(hl:(txR r).length≤30000)(ht:∀ w',Below w.heap.size w w'→Calls Tryz.prog 58 #[RV7 r] w' (Vc.Ret (.string ⟨(txR r).toArray⟩) w')):Calls Tryz.prog 109 #[RV7 r,.int .i64 op] w (Vc.Ret (.string ⟨(parT (decide (op < r.op)) (txR r)).toArray⟩) w):=by
 have hks:=zm h;obtain⟨b0,p0,c0,e0,f0,g0⟩:=zk hks.1;have hno:=zbe f0;have E:RV7 r=.agg #[.int .i64 r.op,.int .i64 r.ask,.string ⟨r.nm.toArray⟩,.int .i64 r.wi,.int .i64 r.cm,.int .i64 r.n,(if b0=true then .slice none 0 0 else .slice (some (Vc.qad p0 (Int.toNat ((r.ks.length:Nat):Int)) (Int.toNat c0))) (Int.toNat ((r.ks.length:Nat):Int)) (Int.toNat c0):Value)]:=by unfold RV7;rw [e0]
 rw [E];refine zkg p0 r.op r.ask r.wi r.cm r.n (r.ks.length:Nat) c0 op b0 r.nm w _ ⟨txR r,fun w' hb=>by rw [← E];exact ht w' hb,iteI (fun ho => ?_) (fun ho => ?_)⟩
 ·refine⟨by simp only [List.length_cons,List.length_nil];omega, ?_⟩;rintro s2 rfl;refine⟨by simp only [List.length_append,List.length_cons,List.length_nil];omega, ?_⟩;rintro s3 rfl;rw [decide_eq_true ho];rfl
 ·rw [decide_eq_false ho];rfl
set_option maxHeartbeats 1000000 in
theorem zrea{w:World}{ask:Int}{nm:List UInt8}{wi cm n:Int}{v:Value}{ks:List Rl}(ha:atomB (.mk 1 ask nm wi cm n v ks)=true)(h:RlAt w (.mk 1 ask nm wi cm n v ks)) :
  Calls Tryz.prog 58 #[RV7 (.mk 1 ask nm wi cm n v ks)] w (Vc.Ret (.string ⟨(txA ask nm wi cm n).toArray⟩) w):=by
 have hI:NumI 110 w:=zmfa;obtain⟨⟨h1,h2⟩,h3,⟨h4,h5⟩,h6,h7,⟨h9,h10⟩,_⟩:=zhb.1 ha;have hnl:=zkj h3;have hwl:=zoj (n:=wi) (by omega);have hn:-10000000000 < n∧n < 10000000000:=by omega
 have hw:-10000000000 < wi∧wi < 10000000000:=by omega
 generalize hr:Rl.mk 1 ask nm wi cm n v ks=r at h;have hks:=zm h;obtain⟨b0,p0,c0,e0,f0,g0⟩:=zk hks.1;have hno:=zbe f0;have E:RV7 r=.agg #[.int .i64 r.op,.int .i64 r.ask,.string ⟨r.nm.toArray⟩,.int .i64 r.wi,.int .i64 r.cm,.int .i64 r.n,(if b0=true then .slice none 0 0 else .slice (some (Vc.qad p0 (Int.toNat ((r.ks.length:Nat):Int)) (Int.toNat c0))) (Int.toNat ((r.ks.length:Nat):Int)) (Int.toNat c0):Value)]:=by unfold RV7;rw [e0]
 rw [E];have q0:r.op=1:=by rw [← hr];rfl
 have q1:r.ask=ask:=by rw [← hr];rfl
 have q2:r.nm=nm:=by rw [← hr];rfl
 have q3:r.wi=wi:=by rw [← hr];rfl
 have q4:r.cm=cm:=by rw [← hr];rfl
 have q5:r.n=n:=by rw [← hr];rfl
 rw [q0,q1,q2,q3,q4,q5]
 have T2:ask=0→¬ (cm=5∧n=0)→Vj_ullageref10_text_T2 nm cm w n (.string ⟨(txA ask nm wi cm n).toArray⟩):=fun h0 hq=>by
  have hT:txA ask nm wi cm n=nm++32::(cmpsB.getD cm.toNat []++32::intD n):=by unfold txA;rw [if_neg (fun h=>hq h.2),if_pos h0]
  rw [hT];exact zcba hI (by omega) h7 hn rfl
 have T1:ask=0→Vj_ullageref10_text_T1 cm n nm (.string ⟨(txA ask nm wi cm n).toArray⟩) w:=fun h0=>by
  refine iteI (fun h5=>iteI (fun hn0 => ?_) (fun hn0=>T2 h0 fun h=>hn0 h.2)) (fun h5=>T2 h0 fun h=>h5 h.1)
  have:txA ask nm wi cm n=nm:=by unfold txA;rw [if_pos ⟨h0,h5,hn0⟩]
  rw [this]
 have W:ask≠0→∀ wd:List UInt8,wd.length≤6→txA ask nm wi cm n=wd++(nm++44::32::(intD wi++41::32::(cmpsB.getD cm.toNat []++32::intD n))) →
   (List.length wd + List.length nm≤9223372036854775807)∧∀ s1:List UInt8,s1=wd++nm→(List.length s1 + List.length ([44,32]:List UInt8)≤9223372036854775807)∧∀ s2:List UInt8,s2=s1++([44,32]:List UInt8) →
   ∃ s3:List UInt8,(Vq w 110 #[.int .i64 wi] (.string ⟨s3.toArray⟩))∧(List.length s2 + List.length s3≤9223372036854775807)∧∀ s4:List UInt8,s4=s2++s3 →
   (List.length s4 + List.length ([41]:List UInt8)≤9223372036854775807)∧∀ s5:List UInt8,s5=s4++([41]:List UInt8) →
   ((ask=0)→( Vj_ullageref10_text_T1 cm n s5 (.string ⟨(txA ask nm wi cm n).toArray⟩) w))∧(¬ (ask=0)→( Vj_ullageref10_text_T2 s5 cm w n (.string ⟨(txA ask nm wi cm n).toArray⟩))):=fun ha0 wd hwd hT=>by
  refine⟨by omega, ?_⟩;rintro s1 rfl;refine⟨by simp only [List.length_append,List.length_cons,List.length_nil];omega, ?_⟩;rintro s2 rfl;refine⟨intD wi,hI wi hw,by simp only [List.length_append,List.length_cons,List.length_nil];omega, ?_⟩;rintro s4 rfl;refine⟨by simp only [List.length_append,List.length_cons,List.length_nil];omega, ?_⟩;rintro s5 rfl;refine⟨fun h=>absurd h ha0,fun _=>zcba hI (by simp only [List.length_append,List.length_cons,List.length_nil];omega) h7 hn (by rw [hT];simp)⟩
 have hT:ask≠0→txA ask nm wi cm n=(if ask=1 then wMost else wLeast)++40::(nm++44::32::(intD wi++41::32::(cmpsB.getD cm.toNat []++32::intD n))):=fun h0=>by
  unfold txA;rw [if_neg (fun h=>h0 h.1),if_neg h0];simp
 refine zab p0 1 ask wi cm n (r.ks.length:Nat) c0 b0 nm w _ ⟨fun h=>absurd h (by decide),fun _=>⟨fun h=>absurd h (by decide),fun _=>⟨fun h=>absurd h (by decide),fun _=>iteI (fun hp => ?_) (fun hp=>⟨T1,fun h=>absurd h (by omega)⟩)⟩⟩⟩;intro x7 hx7;rw [ze (by omega)]at hx7;refine⟨by omega,by omega,iteI (fun hk=>W (by omega) [109,111,115,116,40] (by decide) ?_) (fun hk=>W (by omega) [108,101,97,115,116,40] (by decide) ?_)⟩
 ·rw [hT (by omega),if_pos (by omega)];rfl
 ·rw [hT (by omega),if_neg (by omega)];rfl
set_option maxHeartbeats 1000000 in
theorem zpfa:∀ (m:Nat) {w:World} {r:Rl},nodesR r≤m→nodesR r≤200→rightR r=true→RlAt w r→Calls Tryz.prog 58 #[RV7 r] w (Vc.Ret (.string ⟨(txR r).toArray⟩) w):=by
 intro m
 induction m with
 | zero=>intro w r hm;have:=zcb r;omega
 | succ m ih =>
 intro w r hm hm2 hr h
 have kid:∀ (i:Nat) (k:Rl),r.ks[i]? = some k→RlAt w k∧rightR k=true→nodesR k≤m∧nodesR k≤200:=fun i k hk _=>by
  have hsub:=zpd (List.mem_of_getElem? hk);rw [zij]at hm hm2;omega
 have AR:∀ (k:Rl) (op:Int),nodesR k≤m→nodesR k≤200→rightR k=true→RlAt w k→∀ w',Below w.heap.size w w'→Calls Tryz.prog 109 #[RV7 k,.int .i64 op] w' (Vc.Ret (.string ⟨(parT (decide (op < k.op)) (txR k)).toArray⟩) w'):=fun k op h1 h2 h3 h4 w' hb=>by
  have hlk:=zan _ k (Nat.le_refl _) h3;exact zsca (h4.below hb) (by omega) fun w'' hb'=>ih h1 h2 h3 ((h4.below hb).below hb')
 have lp:∀ (k:Rl) (b:Bool),nodesR k≤200→rightR k=true→(parT b (txR k)).length≤21000:=fun k b h1 h2=>by
  have hlk:=zan _ k (Nat.le_refl _) h2;rw [zhg];split <;> omega
 rcases zvb hr with ⟨ho,ha⟩ | ⟨v,k,rfl,hk⟩ | ⟨op,v,a,b,rfl,ho,ha,hb⟩
 ·obtain⟨op,ask,nm,wi,cm,n,v,ks⟩:=r;obtain rfl:op=1:=ho;rw [znj,if_pos rfl];exact zrea ha h
 ·have hnk:nodesR k≤m:=by simp only [nodesR,nodesL]at hm;omega
  have hnk2:nodesR k≤200:=by simp only [nodesR,nodesL]at hm2;omega
  have hak:=zva (zm h).2 k (by simp [Rl.ks]);obtain⟨b0,p0,c0,e0,f0,g0⟩:=zk (zm h).1;have hn0:¬ b0=true:=fun hb=>by have:=f0 hb;simp [Rl.ks]at this
  obtain⟨q0,q1,q2,q3,q4,q5,q6⟩:=g0 0 k rfl;obtain⟨b8,p8,c8,x8,f8,_⟩:=zk (zm hak).1;have A:=AR k 2 hnk hnk2 hk hak;unfold RV7 at A;rw [x8]at q6 A;rw [zym];unfold RV7;rw [e0];refine zab p0 2 0 0 0 0 ((1:Nat):Int) c0 b0 [] w _ ⟨fun _=>⟨hn0,by omega,k.op,q0,k.ask,q1,k.nm,q2,k.wi,q3,k.cm,q4,k.n,q5,b8,p8,(k.ks.length:Nat),c8,q6,_,A,by have:=lp k (decide (2 < k.op)) hnk2 hk;simp only [List.length_cons,List.length_nil];omega, ?_⟩,fun h=>absurd rfl h⟩;rintro s3 rfl;rfl
 ·have hna:nodesR a≤m:=by simp only [nodesR,nodesL]at hm;omega
  have hnb:nodesR b≤m:=by simp only [nodesR,nodesL]at hm;omega
  have hna2:nodesR a≤200:=by simp only [nodesR,nodesL]at hm2;omega
  have hnb2:nodesR b≤200:=by simp only [nodesR,nodesL]at hm2;omega
  have haa:=zva (zm h).2 a (by simp [Rl.ks]);have hab:=zva (zm h).2 b (by simp [Rl.ks]);obtain⟨b0,p0,c0,e0,f0,g0⟩:=zk (zm h).1;have hn0:¬ b0=true:=fun hb=>by have:=f0 hb;simp [Rl.ks]at this
  obtain⟨q0,q1,q2,q3,q4,q5,q6⟩:=g0 0 a rfl;obtain⟨r0,r1,r2,r3,r4,r5,r6⟩:=g0 1 b rfl;obtain⟨b8,p8,c8,x8,f8,_⟩:=zk (zm haa).1;obtain⟨b9,p9,c9,x9,f9,_⟩:=zk (zm hab).1;rw [x8]at q6;rw [x9]at r6;rcases ho with rfl | rfl
  ·have A:=AR a 3 hna hna2 ha haa;have B:=AR b 2 hnb hnb2 hb hab;unfold RV7 at A B;rw [x8]at A;rw [x9]at B;rw [zzm];unfold RV7;rw [e0];refine zab p0 3 0 0 0 0 ((2:Nat):Int) c0 b0 [] w _ ⟨fun h=>absurd h (by decide),fun _=>⟨fun _=>⟨hn0,by omega,a.op,q0,a.ask,q1,a.nm,q2,a.wi,q3,a.cm,q4,a.n,q5,b8,p8,(a.ks.length:Nat),c8,q6,hn0,by omega,b.op,r0,b.ask,r1,b.nm,r2,b.wi,r3,b.cm,r4,b.n,r5,b9,p9,(b.ks.length:Nat),c9,r6,_,A,by have:=lp a (decide (3 < a.op)) hna2 ha;simp only [List.length_cons,List.length_nil];omega, ?_⟩,fun h=>absurd rfl h⟩⟩;rintro s4 rfl;refine⟨_,B,by have:=lp a (decide (3 < a.op)) hna2 ha;have:=lp b (decide (2 < b.op)) hnb2 hb;simp only [List.length_append,List.length_cons,List.length_nil];omega, ?_⟩;rintro s6 rfl;exact str_eq (by unfold txD txN;simp)
  ·have A:=AR a 4 hna hna2 ha haa;have B:=AR b 3 hnb hnb2 hb hab;unfold RV7 at A B;rw [x8]at A;rw [x9]at B;rw [zlr (by have:=zhc ha;omega)];unfold RV7;rw [e0];refine zab p0 4 0 0 0 0 ((2:Nat):Int) c0 b0 [] w _ ⟨fun h=>absurd h (by decide),fun _=>⟨fun h=>absurd h (by decide),fun _=>⟨fun _=>⟨hn0,by omega,a.op,q0,a.ask,q1,a.nm,q2,a.wi,q3,a.cm,q4,a.n,q5,b8,p8,(a.ks.length:Nat),c8,q6,hn0,by omega,b.op,r0,b.ask,r1,b.nm,r2,b.wi,r3,b.cm,r4,b.n,r5,b9,p9,(b.ks.length:Nat),c9,r6,_,A,by have:=lp a (decide (4 < a.op)) hna2 ha;simp only [List.length_cons,List.length_nil];omega, ?_⟩,fun h=>absurd rfl h⟩⟩⟩;rintro s4 rfl;refine⟨_,B,by have:=lp a (decide (4 < a.op)) hna2 ha;have:=lp b (decide (3 < b.op)) hnb2 hb;simp only [List.length_append,List.length_cons,List.length_nil];omega, ?_⟩;rintro s6 rfl;refine str_eq ?_;rw [show decide (4 < a.op)=false from decide_eq_false (by have:=zhc ha;omega)];unfold txD parT;simp
theorem zsea{w:World}{r:Rl}(h:RlAt w r)(hsz:RlSz r):Calls Tryz.prog 25 #[RV7 r] w (Vc.Ret (.string ⟨(prT r).toArray⟩) w):=by
 have h':=h;have hks:=zm h;obtain⟨b0,p0,c0,e0,f0,g0⟩:=zk hks.1;have hno:=zbe f0;have E:RV7 r=.agg #[.int .i64 r.op,.int .i64 r.ask,.string ⟨r.nm.toArray⟩,.int .i64 r.wi,.int .i64 r.cm,.int .i64 r.n,(if b0=true then .slice none 0 0 else .slice (some (Vc.qad p0 (Int.toNat ((r.ks.length:Nat):Int)) (Int.toNat c0))) (Int.toNat ((r.ks.length:Nat):Int)) (Int.toNat c0):Value)]:=by unfold RV7;rw [e0]
 rw [E];refine zse p0 r.op r.ask r.wi r.cm r.n (r.ks.length:Nat) c0 b0 r.nm w _ ⟨validR r,fun w' hb=>by rw [← E];exact zvaa (h'.below hb) hsz,iteI (fun hv=>⟨txR r,fun w' hb => ?_, ?_⟩) (fun hv => ?_)⟩
 ·have hv':=hv;simp only [validR,Bool.and_eq_true,decide_eq_true_eq]at hv';rw [← E];exact zpfa _ (Nat.le_refl _) hv'.1.1 hv'.2 (h'.below hb)
 ·unfold prT;rw [if_pos hv]
 ·unfold prT;rw [if_neg hv]
theorem ztea{w:World}{r:Rl}(h:RlAt w r)(hsz:RlSz r):Calls Tryz.prog 15 #[RV7 r] w (Vc.Ret (.bool (decide (szR 3000 r > 3000))) w):=by
 have h':=h;have hks:=zm h;obtain⟨b0,p0,c0,e0,f0,g0⟩:=zk hks.1;have hno:=zbe f0;have E:RV7 r=.agg #[.int .i64 r.op,.int .i64 r.ask,.string ⟨r.nm.toArray⟩,.int .i64 r.wi,.int .i64 r.cm,.int .i64 r.n,(if b0=true then .slice none 0 0 else .slice (some (Vc.qad p0 (Int.toNat ((r.ks.length:Nat):Int)) (Int.toNat c0))) (Int.toNat ((r.ks.length:Nat):Int)) (Int.toNat c0):Value)]:=by unfold RV7;rw [e0]
 rw [E];exact zzg p0 r.op r.ask r.wi r.cm r.n (r.ks.length:Nat) c0 b0 r.nm w _ ⟨_,fun w' hb=>by rw [← E];exact zcfa _ (Nat.le_refl _) (h'.below hb) hsz,rfl⟩
end Go.Proofs.YtdjgnbkclcjiiaaGreatDoor
end
section
set_option linter.unusedVariables false
set_option linter.unusedSimpArgs false
set_option maxRecDepth 100000
namespace Go.Proofs.YtdjgnbkclcjiiaaGreatDoor
open Go Go.RowKit Go.Proofs Wk
open Vc (SlAt OV iteI Vl zwa ze zug)
attribute [local irreducible] Go.Calls
set_option maxHeartbeats 4000000 in
theorem zpj{w:World}{r:Rl}(h:RlAt w r)(hsz:RlSz r)(hV:VG w)(hT:TabG w):Calls Tryz.prog 4 #[RV7 r] w (Vc.Ret (.bool true) w):=by
 have haw:∀ w',Below w.heap.size w w'→Calls Tryz.prog 16 #[] w' (Vc.Ret (.bool true) w'):=fun w' hb=>zux w' (hV.below hb).1 (hV.below hb).2.1 (hV.below hb).2.2.1 (hV.below hb).2.2.2;have hgr:∀ w',Below w.heap.size w w'→Calls Tryz.prog 15 #[RV7 r] w' (Vc.Ret (.bool (decide (szR 3000 r > 3000))) w'):=fun w' hb=>ztea (h.below hb) hsz;have hp:∀ w',Below w.heap.size w w'→Calls Tryz.prog 22 #[RV7 r] w' (Vc.Ret (.string ⟨(prT r).toArray⟩) w'):=fun w' hb=>zqea (h.below hb) (vgk hb hV.1) (vgk hb hV.2.1) (zte hT hb);have hrp:∀ w',Below w.heap.size w w'→Calls Tryz.prog 25 #[RV7 r] w' (Vc.Ret (.string ⟨(prT r).toArray⟩) w'):=fun w' hb=>zsea (h.below hb) hsz;have hc:∀ w',Below w.heap.size w w'→Calls Tryz.prog 23 #[RV7 r] w' (Vc.Ret (.bool (validR r)) w'):=fun w' hb=>zyaa (vgk hb hV.1) (h.below hb);have hrc:∀ w',Below w.heap.size w w'→Calls Tryz.prog 24 #[RV7 r] w' (Vc.Ret (.bool (validR r)) w'):=fun w' hb=>zvaa (h.below hb) hsz
 have hpa:¬ (prT r=[])→¬ (2000 < (prT r).length)→RlSz (erR r)∧∀ w',Below w.heap.size w w'→Calls Tryz.prog 26 #[.string ⟨(prT r).toArray⟩] w' (PrP (erR r,0,0) w'):=fun h1 h2=>by
  have hv:validR r=true:=by
   by_cases hv:validR r=true
   ·exact hv
   ·exact absurd (by unfold prT;rw [if_neg hv]) h1
  have e:prT r=txR r:=by unfold prT;rw [if_pos hv]
  rw [e]at h2 ⊢;have hp:=zus hv (by omega);refine⟨by have:=zxz (txR r);rw [hp]at this;exact this,fun w' hb => ?_⟩
  have:=zuda (w:=w') (s:=txR r) (by omega) (vgk hb hV.1) (vgk hb hV.2.1) (vgk hb hV.2.2.1)
  rw [hp]at this;exact this
 have hat:=h;obtain⟨sa,sl,sc,hs⟩:=zoz (zm h).1;unfold RV7 at hgr hp hrp hc hrc ⊢;rw [hs]at hgr hp hrp hc hrc ⊢;have K:=Kn.start w;clear h hV hT;generalize validR r=bv at hc hrc;generalize prT r=tx at hp hrp hpa;by_cases hg:szR 3000 r > 3000
 ·rw [decide_eq_true hg]at hgr;clear hp hrp hc hrc hpa
  go_enter Tryz.func4,Tryz.ntmps4
  go_wp2_with (first | (go_at_call 15;refine via (by repeat (first | exact K | apply Kn.push | apply Kn.drew)) (hgr _ (by have B:=K.below;go_grown)) ?_;clear K;(try clear hO);intro wN K hO;simp only [Opened,World.size_alloc,World.size_drew,World.size_setCell]at hO) | (go_at_call 16;refine via (by repeat (first | exact K | apply Kn.push | apply Kn.drew)) (haw _ (by have B:=K.below;go_grown)) ?_;clear K;(try clear hO);intro wN K hO;simp only [Opened,World.size_alloc,World.size_drew,World.size_setCell]at hO))
  (refine bodyPost_ret (by simp [results,Tryz.results4,go_sem,hO];try rfl) rfl ⟨?_,by have B:=K.below;go_grown⟩)
  try rfl
 rw [decide_eq_false hg]at hgr;have hpah:=Hd.mk hpa;clear hpa hg
 go_enter Tryz.func4,Tryz.ntmps4
 go_upto_region 4 with (first | (go_at_call 15;refine via (by repeat (first | exact K | apply Kn.push | apply Kn.drew)) (hgr _ (by have B:=K.below;go_grown)) ?_;clear K;(try clear hO);intro wN K hO;simp only [Opened,World.size_alloc,World.size_drew,World.size_setCell]at hO) | (go_at_call 22;refine via (by repeat (first | exact K | apply Kn.push | apply Kn.drew)) (hp _ (by have B:=K.below;go_grown)) ?_;clear K;(try clear hO);intro wN K hO;simp only [Opened,World.size_alloc,World.size_drew,World.size_setCell]at hO))
 clear hgr hp
 go_cut [22] (fun s22 wx=>s22=.bool false∧Kn w wx [(w.heap.size,#[.int .i64 r.op,.int .i64 r.ask,.string ⟨r.nm.toArray⟩,.int .i64 r.wi,.int .i64 r.cm,.int .i64 r.n,.slice sa sl sc],30)])
 case first =>
  clear haw
  go_region_held3 (fun w'=>w'.cell? ⟨w.heap.size,0,none⟩=some (.int .i64 r.op)∧w'.cell? ⟨w.heap.size,1,none⟩=some (.int .i64 r.ask)∧w'.cell? ⟨w.heap.size,2,none⟩=some (.string ⟨r.nm.toArray⟩)∧w'.cell? ⟨w.heap.size,3,none⟩=some (.int .i64 r.wi)∧w'.cell? ⟨w.heap.size,4,none⟩=some (.int .i64 r.cm)∧w'.cell? ⟨w.heap.size,5,none⟩=some (.int .i64 r.n)∧w'.cell? ⟨w.heap.size,6,none⟩=some (.slice sa sl sc)) (simp [go_sem, *]) (first
   | (go_at_call 23;refine via (by repeat (first | exact K | apply Kn.push | apply Kn.drew)) (hc _ (by have B:=K.below;go_grown)) ?_;clear K;(try clear hO);intro wN K hO;simp only [Opened,World.size_alloc,World.size_drew,World.size_setCell]at hO)
   | (go_at_call 24;refine via (by repeat (first | exact K | apply Kn.push | apply Kn.drew)) (hrc _ (by have B:=K.below;go_grown)) ?_;clear K;(try clear hO);intro wN K hO;simp only [Opened,World.size_alloc,World.size_drew,World.size_setCell]at hO)
   | (go_at_call 25;refine via (by repeat (first | exact K | apply Kn.push | apply Kn.drew)) (hrp _ (by have B:=K.below;go_grown)) ?_;clear K;(try clear hO);intro wN K hO;simp only [Opened,World.size_alloc,World.size_drew,World.size_setCell]at hO))
  all_goals (go_wp2_with fail;go_meet)
  all_goals exact⟨rfl,K⟩
 case rest =>
 obtain⟨rfl,K⟩:=hcut;clear hc hrc hrp;have hpa:=hpah.out;by_cases hne:tx=[]
 ·subst hne;clear hpa hpah;have hO:=Kn.opened_of K.all;simp only [Opened,World.size_alloc,World.size_drew,World.size_setCell]at hO
  go_wp2_with (go_at_call 16;refine via (by repeat (first | exact K | apply Kn.push | apply Kn.drew)) (haw _ (by have B:=K.below;go_grown)) ?_;clear K;(try clear hO);intro wN K hO;simp only [Opened,World.size_alloc,World.size_drew,World.size_setCell]at hO)
  (refine bodyPost_ret (by simp [results,Tryz.results4,go_sem,hO];try rfl) rfl ⟨?_,by have B:=K.below;go_grown⟩)
  try rfl
 by_cases hln:2000 < tx.length
 ·clear hpa hpah;have hne':tx.isEmpty=false:=by cases tx with | nil=>exact absurd rfl hne | cons c l=>rfl
  have hln':(2000:Int) < (tx.length:Int):=by omega
  have hO:=Kn.opened_of K.all;simp only [Opened,World.size_alloc,World.size_drew,World.size_setCell]at hO
  go_wp2_with (go_at_call 16;refine via (by repeat (first | exact K | apply Kn.push | apply Kn.drew)) (haw _ (by have B:=K.below;go_grown)) ?_;clear K;(try clear hO);intro wN K hO;simp only [Opened,World.size_alloc,World.size_drew,World.size_setCell]at hO)
  all_goals ((refine bodyPost_ret (by simp [results,Tryz.results4,go_sem,hO];try rfl) rfl ⟨?_,by have B:=K.below;go_grown⟩))
  all_goals (try rfl)
 obtain⟨hez,A⟩:=hpa hne hln;clear hpah hpa;have hne':tx.isEmpty=false:=by cases tx with | nil=>exact absurd rfl hne | cons c l=>rfl
 have hln':¬ ((2000:Int) < (tx.length:Int)):=by omega
 have hln2:(tx.length:Int)≤2000:=by omega
 have hO:=Kn.opened_of K.all;simp only [Opened,World.size_alloc,World.size_drew,World.size_setCell]at hO
 go_upto_region 8 with fail
 go_cut [4,5,6] (fun s4 s5 s6 wx=>∃ (b4:Nat) (R:Rl) (xa:Option Addr) (xl xc:Nat),s4=.pointer (some ⟨b4,0,none⟩)∧s5=.int .i64 0∧s6=.int .i64 0∧R.v=.slice xa xl xc∧erR R=erR r∧RlAt wx R∧RlAt wx r∧Kn w wx [(b4,#[.int .i64 R.op,.int .i64 R.ask,.string ⟨R.nm.toArray⟩,.int .i64 R.wi,.int .i64 R.cm,.int .i64 R.n,.slice xa xl xc],30),(w.heap.size,#[.int .i64 r.op,.int .i64 r.ask,.string ⟨r.nm.toArray⟩,.int .i64 r.wi,.int .i64 r.cm,.int .i64 r.n,.slice sa sl sc],30)])
 case first =>
  have hath:=Hd.mk hat
  clear hat haw
  go_wp2_with (go_at_call 26;refine via2 (by repeat (first | exact K | apply Kn.push | apply Kn.skip | apply Kn.drew)) (A _ (by have B:=K.below;go_grown)) ?_;have hs0:=K.below.size;clear K hO;rintro _ wN ⟨R,xa,xl,xc,rfl,hv,hR,he⟩ K hO;simp only [Opened,World.size_alloc,World.size_drew,World.size_setCell]at hO)
  go_meet
  have hge:=K.below.size;refine⟨_,R,xa,xl,xc,rfl,rfl,rfl,hv,he, ?_, ?_, ?_⟩
  ·refine Rw.at_ (hR.next ?_ (fun k h1 h2 => ?_))
   ·simp only [World.size_alloc,World.size_setCell];omega
   ·simp only [heap_alloc,zya,World.size_alloc,World.size_setCell]
    repeat rw [if_neg (by omega)]
  ·exact hath.out.below (by have B:=K.below;go_grown)
  ·exact (Kn.of (w0:=w) (by have B:=K.below;go_grown) (by simp only [Held,heap_alloc,zya,zna,World.size_alloc,World.size_drew,World.size_setCell,IntWalk.iteOmega,Wk.setObj,hO,Option.map_some,↓reduceIte,if_true,if_false,List.setIfInBounds_toArray,List.set_cons_zero,List.set_cons_succ,and_self,and_true] <;> (try trivial)))
 case rest =>
 obtain⟨b4,R,xa,xl,xc,rfl,rfl,rfl,hv,he,hat1,hat2,K⟩:=hcut;clear A
 have hSM:Calls Tryz.prog 27 #[.agg #[.int .i64 R.op,.int .i64 R.ask,.string ⟨R.nm.toArray⟩,.int .i64 R.wi,.int .i64 R.cm,.int .i64 R.n,.slice xa xl xc],.agg #[.int .i64 r.op,.int .i64 r.ask,.string ⟨r.nm.toArray⟩,.int .i64 r.wi,.int .i64 r.cm,.int .i64 r.n,.slice sa sl sc]] wc (Vc.Ret (.bool true) wc):=by
  have h:=zkfa _ (Nat.le_refl _) hat1 hat2 (zwaa R (by rw [he];exact hez)) he;unfold RV7 at h;rw [hv,hs]at h;exact h
 have hSMh:=Hd.mk hSM;have hawh:=Hd.mk haw;clear hSM hat hat1 hat2 haw hsz hez;have hO:=Kn.opened_of K.all;simp only [Opened,World.size_alloc,World.size_drew,World.size_setCell]at hO
 go_wp2_with (first | (go_at_call 27;refine via (by repeat (first | exact K | apply Kn.push | apply Kn.drew)) (hSMh.out) ?_;clear K;(try clear hO);intro wN K hO;simp only [Opened,World.size_alloc,World.size_drew,World.size_setCell]at hO) | (go_at_call 16;refine via (by repeat (first | exact K | apply Kn.push | apply Kn.drew)) (hawh.out _ (by have B:=K.below;go_grown)) ?_;clear K;(try clear hO);intro wN K hO;simp only [Opened,World.size_alloc,World.size_drew,World.size_setCell]at hO))
 (refine bodyPost_ret (by simp [results,Tryz.results4,go_sem,hO];try rfl) rfl ⟨?_,by have B:=K.below;go_grown⟩)
 try rfl
end Go.Proofs.YtdjgnbkclcjiiaaGreatDoor
end
