import Derived.Test.YtdjgnbkclcjiiaaGreatDoorPj
import Derived.Test.YtdjgnbkclcjiiaaGreatDoorPd
import Derived.Test.YtdjgnbkclcjiiaaGreatDoorG0
import Derived.Defers
import Derived.Recover
section
set_option linter.unusedVariables false
set_option linter.unusedSimpArgs false
set_option maxRecDepth 100000
namespace Go.Proofs.YtdjgnbkclcjiiaaGreatDoor
open Go Go.RowKit Go.Proofs Wk
open Vc (SlAt OV iteI Vl zwa ze)
attribute [local irreducible] Go.Calls
theorem RcP.imp{s:List UInt8}{w:World}{P Q:Sx→Rl→Prop}{e:Ending}{w':World}(h:RcP s w P e w')(hPQ:∀ q R,P q R→Q q R):RcP s w Q e w':=by
 obtain⟨⟨q,R,xa,xl,xc,h1,h2,h3,h4⟩,hB⟩:=h;exact⟨⟨q,R,xa,xl,xc,h1,h2,h3,hPQ _ _ h4⟩,hB⟩
mutual
theorem zwaa:∀ (r:Rl),RlSz (erR r)→RlSz r
  | .mk op ask nm wi cm n v ks=>fun h=>by
    simp only [erR,RlSz]at h;simp only [RlSz];exact⟨h.1,by have:=h.2.1;rw [zek]at this;exact this,zxaa ks h.2.2⟩
theorem zxaa:∀ (l:List Rl),RlSzL (erL l)→RlSzL l
  | []=>fun _=>trivial
  | r::l=>fun h=>by
    simp only [erL,RlSzL]at h;exact⟨zwaa r h.1,zxaa l h.2⟩
theorem zek:∀ (l:List Rl),(erL l).length=l.length
 | []=>rfl
 | r::l=>by simp only [erL,List.length_cons,zek l]
end
theorem zkj{nm:List UInt8}(h:nameB nm=true):nm.length≤32:=by
 simp only [nameB,Bool.and_eq_true,decide_eq_true_eq]at h;exact h.1.1.1.1.2
end Go.Proofs.YtdjgnbkclcjiiaaGreatDoor
end
section
set_option linter.unusedVariables false
set_option linter.unusedSimpArgs false
set_option maxRecDepth 100000
namespace Wk
open Go Go.RowKit
theorem via3{P:Program}{f:FuncId}{args:Array Value}{w0 W:World}{R:Ending→World→Prop}{Q:Ending→World→Prop}{L:List (Nat × Array Value × TypeId)}(hL:Kn w0 W L)
  (h:Calls P f args W fun e w1=>R e w1∧Below W.heap.size W w1) (k:∀ e w1,R e w1→Below W.heap.size W w1→Kn w0 w1 L→Opened w1 L→Q e w1):Calls P f args W Q :=
 h.mono fun e w1 ⟨he,hb⟩=>k e w1 he hb (hL.next hb) (Kn.opened_of (hL.next hb).all)
end Wk
namespace Go.Proofs.YtdjgnbkclcjiiaaGreatDoor
open Go Go.RowKit Go.Proofs Wk
open Vc (SlAt OV iteI Vl zwa ze)
attribute [local irreducible] Go.Calls
attribute [local irreducible] wpQuiet
def RuQ(r:Rl)(w:World)(e:Ending)(w':World):Prop:=∃ R xa xl xc,e=.returned (.agg #[.int .i64 R.op,.int .i64 R.ask,.string ⟨R.nm.toArray⟩,.int .i64 R.wi,.int .i64 R.cm,.int .i64 R.n,.slice xa xl xc])∧R.v=.slice xa xl xc∧Rw (fun k=>w.heap.size≤k) w' R∧erR R=r
def Im (r : Rl) (x : Value) : Prop := ∃ T pl f, x = .iface T pl ∧ (∀ w' : World, Sem.run Tryz.prog (method 398 T pl "ullage/countdown.rule") w' = .ok (f, pl) w') ∧ (∀ w' : World, Sem.run Tryz.prog (callFunc f #[pl]) w' = .ok (.enter f #[pl]) w') ∧ ∀ w', Calls Tryz.prog f #[pl] w' fun e w1 => RuQ r w' e w1 ∧ Below w'.heap.size w' w1
theorem zhca{ask wi cm n:Int}{nm:List UInt8}:Im (.mk 1 ask nm wi cm n nilV []) (.iface 183 (.agg #[.int .i64 1,.int .i64 ask,.string ⟨nm.toArray⟩,.int .i64 wi,.int .i64 cm,.int .i64 n,.slice none 0 0])):=by
 refine⟨_,_,214,rfl,fun w'=>by rfl,fun w'=>by simp [go_sem],fun w => ?_⟩;have K:=Kn.start w
 go_enter Tryz.func214,Tryz.ntmps214
 go_wp2
 refine bodyPost_ret (by simp [results,Tryz.results214,go_sem];try rfl) rfl ⟨?_,by have B:=K.below;go_grown⟩;exact⟨.mk 1 ask nm wi cm n nilV [],_,_,_,rfl,rfl,fun w'' _=>⟨.inl ⟨rfl,rfl⟩,trivial⟩,rfl⟩
set_option maxHeartbeats 1000000 in
theorem zqda{a:Rl}{x:Value}(h:Im a x):Im (nR a) (.iface 176 (.agg #[x])):=by
 obtain⟨T,pl,f,rfl,hM,hC,hA'⟩:=h;have hA:=Hd.mk hA';clear hA';refine⟨_,_,211,rfl,fun w'=>by rfl,fun w'=>by simp [go_sem],fun w => ?_⟩
 suffices hq:∀ Q:Ending→World→Prop,Hd (∀ e w1,(RuQ (nR a) w e w1∧Below w.heap.size w w1)→Q e w1)→Calls Tryz.prog 211 #[.agg #[.iface T pl]] w Q from hq _ ⟨fun _ _ h=>h⟩
 intro Q hQ;have K:=Kn.start w
 go_enter Tryz.func211,Tryz.ntmps211
 go_wp2_with fail
 refine via3 (by repeat (first | exact K | apply Kn.push | apply Kn.skip | apply Kn.drew)) (hA.out _) ?_;clear K;rintro _ wN ⟨R,xa,xl,xc,rfl,hv,hR,he⟩ hB K hO;simp only [World.size_alloc,World.size_drew,World.size_setCell]at hR;simp only [Opened,World.size_alloc,World.size_drew,World.size_setCell]at hO;have hz:=hB.size;simp only [World.size_alloc,World.size_drew,World.size_setCell]at hz;have hRh:=Hd.mk hR;clear hR hA hM hC hB;dsimp only
 repeat go_step
 refine bodyPost_ret (by simp [results,Tryz.results211,go_sem,hO];try rfl) rfl (hQ.out _ _ ⟨?_,by have B:=K.below;go_grown⟩);refine⟨.mk 2 0 [] 0 0 0 (.slice (some ⟨wN.heap.size,0,none⟩) 1 1) [R],_,_,_,rfl,rfl, ?_,by simp only [erR,erL,nR,he]⟩;refine Rw.one ((hRh.out.next ?_ (fun k h1 h2 => ?_)).mono (fun k _ h => ?_)) ?_ ?_
 ·simp only [World.size_alloc,World.size_setCell,World.size_drew];omega
 ·have h1':_≤k:=h1;simp only [heap_alloc,zya,zna,World.size_alloc,World.size_setCell,World.size_drew];repeat rw [if_neg (by omega)]
 ·have h':_≤k:=h;omega
 ·omega
 ·rw [zix hv];simp only [heap_alloc,zya,zna,World.size_alloc,World.size_setCell,World.size_drew,IntWalk.iteOmega,↓reduceIte,if_true,if_false]
set_option maxHeartbeats 2000000 in
theorem zrda{a b:Rl}{x y:Value}(h:Im a x)(h2:Im b y):Im (.mk 3 0 [] 0 0 0 nilV [a,b]) (.iface 180 (.agg #[x,y])):=by
 obtain⟨T,pl,f,rfl,hM,hC,hA'⟩:=h;have hA:=Hd.mk hA';clear hA';obtain⟨T2,pl2,f2,rfl,hM2,hC2,hA2'⟩:=h2;have hA2:=Hd.mk hA2';clear hA2';refine⟨_,_,212,rfl,fun w'=>by rfl,fun w'=>by simp [go_sem],fun w => ?_⟩
 suffices hq:∀ Q:Ending→World→Prop,Hd (∀ e w1,(RuQ (.mk 3 0 [] 0 0 0 nilV [a,b]) w e w1∧Below w.heap.size w w1)→Q e w1)→Calls Tryz.prog 212 #[.agg #[.iface T pl,.iface T2 pl2]] w Q from hq _ ⟨fun _ _ h=>h⟩
 intro Q hQ;have K:=Kn.start w
 go_enter Tryz.func212,Tryz.ntmps212
 go_upto_region 1 with fail
 have hO:=Kn.opened_of K.all;simp only [Opened,World.size_alloc,World.size_drew,World.size_setCell]at hO
 go_region_held3 (fun w'=>w'.cell? ⟨w.heap.size,0,none⟩=some (.iface T pl)∧w'.cell? ⟨w.heap.size,1,none⟩=some (.iface T2 pl2)) (simp [go_sem, *]) (first
  | ((with_reducible show Calls _ _ _ _ _);refine via3 (by repeat (first | exact K | apply Kn.push | apply Kn.skip | apply Kn.drew)) (hA.out _) ?_;clear K hO;rintro _ wN ⟨R,xa,xl,xc,rfl,hv,hR,he⟩ hB K hO;(try simp only [World.size_alloc,World.size_drew,World.size_setCell]at hR);simp only [Opened,World.size_alloc,World.size_drew,World.size_setCell]at hO;have hz:=hB.size;(try simp only [World.size_alloc,World.size_drew,World.size_setCell]at hz);have hRh:=Hd.mk hR;clear hR hB)
  | ((with_reducible show Calls _ _ _ _ _);refine via3 (by repeat (first | exact K | apply Kn.push | apply Kn.skip | apply Kn.drew)) (hA2.out _) ?_;clear K hO;rintro _ wM ⟨R2,ya,yl,yc,rfl,hv2,hR2,he2⟩ hB2 K hO;(try simp only [World.size_alloc,World.size_drew,World.size_setCell]at hR2);simp only [Opened,World.size_alloc,World.size_drew,World.size_setCell]at hO;have hRh2:=Hd.mk hR2;have hB2h:=Hd.mk hB2;clear hR2 hB2))
 all_goals (repeat go_step)
 all_goals refine bodyPost_ret (by simp [results,Tryz.results212,go_sem,hO];try rfl) rfl (hQ.out _ _ ⟨?_,by have B:=K.below;go_grown⟩)
 all_goals have hRn:=hRh.out.next hB2h.out.size (fun k _ hk=>hB2h.out.block k hk)
 all_goals have hz2:=hB2h.out.size
 all_goals refine⟨.mk 3 0 [] 0 0 0 (.slice (some ⟨wM.heap.size,0,none⟩) 2 2) [R,R2],_,_,_,rfl,rfl, ?_,by simp only [erR,erL,he,he2]⟩
 all_goals refine Rw.two ((hRn.next ?_ (fun k h1 h2 => ?_)).mono (fun k _ h => ?_)) ((hRh2.out.next ?_ (fun k h1 h2 => ?_)).mono (fun k _ h => ?_)) ?_ ?_
 all_goals first
  | omega
  | (have h':_≤k:=h;omega)
  | (simp only [World.size_alloc,World.size_setCell,World.size_drew];omega)
  | (rw [zjx hv hv2];simp only [heap_alloc,zya,zna,World.size_alloc,World.size_setCell,World.size_drew,IntWalk.iteOmega,↓reduceIte,if_true,if_false];done)
  | (have h1':_≤k:=h1;simp only [heap_alloc,zya,zna,World.size_alloc,World.size_setCell,World.size_drew];repeat rw [if_neg (by omega)])
set_option maxHeartbeats 2000000 in
theorem zffa{a b:Rl}{x y:Value}(h:Im a x)(h2:Im b y):Im (.mk 4 0 [] 0 0 0 nilV [a,b]) (.iface 181 (.agg #[x,y])):=by
 obtain⟨T,pl,f,rfl,hM,hC,hA'⟩:=h;have hA:=Hd.mk hA';clear hA';obtain⟨T2,pl2,f2,rfl,hM2,hC2,hA2'⟩:=h2;have hA2:=Hd.mk hA2';clear hA2';refine⟨_,_,213,rfl,fun w'=>by rfl,fun w'=>by simp [go_sem],fun w => ?_⟩
 suffices hq:∀ Q:Ending→World→Prop,Hd (∀ e w1,(RuQ (.mk 4 0 [] 0 0 0 nilV [a,b]) w e w1∧Below w.heap.size w w1)→Q e w1)→Calls Tryz.prog 213 #[.agg #[.iface T pl,.iface T2 pl2]] w Q from hq _ ⟨fun _ _ h=>h⟩
 intro Q hQ;have K:=Kn.start w
 go_enter Tryz.func213,Tryz.ntmps213
 go_upto_region 1 with fail
 have hO:=Kn.opened_of K.all;simp only [Opened,World.size_alloc,World.size_drew,World.size_setCell]at hO
 go_region_held3 (fun w'=>w'.cell? ⟨w.heap.size,0,none⟩=some (.iface T pl)∧w'.cell? ⟨w.heap.size,1,none⟩=some (.iface T2 pl2)) (simp [go_sem, *]) (first
  | ((with_reducible show Calls _ _ _ _ _);refine via3 (by repeat (first | exact K | apply Kn.push | apply Kn.skip | apply Kn.drew)) (hA.out _) ?_;clear K hO;rintro _ wN ⟨R,xa,xl,xc,rfl,hv,hR,he⟩ hB K hO;(try simp only [World.size_alloc,World.size_drew,World.size_setCell]at hR);simp only [Opened,World.size_alloc,World.size_drew,World.size_setCell]at hO;have hz:=hB.size;(try simp only [World.size_alloc,World.size_drew,World.size_setCell]at hz);have hRh:=Hd.mk hR;clear hR hB)
  | ((with_reducible show Calls _ _ _ _ _);refine via3 (by repeat (first | exact K | apply Kn.push | apply Kn.skip | apply Kn.drew)) (hA2.out _) ?_;clear K hO;rintro _ wM ⟨R2,ya,yl,yc,rfl,hv2,hR2,he2⟩ hB2 K hO;(try simp only [World.size_alloc,World.size_drew,World.size_setCell]at hR2);simp only [Opened,World.size_alloc,World.size_drew,World.size_setCell]at hO;have hRh2:=Hd.mk hR2;have hB2h:=Hd.mk hB2;clear hR2 hB2))
 all_goals (repeat go_step)
 all_goals refine bodyPost_ret (by simp [results,Tryz.results213,go_sem,hO];try rfl) rfl (hQ.out _ _ ⟨?_,by have B:=K.below;go_grown⟩)
 all_goals have hRn:=hRh.out.next hB2h.out.size (fun k _ hk=>hB2h.out.block k hk)
 all_goals have hz2:=hB2h.out.size
 all_goals refine⟨.mk 4 0 [] 0 0 0 (.slice (some ⟨wM.heap.size,0,none⟩) 2 2) [R,R2],_,_,_,rfl,rfl, ?_,by simp only [erR,erL,he,he2]⟩
 all_goals refine Rw.two ((hRn.next ?_ (fun k h1 h2 => ?_)).mono (fun k _ h => ?_)) ((hRh2.out.next ?_ (fun k h1 h2 => ?_)).mono (fun k _ h => ?_)) ?_ ?_
 all_goals first
  | omega
  | (have h':_≤k:=h;omega)
  | (simp only [World.size_alloc,World.size_setCell,World.size_drew];omega)
  | (rw [zjx hv hv2];simp only [heap_alloc,zya,zna,World.size_alloc,World.size_setCell,World.size_drew,IntWalk.iteOmega,↓reduceIte,if_true,if_false];done)
  | (have h1':_≤k:=h1;simp only [heap_alloc,zya,zna,World.size_alloc,World.size_setCell,World.size_drew];repeat rw [if_neg (by omega)])
theorem zsda:∀ (m:Nat) (r:Rl),nodesR r≤m→rightR r=true→erR r=r→Im r (FM r):=by
  intro m
  induction m with
  | zero=>intro r hm;have:=zcb r;omega
  | succ m ih =>
    intro r hm hr he;obtain⟨op,ask,nm,wi,cm,n,v,ks⟩:=r;rw [nodesR]at hm;rw [erR]at he;have hv:nilV=v:=by injection he
    have hks:erL ks=ks:=by injection he
    subst hv;rw [rightR]at hr;unfold FM fmV;by_cases hop:op=1
    · subst hop;rw [if_pos rfl]at hr ⊢;have h0:ks=[]:=List.eq_nil_of_length_eq_zero (zhb.1 hr).2.2.2.2.2.2;subst h0;exact zhca
    · rw [if_neg hop]at hr ⊢;simp only [Bool.and_eq_true]at hr;obtain⟨⟨hb,hk⟩,hl⟩:=hr;obtain⟨rfl,rfl,rfl,rfl,rfl⟩:=zif.1 hb;simp only [kidsB,Bool.or_eq_true,Bool.and_eq_true,decide_eq_true_eq]at hk;rcases hk with ⟨rfl,hk⟩ | ⟨ho,hk⟩
      · obtain⟨a,rfl⟩:∃ a,ks=[a]:=by
          match ks,hk with
          | [a],_=>exact⟨a,rfl⟩
        simp only [rightL,Bool.and_true]at hl;simp only [nodesL]at hm;simp only [erL,List.cons.injEq,and_true]at hks
        have:=zqda (ih a (by omega) hl hks)
        exact this
      · obtain⟨a,b,rfl⟩:∃ a b,ks=[a,b]:=by
          match ks,hk with
          | [a,b],_=>exact⟨a,b,rfl⟩
        simp only [rightL,Bool.and_true,Bool.and_eq_true]at hl;simp only [nodesL]at hm;simp only [erL,List.cons.injEq,and_true]at hks;have h1:=ih a (by omega) hl.1 hks.1;have h2:=ih b (by omega) hl.2 hks.2;rcases ho with rfl | rfl
        · exact zrda h1 h2
        · exact zffa h1 h2
end Go.Proofs.YtdjgnbkclcjiiaaGreatDoor
end
section
set_option linter.unusedVariables false
set_option maxRecDepth 100000
namespace Go.Proofs.YtdjgnbkclcjiiaaGreatDoor
open Go Go.RowKit
theorem zgb(s0:List UInt8)(w:World)(Q:Value→Prop)(QM:World→Value→Prop)(h :
 ∀ x0:Int,x0=((s0.length:Nat):Int) →
 ((2000 < x0)→(
 Q (.tuple #[.agg #[.int .i64 0,.int .i64 0,.string ⟨(([]:List UInt8)).toArray⟩,.int .i64 0,.int .i64 0,.int .i64 0,.slice none 0 0],.int .i64 0,.int .i64 3])))∧(¬ (2000 < x0)→(
 ∃ (x1:Int),∃ (x2:Int),∃ (s1:List UInt8),∃ (b0:Bool),∃ (b1:Bool),(Vq w 60 #[.string ⟨s0.toArray⟩,.int .i64 0] (.agg #[.int .i64 x1,.int .i64 x2,.string ⟨s1.toArray⟩,.bool b0,.bool b1])) ∧
 ((
 ∃ (v0:Vc.OV),∃ (x3:Int),∃ (x4:Int),∃ (s2:List UInt8),∃ (b2:Bool),∃ (b3:Bool),(∀ (β:Nat→Nat) (w':World),Below w.heap.size w w'→((w.heap.size≤β 3∧w'.heap[β 3]? = some (.cells #[.string ⟨s0.toArray⟩,.int .i64 x1,.int .i64 x2,.string ⟨s1.toArray⟩,.bool b0,.bool b1] 114))∧True)→Calls Tryz.prog 61 #[Vc.ptr (β 3) 0] w' (Vc.Eff (v0.1) (β 3) #[.string ⟨s0.toArray⟩,.int .i64 x3,.int .i64 x4,.string ⟨s2.toArray⟩,.bool b2,.bool b3] 114 w')) ∧
 ((b3=true)→(
 ∀ v1:Vc.OV,v1.1=Value.iface 108 (.agg #[.int .i64 x3,.int .i64 5]) →
 Q (.tuple #[.agg #[.int .i64 0,.int .i64 0,.string ⟨(([]:List UInt8)).toArray⟩,.int .i64 0,.int .i64 0,.int .i64 0,.slice none 0 0],.int .i64 x3,.int .i64 5])))∧(¬ (b3=true)→(
 ((s2=([]:List UInt8))→(
 False ))∧(¬ (s2=([]:List UInt8))→(
 ∀ v1:Vc.OV,v1.1=Value.iface 108 (.agg #[.int .i64 x3,.int .i64 5]) →
 Q (.tuple #[.agg #[.int .i64 0,.int .i64 0,.string ⟨(([]:List UInt8)).toArray⟩,.int .i64 0,.int .i64 0,.int .i64 0,.slice none 0 0],.int .i64 x3,.int .i64 5]))))))∨(
 ∃ (x3:Int),∃ (x4:Int),(∀ (β:Nat→Nat) (w':World),Below w.heap.size w w'→((w.heap.size≤β 3∧w'.heap[β 3]? = some (.cells #[.string ⟨s0.toArray⟩,.int .i64 x1,.int .i64 x2,.string ⟨s1.toArray⟩,.bool b0,.bool b1] 114))∧True)→Calls Tryz.prog 61 #[Vc.ptr (β 3) 0] w' (Vc.PanL (Value.iface 108 (.agg #[.int .i64 x3,.int .i64 x4])) [β 3] w'))∧∀ v0:Vc.OV,v0.1=Value.iface 108 (.agg #[.int .i64 x3,.int .i64 x4]) →
 Q (.tuple #[.agg #[.int .i64 0,.int .i64 0,.string ⟨(([]:List UInt8)).toArray⟩,.int .i64 0,.int .i64 0,.int .i64 0,.slice none 0 0],.int .i64 x3,.int .i64 x4])))))):Calls Tryz.prog 26 #[.string ⟨s0.toArray⟩] w (fun e w'=>∃ v,e=.returned v∧Below w.heap.size w w'∧(Q v∨QM w' v)) :=
 Vc.zxba (zz [59,62] (by kernel_rfl)) [(3000061,.inv [(0,1),(0,2),(0,3),(0,4),(0,5)] [0] []),(800000000000000061,.inv [] [108,0] [])] [] 200 Tryz.func26 (b:=(Tryz.f26.body).getD .skip) (by kernel_rfl) [.cv (.one (.sv 0))] ⟨0,0,0,0,0,1,0⟩ [] (Vc.envOf [] [] [] [] [s0]) (by kernel_rfl) Vc.zg (by kernel_rfl) (by kernel_rfl) h
theorem zjf(p0:Nat × Nat)(x0 x1 x2 x3 x4 x5 x6:Int)(b0:Bool)(s0:List UInt8)(w:World)(v:Value)(h :
 ∃ (v0:Vc.OV),∃ (b1:Bool),(Vq w 49 #[.agg #[.int .i64 x0,.int .i64 x1,.string ⟨s0.toArray⟩,.int .i64 x2,.int .i64 x3,.int .i64 x4,(if b0=true then .slice none 0 0 else .slice (some (Vc.qad p0 (Int.toNat x5) (Int.toNat x6))) (Int.toNat x5) (Int.toNat x6):Value)]] (.tuple #[v0.1,.bool b1])) ∧
 (.bool b1:Value)=v):Calls Tryz.prog 23 #[.agg #[.int .i64 x0,.int .i64 x1,.string ⟨s0.toArray⟩,.int .i64 x2,.int .i64 x3,.int .i64 x4,(if b0=true then .slice none 0 0 else .slice (some (Vc.qad p0 (Int.toNat x5) (Int.toNat x6))) (Int.toNat x5) (Int.toNat x6):Value)]] w (Vc.Ret v w) :=
 Vc.zi base [] [] 200 Tryz.func23 (b:=(Tryz.f23.body).getD .skip) (by kernel_rfl) [.cv (.agg [.int .i64 (.var 0),.int .i64 (.var 1),.sv 0,.int .i64 (.var 2),.int .i64 (.var 3),.int .i64 (.var 4),.qsl 0 0 7 (.var 5) (.var 6)])] ⟨7,1,0,1,0,1,0⟩ [] (Vc.envOf [x0,x1,x2,x3,x4,x5,x6] [b0] [] [p0] [s0]) (by kernel_rfl) Vc.zg (by kernel_rfl) (by kernel_rfl) h
end Go.Proofs.YtdjgnbkclcjiiaaGreatDoor
end
section
set_option linter.unusedVariables false
set_option linter.unusedSimpArgs false
set_option maxRecDepth 100000
namespace Wk
open Go Go.RowKit
theorem viaE{P:Program}{f:FuncId}{args:Array Value}{w0 W:World}{v:Value}{xl:Nat}{C C':Array Value}{T:TypeId}{Q:Ending→World→Prop}{L:List (Nat × Array Value × TypeId)}(hL:Kn w0 W ((xl,C,T)::L))(hx:w0.heap.size≤xl)(hne:∀ p∈L,p.1≠xl)
  (h:Calls P f args W (Vc.Eff v xl C' T W)) (k:∀ w1,Kn w0 w1 ((xl,C',T)::L)→Opened w1 ((xl,C',T)::L)→Q (.returned v) w1):Calls P f args W Q :=
 h.mono fun e w1 ⟨he,hb,hc⟩=>by
  subst he
  have K:Kn w0 w1 ((xl,C',T)::L):=⟨⟨hb.os.trans hL.below.os,hb.tape.trans hL.below.tape,hb.output.trans hL.below.output,Nat.le_trans hL.below.size hb.size,fun k hk=>by
   rw [hb.block k (Nat.lt_of_lt_of_le hk hL.below.size) (by omega)];exact hL.below.block k hk⟩,fun p hp=>by
   rcases List.mem_cons.1 hp with rfl | hp
   ·exact hc
   ·have h1:=hL.all p (List.mem_cons_of_mem _ hp);rw [hb.block _ (heap_lt h1) (hne p hp)];exact h1⟩
  exact k w1 K (Kn.opened_of K.all)
theorem zgfa{w0 w:World}{L:List (Nat × Array Value × TypeId)}(h:Kn w0 w L):∀ p∈L,p.1 < w.heap.size:=fun p hp=>heap_lt (h.all p hp)
end Wk
namespace Go.Proofs.YtdjgnbkclcjiiaaGreatDoor
open Go Go.RowKit Go.Proofs Wk
open Vc (SlAt OV iteI Vl zwa ze)
attribute [local irreducible] Go.Calls
theorem vgk2{w w':World}{g:Nat}{cs:Array Value}(hb:Below w.heap.size w w')(h:∃ ty mk,w.heap[g]? = some (.cells cs ty mk)):∃ ty mk,w'.heap[g]? = some (.cells cs ty mk):=by
 obtain⟨ty,mk,hg⟩:=h;exact⟨ty,mk,by rw [hb.block _ (Array.getElem?_eq_some_iff.1 hg).1];exact hg⟩
theorem zbo(p q r:Addr)(w:World):CallsD Tryz.prog 59 #[.pointer (some p),.pointer (some q),.pointer (some r)] .returning w fun e u' w'=>e=.returned (.tuple #[])∧u'=.returning∧w'=w:=by
 refine callsD_of_wpS Tryz.func59 rfl fun c₀ cs hu => ?_;simp only [Tryz.ntmps59,List.size_toArray,List.length_cons,List.length_nil,Nat.reduceAdd,Nat.reduceSub,Array.replicate_succ,Array.replicate_zero,List.push_toArray,List.append_toArray,List.nil_append,List.cons_append];apply wpS_seq;apply wpS_region;simp [wpOpsS,go_sem,recoverD,hu,Exit.thenS];refine wpS_of_wp ?_
 repeat go_step
 cases c₀;simp_all [bodyPostS,results,Tryz.results59]
mutual
theorem zgu:∀ r:Rl,nodesR (erR r)=nodesR r
 | .mk op ask nm wi cm n v ks=>by simp only [erR,nodesR,zir ks]
theorem zir:∀ l:List Rl,nodesL (erL l)=nodesL l
 | []=>rfl
 | r::l=>by simp only [erL,nodesL,zgu r,zir l]
end
mutual
theorem zhu:∀ r:Rl,depthR (erR r)=depthR r
 | .mk op ask nm wi cm n v ks=>by simp only [erR,depthR,zjr ks]
theorem zjr:∀ l:List Rl,depthL (erL l)=depthL l
 | []=>rfl
 | r::l=>by simp only [erL,depthL,zhu r,zjr l]
end
mutual
theorem ziu:∀ r:Rl,rightR (erR r)=rightR r
  | .mk op ask nm wi cm n v ks=>by
    have ha:atomB (.mk op ask nm wi cm n nilV (erL ks))=atomB (.mk op ask nm wi cm n v ks):=by simp only [atomB,Rl.ask,Rl.nm,Rl.wi,Rl.cm,Rl.n,Rl.ks,zek];rfl
    have hb:bareB (.mk op ask nm wi cm n nilV (erL ks))=bareB (.mk op ask nm wi cm n v ks):=rfl;simp only [erR,rightR,zek,zkr ks,ha,hb]
theorem zkr:∀ l:List Rl,rightL (erL l)=rightL l
 | []=>rfl
 | r::l=>by simp only [erL,rightL,ziu r,zkr l]
end
theorem zju(r:Rl):validR (erR r)=validR r:=by unfold validR;rw [zgu,zhu,ziu]
theorem zyaa{w:World}{r:Rl}(hV:Vg_0 w)(h:RlAt w r):Calls Tryz.prog 23 #[RV7 r] w (Vc.Ret (.bool (validR r)) w):=by
 have h':=h;have hks:=zm h;obtain⟨b0,p0,c0,e0,f0,g0⟩:=zk hks.1;have hno:=zbe f0;have E:RV7 r=.agg #[.int .i64 r.op,.int .i64 r.ask,.string ⟨r.nm.toArray⟩,.int .i64 r.wi,.int .i64 r.cm,.int .i64 r.n,(if b0=true then .slice none 0 0 else .slice (some (Vc.qad p0 (Int.toNat ((r.ks.length:Nat):Int)) (Int.toNat c0))) (Int.toNat ((r.ks.length:Nat):Int)) (Int.toNat c0):Value)]:=by unfold RV7;rw [e0]
 rw [E];exact zjf p0 r.op r.ask r.wi r.cm r.n (r.ks.length:Nat) c0 b0 r.nm w _ ⟨⟨(MK 0 1 r).2.1,zyo _ _ _ _ r 0 1⟩,validR r,fun w' hb=>by rw [← E];exact zbu (vgk2 hb hV) (h'.below hb),rfl⟩
def PrP(z:Rl × Nat × Int)(w:World)(e:Ending)(w':World):Prop:=(∃ R xa xl xc,e=.returned (.tuple #[.agg #[.int .i64 R.op,.int .i64 R.ask,.string ⟨R.nm.toArray⟩,.int .i64 R.wi,.int .i64 R.cm,.int .i64 R.n,.slice xa xl xc],.int .i64 (z.2.1:Nat),.int .i64 z.2.2])∧R.v=.slice xa xl xc∧Rw (fun k=>w.heap.size≤k) w' R∧erR R=z.1)∧Below w.heap.size w w'
set_option maxHeartbeats 800000 in
theorem zkx{w:World}{s:List UInt8}{r:Rl}{k:Nat}{Q:Ending→World→Prop}(hlen:s.length≤2000)(v0:Vg_0 w)(v1:Vg_1 w)(v2:Vg_2 w)
  (hr:pOr s (4 * s.length + 3) 0=.ok r k) (hb:(tokS s k).bad=false) (hx:(tokS s k).x=[]) (hIm:Im r (FM r)) (hQ:Hd (∀ e w',PrP (if validR r=true then (r,0,0)else (zR,s.length,3)) w e w'→Q e w')) :
  Calls Tryz.prog 26 #[.string ⟨s.toArray⟩] w Q:=by
 have K:=Kn.start w
 have hszs:3≤w.heap.size:=by
  obtain⟨_,_,h2⟩:=v2;exact (Array.getElem?_eq_some_iff.1 h2).1
 have S0:∀ w',Below w.heap.size w w'→Calls Tryz.prog 60 #[.string ⟨s.toArray⟩,.int .i64 0] w' (Vc.Ret (.agg #[.int .i64 ((tokS s 0).a:Nat),.int .i64 ((tokS s 0).t:Nat),.string ⟨(tokS s 0).x.toArray⟩,.bool (tokS s 0).num,.bool (tokS s 0).bad]) w'):=fun w' hb=>zaca (i:=0) (vgk2 hb v2) (by omega) (Nat.zero_le _)
 have O0:∀ w' b,Below w.heap.size w w'→w.heap.size≤b→w'.heap[b]? = some (.cells #[.string ⟨s.toArray⟩,.int .i64 ((tokS s 0).a:Nat),.int .i64 ((tokS s 0).t:Nat),.string ⟨(tokS s 0).x.toArray⟩,.bool (tokS s 0).num,.bool (tokS s 0).bad] PT)→Calls Tryz.prog 61 #[.pointer (some ⟨b,0,none⟩)] w' (Vc.Eff (FM r) b #[.string ⟨s.toArray⟩,.int .i64 ((tokS s k).a:Nat),.int .i64 ((tokS s k).t:Nat),.string ⟨(tokS s k).x.toArray⟩,.bool (tokS s k).num,.bool (tokS s k).bad] PT w'):=fun w' b hb hbb hc=>by
  have h:=(zhr s _ _ (Nat.le_refl (4 * s.length + 3))).2.2 (show PC s 0 b w' from⟨⟨vgk2 hb v0,vgk2 hb v1,vgk2 hb v2,by omega,by omega,by omega⟩,by omega,Nat.zero_le _,hc⟩);exact h.ok hr
 obtain⟨T,pl,f,hFM,hM,hC,hA'⟩:=hIm;have hA:=Hd.mk hA';clear hA';rw [hFM,hb,hx]at O0
 go_enter_defers Tryz.func26,Tryz.ntmps26
 go_wp2_with (go_at_call 60;refine via (by repeat (first | exact K | apply Kn.push | apply Kn.drew)) (S0 _ (by have B:=K.below;go_grown)) ?_;clear K;(try clear hO);intro wN K hO;simp only [Opened,World.size_alloc,World.size_drew,World.size_setCell]at hO)
 have hKs:=zgfa K;have hwn:=K.below.size;refine viaE (Kn.push K _ _) hwn (fun p hp=>Nat.ne_of_lt (hKs p hp)) (O0 _ _ (by have B:=K.below;go_grown) hwn (by rw [heap_alloc,if_pos rfl])) ?_;clear K hKs O0 S0;intro w1 K hO;simp only [Opened,World.size_alloc,World.size_drew,World.size_setCell]at hO;dsimp only
 go_wp2_with fail
 refine via3 K (hA.out _) ?_;have hw1:=zqz (K.all _ (List.mem_cons_self ..));clear K hO hM hC hA;rintro _ w2 ⟨R,xa,xl,xc,rfl,hv,hR,he⟩ hB K hO;simp only [Opened,World.size_alloc,World.size_drew,World.size_setCell]at hO;have hw2:=hB.size;have hval:validR R=validR r:=by rw [← zju,he]
 have C0:∀ W':World,(∀ k,w1.heap.size≤k→k < w2.heap.size→W'.heap[k]? = w2.heap[k]?)→Below w.heap.size w W'→Calls Tryz.prog 23 #[.agg #[.int .i64 R.op,.int .i64 R.ask,.string ⟨R.nm.toArray⟩,.int .i64 R.wi,.int .i64 R.cm,.int .i64 R.n,.slice xa xl xc]] W' (Vc.Ret (.bool (validR r)) W'):=fun W' ha hb=>by
  have h:=zyaa (vgk2 hb v0) (hR W' ha);unfold RV7 at h;rw [hv,hval]at h;exact h
 have hC0:=Hd.mk C0;have hRh:=Hd.mk hR;have hvh:=Hd.mk hv;have heh:=Hd.mk he;clear C0 hR hB hv he;dsimp only;by_cases hvr:validR r=true
 ·rw [hvr]at hC0;rw [if_pos hvr]at hQ
  go_wp2_with fail
  refine via3 (L := [(w.heap.size + 1 + 1,#[.int .i64 0],34),(w.heap.size + 1,#[.int .i64 0],3),(w.heap.size,#[.int .i64 R.op,.int .i64 R.ask,.string ⟨R.nm.toArray⟩,.int .i64 R.wi,.int .i64 R.cm,.int .i64 R.n,.slice xa xl xc],30)]) (Kn.of (w0:=w) (by have B:=K.below;go_grown) (by simp only [Held,heap_alloc,zya,zna,World.size_alloc,World.size_drew,World.size_setCell,IntWalk.iteOmega,Wk.setObj,hO,Option.map_some,↓reduceIte,if_true,if_false,List.setIfInBounds_toArray,List.set_cons_zero,List.set_cons_succ,and_self,and_true] <;> (try trivial))) (hC0.out _ (fun k h1 h2 => ?_) ?_) ?_
  ·simp only [heap_alloc,zya,zna,World.size_alloc,World.size_setCell,World.size_drew];repeat rw [if_neg (by omega)]
  ·have B:=K.below;go_grown
  rintro _ w3 rfl hB3 K hO
  have hR3:=Hd.mk ((hRh.out.next (by simp only [World.size_alloc,World.size_setCell,World.size_drew];omega) (fun k h1 h2=>by
   have h1':w1.heap.size≤k:=h1;simp only [heap_alloc,zya,zna,World.size_alloc,World.size_setCell,World.size_drew];repeat rw [if_neg (by omega)])).next hB3.size (fun k _ hk=>hB3.block k hk))
  clear hRh hB3 hC0;simp only [Opened,World.size_alloc,World.size_drew,World.size_setCell]at hO;dsimp only
  repeat go_step
  refine leaves_cons (f:=59) (args := #[.pointer (some ⟨w.heap.size,0,none⟩),.pointer (some ⟨w.heap.size + 1,0,none⟩),.pointer (some ⟨w.heap.size + 1 + 1,0,none⟩)]) (by simp) (by simp [go_sem]) ?_;refine (zbo _ _ _ _).mono ?_;rintro e u' w'' ⟨rfl,rfl,rfl⟩;refine⟨_,by simp [results,Tryz.results26,go_sem,hO];rfl,hQ.out _ _ ⟨?_,by have B:=K.below;go_grown⟩⟩;refine⟨R,xa,xl,xc,rfl,hvh.out, ?_,heh.out⟩;refine (hR3.out.next ?_ (fun k h1 h2 => ?_)).mono (fun k _ h => ?_)
  ·simp only [World.size_alloc,World.size_setCell,World.size_drew];omega
  ·have h1':w1.heap.size≤k:=h1;simp only [heap_alloc,zya,zna,World.size_alloc,World.size_setCell,World.size_drew];repeat rw [if_neg (by omega)]
  ·have h':w1.heap.size≤k:=h;omega
 ·have hvf:=Bool.eq_false_iff.2 hvr;rw [hvf]at hC0;rw [if_neg hvr]at hQ
  go_wp2_with fail
  refine via3 (L := [(w.heap.size + 1 + 1,#[.int .i64 0],34),(w.heap.size + 1,#[.int .i64 0],3),(w.heap.size,#[.int .i64 R.op,.int .i64 R.ask,.string ⟨R.nm.toArray⟩,.int .i64 R.wi,.int .i64 R.cm,.int .i64 R.n,.slice xa xl xc],30)]) (Kn.of (w0:=w) (by have B:=K.below;go_grown) (by simp only [Held,heap_alloc,zya,zna,World.size_alloc,World.size_drew,World.size_setCell,IntWalk.iteOmega,Wk.setObj,hO,Option.map_some,↓reduceIte,if_true,if_false,List.setIfInBounds_toArray,List.set_cons_zero,List.set_cons_succ,and_self,and_true] <;> (try trivial))) (hC0.out _ (fun k h1 h2 => ?_) ?_) ?_
  ·simp only [heap_alloc,zya,zna,World.size_alloc,World.size_setCell,World.size_drew];repeat rw [if_neg (by omega)]
  ·have B:=K.below;go_grown
  rintro _ w3 rfl hB3 K hO
  have hR3:=Hd.mk ((hRh.out.next (by simp only [World.size_alloc,World.size_setCell,World.size_drew];omega) (fun k h1 h2=>by
   have h1':w1.heap.size≤k:=h1;simp only [heap_alloc,zya,zna,World.size_alloc,World.size_setCell,World.size_drew];repeat rw [if_neg (by omega)])).next hB3.size (fun k _ hk=>hB3.block k hk))
  clear hRh hB3 hC0;simp only [Opened,World.size_alloc,World.size_drew,World.size_setCell]at hO;dsimp only
  repeat go_step
  refine leaves_cons (f:=59) (args := #[.pointer (some ⟨w.heap.size,0,none⟩),.pointer (some ⟨w.heap.size + 1,0,none⟩),.pointer (some ⟨w.heap.size + 1 + 1,0,none⟩)]) (by simp) (by simp [go_sem]) ?_;refine (zbo _ _ _ _).mono ?_;rintro e u' w'' ⟨rfl,rfl,rfl⟩;refine⟨_,by simp [results,Tryz.results26,go_sem,hO];rfl,hQ.out _ _ ⟨?_,by have B:=K.below;go_grown⟩⟩;exact⟨zR,none,0,0,rfl,rfl,fun w'' _=>⟨.inl ⟨rfl,rfl⟩,trivial⟩,rfl⟩
end Go.Proofs.YtdjgnbkclcjiiaaGreatDoor
end
