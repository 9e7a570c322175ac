import Derived.Test.YtfclibhhkphckaaGreatDoorWp
import Derived.Test.YtfclibhhkphckaaGreatDoorGt
set_option linter.unusedVariables false
set_option linter.unusedSimpArgs false
set_option linter.unusedSimpArgs false
namespace Go.Proofs.YtfclibhhkphckaaGreatDoor
open Go Go.RowKit Go.Proofs Wk
theorem zqo{w:World}{v:Vh}(hG:VGs w)(h:VhAt w v)(hz:VhSz v)(hc:CapOk v.sv):Calls Tryz.prog 6 #[VHV v] w (Vc.Ret (MV (pMass v 0 0 0)) w):=by
 have h':=h;obtain⟨b0,p0,c0,e0,f0,g0⟩:=zdc h.st;obtain⟨b1,p1,c1,e1,f1,g1⟩:=zcc h.dr
 have E:VHV v=.agg #[.string ⟨v.nm.toArray⟩,(if b0=true then .slice none 0 0 else .slice (some (Vc.qad p0 (Int.toNat ((v.ss.length:Nat):Int)) (Int.toNat c0))) (Int.toNat ((v.ss.length:Nat):Int)) (Int.toNat c0):Value),.int .i64 v.yl,.int .i64 v.yh,
   (if b1=true then .slice none 0 0 else .slice (some (Vc.qad p1 (Int.toNat ((v.dr.length:Nat):Int)) (Int.toNat c1))) (Int.toNat ((v.dr.length:Nat):Int)) (Int.toNat c1):Value),.int .i64 v.ax,.int .i64 v.be]:=by
  unfold VHV;rw [e0,e1]
 rw [E];exact zmk p0 p1 (v.ss.length:Nat) c0 v.yl v.yh (v.dr.length:Nat) c1 v.ax v.be b0 b1 v.nm w _ ⟨_,_,_,fun w' hb=>by rw [← E];exact zus (hG.keep hb) (h'.below hb) hz hc 0 0 0,rfl⟩
theorem zfx{w:World}{v:Vh}(h:VhAt w v)(hz:VhSz v):Calls Tryz.prog 7 #[VHV v] w (Vc.Ret (MV (pMass v 0 0 0)) w):=by
 have h':=h;obtain⟨b0,p0,c0,e0,f0,g0⟩:=zdc h.st;obtain⟨b1,p1,c1,e1,f1,g1⟩:=zcc h.dr
 have E:VHV v=.agg #[.string ⟨v.nm.toArray⟩,(if b0=true then .slice none 0 0 else .slice (some (Vc.qad p0 (Int.toNat ((v.ss.length:Nat):Int)) (Int.toNat c0))) (Int.toNat ((v.ss.length:Nat):Int)) (Int.toNat c0):Value),.int .i64 v.yl,.int .i64 v.yh,
   (if b1=true then .slice none 0 0 else .slice (some (Vc.qad p1 (Int.toNat ((v.dr.length:Nat):Int)) (Int.toNat c1))) (Int.toNat ((v.dr.length:Nat):Int)) (Int.toNat c1):Value),.int .i64 v.ax,.int .i64 v.be]:=by
  unfold VHV;rw [e0,e1]
 rw [E];exact zwf p0 p1 (v.ss.length:Nat) c0 v.yl v.yh (v.dr.length:Nat) c1 v.ax v.be b0 b1 v.nm w _ ⟨_,_,_,fun w' hb=>by rw [← E];exact zvs (h'.below hb) hz 0 0 0,rfl⟩
theorem zcw{w:World}{v:Value}{sz:Nat}{xs:List Value}(h:Vc.SlAt w v sz xs):∃ a l c,v=.slice a l c:=by
 rcases h with ⟨rfl,_⟩ | ⟨_,rfl,_⟩ | ⟨_,_,_,_,rfl,_⟩ <;> exact⟨_,_,_,rfl⟩
set_option maxHeartbeats 8000000 in
set_option maxRecDepth 100000 in
theorem zti{w:World}{v:Vh}(hz:VhSz v)(hcap:CapOk v.sv)(h:VhAt w v)(hG:VGs w)(g lo hi:Int) :
    Calls Tryz.prog 3 #[VHV v,.int .i64 g,.agg #[.int .i64 lo,.int .i64 hi]] w (Vc.Ret (.bool true) w):=by
  have hgr:∀ w',Below w.heap.size w w'→Calls Tryz.prog 4 #[VHV v] w' (Vc.Ret (.bool (pGreat v)) w'):=fun w' hb=>zhaa (h.below hb) hz;have haw:∀ w',Below w.heap.size w w'→Calls Tryz.prog 5 #[] w' (Vc.Ret (.bool true) w'):=fun w' hb=>zdz w' (hG.keep hb);have hpt:∀ w',Below w.heap.size w w'→Calls Tryz.prog 6 #[VHV v] w' (Vc.Ret (MV (pMass v 0 0 0)) w'):=fun w' hb=>zqo (hG.keep hb) (h.below hb) hz hcap;have hrt:∀ w',Below w.heap.size w w'→Calls Tryz.prog 7 #[VHV v] w' (Vc.Ret (MV (pMass v 0 0 0)) w'):=fun w' hb=>zfx (h.below hb) hz;have hpm:∀ w' lo hi,Below w.heap.size w w'→Calls Tryz.prog 8 #[VHV v,.int .i64 g,.agg #[.int .i64 lo,.int .i64 hi]] w' (Vc.Ret (MV (pMass v g lo hi)) w'):=fun w' lo hi hb=>zus (hG.keep hb) (h.below hb) hz hcap g lo hi;have hrm:∀ w',Below w.heap.size w w'→Calls Tryz.prog 9 #[VHV v,.int .i64 g,.agg #[.int .i64 lo,.int .i64 hi]] w' (Vc.Ret (MV (pMass v g lo hi)) w'):=fun w' hb=>zvs (h.below hb) hz g lo hi
  have hwo:∀ w',Below w.heap.size w w'→Calls Tryz.prog 10 #[VHV v,.int .i64 g] w' fun e w''=>∃ (u:Vh) (a:Option Addr) (l c:Nat) (a':Option Addr) (l' c':Nat),e=.returned (.tuple #[.agg #[.string ⟨u.nm.toArray⟩,.slice a l c,.int .i64 u.yl,.int .i64 u.yh,.slice a' l' c',.int .i64 u.ax,.int .i64 u.be],.int .i64 (wErr v g)])∧Below w'.heap.size w' w'' ∧
      (∀ w3,Below w''.heap.size w'' w3→Calls Tryz.prog 6 #[.agg #[.string ⟨u.nm.toArray⟩,.slice a l c,.int .i64 u.yl,.int .i64 u.yh,.slice a' l' c',.int .i64 u.ax,.int .i64 u.be]] w3 (Vc.Ret (MV (pMass u 0 0 0)) w3))∧(wErr v g=0→pMass u 0 0 0=pMass v g 0 0∧(pMass v g 0 0).2.2=0):=fun w' hb=>by
    refine (zou (hG.keep hb) (h.below hb) hz hcap g).mono ?_;rintro e w'' ⟨u,rfl,b2,hu,hcu,hzu,hm⟩;obtain⟨a,l,c,e1⟩:=zcw hu.st;obtain⟨a',l',c',e2⟩:=zcw hu.dr;refine⟨u,a,l,c,a',l',c',by unfold VHV;rw [e1,e2],b2,fun w3 h3 => ?_,hm⟩
    have:=zqo (w:=w3) ((hG.keep hb).keep b2 |>.keep h3) (hu.below h3) hzu hcu
    unfold VHV at this
    rwa [e1,e2]at this
  clear hz hcap h hG;unfold VHV at hgr hpt hrt hpm hrm hwo ⊢;unfold MV at hpt hrt hpm hrm hwo;generalize v.sv=sv at *;generalize v.dv=dv at *;have hpm1:=fun w' hb=>hpm w' lo hi hb;have hpm0:=fun w' hb=>hpm w' 0 0 hb;clear hpm;generalize pMass v 0 0 0=P at *;generalize pMass v g lo hi=Q at *;generalize pMass v g 0 0=R at *;obtain⟨q1,q2,q3⟩:=Q;obtain⟨r1,r2,r3⟩:=R;generalize wErr v g=we at *;obtain⟨a1,a2,a3⟩:=P;have K:=Kn.start w;cases hgv:pGreat v with
  | true =>
    rw [hgv]at hgr
    go_enter Tryz.func3,Tryz.ntmps3
    go_wp2_with (first | (go_at_call 4;refine via (by repeat (first | exact K | apply Kn.push | apply Kn.drew)) (hgr _ (by have B:=K.below;go_grown)) ?_;clear K;(try clear hO);intro wN K hO;simp only [Opened,World.size_alloc,World.size_drew,World.size_setCell]at hO) | (go_at_call 5;refine via (by repeat (first | exact K | apply Kn.push | apply Kn.drew)) (haw _ (by have B:=K.below;go_grown)) ?_;clear K;(try clear hO);intro wN K hO;simp only [Opened,World.size_alloc,World.size_drew,World.size_setCell]at hO))
    go_ret
    exact⟨rfl,K.below⟩
  | false =>
    rw [hgv]at hgr
    go_enter Tryz.func3,Tryz.ntmps3
    go_wp2_with (first | (go_at_call 4;refine via (by repeat (first | exact K | apply Kn.push | apply Kn.drew)) (hgr _ (by have B:=K.below;go_grown)) ?_;clear K;(try clear hO);intro wN K hO;simp only [Opened,World.size_alloc,World.size_drew,World.size_setCell]at hO) | (go_at_call 6;refine via (by repeat (first | exact K | apply Kn.push | apply Kn.drew)) (hpt _ (by have B:=K.below;go_grown)) ?_;clear K;(try clear hO);intro wN K hO;simp only [Opened,World.size_alloc,World.size_drew,World.size_setCell]at hO))
    go_wp2_with (go_at_call 7;refine via (by repeat (first | exact K | apply Kn.push | apply Kn.drew)) (hrt _ (by have B:=K.below;go_grown)) ?_;clear K;(try clear hO);intro wN K hO;simp only [Opened,World.size_alloc,World.size_drew,World.size_setCell]at hO)
    go_wp2_with (go_at_call 8;refine via (by repeat (first | exact K | apply Kn.push | apply Kn.drew)) (hpm1 _ (by have B:=K.below;go_grown)) ?_;clear K;(try clear hO);intro wN K hO;simp only [Opened,World.size_alloc,World.size_drew,World.size_setCell]at hO)
    go_wp2_with (go_at_call 9;refine via (by repeat (first | exact K | apply Kn.push | apply Kn.drew)) (hrm _ (by have B:=K.below;go_grown)) ?_;clear K;(try clear hO);intro wN K hO;simp only [Opened,World.size_alloc,World.size_drew,World.size_setCell]at hO)
    go_wp2_with (go_at_call 10;refine (hwo _ (by have B:=K.below;go_grown)).mono ?_)
    rintro e w9 ⟨u,a,l,c,a',l',c',rfl,b9,hut,hm⟩;replace K:=Kn.next (Kn.push K _ _) b9;clear hO b9;have hO:=Kn.opened_of K.all;simp only [Opened,World.size_alloc,World.size_drew,World.size_setCell]at hO;generalize pMass u 0 0 0=S at *;obtain⟨s1,s2,s3⟩:=S;by_cases hwe:we=0
    · obtain⟨e1,e2⟩:=hm hwe;injection e1 with e1 e3;injection e3 with e3 e4;have e5:r3=0:=e2;clear e2 hm;subst hwe e1 e3 e4 e5
      go_wp2_with (go_at_call 6;refine via (by repeat (first | exact K | apply Kn.push | apply Kn.drew)) (hut _ (by go_grown)) ?_;clear K;(try clear hO);intro wN K hO;simp only [Opened,World.size_alloc,World.size_drew,World.size_setCell]at hO)
      go_wp2_with (first | (go_at_call 8;refine via (by repeat (first | exact K | apply Kn.push | apply Kn.drew)) (hpm0 _ (by have B:=K.below;go_grown)) ?_;clear K;(try clear hO);intro wN K hO;simp only [Opened,World.size_alloc,World.size_drew,World.size_setCell]at hO) | (go_at_call 5;refine via (by repeat (first | exact K | apply Kn.push | apply Kn.drew)) (haw _ (by have B:=K.below;go_grown)) ?_;clear K;(try clear hO);intro wN K hO;simp only [Opened,World.size_alloc,World.size_drew,World.size_setCell]at hO))
      all_goals go_ret
      all_goals exact⟨rfl,by have B:=K.below;go_grown⟩
    · go_wp2_with (go_at_call 6;refine via (by repeat (first | exact K | apply Kn.push | apply Kn.drew)) (hut _ (by go_grown)) ?_;clear K;(try clear hO);intro wN K hO;simp only [Opened,World.size_alloc,World.size_drew,World.size_setCell]at hO)
      go_wp2_with (first | (go_at_call 8;refine via (by repeat (first | exact K | apply Kn.push | apply Kn.drew)) (hpm0 _ (by have B:=K.below;go_grown)) ?_;clear K;(try clear hO);intro wN K hO;simp only [Opened,World.size_alloc,World.size_drew,World.size_setCell]at hO) | (go_at_call 5;refine via (by repeat (first | exact K | apply Kn.push | apply Kn.drew)) (haw _ (by have B:=K.below;go_grown)) ?_;clear K;(try clear hO);intro wN K hO;simp only [Opened,World.size_alloc,World.size_drew,World.size_setCell]at hO))
      all_goals go_ret
      all_goals exact⟨rfl,by have B:=K.below;go_grown⟩
end Go.Proofs.YtfclibhhkphckaaGreatDoor
