import Derived.Test.YtfclibhhkphckaaGreatDoorOk2
import Derived.Test.YtfclibhhkphckaaGreatDoorCl
import Derived.Test.YtfclibhhkphckaaGreatDoorWk
import Derived.WalkKit
import Derived.BigCall
import Derived.Below
set_option linter.unusedVariables false
set_option linter.unusedSimpArgs false
set_option linter.unusedSimpArgs false
namespace Go.Proofs.YtfclibhhkphckaaGreatDoor
open Go Go.RowKit Go.Proofs Wk
theorem zzj{w:World}{v:Vh}(hG:VGs w)(h:VhAt w v)(hz:VhSz v):Calls Tryz.prog 16 #[VHV v] w (Vc.Ret (.bool (okC v)) w):=by
 have h':=h;obtain⟨b0,p0,c0,e0,f0,g0⟩:=zdc h.st;obtain⟨b1,p1,c1,e1,f1,g1⟩:=zcc h.dr
 have E:VHV v=.agg #[.string ⟨v.nm.toArray⟩,(if b0=true then .slice none 0 0 else .slice (some (Vc.qad p0 (Int.toNat ((v.ss.length:Nat):Int)) (Int.toNat c0))) (Int.toNat ((v.ss.length:Nat):Int)) (Int.toNat c0):Value),.int .i64 v.yl,.int .i64 v.yh,
   (if b1=true then .slice none 0 0 else .slice (some (Vc.qad p1 (Int.toNat ((v.dr.length:Nat):Int)) (Int.toNat c1))) (Int.toNat ((v.dr.length:Nat):Int)) (Int.toNat c1):Value),.int .i64 v.ax,.int .i64 v.be]:=by
  unfold VHV;rw [e0,e1]
 rw [E];refine znk p0 p1 (v.ss.length:Nat) c0 v.yl v.yh (v.dr.length:Nat) c1 v.ax v.be b0 b1 v.nm w _ ⟨_,_,_,fun w' hb=>by rw [← E];exact zvz (hG.keep hb) (h'.below hb) hz,rfl⟩
theorem zin(a b c:Int)(w:World):Calls Tryz.prog 17 #[.int .i64 a,.int .i64 b,.int .i64 c] w (Vc.Ret (.bool (decide (b≤a) && decide (a≤c))) w):=by
 refine zfj a b c w _ (Vc.iteI (fun h => ?_) (fun h => ?_))
 ·rw [decide_eq_true h];rfl
 ·rw [decide_eq_false h];rfl
set_option maxHeartbeats 4000000 in
set_option maxRecDepth 100000 in
theorem zmu{w:World}{v:Vh}(hG:VGs w)(h:VhAt w v)(hz:VhSz v)(n:Int)(hv:okC v=false) :
  Calls Tryz.prog 10 #[VHV v,.int .i64 n] w fun e w'=>e=.returned (.tuple #[.agg #[.string ⟨#[]⟩,.slice none 0 0,.int .i64 0,.int .i64 0,.slice none 0 0,.int .i64 0,.int .i64 0],.int .i64 2])∧Below w.heap.size w w':=by
 have hval:∀ w',Below w.heap.size w w'→Calls Tryz.prog 16 #[VHV v] w' (Vc.Ret (.bool false) w'):=fun w' hb=>by
  rw [← hv];exact zzj (hG.keep hb) (h.below hb) hz
 unfold VHV at hval ⊢;generalize v.sv=sv at *;generalize v.dv=dv at *;have K:=Kn.start w
 go_enter Tryz.func10,Tryz.ntmps10
 go_wp2_with (go_at_call 16;refine via (by repeat (first | exact K | apply Kn.push | apply Kn.drew)) (hval _ (by have B:=K.below;go_grown)) ?_;clear K;(try clear hO);intro wN K hO;simp only [Opened,World.size_alloc,World.size_drew,World.size_setCell]at hO)
 go_wp2
 all_goals (refine bodyPost_ret (by simp [results,Tryz.results10,go_sem,hO];try rfl) rfl ⟨?_,by have B:=K.below;go_grown⟩)
 rfl
theorem znu{v:Value}{sz:Nat}{xs:List Value}{w:World}(h:Vc.SlAt w v sz xs)(hne:xs ≠ []):∃ b o len cap,v=.slice (some ⟨b,o,none⟩) len cap∧xs.length=len * sz∧∀ j u,xs[j]? = some u→w.cell? ⟨b,o + j,none⟩=some u:=by
 rcases h with ⟨_,h⟩ | ⟨_,_,h⟩ | h
 ·exact (hne h).elim
 ·exact (hne h).elim
 ·exact h
def zeroV:Value := .agg #[.string ⟨#[]⟩,.slice none 0 0,.int .i64 0,.int .i64 0,.slice none 0 0,.int .i64 0,.int .i64 0]
set_option maxHeartbeats 4000000 in
set_option maxRecDepth 100000 in
theorem zxs{w:World}{v:Vh}(hG:VGs w)(h:VhAt w v)(hz:VhSz v)(n:Int)(hv:okC v=true)(hn:¬ (0≤n∧n≤(v.ss.length:Int) - 1)) :
  Calls Tryz.prog 10 #[VHV v,.int .i64 n] w fun e w'=>e=.returned (.tuple #[zeroV,.int .i64 7])∧Below w.heap.size w w':=by
 have hval:∀ w',Below w.heap.size w w'→Calls Tryz.prog 16 #[VHV v] w' (Vc.Ret (.bool true) w'):=fun w' hb=>by
  rw [← hv];exact zzj (hG.keep hb) (h.below hb) hz
 have ok:=zwea hv;have h0:=ok.s0;have h8:=ok.s8;obtain⟨b,o,len,cap,e1,e2,e3⟩:=znu h.st (by intro hh;have:=congrArg List.length hh;rw [Vc.zm zxa]at this;simp at this;omega);rw [Vc.zm zxa]at e2;have el:len=v.ss.length:=by omega
 subst el;clear e2 e3
 have hwi:∀ w',Calls Tryz.prog 17 #[.int .i64 n,.int .i64 0,.int .i64 ((v.ss.length:Int) - 1)] w' (Vc.Ret (.bool false) w'):=fun w'=>by
  have e:(decide (0≤n) && decide (n≤(v.ss.length:Int) - 1))=false:=by
   rw [Bool.and_eq_false_iff];simp only [decide_eq_false_iff_not];omega
  rw [← e];exact zin _ _ _ _
 have hw1:IntKind.i64.wrap ((v.ss.length:Int) - 1)=(v.ss.length:Int) - 1:=Vc.zh (by omega);unfold VHV at hval ⊢;unfold zeroV;rw [e1]at hval ⊢;generalize v.dv=dv at *;have K:=Kn.start w
 go_enter Tryz.func10,Tryz.ntmps10
 go_wp2_with (go_at_call 16;refine via (by repeat (first | exact K | apply Kn.push | apply Kn.drew)) (hval _ (by have B:=K.below;go_grown)) ?_;clear K;(try clear hO);intro wN K hO;simp only [Opened,World.size_alloc,World.size_drew,World.size_setCell]at hO)
 go_wp2_with (go_at_call 17;refine via (by repeat (first | exact K | apply Kn.push | apply Kn.drew)) (hwi _) ?_;clear K;(try clear hO);intro wN K hO;simp only [Opened,World.size_alloc,World.size_drew,World.size_setCell]at hO)
 go_wp2
 all_goals (refine bodyPost_ret (by simp [results,Tryz.results10,go_sem,hO];try rfl) rfl ⟨?_,by have B:=K.below;go_grown⟩)
 rfl
end Go.Proofs.YtfclibhhkphckaaGreatDoor
