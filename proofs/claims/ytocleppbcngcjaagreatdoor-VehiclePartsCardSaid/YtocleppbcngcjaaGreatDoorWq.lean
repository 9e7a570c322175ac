import Derived.Test.YtocleppbcngcjaaGreatDoorCl
import Derived.Test.YtocleppbcngcjaaGreatDoorPz
import Derived.WalkKit
import Derived.BigCall
import Derived.Below
import Derived.StillTail
import Derived.Deep.QuietTactic
import Derived.BigQuiet
import Derived.Lib.QuietBelow
section
set_option linter.unusedVariables false
set_option linter.unusedSimpArgs false
set_option linter.unusedSimpArgs false
namespace Go.Proofs.YtocleppbcngcjaaGreatDoor
open Go Go.RowKit Go.Proofs Wk
theorem Gj{w:World}{v:Vh}(hG:nu w)(h:fZ w v)(hz:iv v):Calls Tryz.prog 17 #[fL v] w (Vc.Ret (.bool (ng v)) w):=by
 have h':=h;obtain⟨b0,p0,c0,e0,f0,g0⟩:=yL h.st;obtain⟨b1,p1,c1,e1,f1,g1⟩:=w6 h.dr
 have E:fL v=.agg #[.string ⟨v.nm.toArray⟩,(if b0=true then .slice none 0 0 else .slice (some (Vc.dJ p0 (Int.toNat ((v.ss.length:Nat):Int)) c0.toNat)) (Int.toNat ((v.ss.length:Nat):Int)) c0.toNat:Value),.int .i64 v.yl,.int .i64 v.yh,
   (if b1=true then .slice none 0 0 else .slice (some (Vc.dJ p1 (Int.toNat ((v.dr.length:Nat):Int)) c1.toNat)) (Int.toNat ((v.dr.length:Nat):Int)) c1.toNat:Value),.int .i64 v.ax,.int .i64 v.be]:=by
  unfold fL;rw [e0,e1]
 rw [E];refine Yu p0 p1 (v.ss.length:Nat) c0 v.yl v.yh (v.dr.length:Nat) c1 v.ax v.be b0 b1 v.nm w _ ⟨_,_,_,λw' hb=>by rw [<-E];exact NH (hG.cA hb) (h'.below hb) hz,rfl⟩
theorem TK(a b c:Int)(w:World):Calls Tryz.prog 18 #[.int .i64 a,.int .i64 b,.int .i64 c] w (Vc.Ret (.bool (decide (b<=a) && decide (a<=c))) w):=by
 refine Yv a b c w _ (Vc.aj (λh => ?_) (λh => ?_))
 ·rw [decide_eq_true h];rfl
 ·rw [decide_eq_false h];rfl
set_option maxHeartbeats 4000000 in
set_option maxRecDepth 100000 in
theorem Yy{w:World}{v:Vh}(hG:nu w)(h:fZ w v)(hz:iv v)(n:Int)(hv:ng v=false) :
  Calls Tryz.prog 6 #[fL v,.int .i64 n] w λe w'=>e=.returned (.tuple #[.agg #[.string ⟨#[]⟩,.slice none 0 0,.int .i64 0,.int .i64 0,.slice none 0 0,.int .i64 0,.int .i64 0],.int .i64 2])/\Below w.heap.size w w':=by
 have dA:∀w',Below w.heap.size w w'->Calls Tryz.prog 17 #[fL v] w' (Vc.Ret (.bool false) w'):=λw' hb=>by
  rw [<-hv];exact Gj (hG.cA hb) (h.below hb) hz
 unfold fL at dA ⊢;generalize v.sv=sv at *;generalize v.dv=dv at *;have K:=Kn.start w
 go_enter Tryz.func6,Tryz.ntmps6
 go_wp2_with (go_at_call 17;refine via (by repeat (first|exact K|apply Kn.push|apply Kn.drew)) (dA _ (by have B:=K.below;go_grown)) ?_;clear K;(try clear hO);intro wN K hO;simp only [aN,World.size_alloc,World.size_drew,World.size_setCell]at hO)
 go_wp2
 all_goals (refine bodyPost_ret (by simp [results,Tryz.results6,go_sem,hO];try rfl) rfl ⟨?_,by have B:=K.below;go_grown⟩)
 rfl
theorem Oh{v:Value}{sz:Nat}{xs:List Value}{w:World}(h:Vc.dI w v sz xs)(cW:xs ≠ []):∃b o len cap,v=.slice (some ⟨b,o,none⟩) len cap/\xs.length=len*sz/\∀j u,xs[j]? = some u->w.cell? ⟨b,o+j,none⟩=some u:=by
 rcases h with ⟨_,h⟩|⟨_,_,h⟩|h
 ·exact (cW h).elim
 ·exact (cW h).elim
 ·exact h
def zeroV:Value := .agg #[.string ⟨#[]⟩,.slice none 0 0,.int .i64 0,.int .i64 0,.slice none 0 0,.int .i64 0,.int .i64 0]
set_option maxHeartbeats 4000000 in
set_option maxRecDepth 100000 in
theorem Yz{w:World}{v:Vh}(hG:nu w)(h:fZ w v)(hz:iv v)(n:Int)(hv:ng v=true)(hn:¬(0<=n/\n<=(v.ss.length:Int)-1)) :
  Calls Tryz.prog 6 #[fL v,.int .i64 n] w λe w'=>e=.returned (.tuple #[zeroV,.int .i64 7])/\Below w.heap.size w w':=by
 have dA:∀w',Below w.heap.size w w'->Calls Tryz.prog 17 #[fL v] w' (Vc.Ret (.bool true) w'):=λw' hb=>by
  rw [<-hv];exact Gj (hG.cA hb) (h.below hb) hz
 have ok:=Ca hv;have h0:=ok.s0;have h8:=ok.s8;obtain⟨b,o,len,cap,e1,e2,e3⟩:=Oh h.st (by intro hh;have:=congrArg List.length hh;rw [Vc.zf zk]at this;simp at this;omega);rw [Vc.zf zk]at e2;have el:len=v.ss.length:=by omega
 subst el;clear e2 e3
 have uK:∀w',Calls Tryz.prog 18 #[.int .i64 n,.int .i64 0,.int .i64 ((v.ss.length:Int)-1)] w' (Vc.Ret (.bool false) w'):=λw'=>by
  have e:(decide (0<=n) && decide (n<=(v.ss.length:Int)-1))=false:=by
   rw [Bool.and_eq_false_iff];simp only [decide_eq_false_iff_not];omega
  rw [<-e];exact TK _ _ _ _
 have qX:IntKind.i64.wrap ((v.ss.length:Int)-1)=(v.ss.length:Int)-1:=Vc.zj (by omega);unfold fL at dA ⊢;unfold zeroV;rw [e1]at dA ⊢;generalize v.dv=dv at *;have K:=Kn.start w
 go_enter Tryz.func6,Tryz.ntmps6
 go_wp2_with (go_at_call 17;refine via (by repeat (first|exact K|apply Kn.push|apply Kn.drew)) (dA _ (by have B:=K.below;go_grown)) ?_;clear K;(try clear hO);intro wN K hO;simp only [aN,World.size_alloc,World.size_drew,World.size_setCell]at hO)
 go_wp2_with (go_at_call 18;refine via (by repeat (first|exact K|apply Kn.push|apply Kn.drew)) (uK _) ?_;clear K;(try clear hO);intro wN K hO;simp only [aN,World.size_alloc,World.size_drew,World.size_setCell]at hO)
 go_wp2
 all_goals (refine bodyPost_ret (by simp [results,Tryz.results6,go_sem,hO];try rfl) rfl ⟨?_,by have B:=K.below;go_grown⟩)
 rfl
end Go.Proofs.YtocleppbcngcjaaGreatDoor
end
section
set_option linter.unusedVariables false
set_option linter.unusedSimpArgs false
namespace Wk
open Go Go.RowKit Go.Sort
open Vc (Ret)
section
variable {P:Program} {ops:Array Oper} {md:Region.Mode} {C:World->Prop}
end
theorem Kn.grown{w0 w w':World}{L}(h:Kn w0 w L)(hw:∃p:Regrown,w'=grow (redrawn w p.d) p.os):Kn w0 w' L:=by
 obtain⟨p,rfl⟩:=hw;exact h.next (below_regrown w p.d p.os)
end Wk
end
