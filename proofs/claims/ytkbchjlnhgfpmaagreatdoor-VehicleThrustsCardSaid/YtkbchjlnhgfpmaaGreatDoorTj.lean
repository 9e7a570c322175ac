import Derived.Test.YtkbchjlnhgfpmaaGreatDoorTi
import Derived.Test.YtkbchjlnhgfpmaaGreatDoorFvB
set_option linter.unusedVariables false
set_option linter.unusedSimpArgs false
set_option maxRecDepth 4000
namespace Go.Proofs.YtkbchjlnhgfpmaaGreatDoor
open Go Go.RowKit Vc Ul
attribute [local irreducible] Go.Calls
def Ij(l:List Pt):List Tp:=l.map λp=>(p.a,p.lo,p.hi)
theorem RH(l:List Pt):(Ij l).flatMap pc=l.flatMap yG:=by
 unfold Ij;rw [List.flatMap_map];rfl
theorem V_{w:World}{v:Value}{l:List Pt}(h:e_ w v 3 (l.flatMap yG)):yI w v (Ij l):=by unfold yI;rw [RH];exact h
def po(v:Vh)(lo hi:Int):Int × Int × Int:=if (bU v).2.2≠0 then (0,0,2)else look (Ij v.dr) lo hi
theorem Ik:∀{l:List Pt} {last:Int},-1<=last->kI last l=true->∀p∈l,0<=p.a/\p.a<=4503599627370496
  | [],_,_,_,p,hp=>by cases hp
  |q::r,last,h0,h,p,hp=>by
    simp only [kI,Bool.and_eq_true,decide_eq_true_eq]at h;rcases List.mem_cons.1 hp with rfl|hp
    · omega
    · exact Ik (by omega) h.2 p hp
theorem Il{v:Vh}(hv:(bU v).2.2=0):∀p∈Ij v.dr,gS p.1:=by
 intro p hp;obtain⟨q,hq,rfl⟩:=List.mem_map.1 hp
 have:=(BF (decide_eq_true hv)).tb
 unfold jM at this;rw [Bool.and_eq_true]at this
 have:=Ik (Int.le_refl _) this.1 q hq
 exact⟨by simp only;omega,by simp only;omega⟩
theorem RI{w:World}{v:Vh}(hG:oN w)(h:iH w v)(hz:j9 v)(lo hi:Int)(oE:gS lo)(rl:gS hi):Calls Tryz.prog 12 #[gY v,.agg #[.int .i64 lo,.int .i64 hi]] w (Vc.aI (RV (po v lo hi)) w):=by
 have h':=h;obtain⟨b0,p0,c0,e0,f0,g0⟩:=rP h.st;obtain⟨b1,p1,c1,e1,f1,g1⟩:=rO h.dr;have gR:=zu f0;have mY:=hz.sn;have E:gY v=.agg #[.string ⟨v.nm.toArray⟩,(if b0=true then .slice none 0 0 else .slice (some (Vc.iK p0 (Int.toNat ((v.ss.length:Nat):Int)) c0.toNat)) (Int.toNat ((v.ss.length:Nat):Int)) c0.toNat:Value),.int .i64 v.yl,.int .i64 v.yh,(if b1=true then .slice none 0 0 else .slice (some (Vc.iK p1 (Int.toNat ((v.dr.length:Nat):Int)) c1.toNat)) (Int.toNat ((v.dr.length:Nat):Int)) c1.toNat:Value),.int .i64 v.ax,.int .i64 v.be]:=by unfold gY;rw [e0,e1]
 rw [E];refine X' p0 p1 (v.ss.length:Nat) c0 v.yl v.yh (v.dr.length:Nat) c1 v.ax v.be lo hi b0 b1 v.nm w _ ⟨_,_,_,λw' hb=>by rw [<-E];exact J0 (hG.eK hb) (h'.below hb) hz,ae (λhv => ?_) (λhv=>by unfold po;rw [if_pos hv])⟩;refine⟨_,_,_,λw' hb=>by rw [show Vc.sq b1 p1 _ _=v.dv from e1.symm];exact RE (V_ (zg hb h.dr)) (Il hv) lo hi oE rl, ?_⟩;unfold po;rw [if_neg (by omega)]
theorem RJ{w:World}{v:Vh}(h:iH w v)(hz:j9 v)(lo hi:Int)(oE:gS lo)(rl:gS hi):Calls Tryz.prog 13 #[gY v,.agg #[.int .i64 lo,.int .i64 hi]] w (Vc.aI (RV (po v lo hi)) w):=by
 have h':=h;obtain⟨b0,p0,c0,e0,f0,g0⟩:=rP h.st;obtain⟨b1,p1,c1,e1,f1,g1⟩:=rO h.dr;have gR:=zu f0;have mY:=hz.sn;have E:gY v=.agg #[.string ⟨v.nm.toArray⟩,(if b0=true then .slice none 0 0 else .slice (some (Vc.iK p0 (Int.toNat ((v.ss.length:Nat):Int)) c0.toNat)) (Int.toNat ((v.ss.length:Nat):Int)) c0.toNat:Value),.int .i64 v.yl,.int .i64 v.yh,(if b1=true then .slice none 0 0 else .slice (some (Vc.iK p1 (Int.toNat ((v.dr.length:Nat):Int)) c1.toNat)) (Int.toNat ((v.dr.length:Nat):Int)) c1.toNat:Value),.int .i64 v.ax,.int .i64 v.be]:=by unfold gY;rw [e0,e1]
 rw [E];refine Yg p0 p1 (v.ss.length:Nat) c0 v.yl v.yh (v.dr.length:Nat) c1 v.ax v.be lo hi b0 b1 v.nm w _ ⟨_,_,_,λw' hb=>by rw [<-E];exact QR (h'.below hb) hz,ae (λhv => ?_) (λhv=>by unfold po;rw [if_pos hv])⟩;refine⟨_,_,_,λw' hb=>by rw [show Vc.sq b1 p1 _ _=v.dv from e1.symm];exact RF (V_ (zg hb h.dr)) (Il hv) lo hi oE rl, ?_⟩;unfold po;rw [if_neg (by omega)]
theorem Fb{n:Int}(h:(Lit.int .i64 n).wf=true):gS n:=by
 simp [Lit.wf,IntKind.min,IntKind.max,IntKind.signed,IntKind.bits]at h;unfold gS;omega
theorem zgj{w:World}{v:Vh}(hz:j9 v)(h:iH w v)(hG:oN w)(g lo hi:Int)(oE:gS lo)(rl:gS hi):Calls Tryz.prog 3 #[gY v,.int .i64 g,.agg #[.int .i64 lo,.int .i64 hi]] w (Vc.aI (.bool true) w):=by
 have h':=h;obtain⟨b0,p0,c0,e0,f0,g0⟩:=rP h.st;obtain⟨b1,p1,c1,e1,f1,g1⟩:=rO h.dr;have gR:=zu f0;have mY:=hz.sn;have E:gY v=.agg #[.string ⟨v.nm.toArray⟩,(if b0=true then .slice none 0 0 else .slice (some (Vc.iK p0 (Int.toNat ((v.ss.length:Nat):Int)) c0.toNat)) (Int.toNat ((v.ss.length:Nat):Int)) c0.toNat:Value),.int .i64 v.yl,.int .i64 v.yh,(if b1=true then .slice none 0 0 else .slice (some (Vc.iK p1 (Int.toNat ((v.dr.length:Nat):Int)) c1.toNat)) (Int.toNat ((v.dr.length:Nat):Int)) c1.toNat:Value),.int .i64 v.ax,.int .i64 v.be]:=by unfold gY;rw [e0,e1]
 rw [E];have T:b_ w (.bool true):=⟨true,λw' hb=>PO w' (hG.eK hb),rfl⟩;refine Yh p0 p1 (v.ss.length:Nat) c0 v.yl v.yh (v.dr.length:Nat) c1 v.ax v.be g lo hi b0 b1 v.nm w _ ⟨iJ v,λw' hb=>by rw [<-E];exact Q9 (h'.below hb) hz,ae (λ_=>T) (λ_ => ?_)⟩
 refine⟨_,_,_,λw' hb=>by rw [<-E];exact Ri (hG.eK hb) (h'.below hb) hz g lo hi,_,_,_,λw' hb=>by rw [<-E];exact Rk (h'.below hb) hz g lo hi,
  _,_,_,λw' hb=>by rw [<-E];exact Rj (hG.eK hb) (h'.below hb) hz g lo hi,_,_,_,λw' hb=>by rw [<-E];exact Rl (h'.below hb) hz g lo hi,
  _,_,_,λw' hb=>by rw [<-E];exact Rm (hG.eK hb) (h'.below hb) hz g,_,_,_,λw' hb=>by rw [<-E];exact Rn (h'.below hb) hz g,
  _,_,_,λw' hb=>by rw [<-E];exact RI (hG.eK hb) (h'.below hb) hz lo hi oE rl,_,_,_,λw' hb=>by rw [<-E];exact RJ (h'.below hb) hz lo hi oE rl, ?_⟩
 exact ae (λ_=>ae (λ_=>ae (λ_=>ae (λ_=>ae (λ_=>ae (λ_=>ae (λ_=>ae (λ_=>T) (λhc=>absurd rfl hc)) (λhc=>absurd ⟨rfl,rfl⟩ hc)) (λhc=>absurd rfl hc)) (λhc=>absurd ⟨rfl,rfl⟩ hc)) (λhc=>absurd rfl hc)) (λhc=>absurd ⟨rfl,rfl⟩ hc)) (λhc=>absurd rfl hc)) (λhc=>absurd ⟨rfl,rfl⟩ hc)
end Go.Proofs.YtkbchjlnhgfpmaaGreatDoor
