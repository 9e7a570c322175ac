import Derived.Test.YtnjpiipdgapakaaGreatDoorGw
import Derived.Test.YtnjpiipdgapakaaGreatDoorBt
import Derived.Test.YtnjpiipdgapakaaGreatDoorBp
import Derived.Test.YtnjpiipdgapakaaGreatDoorTi
import Derived.Test.YtnjpiipdgapakaaGreatDoorAwv
set_option linter.unusedVariables false
set_option linter.unusedSimpArgs false
set_option linter.unusedSimpArgs false
set_option maxRecDepth 100000
namespace Go.Proofs.YtnjpiipdgapakaaGreatDoor
open Go Go.RowKit Go.Proofs Vc Ul
attribute [local irreducible] Go.Calls
theorem M7(a b c d:Int):Ax (div a b c d):=by
 unfold div;split
 ·split
  ·exact vb _
  ·exact Ay _ _
 ·exact vb _
theorem M8{v:Vh}{g:Int}(he:(cC v g).2.2=0)(hp:0<(cC v g).1):(cC v g).1<=9223372036854775807:=by
 obtain⟨_,_,s,_,_,hb⟩:=E3 he hp;rw [hb];exact (M7 _ _ _ _).1.2
theorem M9{l:Int}(h0:0<=l)(h1:l<=4294967296):within l l 0 4294967296=true:=by
 unfold within ok;simp only [Bool.and_eq_true,decide_eq_true_eq];omega
theorem fV.WJ{v:Vh}{g tl th fl fh pl T:Int}(h:fV v g tl th fl fh pl)(hT:0<T):vi T tl th fl fh:=by
 obtain⟨t1,t2,t3⟩:=h.t;obtain⟨f1,f2,f3⟩:=h.f;refine⟨hT,⟨?_,by omega⟩,⟨?_,by omega⟩⟩
 ·unfold jW;rw [if_pos (by simp only [ok,Bool.and_eq_true,decide_eq_true_eq];omega)]
 ·unfold jW;rw [if_pos (by simp only [ok,Bool.and_eq_true,decide_eq_true_eq];omega)]
theorem M_(w:World):aO w (.bool true):=⟨true,λw' _=>MA w',rfl⟩
set_option maxHeartbeats 4000000 in
theorem WK{w:World}{v:Vh}{s:pY}(hG:nO w)(h:jV w v)(hz:oB v)(g lv:Int):Calls Tryz.prog 3 #[kq v,.int .i64 g,.int .i64 lv,BZ s] w (Vc.aw (.bool true) w):=by
 have h':=h;obtain⟨b0,p0,c0,e0,f0,g0⟩:=AT h.st;obtain⟨b1,p1,c1,e1,f1,g1⟩:=yy h.dr;have kH:=rS f0;have vj:=hz.sn;have E:kq v=.agg #[.string ⟨v.nm.toArray⟩,(if b0=true then .slice none 0 0 else .slice (some (Vc.bR p0 (Int.toNat ((v.ss.length:Nat):Int)) c0.toNat)) (Int.toNat ((v.ss.length:Nat):Int)) c0.toNat:Value),.int .i64 v.yl,.int .i64 v.yh,(if b1=true then .slice none 0 0 else .slice (some (Vc.bR p1 (Int.toNat ((v.dr.length:Nat):Int)) c1.toNat)) (Int.toNat ((v.dr.length:Nat):Int)) c1.toNat:Value),.int .i64 v.ax,.int .i64 v.be]:=by unfold kq;rw [e0,e1]
 have KT:∀(lo hi:Int) (r:R),iB (·.tl) (·.th) v g lo hi=r->∀w',Below w.heap.size w w'->Calls Tryz.prog 6 #[kq v,.int .i64 g,.agg #[.int .i64 lo,.int .i64 hi]] w' (Vc.aw (RV r) w'):=λlo hi r hr w' hb=>hr▸M4 (hG.eE hb) (h'.below hb) hz g lo hi;have KF:∀(lo hi:Int) (r:R),iB (·.fl) (·.fh) v g lo hi=r->∀w',Below w.heap.size w w'->Calls Tryz.prog 7 #[kq v,.int .i64 g,.agg #[.int .i64 lo,.int .i64 hi]] w' (Vc.aw (RV r) w'):=λlo hi r hr w' hb=>hr▸M5 (hG.eE hb) (h'.below hb) hz g lo hi;have KB:∀w',Below w.heap.size w w'->Calls Tryz.prog 4 #[kq v,.int .i64 g] w' (Vc.aw (RV (cC v g)) w'):=λw' hb=>M6 (hG.eE hb) (h'.below hb) hz g;have AW:=M_ w;rw [E]at KT KF KB ⊢;unfold BZ;refine TV p0 p1 (v.ss.length:Nat) c0 v.yl v.yh (v.dr.length:Nat) c1 v.ax v.be g lv s.t s.p0.1 s.p0.2 s.p1.1 s.p1.2 s.p2.1 s.p2.2 s.v0.1 s.v0.2 s.v1.1 s.v1.2 s.v2.1 s.v2.2 s.m.1 s.m.2 b0 b1 v.nm w _ ⟨_,_,_,KB,af (λRx=>af (λ_=>AW) (λsC => ?_)) (λ_=>AW)⟩;have rT:0<(cC v g).1:=by omega
 obtain⟨hg,st,tl,th,fl,fh,mO,hF⟩:=MU Rx rT;have hT:=M8 Rx rT;obtain⟨t1,t2,t3⟩:=hF.t;obtain⟨f1,f2,f3⟩:=hF.f;obtain⟨c,hc,gU,kD⟩:=hF.take rT hT;have lj:=hF.p;have G4:=hF.WJ rT;rcases hF.full with ⟨a1,a2⟩|⟨a1,a2⟩
 ·exact⟨_,_,_,KT _ _ _ a1,_,_,_,KF _ _ _ a2,af (λ_=>AW) (λhn=>absurd rfl hn)⟩
 refine⟨_,_,_,KT _ _ _ a1,_,_,_,KF _ _ _ a2,af (λhn=>absurd (show (0:Int)=4 from hn) (by decide)) (λ_=>af (λhn=>absurd (show (0:Int)=4 from hn) (by decide)) (λ_=>af (λ_=>af (λ_ => ?_) (λhn=>absurd rfl hn)) (λhn=>absurd rfl hn)))⟩;intro eH Ry l hl;have l0:0<=l:=by rw [hl];split<;>omega
 have l1:l<=4294967296:=by rw [hl,Ry];split<;>(try split)<;>omega
 clear hl Ry;refine⟨_,λβ w' _ hm=>MD G4 hm.1.2,af (λG5 => ?_) (λ_=>AW)⟩
 have hs:jr s:=by
  unfold kK at G5;split at G5
  ·assumption
  ·simp at G5
 refine⟨_,λβ w' _ hm=>MD G4 hm.1.2,af (λ_ => ?_) (λhn=>absurd G5 hn)⟩;refine⟨λβ w' _ hm => ?_, ?_⟩
 ·obtain⟨m,e1,_,e3⟩:=El (k:=1) hm.2.1 rfl (by decide);rw [e1];exact EP G4 hs hm.1.2 e3 (by kernel_rfl) (by kernel_rfl)
 refine⟨0,fh,0,λw' _=>aw.as (xd fl fh 0 4294967296 w' ⟨by omega,by omega⟩ ⟨by omega,by omega⟩ ⟨by decide,by decide⟩ ⟨by decide,by decide⟩) (by rw [hF.MV]),af (λ_ => ?_) (λhn=>absurd rfl hn)⟩;refine⟨0,c,0,λw' _=>aw.as (xd 0 fh (cC v g).1 (cC v g).1 w' ⟨by decide,by decide⟩ ⟨by omega,by omega⟩ ⟨by omega,by omega⟩ ⟨by omega,by omega⟩) (by rw [hc]),af (λ_ => ?_) (λhn=>absurd rfl hn)⟩;refine⟨0,c,0,λw' _=>aw.as (Eb 0 0 0 c w' ⟨by decide,by decide⟩ ⟨by decide,by decide⟩ ⟨by decide,by decide⟩ ⟨by omega,by omega⟩) (by rw [MW gU (by omega)]),af (λ_=>af (λ_ => ?_) (λhn=>absurd rfl hn)) (λhn=>absurd rfl hn)⟩;obtain⟨n,rfl⟩:=Int.eq_ofNat_of_zero_le hg.1;have M':v.ss[n]? = some st:=mO;obtain⟨k0,k1,k2,k3,k4,k5⟩:=g0 n st M';have XG:n<v.ss.length:=by omega
 simp only [Int.toNat_natCast];refine⟨λhb=>by have:=f0 hb;omega,hg.1,by omega,st.pl,k3,af (λhn=>absurd kD (by omega)) (λ_ => ?_)⟩;refine⟨λβ w' _ hm=>EP (p:=0) (r:=0) (c:=l) (d:=l) G4 hs hm.1.2 (λk u hk=>AQ hm.2.1.2 (by simpa using hk)) (by kernel_rfl) (M9 l0 l1), ?_⟩;obtain⟨n1,n2⟩:=hF.E6 l0 l1;refine⟨_,_,_,λw' _=>xd tl th l l w' ⟨by omega,by omega⟩ ⟨by omega,by omega⟩ ⟨by omega,by omega⟩ ⟨by omega,by omega⟩,_,_,_,λw' _=>xd fl fh l l w' ⟨by omega,by omega⟩ ⟨by omega,by omega⟩ ⟨by omega,by omega⟩ ⟨by omega,by omega⟩,λβ w' _ _=>Ws s w',af (λ_ => ?_) (λhn=>absurd n1 hn)⟩;refine af (λ_ => ?_) (λhn=>absurd n2 hn);refine⟨_,_,_,KT l l _ rfl,_,_,_,KF l l _ rfl, ?_⟩;have F8:(iB (·.fl) (·.fh) v (n:Int) l l).2.2=0->mul fl fh l l=iB (·.fl) (·.fh) v (n:Int) l l:=hF.AZ l0 l1
 have T8:cx (iB (·.fl) (·.fh) v (n:Int) l l).2.2 (mul fl fh l l).1 (iB (·.fl) (·.fh) v (n:Int) l l).1 (mul fl fh l l).2.1 (iB (·.fl) (·.fh) v (n:Int) l l).2.1 w (.bool true) :=
  af (λh0=>af (λ_=>AW) (λhn=>absurd (by rw [F8 h0];exact⟨rfl,rfl⟩) hn)) (λ_=>AW)
 exact af (λh0=>af (λ_=>T8) (λhn=>absurd (by rw [hF.level l0 l1 h0];exact⟨rfl,rfl⟩) hn)) (λ_=>T8)
theorem WL{w:World}{v:Vh}(hz:oB v)(h:jV w v)(g lv:Int)(s:pY)(hG:nO w):Calls Tryz.prog 3 #[kq v,.int .i64 g,.int .i64 lv,BZ s] w (Vc.aw (.bool true) w):=WK hG h hz g lv
end Go.Proofs.YtnjpiipdgapakaaGreatDoor
