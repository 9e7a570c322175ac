import Derived.Test.YtnjpiipdgapakaaGreatDoorTp
set_option linter.unusedVariables false
set_option linter.unusedSimpArgs false
namespace Go.Proofs.YtnjpiipdgapakaaGreatDoor
open Go Go.RowKit Vc Ul
theorem E2(a b c d:Int):mul a b c d=mul c d a b:=by
 have e1:kW (a*c) (a*d) (b*c) (b*d)=kW (c*a) (c*b) (d*a) (d*b):=by
  rw [Int.mul_comm c a,Int.mul_comm c b,Int.mul_comm d a,Int.mul_comm d b];unfold kW;omega
 have e2:kX (a*c) (a*d) (b*c) (b*d)=kX (c*a) (c*b) (d*a) (d*b):=by
  rw [Int.mul_comm c a,Int.mul_comm c b,Int.mul_comm d a,Int.mul_comm d b];unfold kX;omega
 unfold mul;rw [e1,e2,Bool.and_comm]
theorem E3{v:Vh}{g:Int}(he:(cC v g).2.2=0)(hp:0<(cC v g).1):(bU v).2.2=0/\(0<=g/\g<=(v.ss.length:Int)-1)/\∃s,v.ss[g.toNat]? = some s/\s.es ≠ []/\cC v g=div s.pl s.ph (cL (·.fl) s.es) (cL (·.fh) s.es):=by
  unfold cC at *;split at he
  · simp at he
  rename_i h1;split at he
  · simp at he
  rename_i h2;have Qt:(bU v).2.2=0:=Decidable.not_not.1 h1;have Qu:=Decidable.not_not.1 h2;refine⟨Qt,Qu, ?_⟩;rw [if_neg h1,if_neg h2];cases hs:v.ss[g.toNat]? with
  |none=>rw [hs]at he;simp at he
  |some s =>
    rw [hs]at he;dsimp only at he ⊢;split at he
    · simp at he
    rename_i h3;exact⟨s,rfl,λh=>h3 (by rw [h];rfl),by rw [if_neg h3]⟩
theorem E4{n:Int}:B6 n 4294967296 false=n/\B6 n 4294967296 true=n:=by
 unfold B6 fl ce;constructor
 ·simp
 ·simp only [if_true];omega
structure fV(v:Vh)(g:Int)(tl th fl fh pl:Int):Prop where
 t:1<=tl/\tl<=th/\th<=4611686018427387904
 f:1<=fl/\fl<=fh/\fh<=4611686018427387904
 p:0<=pl/\pl<=4503599627370496
 b:(cC v g).1=pl*4294967296 / fh
 at':∀lo hi,0<=lo->lo<=hi->hi<=4294967296->(iB (·.tl) (·.th) v g lo hi=(0,0,4)/\iB (·.fl) (·.fh) v g lo hi=(0,0,4))∨(iB (·.tl) (·.th) v g lo hi=mul lo hi tl th/\iB (·.fl) (·.fh) v g lo hi=mul lo hi fl fh)
theorem MU{v:Vh}{g:Int}(he:(cC v g).2.2=0)(hp:0<(cC v g).1):(0<=g/\g<=(v.ss.length:Int)-1)/\∃s tl th fl fh,v.ss[g.toNat]? = some s/\fV v g tl th fl fh s.pl:=by
 obtain⟨h1,h2,s,hs,dO,hb⟩:=E3 he hp;have sZ:=xj (v:=v) (decide_eq_true h1);have hm:=List.mem_of_getElem? hs;have hr:=(sZ.B2 hm).2;have hl:=sZ.es hm;have a1:=tC EW hr;have a2:=tC EX hr;have a3:=GW (f:=(·.tl)) (g:=(·.th)) (λe he=>by have:=qN he;omega) hr;have a4:=GX (f:=(·.tl)) (λe he=>by have:=qN he;omega) hr dO;have z1:=tC B4 hr;have z2:=tC B5 hr;have z3:=GW (f:=(·.fl)) (g:=(·.fh)) (λe he=>by have:=qN he;omega) hr;have z4:=GX (f:=(·.fl)) (λe he=>by have:=qN he;omega) hr dO;have E5:0<=s.pl/\s.pl<=s.ph/\s.ph<=4503599627370496:=by have:=(sZ.B2 hm).1;rw [Bool.and_eq_true]at this;exact EV this.2
 refine⟨h2,s,_,_,_,_,hs,⟨a4,a3,by omega⟩,⟨z4,z3,by omega⟩,⟨E5.1,by omega⟩, ?_,λlo hi l1 l2 l3 => ?_⟩
 ·have hd:=MT E5.1 E5.2.1 E5.2.2 z4 z3 (show _<=4611686018427387904 by omega);rw [hb]at he ⊢;rw [hd]at he ⊢;split at he
  ·rename_i hh;rw [if_pos hh];exact GZ _ _ (by omega)
  ·simp at he
 ·by_cases hc:0<hi/\s.es.any (λe=>decide (lo<e.le))=true
  ·have no:∀f g':En->Int,iB f g' v g lo hi=(0,0,4):=λf g'=>by
    unfold iB;rw [if_neg (by omega),if_neg (by omega),hs];dsimp only;rw [if_neg (by omega),if_pos hc]
   exact .inl ⟨no _ _,no _ _⟩
  ·exact .inr ⟨xk h1 h2 hs (by omega) hc,xk h1 h2 hs (by omega) hc⟩
section
variable {v:Vh} {g tl th fl fh pl:Int}
theorem fV.full(h:fV v g tl th fl fh pl):(iB (·.tl) (·.th) v g 4294967296 4294967296=(0,0,4)/\iB (·.fl) (·.fh) v g 4294967296 4294967296=(0,0,4))∨(iB (·.tl) (·.th) v g 4294967296 4294967296=(tl,th,0)/\iB (·.fl) (·.fh) v g 4294967296 4294967296=(fl,fh,0)):=by
 rcases h.at' 4294967296 4294967296 (by omega) (by omega) (by omega)with h1|⟨h1,h2⟩
 ·exact .inl h1
 ·obtain⟨t1,t2,t3⟩:=h.t;obtain⟨f1,f2,f3⟩:=h.f;rw [EZ (by omega) (by omega) (by omega) (by omega) t2 t3,E4.1,E4.2]at h1;rw [EZ (by omega) (by omega) (by omega) (by omega) f2 f3,E4.1,E4.2]at h2;exact .inr ⟨h1,h2⟩
theorem fV.MV(h:fV v g tl th fl fh pl):mul fl fh 0 4294967296=(0,fh,0):=by
 obtain⟨f1,f2,f3⟩:=h.f;rw [E2,EZ (by omega) (by omega) (by omega) (by omega) f2 f3,E4.2];unfold B6 Ul.fl;simp
theorem fV.take(h:fV v g tl th fl fh pl)(hp:0<(cC v g).1)(hT:(cC v g).1<=9223372036854775807):∃c,mul 0 fh (cC v g).1 (cC v g).1=(0,c,0)/\0<=c/\c<=pl:=by
 obtain⟨f1,f2,f3⟩:=h.f;obtain⟨p1,p2⟩:=h.p;have hb:=h.b;generalize (cC v g).1=T at *
 have m1:T*fh<=pl*4294967296:=by
  have:=Int.ediv_mul_le (pl*4294967296) (show fh≠0 by omega)
  rw [hb];exact this
 have m0:0<=fh*T:=Int.mul_nonneg (by omega) (by omega);have m2:fh*T<=pl*4294967296:=by rw [Int.mul_comm];exact m1
 generalize hm:fh*T=m at *;refine⟨ce m 4294967296, ?_, ?_, ?_⟩
 ·have e1:kW (0*T) (0*T) (fh*T) (fh*T)=0:=by rw [hm];unfold kW;omega
  have e2:kX (0*T) (0*T) (fh*T) (fh*T)=m:=by rw [hm];unfold kX;omega
  unfold mul;rw [if_pos (by simp only [ok,Bool.and_eq_true,decide_eq_true_eq];omega),e1,e2];unfold fit;rw [if_pos (by unfold Ul.fl ce;omega)];unfold Ul.fl;simp
 ·unfold ce;omega
 ·unfold ce;omega
theorem MW{c:Int}(h0:0<=c)(h1:c<=9223372036854775807):add 0 0 0 c=(0,c,0):=by
 unfold add;rw [if_pos (by simp only [ok,Bool.and_eq_true,decide_eq_true_eq];omega)];unfold fit;rw [if_pos (by omega)];simp
theorem fV.level(h:fV v g tl th fl fh pl){l:Int}(l0:0<=l)(l1:l<=4294967296):(iB (·.tl) (·.th) v g l l).2.2=0->mul tl th l l=iB (·.tl) (·.th) v g l l:=λhe=>by
 rcases h.at' l l l0 (Int.le_refl l) l1 with ⟨h1,_⟩|⟨h1,_⟩
 ·rw [h1]at he;simp at he
 ·rw [h1,E2]
theorem fV.AZ(h:fV v g tl th fl fh pl){l:Int}(l0:0<=l)(l1:l<=4294967296):(iB (·.fl) (·.fh) v g l l).2.2=0->mul fl fh l l=iB (·.fl) (·.fh) v g l l:=λhe=>by
 rcases h.at' l l l0 (Int.le_refl l) l1 with ⟨_,h1⟩|⟨_,h1⟩
 ·rw [h1]at he;simp at he
 ·rw [h1,E2]
theorem fV.E6(h:fV v g tl th fl fh pl){l:Int}(l0:0<=l)(l1:l<=4294967296):(mul tl th l l).2.2=0/\(mul fl fh l l).2.2=0:=by
 obtain⟨t1,t2,t3⟩:=h.t;obtain⟨f1,f2,f3⟩:=h.f;rw [E2,EZ l0 (Int.le_refl l) l1 (by omega) t2 t3,E2,EZ l0 (Int.le_refl l) l1 (by omega) f2 f3];exact⟨rfl,rfl⟩
end
end Go.Proofs.YtnjpiipdgapakaaGreatDoor
