import Derived.Test.YtpfgephckjpcjaaGreatDoorGq
import Derived.Test.YtpfgephckjpcjaaGreatDoorQa
set_option linter.unusedVariables false
set_option linter.unusedSimpArgs false
namespace Go.Proofs.YtpfgephckjpcjaaGreatDoor
open Go Go.RowKit Vc
attribute [local irreducible] Go.Calls
structure Qr where
 (n d k s t e:Int)
abbrev QE(r:Qr):Value := .tuple #[QV r.n r.d r.k r.s r.t,.int .i64 r.e]
def lR(e:Int):Qr:=⟨0,0,0,0,0,e⟩
abbrev PB(x:Int)(b:Bool):Value := .tuple #[.int .i64 x,.bool b]
theorem sX{a b:Int}(ha:Bd a):Bd (a.tdiv b):=by
 have h1:(a.tdiv b).natAbs=a.natAbs / b.natAbs:=Int.natAbs_tdiv a b;have h2:a.natAbs / b.natAbs<=a.natAbs:=Nat.div_le_self _ _;exact⟨by omega,by omega⟩
theorem py{a b:Int}(ha:Bd a):IntKind.i64.wrap (a.tdiv b)=a.tdiv b:=by
 have:=sX (b:=b) ha
 exact zk (by omega)
theorem sY{a:Int}(ha:Bd a):IntKind.i64.wrap a=a:=zk (by omega)
theorem Lu{a b:Int}(ha:Bd a)(hb:Bd b)(h0:b≠0)(hw:Bd (IntKind.i64.wrap (a*b)))(h:IntKind.i64.wrap ((IntKind.i64.wrap (a*b)).tdiv b)=a):Bd (a*b):=by
 obtain⟨x,hx⟩:∃x,x=IntKind.i64.wrap (a*b):=⟨_,rfl⟩;rw [<-hx]at h hw;rw [py hw]at h;have h1:=Int.mul_tdiv_add_tmod x b;rw [h]at h1;have h2:(x.tmod b).natAbs=x.natAbs % b.natAbs:=Int.natAbs_tmod x b;have h3:x.natAbs % b.natAbs<b.natAbs:=Nat.mod_lt _ (by omega);rw [Int.mul_comm b a]at h1;rw [Ul.mq]at hx;omega
theorem Lv{a b:Int}(ha:Bd a)(h0:b≠0)(hp:Bd (a*b)):IntKind.i64.wrap ((IntKind.i64.wrap (a*b)).tdiv b)=a:=by
 rw [sY hp,Int.mul_tdiv_cancel _ h0,sY ha]
theorem FA(a b:Int)(w:World)(ha:Bd a)(hb:Bd b):Calls Tryz.prog 97 #[.int .i64 a,.int .i64 b] w (Vc.aR (PB (IntKind.i64.wrap (a*b)) (decide (Bd (a*b)))) w):=by
 refine Vg a b w _ ?_;rintro x2 rfl;refine aa (λh0 => ?_) (λh0 => ?_)
 ·subst h0;rw [Int.mul_zero];exact aa (λ_=>rfl) λh=>absurd (by decide) h
 ·refine⟨h0, ?_⟩;rintro x3 rfl;refine aa (λh=>aa (λh1 => ?_) λh1 => ?_) λh => ?_
  ·by_cases h2:IntKind.i64.wrap (a*b)<=4611686018427387904
   ·rw [decide_eq_true h2,decide_eq_true (Lu ha hb h0 ⟨h1,h2⟩ h)]
   ·rw [decide_eq_false h2,decide_eq_false (λhp=>h2 (by rw [sY hp];exact hp.2))]
  ·rw [decide_eq_false (λhp=>h1 (by rw [sY hp];exact hp.1))]
  ·rw [decide_eq_false (λhp=>h (Lv ha h0 hp))]
theorem FB{a:Int}(ha:Bd a):(if IntKind.i64.wrap (0-a) > a then IntKind.i64.wrap (0-a)else a)=((a.natAbs:Nat):Int):=by
 have hw:IntKind.i64.wrap (0-a) = -a:=by rw [zk (by omega)];omega
 rw [hw];split<;>omega
theorem FC(x:Int):Bd x↔x.natAbs<=4611686018427387904:=by
 unfold Bd;omega
theorem FD(a b:Int)(w:World)(ha:Bd a)(hb:Bd b):Calls Tryz.prog 137 #[.int .i64 a,.int .i64 b] w (Vc.aR (PB (if Bd (a*b)then a*b else 0) (decide (Bd (a*b)))) w):=by
 refine Vn a b w _ ?_;refine aa (λh0 => ?_) (λh0=>aa (λh1 => ?_) λh1 => ?_)
 ·subst h0;rw [Int.zero_mul];rfl
 ·subst h1;rw [Int.mul_zero];rfl
 ·rintro x2 rfl x3 Rq x4 rfl x5 Rr;rw [FB ha]at Rq;rw [FB hb]at Rr;subst Rq Rr;refine⟨by omega, ?_⟩;rintro x6 yW;rw [py (by omega),Int.tdiv_eq_ediv_of_nonneg (by omega)]at yW;have e6:x6=((4611686018427387904 / b.natAbs:Nat):Int):=by rw [yW];rfl
  have hm:(a*b).natAbs=a.natAbs*b.natAbs:=Int.natAbs_mul a b;have iE:0<b.natAbs:=by omega
  refine aa (λh => ?_) (λh => ?_)
  ·have h2:4611686018427387904 / b.natAbs<a.natAbs:=by omega
   have h3:¬Bd (a*b):=by
    rw [FC,hm]
    have:=(Nat.div_lt_iff_lt_mul iE).1 h2
    omega
   rw [if_neg h3,decide_eq_false h3]
  ·have h2:a.natAbs<=4611686018427387904 / b.natAbs:=by omega
   have h3:Bd (a*b):=by
    rw [FC,hm];exact (Nat.le_div_iff_mul_le iE).1 h2
   rintro x7 rfl;rw [if_pos h3,decide_eq_true h3,sY h3]
def fN(n d k s t:Int):Qr:=if iy (n.tdiv (Int.gcd n d:Nat)) (d.tdiv (Int.gcd n d:Nat)) k s t=true then ⟨n.tdiv (Int.gcd n d:Nat),d.tdiv (Int.gcd n d:Nat),k,s,t,0⟩else lR 4
theorem xW{n d:Int}(h:d≠0):((Int.gcd n d:Nat):Int)≠0:=by
 intro h1;have h2:Int.gcd n d=0:=by omega
 exact h (Int.gcd_eq_zero_iff.1 h2).2
theorem Lw(n d k s t:Int)(w:World)(hn:Bd n)(hd:Bd d)(h0:d≠0):Calls Tryz.prog 92 #[.int .i64 n,.int .i64 d,.agg #[.int .i64 k,.int .i64 s,.int .i64 t]] w (Vc.aR (QE (fN n d k s t)) w):=by
 refine Vh n d k s t w _ ⟨_,λw' _=>Fy n d w' hn hd,xW h0, ?_⟩;rintro x6 yW;rw [py hn]at yW;refine⟨xW h0, ?_⟩;rintro x7 vk;rw [py hd]at vk;subst yW vk;refine⟨_,λw' _=>yX _ _ k s t w', ?_⟩;unfold fN;exact aa (λh=>by rw [if_pos h]) λh=>by rw [if_neg h];rfl
theorem Lx(n d k s t:Int)(w:World)(hn:Bd n)(hd:Bd d)(h0:d≠0):Calls Tryz.prog 104 #[.int .i64 n,.int .i64 d,.int .i64 k,.int .i64 s,.int .i64 t] w (Vc.aR (QE (fN n d k s t)) w):=by
 refine Vo n d k s t w _ ⟨_,λw' _=>Fz n d w' hn hd,xW h0, ?_⟩;rintro x6 yW;rw [py hn]at yW;refine⟨xW h0, ?_⟩;rintro x7 vk;rw [py hd]at vk;subst yW vk;refine⟨_,λw' _=>yY _ _ k s t w', ?_⟩;unfold fN;exact aa (λh=>by rw [if_pos h]) λh=>by rw [if_neg h];rfl
def jk(n1 d1 k1 s1 t1 n2 d2 k2 s2 t2:Int):Qr :=
 if iy n1 d1 k1 s1 t1=true/\iy n2 d2 k2 s2 t2=true then
  if k1=k2/\s1=s2/\t1=t2 then
   if Bd (n1*d2.tdiv (Int.gcd d1 d2:Nat))/\Bd (n2*d1.tdiv (Int.gcd d1 d2:Nat))/\Bd (d1.tdiv (Int.gcd d1 d2:Nat)*d2)/\Bd (n1*d2.tdiv (Int.gcd d1 d2:Nat)+n2*d1.tdiv (Int.gcd d1 d2:Nat))then
    fN (n1*d2.tdiv (Int.gcd d1 d2:Nat)+n2*d1.tdiv (Int.gcd d1 d2:Nat)) (d1.tdiv (Int.gcd d1 d2:Nat)*d2) k1 s1 t1
   else lR 4
  else lR 20
 else lR 2
theorem Ly{d g:Int}(hd:0<d)(hg:0<=g)(h:g∣d):0<d.tdiv g:=by
 obtain⟨c,hc⟩:=h;have g0:g≠0:=by rintro rfl;omega
 rw [hc,Int.mul_tdiv_cancel_left _ g0];have g1:0<g:=by omega
 rw [hc]at hd;exact Int.pos_of_mul_pos_right hd (by omega)
theorem Lz(a b:Int):((Int.gcd a b:Nat):Int)∣a:=Int.gcd_dvd_left a b
theorem FE(a b:Int):((Int.gcd a b:Nat):Int)∣b:=Int.gcd_dvd_right a b
section
variable {n1 d1 k1 s1 t1 n2 d2 k2 s2 t2:Int}
theorem Ho(h:¬(iy n1 d1 k1 s1 t1=true/\iy n2 d2 k2 s2 t2=true)):jk n1 d1 k1 s1 t1 n2 d2 k2 s2 t2=lR 2:=by
 unfold jk;rw [if_neg h]
theorem Hp(h:iy n1 d1 k1 s1 t1=true/\iy n2 d2 k2 s2 t2=true)(hd:¬(k1=k2/\s1=s2/\t1=t2)):jk n1 d1 k1 s1 t1 n2 d2 k2 s2 t2=lR 20:=by
 unfold jk;rw [if_pos h,if_neg hd]
theorem Rs(h:iy n1 d1 k1 s1 t1=true/\iy n2 d2 k2 s2 t2=true)(hd:k1=k2/\s1=s2/\t1=t2)(hb:¬(Bd (n1*d2.tdiv (Int.gcd d1 d2:Nat))/\Bd (n2*d1.tdiv (Int.gcd d1 d2:Nat))/\Bd (d1.tdiv (Int.gcd d1 d2:Nat)*d2)/\Bd (n1*d2.tdiv (Int.gcd d1 d2:Nat)+n2*d1.tdiv (Int.gcd d1 d2:Nat)))):jk n1 d1 k1 s1 t1 n2 d2 k2 s2 t2=lR 4:=by
 unfold jk;rw [if_pos h,if_pos hd,if_neg hb]
theorem Rt(h:iy n1 d1 k1 s1 t1=true/\iy n2 d2 k2 s2 t2=true)(hd:k1=k2/\s1=s2/\t1=t2)(hb:Bd (n1*d2.tdiv (Int.gcd d1 d2:Nat))/\Bd (n2*d1.tdiv (Int.gcd d1 d2:Nat))/\Bd (d1.tdiv (Int.gcd d1 d2:Nat)*d2)/\Bd (n1*d2.tdiv (Int.gcd d1 d2:Nat)+n2*d1.tdiv (Int.gcd d1 d2:Nat))):jk n1 d1 k1 s1 t1 n2 d2 k2 s2 t2=fN (n1*d2.tdiv (Int.gcd d1 d2:Nat)+n2*d1.tdiv (Int.gcd d1 d2:Nat)) (d1.tdiv (Int.gcd d1 d2:Nat)*d2) k1 s1 t1:=by
 unfold jk;rw [if_pos h,if_pos hd,if_pos hb]
theorem FF(h1:1<=d1)(h2:1<=d2):d1.tdiv (Int.gcd d1 d2:Nat)*d2≠0:=by
 have h3:=Ly (by omega:0<d1) (by omega) (Lz d1 d2)
 have:=Int.mul_pos h3 (by omega:0<d2)
 omega
end
theorem Ru(n1 d1 k1 s1 t1 n2 d2 k2 s2 t2:Int)(w:World):Calls Tryz.prog 50 #[QV n1 d1 k1 s1 t1,QV n2 d2 k2 s2 t2] w (Vc.aR (QE (jk n1 d1 k1 s1 t1 n2 d2 k2 s2 t2)) w):=by
 refine Vi n1 d1 k1 s1 t1 n2 d2 k2 s2 t2 w _ ⟨_,λw' _=>yX n1 d1 k1 s1 t1 w', ?_⟩;refine aa (λgA => ?_) (λhc=>congrArg QE (Ho (λh=>hc h.1)).symm);refine⟨_,λw' _=>yX n2 d2 k2 s2 t2 w', ?_⟩;refine aa (λeS => ?_) (λhc=>congrArg QE (Ho (λh=>hc h.2)).symm);refine aa (λhd => ?_) (λhd=>congrArg QE (Hp ⟨gA,eS⟩ hd).symm);obtain⟨b1,l1,u1,_⟩:=ub gA;obtain⟨b2,l2,u2,_⟩:=ub eS;have g0:((Int.gcd d1 d2:Nat):Int)≠0:=xW (by omega);refine⟨_,λw' _=>Fy d1 d2 w' ⟨by omega,u1⟩ ⟨by omega,u2⟩,g0, ?_⟩;rintro aC mv;rw [py ⟨by omega,u2⟩]at mv;refine⟨_,_,λw' _=>FA n1 aC w' b1 (by rw [mv];exact sX ⟨by omega,u2⟩),g0, ?_⟩;rintro au iU;rw [py ⟨by omega,u1⟩]at iU;refine⟨_,_,λw' _=>FA n2 au w' b2 (by rw [iU];exact sX ⟨by omega,u1⟩),g0, ?_⟩;rintro aD kY;rw [py ⟨by omega,u1⟩]at kY;refine⟨_,_,λw' _=>FA aD d2 w' (by rw [kY];exact sX ⟨by omega,u1⟩) ⟨by omega,u2⟩, ?_⟩;subst mv iU kY;have rC:=Rs ⟨gA,eS⟩ hd;have Cc:=Rt ⟨gA,eS⟩ hd;have dn:=FF l1 l2;rintro aS rD;refine aa (λp1 => ?_) (λp=>congrArg QE (rC λh=>p (decide_eq_true h.1)).symm);refine aa (λp2 => ?_) (λp=>congrArg QE (rC λh=>p (decide_eq_true h.2.1)).symm);refine aa (λp3 => ?_) (λp=>congrArg QE (rC λh=>p (decide_eq_true h.2.2.1)).symm);replace p1:=of_decide_eq_true p1;replace p2:=of_decide_eq_true p2;replace p3:=of_decide_eq_true p3;rw [sY p1,sY p2]at rD;rw [sY p3]
 have hw:Bd aS->Bd (n1*d2.tdiv (Int.gcd d1 d2:Nat)+n2*d1.tdiv (Int.gcd d1 d2:Nat))/\aS=n1*d2.tdiv (Int.gcd d1 d2:Nat)+n2*d1.tdiv (Int.gcd d1 d2:Nat):=by
  intro hx;rw [Ul.mq]at rD;omega
 have sN:Bd (n1*d2.tdiv (Int.gcd d1 d2:Nat)+n2*d1.tdiv (Int.gcd d1 d2:Nat))->Bd aS:=by
  intro hx;rw [sY hx]at rD;rw [rD];exact hx
 refine aa (λq1=>aa (λq2 => ?_) λq => ?_) λq => ?_
 ·obtain⟨e1,e2⟩:=hw ⟨q1,q2⟩;refine⟨_,_,_,_,_,_,λw' _=>Lw aS _ k1 s1 t1 w' ⟨q1,q2⟩ p3 dn, ?_⟩;rw [e2];exact congrArg QE (Cc ⟨p1,p2,p3,e1⟩).symm
 ·exact congrArg QE (rC λh=>q (sN h.2.2.2).2).symm
 ·exact congrArg QE (rC λh=>q (sN h.2.2.2).1).symm
theorem Rv(n1 d1 k1 s1 t1 n2 d2 k2 s2 t2:Int)(w:World):Calls Tryz.prog 100 #[QV n1 d1 k1 s1 t1,QV n2 d2 k2 s2 t2] w (Vc.aR (QE (jk n1 d1 k1 s1 t1 n2 d2 k2 s2 t2)) w):=by
 refine Vp n1 d1 k1 s1 t1 n2 d2 k2 s2 t2 w _ ⟨_,λw' _=>yY n1 d1 k1 s1 t1 w', ?_⟩;refine aa (λgA => ?_) (λhc=>congrArg QE (Ho (λh=>hc h.1)).symm);refine⟨_,λw' _=>yY n2 d2 k2 s2 t2 w', ?_⟩;refine aa (λeS => ?_) (λhc=>congrArg QE (Ho (λh=>hc h.2)).symm);refine aa (λhk => ?_) (λhd=>congrArg QE (Hp ⟨gA,eS⟩ (λh=>hd h.1)).symm);refine aa (λhs => ?_) (λhd=>congrArg QE (Hp ⟨gA,eS⟩ (λh=>hd h.2.1)).symm);refine aa (λht => ?_) (λhd=>congrArg QE (Hp ⟨gA,eS⟩ (λh=>hd h.2.2)).symm);have hd:k1=k2/\s1=s2/\t1=t2:=⟨hk,hs,ht⟩;obtain⟨b1,l1,u1,_⟩:=ub gA;obtain⟨b2,l2,u2,_⟩:=ub eS;have g0:((Int.gcd d1 d2:Nat):Int)≠0:=xW (by omega);refine⟨_,λw' _=>Fz d1 d2 w' ⟨by omega,u1⟩ ⟨by omega,u2⟩,g0, ?_⟩;rintro aC mv;rw [py ⟨by omega,u2⟩]at mv;refine⟨_,_,λw' _=>FD n1 aC w' b1 (by rw [mv];exact sX ⟨by omega,u2⟩),g0, ?_⟩;rintro au iU;rw [py ⟨by omega,u1⟩]at iU;refine⟨_,_,λw' _=>FD n2 au w' b2 (by rw [iU];exact sX ⟨by omega,u1⟩),g0, ?_⟩;rintro aD kY;rw [py ⟨by omega,u1⟩]at kY;refine⟨_,_,λw' _=>FD aD d2 w' (by rw [kY];exact sX ⟨by omega,u1⟩) ⟨by omega,u2⟩, ?_⟩;subst mv iU kY;have rC:=Rs ⟨gA,eS⟩ hd;have Cc:=Rt ⟨gA,eS⟩ hd;have dn:=FF l1 l2;refine aa (λp1 => ?_) (λp=>congrArg QE (rC λh=>p (decide_eq_true h.1)).symm);refine aa (λp2 => ?_) (λp=>congrArg QE (rC λh=>p (decide_eq_true h.2.1)).symm);refine aa (λp3 => ?_) (λp=>congrArg QE (rC λh=>p (decide_eq_true h.2.2.1)).symm);replace p1:=of_decide_eq_true p1;replace p2:=of_decide_eq_true p2;replace p3:=of_decide_eq_true p3;rw [if_pos p1,if_pos p2,if_pos p3]
 have fin:Bd (n1*d2.tdiv (Int.gcd d1 d2:Nat)+n2*d1.tdiv (Int.gcd d1 d2:Nat))->∀x:Int,x=IntKind.i64.wrap (n1*d2.tdiv (Int.gcd d1 d2:Nat)+n2*d1.tdiv (Int.gcd d1 d2:Nat))->(∃(a_:Int),∃(bC:Int),∃(bI:Int),∃(bu:Int),∃(bJ:Int),∃(cL:Int),(Vq w 104 #[.int .i64 x,.int .i64 (d1.tdiv (Int.gcd d1 d2:Nat)*d2),.int .i64 k1,.int .i64 s1,.int .i64 t1] (.tuple #[.agg #[.int .i64 a_,.int .i64 bC,.int .i64 bI,.int .i64 bu,.int .i64 bJ],.int .i64 cL]))/\(.tuple #[.agg #[.int .i64 a_,.int .i64 bC,.int .i64 bI,.int .i64 bu,.int .i64 bJ],.int .i64 cL]:Value)=QE (jk n1 d1 k1 s1 t1 n2 d2 k2 s2 t2)):=by
  intro hb x hx;rw [sY hb]at hx;subst hx;exact⟨_,_,_,_,_,_,λw' _=>Lx _ _ k1 s1 t1 w' hb p3 dn,congrArg QE (Cc ⟨p1,p2,p3,hb⟩).symm⟩
 refine aa (λz1 => ?_) (λz1 => ?_)
 ·rintro aS rD;rw [zk (by omega)]at rD;refine aa (λz2=>congrArg QE (rC λh=>by omega).symm) (λz2=>aa (λz3=>absurd z1 (by omega)) λ_=>fin (by omega))
 ·refine aa (λz2 => ?_) (λz2=>fin (by omega));rintro aS rD;rw [zk (by omega)]at rD;exact aa (λz3=>congrArg QE (rC λh=>by omega).symm) (λz3=>fin (by omega))
def oz(n1 d1 k1 s1 t1 n2 d2 k2 s2 t2:Int):Qr:=if iy n2 d2 k2 s2 t2=true then jk n1 d1 k1 s1 t1 (-n2) d2 k2 s2 t2 else lR 2
theorem VX(n1 d1 k1 s1 t1 n2 d2 k2 s2 t2:Int)(w:World):Calls Tryz.prog 51 #[QV n1 d1 k1 s1 t1,QV n2 d2 k2 s2 t2] w (Vc.aR (QE (oz n1 d1 k1 s1 t1 n2 d2 k2 s2 t2)) w):=by
 refine Vj n1 d1 k1 s1 t1 n2 d2 k2 s2 t2 w _ ⟨_,λw' _=>yX n2 d2 k2 s2 t2 w', ?_⟩;unfold oz;refine aa (λhc => ?_) (λhc=>by rw [if_neg hc];rfl);rw [if_pos hc];have hb:=(ub hc).1;rintro ar oA;rw [zk (by omega),Int.zero_sub]at oA;subst oA;exact⟨_,_,_,_,_,_,λw' _=>Ru _ _ _ _ _ _ _ _ _ _ w',rfl⟩
theorem VY(n1 d1 k1 s1 t1 n2 d2 k2 s2 t2:Int)(w:World):Calls Tryz.prog 101 #[QV n1 d1 k1 s1 t1,QV n2 d2 k2 s2 t2] w (Vc.aR (QE (oz n1 d1 k1 s1 t1 n2 d2 k2 s2 t2)) w):=by
 refine Vr n1 d1 k1 s1 t1 n2 d2 k2 s2 t2 w _ ⟨_,λw' _=>yY n2 d2 k2 s2 t2 w', ?_⟩;unfold oz;refine aa (λhc => ?_) (λhc=>by rw [if_neg hc];rfl);rw [if_pos hc];have hb:=(ub hc).1;rintro ar oA;rw [zk (by omega),Int.zero_sub]at oA;subst oA;exact⟨_,_,_,_,_,_,λw' _=>Rv _ _ _ _ _ _ _ _ _ _ w',rfl⟩
def kZ(n1 d1 n2 d2:Int):Int:=n1.tdiv (Int.gcd n1 d2:Nat)*n2.tdiv (Int.gcd n2 d1:Nat)
def jO(n1 d1 n2 d2:Int):Int:=d1.tdiv (Int.gcd n2 d1:Nat)*d2.tdiv (Int.gcd n1 d2:Nat)
def fU(n1 d1 k1 s1 t1 n2 d2 k2 s2 t2:Int):Qr :=
 if iy n1 d1 k1 s1 t1=true/\iy n2 d2 k2 s2 t2=true then
  if Bd (kZ n1 d1 n2 d2)/\Bd (jO n1 d1 n2 d2)then fN (kZ n1 d1 n2 d2) (jO n1 d1 n2 d2) (k1+k2) (s1+s2) (t1+t2)
  else lR 4
 else lR 2
section
variable {n1 d1 k1 s1 t1 n2 d2 k2 s2 t2:Int}
theorem Hq(h:¬(iy n1 d1 k1 s1 t1=true/\iy n2 d2 k2 s2 t2=true)):fU n1 d1 k1 s1 t1 n2 d2 k2 s2 t2=lR 2:=by
 unfold fU;rw [if_neg h]
theorem Rw(h:iy n1 d1 k1 s1 t1=true/\iy n2 d2 k2 s2 t2=true)(hb:¬(Bd (kZ n1 d1 n2 d2)/\Bd (jO n1 d1 n2 d2))):fU n1 d1 k1 s1 t1 n2 d2 k2 s2 t2=lR 4:=by
 unfold fU;rw [if_pos h,if_neg hb]
theorem Rx(h:iy n1 d1 k1 s1 t1=true/\iy n2 d2 k2 s2 t2=true)(hb:Bd (kZ n1 d1 n2 d2)/\Bd (jO n1 d1 n2 d2)):fU n1 d1 k1 s1 t1 n2 d2 k2 s2 t2=fN (kZ n1 d1 n2 d2) (jO n1 d1 n2 d2) (k1+k2) (s1+s2) (t1+t2):=by
 unfold fU;rw [if_pos h,if_pos hb]
theorem Ry(h1:1<=d1)(h2:1<=d2):jO n1 d1 n2 d2≠0:=by
 have h3:=Ly (by omega:0<d1) (by omega) (FE n2 d1);have h4:=Ly (by omega:0<d2) (by omega) (FE n1 d2)
 have:=Int.mul_pos h3 h4
 unfold jO;omega
end
theorem Rz{x y x' y' k s t:Int}(h1:x=x')(h2:y=y'):QE (fN x y k s t)=QE (fN x' y' k s t):=by rw [h1,h2]
theorem LA(n1 d1 k1 s1 t1 n2 d2 k2 s2 t2:Int)(w:World):Calls Tryz.prog 95 #[QV n1 d1 k1 s1 t1,QV n2 d2 k2 s2 t2] w (Vc.aR (QE (fU n1 d1 k1 s1 t1 n2 d2 k2 s2 t2)) w):=by
 refine Vk n1 d1 k1 s1 t1 n2 d2 k2 s2 t2 w _ ⟨_,λw' _=>yX n1 d1 k1 s1 t1 w', ?_⟩;refine aa (λgA => ?_) (λhc=>congrArg QE (Hq (λh=>hc h.1)).symm);refine⟨_,λw' _=>yX n2 d2 k2 s2 t2 w', ?_⟩;refine aa (λeS => ?_) (λhc=>congrArg QE (Hq (λh=>hc h.2)).symm);obtain⟨b1,l1,u1,_⟩:=ub gA;obtain⟨b2,l2,u2,_⟩:=ub eS;have m1:=Az gA;have m2:=Az eS;have g0:((Int.gcd n1 d2:Nat):Int)≠0:=xW (by omega);have h0:((Int.gcd n2 d1:Nat):Int)≠0:=xW (by omega);refine⟨_,λw' _=>Fy n1 d2 w' b1 ⟨by omega,u2⟩,_,λw' _=>Fy n2 d1 w' b2 ⟨by omega,u1⟩,g0, ?_⟩;rintro aA mw;rw [py b1]at mw;refine⟨h0, ?_⟩;rintro au iU;rw [py b2]at iU;refine⟨_,_,λw' _=>FA aA au w' (by rw [mw];exact sX b1) (by rw [iU];exact sX b2),h0, ?_⟩;rintro aD kY;rw [py ⟨by omega,u1⟩]at kY;refine⟨g0, ?_⟩;rintro az sZ;rw [py ⟨by omega,u2⟩]at sZ;refine⟨_,_,λw' _=>FA aD az w' (by rw [kY];exact sX ⟨by omega,u1⟩) (by rw [sZ];exact sX ⟨by omega,u2⟩), ?_⟩;subst mw iU kY sZ;have rC:=Rw ⟨gA,eS⟩;have Cc:=Rx ⟨gA,eS⟩;have dn:=Ry (n1:=n1) (n2:=n2) l1 l2;refine aa (λp1 => ?_) (λp=>congrArg QE (rC λh=>p (decide_eq_true h.1)).symm);refine aa (λp2 => ?_) (λp=>congrArg QE (rC λh=>p (decide_eq_true h.2)).symm);replace p1:Bd (kZ n1 d1 n2 d2):=of_decide_eq_true p1;replace p2:Bd (jO n1 d1 n2 d2):=of_decide_eq_true p2;rintro aU xe bh xf a_ xg;rw [zk (by omega)]at xe xf xg;subst xe xf xg;refine⟨_,_,_,_,_,_,λw' _=>Lw _ _ _ _ _ w' ?_ ?_ ?_, ?_⟩
 ·exact (congrArg Bd (sY p1)).mpr p1
 ·exact (congrArg Bd (sY p2)).mpr p2
 ·exact λh=>dn ((sY p2).symm.trans h)
 ·rw [Cc ⟨p1,p2⟩];exact Rz (sY p1) (sY p2)
theorem LB(n1 d1 k1 s1 t1 n2 d2 k2 s2 t2:Int)(w:World):Calls Tryz.prog 102 #[QV n1 d1 k1 s1 t1,QV n2 d2 k2 s2 t2] w (Vc.aR (QE (fU n1 d1 k1 s1 t1 n2 d2 k2 s2 t2)) w):=by
 refine Vs n1 d1 k1 s1 t1 n2 d2 k2 s2 t2 w _ ⟨_,λw' _=>yY n1 d1 k1 s1 t1 w', ?_⟩;refine aa (λgA => ?_) (λhc=>congrArg QE (Hq (λh=>hc h.1)).symm);refine⟨_,λw' _=>yY n2 d2 k2 s2 t2 w', ?_⟩;refine aa (λeS => ?_) (λhc=>congrArg QE (Hq (λh=>hc h.2)).symm);obtain⟨b1,l1,u1,_⟩:=ub gA;obtain⟨b2,l2,u2,_⟩:=ub eS;have m1:=Az gA;have m2:=Az eS;have g0:((Int.gcd n1 d2:Nat):Int)≠0:=xW (by omega);have h0:((Int.gcd n2 d1:Nat):Int)≠0:=xW (by omega);refine⟨_,λw' _=>Fz n1 d2 w' b1 ⟨by omega,u2⟩,_,λw' _=>Fz n2 d1 w' b2 ⟨by omega,u1⟩,g0, ?_⟩;rintro aA mw;rw [py b1]at mw;refine⟨h0, ?_⟩;rintro au iU;rw [py b2]at iU;refine⟨_,_,λw' _=>FD aA au w' (by rw [mw];exact sX b1) (by rw [iU];exact sX b2),h0, ?_⟩;rintro aD kY;rw [py ⟨by omega,u1⟩]at kY;refine⟨g0, ?_⟩;rintro az sZ;rw [py ⟨by omega,u2⟩]at sZ;refine⟨_,_,λw' _=>FD aD az w' (by rw [kY];exact sX ⟨by omega,u1⟩) (by rw [sZ];exact sX ⟨by omega,u2⟩), ?_⟩;subst mw iU kY sZ;have rC:=Rw ⟨gA,eS⟩;have Cc:=Rx ⟨gA,eS⟩;have dn:=Ry (n1:=n1) (n2:=n2) l1 l2;refine aa (λp1 => ?_) (λp=>congrArg QE (rC λh=>p (decide_eq_true h.1)).symm);refine aa (λp2 => ?_) (λp=>congrArg QE (rC λh=>p (decide_eq_true h.2)).symm);replace p1:Bd (kZ n1 d1 n2 d2):=of_decide_eq_true p1;replace p2:Bd (jO n1 d1 n2 d2):=of_decide_eq_true p2;rintro aU xe bh xf a_ xg;rw [zk (by omega)]at xe xf xg;subst xe xf xg;refine⟨_,_,_,_,_,_,λw' _=>Lx _ _ _ _ _ w' ?_ ?_ ?_, ?_⟩
 ·exact (congrArg Bd (if_pos p1)).mpr p1
 ·exact (congrArg Bd (if_pos p2)).mpr p2
 ·exact λh=>dn ((if_pos p2).symm.trans h)
 ·rw [Cc ⟨p1,p2⟩];exact Rz (if_pos p1) (if_pos p2)
def lS(n1 d1 k1 s1 t1 n2 d2 k2 s2 t2:Int):Qr :=
 if iy n1 d1 k1 s1 t1=true/\iy n2 d2 k2 s2 t2=true/\n2≠0 then
  if n2<0 then fU n1 d1 k1 s1 t1 (-d2) (-n2) (-k2) (-s2) (-t2)else fU n1 d1 k1 s1 t1 d2 n2 (-k2) (-s2) (-t2)
 else lR 2
theorem C'{n1 d1 k1 s1 t1 n2 d2 k2 s2 t2:Int}(h:¬(iy n1 d1 k1 s1 t1=true/\iy n2 d2 k2 s2 t2=true/\n2≠0)):lS n1 d1 k1 s1 t1 n2 d2 k2 s2 t2=lR 2:=by
 unfold lS;rw [if_neg h]
theorem RB{n1 d1 k1 s1 t1 n2 d2 k2 s2 t2:Int}(h:iy n1 d1 k1 s1 t1=true/\iy n2 d2 k2 s2 t2=true/\n2≠0)(h2:n2<0):lS n1 d1 k1 s1 t1 n2 d2 k2 s2 t2=fU n1 d1 k1 s1 t1 (-d2) (-n2) (-k2) (-s2) (-t2):=by
 unfold lS;rw [if_pos h,if_pos h2]
theorem RC{n1 d1 k1 s1 t1 n2 d2 k2 s2 t2:Int}(h:iy n1 d1 k1 s1 t1=true/\iy n2 d2 k2 s2 t2=true/\n2≠0)(h2:¬n2<0):lS n1 d1 k1 s1 t1 n2 d2 k2 s2 t2=fU n1 d1 k1 s1 t1 d2 n2 (-k2) (-s2) (-t2):=by
 unfold lS;rw [if_pos h,if_neg h2]
theorem LC(n1 d1 k1 s1 t1 n2 d2 k2 s2 t2:Int)(w:World):Calls Tryz.prog 96 #[QV n1 d1 k1 s1 t1,QV n2 d2 k2 s2 t2] w (Vc.aR (QE (lS n1 d1 k1 s1 t1 n2 d2 k2 s2 t2)) w):=by
 refine Vm n1 d1 k1 s1 t1 n2 d2 k2 s2 t2 w _ ⟨_,λw' _=>yX n1 d1 k1 s1 t1 w', ?_⟩;refine aa (λgA => ?_) (λhc=>congrArg QE (C' (λh=>hc h.1)).symm);refine⟨_,λw' _=>yX n2 d2 k2 s2 t2 w', ?_⟩;refine aa (λeS => ?_) (λhc=>congrArg QE (C' (λh=>hc h.2.1)).symm);refine aa (λhz=>congrArg QE (C' (λh=>h.2.2 hz)).symm) (λhz => ?_);obtain⟨b2,l2,u2,_⟩:=ub eS;have m2:=Az eS;refine aa (λhn => ?_) (λhn => ?_)
 ·rintro ar oA aC mv aA mw au iU ao xh;rw [zk (by omega)]at oA mv mw iU xh;obtain rfl:ar = -d2:=by omega
  obtain rfl:aC = -n2:=by omega
  obtain rfl:aA = -k2:=by omega
  obtain rfl:au = -s2:=by omega
  obtain rfl:ao = -t2:=by omega
  exact⟨_,_,_,_,_,_,λw' _=>LA _ _ _ _ _ _ _ _ _ _ w',congrArg QE (RB ⟨gA,eS,hz⟩ hn).symm⟩
 ·rintro ar oA aC mv aA mw au iU ao xh;rw [zk (by omega)]at oA mv mw iU xh;obtain rfl:ar=d2:=by omega
  obtain rfl:aC=n2:=by omega
  obtain rfl:aA = -k2:=by omega
  obtain rfl:au = -s2:=by omega
  obtain rfl:ao = -t2:=by omega
  exact⟨_,_,_,_,_,_,λw' _=>LA _ _ _ _ _ _ _ _ _ _ w',congrArg QE (RC ⟨gA,eS,hz⟩ hn).symm⟩
theorem LD(n1 d1 k1 s1 t1 n2 d2 k2 s2 t2:Int)(w:World):Calls Tryz.prog 103 #[QV n1 d1 k1 s1 t1,QV n2 d2 k2 s2 t2] w (Vc.aR (QE (lS n1 d1 k1 s1 t1 n2 d2 k2 s2 t2)) w):=by
 refine Vt n1 d1 k1 s1 t1 n2 d2 k2 s2 t2 w _ ⟨_,λw' _=>yY n1 d1 k1 s1 t1 w', ?_⟩;refine aa (λgA => ?_) (λhc=>congrArg QE (C' (λh=>hc h.1)).symm);refine⟨_,λw' _=>yY n2 d2 k2 s2 t2 w', ?_⟩;refine aa (λeS => ?_) (λhc=>congrArg QE (C' (λh=>hc h.2.1)).symm);refine aa (λhz=>congrArg QE (C' (λh=>h.2.2 hz)).symm) (λhz => ?_);obtain⟨b2,l2,u2,_⟩:=ub eS;have m2:=Az eS;rintro aA mw au iU ao xh;rw [zk (by omega)]at mw iU xh;obtain rfl:aA = -k2:=by omega
 obtain rfl:au = -s2:=by omega
 obtain rfl:ao = -t2:=by omega
 refine aa (λhn => ?_) (λhn => ?_)
 ·rintro ar oA aC mv;rw [zk (by omega)]at oA mv;obtain rfl:ar = -d2:=by omega
  obtain rfl:aC = -n2:=by omega
  exact⟨_,_,_,_,_,_,λw' _=>LB _ _ _ _ _ _ _ _ _ _ w',congrArg QE (RB ⟨gA,eS,hz⟩ hn).symm⟩
 ·exact⟨_,_,_,_,_,_,λw' _=>LB _ _ _ _ _ _ _ _ _ _ w',congrArg QE (RC ⟨gA,eS,hz⟩ hn).symm⟩
end Go.Proofs.YtpfgephckjpcjaaGreatDoor
