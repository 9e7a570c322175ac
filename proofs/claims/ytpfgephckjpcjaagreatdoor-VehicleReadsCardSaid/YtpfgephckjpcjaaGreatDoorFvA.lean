import Derived.Test.YtpfgephckjpcjaaGreatDoorLz
import Derived.Test.YtpfgephckjpcjaaGreatDoorFvG1
import Derived.WalkKit
import Derived.Lib.Mul64
import Derived.Lib.BitFns
import Derived.Lib.ItoaNum
namespace Ul
def One:Int:=4294967296
def ok(lo hi:Int):Bool:=decide (-9223372036854775807<=lo) && decide (-9223372036854775807<=hi) && decide (lo<=hi)
def A2(lo hi:Int):Int:=if ok lo hi then 0 else 2
abbrev R:=Int × Int × Int
def fit(lo hi:Int):R:=if -9223372036854775807<=lo/\lo<=9223372036854775807 /\ -9223372036854775807<=hi/\hi<=9223372036854775807 then (lo,hi,0)else (0,0,4)
def fl(x y:Int):Int:=x / y
def ce(x y:Int):Int := -((-x) / y)
def KT(a b c d:Int):Int:=min (min (min a b) c) d
def KU(a b c d:Int):Int:=max (max (max a b) c) d
def B7(x y:Int):Int:=if y<0 then fl (-(x*4294967296)) (-y)else fl (x*4294967296) y
def B8(x y:Int):Int:=if y<0 then ce (-(x*4294967296)) (-y)else ce (x*4294967296) y
def div(a b c d:Int):R :=
 if ok a b && ok c d then
  if c<=0/\0<=d then (0,0,10)
  else fit (KT (B7 a c) (B7 a d) (B7 b c) (B7 b d)) (KU (B8 a c) (B8 a d) (B8 b c) (B8 b d))
 else (0,0,2)
def least(a b c d:Int):R:=if ok a b && ok c d then (min a c,min b d,0)else (0,0,2)
def meet(a b c d:Int):R :=
 if ok a b && ok c d then (if min b d<max a c then (0,0,7)else (max a c,min b d,0))else (0,0,2)
def wide(a b:Int):Int × Int:=if ok a b then (if 9223372036854775807<b-a then (0,4)else (b-a,0))else (0,2)
def order(a b c d:Int):Int:=if ok a b && ok c d then (if b<c then -1 else if d<a then 1 else 0)else 0
def sign(a b:Int):Int:=order a b 0 0
def ofInt(n:Int):R:=fit (n*4294967296) (n*4294967296)
def vh(n:Int):Prop := -9223372036854775808<=n/\n<=9223372036854775807
end Ul
set_option linter.unusedVariables false
set_option linter.unusedSimpArgs false
namespace Vc
open Go Go.RowKit
theorem aa{p A B:Prop}(a:p->A)(b:¬p->B):(p->A)/\(¬p->B):=⟨a,b⟩
theorem aR.as{P:Program}{f:FuncId}{args:Array Value}{W:World}{u v:Value}(h:Calls P f args W (aR u W))(e:u=v):Calls P f args W (aR v W):=e▸h
theorem KV{k:IntKind}{a a':Int}(h:a=a'):Value.int k a=.int k a':=by rw [h]
theorem xV{a a':Bool}(h:a=a'):Value.bool a=.bool a':=by rw [h]
abbrev S(lo hi:Int):Value := .agg #[.int .i64 lo,.int .i64 hi]
abbrev RV(r:Ul.R):Value := .tuple #[S r.1 r.2.1,.int .i64 r.2.2]
end Vc
set_option linter.unusedVariables false
namespace Go.Proofs.YtpfgephckjpcjaaGreatDoor
open Go Go.RowKit Ul Vc
attribute [local irreducible] Go.Calls
theorem KW(x:Int)(w:World):Calls Tryz.prog 147 #[.int .i64 x] w (Vc.aR (.bool (decide (-9223372036854775807<=x))) w):=by
 refine Vz x w _ ?_;simp
theorem Rf(a b:Int)(w:World):Calls Tryz.prog 122 #[Vc.S a b] w (Vc.aR (.int .i64 (A2 a b)) w):=by
 refine VA a b w _ ?_
 (repeat' (first | (intro _ hx) | ((repeat apply Exists.intro);first|refine And.intro (λ_ _=>KW _ _) ?_) | (refine Vc.aa (λh => ?_) (λh => ?_)) | (refine And.intro (by omega) ?_)))
 all_goals (simp_all [A2,ok]<;>omega)
def rr(a b c d:Int):Int:=if ok a b && ok c d then 0 else 2
theorem KX{b:Nat}{x y z u:Int}{t:TypeId}{w:World}(h:w.heap[b]? = some (.cells #[.int .i64 x,.int .i64 y,.int .i64 z,.int .i64 u] t)) :
  Calls Tryz.prog 82 #[.slice (some ⟨b,0,none⟩) 2 2] w (Vc.aR (.int .i64 (rr x y z u)) w):=by
 refine VC (b,0) w _ ?_;refine⟨x,by simp [World.cell?,h],y,by simp [World.cell?,h], ?_⟩
 (repeat apply Exists.intro);refine And.intro (λ_ _=>Rf _ _ _) ?_
 refine aa (λh1=>⟨z,by simp [World.cell?,h],u,by simp [World.cell?,h], ?_⟩) (λh1 => ?_)
 ·(repeat' (first | (intro _ hx) | ((repeat apply Exists.intro);first|refine And.intro (λ_ _=>Rf _ _ _) ?_) | (refine Vc.aa (λh => ?_) (λh => ?_)) | (refine And.intro (by omega) ?_)))
  all_goals (simp_all [rr,A2])
 ·simp_all [rr,A2]
end Go.Proofs.YtpfgephckjpcjaaGreatDoor
set_option linter.unusedVariables false
namespace Ul
theorem E'(a b A B:Int)(ha:0<=a)(hb:0<=b)(hA:a<=A)(hB:b<=B):0<=a*b/\a*b<=A*B :=
 ⟨Int.mul_nonneg ha hb,Int.mul_le_mul hA hB hb (by omega)⟩
structure C6(u v y q r:Int):Prop where
 eq:u=q*(y / 4294967296)+r
 lo:(u*4294967296+v) / y<=q
 hi:q<=4294967297
 pos:0<=r
theorem Hi(u v y:Int)(hu:0<=u)(KY:u<y)(hv:0<=v)(tI:v<4294967296)(hy:9223372036854775808<=y)(gv:y<18446744073709551616) :
  C6 u v y (u / (y / 4294967296)) (u-u / (y / 4294967296)*(y / 4294967296)):=by
 have xM:2147483648<=y / 4294967296:=by omega
 have G_:y / 4294967296<4294967296:=by omega
 have ey:y=(y / 4294967296)*4294967296+y % 4294967296:=by omega
 generalize hd:y / 4294967296=d at *;generalize he:y % 4294967296=e at *;have Jv:0<=e:=by omega
 have Bg:e<4294967296:=by omega
 have hq:u=u / d*d+u % d:=by have:=Int.mul_ediv_add_emod u d;rw [Int.mul_comm]at this;omega
 have Rh:0<=u % d:=Int.emod_nonneg _ (by omega);refine⟨by rw [hd];omega, ?_, ?_,by omega⟩
 ·rw [Int.le_ediv_iff_mul_le (by omega)];have h1:(u*4294967296+v) / y*y<=u*4294967296+v:=Int.ediv_mul_le _ (by omega);have h0:0<=(u*4294967296+v) / y:=Int.ediv_nonneg (by omega) (by omega);generalize (u*4294967296+v) / y=q1 at *;rw [ey]at h1;have h2:0<=q1*e:=Int.mul_nonneg h0 Jv;have h3:q1*(d*4294967296+e)=(q1*d)*4294967296+q1*e:=by grind
  omega
 ·have:u / d<4294967298:=by
   rw [Int.ediv_lt_iff_lt_mul (by omega)];omega
  omega
theorem uK(u v y:Int)(hu:0<=u)(KY:u<y)(hv:0<=v)(tI:v<4294967296)(hy:9223372036854775808<=y):(u*4294967296+v) / y<4294967296:=by
 rw [Int.ediv_lt_iff_lt_mul (by omega)];omega
theorem Ap(u v y q r:Int)(h:C6 u v y q r)(hu:0<=u)(KY:u<y)(hv:0<=v)(tI:v<4294967296)(hy:9223372036854775808<=y)(gv:y<18446744073709551616)
  (hc:4294967296<=q∨4294967296*r+v<q*(y % 4294967296)):C6 u v y (q-1) (r+y / 4294967296)/\q-1<=4294967296/\1<=q:=by
 obtain⟨h1,h2,h3,h4⟩:=h;have hl:=uK u v y hu KY hv tI hy;have h0:0<=(u*4294967296+v) / y:=Int.ediv_nonneg (by omega) (by omega)
 have eD:(u*4294967296+v) / y<q:=by
  rcases hc with hc|hc
  ·omega
  ·rw [Int.ediv_lt_iff_lt_mul (by omega)];have ey:y=(y / 4294967296)*4294967296+y % 4294967296:=by omega
   generalize y / 4294967296=d at *;generalize y % 4294967296=e at *;rw [ey,h1]
   have:q*(d*4294967296+e)=(q*d)*4294967296+q*e:=by grind
   omega
 refine⟨⟨?_,by omega,by omega,by omega⟩,by omega,by omega⟩;rw [h1];grind
theorem Fa(u v y q r:Int)(h:C6 u v y q r)(hy:9223372036854775808<=y)(hc:q*(y % 4294967296)<=4294967296*r+v):q=(u*4294967296+v) / y:=by
 obtain⟨h1,h2,h3,h4⟩:=h
 have:q<=(u*4294967296+v) / y:=by
  rw [Int.le_ediv_iff_mul_le (by omega)];have ey:y=(y / 4294967296)*4294967296+y % 4294967296:=by omega
  generalize y / 4294967296=d at *;generalize y % 4294967296=e at *;rw [ey,h1]
  have:q*(d*4294967296+e)=(q*d)*4294967296+q*e:=by grind
  omega
 omega
theorem Aq(u v y q r:Int)(h:C6 u v y q r)(hy:9223372036854775808<=y)(hv:0<=v)(hu:0<=u)(hq:q<=4294967296)(hr:4294967296<=r):q=(u*4294967296+v) / y:=by
 refine Fa u v y q r h hy ?_;obtain⟨h1,h2,h3,h4⟩:=h;have h0:0<=(u*4294967296+v) / y:=Int.ediv_nonneg (by omega) (by omega)
 have:=E' q (y % 4294967296) 4294967296 4294967296 (by omega) (by omega) hq (by omega)
 omega
theorem VS(u a b y:Int)(hy:0<y):((u*4294967296+a)*4294967296+b) / y=((u*4294967296+a) / y)*4294967296+(((u*4294967296+a) % y)*4294967296+b) / y
  /\ ((u*4294967296+a)*4294967296+b) % y=(((u*4294967296+a) % y)*4294967296+b) % y:=by
 have h:=Int.mul_ediv_add_emod (u*4294967296+a) y;generalize (u*4294967296+a) / y=q at *;generalize (u*4294967296+a) % y=r at *;have e:(u*4294967296+a)*4294967296+b=(r*4294967296+b)+y*(q*4294967296):=by rw [<-h];grind
 rw [e,Int.add_mul_ediv_left _ _ (by omega),Int.add_mul_emod_self_left];exact⟨by omega,rfl⟩
theorem KZ(n y k:Int)(hk:0<k)(hy:0<y):(n*k) / (y*k)=n / y/\(n*k) % (y*k) / k=n % y:=by
 constructor
 ·exact Int.mul_ediv_mul_of_pos_left _ _ hk
 ·rw [Int.mul_comm n k,Int.mul_comm y k,Int.mul_emod_mul_of_pos _ _ hk,Int.mul_ediv_cancel_left _ (by omega)]
end Ul
set_option linter.unusedVariables false
namespace Ul
theorem sW(k:Nat):(0:Int)<2 ^ k:=Int.pow_pos (by decide)
end Ul
set_option linter.unusedVariables false
namespace Ul
open Go Go.RowKit
def val(h l:Int):Int:=h*18446744073709551616+l
def eU(v:Int):Int:=v / 18446744073709551616
def gH(v:Int):Int:=v % 18446744073709551616
theorem K0(v:Int):val (eU v) (gH v)=v:=by unfold val eU gH;omega
theorem Ar(v:Int):0<=gH v/\gH v<=18446744073709551615:=by unfold gH;omega
theorem Ri(v:Int)(h0:0<=v)(h1:v<=18446744073709551615):eU v=0/\gH v=v:=by unfold eU gH;omega
theorem mq(x:Int):IntKind.i64.wrap x=(x+9223372036854775808) % 18446744073709551616-9223372036854775808:=IntKind.wrap_i64 x
theorem aL(x:Int):IntKind.u64.wrap x=x % 18446744073709551616:=by
 simp [IntKind.wrap,IntKind.bits,IntKind.signed]
theorem Rj(x:Int):((BitVec.ofInt 64 x).toNat:Int)=x % 18446744073709551616:=by
 rw [BitVec.toNat_ofInt];simp;omega
def fT(n:Int):Int:=if n<0 then -n else n
theorem Hj(n:Int)(h:-9223372036854775808<=n)(h':n<=9223372036854775807):0<=fT n/\fT n<=9223372036854775808:=by unfold fT;split<;>omega
end Ul
set_option linter.unusedVariables false
namespace Ul
open Go Go.RowKit
theorem VT(a y:Int)(h0:0<=a)(y0:0<y):fl a y=a / y/\ce a y=if a % y=0 then a / y else a / y+1:=by
 refine⟨rfl, ?_⟩;unfold ce;have h3:=Int.mul_ediv_add_emod a y;have h4:=Int.emod_nonneg a (show y≠0 by omega);have h5:=Int.emod_lt_of_pos a y0;split
 ·rename_i h;have e:-a=y*(-(a / y)):=by rw [Int.mul_neg];omega
  rw [e,Int.mul_ediv_cancel_left _ (by omega)];omega
 ·rename_i h;have e:-a=(y-a % y)+y*(-(a / y+1)):=by rw [Int.mul_neg,Int.mul_add];omega
  rw [e,Int.add_mul_ediv_left _ _ (by omega),Int.ediv_eq_zero_of_lt (by omega) (by omega)];omega
def sv(n:Bool)(m:Int):Int:=if n then -m else m
abbrev VB(n:Bool)(m:Int):Value := .agg #[.bool n,.int .u64 (eU m),.int .u64 (gH m)]
def B9(m:Int):Prop:=0<=m/\m<340282366920938463463374607431768211456
theorem B_(m:Int)(h:B9 m):0<=eU m/\eU m<=18446744073709551615:=by obtain⟨h1,h2⟩:=h;unfold eU;omega
end Ul
set_option linter.unusedVariables false
namespace Go.Proofs.YtpfgephckjpcjaaGreatDoor
open Go Go.RowKit Ul Vc
attribute [local irreducible] Go.Calls
theorem Fb(x:Int)(h0:0<=x)(h1:x<=18446744073709551615):bits .and .u64 x 4294967295=x % 4294967296:=by
 obtain⟨a,rfl⟩:=Int.eq_ofNat_of_zero_le h0;have h:=bits_and_u64_nat a 4294967295 (by omega) (by omega);have e:a &&& 4294967295=a % 4294967296:=Nat.and_two_pow_sub_one_eq_mod a 32;rw [e]at h;exact h
theorem Fc(x y c:Int)(hx:0<=x)(hy:0<=y)(jJ:0<=c)(hc:c<=1)(w:World):(callFunc 166 #[.int .u64 x,.int .u64 y,.int .u64 c]).run Tryz.prog w =
  .ok (.value (.tuple #[.int .u64 ((x+y+c) % 18446744073709551616),.int .u64 ((x+y+c) / 18446744073709551616)])) w:=by
 rw [run_callFunc_extern Tryz.func166 (by kernel_rfl) (by kernel_rfl) (by kernel_rfl) (e:=add64Entry) (by kernel_rfl),run_add64 x y c hx hy jJ hc];rfl
theorem K1(x y:Int)(hx:0<=x)(hy:0<=y)(w:World):(callFunc 166 #[.int .u64 x,.int .u64 y,.int .u64 0]).run Tryz.prog w =
  .ok (.value (.tuple #[.int .u64 ((x+y) % 18446744073709551616),.int .u64 ((x+y) / 18446744073709551616)])) w:=by
 simpa using Fc x y 0 hx hy (Int.le_refl 0) (by decide) w
def ov:Array Value->Sem Value:=λargs=>do
  let (x, y, b) <-Extern.MathBitsCarry.three "Sub64" args
  pure (Extern.MathBitsCarry.pair ((x+Extern.MathBitsCarry.m64-y-b) % Extern.MathBitsCarry.m64) (if x<y+b then 1 else 0))
def w8(x y:Int):Int:=if x<y then 1 else 0
theorem Fe(x y:Int):0<=w8 x y/\w8 x y<=1:=by unfold w8;split<;>omega
theorem K3(x y b:Nat)(hb:b<=1)(w:World) :
  (ov #[.int .u64 x,.int .u64 y,.int .u64 b]).run Tryz.prog w =
   .ok (.tuple #[.int .u64 (((x+18446744073709551616-y-b) % 18446744073709551616:Nat):Int),.int .u64 ((if x<y+b then 1 else 0:Nat):Int)]) w:=by
 have:b=0∨b=1:=by omega
 rcases this with rfl|rfl<;>rfl
theorem w9(x y b:Int)(hx:0<=x)(hy:0<=y)(gv:y<=18446744073709551615)(iE:0<=b)(hb:b<=1)(w:World):(callFunc 165 #[.int .u64 x,.int .u64 y,.int .u64 b]).run Tryz.prog w =
  .ok (.value (.tuple #[.int .u64 ((x-y-b) % 18446744073709551616),.int .u64 (w8 x (y+b))])) w:=by
 obtain⟨x,rfl⟩:=Int.eq_ofNat_of_zero_le hx;obtain⟨y,rfl⟩:=Int.eq_ofNat_of_zero_le hy;obtain⟨b,rfl⟩:=Int.eq_ofNat_of_zero_le iE;have e1:(((x+18446744073709551616-y-b) % 18446744073709551616:Nat):Int)=((x:Int)-y-b) % 18446744073709551616:=by omega
 have e2:((if x<y+b then 1 else 0:Nat):Int)=w8 (x:Int) (y+b):=by unfold w8;split<;>split<;>omega
 rw [<-e1,<-e2];rw [run_callFunc_extern Tryz.func165 (by kernel_rfl) (by kernel_rfl) (by kernel_rfl) (e:=ov) (by kernel_rfl),K3 x y b (by omega)];rfl
theorem Hk(x y:Int)(hx:0<=x)(hy:0<=y)(gv:y<=18446744073709551615)(w:World):(callFunc 165 #[.int .u64 x,.int .u64 y,.int .u64 0]).run Tryz.prog w =
  .ok (.value (.tuple #[.int .u64 ((x-y) % 18446744073709551616),.int .u64 (w8 x y)])) w:=by
 simpa using w9 x y 0 hx hy gv (Int.le_refl 0) (by decide) w
def Hl(n1:Bool)(m1:Int)(n2:Bool)(m2:Int):Bool:=if n1 == n2 then n1 else if m1<m2 then n2 else n1
def Hm(n1:Bool)(m1:Int)(n2:Bool)(m2:Int):Int:=if n1 == n2 then m1+m2 else if m1<m2 then m2-m1 else m1-m2
theorem K4(m1 m2:Int):(m1<m2)↔(eU m1<eU m2∨(eU m1=eU m2/\gH m1<gH m2)):=by unfold eU gH;omega
theorem K5(n:Int)(w:World)(h:vh n):Calls Tryz.prog 148 #[.int .i64 n] w (Vc.aR (.int .u64 (fT n)) w):=by
 obtain⟨h,h'⟩:=h;refine VD _ w _ ?_
 (repeat' (first | (intro _ hx) | (refine Vc.aa (λh => ?_) (λh => ?_)) | (refine And.intro (by omega) ?_)))
 all_goals (simp only [Ul.aL]at *;refine KV ?_;unfold fT;split<;>omega)
theorem Ff(n:Int)(w:World)(h:vh n):Calls Tryz.prog 123 #[.int .i64 n] w (Vc.aR (VB (decide (n<0)) (fT n)) w):=by
 have hb:=Hj n h.1 h.2;have e:=Ri (fT n) (by omega) (by omega);refine VE _ w _ ?_
 (repeat' (first | (intro _ hx) | ((repeat apply Exists.intro);first|refine And.intro (λ_ _=>K5 _ _ h) ?_) | (refine Vc.aa (λh => ?_) (λh => ?_)) | (refine And.intro (by omega) ?_)))
 simp only [VB,e.1,e.2]
theorem Rk(n:Bool)(h l:Int)(w:World):Calls Tryz.prog 150 #[.agg #[.bool n,.int .u64 h,.int .u64 l]] w (Vc.aR (.bool (h == 0 && l == 0)) w):=by
 refine VG _ _ _ w _ ?_
 (repeat' (first | (intro _ hx) | (refine Vc.aa (λh => ?_) (λh => ?_)) | (refine And.intro (by omega) ?_)))
 all_goals simp_all
theorem Rl(n:Bool)(h l:Int)(w:World):Calls Tryz.prog 152 #[.agg #[.bool n,.int .u64 h,.int .u64 l]] w (Vc.aR (.bool (n && !(h == 0 && l == 0))) w):=by
 refine VH _ _ _ w _ ?_
 (repeat' (first | (intro _ hx) | ((repeat apply Exists.intro);first|refine And.intro (λ_ _=>Rk _ _ _ _) ?_) | (refine Vc.aa (λh => ?_) (λh => ?_)) | (refine And.intro (by omega) ?_)))
 all_goals simp_all
theorem Fg(n:Bool)(m:Int)(w:World)(h0:0<=m):Calls Tryz.prog 127 #[VB n m] w (Vc.aR (.tuple #[.int .i64 (if m<=9223372036854775807 then sv n m else 0),.bool (decide (m<=9223372036854775807))]) w):=by
 have hl:=Ar m;refine VM _ _ _ w _ ?_;have t2:∀{a b:Int} {p q:Bool},a=b->p=q->(Value.tuple #[.int .i64 a,.bool p])=.tuple #[.int .i64 b,.bool q]:=by rintro _ _ _ _ rfl rfl;rfl
 have e1:0<eU m->¬m<=9223372036854775807:=by unfold eU;omega
 have e2:¬0<eU m->9223372036854775807<gH m->¬m<=9223372036854775807:=by unfold eU gH;omega
 have e3:¬0<eU m->¬9223372036854775807<gH m->m<=9223372036854775807/\gH m=m:=by unfold eU gH;omega
 refine aa (λh1 => ?_) (λh1=>aa (λh2 => ?_) (λh2=>aa (λhn => ?_) (λhn => ?_)))
 ·rw [if_neg (e1 h1)];exact t2 rfl (by simpa using e1 h1)
 ·rw [if_neg (e2 h1 h2)];exact t2 rfl (by simpa using e2 h1 h2)
 ·obtain⟨q1,q2⟩:=e3 h1 h2;rintro _ rfl _ rfl;rw [if_pos q1];refine t2 ?_ (by simpa using q1);unfold sv;rw [if_pos hn,q2];simp only [Ul.mq];omega
 ·obtain⟨q1,q2⟩:=e3 h1 h2;rintro _ rfl;rw [if_pos q1];refine t2 ?_ (by simpa using q1);unfold sv;rw [if_neg hn,q2];simp only [Ul.mq];omega
theorem Fh(n1 n2:Bool)(m1 m2:Int)(w:World)(h1:0<=m1)(h2:0<=m2):Calls Tryz.prog 85 #[VB n1 m1,VB n2 m2] w (Vc.aR (Vc.RV (fit (sv n1 m1) (sv n2 m2))) w):=by
 have hf:fit (sv n1 m1) (sv n2 m2)=if m1<=9223372036854775807/\m2<=9223372036854775807 then (sv n1 m1,sv n2 m2,0)else (0,0,4):=by
  unfold fit sv;cases n1<;>cases n2<;>simp<;>(split<;>split<;>first|rfl|omega)
 refine VN _ _ _ _ _ _ w _ ?_
 (repeat apply Exists.intro);refine And.intro (λ_ _=>Fg n1 m1 _ h1) ?_
 (repeat apply Exists.intro);refine And.intro (λ_ _=>Fg n2 m2 _ h2) ?_
 rw [hf];refine aa (λc1=>aa (λc2 => ?_) (λc2 => ?_)) (λc1 => ?_)
 ·have c1:=of_decide_eq_true c1;have c2:=of_decide_eq_true c2;rw [if_pos c1,if_pos c2,if_pos ⟨c1,c2⟩]
 ·have c2:¬m2<=9223372036854775807:=by simpa using c2
  rw [if_neg (λh=>c2 h.2)]
 ·have c1:¬m1<=9223372036854775807:=by simpa using c1
  rw [if_neg (λh=>c1 h.1)]
theorem B'{b b':Bool}{k l:IntKind}{x x' y y':Int}(hb:b=b')(h:x=x')(h':y=y'):Value.agg #[.bool b,.int k x,.int l y]=.agg #[.bool b',.int k x',.int l y']:=by rw [hb,h,h']
theorem K6(n1 n2:Bool)(m1 m2:Int)(w:World)(h1:B9 m1)(h2:B9 m2)(h:m1+m2<340282366920938463463374607431768211456) :
  Calls Tryz.prog 151 #[VB n1 m1,VB n2 m2] w (Vc.aR (VB (Hl n1 m1 n2 m2) (Hm n1 m1 n2 m2)) w):=by
 have l1:=Ar m1;have l2:=Ar m2;have u1:=B_ m1 h1;have u2:=B_ m2 h2;have na:=Fe (gH m1) (gH m2);have nA:=Fe (gH m2) (gH m1);obtain⟨h1,Xw⟩:=h1;obtain⟨h2,Xx⟩:=h2;refine VJ _ _ _ _ _ _ w _ ?_;refine aa (λhn => ?_) (λhn => ?_)
 ·have hn:n1=n2:=Bool.eq_iff_iff.2 hn;refine⟨_,_,⟨rfl,K1 _ _ l1.1 l2.1⟩,_,_,⟨rfl,Fc _ _ _ u1.1 u2.1 (by omega) (by omega)⟩, ?_⟩;unfold Hl Hm;rw [if_pos (by simpa using hn),if_pos (by simpa using hn)];refine B' rfl ?_ ?_<;>(try unfold eU at *)<;>(try unfold gH at *)<;>omega
 ·have hn:¬(n1 == n2)=true:=by rw [beq_iff_eq];exact λe=>hn (Bool.eq_iff_iff.1 e)
  have hs:=K4 m1 m2;unfold Hl Hm;rw [if_neg hn,if_neg hn];refine aa (λc1 => ?_) (λc1=>aa (λc2=>aa (λc3 => ?_) (λc3 => ?_)) (λc2 => ?_))
  ·have eD:=hs.2 (.inl c1);refine⟨_,_,⟨rfl,Hk _ _ l2.1 l1.1 l1.2⟩,_,_,⟨rfl,w9 _ _ _ u2.1 u1.1 u1.2 nA.1 nA.2⟩, ?_⟩;rw [if_pos eD,if_pos eD];refine B' rfl ?_ ?_<;>unfold w8 eU gH at*<;> (try split)<;>omega
  ·have eD:=hs.2 (.inr ⟨c2,c3⟩);refine⟨_,_,⟨rfl,Hk _ _ l2.1 l1.1 l1.2⟩,_,_,⟨rfl,w9 _ _ _ u2.1 u1.1 u1.2 nA.1 nA.2⟩, ?_⟩;rw [if_pos eD,if_pos eD];refine B' rfl ?_ ?_<;>unfold w8 eU gH at*<;> (try split)<;>omega
  ·have eD:¬m1<m2:=by rw [hs];omega
   refine⟨_,_,⟨rfl,Hk _ _ l1.1 l2.1 l2.2⟩,_,_,⟨rfl,w9 _ _ _ u1.1 u2.1 u2.2 na.1 na.2⟩, ?_⟩;rw [if_neg eD,if_neg eD];refine B' rfl ?_ ?_<;>unfold w8 eU gH at*<;> (try split)<;>omega
  ·have eD:¬m1<m2:=by rw [hs];omega
   refine⟨_,_,⟨rfl,Hk _ _ l1.1 l2.1 l2.2⟩,_,_,⟨rfl,w9 _ _ _ u1.1 u2.1 u2.2 na.1 na.2⟩, ?_⟩;rw [if_neg eD,if_neg eD];refine B' rfl ?_ ?_<;>unfold w8 eU gH at*<;> (try split)<;>omega
theorem K7{a b c d:Int}(h:rr a b c d=0):(ok a b && ok c d)=true:=by
 unfold rr at h;split at h
 ·assumption
 ·cases h
theorem Fi{a b c d:Int}(h:¬rr a b c d=0):¬(ok a b && ok c d)=true/\rr a b c d=2:=by
 unfold rr at h ⊢;split at h
 ·exact absurd rfl h
 ·rename_i h1;exact⟨h1,by rw [if_neg h1]⟩
end Go.Proofs.YtpfgephckjpcjaaGreatDoor
set_option linter.unusedVariables false
namespace Go.Proofs.YtpfgephckjpcjaaGreatDoor
open Go Go.RowKit Ul Vc
attribute [local irreducible] Go.Calls
theorem K8(n1 n2:Bool)(m1 m2:Int)(w:World)(h1:0<=m1)(h2:0<=m2) :
  Calls Tryz.prog 126 #[VB n1 m1,VB n2 m2] w (Vc.aR (.bool (decide (sv n1 m1<sv n2 m2))) w):=by
 have l1:=Ar m1;have l2:=Ar m2
 have z1:(eU m1 == 0 && gH m1 == 0)=decide (m1=0):=by
  rw [Bool.eq_iff_iff];simp only [Bool.and_eq_true,beq_iff_eq,decide_eq_true_eq];unfold eU gH;omega
 have z2:(eU m2 == 0 && gH m2 == 0)=decide (m2=0):=by
  rw [Bool.eq_iff_iff];simp only [Bool.and_eq_true,beq_iff_eq,decide_eq_true_eq];unfold eU gH;omega
 have KS:=K4 m1 m2;have Xy:=K4 m2 m1;have b1:=Rl n1 (eU m1) (gH m1);have b2:=Rl n2 (eU m2) (gH m2);rw [z1]at b1;rw [z2]at b2;refine VI _ _ _ _ _ _ w _ ?_
 (repeat apply Exists.intro);refine And.intro (λ_ _=>b1 _) ?_
 (repeat apply Exists.intro);refine And.intro (λ_ _=>b2 _) ?_
 refine aa (λh => ?_) (λh => ?_)
 ·(repeat apply Exists.intro);refine And.intro (λ_ _=>b1 _) ?_
  unfold sv;refine aa (λg => ?_) (λg => ?_)
  ·have e2:=h.1 g;simp only [Bool.and_eq_true,Bool.not_eq_true',decide_eq_false_iff_not]at g e2;rw [if_pos g.1,if_pos e2.1];refine aa (λc1 => ?_) (λc1=>aa (λc2 => ?_) (λc2 => ?_))
   all_goals (refine xV ?_;rw [Bool.eq_iff_iff];simp only [decide_eq_true_eq,true_iff,Bool.false_eq_true,false_iff];omega)
  ·have e2:=mt h.2 g;have p1:sv n1 m1=m1:=by unfold sv;cases n1<;>simp_all
   have p2:sv n2 m2=m2:=by unfold sv;cases n2<;>simp_all
   unfold sv at p1 p2;rw [p1,p2];refine aa (λc1 => ?_) (λc1=>aa (λc2 => ?_) (λc2 => ?_))
   all_goals (refine xV ?_;rw [Bool.eq_iff_iff];simp only [decide_eq_true_eq,true_iff,Bool.false_eq_true,false_iff];omega)
 ·(repeat apply Exists.intro);refine And.intro (λ_ _=>b1 _) ?_
  refine xV ?_;rw [Bool.eq_iff_iff];unfold sv;cases n1<;>cases n2<;>simp at h ⊢<;>omega
abbrev VP(p:Bool × Int):Value:=VB p.1 p.2
def ru(p:Bool × Int):Int:=sv p.1 p.2
def jM(p q:Bool × Int):Bool × Int:=if ru q<ru p then q else p
def jN(p q:Bool × Int):Bool × Int:=if ru p<ru q then q else p
theorem K9(p q:Bool × Int):ru (jM p q)=min (ru p) (ru q):=by unfold jM;split<;>omega
theorem K_(p q:Bool × Int):ru (jN p q)=max (ru p) (ru q):=by unfold jN;split<;>omega
theorem C7{p q:Bool × Int}{B:Int}(hp:0<=p.2/\p.2<=B)(hq:0<=q.2/\q.2<=B):0<=(jM p q).2/\(jM p q).2<=B:=by unfold jM;split<;>assumption
theorem C8{p q:Bool × Int}{B:Int}(hp:0<=p.2/\p.2<=B)(hq:0<=q.2/\q.2<=B):0<=(jN p q).2/\(jN p q).2<=B:=by unfold jN;split<;>assumption
theorem Rm(p q:Bool × Int)(w:World)(hp:0<=p.2)(hq:0<=q.2) :
  Calls Tryz.prog 126 #[VP p,VP q] w (Vc.aR (.bool (decide (ru p<ru q))) w):=K8 _ _ _ _ w hp hq
end Go.Proofs.YtpfgephckjpcjaaGreatDoor
set_option linter.unusedVariables false
namespace Ul
open Go Go.RowKit
theorem La(y:Int)(h0:0<y)(h1:y<=18446744073709551615) :
  ∃s:Nat,s<=63/\64-(Lib.bitLen y.toNat:Int)=(s:Int)/\9223372036854775808<=y*2 ^ s/\y*2 ^ s<18446744073709551616:=by
 obtain⟨b1,b2,b3⟩:=Lib.bitLenAux_bounds 64 y.toNat (by omega) (by omega);have b4:Lib.bitLen y.toNat<=64:=Lib.bitLen_le _ 64 (by omega) (by omega);have e:Lib.bitLenAux 64 y.toNat=Lib.bitLen y.toNat:=rfl;rw [e]at b1 b2 b3;generalize Lib.bitLen y.toNat=L at *;refine⟨64-L,by omega,by omega, ?_, ?_⟩
 ·have h:=Nat.mul_le_mul_right (2 ^ (64-L)) b2;rw [<-Nat.pow_add,show L-1+(64-L)=63 by omega]at h
  have:((y.toNat*2 ^ (64-L):Nat):Int)=y*2 ^ (64-L):=by rw [Int.natCast_mul,Int.natCast_pow,Int.toNat_of_nonneg (by omega)];rfl
  omega
 ·have h:=Nat.mul_lt_mul_of_pos_right b3 (Nat.two_pow_pos (64-L));rw [<-Nat.pow_add,show L+(64-L)=64 by omega]at h
  have:((y.toNat*2 ^ (64-L):Nat):Int)=y*2 ^ (64-L):=by rw [Int.natCast_mul,Int.natCast_pow,Int.toNat_of_nonneg (by omega)];rfl
  omega
theorem VU(h l:Int)(s:Nat)(hs:s<=63)(h0:0<=h)(hk:h * 2 ^ s < 18446744073709551616)(l0:0<=l)(l1:l<=18446744073709551615) :
    0 <= h*2 ^ s/\0<=l / 2 ^ (64-s)/\l / 2 ^ (64-s)<2 ^ s /\
      (h*18446744073709551616+l)*2 ^ s=(h*2 ^ s+l / 2 ^ (64-s))*18446744073709551616+(l*2 ^ s) % 18446744073709551616/\h*2 ^ s+l / 2 ^ (64-s)<18446744073709551616+2 ^ s:=by
  have p1:=sW s;have p2:=sW (64-s);have e:(2:Int) ^ s*2 ^ (64-s)=18446744073709551616:=by rw [<-Int.pow_add,show s+(64-s)=64 by omega];decide
  have q0:0<=l / 2 ^ (64-s):=Int.ediv_nonneg l0 (by omega);have q1:l / 2 ^ (64-s)<2 ^ s:=by rw [Int.ediv_lt_iff_lt_mul p2];omega
  refine⟨Int.mul_nonneg h0 (by omega),q0,q1, ?_,by omega⟩
  have d:l*2 ^ s / 18446744073709551616=l / 2 ^ (64-s):=by
    rw [<-e,Int.mul_comm (2 ^ s)];exact Int.mul_ediv_mul_of_pos_left _ _ p1
  have m:=Int.mul_ediv_add_emod (l*2 ^ s) 18446744073709551616;rw [d]at m;rw [Int.add_mul,Int.add_mul];have c:h*18446744073709551616*2 ^ s=h*2 ^ s*18446744073709551616:=by grind
  omega
theorem yU(h l y u d1 d0 q1 q0:Int)(s:Nat)(hy:0<y)(hs:(h*18446744073709551616+l)*2 ^ s=u*18446744073709551616+(d1*4294967296+d0))
  (nf:q1=(u*4294967296+d1) / (y*2 ^ s)) (dJ:q0=((u*4294967296+d1) % (y*2 ^ s)*4294967296+d0) / (y*2 ^ s)) :
  q1*4294967296+q0=(h*18446744073709551616+l) / y/\((u*4294967296+d1) % (y*2 ^ s)*4294967296+d0) % (y*2 ^ s) / 2 ^ s=(h*18446744073709551616+l) % y:=by
 have p1:=sW s;have hp:0<y*2 ^ s:=Int.mul_pos hy p1;have t:=VS u d1 d0 (y*2 ^ s) hp;have sc:=KZ (h*18446744073709551616+l) y (2 ^ s) p1 hy;have e:(u*4294967296+d1)*4294967296+d0=(h*18446744073709551616+l)*2 ^ s:=by rw [hs];omega
 rw [e,sc.1]at t;refine⟨by rw [nf,dJ];exact t.1.symm, ?_⟩;rw [<-t.2];exact sc.2
theorem Fj(a b:Int)(s:Nat)(hs:s<=63)(x:Int)(ha:a=x*2 ^ s)(hx:0<=x)(hb:0<=b)(ji:b<2 ^ s)(Pe:a+b<18446744073709551616):bits .or .u64 a b=a+b:=by
 obtain⟨n,rfl⟩:=Int.eq_ofNat_of_zero_le hx;obtain⟨m,rfl⟩:=Int.eq_ofNat_of_zero_le hb;have e:a=((n*2 ^ s:Nat):Int):=by rw [ha,Int.natCast_mul,Int.natCast_pow];rfl
 have hm:m<2 ^ s:=by
  have:((2 ^ s:Nat):Int)=2 ^ s:=by rw [Int.natCast_pow];rfl
  omega
 have o:n*2 ^ s ||| m=n*2 ^ s+m:=by
  have:=Nat.two_pow_add_eq_or_of_lt hm n
  rw [Nat.mul_comm];exact this.symm
 have t1:(BitVec.ofInt 64 a).toNat=n*2 ^ s:=by
  have:=Rj a
  omega
 have t2:(BitVec.ofInt 64 (m:Int)).toNat=m:=by
  have:=Rj (m:Int)
  omega
 show IntKind.u64.wrap ((BitVec.ofInt 64 a ||| BitVec.ofInt 64 (m:Int)).toNat:Int)=_;rw [BitVec.toNat_or,t1,t2,o,aL];omega
end Ul
set_option linter.unusedVariables false
namespace Go.Proofs.YtpfgephckjpcjaaGreatDoor
open Go Go.RowKit Ul Vc
attribute [local irreducible] Go.Calls
theorem Lb(x:Int)(w:World)(h0:0<=x)(h1:x<=18446744073709551615) :
  Calls Tryz.prog 67 #[.int .u64 x] w (Vc.aR (.int .i64 (64-(Lib.bitLen x.toNat:Int))) w) :=
 (Vy x w h0 h1).mono λe w' ⟨he,hw⟩=>⟨he,by subst hw;exact Below.refl _ _⟩
def yV(u v y:Int)(l:List Vc.Vl):Prop:=∃q r,l=[.i q,.i r]/\C6 u v y q r/\r<4294967296
def ng(l:List Vc.Vl):Nat:=match l with | .i q::_=>q.toNat|_=>0
theorem Lc(h l y:Int)(w:World)(h0:0<=h)(eD:h<y)(xM:y<=18446744073709551615)(l0:0<=l)(l1:l<=18446744073709551615) :
  Calls Tryz.prog 27 #[.int .u64 h,.int .u64 l,.int .u64 y] w (Vc.aR (.tuple #[.int .u64 ((h*18446744073709551616+l) / y),.int .u64 ((h*18446744073709551616+l) % y)]) w):=by
 have hy:0<y:=by omega
 refine VK _ _ _ w _ ?_;refine aa (λhc=>absurd hc (by omega)) (λ_=>aa (λhc=>absurd hc (by omega)) (λ_=>aa (λhz => ?_) (λhz => ?_)))
 ·subst hz;refine⟨by omega, ?_⟩;rintro _ rfl;refine⟨by omega, ?_⟩;rintro _ rfl;have q0:0<=l / y:=Int.ediv_nonneg l0 (by omega);have q1:l / y<=l:=Int.ediv_le_self _ l0;rw [Int.tdiv_eq_ediv_of_nonneg l0,Int.tmod_eq_emod_of_nonneg l0,Ul.aL,Int.emod_eq_of_lt q0 (by omega)];simp
 ·obtain⟨s,hs,e1,t0,t1⟩:=La y hy xM
  have hk:h*2 ^ s<18446744073709551616:=by
   have:=Int.mul_le_mul_of_nonneg_right (Int.le_of_lt eD) (Int.le_of_lt (sW s));omega
  obtain⟨z1,z2,z3,z4,z5⟩:=VU h l s hs h0 hk l0 l1;have Ld:Nat.min (Int.toNat (s:Int)) 64=s:=Nat.min_eq_left (by omega)
  (repeat apply Exists.intro);refine And.intro (λ_ _=>Lb _ _ (by omega) xM) ?_
  rw [e1];intro x4 h4;have e4:x4=(s:Int):=by rw [h4,Ul.aL];omega
  subst e4;clear h4;rw [Ld];refine⟨by omega, ?_⟩;intro n hn;have hn:n=y*2 ^ s:=by rw [hn,Ul.aL];omega
  rw [<-hn]at t0 t1;rintro _ rfl n0 Fk;rw [Fb n (by omega) (by omega)]at Fk;subst Fk;refine⟨by omega, ?_⟩;intro x8 h8 x9 h9;have e8:x8=h*2 ^ s:=by rw [h8,Ul.aL];omega
  have e9:x9=((64-s:Nat):Int):=by rw [h9,Ul.aL];omega
  subst e8 e9;rw [show Nat.min (Int.toNat ((64-s:Nat):Int)) 64=64-s from Nat.min_eq_left (by omega),Int.fdiv_eq_ediv_of_nonneg _ (Int.le_of_lt (sW _))];refine⟨by omega, ?_⟩;rintro _ rfl;have jr:(h+1)*2 ^ s<=n:=by rw [hn];exact Int.mul_le_mul_of_nonneg_right (by omega) (Int.le_of_lt (sW s))
  rw [Int.add_mul,Int.one_mul]at jr;intro u hu;have hu:u=h*2 ^ s+l / 2 ^ (64-s):=by rw [hu];exact Fj _ _ s hs h rfl h0 z2 z3 (by omega)
  have Le:0<=u:=by omega
  have gT:u<n:=by omega
  rw [<-hu]at z4;refine⟨by omega, ?_⟩;intro aA Fl;rw [Ul.aL]at Fl;rw [<-Fl]at z4;intro d1 Lf d0 Fm;rw [Fb aA (by omega) (by omega)]at Fm;have w_:0<=d1:=by omega
  have Lg:d1<4294967296:=by omega
  have pZ:0<=d0:=by omega
  have p8:d0<4294967296:=by omega
  have hN:(h*18446744073709551616+l)*2 ^ s=u*18446744073709551616+(d1*4294967296+d0):=by rw [z4];omega
  clear z1 z2 z3 z4 z5 hk jr hu Fl Lf Fm hz e1;refine⟨by omega, ?_⟩;intro b1 ji b2 mZ b3 sE;have st:=Hi u d1 n (by omega) (by omega) (by omega) (by omega) t0 t1;have f0:0<=u / (n / 4294967296):=Int.ediv_nonneg (by omega) (by omega);have f1:u / (n / 4294967296)<=u:=Int.ediv_le_self _ (by omega);have f2:=Int.mul_ediv_add_emod u (n / 4294967296);have f3:=Int.emod_nonneg u (show n / 4294967296≠0 by omega);have f4:=Int.emod_lt_of_pos u (show 0<n / 4294967296 by omega);rw [Int.mul_comm (n / 4294967296)]at f2;have f5:0<=u / (n / 4294967296)*(n / 4294967296):=Int.mul_nonneg f0 (by omega);have w1:b1=u / (n / 4294967296):=by rw [ji,Int.tdiv_eq_ediv_of_nonneg (by omega),Ul.aL];omega
  have w2:b2=u / (n / 4294967296)*(n / 4294967296):=by rw [mZ,w1,Ul.aL];omega
  have w3:b3=u-u / (n / 4294967296)*(n / 4294967296):=by rw [sE,w2,Ul.aL];omega
  rw [<-w3,<-w1]at st;have w4:b3<4294967296:=by omega
  clear ji mZ sE f0 f1 f2 f3 f4 f5 w1 w2 w3;refine⟨yV u d1 n,ng,⟨_,_,rfl,st,by omega⟩, ?_⟩;rintro qa ra ⟨_,_,he,hd,hr⟩;simp only [List.cons.injEq,Vc.Vl.i.injEq,and_true]at he;obtain⟨rfl,rfl⟩:=he;have wz:=hd.pos;have xK:=hd.hi;have Ca:0<=qa:=Int.le_trans (Int.ediv_nonneg (by omega) (by omega)) hd.lo;refine aa (λc1 => ?_) (λc1 => ?_)
  ·intro qb ow rb kI;have nx:=Ap u d1 n qa ra hd (by omega) (by omega) (by omega) (by omega) t0 t1 (.inl c1);have e1:qb=qa-1:=by rw [ow,Ul.aL];omega
   have e2:rb=ra+n / 4294967296:=by rw [kI,Ul.aL];omega
   rw [<-e1,<-e2]at nx;clear ow kI;refine aa (λc2 => ?_) (λc2 => ?_)
   ·have fq:=Aq u d1 n qb rb nx.1 t0 (by omega) (by omega) nx.2.1 c2;intro a1 tC a2 sw a3 As RA Au;have nf:=fq;have m1:=Int.mul_ediv_add_emod (u*4294967296+d1) n;rw [<-nf]at m1;have m2:=Int.emod_nonneg (u*4294967296+d1) (show n≠0 by omega);have m3:=Int.emod_lt_of_pos (u*4294967296+d1) (show 0<n by omega)
    have om:RA=(u*4294967296+d1) % n:=by
     rw [Au,As,sw,tC];simp only [Ul.aL];rw [Int.mul_comm n]at m1;generalize (u*4294967296+d1) % n=R2 at *;generalize qb*n=P at *;omega
    have l1:=uK u d1 n Le gT w_ Lg t0;rw [<-nf]at l1;have g1:0<=qb:=by rw [nf];exact Int.ediv_nonneg (by omega) (by omega)
    have r0:0<=RA:=by omega
    have r1:RA<n:=by omega
    obtain⟨qA,Av⟩:∃qA,qA=qb:=⟨_,rfl⟩;rw [<-Av]at nf l1 g1 ⊢;clear tC sw As Au m1 m2 m3 fq Av;refine⟨by omega, ?_⟩;intro b1 ji b2 mZ b3 sE;have st:=Hi RA d0 n (by omega) (by omega) (by omega) (by omega) t0 t1;have f0:0<=RA / (n / 4294967296):=Int.ediv_nonneg (by omega) (by omega);have f1:RA / (n / 4294967296)<=RA:=Int.ediv_le_self _ (by omega);have f2:=Int.mul_ediv_add_emod RA (n / 4294967296);have f3:=Int.emod_nonneg RA (show n / 4294967296≠0 by omega);have f4:=Int.emod_lt_of_pos RA (show 0<n / 4294967296 by omega);rw [Int.mul_comm (n / 4294967296)]at f2;have f5:0<=RA / (n / 4294967296)*(n / 4294967296):=Int.mul_nonneg f0 (by omega);have w1:b1=RA / (n / 4294967296):=by rw [ji,Int.tdiv_eq_ediv_of_nonneg (by omega),Ul.aL];omega
    have w2:b2=RA / (n / 4294967296)*(n / 4294967296):=by rw [mZ,w1,Ul.aL];omega
    have w3:b3=RA-RA / (n / 4294967296)*(n / 4294967296):=by rw [sE,w2,Ul.aL];omega
    rw [<-w3,<-w1]at st;have w4:b3<4294967296:=by omega
    clear ji mZ sE f0 f1 f2 f3 f4 f5 w1 w2 w3;refine⟨yV RA d0 n,ng,⟨_,_,rfl,st,by omega⟩, ?_⟩;rintro qa ra ⟨_,_,he,hd,hr⟩;simp only [List.cons.injEq,Vc.Vl.i.injEq,and_true]at he;obtain⟨rfl,rfl⟩:=he;have wz:=hd.pos;have xK:=hd.hi;have Ca:0<=qa:=Int.le_trans (Int.ediv_nonneg (by omega) (by omega)) hd.lo;refine aa (λc1 => ?_) (λc1 => ?_)
    ·intro qb ow rb kI;have nx:=Ap RA d0 n qa ra hd (by omega) (by omega) (by omega) (by omega) t0 t1 (.inl c1);have e1:qb=qa-1:=by rw [ow,Ul.aL];omega
     have e2:rb=ra+n / 4294967296:=by rw [kI,Ul.aL];omega
     rw [<-e1,<-e2]at nx;clear ow kI;refine aa (λc2 => ?_) (λc2 => ?_)
     ·have fq:=Aq RA d0 n qb rb nx.1 t0 (by omega) (by omega) nx.2.1 c2;have dJ:=fq;have dJ:=dJ;intro c1 gA c2 eS c3 pQ c4 ry c5 rz c6 rA;refine⟨by omega, ?_⟩;intro c7 rB;have fin:=yU h l y u d1 d0 qA qb s hy hN (by rw [nf,hn]) (by rw [dJ,om,hn]);have m1:=Int.mul_ediv_add_emod (RA*4294967296+d0) n;rw [<-dJ]at m1;have m2:=Int.emod_nonneg (RA*4294967296+d0) (show n≠0 by omega);have m3:=Int.emod_lt_of_pos (RA*4294967296+d0) (show 0<n by omega)
      have e6:c6=(RA*4294967296+d0) % n:=by
       rw [rA,rz,ry,pQ];simp only [Ul.aL];rw [Int.mul_comm n]at m1;generalize (RA*4294967296+d0) % n=R2 at *;generalize qb*n=P at *;omega
      rw [rB,Int.fdiv_eq_ediv_of_nonneg _ (Int.le_of_lt (sW s)),e6];rw [<-hn,<-om]at fin;have l2:=uK RA d0 n r0 r1 pZ p8 t0;rw [<-dJ]at l2;have g2:0<=qb:=by rw [dJ];exact Int.ediv_nonneg (by omega) (by omega)
      have e2:c2=(h*18446744073709551616+l) / y:=by
       rw [<-fin.1,eS,gA];simp only [Ul.aL];omega
      rw [e2,fin.2]
     ·exact⟨⟨_,_,rfl,nx.1,by omega⟩,by simp only [ng];omega⟩
    ·intro a ha b hb c hc;have pr:=E' qa (n % 4294967296) 4294967295 4294967295 (by omega) (by omega) (by omega) (by omega);have ea:a=qa*(n % 4294967296):=by rw [ha,Ul.aL];omega
     have ec:c=4294967296*ra+d0:=by rw [hc,hb];simp only [Ul.aL];omega
     clear ha hb hc;refine aa (λc2 => ?_) (λc2 => ?_)
     ·intro qb ow rb kI;have nx:=Ap RA d0 n qa ra hd (by omega) (by omega) (by omega) (by omega) t0 t1 (.inr (by rw [<-ea,<-ec];exact c2));have e1:qb=qa-1:=by rw [ow,Ul.aL];omega
      have e2:rb=ra+n / 4294967296:=by rw [kI,Ul.aL];omega
      rw [<-e1,<-e2]at nx;clear ow kI;refine aa (λc2 => ?_) (λc2 => ?_)
      ·have fq:=Aq RA d0 n qb rb nx.1 t0 (by omega) (by omega) nx.2.1 c2;have dJ:=fq;have dJ:=dJ;intro c1 gA c2 eS c3 pQ c4 ry c5 rz c6 rA;refine⟨by omega, ?_⟩;intro c7 rB;have fin:=yU h l y u d1 d0 qA qb s hy hN (by rw [nf,hn]) (by rw [dJ,om,hn]);have m1:=Int.mul_ediv_add_emod (RA*4294967296+d0) n;rw [<-dJ]at m1;have m2:=Int.emod_nonneg (RA*4294967296+d0) (show n≠0 by omega);have m3:=Int.emod_lt_of_pos (RA*4294967296+d0) (show 0<n by omega)
       have e6:c6=(RA*4294967296+d0) % n:=by
        rw [rA,rz,ry,pQ];simp only [Ul.aL];rw [Int.mul_comm n]at m1;generalize (RA*4294967296+d0) % n=R2 at *;generalize qb*n=P at *;omega
       rw [rB,Int.fdiv_eq_ediv_of_nonneg _ (Int.le_of_lt (sW s)),e6];rw [<-hn,<-om]at fin;have l2:=uK RA d0 n r0 r1 pZ p8 t0;rw [<-dJ]at l2;have g2:0<=qb:=by rw [dJ];exact Int.ediv_nonneg (by omega) (by omega)
       have e2:c2=(h*18446744073709551616+l) / y:=by
        rw [<-fin.1,eS,gA];simp only [Ul.aL];omega
       rw [e2,fin.2]
      ·exact⟨⟨_,_,rfl,nx.1,by omega⟩,by simp only [ng];omega⟩
     ·have fq:=Fa RA d0 n qa ra hd t0 (by rw [<-ea,<-ec];omega);have dJ:=fq;have dJ:=dJ;intro c1 gA c2 eS c3 pQ c4 ry c5 rz c6 rA;refine⟨by omega, ?_⟩;intro c7 rB;have fin:=yU h l y u d1 d0 qA qa s hy hN (by rw [nf,hn]) (by rw [dJ,om,hn]);have m1:=Int.mul_ediv_add_emod (RA*4294967296+d0) n;rw [<-dJ]at m1;have m2:=Int.emod_nonneg (RA*4294967296+d0) (show n≠0 by omega);have m3:=Int.emod_lt_of_pos (RA*4294967296+d0) (show 0<n by omega)
      have e6:c6=(RA*4294967296+d0) % n:=by
       rw [rA,rz,ry,pQ];simp only [Ul.aL];rw [Int.mul_comm n]at m1;generalize (RA*4294967296+d0) % n=R2 at *;generalize qa*n=P at *;omega
      rw [rB,Int.fdiv_eq_ediv_of_nonneg _ (Int.le_of_lt (sW s)),e6];rw [<-hn,<-om]at fin;have l2:=uK RA d0 n r0 r1 pZ p8 t0;rw [<-dJ]at l2;have g2:0<=qa:=by rw [dJ];exact Int.ediv_nonneg (by omega) (by omega)
      have e2:c2=(h*18446744073709551616+l) / y:=by
       rw [<-fin.1,eS,gA];simp only [Ul.aL];omega
      rw [e2,fin.2]
   ·exact⟨⟨_,_,rfl,nx.1,by omega⟩,by simp only [ng];omega⟩
  ·intro a ha b hb c hc;have pr:=E' qa (n % 4294967296) 4294967295 4294967295 (by omega) (by omega) (by omega) (by omega);have ea:a=qa*(n % 4294967296):=by rw [ha,Ul.aL];omega
   have ec:c=4294967296*ra+d1:=by rw [hc,hb];simp only [Ul.aL];omega
   clear ha hb hc;refine aa (λc2 => ?_) (λc2 => ?_)
   ·intro qb ow rb kI;have nx:=Ap u d1 n qa ra hd (by omega) (by omega) (by omega) (by omega) t0 t1 (.inr (by rw [<-ea,<-ec];exact c2));have e1:qb=qa-1:=by rw [ow,Ul.aL];omega
    have e2:rb=ra+n / 4294967296:=by rw [kI,Ul.aL];omega
    rw [<-e1,<-e2]at nx;clear ow kI;refine aa (λc2 => ?_) (λc2 => ?_)
    ·have fq:=Aq u d1 n qb rb nx.1 t0 (by omega) (by omega) nx.2.1 c2;intro a1 tC a2 sw a3 As RA Au;have nf:=fq;have m1:=Int.mul_ediv_add_emod (u*4294967296+d1) n;rw [<-nf]at m1;have m2:=Int.emod_nonneg (u*4294967296+d1) (show n≠0 by omega);have m3:=Int.emod_lt_of_pos (u*4294967296+d1) (show 0<n by omega)
     have om:RA=(u*4294967296+d1) % n:=by
      rw [Au,As,sw,tC];simp only [Ul.aL];rw [Int.mul_comm n]at m1;generalize (u*4294967296+d1) % n=R2 at *;generalize qb*n=P at *;omega
     have l1:=uK u d1 n Le gT w_ Lg t0;rw [<-nf]at l1;have g1:0<=qb:=by rw [nf];exact Int.ediv_nonneg (by omega) (by omega)
     have r0:0<=RA:=by omega
     have r1:RA<n:=by omega
     obtain⟨qA,Av⟩:∃qA,qA=qb:=⟨_,rfl⟩;rw [<-Av]at nf l1 g1 ⊢;clear tC sw As Au m1 m2 m3 fq Av;refine⟨by omega, ?_⟩;intro b1 ji b2 mZ b3 sE;have st:=Hi RA d0 n (by omega) (by omega) (by omega) (by omega) t0 t1;have f0:0<=RA / (n / 4294967296):=Int.ediv_nonneg (by omega) (by omega);have f1:RA / (n / 4294967296)<=RA:=Int.ediv_le_self _ (by omega);have f2:=Int.mul_ediv_add_emod RA (n / 4294967296);have f3:=Int.emod_nonneg RA (show n / 4294967296≠0 by omega);have f4:=Int.emod_lt_of_pos RA (show 0<n / 4294967296 by omega);rw [Int.mul_comm (n / 4294967296)]at f2;have f5:0<=RA / (n / 4294967296)*(n / 4294967296):=Int.mul_nonneg f0 (by omega);have w1:b1=RA / (n / 4294967296):=by rw [ji,Int.tdiv_eq_ediv_of_nonneg (by omega),Ul.aL];omega
     have w2:b2=RA / (n / 4294967296)*(n / 4294967296):=by rw [mZ,w1,Ul.aL];omega
     have w3:b3=RA-RA / (n / 4294967296)*(n / 4294967296):=by rw [sE,w2,Ul.aL];omega
     rw [<-w3,<-w1]at st;have w4:b3<4294967296:=by omega
     clear ji mZ sE f0 f1 f2 f3 f4 f5 w1 w2 w3;refine⟨yV RA d0 n,ng,⟨_,_,rfl,st,by omega⟩, ?_⟩;rintro qa ra ⟨_,_,he,hd,hr⟩;simp only [List.cons.injEq,Vc.Vl.i.injEq,and_true]at he;obtain⟨rfl,rfl⟩:=he;have wz:=hd.pos;have xK:=hd.hi;have Ca:0<=qa:=Int.le_trans (Int.ediv_nonneg (by omega) (by omega)) hd.lo;refine aa (λc1 => ?_) (λc1 => ?_)
     ·intro qb ow rb kI;have nx:=Ap RA d0 n qa ra hd (by omega) (by omega) (by omega) (by omega) t0 t1 (.inl c1);have e1:qb=qa-1:=by rw [ow,Ul.aL];omega
      have e2:rb=ra+n / 4294967296:=by rw [kI,Ul.aL];omega
      rw [<-e1,<-e2]at nx;clear ow kI;refine aa (λc2 => ?_) (λc2 => ?_)
      ·have fq:=Aq RA d0 n qb rb nx.1 t0 (by omega) (by omega) nx.2.1 c2;have dJ:=fq;have dJ:=dJ;intro c1 gA c2 eS c3 pQ c4 ry c5 rz c6 rA;refine⟨by omega, ?_⟩;intro c7 rB;have fin:=yU h l y u d1 d0 qA qb s hy hN (by rw [nf,hn]) (by rw [dJ,om,hn]);have m1:=Int.mul_ediv_add_emod (RA*4294967296+d0) n;rw [<-dJ]at m1;have m2:=Int.emod_nonneg (RA*4294967296+d0) (show n≠0 by omega);have m3:=Int.emod_lt_of_pos (RA*4294967296+d0) (show 0<n by omega)
       have e6:c6=(RA*4294967296+d0) % n:=by
        rw [rA,rz,ry,pQ];simp only [Ul.aL];rw [Int.mul_comm n]at m1;generalize (RA*4294967296+d0) % n=R2 at *;generalize qb*n=P at *;omega
       rw [rB,Int.fdiv_eq_ediv_of_nonneg _ (Int.le_of_lt (sW s)),e6];rw [<-hn,<-om]at fin;have l2:=uK RA d0 n r0 r1 pZ p8 t0;rw [<-dJ]at l2;have g2:0<=qb:=by rw [dJ];exact Int.ediv_nonneg (by omega) (by omega)
       have e2:c2=(h*18446744073709551616+l) / y:=by
        rw [<-fin.1,eS,gA];simp only [Ul.aL];omega
       rw [e2,fin.2]
      ·exact⟨⟨_,_,rfl,nx.1,by omega⟩,by simp only [ng];omega⟩
     ·intro a ha b hb c hc;have pr:=E' qa (n % 4294967296) 4294967295 4294967295 (by omega) (by omega) (by omega) (by omega);have ea:a=qa*(n % 4294967296):=by rw [ha,Ul.aL];omega
      have ec:c=4294967296*ra+d0:=by rw [hc,hb];simp only [Ul.aL];omega
      clear ha hb hc;refine aa (λc2 => ?_) (λc2 => ?_)
      ·intro qb ow rb kI;have nx:=Ap RA d0 n qa ra hd (by omega) (by omega) (by omega) (by omega) t0 t1 (.inr (by rw [<-ea,<-ec];exact c2));have e1:qb=qa-1:=by rw [ow,Ul.aL];omega
       have e2:rb=ra+n / 4294967296:=by rw [kI,Ul.aL];omega
       rw [<-e1,<-e2]at nx;clear ow kI;refine aa (λc2 => ?_) (λc2 => ?_)
       ·have fq:=Aq RA d0 n qb rb nx.1 t0 (by omega) (by omega) nx.2.1 c2;have dJ:=fq;have dJ:=dJ;intro c1 gA c2 eS c3 pQ c4 ry c5 rz c6 rA;refine⟨by omega, ?_⟩;intro c7 rB;have fin:=yU h l y u d1 d0 qA qb s hy hN (by rw [nf,hn]) (by rw [dJ,om,hn]);have m1:=Int.mul_ediv_add_emod (RA*4294967296+d0) n;rw [<-dJ]at m1;have m2:=Int.emod_nonneg (RA*4294967296+d0) (show n≠0 by omega);have m3:=Int.emod_lt_of_pos (RA*4294967296+d0) (show 0<n by omega)
        have e6:c6=(RA*4294967296+d0) % n:=by
         rw [rA,rz,ry,pQ];simp only [Ul.aL];rw [Int.mul_comm n]at m1;generalize (RA*4294967296+d0) % n=R2 at *;generalize qb*n=P at *;omega
        rw [rB,Int.fdiv_eq_ediv_of_nonneg _ (Int.le_of_lt (sW s)),e6];rw [<-hn,<-om]at fin;have l2:=uK RA d0 n r0 r1 pZ p8 t0;rw [<-dJ]at l2;have g2:0<=qb:=by rw [dJ];exact Int.ediv_nonneg (by omega) (by omega)
        have e2:c2=(h*18446744073709551616+l) / y:=by
         rw [<-fin.1,eS,gA];simp only [Ul.aL];omega
        rw [e2,fin.2]
       ·exact⟨⟨_,_,rfl,nx.1,by omega⟩,by simp only [ng];omega⟩
      ·have fq:=Fa RA d0 n qa ra hd t0 (by rw [<-ea,<-ec];omega);have dJ:=fq;have dJ:=dJ;intro c1 gA c2 eS c3 pQ c4 ry c5 rz c6 rA;refine⟨by omega, ?_⟩;intro c7 rB;have fin:=yU h l y u d1 d0 qA qa s hy hN (by rw [nf,hn]) (by rw [dJ,om,hn]);have m1:=Int.mul_ediv_add_emod (RA*4294967296+d0) n;rw [<-dJ]at m1;have m2:=Int.emod_nonneg (RA*4294967296+d0) (show n≠0 by omega);have m3:=Int.emod_lt_of_pos (RA*4294967296+d0) (show 0<n by omega)
       have e6:c6=(RA*4294967296+d0) % n:=by
        rw [rA,rz,ry,pQ];simp only [Ul.aL];rw [Int.mul_comm n]at m1;generalize (RA*4294967296+d0) % n=R2 at *;generalize qa*n=P at *;omega
       rw [rB,Int.fdiv_eq_ediv_of_nonneg _ (Int.le_of_lt (sW s)),e6];rw [<-hn,<-om]at fin;have l2:=uK RA d0 n r0 r1 pZ p8 t0;rw [<-dJ]at l2;have g2:0<=qa:=by rw [dJ];exact Int.ediv_nonneg (by omega) (by omega)
       have e2:c2=(h*18446744073709551616+l) / y:=by
        rw [<-fin.1,eS,gA];simp only [Ul.aL];omega
       rw [e2,fin.2]
    ·exact⟨⟨_,_,rfl,nx.1,by omega⟩,by simp only [ng];omega⟩
   ·have fq:=Fa u d1 n qa ra hd t0 (by rw [<-ea,<-ec];omega);intro a1 tC a2 sw a3 As RA Au;have nf:=fq;have m1:=Int.mul_ediv_add_emod (u*4294967296+d1) n;rw [<-nf]at m1;have m2:=Int.emod_nonneg (u*4294967296+d1) (show n≠0 by omega);have m3:=Int.emod_lt_of_pos (u*4294967296+d1) (show 0<n by omega)
    have om:RA=(u*4294967296+d1) % n:=by
     rw [Au,As,sw,tC];simp only [Ul.aL];rw [Int.mul_comm n]at m1;generalize (u*4294967296+d1) % n=R2 at *;generalize qa*n=P at *;omega
    have l1:=uK u d1 n Le gT w_ Lg t0;rw [<-nf]at l1;have g1:0<=qa:=by rw [nf];exact Int.ediv_nonneg (by omega) (by omega)
    have r0:0<=RA:=by omega
    have r1:RA<n:=by omega
    obtain⟨qA,Av⟩:∃qA,qA=qa:=⟨_,rfl⟩;rw [<-Av]at nf l1 g1 ⊢;clear tC sw As Au m1 m2 m3 fq Av;refine⟨by omega, ?_⟩;intro b1 ji b2 mZ b3 sE;have st:=Hi RA d0 n (by omega) (by omega) (by omega) (by omega) t0 t1;have f0:0<=RA / (n / 4294967296):=Int.ediv_nonneg (by omega) (by omega);have f1:RA / (n / 4294967296)<=RA:=Int.ediv_le_self _ (by omega);have f2:=Int.mul_ediv_add_emod RA (n / 4294967296);have f3:=Int.emod_nonneg RA (show n / 4294967296≠0 by omega);have f4:=Int.emod_lt_of_pos RA (show 0<n / 4294967296 by omega);rw [Int.mul_comm (n / 4294967296)]at f2;have f5:0<=RA / (n / 4294967296)*(n / 4294967296):=Int.mul_nonneg f0 (by omega);have w1:b1=RA / (n / 4294967296):=by rw [ji,Int.tdiv_eq_ediv_of_nonneg (by omega),Ul.aL];omega
    have w2:b2=RA / (n / 4294967296)*(n / 4294967296):=by rw [mZ,w1,Ul.aL];omega
    have w3:b3=RA-RA / (n / 4294967296)*(n / 4294967296):=by rw [sE,w2,Ul.aL];omega
    rw [<-w3,<-w1]at st;have w4:b3<4294967296:=by omega
    clear ji mZ sE f0 f1 f2 f3 f4 f5 w1 w2 w3;refine⟨yV RA d0 n,ng,⟨_,_,rfl,st,by omega⟩, ?_⟩;rintro qa ra ⟨_,_,he,hd,hr⟩;simp only [List.cons.injEq,Vc.Vl.i.injEq,and_true]at he;obtain⟨rfl,rfl⟩:=he;have wz:=hd.pos;have xK:=hd.hi;have Ca:0<=qa:=Int.le_trans (Int.ediv_nonneg (by omega) (by omega)) hd.lo;refine aa (λc1 => ?_) (λc1 => ?_)
    ·intro qb ow rb kI;have nx:=Ap RA d0 n qa ra hd (by omega) (by omega) (by omega) (by omega) t0 t1 (.inl c1);have e1:qb=qa-1:=by rw [ow,Ul.aL];omega
     have e2:rb=ra+n / 4294967296:=by rw [kI,Ul.aL];omega
     rw [<-e1,<-e2]at nx;clear ow kI;refine aa (λc2 => ?_) (λc2 => ?_)
     ·have fq:=Aq RA d0 n qb rb nx.1 t0 (by omega) (by omega) nx.2.1 c2;have dJ:=fq;have dJ:=dJ;intro c1 gA c2 eS c3 pQ c4 ry c5 rz c6 rA;refine⟨by omega, ?_⟩;intro c7 rB;have fin:=yU h l y u d1 d0 qA qb s hy hN (by rw [nf,hn]) (by rw [dJ,om,hn]);have m1:=Int.mul_ediv_add_emod (RA*4294967296+d0) n;rw [<-dJ]at m1;have m2:=Int.emod_nonneg (RA*4294967296+d0) (show n≠0 by omega);have m3:=Int.emod_lt_of_pos (RA*4294967296+d0) (show 0<n by omega)
      have e6:c6=(RA*4294967296+d0) % n:=by
       rw [rA,rz,ry,pQ];simp only [Ul.aL];rw [Int.mul_comm n]at m1;generalize (RA*4294967296+d0) % n=R2 at *;generalize qb*n=P at *;omega
      rw [rB,Int.fdiv_eq_ediv_of_nonneg _ (Int.le_of_lt (sW s)),e6];rw [<-hn,<-om]at fin;have l2:=uK RA d0 n r0 r1 pZ p8 t0;rw [<-dJ]at l2;have g2:0<=qb:=by rw [dJ];exact Int.ediv_nonneg (by omega) (by omega)
      have e2:c2=(h*18446744073709551616+l) / y:=by
       rw [<-fin.1,eS,gA];simp only [Ul.aL];omega
      rw [e2,fin.2]
     ·exact⟨⟨_,_,rfl,nx.1,by omega⟩,by simp only [ng];omega⟩
    ·intro a ha b hb c hc;have pr:=E' qa (n % 4294967296) 4294967295 4294967295 (by omega) (by omega) (by omega) (by omega);have ea:a=qa*(n % 4294967296):=by rw [ha,Ul.aL];omega
     have ec:c=4294967296*ra+d0:=by rw [hc,hb];simp only [Ul.aL];omega
     clear ha hb hc;refine aa (λc2 => ?_) (λc2 => ?_)
     ·intro qb ow rb kI;have nx:=Ap RA d0 n qa ra hd (by omega) (by omega) (by omega) (by omega) t0 t1 (.inr (by rw [<-ea,<-ec];exact c2));have e1:qb=qa-1:=by rw [ow,Ul.aL];omega
      have e2:rb=ra+n / 4294967296:=by rw [kI,Ul.aL];omega
      rw [<-e1,<-e2]at nx;clear ow kI;refine aa (λc2 => ?_) (λc2 => ?_)
      ·have fq:=Aq RA d0 n qb rb nx.1 t0 (by omega) (by omega) nx.2.1 c2;have dJ:=fq;have dJ:=dJ;intro c1 gA c2 eS c3 pQ c4 ry c5 rz c6 rA;refine⟨by omega, ?_⟩;intro c7 rB;have fin:=yU h l y u d1 d0 qA qb s hy hN (by rw [nf,hn]) (by rw [dJ,om,hn]);have m1:=Int.mul_ediv_add_emod (RA*4294967296+d0) n;rw [<-dJ]at m1;have m2:=Int.emod_nonneg (RA*4294967296+d0) (show n≠0 by omega);have m3:=Int.emod_lt_of_pos (RA*4294967296+d0) (show 0<n by omega)
       have e6:c6=(RA*4294967296+d0) % n:=by
        rw [rA,rz,ry,pQ];simp only [Ul.aL];rw [Int.mul_comm n]at m1;generalize (RA*4294967296+d0) % n=R2 at *;generalize qb*n=P at *;omega
       rw [rB,Int.fdiv_eq_ediv_of_nonneg _ (Int.le_of_lt (sW s)),e6];rw [<-hn,<-om]at fin;have l2:=uK RA d0 n r0 r1 pZ p8 t0;rw [<-dJ]at l2;have g2:0<=qb:=by rw [dJ];exact Int.ediv_nonneg (by omega) (by omega)
       have e2:c2=(h*18446744073709551616+l) / y:=by
        rw [<-fin.1,eS,gA];simp only [Ul.aL];omega
       rw [e2,fin.2]
      ·exact⟨⟨_,_,rfl,nx.1,by omega⟩,by simp only [ng];omega⟩
     ·have fq:=Fa RA d0 n qa ra hd t0 (by rw [<-ea,<-ec];omega);have dJ:=fq;have dJ:=dJ;intro c1 gA c2 eS c3 pQ c4 ry c5 rz c6 rA;refine⟨by omega, ?_⟩;intro c7 rB;have fin:=yU h l y u d1 d0 qA qa s hy hN (by rw [nf,hn]) (by rw [dJ,om,hn]);have m1:=Int.mul_ediv_add_emod (RA*4294967296+d0) n;rw [<-dJ]at m1;have m2:=Int.emod_nonneg (RA*4294967296+d0) (show n≠0 by omega);have m3:=Int.emod_lt_of_pos (RA*4294967296+d0) (show 0<n by omega)
      have e6:c6=(RA*4294967296+d0) % n:=by
       rw [rA,rz,ry,pQ];simp only [Ul.aL];rw [Int.mul_comm n]at m1;generalize (RA*4294967296+d0) % n=R2 at *;generalize qa*n=P at *;omega
      rw [rB,Int.fdiv_eq_ediv_of_nonneg _ (Int.le_of_lt (sW s)),e6];rw [<-hn,<-om]at fin;have l2:=uK RA d0 n r0 r1 pZ p8 t0;rw [<-dJ]at l2;have g2:0<=qa:=by rw [dJ];exact Int.ediv_nonneg (by omega) (by omega)
      have e2:c2=(h*18446744073709551616+l) / y:=by
       rw [<-fin.1,eS,gA];simp only [Ul.aL];omega
      rw [e2,fin.2]
end Go.Proofs.YtpfgephckjpcjaaGreatDoor
set_option linter.unusedVariables false
namespace Go.Proofs.YtpfgephckjpcjaaGreatDoor
open Go Go.RowKit Ul Vc
attribute [local irreducible] Go.Calls
theorem Lh(n:Bool)(h l:Int)(w:World)(h0:0<=h)(h1:h<4294967296)(l0:0<=l)(l1:l<=18446744073709551615) :
  Calls Tryz.prog 124 #[.agg #[.bool n,.int .u64 h,.int .u64 l],.int .u64 32] w (Vc.aR (.agg #[.bool n,.int .u64 (h*4294967296+l / 4294967296),.int .u64 (l*4294967296 % 18446744073709551616)]) w):=by
 refine VF _ _ _ w _ ?_;rintro x2 h2 x3 h3 x4 h4 x5 h5;have e2:x2=h*2 ^ 32:=by rw [h2,Ul.aL];omega
 have e4:x4=x2+x3:=by rw [h4];exact Fj _ _ 32 (by decide) h e2 h0 (by omega) (by omega) (by omega)
 refine B' rfl ?_ ?_
 ·rw [e4,e2,h3];omega
 ·rw [h5,Ul.aL]
theorem Li(n:Bool)(m:Int)(w:World)(h0:0<=m)(h1:m<79228162514264337593543950336):Calls Tryz.prog 124 #[VB n m,.int .u64 32] w (Vc.aR (VB n (m*4294967296)) w):=by
 refine Vc.aR.as (Lh n _ _ w (by unfold eU;omega) (by unfold eU;omega) (Ar m).1 (Ar m).2) (B' rfl ?_ ?_)<;>(try unfold eU)<;>(try unfold gH)<;>omega
def vi(n:Bool)(m y:Int):Int:=if n then -((-m) / y)else m / y
def vj(n:Bool)(m y:Int):Int:=if n then m / y else -((-m) / y)
theorem Fo(m y:Int)(h0:0<=m)(y0:0<y):-((-m) / y)=if m % y=0 then m / y else m / y+1:=(VT m y h0 y0).2
theorem Fp(n:Bool)(m y:Int):sv n (vi n m y)=fl (sv n m) y/\sv n (vj n m y)=ce (sv n m) y:=by
 unfold sv vi vj fl ce;cases n<;>simp
theorem Lj(n k:Bool)(m y:Int)(w:World)(h0:0<=m)(h1:m<340282366920938463463374607431768211456)(y0:0<y)(y1:y<=18446744073709551615) :
  Calls Tryz.prog 125 #[VB n m,.agg #[.bool k,.int .u64 0,.int .u64 y]] w (Vc.aR (.tuple #[VB n (vi n m y),VB n (vj n m y)]) w):=by
 have hl:=Ar m;have hh:=B_ m ⟨h0,h1⟩;refine VL _ _ _ _ _ _ w _ ?_;refine aa (λ_ => ?_) (λh=>absurd rfl h);refine⟨by omega, ?_⟩;intro a ha;refine⟨by omega, ?_⟩;intro b hb;have q0:0<=eU m / y:=Int.ediv_nonneg hh.1 (by omega);have q1:eU m / y<=eU m:=Int.ediv_le_self _ hh.1;have r0:=Int.emod_nonneg (eU m) (show y≠0 by omega);have r1:=Int.emod_lt_of_pos (eU m) y0;have ea:a=eU m / y:=by rw [ha,Int.tdiv_eq_ediv_of_nonneg hh.1,Ul.aL];omega
 have eb:b=eU m % y:=by rw [hb,Int.tmod_eq_emod_of_nonneg hh.1]
 subst ea eb;clear ha hb
 (repeat apply Exists.intro);refine And.intro (λ_ _=>Lc _ _ _ _ r0 r1 y1 hl.1 hl.2) ?_
 have em:m=eU m*18446744073709551616+gH m:=(K0 m).symm;have dm:=Int.mul_ediv_add_emod (eU m) y
 have eN:m=(eU m % y*18446744073709551616+gH m)+y*(eU m / y*18446744073709551616):=by
  rw [<-Int.mul_assoc];omega
 have e1:m / y=(eU m % y*18446744073709551616+gH m) / y+eU m / y*18446744073709551616:=by
  conv=>lhs;rw [eN]
  exact Int.add_mul_ediv_left _ _ (by omega)
 have e2:m % y=(eU m % y*18446744073709551616+gH m) % y:=by
  conv=>lhs;rw [eN]
  exact Int.add_mul_emod_self_left _ _ _
 have Xz:0<=(eU m % y*18446744073709551616+gH m) / y:=Int.ediv_nonneg (by omega) (by omega)
 have XA:(eU m % y*18446744073709551616+gH m) / y<18446744073709551616:=by
  rw [Int.ediv_lt_iff_lt_mul y0];omega
 have XB:=Int.emod_nonneg (eU m % y*18446744073709551616+gH m) (show y≠0 by omega);have eh:eU (m / y)=eU m / y:=by unfold eU at *;omega
 have el:gH (m / y)=(eU m % y*18446744073709551616+gH m) / y:=by rw [e1];generalize (eU m % y*18446744073709551616+gH m) / y=L at *;generalize eU m / y=H at *;unfold gH;omega
 rw [<-el,<-eh,<-e2]
 (repeat apply Exists.intro);refine And.intro (λ_ _=>Rk _ _ _ _) ?_
 have q2:=Int.ediv_nonneg h0 (show 0<=y by omega);have q3:m / y<=m:=Int.ediv_le_self _ h0;have C9:=Fo m y h0 y0;refine aa (λhz => ?_) (λhz => ?_)
 ·have hz:m % y=0:=by simpa using hz
  rw [if_pos hz]at C9;refine aa (λhn => ?_) (λhn => ?_)
  ·rw [hn];unfold vi vj;rw [if_pos rfl,if_pos rfl,C9]
  ·have hn:n=false:=by simpa using hn
   rw [hn];unfold vi vj;rw [if_neg (by decide),if_neg (by decide),C9]
 ·have hz:¬m % y=0:=by simpa using hz
  rw [if_neg hz]at C9
  have q4:m / y+1<340282366920938463463374607431768211456:=by
   have h5:y*(m / y)+m % y=m:=Int.mul_ediv_add_emod m y;have h6:=Int.emod_nonneg m (show y≠0 by omega);have h7:1*(m / y)<=y*(m / y):=Int.mul_le_mul_of_nonneg_right (by omega) q2;omega
  have p:=K6 false false (m / y) 1;have pn:Hl false (m / y) false 1=false:=rfl;have pm:Hm false (m / y) false 1=m / y+1:=rfl;rw [pn,pm]at p
  (repeat apply Exists.intro);refine And.intro (λ_ _=>p _ ⟨q2,by omega⟩ ⟨by decide,by decide⟩ q4) ?_
  refine aa (λhn => ?_) (λhn => ?_)
  ·rw [hn];unfold vi vj;rw [if_pos rfl,if_pos rfl,C9]
  ·have hn:n=false:=by simpa using hn
   rw [hn];unfold vi vj;rw [if_neg (by decide),if_neg (by decide),C9]
theorem VV(a b:Int)(w:World)(ha:vh a)(hb:vh b)(h0:b≠0) :
  Calls Tryz.prog 83 #[.int .i64 a,.int .i64 b] w (Vc.aR (.tuple #[VB (decide (a<0) != decide (b<0)) (vi (decide (a<0) != decide (b<0)) (fT a*4294967296) (fT b)),VB (decide (a<0) != decide (b<0)) (vj (decide (a<0) != decide (b<0)) (fT a*4294967296) (fT b))]) w):=by
 have xa:=Hj a ha.1 ha.2;have xb:=Hj b hb.1 hb.2;have VW:0<fT b:=by unfold fT;split<;>omega
 have eb:=Ri (fT b) (by omega) (by omega);refine VO _ _ w _ ?_
 (repeat apply Exists.intro);refine And.intro (λ_ _=>Ff _ _ ha) ?_
 (repeat apply Exists.intro);refine And.intro (λ_ _=>Li _ _ _ (by omega) (by omega)) ?_
 (repeat apply Exists.intro);refine And.intro (λ_ _=>Ff _ _ hb) ?_
 rw [eb.1,eb.2]
 (repeat apply Exists.intro);refine And.intro (λ_ _=>Lj _ _ _ _ _ (by omega) (by omega) VW (by omega)) ?_
 rfl
theorem Lk(a b:Int)(h0:b≠0):fl (sv (decide (a<0) != decide (b<0)) (fT a*4294967296)) (fT b)=B7 a b/\ce (sv (decide (a<0) != decide (b<0)) (fT a*4294967296)) (fT b)=B8 a b:=by
 unfold B7 B8 fT sv;by_cases sa:a<0<;>by_cases sb:b<0<;>simp [sa,sb,Int.neg_mul]
theorem Ll(n:Bool)(m y:Int)(h0:0<=m)(y0:0<y):0<=vi n m y/\0<=vj n m y/\vi n m y<=m+1/\vj n m y<=m+1:=by
 have c:=Fo m y h0 y0;have q2:=Int.ediv_nonneg h0 (show 0<=y by omega);have q3:m / y<=m:=Int.ediv_le_self _ h0;unfold vi vj;cases n<;>simp only [Bool.false_eq_true,if_false,if_true]<;>rw [c]<;>split<;>omega
end Go.Proofs.YtpfgephckjpcjaaGreatDoor
set_option linter.unusedVariables false
namespace Go.Proofs.YtpfgephckjpcjaaGreatDoor
open Go Go.RowKit Ul Vc
attribute [local irreducible] Go.Calls
def Fq(x:Int):Prop := -4294967296<=x/\x<=4294967296
theorem Fq.i64{x:Int}(h:Fq x):vh x:=by obtain⟨h1,h2⟩:=h;constructor<;>omega
end Go.Proofs.YtpfgephckjpcjaaGreatDoor
set_option linter.unusedVariables false
namespace Vc
open Go Go.RowKit
theorem Lm{lo b code n base sz k:Nat}{xs:List Value}{t:TypeId}{w:World}(h:tA lo b code n base xs sz t w)(hk:xs.length=k*sz)(k0:0<k)(hz:0<sz:=by decide) :
  ∃m:Nat,dC b code n base=.slice (some ⟨b,0,none⟩) k m/\k<=m/\∀j u,xs[j]? = some u->w.cell? ⟨b,j,none⟩=some u:=by
 obtain⟨h1,h2,h3⟩:=bY.fh h hz;have hn:n=k:=Nat.eq_of_mul_eq_mul_right h2 (by rw [<-h1,hk]);subst hn;rcases h3 with ⟨_,h0⟩|⟨c1,c2,c3,c4,c5,cur,c6,c7,c8⟩
 ·omega
 ·subst c2;refine⟨code-1, ?_,c4,λj u hj => ?_⟩
  ·unfold dC;rw [if_neg (by omega)]
  ·have eD:j<n*sz:=by
    have:=(List.getElem?_eq_some_iff.1 hj).1
    omega
   rw [<-c8,List.getElem?_take,if_pos eD]at hj;simp only [World.cell?,c6];simpa using hj
end Vc
namespace Go.Proofs.YtpfgephckjpcjaaGreatDoor
open Go Go.RowKit Ul Vc
attribute [local irreducible] Go.Calls
def c3(p:Bool × Int):List Value := [.bool p.1,.int .u64 (eU p.2),.int .u64 (gH p.2)]
theorem Cb{ps:List (Bool × Int)}:∀{i:Nat} {q:Bool × Int} {o:Nat},ps[i]? = some q->o<3->(ps.flatMap c3)[i*3+o]? = (c3 q)[o]? := by
  induction ps with
  |nil=>intro i q o h;simp at h
  |cons p ps ih =>
    intro i q o h ho;rw [List.flatMap_cons];have hl:(c3 p).length=3:=rfl;cases i with
    |zero =>
      simp only [List.getElem?_cons_zero,Option.some.injEq]at h;subst h;rw [List.getElem?_append_left (by omega)];simp
    |succ i =>
      rw [List.getElem?_append_right (by omega),<-ih (by simpa using h) ho];congr 1;omega
def Fs(n:Int):List Vc.Vl->Nat
 | .i x::_=>(n-x).toNat
 |_=>0
theorem Rn{α β:Type}(f:β->α->β)(b:β){l:List α}{i:Nat}{x:α}(h:l[i]? = some x):(l.take (i+1)).foldl f b=f ((l.take i).foldl f b) x:=by
 rw [List.take_add_one,h,List.foldl_append];rfl
theorem Ln{f:Bool × Int->Bool × Int->Bool × Int}(hf:∀p q,f p q=p∨f p q=q):∀(l:List (Bool × Int)) (p:Bool × Int),(∀q∈p::l,0<=q.2)->0<=(l.foldl f p).2
  | [],p,h=>h p (by simp)
  |q::l,p,h=>by
    rw [List.foldl_cons];refine Ln hf l (f p q) λr hr => ?_;rcases List.mem_cons.1 hr with rfl|hr
    · rcases hf p q with e|e<;>rw [e]<;>exact h _ (by simp)
    · exact h r (by simp [hr])
theorem Lo(p q:Bool × Int):jM p q=p∨jM p q=q:=by unfold jM;split<;>simp
theorem Lp(p q:Bool × Int):jN p q=p∨jN p q=q:=by unfold jN;split<;>simp
theorem Lq{b m:Nat}(p:Bool × Int)(ps:List (Bool × Int)){w:World}(Ft:∀q∈p::ps,0<=q.2)(hm:ps.length+1<=m)(BG:ps.length<1000000)(h:∀j u,((p::ps).flatMap c3)[j]? = some u->w.cell? ⟨b,j,none⟩=some u) :
  Calls Tryz.prog 84 #[.slice (some ⟨b,0,none⟩) (ps.length+1) m] w (Vc.aR (.tuple #[VP (ps.foldl jM p),VP (ps.foldl jN p)]) w):=by
 have g:∀(i:Nat) (q:Bool × Int),(p::ps)[i]? = some q->w.cell? ⟨b,0+i*3+0,none⟩=some (.bool q.1)/\w.cell? ⟨b,0+i*3+1,none⟩=some (.int .u64 (eU q.2))/\w.cell? ⟨b,0+i*3+2,none⟩=some (.int .u64 (gH q.2)):=λi q hq=>by
  simp only [Nat.zero_add];exact⟨h _ _ (Cb hq (by decide)),h _ _ (Cb hq (by decide)),h _ _ (Cb hq (by decide))⟩
 have g0:=g 0 p rfl;refine VQ (b,0) (((ps.length+1:Nat):Nat):Int) (m:Int) w _ ?_;refine⟨by omega,p.1,g0.1,eU p.2,g0.2.1,gH p.2,g0.2.2,by omega,p.1,g0.1,eU p.2,g0.2.1,gH p.2,g0.2.2,by omega,by omega,by omega,by omega, ?_⟩;rintro x6 yW x7 vk;have ex:x6=(ps.length:Int):=by omega
 refine aa (λhc => ?_) (λhc => ?_)
 ·refine⟨by omega, ?_⟩
  refine⟨λl=>∃i:Nat,i<=ps.length/\l=[.i (i:Int),.b ((ps.take i).foldl jM p).1,.i (eU ((ps.take i).foldl jM p).2),.i (gH ((ps.take i).foldl jM p).2),.b ((ps.take i).foldl jN p).1,.i (eU ((ps.take i).foldl jN p).2),.i (gH ((ps.take i).foldl jN p).2)],
   Fs (ps.length:Int),⟨0,by omega,rfl⟩, ?_⟩
  rintro x8 b2 x9 ar b3 aC aA ⟨i,XC,hl⟩;simp only [List.cons.injEq,Vc.Vl.i.injEq,Vc.Vl.b.injEq,and_true]at hl;obtain⟨rfl,rfl,rfl,rfl,rfl,rfl,rfl⟩:=hl;refine aa (λD' => ?_) (λD' => ?_)
  ·have hq:=List.getElem?_eq_getElem (l:=ps) (i:=i) (by omega);generalize XD:ps[i]=q at hq
   have n1:=Ln Lo (ps.take i) p λr hr=>Ft r (by
    rcases List.mem_cons.1 hr with rfl|hr
    ·simp
    ·exact List.mem_cons_of_mem _ (List.mem_of_mem_take hr))
   have n2:=Ln Lp (ps.take i) p λr hr=>Ft r (by
    rcases List.mem_cons.1 hr with rfl|hr
    ·simp
    ·exact List.mem_cons_of_mem _ (List.mem_of_mem_take hr))
   have nq:0<=q.2:=Ft q (List.mem_cons_of_mem _ (List.mem_of_getElem? hq));have g0:=g (i+1) q (by simpa using hq);have t1:=Rn jM p hq;have t2:=Rn jN p hq;generalize (ps.take i).foldl jM p=lo at *;generalize (ps.take i).foldl jN p=hi at *;have e0:Int.toNat (1+(i:Int))=i+1:=by omega
   refine⟨by omega,by omega, ?_⟩;rintro _ rfl;rw [e0];refine⟨_,g0.1,_,g0.2.1,_,g0.2.2, ?_⟩
   (repeat apply Exists.intro);refine And.intro (λ_ _=>Rm q lo _ nq n1) ?_
   refine aa (λc1 => ?_) (λc1 => ?_)
   all_goals
    (repeat apply Exists.intro);refine And.intro (λ_ _=>Rm hi q _ n2 nq) ?_
    refine aa (λc2 => ?_) (λc2 => ?_)
    all_goals
     simp only [decide_eq_true_eq]at c1 c2;rintro _ rfl;have ew:IntKind.i64.wrap ((i:Int)+1)=((i+1:Nat):Int):=by rw [Vc.zk (by omega)];omega
     rw [ew];refine⟨⟨i+1,by omega, ?_⟩, ?_⟩
     ·rw [t1,t2];simp only [jM,jN,c1,c2,if_true,if_false]
     ·simp only [Fs];omega
  ·have:ps.take i=ps:=List.take_of_length_le (by omega)
   rw [this]
 ·refine⟨by omega, ?_⟩;have h0:ps=[]:=List.eq_nil_of_length_eq_zero (by omega);refine⟨λl=>l=[.i 0,.b p.1,.i (eU p.2),.i (gH p.2),.b p.1,.i (eU p.2),.i (gH p.2)],λ_=>0,rfl, ?_⟩;rintro x8 b2 x9 ar b3 aC aA hl;simp only [List.cons.injEq,Vc.Vl.i.injEq,Vc.Vl.b.injEq,and_true]at hl;obtain⟨rfl,rfl,rfl,rfl,rfl,rfl,rfl⟩:=hl;refine aa (λD' => ?_) (λD' => ?_)
  ·subst h0;simp at ex;omega
  ·subst h0;rfl
theorem Hn{lo b code n base:Nat}(p:Bool × Int)(ps:List (Bool × Int)){t:TypeId}{w:World}(Ft:∀q∈p::ps,0<=q.2)(BG:ps.length<1000000)(h:tA lo b code n base ((p::ps).flatMap c3) 3 t w) :
  Calls Tryz.prog 84 #[dC b code n base] w (Vc.aR (.tuple #[VP (ps.foldl jM p),VP (ps.foldl jN p)]) w):=by
 have hlen:∀l:List (Bool × Int),(l.flatMap c3).length=l.length*3:=by
  intro l
  induction l with
  |nil=>rfl
  |cons a l ih=>rw [List.flatMap_cons,List.length_append,ih];simp [c3];omega
 obtain⟨m,h1,h2,h3⟩:=Lm (k:=ps.length+1) h (by rw [hlen];rfl) (by omega);rw [h1];exact Lq p ps Ft h2 BG h3
def qd(a c:Int):Bool × Int:=(decide (a<0) != decide (c<0),vi (decide (a<0) != decide (c<0)) (fT a*4294967296) (fT c))
def qu(a c:Int):Bool × Int:=(decide (a<0) != decide (c<0),vj (decide (a<0) != decide (c<0)) (fT a*4294967296) (fT c))
theorem Aw(a c:Int)(h0:c≠0):ru (qd a c)=B7 a c/\ru (qu a c)=B8 a c:=by
 unfold ru qd qu;rw [(Fp _ _ _).1,(Fp _ _ _).2];exact Lk a c h0
theorem Ax(a c:Int)(ha:vh a)(h0:c≠0):(0<=(qd a c).2/\(qd a c).2<=39614081257132168796771975169)/\(0<=(qu a c).2/\(qu a c).2<=39614081257132168796771975169):=by
 have xa:=Hj a ha.1 ha.2;have xc:0<fT c:=by unfold fT;split<;>omega
 have q:=Ll (decide (a<0) != decide (c<0)) (fT a*4294967296) (fT c) (by omega) xc;unfold qd qu;constructor<;>constructor<;>simp only<;>omega
theorem Ay(a c:Int)(w:World)(ha:vh a)(hc:vh c)(h0:c≠0):Calls Tryz.prog 83 #[.int .i64 a,.int .i64 c] w (Vc.aR (.tuple #[VP (qd a c),VP (qu a c)]) w):=VV a c w ha hc h0
theorem Lr(a b c d:Int)(w:World)(ha:vh a)(hb:vh b)(hc:vh c)(hd:vh d):Calls Tryz.prog 31 #[Vc.S a b,Vc.S c d] w (Vc.aR (Vc.RV (div a b c d)) w):=by
 have body:(ok a b && ok c d)=true->¬(c<=0/\0<=d)->c≠0/\d≠0:=by
  intro h1 h2;simp only [ok,Bool.and_eq_true,decide_eq_true_eq]at h1;omega
 refine VR _ _ _ _ w _ ?_;refine⟨_,λ_ _ _ hm=>KX hm.1.2, ?_⟩;refine aa (λh => ?_) (λh => ?_)
 ·have kO:=K7 h
  have go:¬(c<=0/\0<=d)->div a b c d=fit (ru (jM (jM (jM (qd a c) (qd a d)) (qd b c)) (qd b d))) (ru (jN (jN (jN (qu a c) (qu a d)) (qu b c)) (qu b d))):=by
   intro h2;obtain⟨c0,d0⟩:=body kO h2;rw [K9,K9,K9,K_,K_,K_,(Aw a c c0).1,(Aw a d d0).1,(Aw b c c0).1,(Aw b d d0).1,(Aw a c c0).2,(Aw a d d0).2,(Aw b c c0).2,(Aw b d d0).2];unfold div;rw [if_pos kO,if_neg h2];rfl
  refine aa (λh1 => ?_) (λh1 => ?_)
  ·refine aa (λh2 => ?_) (λh2 => ?_)
   ·unfold div;rw [if_pos kO,if_pos ⟨h1,h2⟩]
   ·have Fu:¬(c<=0/\0<=d):=λhx=>h2 hx.2;obtain⟨c0,d0⟩:=body kO Fu;rw [go Fu];have b1:=Ax a c ha c0;have b2:=Ax a d ha d0;have b3:=Ax b c hb c0;have b4:=Ax b d hb d0
    (repeat apply Exists.intro);refine And.intro (λ_ _=>Ay _ _ _ ha hc c0) ?_
    (repeat apply Exists.intro);refine And.intro (λ_ _=>Ay _ _ _ ha hd d0) ?_
    (repeat apply Exists.intro);refine And.intro (λ_ _=>Ay _ _ _ hb hc c0) ?_
    (repeat apply Exists.intro);refine And.intro (λ_ _=>Ay _ _ _ hb hd d0) ?_
    refine⟨_,_,_,_,_,_,λ_ _ _ hm=>Hn (qd a c) [qd a d,qd b c,qd b d] (by simpa using ⟨b1.1.1,b2.1.1,b3.1.1,b4.1.1⟩) (by simp) hm.1, ?_⟩;refine⟨_,_,_,_,_,_,λ_ _ _ hm=>Hn (qu a c) [qu a d,qu b c,qu b d] (by simpa using ⟨b1.2.1,b2.2.1,b3.2.1,b4.2.1⟩) (by simp) hm.1, ?_⟩;have m1:=C7 (C7 (C7 b1.1 b2.1) b3.1) b4.1;have m2:=C8 (C8 (C8 b1.2 b2.2) b3.2) b4.2
    (repeat apply Exists.intro);refine And.intro (λ_ _=>Fh _ _ _ _ _ m1.1 m2.1) ?_
    rfl
  ·have Fu:¬(c<=0/\0<=d):=λhx=>h1 hx.1;obtain⟨c0,d0⟩:=body kO Fu;rw [go Fu];have b1:=Ax a c ha c0;have b2:=Ax a d ha d0;have b3:=Ax b c hb c0;have b4:=Ax b d hb d0
   (repeat apply Exists.intro);refine And.intro (λ_ _=>Ay _ _ _ ha hc c0) ?_
   (repeat apply Exists.intro);refine And.intro (λ_ _=>Ay _ _ _ ha hd d0) ?_
   (repeat apply Exists.intro);refine And.intro (λ_ _=>Ay _ _ _ hb hc c0) ?_
   (repeat apply Exists.intro);refine And.intro (λ_ _=>Ay _ _ _ hb hd d0) ?_
   refine⟨_,_,_,_,_,_,λ_ _ _ hm=>Hn (qd a c) [qd a d,qd b c,qd b d] (by simpa using ⟨b1.1.1,b2.1.1,b3.1.1,b4.1.1⟩) (by simp) hm.1, ?_⟩;refine⟨_,_,_,_,_,_,λ_ _ _ hm=>Hn (qu a c) [qu a d,qu b c,qu b d] (by simpa using ⟨b1.2.1,b2.2.1,b3.2.1,b4.2.1⟩) (by simp) hm.1, ?_⟩;have m1:=C7 (C7 (C7 b1.1 b2.1) b3.1) b4.1;have m2:=C8 (C8 (C8 b1.2 b2.2) b3.2) b4.2
   (repeat apply Exists.intro);refine And.intro (λ_ _=>Fh _ _ _ _ _ m1.1 m2.1) ?_
   rfl
 ·unfold div;rw [if_neg (Fi h).1,(Fi h).2]
end Go.Proofs.YtpfgephckjpcjaaGreatDoor
