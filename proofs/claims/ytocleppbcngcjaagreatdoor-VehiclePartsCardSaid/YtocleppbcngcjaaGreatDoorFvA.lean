import Derived.Test.YtocleppbcngcjaaGreatDoorLz
import Derived.Test.YtocleppbcngcjaaGreatDoorFvG1
import Derived.WalkKit
import Derived.Lib.Mul64
import Derived.Lib.BitFns
import Derived.Lib.ItoaNum
namespace Ul
def One:Int:=4294967296
def ok(lo hi:Int):Bool:=decide (-9223372036854775807<=lo) && decide (-9223372036854775807<=hi) && decide (lo<=hi)
def AG(lo hi:Int):Int:=if ok lo hi then 0 else 2
abbrev R:=Int × Int × Int
def fit(lo hi:Int):R:=if -9223372036854775807<=lo/\lo<=9223372036854775807 /\ -9223372036854775807<=hi/\hi<=9223372036854775807 then (lo,hi,0)else (0,0,4)
def fl(x y:Int):Int:=x / y
def ce(x y:Int):Int := -((-x) / y)
def LV(a b c d:Int):Int:=min (min (min a b) c) d
def LW(a b c d:Int):Int:=max (max (max a b) c) d
def BJ(x y:Int):Int:=if y<0 then fl (-(x*4294967296)) (-y)else fl (x*4294967296) y
def BK(x y:Int):Int:=if y<0 then ce (-(x*4294967296)) (-y)else ce (x*4294967296) y
def div(a b c d:Int):R :=
 if ok a b && ok c d then
  if c<=0/\0<=d then (0,0,10)
  else fit (LV (BJ a c) (BJ a d) (BJ b c) (BJ b d)) (LW (BK a c) (BK a d) (BK b c) (BK b d))
 else (0,0,2)
def least(a b c d:Int):R:=if ok a b && ok c d then (min a c,min b d,0)else (0,0,2)
def meet(a b c d:Int):R :=
 if ok a b && ok c d then (if min b d<max a c then (0,0,7)else (max a c,min b d,0))else (0,0,2)
def wide(a b:Int):Int × Int:=if ok a b then (if 9223372036854775807<b-a then (0,4)else (b-a,0))else (0,2)
def order(a b c d:Int):Int:=if ok a b && ok c d then (if b<c then -1 else if d<a then 1 else 0)else 0
def sign(a b:Int):Int:=order a b 0 0
def ofInt(n:Int):R:=fit (n*4294967296) (n*4294967296)
def uO(n:Int):Prop := -9223372036854775808<=n/\n<=9223372036854775807
end Ul
set_option linter.unusedVariables false
set_option linter.unusedSimpArgs false
namespace Vc
open Go Go.RowKit
theorem aj{p A B:Prop}(a:p->A)(b:¬p->B):(p->A)/\(¬p->B):=⟨a,b⟩
theorem Ret.as{P:Program}{f:FuncId}{args:Array Value}{W:World}{u v:Value}(h:Calls P f args W (Ret u W))(e:u=v):Calls P f args W (Ret v W):=e▸h
theorem LX{k:IntKind}{a a':Int}(h:a=a'):Value.int k a=.int k a':=by rw [h]
theorem pt{a a':Bool}(h:a=a'):Value.bool a=.bool a':=by rw [h]
abbrev S(lo hi:Int):Value := .agg #[.int .i64 lo,.int .i64 hi]
abbrev RV(r:Ul.R):Value := .tuple #[S r.1 r.2.1,.int .i64 r.2.2]
end Vc
set_option linter.unusedVariables false
namespace Go.Proofs.YtocleppbcngcjaaGreatDoor
open Go Go.RowKit Ul Vc
attribute [local irreducible] Go.Calls
theorem Xl(x:Int)(w:World):Calls Tryz.prog 145 #[.int .i64 x] w (Vc.Ret (.bool (decide (-9223372036854775807<=x))) w):=by
 refine W5 x w _ ?_;simp
theorem Sy(a b:Int)(w:World):Calls Tryz.prog 122 #[Vc.S a b] w (Vc.Ret (.int .i64 (AG a b)) w):=by
 refine W6 a b w _ ?_
 (repeat' (first | (intro _ hx) | ((repeat apply Exists.intro);first|refine And.intro (λ_ _=>Xl _ _) ?_) | (refine Vc.aj (λh => ?_) (λh => ?_)) | (refine And.intro (by omega) ?_)))
 all_goals (simp_all [AG,ok]<;>omega)
def qI(a b c d:Int):Int:=if ok a b && ok c d then 0 else 2
theorem LY{b:Nat}{x y z u:Int}{t:TypeId}{w:World}(h:w.heap[b]? = some (.cells #[.int .i64 x,.int .i64 y,.int .i64 z,.int .i64 u] t)) :
  Calls Tryz.prog 84 #[.slice (some ⟨b,0,none⟩) 2 2] w (Vc.Ret (.int .i64 (qI x y z u)) w):=by
 refine W7 (b,0) w _ ?_;refine⟨x,by simp [World.cell?,h],y,by simp [World.cell?,h], ?_⟩
 (repeat apply Exists.intro);refine And.intro (λ_ _=>Sy _ _ _) ?_
 refine aj (λh1=>⟨z,by simp [World.cell?,h],u,by simp [World.cell?,h], ?_⟩) (λh1 => ?_)
 ·(repeat' (first | (intro _ hx) | ((repeat apply Exists.intro);first|refine And.intro (λ_ _=>Sy _ _ _) ?_) | (refine Vc.aj (λh => ?_) (λh => ?_)) | (refine And.intro (by omega) ?_)))
  all_goals (simp_all [qI,AG])
 ·simp_all [qI,AG]
end Go.Proofs.YtocleppbcngcjaaGreatDoor
set_option linter.unusedVariables false
namespace Ul
theorem Fm(a b A B:Int)(ha:0<=a)(hb:0<=b)(hA:a<=A)(hB:b<=B):0<=a*b/\a*b<=A*B :=
 ⟨Int.mul_nonneg ha hb,Int.mul_le_mul hA hB hb (by omega)⟩
structure Dj(u v y q r:Int):Prop where
 eq:u=q*(y / 4294967296)+r
 lo:(u*4294967296+v) / y<=q
 hi:q<=4294967297
 pos:0<=r
theorem HN(u v y:Int)(hu:0<=u)(LZ:u<y)(hv:0<=v)(mQ:v<4294967296)(hy:9223372036854775808<=y)(eZ:y<18446744073709551616) :
  Dj u v y (u / (y / 4294967296)) (u-u / (y / 4294967296)*(y / 4294967296)):=by
 have xv:2147483648<=y / 4294967296:=by omega
 have ue:y / 4294967296<4294967296:=by omega
 have ey:y=(y / 4294967296)*4294967296+y % 4294967296:=by omega
 generalize hd:y / 4294967296=d at *;generalize he:y % 4294967296=e at *;have J1:0<=e:=by omega
 have AX:e<4294967296:=by omega
 have hq:u=u / d*d+u % d:=by have:=Int.mul_ediv_add_emod u d;rw [Int.mul_comm]at this;omega
 have Fo:0<=u % d:=Int.emod_nonneg _ (by omega);refine⟨by rw [hd];omega, ?_, ?_,by omega⟩
 ·rw [Int.le_ediv_iff_mul_le (by omega)];have h1:(u*4294967296+v) / y*y<=u*4294967296+v:=Int.ediv_mul_le _ (by omega);have h0:0<=(u*4294967296+v) / y:=Int.ediv_nonneg (by omega) (by omega);generalize (u*4294967296+v) / y=q1 at *;rw [ey]at h1;have h2:0<=q1*e:=Int.mul_nonneg h0 J1;have h3:q1*(d*4294967296+e)=(q1*d)*4294967296+q1*e:=by grind
  omega
 ·have:u / d<4294967298:=by
   rw [Int.ediv_lt_iff_lt_mul (by omega)];omega
  omega
theorem ui(u v y:Int)(hu:0<=u)(LZ:u<y)(hv:0<=v)(mQ:v<4294967296)(hy:9223372036854775808<=y):(u*4294967296+v) / y<4294967296:=by
 rw [Int.ediv_lt_iff_lt_mul (by omega)];omega
theorem z_(u v y q r:Int)(h:Dj u v y q r)(hu:0<=u)(LZ:u<y)(hv:0<=v)(mQ:v<4294967296)(hy:9223372036854775808<=y)(eZ:y<18446744073709551616)
  (hc:4294967296<=q∨4294967296*r+v<q*(y % 4294967296)):Dj u v y (q-1) (r+y / 4294967296)/\q-1<=4294967296/\1<=q:=by
 obtain⟨h1,h2,h3,h4⟩:=h;have hl:=ui u v y hu LZ hv mQ hy;have h0:0<=(u*4294967296+v) / y:=Int.ediv_nonneg (by omega) (by omega)
 have cn:(u*4294967296+v) / y<q:=by
  rcases hc with hc|hc
  ·omega
  ·rw [Int.ediv_lt_iff_lt_mul (by omega)];have ey:y=(y / 4294967296)*4294967296+y % 4294967296:=by omega
   generalize y / 4294967296=d at *;generalize y % 4294967296=e at *;rw [ey,h1]
   have:q*(d*4294967296+e)=(q*d)*4294967296+q*e:=by grind
   omega
 refine⟨⟨?_,by omega,by omega,by omega⟩,by omega,by omega⟩;rw [h1];grind
theorem Fp(u v y q r:Int)(h:Dj u v y q r)(hy:9223372036854775808<=y)(hc:q*(y % 4294967296)<=4294967296*r+v):q=(u*4294967296+v) / y:=by
 obtain⟨h1,h2,h3,h4⟩:=h
 have:q<=(u*4294967296+v) / y:=by
  rw [Int.le_ediv_iff_mul_le (by omega)];have ey:y=(y / 4294967296)*4294967296+y % 4294967296:=by omega
  generalize y / 4294967296=d at *;generalize y % 4294967296=e at *;rw [ey,h1]
  have:q*(d*4294967296+e)=(q*d)*4294967296+q*e:=by grind
  omega
 omega
theorem z'(u v y q r:Int)(h:Dj u v y q r)(hy:9223372036854775808<=y)(hv:0<=v)(hu:0<=u)(hq:q<=4294967296)(hr:4294967296<=r):q=(u*4294967296+v) / y:=by
 refine Fp u v y q r h hy ?_;obtain⟨h1,h2,h3,h4⟩:=h;have h0:0<=(u*4294967296+v) / y:=Int.ediv_nonneg (by omega) (by omega)
 have:=Fm q (y % 4294967296) 4294967296 4294967296 (by omega) (by omega) hq (by omega)
 omega
theorem Xm(u a b y:Int)(hy:0<y):((u*4294967296+a)*4294967296+b) / y=((u*4294967296+a) / y)*4294967296+(((u*4294967296+a) % y)*4294967296+b) / y
  /\ ((u*4294967296+a)*4294967296+b) % y=(((u*4294967296+a) % y)*4294967296+b) % y:=by
 have h:=Int.mul_ediv_add_emod (u*4294967296+a) y;generalize (u*4294967296+a) / y=q at *;generalize (u*4294967296+a) % y=r at *;have e:(u*4294967296+a)*4294967296+b=(r*4294967296+b)+y*(q*4294967296):=by rw [<-h];grind
 rw [e,Int.add_mul_ediv_left _ _ (by omega),Int.add_mul_emod_self_left];exact⟨by omega,rfl⟩
theorem L0(n y k:Int)(hk:0<k)(hy:0<y):(n*k) / (y*k)=n / y/\(n*k) % (y*k) / k=n % y:=by
 constructor
 ·exact Int.mul_ediv_mul_of_pos_left _ _ hk
 ·rw [Int.mul_comm n k,Int.mul_comm y k,Int.mul_emod_mul_of_pos _ _ hk,Int.mul_ediv_cancel_left _ (by omega)]
end Ul
set_option linter.unusedVariables false
namespace Ul
theorem rZ(k:Nat):(0:Int)<2 ^ k:=Int.pow_pos (by decide)
end Ul
set_option linter.unusedVariables false
namespace Ul
open Go Go.RowKit
def val(h l:Int):Int:=h*18446744073709551616+l
def dM(v:Int):Int:=v / 18446744073709551616
def fu(v:Int):Int:=v % 18446744073709551616
theorem L1(v:Int):val (dM v) (fu v)=v:=by unfold val dM fu;omega
theorem Aa(v:Int):0<=fu v/\fu v<=18446744073709551615:=by unfold fu;omega
theorem Sz(v:Int)(h0:0<=v)(h1:v<=18446744073709551615):dM v=0/\fu v=v:=by unfold dM fu;omega
theorem oY(x:Int):IntKind.i64.wrap x=(x+9223372036854775808) % 18446744073709551616-9223372036854775808:=IntKind.wrap_i64 x
theorem aD(x:Int):IntKind.u64.wrap x=x % 18446744073709551616:=by
 simp [IntKind.wrap,IntKind.bits,IntKind.signed]
theorem SA(x:Int):((BitVec.ofInt 64 x).toNat:Int)=x % 18446744073709551616:=by
 rw [BitVec.toNat_ofInt];simp;omega
def eM(n:Int):Int:=if n<0 then -n else n
theorem HO(n:Int)(h:-9223372036854775808<=n)(h':n<=9223372036854775807):0<=eM n/\eM n<=9223372036854775808:=by unfold eM;split<;>omega
end Ul
set_option linter.unusedVariables false
namespace Ul
open Go Go.RowKit
theorem Xn(a y:Int)(h0:0<=a)(y0:0<y):fl a y=a / y/\ce a y=if a % y=0 then a / y else a / y+1:=by
 refine⟨rfl, ?_⟩;unfold ce;have h3:=Int.mul_ediv_add_emod a y;have h4:=Int.emod_nonneg a (show y≠0 by omega);have h5:=Int.emod_lt_of_pos a y0;split
 ·rename_i h;have e:-a=y*(-(a / y)):=by rw [Int.mul_neg];omega
  rw [e,Int.mul_ediv_cancel_left _ (by omega)];omega
 ·rename_i h;have e:-a=(y-a % y)+y*(-(a / y+1)):=by rw [Int.mul_neg,Int.mul_add];omega
  rw [e,Int.add_mul_ediv_left _ _ (by omega),Int.ediv_eq_zero_of_lt (by omega) (by omega)];omega
def sv(n:Bool)(m:Int):Int:=if n then -m else m
abbrev VB(n:Bool)(m:Int):Value := .agg #[.bool n,.int .u64 (dM m),.int .u64 (fu m)]
def BL(m:Int):Prop:=0<=m/\m<340282366920938463463374607431768211456
theorem BM(m:Int)(h:BL m):0<=dM m/\dM m<=18446744073709551615:=by obtain⟨h1,h2⟩:=h;unfold dM;omega
end Ul
set_option linter.unusedVariables false
namespace Go.Proofs.YtocleppbcngcjaaGreatDoor
open Go Go.RowKit Ul Vc
attribute [local irreducible] Go.Calls
theorem Fq(x:Int)(h0:0<=x)(h1:x<=18446744073709551615):bits .and .u64 x 4294967295=x % 4294967296:=by
 obtain⟨a,rfl⟩:=Int.eq_ofNat_of_zero_le h0;have h:=bits_and_u64_nat a 4294967295 (by omega) (by omega);have e:a &&& 4294967295=a % 4294967296:=Nat.and_two_pow_sub_one_eq_mod a 32;rw [e]at h;exact h
theorem Fs(x y c:Int)(hx:0<=x)(hy:0<=y)(ij:0<=c)(hc:c<=1)(w:World):(callFunc 169 #[.int .u64 x,.int .u64 y,.int .u64 c]).run Tryz.prog w =
  .ok (.value (.tuple #[.int .u64 ((x+y+c) % 18446744073709551616),.int .u64 ((x+y+c) / 18446744073709551616)])) w:=by
 rw [run_callFunc_extern Tryz.func169 (by kernel_rfl) (by kernel_rfl) (by kernel_rfl) (e:=add64Entry) (by kernel_rfl),run_add64 x y c hx hy ij hc];rfl
theorem L2(x y:Int)(hx:0<=x)(hy:0<=y)(w:World):(callFunc 169 #[.int .u64 x,.int .u64 y,.int .u64 0]).run Tryz.prog w =
  .ok (.value (.tuple #[.int .u64 ((x+y) % 18446744073709551616),.int .u64 ((x+y) / 18446744073709551616)])) w:=by
 simpa using Fs x y 0 hx hy (Int.le_refl 0) (by decide) w
def mW:Array Value->Sem Value:=λargs=>do
  let (x, y, b) <-Extern.MathBitsCarry.three "Sub64" args
  pure (Extern.MathBitsCarry.pair ((x+Extern.MathBitsCarry.m64-y-b) % Extern.MathBitsCarry.m64) (if x<y+b then 1 else 0))
def wU(x y:Int):Int:=if x<y then 1 else 0
theorem Ft(x y:Int):0<=wU x y/\wU x y<=1:=by unfold wU;split<;>omega
theorem Xo(x y b:Nat)(hb:b<=1)(w:World) :
  (mW #[.int .u64 x,.int .u64 y,.int .u64 b]).run Tryz.prog w =
   .ok (.tuple #[.int .u64 (((x+18446744073709551616-y-b) % 18446744073709551616:Nat):Int),.int .u64 ((if x<y+b then 1 else 0:Nat):Int)]) w:=by
 have:b=0∨b=1:=by omega
 rcases this with rfl|rfl<;>rfl
theorem Fu(x y b:Int)(hx:0<=x)(hy:0<=y)(eZ:y<=18446744073709551615)(gW:0<=b)(hb:b<=1)(w:World):(callFunc 168 #[.int .u64 x,.int .u64 y,.int .u64 b]).run Tryz.prog w =
  .ok (.value (.tuple #[.int .u64 ((x-y-b) % 18446744073709551616),.int .u64 (wU x (y+b))])) w:=by
 obtain⟨x,rfl⟩:=Int.eq_ofNat_of_zero_le hx;obtain⟨y,rfl⟩:=Int.eq_ofNat_of_zero_le hy;obtain⟨b,rfl⟩:=Int.eq_ofNat_of_zero_le gW;have e1:(((x+18446744073709551616-y-b) % 18446744073709551616:Nat):Int)=((x:Int)-y-b) % 18446744073709551616:=by omega
 have e2:((if x<y+b then 1 else 0:Nat):Int)=wU (x:Int) (y+b):=by unfold wU;split<;>split<;>omega
 rw [<-e1,<-e2];rw [run_callFunc_extern Tryz.func168 (by kernel_rfl) (by kernel_rfl) (by kernel_rfl) (e:=mW) (by kernel_rfl),Xo x y b (by omega)];rfl
theorem HP(x y:Int)(hx:0<=x)(hy:0<=y)(eZ:y<=18446744073709551615)(w:World):(callFunc 168 #[.int .u64 x,.int .u64 y,.int .u64 0]).run Tryz.prog w =
  .ok (.value (.tuple #[.int .u64 ((x-y) % 18446744073709551616),.int .u64 (wU x y)])) w:=by
 simpa using Fu x y 0 hx hy eZ (Int.le_refl 0) (by decide) w
def HQ(n1:Bool)(m1:Int)(n2:Bool)(m2:Int):Bool:=if n1 == n2 then n1 else if m1<m2 then n2 else n1
def HR(n1:Bool)(m1:Int)(n2:Bool)(m2:Int):Int:=if n1 == n2 then m1+m2 else if m1<m2 then m2-m1 else m1-m2
theorem L3(m1 m2:Int):(m1<m2)↔(dM m1<dM m2∨(dM m1=dM m2/\fu m1<fu m2)):=by unfold dM fu;omega
theorem Xp(n:Int)(w:World)(h:uO n):Calls Tryz.prog 146 #[.int .i64 n] w (Vc.Ret (.int .u64 (eM n)) w):=by
 obtain⟨h,h'⟩:=h;refine W8 _ w _ ?_
 (repeat' (first | (intro _ hx) | (refine Vc.aj (λh => ?_) (λh => ?_)) | (refine And.intro (by omega) ?_)))
 all_goals (simp only [Ul.aD]at *;refine LX ?_;unfold eM;split<;>omega)
theorem SB(n:Int)(w:World)(h:uO n):Calls Tryz.prog 123 #[.int .i64 n] w (Vc.Ret (VB (decide (n<0)) (eM n)) w):=by
 have hb:=HO n h.1 h.2;have e:=Sz (eM n) (by omega) (by omega);refine W9 _ w _ ?_
 (repeat' (first | (intro _ hx) | ((repeat apply Exists.intro);first|refine And.intro (λ_ _=>Xp _ _ h) ?_) | (refine Vc.aj (λh => ?_) (λh => ?_)) | (refine And.intro (by omega) ?_)))
 simp only [VB,e.1,e.2]
theorem SC(n:Bool)(h l:Int)(w:World):Calls Tryz.prog 148 #[.agg #[.bool n,.int .u64 h,.int .u64 l]] w (Vc.Ret (.bool (h == 0 && l == 0)) w):=by
 refine Xa _ _ _ w _ ?_
 (repeat' (first | (intro _ hx) | (refine Vc.aj (λh => ?_) (λh => ?_)) | (refine And.intro (by omega) ?_)))
 all_goals simp_all
theorem SD(n:Bool)(h l:Int)(w:World):Calls Tryz.prog 150 #[.agg #[.bool n,.int .u64 h,.int .u64 l]] w (Vc.Ret (.bool (n && !(h == 0 && l == 0))) w):=by
 refine Xb _ _ _ w _ ?_
 (repeat' (first | (intro _ hx) | ((repeat apply Exists.intro);first|refine And.intro (λ_ _=>SC _ _ _ _) ?_) | (refine Vc.aj (λh => ?_) (λh => ?_)) | (refine And.intro (by omega) ?_)))
 all_goals simp_all
theorem SF(n:Bool)(m:Int)(w:World)(h0:0<=m):Calls Tryz.prog 127 #[VB n m] w (Vc.Ret (.tuple #[.int .i64 (if m<=9223372036854775807 then sv n m else 0),.bool (decide (m<=9223372036854775807))]) w):=by
 have hl:=Aa m;refine Xg _ _ _ w _ ?_;have t2:∀{a b:Int} {p q:Bool},a=b->p=q->(Value.tuple #[.int .i64 a,.bool p])=.tuple #[.int .i64 b,.bool q]:=by rintro _ _ _ _ rfl rfl;rfl
 have e1:0<dM m->¬m<=9223372036854775807:=by unfold dM;omega
 have e2:¬0<dM m->9223372036854775807<fu m->¬m<=9223372036854775807:=by unfold dM fu;omega
 have e3:¬0<dM m->¬9223372036854775807<fu m->m<=9223372036854775807/\fu m=m:=by unfold dM fu;omega
 refine aj (λh1 => ?_) (λh1=>aj (λh2 => ?_) (λh2=>aj (λhn => ?_) (λhn => ?_)))
 ·rw [if_neg (e1 h1)];exact t2 rfl (by simpa using e1 h1)
 ·rw [if_neg (e2 h1 h2)];exact t2 rfl (by simpa using e2 h1 h2)
 ·obtain⟨q1,q2⟩:=e3 h1 h2;rintro _ rfl _ rfl;rw [if_pos q1];refine t2 ?_ (by simpa using q1);unfold sv;rw [if_pos hn,q2];simp only [Ul.oY];omega
 ·obtain⟨q1,q2⟩:=e3 h1 h2;rintro _ rfl;rw [if_pos q1];refine t2 ?_ (by simpa using q1);unfold sv;rw [if_neg hn,q2];simp only [Ul.oY];omega
theorem SG(n1 n2:Bool)(m1 m2:Int)(w:World)(h1:0<=m1)(h2:0<=m2):Calls Tryz.prog 87 #[VB n1 m1,VB n2 m2] w (Vc.Ret (Vc.RV (fit (sv n1 m1) (sv n2 m2))) w):=by
 have hf:fit (sv n1 m1) (sv n2 m2)=if m1<=9223372036854775807/\m2<=9223372036854775807 then (sv n1 m1,sv n2 m2,0)else (0,0,4):=by
  unfold fit sv;cases n1<;>cases n2<;>simp<;>(split<;>split<;>first|rfl|omega)
 refine Xh _ _ _ _ _ _ w _ ?_
 (repeat apply Exists.intro);refine And.intro (λ_ _=>SF n1 m1 _ h1) ?_
 (repeat apply Exists.intro);refine And.intro (λ_ _=>SF n2 m2 _ h2) ?_
 rw [hf];refine aj (λc1=>aj (λc2 => ?_) (λc2 => ?_)) (λc1 => ?_)
 ·have c1:=of_decide_eq_true c1;have c2:=of_decide_eq_true c2;rw [if_pos c1,if_pos c2,if_pos ⟨c1,c2⟩]
 ·have c2:¬m2<=9223372036854775807:=by simpa using c2
  rw [if_neg (λh=>c2 h.2)]
 ·have c1:¬m1<=9223372036854775807:=by simpa using c1
  rw [if_neg (λh=>c1 h.1)]
theorem BN{b b':Bool}{k l:IntKind}{x x' y y':Int}(hb:b=b')(h:x=x')(h':y=y'):Value.agg #[.bool b,.int k x,.int l y]=.agg #[.bool b',.int k x',.int l y']:=by rw [hb,h,h']
theorem L4(n1 n2:Bool)(m1 m2:Int)(w:World)(h1:BL m1)(h2:BL m2)(h:m1+m2<340282366920938463463374607431768211456) :
  Calls Tryz.prog 149 #[VB n1 m1,VB n2 m2] w (Vc.Ret (VB (HQ n1 m1 n2 m2) (HR n1 m1 n2 m2)) w):=by
 have l1:=Aa m1;have l2:=Aa m2;have u1:=BM m1 h1;have u2:=BM m2 h2;have kE:=Ft (fu m1) (fu m2);have ma:=Ft (fu m2) (fu m1);obtain⟨h1,Zq⟩:=h1;obtain⟨h2,Zr⟩:=h2;refine Xd _ _ _ _ _ _ w _ ?_;refine aj (λhn => ?_) (λhn => ?_)
 ·have hn:n1=n2:=Bool.eq_iff_iff.2 hn;refine⟨_,_,⟨rfl,L2 _ _ l1.1 l2.1⟩,_,_,⟨rfl,Fs _ _ _ u1.1 u2.1 (by omega) (by omega)⟩, ?_⟩;unfold HQ HR;rw [if_pos (by simpa using hn),if_pos (by simpa using hn)];refine BN rfl ?_ ?_<;>(try unfold dM at *)<;>(try unfold fu at *)<;>omega
 ·have hn:¬(n1 == n2)=true:=by rw [beq_iff_eq];exact λe=>hn (Bool.eq_iff_iff.1 e)
  have hs:=L3 m1 m2;unfold HQ HR;rw [if_neg hn,if_neg hn];refine aj (λc1 => ?_) (λc1=>aj (λc2=>aj (λc3 => ?_) (λc3 => ?_)) (λc2 => ?_))
  ·have cn:=hs.2 (.inl c1);refine⟨_,_,⟨rfl,HP _ _ l2.1 l1.1 l1.2⟩,_,_,⟨rfl,Fu _ _ _ u2.1 u1.1 u1.2 ma.1 ma.2⟩, ?_⟩;rw [if_pos cn,if_pos cn];refine BN rfl ?_ ?_<;>unfold wU dM fu at*<;> (try split)<;>omega
  ·have cn:=hs.2 (.inr ⟨c2,c3⟩);refine⟨_,_,⟨rfl,HP _ _ l2.1 l1.1 l1.2⟩,_,_,⟨rfl,Fu _ _ _ u2.1 u1.1 u1.2 ma.1 ma.2⟩, ?_⟩;rw [if_pos cn,if_pos cn];refine BN rfl ?_ ?_<;>unfold wU dM fu at*<;> (try split)<;>omega
  ·have cn:¬m1<m2:=by rw [hs];omega
   refine⟨_,_,⟨rfl,HP _ _ l1.1 l2.1 l2.2⟩,_,_,⟨rfl,Fu _ _ _ u1.1 u2.1 u2.2 kE.1 kE.2⟩, ?_⟩;rw [if_neg cn,if_neg cn];refine BN rfl ?_ ?_<;>unfold wU dM fu at*<;> (try split)<;>omega
  ·have cn:¬m1<m2:=by rw [hs];omega
   refine⟨_,_,⟨rfl,HP _ _ l1.1 l2.1 l2.2⟩,_,_,⟨rfl,Fu _ _ _ u1.1 u2.1 u2.2 kE.1 kE.2⟩, ?_⟩;rw [if_neg cn,if_neg cn];refine BN rfl ?_ ?_<;>unfold wU dM fu at*<;> (try split)<;>omega
theorem L5{a b c d:Int}(h:qI a b c d=0):(ok a b && ok c d)=true:=by
 unfold qI at h;split at h
 ·assumption
 ·cases h
theorem SH{a b c d:Int}(h:¬qI a b c d=0):¬(ok a b && ok c d)=true/\qI a b c d=2:=by
 unfold qI at h ⊢;split at h
 ·exact absurd rfl h
 ·rename_i h1;exact⟨h1,by rw [if_neg h1]⟩
end Go.Proofs.YtocleppbcngcjaaGreatDoor
set_option linter.unusedVariables false
namespace Go.Proofs.YtocleppbcngcjaaGreatDoor
open Go Go.RowKit Ul Vc
attribute [local irreducible] Go.Calls
theorem L6(n1 n2:Bool)(m1 m2:Int)(w:World)(h1:0<=m1)(h2:0<=m2) :
  Calls Tryz.prog 126 #[VB n1 m1,VB n2 m2] w (Vc.Ret (.bool (decide (sv n1 m1<sv n2 m2))) w):=by
 have l1:=Aa m1;have l2:=Aa m2
 have z1:(dM m1 == 0 && fu m1 == 0)=decide (m1=0):=by
  rw [Bool.eq_iff_iff];simp only [Bool.and_eq_true,beq_iff_eq,decide_eq_true_eq];unfold dM fu;omega
 have z2:(dM m2 == 0 && fu m2 == 0)=decide (m2=0):=by
  rw [Bool.eq_iff_iff];simp only [Bool.and_eq_true,beq_iff_eq,decide_eq_true_eq];unfold dM fu;omega
 have L7:=L3 m1 m2;have Zs:=L3 m2 m1;have b1:=SD n1 (dM m1) (fu m1);have b2:=SD n2 (dM m2) (fu m2);rw [z1]at b1;rw [z2]at b2;refine Xc _ _ _ _ _ _ w _ ?_
 (repeat apply Exists.intro);refine And.intro (λ_ _=>b1 _) ?_
 (repeat apply Exists.intro);refine And.intro (λ_ _=>b2 _) ?_
 refine aj (λh => ?_) (λh => ?_)
 ·(repeat apply Exists.intro);refine And.intro (λ_ _=>b1 _) ?_
  unfold sv;refine aj (λg => ?_) (λg => ?_)
  ·have e2:=h.1 g;simp only [Bool.and_eq_true,Bool.not_eq_true',decide_eq_false_iff_not]at g e2;rw [if_pos g.1,if_pos e2.1];refine aj (λc1 => ?_) (λc1=>aj (λc2 => ?_) (λc2 => ?_))
   all_goals (refine pt ?_;rw [Bool.eq_iff_iff];simp only [decide_eq_true_eq,true_iff,Bool.false_eq_true,false_iff];omega)
  ·have e2:=mt h.2 g;have p1:sv n1 m1=m1:=by unfold sv;cases n1<;>simp_all
   have p2:sv n2 m2=m2:=by unfold sv;cases n2<;>simp_all
   unfold sv at p1 p2;rw [p1,p2];refine aj (λc1 => ?_) (λc1=>aj (λc2 => ?_) (λc2 => ?_))
   all_goals (refine pt ?_;rw [Bool.eq_iff_iff];simp only [decide_eq_true_eq,true_iff,Bool.false_eq_true,false_iff];omega)
 ·(repeat apply Exists.intro);refine And.intro (λ_ _=>b1 _) ?_
  refine pt ?_;rw [Bool.eq_iff_iff];unfold sv;cases n1<;>cases n2<;>simp at h ⊢<;>omega
abbrev VP(p:Bool × Int):Value:=VB p.1 p.2
def qJ(p:Bool × Int):Int:=sv p.1 p.2
def ir(p q:Bool × Int):Bool × Int:=if qJ q<qJ p then q else p
def iu(p q:Bool × Int):Bool × Int:=if qJ p<qJ q then q else p
theorem L8(p q:Bool × Int):qJ (ir p q)=min (qJ p) (qJ q):=by unfold ir;split<;>omega
theorem L9(p q:Bool × Int):qJ (iu p q)=max (qJ p) (qJ q):=by unfold iu;split<;>omega
theorem Dk{p q:Bool × Int}{B:Int}(hp:0<=p.2/\p.2<=B)(hq:0<=q.2/\q.2<=B):0<=(ir p q).2/\(ir p q).2<=B:=by unfold ir;split<;>assumption
theorem Dl{p q:Bool × Int}{B:Int}(hp:0<=p.2/\p.2<=B)(hq:0<=q.2/\q.2<=B):0<=(iu p q).2/\(iu p q).2<=B:=by unfold iu;split<;>assumption
theorem SI(p q:Bool × Int)(w:World)(hp:0<=p.2)(hq:0<=q.2) :
  Calls Tryz.prog 126 #[VP p,VP q] w (Vc.Ret (.bool (decide (qJ p<qJ q))) w):=L6 _ _ _ _ w hp hq
end Go.Proofs.YtocleppbcngcjaaGreatDoor
set_option linter.unusedVariables false
namespace Ul
open Go Go.RowKit
theorem Xq(y:Int)(h0:0<y)(h1:y<=18446744073709551615) :
  ∃s:Nat,s<=63/\64-(Lib.bitLen y.toNat:Int)=(s:Int)/\9223372036854775808<=y*2 ^ s/\y*2 ^ s<18446744073709551616:=by
 obtain⟨b1,b2,b3⟩:=Lib.bitLenAux_bounds 64 y.toNat (by omega) (by omega);have b4:Lib.bitLen y.toNat<=64:=Lib.bitLen_le _ 64 (by omega) (by omega);have e:Lib.bitLenAux 64 y.toNat=Lib.bitLen y.toNat:=rfl;rw [e]at b1 b2 b3;generalize Lib.bitLen y.toNat=L at *;refine⟨64-L,by omega,by omega, ?_, ?_⟩
 ·have h:=Nat.mul_le_mul_right (2 ^ (64-L)) b2;rw [<-Nat.pow_add,show L-1+(64-L)=63 by omega]at h
  have:((y.toNat*2 ^ (64-L):Nat):Int)=y*2 ^ (64-L):=by rw [Int.natCast_mul,Int.natCast_pow,Int.toNat_of_nonneg (by omega)];rfl
  omega
 ·have h:=Nat.mul_lt_mul_of_pos_right b3 (Nat.two_pow_pos (64-L));rw [<-Nat.pow_add,show L+(64-L)=64 by omega]at h
  have:((y.toNat*2 ^ (64-L):Nat):Int)=y*2 ^ (64-L):=by rw [Int.natCast_mul,Int.natCast_pow,Int.toNat_of_nonneg (by omega)];rfl
  omega
theorem Xr(h l:Int)(s:Nat)(hs:s<=63)(h0:0<=h)(hk:h * 2 ^ s < 18446744073709551616)(l0:0<=l)(l1:l<=18446744073709551615) :
    0 <= h*2 ^ s/\0<=l / 2 ^ (64-s)/\l / 2 ^ (64-s)<2 ^ s /\
      (h*18446744073709551616+l)*2 ^ s=(h*2 ^ s+l / 2 ^ (64-s))*18446744073709551616+(l*2 ^ s) % 18446744073709551616/\h*2 ^ s+l / 2 ^ (64-s)<18446744073709551616+2 ^ s:=by
  have p1:=rZ s;have p2:=rZ (64-s);have e:(2:Int) ^ s*2 ^ (64-s)=18446744073709551616:=by rw [<-Int.pow_add,show s+(64-s)=64 by omega];decide
  have q0:0<=l / 2 ^ (64-s):=Int.ediv_nonneg l0 (by omega);have q1:l / 2 ^ (64-s)<2 ^ s:=by rw [Int.ediv_lt_iff_lt_mul p2];omega
  refine⟨Int.mul_nonneg h0 (by omega),q0,q1, ?_,by omega⟩
  have d:l*2 ^ s / 18446744073709551616=l / 2 ^ (64-s):=by
    rw [<-e,Int.mul_comm (2 ^ s)];exact Int.mul_ediv_mul_of_pos_left _ _ p1
  have m:=Int.mul_ediv_add_emod (l*2 ^ s) 18446744073709551616;rw [d]at m;rw [Int.add_mul,Int.add_mul];have c:h*18446744073709551616*2 ^ s=h*2 ^ s*18446744073709551616:=by grind
  omega
theorem yG(h l y u d1 d0 q1 q0:Int)(s:Nat)(hy:0<y)(hs:(h*18446744073709551616+l)*2 ^ s=u*18446744073709551616+(d1*4294967296+d0))
  (lP:q1=(u*4294967296+d1) / (y*2 ^ s)) (dN:q0=((u*4294967296+d1) % (y*2 ^ s)*4294967296+d0) / (y*2 ^ s)) :
  q1*4294967296+q0=(h*18446744073709551616+l) / y/\((u*4294967296+d1) % (y*2 ^ s)*4294967296+d0) % (y*2 ^ s) / 2 ^ s=(h*18446744073709551616+l) % y:=by
 have p1:=rZ s;have hp:0<y*2 ^ s:=Int.mul_pos hy p1;have t:=Xm u d1 d0 (y*2 ^ s) hp;have sc:=L0 (h*18446744073709551616+l) y (2 ^ s) p1 hy;have e:(u*4294967296+d1)*4294967296+d0=(h*18446744073709551616+l)*2 ^ s:=by rw [hs];omega
 rw [e,sc.1]at t;refine⟨by rw [lP,dN];exact t.1.symm, ?_⟩;rw [<-t.2];exact sc.2
theorem Fv(a b:Int)(s:Nat)(hs:s<=63)(x:Int)(ha:a=x*2 ^ s)(hx:0<=x)(hb:0<=b)(fy:b<2 ^ s)(Qt:a+b<18446744073709551616):bits .or .u64 a b=a+b:=by
 obtain⟨n,rfl⟩:=Int.eq_ofNat_of_zero_le hx;obtain⟨m,rfl⟩:=Int.eq_ofNat_of_zero_le hb;have e:a=((n*2 ^ s:Nat):Int):=by rw [ha,Int.natCast_mul,Int.natCast_pow];rfl
 have hm:m<2 ^ s:=by
  have:((2 ^ s:Nat):Int)=2 ^ s:=by rw [Int.natCast_pow];rfl
  omega
 have o:n*2 ^ s ||| m=n*2 ^ s+m:=by
  have:=Nat.two_pow_add_eq_or_of_lt hm n
  rw [Nat.mul_comm];exact this.symm
 have t1:(BitVec.ofInt 64 a).toNat=n*2 ^ s:=by
  have:=SA a
  omega
 have t2:(BitVec.ofInt 64 (m:Int)).toNat=m:=by
  have:=SA (m:Int)
  omega
 show IntKind.u64.wrap ((BitVec.ofInt 64 a ||| BitVec.ofInt 64 (m:Int)).toNat:Int)=_;rw [BitVec.toNat_or,t1,t2,o,aD];omega
end Ul
set_option linter.unusedVariables false
namespace Go.Proofs.YtocleppbcngcjaaGreatDoor
open Go Go.RowKit Ul Vc
attribute [local irreducible] Go.Calls
theorem L_(x:Int)(w:World)(h0:0<=x)(h1:x<=18446744073709551615) :
  Calls Tryz.prog 70 #[.int .u64 x] w (Vc.Ret (.int .i64 (64-(Lib.bitLen x.toNat:Int))) w) :=
 (W4 x w h0 h1).mono λe w' ⟨he,hw⟩=>⟨he,by subst hw;exact Below.refl _ _⟩
def yH(u v y:Int)(l:List Vc.Vl):Prop:=∃q r,l=[.i q,.i r]/\Dj u v y q r/\r<4294967296
def lQ(l:List Vc.Vl):Nat:=match l with | .i q::_=>q.toNat|_=>0
theorem Xs(h l y:Int)(w:World)(h0:0<=h)(cn:h<y)(xv:y<=18446744073709551615)(l0:0<=l)(l1:l<=18446744073709551615) :
  Calls Tryz.prog 37 #[.int .u64 h,.int .u64 l,.int .u64 y] w (Vc.Ret (.tuple #[.int .u64 ((h*18446744073709551616+l) / y),.int .u64 ((h*18446744073709551616+l) % y)]) w):=by
 have hy:0<y:=by omega
 refine Xe _ _ _ w _ ?_;refine aj (λhc=>absurd hc (by omega)) (λ_=>aj (λhc=>absurd hc (by omega)) (λ_=>aj (λhz => ?_) (λhz => ?_)))
 ·subst hz;refine⟨by omega, ?_⟩;rintro _ rfl;refine⟨by omega, ?_⟩;rintro _ rfl;have q0:0<=l / y:=Int.ediv_nonneg l0 (by omega);have q1:l / y<=l:=Int.ediv_le_self _ l0;rw [Int.tdiv_eq_ediv_of_nonneg l0,Int.tmod_eq_emod_of_nonneg l0,Ul.aD,Int.emod_eq_of_lt q0 (by omega)];simp
 ·obtain⟨s,hs,e1,t0,t1⟩:=Xq y hy xv
  have hk:h*2 ^ s<18446744073709551616:=by
   have:=Int.mul_le_mul_of_nonneg_right (Int.le_of_lt cn) (Int.le_of_lt (rZ s));omega
  obtain⟨z1,z2,z3,z4,z5⟩:=Xr h l s hs h0 hk l0 l1;have L':Nat.min (Int.toNat (s:Int)) 64=s:=Nat.min_eq_left (by omega)
  (repeat apply Exists.intro);refine And.intro (λ_ _=>L_ _ _ (by omega) xv) ?_
  rw [e1];intro x4 h4;have e4:x4=(s:Int):=by rw [h4,Ul.aD];omega
  subst e4;clear h4;rw [L'];refine⟨by omega, ?_⟩;intro n hn;have hn:n=y*2 ^ s:=by rw [hn,Ul.aD];omega
  rw [<-hn]at t0 t1;rintro _ rfl n0 Fw;rw [Fq n (by omega) (by omega)]at Fw;subst Fw;refine⟨by omega, ?_⟩;intro x8 h8 x9 h9;have e8:x8=h*2 ^ s:=by rw [h8,Ul.aD];omega
  have e9:x9=((64-s:Nat):Int):=by rw [h9,Ul.aD];omega
  subst e8 e9;rw [show Nat.min (Int.toNat ((64-s:Nat):Int)) 64=64-s from Nat.min_eq_left (by omega),Int.fdiv_eq_ediv_of_nonneg _ (Int.le_of_lt (rZ _))];refine⟨by omega, ?_⟩;rintro _ rfl;have jk:(h+1)*2 ^ s<=n:=by rw [hn];exact Int.mul_le_mul_of_nonneg_right (by omega) (Int.le_of_lt (rZ s))
  rw [Int.add_mul,Int.one_mul]at jk;intro u hu;have hu:u=h*2 ^ s+l / 2 ^ (64-s):=by rw [hu];exact Fv _ _ s hs h rfl h0 z2 z3 (by omega)
  have BO:0<=u:=by omega
  have fb:u<n:=by omega
  rw [<-hu]at z4;refine⟨by omega, ?_⟩;intro aW BP;rw [Ul.aD]at BP;rw [<-BP]at z4;intro d1 Ma d0 Fx;rw [Fq aW (by omega) (by omega)]at Fx;have wV:0<=d1:=by omega
  have Mb:d1<4294967296:=by omega
  have pv:0<=d0:=by omega
  have pw:d0<4294967296:=by omega
  have hN:(h*18446744073709551616+l)*2 ^ s=u*18446744073709551616+(d1*4294967296+d0):=by rw [z4];omega
  clear z1 z2 z3 z4 z5 hk jk hu BP Ma Fx hz e1;refine⟨by omega, ?_⟩;intro b1 fy b2 dL b3 pN;have st:=HN u d1 n (by omega) (by omega) (by omega) (by omega) t0 t1;have f0:0<=u / (n / 4294967296):=Int.ediv_nonneg (by omega) (by omega);have f1:u / (n / 4294967296)<=u:=Int.ediv_le_self _ (by omega);have f2:=Int.mul_ediv_add_emod u (n / 4294967296);have f3:=Int.emod_nonneg u (show n / 4294967296≠0 by omega);have f4:=Int.emod_lt_of_pos u (show 0<n / 4294967296 by omega);rw [Int.mul_comm (n / 4294967296)]at f2;have f5:0<=u / (n / 4294967296)*(n / 4294967296):=Int.mul_nonneg f0 (by omega);have w1:b1=u / (n / 4294967296):=by rw [fy,Int.tdiv_eq_ediv_of_nonneg (by omega),Ul.aD];omega
  have w2:b2=u / (n / 4294967296)*(n / 4294967296):=by rw [dL,w1,Ul.aD];omega
  have w3:b3=u-u / (n / 4294967296)*(n / 4294967296):=by rw [pN,w2,Ul.aD];omega
  rw [<-w3,<-w1]at st;have w4:b3<4294967296:=by omega
  clear fy dL pN f0 f1 f2 f3 f4 f5 w1 w2 w3;refine⟨yH u d1 n,lQ,⟨_,_,rfl,st,by omega⟩, ?_⟩;rintro qa ra ⟨_,_,he,hd,hr⟩;simp only [List.cons.injEq,Vc.Vl.i.injEq,and_true]at he;obtain⟨rfl,rfl⟩:=he;have vP:=hd.pos;have xq:=hd.hi;have BQ:0<=qa:=Int.le_trans (Int.ediv_nonneg (by omega) (by omega)) hd.lo;refine aj (λc1 => ?_) (λc1 => ?_)
  ·intro qb mX rb jm;have nx:=z_ u d1 n qa ra hd (by omega) (by omega) (by omega) (by omega) t0 t1 (.inl c1);have e1:qb=qa-1:=by rw [mX,Ul.aD];omega
   have e2:rb=ra+n / 4294967296:=by rw [jm,Ul.aD];omega
   rw [<-e1,<-e2]at nx;clear mX jm;refine aj (λc2 => ?_) (λc2 => ?_)
   ·have fq:=z' u d1 n qb rb nx.1 t0 (by omega) (by omega) nx.2.1 c2;intro a1 qn a2 sQ a3 Ab RA tv;have lP:=fq;have m1:=Int.mul_ediv_add_emod (u*4294967296+d1) n;rw [<-lP]at m1;have m2:=Int.emod_nonneg (u*4294967296+d1) (show n≠0 by omega);have m3:=Int.emod_lt_of_pos (u*4294967296+d1) (show 0<n by omega)
    have mT:RA=(u*4294967296+d1) % n:=by
     rw [tv,Ab,sQ,qn];simp only [Ul.aD];rw [Int.mul_comm n]at m1;generalize (u*4294967296+d1) % n=R2 at *;generalize qb*n=P at *;omega
    have l1:=ui u d1 n BO fb wV Mb t0;rw [<-lP]at l1;have g1:0<=qb:=by rw [lP];exact Int.ediv_nonneg (by omega) (by omega)
    have r0:0<=RA:=by omega
    have r1:RA<n:=by omega
    obtain⟨qA,Ac⟩:∃qA,qA=qb:=⟨_,rfl⟩;rw [<-Ac]at lP l1 g1 ⊢;clear qn sQ Ab tv m1 m2 m3 fq Ac;refine⟨by omega, ?_⟩;intro b1 fy b2 dL b3 pN;have st:=HN RA d0 n (by omega) (by omega) (by omega) (by omega) t0 t1;have f0:0<=RA / (n / 4294967296):=Int.ediv_nonneg (by omega) (by omega);have f1:RA / (n / 4294967296)<=RA:=Int.ediv_le_self _ (by omega);have f2:=Int.mul_ediv_add_emod RA (n / 4294967296);have f3:=Int.emod_nonneg RA (show n / 4294967296≠0 by omega);have f4:=Int.emod_lt_of_pos RA (show 0<n / 4294967296 by omega);rw [Int.mul_comm (n / 4294967296)]at f2;have f5:0<=RA / (n / 4294967296)*(n / 4294967296):=Int.mul_nonneg f0 (by omega);have w1:b1=RA / (n / 4294967296):=by rw [fy,Int.tdiv_eq_ediv_of_nonneg (by omega),Ul.aD];omega
    have w2:b2=RA / (n / 4294967296)*(n / 4294967296):=by rw [dL,w1,Ul.aD];omega
    have w3:b3=RA-RA / (n / 4294967296)*(n / 4294967296):=by rw [pN,w2,Ul.aD];omega
    rw [<-w3,<-w1]at st;have w4:b3<4294967296:=by omega
    clear fy dL pN f0 f1 f2 f3 f4 f5 w1 w2 w3;refine⟨yH RA d0 n,lQ,⟨_,_,rfl,st,by omega⟩, ?_⟩;rintro qa ra ⟨_,_,he,hd,hr⟩;simp only [List.cons.injEq,Vc.Vl.i.injEq,and_true]at he;obtain⟨rfl,rfl⟩:=he;have vP:=hd.pos;have xq:=hd.hi;have BQ:0<=qa:=Int.le_trans (Int.ediv_nonneg (by omega) (by omega)) hd.lo;refine aj (λc1 => ?_) (λc1 => ?_)
    ·intro qb mX rb jm;have nx:=z_ RA d0 n qa ra hd (by omega) (by omega) (by omega) (by omega) t0 t1 (.inl c1);have e1:qb=qa-1:=by rw [mX,Ul.aD];omega
     have e2:rb=ra+n / 4294967296:=by rw [jm,Ul.aD];omega
     rw [<-e1,<-e2]at nx;clear mX jm;refine aj (λc2 => ?_) (λc2 => ?_)
     ·have fq:=z' RA d0 n qb rb nx.1 t0 (by omega) (by omega) nx.2.1 c2;have dN:=fq;have dN:=dN;intro c1 kV c2 iI c3 oP c4 qK c5 px c6 pz;refine⟨by omega, ?_⟩;intro c7 qL;have fin:=yG h l y u d1 d0 qA qb s hy hN (by rw [lP,hn]) (by rw [dN,mT,hn]);have m1:=Int.mul_ediv_add_emod (RA*4294967296+d0) n;rw [<-dN]at m1;have m2:=Int.emod_nonneg (RA*4294967296+d0) (show n≠0 by omega);have m3:=Int.emod_lt_of_pos (RA*4294967296+d0) (show 0<n by omega)
      have e6:c6=(RA*4294967296+d0) % n:=by
       rw [pz,px,qK,oP];simp only [Ul.aD];rw [Int.mul_comm n]at m1;generalize (RA*4294967296+d0) % n=R2 at *;generalize qb*n=P at *;omega
      rw [qL,Int.fdiv_eq_ediv_of_nonneg _ (Int.le_of_lt (rZ s)),e6];rw [<-hn,<-mT]at fin;have l2:=ui RA d0 n r0 r1 pv pw t0;rw [<-dN]at l2;have g2:0<=qb:=by rw [dN];exact Int.ediv_nonneg (by omega) (by omega)
      have e2:c2=(h*18446744073709551616+l) / y:=by
       rw [<-fin.1,iI,kV];simp only [Ul.aD];omega
      rw [e2,fin.2]
     ·exact⟨⟨_,_,rfl,nx.1,by omega⟩,by simp only [lQ];omega⟩
    ·intro a ha b hb c hc;have pr:=Fm qa (n % 4294967296) 4294967295 4294967295 (by omega) (by omega) (by omega) (by omega);have ea:a=qa*(n % 4294967296):=by rw [ha,Ul.aD];omega
     have ec:c=4294967296*ra+d0:=by rw [hc,hb];simp only [Ul.aD];omega
     clear ha hb hc;refine aj (λc2 => ?_) (λc2 => ?_)
     ·intro qb mX rb jm;have nx:=z_ RA d0 n qa ra hd (by omega) (by omega) (by omega) (by omega) t0 t1 (.inr (by rw [<-ea,<-ec];exact c2));have e1:qb=qa-1:=by rw [mX,Ul.aD];omega
      have e2:rb=ra+n / 4294967296:=by rw [jm,Ul.aD];omega
      rw [<-e1,<-e2]at nx;clear mX jm;refine aj (λc2 => ?_) (λc2 => ?_)
      ·have fq:=z' RA d0 n qb rb nx.1 t0 (by omega) (by omega) nx.2.1 c2;have dN:=fq;have dN:=dN;intro c1 kV c2 iI c3 oP c4 qK c5 px c6 pz;refine⟨by omega, ?_⟩;intro c7 qL;have fin:=yG h l y u d1 d0 qA qb s hy hN (by rw [lP,hn]) (by rw [dN,mT,hn]);have m1:=Int.mul_ediv_add_emod (RA*4294967296+d0) n;rw [<-dN]at m1;have m2:=Int.emod_nonneg (RA*4294967296+d0) (show n≠0 by omega);have m3:=Int.emod_lt_of_pos (RA*4294967296+d0) (show 0<n by omega)
       have e6:c6=(RA*4294967296+d0) % n:=by
        rw [pz,px,qK,oP];simp only [Ul.aD];rw [Int.mul_comm n]at m1;generalize (RA*4294967296+d0) % n=R2 at *;generalize qb*n=P at *;omega
       rw [qL,Int.fdiv_eq_ediv_of_nonneg _ (Int.le_of_lt (rZ s)),e6];rw [<-hn,<-mT]at fin;have l2:=ui RA d0 n r0 r1 pv pw t0;rw [<-dN]at l2;have g2:0<=qb:=by rw [dN];exact Int.ediv_nonneg (by omega) (by omega)
       have e2:c2=(h*18446744073709551616+l) / y:=by
        rw [<-fin.1,iI,kV];simp only [Ul.aD];omega
       rw [e2,fin.2]
      ·exact⟨⟨_,_,rfl,nx.1,by omega⟩,by simp only [lQ];omega⟩
     ·have fq:=Fp RA d0 n qa ra hd t0 (by rw [<-ea,<-ec];omega);have dN:=fq;have dN:=dN;intro c1 kV c2 iI c3 oP c4 qK c5 px c6 pz;refine⟨by omega, ?_⟩;intro c7 qL;have fin:=yG h l y u d1 d0 qA qa s hy hN (by rw [lP,hn]) (by rw [dN,mT,hn]);have m1:=Int.mul_ediv_add_emod (RA*4294967296+d0) n;rw [<-dN]at m1;have m2:=Int.emod_nonneg (RA*4294967296+d0) (show n≠0 by omega);have m3:=Int.emod_lt_of_pos (RA*4294967296+d0) (show 0<n by omega)
      have e6:c6=(RA*4294967296+d0) % n:=by
       rw [pz,px,qK,oP];simp only [Ul.aD];rw [Int.mul_comm n]at m1;generalize (RA*4294967296+d0) % n=R2 at *;generalize qa*n=P at *;omega
      rw [qL,Int.fdiv_eq_ediv_of_nonneg _ (Int.le_of_lt (rZ s)),e6];rw [<-hn,<-mT]at fin;have l2:=ui RA d0 n r0 r1 pv pw t0;rw [<-dN]at l2;have g2:0<=qa:=by rw [dN];exact Int.ediv_nonneg (by omega) (by omega)
      have e2:c2=(h*18446744073709551616+l) / y:=by
       rw [<-fin.1,iI,kV];simp only [Ul.aD];omega
      rw [e2,fin.2]
   ·exact⟨⟨_,_,rfl,nx.1,by omega⟩,by simp only [lQ];omega⟩
  ·intro a ha b hb c hc;have pr:=Fm qa (n % 4294967296) 4294967295 4294967295 (by omega) (by omega) (by omega) (by omega);have ea:a=qa*(n % 4294967296):=by rw [ha,Ul.aD];omega
   have ec:c=4294967296*ra+d1:=by rw [hc,hb];simp only [Ul.aD];omega
   clear ha hb hc;refine aj (λc2 => ?_) (λc2 => ?_)
   ·intro qb mX rb jm;have nx:=z_ u d1 n qa ra hd (by omega) (by omega) (by omega) (by omega) t0 t1 (.inr (by rw [<-ea,<-ec];exact c2));have e1:qb=qa-1:=by rw [mX,Ul.aD];omega
    have e2:rb=ra+n / 4294967296:=by rw [jm,Ul.aD];omega
    rw [<-e1,<-e2]at nx;clear mX jm;refine aj (λc2 => ?_) (λc2 => ?_)
    ·have fq:=z' u d1 n qb rb nx.1 t0 (by omega) (by omega) nx.2.1 c2;intro a1 qn a2 sQ a3 Ab RA tv;have lP:=fq;have m1:=Int.mul_ediv_add_emod (u*4294967296+d1) n;rw [<-lP]at m1;have m2:=Int.emod_nonneg (u*4294967296+d1) (show n≠0 by omega);have m3:=Int.emod_lt_of_pos (u*4294967296+d1) (show 0<n by omega)
     have mT:RA=(u*4294967296+d1) % n:=by
      rw [tv,Ab,sQ,qn];simp only [Ul.aD];rw [Int.mul_comm n]at m1;generalize (u*4294967296+d1) % n=R2 at *;generalize qb*n=P at *;omega
     have l1:=ui u d1 n BO fb wV Mb t0;rw [<-lP]at l1;have g1:0<=qb:=by rw [lP];exact Int.ediv_nonneg (by omega) (by omega)
     have r0:0<=RA:=by omega
     have r1:RA<n:=by omega
     obtain⟨qA,Ac⟩:∃qA,qA=qb:=⟨_,rfl⟩;rw [<-Ac]at lP l1 g1 ⊢;clear qn sQ Ab tv m1 m2 m3 fq Ac;refine⟨by omega, ?_⟩;intro b1 fy b2 dL b3 pN;have st:=HN RA d0 n (by omega) (by omega) (by omega) (by omega) t0 t1;have f0:0<=RA / (n / 4294967296):=Int.ediv_nonneg (by omega) (by omega);have f1:RA / (n / 4294967296)<=RA:=Int.ediv_le_self _ (by omega);have f2:=Int.mul_ediv_add_emod RA (n / 4294967296);have f3:=Int.emod_nonneg RA (show n / 4294967296≠0 by omega);have f4:=Int.emod_lt_of_pos RA (show 0<n / 4294967296 by omega);rw [Int.mul_comm (n / 4294967296)]at f2;have f5:0<=RA / (n / 4294967296)*(n / 4294967296):=Int.mul_nonneg f0 (by omega);have w1:b1=RA / (n / 4294967296):=by rw [fy,Int.tdiv_eq_ediv_of_nonneg (by omega),Ul.aD];omega
     have w2:b2=RA / (n / 4294967296)*(n / 4294967296):=by rw [dL,w1,Ul.aD];omega
     have w3:b3=RA-RA / (n / 4294967296)*(n / 4294967296):=by rw [pN,w2,Ul.aD];omega
     rw [<-w3,<-w1]at st;have w4:b3<4294967296:=by omega
     clear fy dL pN f0 f1 f2 f3 f4 f5 w1 w2 w3;refine⟨yH RA d0 n,lQ,⟨_,_,rfl,st,by omega⟩, ?_⟩;rintro qa ra ⟨_,_,he,hd,hr⟩;simp only [List.cons.injEq,Vc.Vl.i.injEq,and_true]at he;obtain⟨rfl,rfl⟩:=he;have vP:=hd.pos;have xq:=hd.hi;have BQ:0<=qa:=Int.le_trans (Int.ediv_nonneg (by omega) (by omega)) hd.lo;refine aj (λc1 => ?_) (λc1 => ?_)
     ·intro qb mX rb jm;have nx:=z_ RA d0 n qa ra hd (by omega) (by omega) (by omega) (by omega) t0 t1 (.inl c1);have e1:qb=qa-1:=by rw [mX,Ul.aD];omega
      have e2:rb=ra+n / 4294967296:=by rw [jm,Ul.aD];omega
      rw [<-e1,<-e2]at nx;clear mX jm;refine aj (λc2 => ?_) (λc2 => ?_)
      ·have fq:=z' RA d0 n qb rb nx.1 t0 (by omega) (by omega) nx.2.1 c2;have dN:=fq;have dN:=dN;intro c1 kV c2 iI c3 oP c4 qK c5 px c6 pz;refine⟨by omega, ?_⟩;intro c7 qL;have fin:=yG h l y u d1 d0 qA qb s hy hN (by rw [lP,hn]) (by rw [dN,mT,hn]);have m1:=Int.mul_ediv_add_emod (RA*4294967296+d0) n;rw [<-dN]at m1;have m2:=Int.emod_nonneg (RA*4294967296+d0) (show n≠0 by omega);have m3:=Int.emod_lt_of_pos (RA*4294967296+d0) (show 0<n by omega)
       have e6:c6=(RA*4294967296+d0) % n:=by
        rw [pz,px,qK,oP];simp only [Ul.aD];rw [Int.mul_comm n]at m1;generalize (RA*4294967296+d0) % n=R2 at *;generalize qb*n=P at *;omega
       rw [qL,Int.fdiv_eq_ediv_of_nonneg _ (Int.le_of_lt (rZ s)),e6];rw [<-hn,<-mT]at fin;have l2:=ui RA d0 n r0 r1 pv pw t0;rw [<-dN]at l2;have g2:0<=qb:=by rw [dN];exact Int.ediv_nonneg (by omega) (by omega)
       have e2:c2=(h*18446744073709551616+l) / y:=by
        rw [<-fin.1,iI,kV];simp only [Ul.aD];omega
       rw [e2,fin.2]
      ·exact⟨⟨_,_,rfl,nx.1,by omega⟩,by simp only [lQ];omega⟩
     ·intro a ha b hb c hc;have pr:=Fm qa (n % 4294967296) 4294967295 4294967295 (by omega) (by omega) (by omega) (by omega);have ea:a=qa*(n % 4294967296):=by rw [ha,Ul.aD];omega
      have ec:c=4294967296*ra+d0:=by rw [hc,hb];simp only [Ul.aD];omega
      clear ha hb hc;refine aj (λc2 => ?_) (λc2 => ?_)
      ·intro qb mX rb jm;have nx:=z_ RA d0 n qa ra hd (by omega) (by omega) (by omega) (by omega) t0 t1 (.inr (by rw [<-ea,<-ec];exact c2));have e1:qb=qa-1:=by rw [mX,Ul.aD];omega
       have e2:rb=ra+n / 4294967296:=by rw [jm,Ul.aD];omega
       rw [<-e1,<-e2]at nx;clear mX jm;refine aj (λc2 => ?_) (λc2 => ?_)
       ·have fq:=z' RA d0 n qb rb nx.1 t0 (by omega) (by omega) nx.2.1 c2;have dN:=fq;have dN:=dN;intro c1 kV c2 iI c3 oP c4 qK c5 px c6 pz;refine⟨by omega, ?_⟩;intro c7 qL;have fin:=yG h l y u d1 d0 qA qb s hy hN (by rw [lP,hn]) (by rw [dN,mT,hn]);have m1:=Int.mul_ediv_add_emod (RA*4294967296+d0) n;rw [<-dN]at m1;have m2:=Int.emod_nonneg (RA*4294967296+d0) (show n≠0 by omega);have m3:=Int.emod_lt_of_pos (RA*4294967296+d0) (show 0<n by omega)
        have e6:c6=(RA*4294967296+d0) % n:=by
         rw [pz,px,qK,oP];simp only [Ul.aD];rw [Int.mul_comm n]at m1;generalize (RA*4294967296+d0) % n=R2 at *;generalize qb*n=P at *;omega
        rw [qL,Int.fdiv_eq_ediv_of_nonneg _ (Int.le_of_lt (rZ s)),e6];rw [<-hn,<-mT]at fin;have l2:=ui RA d0 n r0 r1 pv pw t0;rw [<-dN]at l2;have g2:0<=qb:=by rw [dN];exact Int.ediv_nonneg (by omega) (by omega)
        have e2:c2=(h*18446744073709551616+l) / y:=by
         rw [<-fin.1,iI,kV];simp only [Ul.aD];omega
        rw [e2,fin.2]
       ·exact⟨⟨_,_,rfl,nx.1,by omega⟩,by simp only [lQ];omega⟩
      ·have fq:=Fp RA d0 n qa ra hd t0 (by rw [<-ea,<-ec];omega);have dN:=fq;have dN:=dN;intro c1 kV c2 iI c3 oP c4 qK c5 px c6 pz;refine⟨by omega, ?_⟩;intro c7 qL;have fin:=yG h l y u d1 d0 qA qa s hy hN (by rw [lP,hn]) (by rw [dN,mT,hn]);have m1:=Int.mul_ediv_add_emod (RA*4294967296+d0) n;rw [<-dN]at m1;have m2:=Int.emod_nonneg (RA*4294967296+d0) (show n≠0 by omega);have m3:=Int.emod_lt_of_pos (RA*4294967296+d0) (show 0<n by omega)
       have e6:c6=(RA*4294967296+d0) % n:=by
        rw [pz,px,qK,oP];simp only [Ul.aD];rw [Int.mul_comm n]at m1;generalize (RA*4294967296+d0) % n=R2 at *;generalize qa*n=P at *;omega
       rw [qL,Int.fdiv_eq_ediv_of_nonneg _ (Int.le_of_lt (rZ s)),e6];rw [<-hn,<-mT]at fin;have l2:=ui RA d0 n r0 r1 pv pw t0;rw [<-dN]at l2;have g2:0<=qa:=by rw [dN];exact Int.ediv_nonneg (by omega) (by omega)
       have e2:c2=(h*18446744073709551616+l) / y:=by
        rw [<-fin.1,iI,kV];simp only [Ul.aD];omega
       rw [e2,fin.2]
    ·exact⟨⟨_,_,rfl,nx.1,by omega⟩,by simp only [lQ];omega⟩
   ·have fq:=Fp u d1 n qa ra hd t0 (by rw [<-ea,<-ec];omega);intro a1 qn a2 sQ a3 Ab RA tv;have lP:=fq;have m1:=Int.mul_ediv_add_emod (u*4294967296+d1) n;rw [<-lP]at m1;have m2:=Int.emod_nonneg (u*4294967296+d1) (show n≠0 by omega);have m3:=Int.emod_lt_of_pos (u*4294967296+d1) (show 0<n by omega)
    have mT:RA=(u*4294967296+d1) % n:=by
     rw [tv,Ab,sQ,qn];simp only [Ul.aD];rw [Int.mul_comm n]at m1;generalize (u*4294967296+d1) % n=R2 at *;generalize qa*n=P at *;omega
    have l1:=ui u d1 n BO fb wV Mb t0;rw [<-lP]at l1;have g1:0<=qa:=by rw [lP];exact Int.ediv_nonneg (by omega) (by omega)
    have r0:0<=RA:=by omega
    have r1:RA<n:=by omega
    obtain⟨qA,Ac⟩:∃qA,qA=qa:=⟨_,rfl⟩;rw [<-Ac]at lP l1 g1 ⊢;clear qn sQ Ab tv m1 m2 m3 fq Ac;refine⟨by omega, ?_⟩;intro b1 fy b2 dL b3 pN;have st:=HN RA d0 n (by omega) (by omega) (by omega) (by omega) t0 t1;have f0:0<=RA / (n / 4294967296):=Int.ediv_nonneg (by omega) (by omega);have f1:RA / (n / 4294967296)<=RA:=Int.ediv_le_self _ (by omega);have f2:=Int.mul_ediv_add_emod RA (n / 4294967296);have f3:=Int.emod_nonneg RA (show n / 4294967296≠0 by omega);have f4:=Int.emod_lt_of_pos RA (show 0<n / 4294967296 by omega);rw [Int.mul_comm (n / 4294967296)]at f2;have f5:0<=RA / (n / 4294967296)*(n / 4294967296):=Int.mul_nonneg f0 (by omega);have w1:b1=RA / (n / 4294967296):=by rw [fy,Int.tdiv_eq_ediv_of_nonneg (by omega),Ul.aD];omega
    have w2:b2=RA / (n / 4294967296)*(n / 4294967296):=by rw [dL,w1,Ul.aD];omega
    have w3:b3=RA-RA / (n / 4294967296)*(n / 4294967296):=by rw [pN,w2,Ul.aD];omega
    rw [<-w3,<-w1]at st;have w4:b3<4294967296:=by omega
    clear fy dL pN f0 f1 f2 f3 f4 f5 w1 w2 w3;refine⟨yH RA d0 n,lQ,⟨_,_,rfl,st,by omega⟩, ?_⟩;rintro qa ra ⟨_,_,he,hd,hr⟩;simp only [List.cons.injEq,Vc.Vl.i.injEq,and_true]at he;obtain⟨rfl,rfl⟩:=he;have vP:=hd.pos;have xq:=hd.hi;have BQ:0<=qa:=Int.le_trans (Int.ediv_nonneg (by omega) (by omega)) hd.lo;refine aj (λc1 => ?_) (λc1 => ?_)
    ·intro qb mX rb jm;have nx:=z_ RA d0 n qa ra hd (by omega) (by omega) (by omega) (by omega) t0 t1 (.inl c1);have e1:qb=qa-1:=by rw [mX,Ul.aD];omega
     have e2:rb=ra+n / 4294967296:=by rw [jm,Ul.aD];omega
     rw [<-e1,<-e2]at nx;clear mX jm;refine aj (λc2 => ?_) (λc2 => ?_)
     ·have fq:=z' RA d0 n qb rb nx.1 t0 (by omega) (by omega) nx.2.1 c2;have dN:=fq;have dN:=dN;intro c1 kV c2 iI c3 oP c4 qK c5 px c6 pz;refine⟨by omega, ?_⟩;intro c7 qL;have fin:=yG h l y u d1 d0 qA qb s hy hN (by rw [lP,hn]) (by rw [dN,mT,hn]);have m1:=Int.mul_ediv_add_emod (RA*4294967296+d0) n;rw [<-dN]at m1;have m2:=Int.emod_nonneg (RA*4294967296+d0) (show n≠0 by omega);have m3:=Int.emod_lt_of_pos (RA*4294967296+d0) (show 0<n by omega)
      have e6:c6=(RA*4294967296+d0) % n:=by
       rw [pz,px,qK,oP];simp only [Ul.aD];rw [Int.mul_comm n]at m1;generalize (RA*4294967296+d0) % n=R2 at *;generalize qb*n=P at *;omega
      rw [qL,Int.fdiv_eq_ediv_of_nonneg _ (Int.le_of_lt (rZ s)),e6];rw [<-hn,<-mT]at fin;have l2:=ui RA d0 n r0 r1 pv pw t0;rw [<-dN]at l2;have g2:0<=qb:=by rw [dN];exact Int.ediv_nonneg (by omega) (by omega)
      have e2:c2=(h*18446744073709551616+l) / y:=by
       rw [<-fin.1,iI,kV];simp only [Ul.aD];omega
      rw [e2,fin.2]
     ·exact⟨⟨_,_,rfl,nx.1,by omega⟩,by simp only [lQ];omega⟩
    ·intro a ha b hb c hc;have pr:=Fm qa (n % 4294967296) 4294967295 4294967295 (by omega) (by omega) (by omega) (by omega);have ea:a=qa*(n % 4294967296):=by rw [ha,Ul.aD];omega
     have ec:c=4294967296*ra+d0:=by rw [hc,hb];simp only [Ul.aD];omega
     clear ha hb hc;refine aj (λc2 => ?_) (λc2 => ?_)
     ·intro qb mX rb jm;have nx:=z_ RA d0 n qa ra hd (by omega) (by omega) (by omega) (by omega) t0 t1 (.inr (by rw [<-ea,<-ec];exact c2));have e1:qb=qa-1:=by rw [mX,Ul.aD];omega
      have e2:rb=ra+n / 4294967296:=by rw [jm,Ul.aD];omega
      rw [<-e1,<-e2]at nx;clear mX jm;refine aj (λc2 => ?_) (λc2 => ?_)
      ·have fq:=z' RA d0 n qb rb nx.1 t0 (by omega) (by omega) nx.2.1 c2;have dN:=fq;have dN:=dN;intro c1 kV c2 iI c3 oP c4 qK c5 px c6 pz;refine⟨by omega, ?_⟩;intro c7 qL;have fin:=yG h l y u d1 d0 qA qb s hy hN (by rw [lP,hn]) (by rw [dN,mT,hn]);have m1:=Int.mul_ediv_add_emod (RA*4294967296+d0) n;rw [<-dN]at m1;have m2:=Int.emod_nonneg (RA*4294967296+d0) (show n≠0 by omega);have m3:=Int.emod_lt_of_pos (RA*4294967296+d0) (show 0<n by omega)
       have e6:c6=(RA*4294967296+d0) % n:=by
        rw [pz,px,qK,oP];simp only [Ul.aD];rw [Int.mul_comm n]at m1;generalize (RA*4294967296+d0) % n=R2 at *;generalize qb*n=P at *;omega
       rw [qL,Int.fdiv_eq_ediv_of_nonneg _ (Int.le_of_lt (rZ s)),e6];rw [<-hn,<-mT]at fin;have l2:=ui RA d0 n r0 r1 pv pw t0;rw [<-dN]at l2;have g2:0<=qb:=by rw [dN];exact Int.ediv_nonneg (by omega) (by omega)
       have e2:c2=(h*18446744073709551616+l) / y:=by
        rw [<-fin.1,iI,kV];simp only [Ul.aD];omega
       rw [e2,fin.2]
      ·exact⟨⟨_,_,rfl,nx.1,by omega⟩,by simp only [lQ];omega⟩
     ·have fq:=Fp RA d0 n qa ra hd t0 (by rw [<-ea,<-ec];omega);have dN:=fq;have dN:=dN;intro c1 kV c2 iI c3 oP c4 qK c5 px c6 pz;refine⟨by omega, ?_⟩;intro c7 qL;have fin:=yG h l y u d1 d0 qA qa s hy hN (by rw [lP,hn]) (by rw [dN,mT,hn]);have m1:=Int.mul_ediv_add_emod (RA*4294967296+d0) n;rw [<-dN]at m1;have m2:=Int.emod_nonneg (RA*4294967296+d0) (show n≠0 by omega);have m3:=Int.emod_lt_of_pos (RA*4294967296+d0) (show 0<n by omega)
      have e6:c6=(RA*4294967296+d0) % n:=by
       rw [pz,px,qK,oP];simp only [Ul.aD];rw [Int.mul_comm n]at m1;generalize (RA*4294967296+d0) % n=R2 at *;generalize qa*n=P at *;omega
      rw [qL,Int.fdiv_eq_ediv_of_nonneg _ (Int.le_of_lt (rZ s)),e6];rw [<-hn,<-mT]at fin;have l2:=ui RA d0 n r0 r1 pv pw t0;rw [<-dN]at l2;have g2:0<=qa:=by rw [dN];exact Int.ediv_nonneg (by omega) (by omega)
      have e2:c2=(h*18446744073709551616+l) / y:=by
       rw [<-fin.1,iI,kV];simp only [Ul.aD];omega
      rw [e2,fin.2]
end Go.Proofs.YtocleppbcngcjaaGreatDoor
set_option linter.unusedVariables false
namespace Go.Proofs.YtocleppbcngcjaaGreatDoor
open Go Go.RowKit Ul Vc
attribute [local irreducible] Go.Calls
theorem Mc(n:Bool)(h l:Int)(w:World)(h0:0<=h)(h1:h<4294967296)(l0:0<=l)(l1:l<=18446744073709551615) :
  Calls Tryz.prog 124 #[.agg #[.bool n,.int .u64 h,.int .u64 l],.int .u64 32] w (Vc.Ret (.agg #[.bool n,.int .u64 (h*4294967296+l / 4294967296),.int .u64 (l*4294967296 % 18446744073709551616)]) w):=by
 refine W_ _ _ _ w _ ?_;rintro x2 h2 x3 h3 x4 h4 x5 h5;have e2:x2=h*2 ^ 32:=by rw [h2,Ul.aD];omega
 have e4:x4=x2+x3:=by rw [h4];exact Fv _ _ 32 (by decide) h e2 h0 (by omega) (by omega) (by omega)
 refine BN rfl ?_ ?_
 ·rw [e4,e2,h3];omega
 ·rw [h5,Ul.aD]
theorem Md(n:Bool)(m:Int)(w:World)(h0:0<=m)(h1:m<79228162514264337593543950336):Calls Tryz.prog 124 #[VB n m,.int .u64 32] w (Vc.Ret (VB n (m*4294967296)) w):=by
 refine Vc.Ret.as (Mc n _ _ w (by unfold dM;omega) (by unfold dM;omega) (Aa m).1 (Aa m).2) (BN rfl ?_ ?_)<;>(try unfold dM)<;>(try unfold fu)<;>omega
def uP(n:Bool)(m y:Int):Int:=if n then -((-m) / y)else m / y
def uQ(n:Bool)(m y:Int):Int:=if n then m / y else -((-m) / y)
theorem Fy(m y:Int)(h0:0<=m)(y0:0<y):-((-m) / y)=if m % y=0 then m / y else m / y+1:=(Xn m y h0 y0).2
theorem Fz(n:Bool)(m y:Int):sv n (uP n m y)=fl (sv n m) y/\sv n (uQ n m y)=ce (sv n m) y:=by
 unfold sv uP uQ fl ce;cases n<;>simp
theorem Me(n k:Bool)(m y:Int)(w:World)(h0:0<=m)(h1:m<340282366920938463463374607431768211456)(y0:0<y)(y1:y<=18446744073709551615) :
  Calls Tryz.prog 125 #[VB n m,.agg #[.bool k,.int .u64 0,.int .u64 y]] w (Vc.Ret (.tuple #[VB n (uP n m y),VB n (uQ n m y)]) w):=by
 have hl:=Aa m;have hh:=BM m ⟨h0,h1⟩;refine Xf _ _ _ _ _ _ w _ ?_;refine aj (λ_ => ?_) (λh=>absurd rfl h);refine⟨by omega, ?_⟩;intro a ha;refine⟨by omega, ?_⟩;intro b hb;have q0:0<=dM m / y:=Int.ediv_nonneg hh.1 (by omega);have q1:dM m / y<=dM m:=Int.ediv_le_self _ hh.1;have r0:=Int.emod_nonneg (dM m) (show y≠0 by omega);have r1:=Int.emod_lt_of_pos (dM m) y0;have ea:a=dM m / y:=by rw [ha,Int.tdiv_eq_ediv_of_nonneg hh.1,Ul.aD];omega
 have eb:b=dM m % y:=by rw [hb,Int.tmod_eq_emod_of_nonneg hh.1]
 subst ea eb;clear ha hb
 (repeat apply Exists.intro);refine And.intro (λ_ _=>Xs _ _ _ _ r0 r1 y1 hl.1 hl.2) ?_
 have em:m=dM m*18446744073709551616+fu m:=(L1 m).symm;have dm:=Int.mul_ediv_add_emod (dM m) y
 have eN:m=(dM m % y*18446744073709551616+fu m)+y*(dM m / y*18446744073709551616):=by
  rw [<-Int.mul_assoc];omega
 have e1:m / y=(dM m % y*18446744073709551616+fu m) / y+dM m / y*18446744073709551616:=by
  conv=>lhs;rw [eN]
  exact Int.add_mul_ediv_left _ _ (by omega)
 have e2:m % y=(dM m % y*18446744073709551616+fu m) % y:=by
  conv=>lhs;rw [eN]
  exact Int.add_mul_emod_self_left _ _ _
 have Zt:0<=(dM m % y*18446744073709551616+fu m) / y:=Int.ediv_nonneg (by omega) (by omega)
 have Zu:(dM m % y*18446744073709551616+fu m) / y<18446744073709551616:=by
  rw [Int.ediv_lt_iff_lt_mul y0];omega
 have Zv:=Int.emod_nonneg (dM m % y*18446744073709551616+fu m) (show y≠0 by omega);have eh:dM (m / y)=dM m / y:=by unfold dM at *;omega
 have el:fu (m / y)=(dM m % y*18446744073709551616+fu m) / y:=by rw [e1];generalize (dM m % y*18446744073709551616+fu m) / y=L at *;generalize dM m / y=H at *;unfold fu;omega
 rw [<-el,<-eh,<-e2]
 (repeat apply Exists.intro);refine And.intro (λ_ _=>SC _ _ _ _) ?_
 have q2:=Int.ediv_nonneg h0 (show 0<=y by omega);have q3:m / y<=m:=Int.ediv_le_self _ h0;have Dm:=Fy m y h0 y0;refine aj (λhz => ?_) (λhz => ?_)
 ·have hz:m % y=0:=by simpa using hz
  rw [if_pos hz]at Dm;refine aj (λhn => ?_) (λhn => ?_)
  ·rw [hn];unfold uP uQ;rw [if_pos rfl,if_pos rfl,Dm]
  ·have hn:n=false:=by simpa using hn
   rw [hn];unfold uP uQ;rw [if_neg (by decide),if_neg (by decide),Dm]
 ·have hz:¬m % y=0:=by simpa using hz
  rw [if_neg hz]at Dm
  have q4:m / y+1<340282366920938463463374607431768211456:=by
   have h5:y*(m / y)+m % y=m:=Int.mul_ediv_add_emod m y;have h6:=Int.emod_nonneg m (show y≠0 by omega);have h7:1*(m / y)<=y*(m / y):=Int.mul_le_mul_of_nonneg_right (by omega) q2;omega
  have p:=L4 false false (m / y) 1;have pn:HQ false (m / y) false 1=false:=rfl;have pm:HR false (m / y) false 1=m / y+1:=rfl;rw [pn,pm]at p
  (repeat apply Exists.intro);refine And.intro (λ_ _=>p _ ⟨q2,by omega⟩ ⟨by decide,by decide⟩ q4) ?_
  refine aj (λhn => ?_) (λhn => ?_)
  ·rw [hn];unfold uP uQ;rw [if_pos rfl,if_pos rfl,Dm]
  ·have hn:n=false:=by simpa using hn
   rw [hn];unfold uP uQ;rw [if_neg (by decide),if_neg (by decide),Dm]
theorem Xt(a b:Int)(w:World)(ha:uO a)(hb:uO b)(h0:b≠0) :
  Calls Tryz.prog 85 #[.int .i64 a,.int .i64 b] w (Vc.Ret (.tuple #[VB (decide (a<0) != decide (b<0)) (uP (decide (a<0) != decide (b<0)) (eM a*4294967296) (eM b)),VB (decide (a<0) != decide (b<0)) (uQ (decide (a<0) != decide (b<0)) (eM a*4294967296) (eM b))]) w):=by
 have xa:=HO a ha.1 ha.2;have xb:=HO b hb.1 hb.2;have Xu:0<eM b:=by unfold eM;split<;>omega
 have eb:=Sz (eM b) (by omega) (by omega);refine Xi _ _ w _ ?_
 (repeat apply Exists.intro);refine And.intro (λ_ _=>SB _ _ ha) ?_
 (repeat apply Exists.intro);refine And.intro (λ_ _=>Md _ _ _ (by omega) (by omega)) ?_
 (repeat apply Exists.intro);refine And.intro (λ_ _=>SB _ _ hb) ?_
 rw [eb.1,eb.2]
 (repeat apply Exists.intro);refine And.intro (λ_ _=>Me _ _ _ _ _ (by omega) (by omega) Xu (by omega)) ?_
 rfl
theorem Mf(a b:Int)(h0:b≠0):fl (sv (decide (a<0) != decide (b<0)) (eM a*4294967296)) (eM b)=BJ a b/\ce (sv (decide (a<0) != decide (b<0)) (eM a*4294967296)) (eM b)=BK a b:=by
 unfold BJ BK eM sv;by_cases sa:a<0<;>by_cases sb:b<0<;>simp [sa,sb,Int.neg_mul]
theorem Mg(n:Bool)(m y:Int)(h0:0<=m)(y0:0<y):0<=uP n m y/\0<=uQ n m y/\uP n m y<=m+1/\uQ n m y<=m+1:=by
 have c:=Fy m y h0 y0;have q2:=Int.ediv_nonneg h0 (show 0<=y by omega);have q3:m / y<=m:=Int.ediv_le_self _ h0;unfold uP uQ;cases n<;>simp only [Bool.false_eq_true,if_false,if_true]<;>rw [c]<;>split<;>omega
end Go.Proofs.YtocleppbcngcjaaGreatDoor
set_option linter.unusedVariables false
namespace Go.Proofs.YtocleppbcngcjaaGreatDoor
open Go Go.RowKit Ul Vc
attribute [local irreducible] Go.Calls
def FA(x:Int):Prop := -4294967296<=x/\x<=4294967296
theorem FA.i64{x:Int}(h:FA x):uO x:=by obtain⟨h1,h2⟩:=h;constructor<;>omega
end Go.Proofs.YtocleppbcngcjaaGreatDoor
set_option linter.unusedVariables false
namespace Vc
open Go Go.RowKit
theorem Mh{lo b code n base sz k:Nat}{xs:List Value}{t:TypeId}{w:World}(h:sN lo b code n base xs sz t w)(hk:xs.length=k*sz)(k0:0<k)(hz:0<sz:=by decide) :
  ∃m:Nat,cG b code n base=.slice (some ⟨b,0,none⟩) k m/\k<=m/\∀j u,xs[j]? = some u->w.cell? ⟨b,j,none⟩=some u:=by
 obtain⟨h1,h2,h3⟩:=bH.eI h hz;have hn:n=k:=Nat.eq_of_mul_eq_mul_right h2 (by rw [<-h1,hk]);subst hn;rcases h3 with ⟨_,h0⟩|⟨c1,c2,c3,c4,c5,cur,c6,c7,c8⟩
 ·omega
 ·subst c2;refine⟨code-1, ?_,c4,λj u hj => ?_⟩
  ·unfold cG;rw [if_neg (by omega)]
  ·have cn:j<n*sz:=by
    have:=(List.getElem?_eq_some_iff.1 hj).1
    omega
   rw [<-c8,List.getElem?_take,if_pos cn]at hj;simp only [World.cell?,c6];simpa using hj
end Vc
namespace Go.Proofs.YtocleppbcngcjaaGreatDoor
open Go Go.RowKit Ul Vc
attribute [local irreducible] Go.Calls
def c3(p:Bool × Int):List Value := [.bool p.1,.int .u64 (dM p.2),.int .u64 (fu p.2)]
theorem BR{ps:List (Bool × Int)}:∀{i:Nat} {q:Bool × Int} {o:Nat},ps[i]? = some q->o<3->(ps.flatMap c3)[i*3+o]? = (c3 q)[o]? := by
  induction ps with
  |nil=>intro i q o h;simp at h
  |cons p ps ih =>
    intro i q o h ho;rw [List.flatMap_cons];have hl:(c3 p).length=3:=rfl;cases i with
    |zero =>
      simp only [List.getElem?_cons_zero,Option.some.injEq]at h;subst h;rw [List.getElem?_append_left (by omega)];simp
    |succ i =>
      rw [List.getElem?_append_right (by omega),<-ih (by simpa using h) ho];congr 1;omega
def FB(n:Int):List Vc.Vl->Nat
 | .i x::_=>(n-x).toNat
 |_=>0
theorem SJ{α β:Type}(f:β->α->β)(b:β){l:List α}{i:Nat}{x:α}(h:l[i]? = some x):(l.take (i+1)).foldl f b=f ((l.take i).foldl f b) x:=by
 rw [List.take_add_one,h,List.foldl_append];rfl
theorem Mi{f:Bool × Int->Bool × Int->Bool × Int}(hf:∀p q,f p q=p∨f p q=q):∀(l:List (Bool × Int)) (p:Bool × Int),(∀q∈p::l,0<=q.2)->0<=(l.foldl f p).2
  | [],p,h=>h p (by simp)
  |q::l,p,h=>by
    rw [List.foldl_cons];refine Mi hf l (f p q) λr hr => ?_;rcases List.mem_cons.1 hr with rfl|hr
    · rcases hf p q with e|e<;>rw [e]<;>exact h _ (by simp)
    · exact h r (by simp [hr])
theorem Mj(p q:Bool × Int):ir p q=p∨ir p q=q:=by unfold ir;split<;>simp
theorem Mk(p q:Bool × Int):iu p q=p∨iu p q=q:=by unfold iu;split<;>simp
theorem Xv{b m:Nat}(p:Bool × Int)(ps:List (Bool × Int)){w:World}(FC:∀q∈p::ps,0<=q.2)(hm:ps.length+1<=m)(qW:ps.length<1000000)(h:∀j u,((p::ps).flatMap c3)[j]? = some u->w.cell? ⟨b,j,none⟩=some u) :
  Calls Tryz.prog 86 #[.slice (some ⟨b,0,none⟩) (ps.length+1) m] w (Vc.Ret (.tuple #[VP (ps.foldl ir p),VP (ps.foldl iu p)]) w):=by
 have g:∀(i:Nat) (q:Bool × Int),(p::ps)[i]? = some q->w.cell? ⟨b,0+i*3+0,none⟩=some (.bool q.1)/\w.cell? ⟨b,0+i*3+1,none⟩=some (.int .u64 (dM q.2))/\w.cell? ⟨b,0+i*3+2,none⟩=some (.int .u64 (fu q.2)):=λi q hq=>by
  simp only [Nat.zero_add];exact⟨h _ _ (BR hq (by decide)),h _ _ (BR hq (by decide)),h _ _ (BR hq (by decide))⟩
 have g0:=g 0 p rfl;refine Xj (b,0) (((ps.length+1:Nat):Nat):Int) (m:Int) w _ ?_;refine⟨by omega,p.1,g0.1,dM p.2,g0.2.1,fu p.2,g0.2.2,by omega,p.1,g0.1,dM p.2,g0.2.1,fu p.2,g0.2.2,by omega,by omega,by omega,by omega, ?_⟩;rintro x6 Dn x7 Dp;have ex:x6=(ps.length:Int):=by omega
 refine aj (λhc => ?_) (λhc => ?_)
 ·refine⟨by omega, ?_⟩
  refine⟨λl=>∃i:Nat,i<=ps.length/\l=[.i (i:Int),.b ((ps.take i).foldl ir p).1,.i (dM ((ps.take i).foldl ir p).2),.i (fu ((ps.take i).foldl ir p).2),.b ((ps.take i).foldl iu p).1,.i (dM ((ps.take i).foldl iu p).2),.i (fu ((ps.take i).foldl iu p).2)],
   FB (ps.length:Int),⟨0,by omega,rfl⟩, ?_⟩
  rintro x8 b2 x9 bd b3 aS aW ⟨i,Zw,hl⟩;simp only [List.cons.injEq,Vc.Vl.i.injEq,Vc.Vl.b.injEq,and_true]at hl;obtain⟨rfl,rfl,rfl,rfl,rfl,rfl,rfl⟩:=hl;refine aj (λEr => ?_) (λEr => ?_)
  ·have hq:=List.getElem?_eq_getElem (l:=ps) (i:=i) (by omega);generalize Zx:ps[i]=q at hq
   have n1:=Mi Mj (ps.take i) p λr hr=>FC r (by
    rcases List.mem_cons.1 hr with rfl|hr
    ·simp
    ·exact List.mem_cons_of_mem _ (List.mem_of_mem_take hr))
   have n2:=Mi Mk (ps.take i) p λr hr=>FC r (by
    rcases List.mem_cons.1 hr with rfl|hr
    ·simp
    ·exact List.mem_cons_of_mem _ (List.mem_of_mem_take hr))
   have nq:0<=q.2:=FC q (List.mem_cons_of_mem _ (List.mem_of_getElem? hq));have g0:=g (i+1) q (by simpa using hq);have t1:=SJ ir p hq;have t2:=SJ iu p hq;generalize (ps.take i).foldl ir p=lo at *;generalize (ps.take i).foldl iu p=hi at *;have e0:Int.toNat (1+(i:Int))=i+1:=by omega
   refine⟨by omega,by omega, ?_⟩;rintro _ rfl;rw [e0];refine⟨_,g0.1,_,g0.2.1,_,g0.2.2, ?_⟩
   (repeat apply Exists.intro);refine And.intro (λ_ _=>SI q lo _ nq n1) ?_
   refine aj (λc1 => ?_) (λc1 => ?_)
   all_goals
    (repeat apply Exists.intro);refine And.intro (λ_ _=>SI hi q _ n2 nq) ?_
    refine aj (λc2 => ?_) (λc2 => ?_)
    all_goals
     simp only [decide_eq_true_eq]at c1 c2;rintro _ rfl;have ew:IntKind.i64.wrap ((i:Int)+1)=((i+1:Nat):Int):=by rw [Vc.zj (by omega)];omega
     rw [ew];refine⟨⟨i+1,by omega, ?_⟩, ?_⟩
     ·rw [t1,t2];simp only [ir,iu,c1,c2,if_true,if_false]
     ·simp only [FB];omega
  ·have:ps.take i=ps:=List.take_of_length_le (by omega)
   rw [this]
 ·refine⟨by omega, ?_⟩;have h0:ps=[]:=List.eq_nil_of_length_eq_zero (by omega);refine⟨λl=>l=[.i 0,.b p.1,.i (dM p.2),.i (fu p.2),.b p.1,.i (dM p.2),.i (fu p.2)],λ_=>0,rfl, ?_⟩;rintro x8 b2 x9 bd b3 aS aW hl;simp only [List.cons.injEq,Vc.Vl.i.injEq,Vc.Vl.b.injEq,and_true]at hl;obtain⟨rfl,rfl,rfl,rfl,rfl,rfl,rfl⟩:=hl;refine aj (λEr => ?_) (λEr => ?_)
  ·subst h0;simp at ex;omega
  ·subst h0;rfl
theorem HS{lo b code n base:Nat}(p:Bool × Int)(ps:List (Bool × Int)){t:TypeId}{w:World}(FC:∀q∈p::ps,0<=q.2)(qW:ps.length<1000000)(h:sN lo b code n base ((p::ps).flatMap c3) 3 t w) :
  Calls Tryz.prog 86 #[cG b code n base] w (Vc.Ret (.tuple #[VP (ps.foldl ir p),VP (ps.foldl iu p)]) w):=by
 have hlen:∀l:List (Bool × Int),(l.flatMap c3).length=l.length*3:=by
  intro l
  induction l with
  |nil=>rfl
  |cons a l ih=>rw [List.flatMap_cons,List.length_append,ih];simp [c3];omega
 obtain⟨m,h1,h2,h3⟩:=Mh (k:=ps.length+1) h (by rw [hlen];rfl) (by omega);rw [h1];exact Xv p ps FC h2 qW h3
def qd(a c:Int):Bool × Int:=(decide (a<0) != decide (c<0),uP (decide (a<0) != decide (c<0)) (eM a*4294967296) (eM c))
def qu(a c:Int):Bool × Int:=(decide (a<0) != decide (c<0),uQ (decide (a<0) != decide (c<0)) (eM a*4294967296) (eM c))
theorem Ad(a c:Int)(h0:c≠0):qJ (qd a c)=BJ a c/\qJ (qu a c)=BK a c:=by
 unfold qJ qd qu;rw [(Fz _ _ _).1,(Fz _ _ _).2];exact Mf a c h0
theorem Ae(a c:Int)(ha:uO a)(h0:c≠0):(0<=(qd a c).2/\(qd a c).2<=39614081257132168796771975169)/\(0<=(qu a c).2/\(qu a c).2<=39614081257132168796771975169):=by
 have xa:=HO a ha.1 ha.2;have xc:0<eM c:=by unfold eM;split<;>omega
 have q:=Mg (decide (a<0) != decide (c<0)) (eM a*4294967296) (eM c) (by omega) xc;unfold qd qu;constructor<;>constructor<;>simp only<;>omega
theorem Af(a c:Int)(w:World)(ha:uO a)(hc:uO c)(h0:c≠0):Calls Tryz.prog 85 #[.int .i64 a,.int .i64 c] w (Vc.Ret (.tuple #[VP (qd a c),VP (qu a c)]) w):=Xt a c w ha hc h0
theorem Ml(a b c d:Int)(w:World)(ha:uO a)(hb:uO b)(hc:uO c)(hd:uO d):Calls Tryz.prog 39 #[Vc.S a b,Vc.S c d] w (Vc.Ret (Vc.RV (div a b c d)) w):=by
 have body:(ok a b && ok c d)=true->¬(c<=0/\0<=d)->c≠0/\d≠0:=by
  intro h1 h2;simp only [ok,Bool.and_eq_true,decide_eq_true_eq]at h1;omega
 refine Xk _ _ _ _ w _ ?_;refine⟨_,λ_ _ _ hm=>LY hm.1.2, ?_⟩;refine aj (λh => ?_) (λh => ?_)
 ·have jR:=L5 h
  have go:¬(c<=0/\0<=d)->div a b c d=fit (qJ (ir (ir (ir (qd a c) (qd a d)) (qd b c)) (qd b d))) (qJ (iu (iu (iu (qu a c) (qu a d)) (qu b c)) (qu b d))):=by
   intro h2;obtain⟨c0,d0⟩:=body jR h2;rw [L8,L8,L8,L9,L9,L9,(Ad a c c0).1,(Ad a d d0).1,(Ad b c c0).1,(Ad b d d0).1,(Ad a c c0).2,(Ad a d d0).2,(Ad b c c0).2,(Ad b d d0).2];unfold div;rw [if_pos jR,if_neg h2];rfl
  refine aj (λh1 => ?_) (λh1 => ?_)
  ·refine aj (λh2 => ?_) (λh2 => ?_)
   ·unfold div;rw [if_pos jR,if_pos ⟨h1,h2⟩]
   ·have FD:¬(c<=0/\0<=d):=λhx=>h2 hx.2;obtain⟨c0,d0⟩:=body jR FD;rw [go FD];have b1:=Ae a c ha c0;have b2:=Ae a d ha d0;have b3:=Ae b c hb c0;have b4:=Ae b d hb d0
    (repeat apply Exists.intro);refine And.intro (λ_ _=>Af _ _ _ ha hc c0) ?_
    (repeat apply Exists.intro);refine And.intro (λ_ _=>Af _ _ _ ha hd d0) ?_
    (repeat apply Exists.intro);refine And.intro (λ_ _=>Af _ _ _ hb hc c0) ?_
    (repeat apply Exists.intro);refine And.intro (λ_ _=>Af _ _ _ hb hd d0) ?_
    refine⟨_,_,_,_,_,_,λ_ _ _ hm=>HS (qd a c) [qd a d,qd b c,qd b d] (by simpa using ⟨b1.1.1,b2.1.1,b3.1.1,b4.1.1⟩) (by simp) hm.1, ?_⟩;refine⟨_,_,_,_,_,_,λ_ _ _ hm=>HS (qu a c) [qu a d,qu b c,qu b d] (by simpa using ⟨b1.2.1,b2.2.1,b3.2.1,b4.2.1⟩) (by simp) hm.1, ?_⟩;have m1:=Dk (Dk (Dk b1.1 b2.1) b3.1) b4.1;have m2:=Dl (Dl (Dl b1.2 b2.2) b3.2) b4.2
    (repeat apply Exists.intro);refine And.intro (λ_ _=>SG _ _ _ _ _ m1.1 m2.1) ?_
    rfl
  ·have FD:¬(c<=0/\0<=d):=λhx=>h1 hx.1;obtain⟨c0,d0⟩:=body jR FD;rw [go FD];have b1:=Ae a c ha c0;have b2:=Ae a d ha d0;have b3:=Ae b c hb c0;have b4:=Ae b d hb d0
   (repeat apply Exists.intro);refine And.intro (λ_ _=>Af _ _ _ ha hc c0) ?_
   (repeat apply Exists.intro);refine And.intro (λ_ _=>Af _ _ _ ha hd d0) ?_
   (repeat apply Exists.intro);refine And.intro (λ_ _=>Af _ _ _ hb hc c0) ?_
   (repeat apply Exists.intro);refine And.intro (λ_ _=>Af _ _ _ hb hd d0) ?_
   refine⟨_,_,_,_,_,_,λ_ _ _ hm=>HS (qd a c) [qd a d,qd b c,qd b d] (by simpa using ⟨b1.1.1,b2.1.1,b3.1.1,b4.1.1⟩) (by simp) hm.1, ?_⟩;refine⟨_,_,_,_,_,_,λ_ _ _ hm=>HS (qu a c) [qu a d,qu b c,qu b d] (by simpa using ⟨b1.2.1,b2.2.1,b3.2.1,b4.2.1⟩) (by simp) hm.1, ?_⟩;have m1:=Dk (Dk (Dk b1.1 b2.1) b3.1) b4.1;have m2:=Dl (Dl (Dl b1.2 b2.2) b3.2) b4.2
   (repeat apply Exists.intro);refine And.intro (λ_ _=>SG _ _ _ _ _ m1.1 m2.1) ?_
   rfl
 ·unfold div;rw [if_neg (SH h).1,(SH h).2]
end Go.Proofs.YtocleppbcngcjaaGreatDoor
