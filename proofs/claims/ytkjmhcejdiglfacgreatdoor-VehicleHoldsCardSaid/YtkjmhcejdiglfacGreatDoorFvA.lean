import Derived.Test.YtkjmhcejdiglfacGreatDoorLz
import Derived.Test.YtkjmhcejdiglfacGreatDoorFvG1
import Derived.WalkKit
import Derived.Lib.Mul64
import Derived.Lib.BitFns
import Derived.Lib.ItoaNum
namespace Ul
def One:Int:=4294967296
def ok(lo hi:Int):Bool:=decide (-9223372036854775807≤lo) && decide (-9223372036854775807≤hi) && decide (lo≤hi)
def chk(lo hi:Int):Int:=if ok lo hi then 0 else 2
abbrev R:=Int × Int × Int
def fit(lo hi:Int):R:=if -9223372036854775807≤lo∧lo≤9223372036854775807 ∧ -9223372036854775807≤hi∧hi≤9223372036854775807 then (lo,hi,0)else (0,0,4)
def scale(a b n:Int):R:=if ok a b then fit (min (a * n) (b * n)) (max (a * n) (b * n))else (0,0,2)
def fl(x y:Int):Int:=x / y
def ce(x y:Int):Int := -((-x) / y)
def min4(a b c d:Int):Int:=min (min (min a b) c) d
def max4(a b c d:Int):Int:=max (max (max a b) c) d
def mul(a b c d:Int):R :=
 if ok a b && ok c d then fit (fl (min4 (a * c) (a * d) (b * c) (b * d)) 4294967296) (ce (max4 (a * c) (a * d) (b * c) (b * d)) 4294967296)else (0,0,2)
def rdn(x y:Int):Int:=if y < 0 then fl (-(x * 4294967296)) (-y)else fl (x * 4294967296) y
def rup(x y:Int):Int:=if y < 0 then ce (-(x * 4294967296)) (-y)else ce (x * 4294967296) y
def div(a b c d:Int):R :=
 if ok a b && ok c d then
  if c≤0∧0≤d then (0,0,10)
  else fit (min4 (rdn a c) (rdn a d) (rdn b c) (rdn b d)) (max4 (rup a c) (rup a d) (rup b c) (rup b d))
 else (0,0,2)
def least(a b c d:Int):R:=if ok a b && ok c d then (min a c,min b d,0)else (0,0,2)
def meet(a b c d:Int):R :=
 if ok a b && ok c d then (if min b d < max a c then (0,0,7)else (max a c,min b d,0))else (0,0,2)
def wide(a b:Int):Int × Int:=if ok a b then (if 9223372036854775807 < b - a then (0,4)else (b - a,0))else (0,2)
def within(a b c d:Int):Bool:=ok a b && ok c d && decide (c≤a) && decide (b≤d)
def order(a b c d:Int):Int:=if ok a b && ok c d then (if b < c then -1 else if d < a then 1 else 0)else 0
def sign(a b:Int):Int:=order a b 0 0
def ofInt(n:Int):R:=fit (n * 4294967296) (n * 4294967296)
def I64(n:Int):Prop := -9223372036854775808≤n∧n≤9223372036854775807
end Ul
set_option linter.unusedVariables false
set_option linter.unusedSimpArgs false
namespace Vc
open Go Go.RowKit
theorem iteI{p A B:Prop}(a:p→A)(b:¬ p→B):(p→A)∧(¬ p→B):=⟨a,b⟩
theorem Ret.as{P:Program}{f:FuncId}{args:Array Value}{W:World}{u v:Value}(h:Calls P f args W (Ret u W))(e:u=v):Calls P f args W (Ret v W):=e▸h
theorem int1{k:IntKind}{a a':Int}(h:a=a'):Value.int k a=.int k a':=by rw [h]
theorem zcj{a a':Bool}(h:a=a'):Value.bool a=.bool a':=by rw [h]
abbrev S(lo hi:Int):Value := .agg #[.int .i64 lo,.int .i64 hi]
abbrev RV(r:Ul.R):Value := .tuple #[S r.1 r.2.1,.int .i64 r.2.2]
end Vc
set_option linter.unusedVariables false
namespace Go.Proofs.YtkjmhcejdiglfacGreatDoor
open Go Go.RowKit Ul Vc
attribute [local irreducible] Go.Calls
theorem zpx(x:Int)(w:World):Calls Tryz.prog 49 #[.int .i64 x] w (Vc.Ret (.bool (decide (-9223372036854775807≤x))) w):=by
 refine zbp x w _ ?_;simp
theorem zkm(a b:Int)(w:World):Calls Tryz.prog 25 #[Vc.S a b] w (Vc.Ret (.int .i64 (chk a b)) w):=by
 refine zcp a b w _ ?_
 (repeat' (first | (intro _ hx) | ((repeat apply Exists.intro);first | refine And.intro (fun _ _=>zpx _ _) ?_) | (refine Vc.iteI (fun h => ?_) (fun h => ?_)) | (refine And.intro (by omega) ?_)))
 all_goals (simp_all [chk,ok] <;> omega)
def chk2(a b c d:Int):Int:=if ok a b && ok c d then 0 else 2
theorem zhp{b:Nat}{x y z u:Int}{t:TypeId}{w:World}(h:w.heap[b]? = some (.cells #[.int .i64 x,.int .i64 y,.int .i64 z,.int .i64 u] t)) :
  Calls Tryz.prog 29 #[.slice (some ⟨b,0,none⟩) 2 2] w (Vc.Ret (.int .i64 (chk2 x y z u)) w):=by
 refine zaj (b,0) w _ ?_;refine⟨x,by simp [World.cell?,h],y,by simp [World.cell?,h], ?_⟩
 (repeat apply Exists.intro);refine And.intro (fun _ _=>zkm _ _ _) ?_
 refine iteI (fun h1=>⟨z,by simp [World.cell?,h],u,by simp [World.cell?,h], ?_⟩) (fun h1 => ?_)
 ·(repeat' (first | (intro _ hx) | ((repeat apply Exists.intro);first | refine And.intro (fun _ _=>zkm _ _ _) ?_) | (refine Vc.iteI (fun h => ?_) (fun h => ?_)) | (refine And.intro (by omega) ?_)))
  all_goals (simp_all [chk2,chk])
 ·simp_all [chk2,chk]
theorem zdj(a b c d:Int)(w:World):Calls Tryz.prog 13 #[Vc.S a b,Vc.S c d] w (Vc.Ret (.bool (within a b c d)) w):=by
 refine zan a b c d w _ ?_;refine⟨_,fun _ _ _ hm=>zhp hm.1.2, ?_⟩
 (repeat' (first | (intro _ hx) | (refine Vc.iteI (fun h => ?_) (fun h => ?_)) | (refine And.intro (by omega) ?_)))
 all_goals (simp_all [chk2,within] <;> (intros;(try (repeat' split)) <;> omega))
end Go.Proofs.YtkjmhcejdiglfacGreatDoor
set_option linter.unusedVariables false
namespace Ul
theorem zdea(x y:Int):x * y=(x / 4294967296) * (y / 4294967296) * 18446744073709551616 + ((x / 4294967296) * (y % 4294967296) + (x % 4294967296) * (y / 4294967296)) * 4294967296 + (x % 4294967296) * (y % 4294967296):=by
 have hx:x=4294967296 * (x / 4294967296) + x % 4294967296:=by omega
 have hy:y=4294967296 * (y / 4294967296) + y % 4294967296:=by omega
 generalize x / 4294967296=x1 at *;generalize y / 4294967296=y1 at *;generalize x % 4294967296=x0 at *;generalize y % 4294967296=y0 at *;subst hx hy
 grind
theorem zeb(a b A B:Int)(ha:0≤a)(hb:0≤b)(hA:a≤A)(hB:b≤B):0≤a * b∧a * b≤A * B :=
 ⟨Int.mul_nonneg ha hb,Int.mul_le_mul hA hB hb (by omega)⟩
structure Dig(u v y q r:Int):Prop where
 eq:u=q * (y / 4294967296) + r
 lo:(u * 4294967296 + v) / y≤q
 hi:q≤4294967297
 pos:0≤r
theorem zuh(u v y:Int)(hu:0≤u)(huy:u < y)(hv:0≤v)(hv':v < 4294967296)(hy:9223372036854775808≤y)(hy':y < 18446744073709551616) :
  Dig u v y (u / (y / 4294967296)) (u - u / (y / 4294967296) * (y / 4294967296)):=by
 have hy1:2147483648≤y / 4294967296:=by omega
 have hy2:y / 4294967296 < 4294967296:=by omega
 have ey:y=(y / 4294967296) * 4294967296 + y % 4294967296:=by omega
 generalize hd:y / 4294967296=d at *;generalize he:y % 4294967296=e at *;have he0:0≤e:=by omega
 have he1:e < 4294967296:=by omega
 have hq:u=u / d * d + u % d:=by have:=Int.mul_ediv_add_emod u d;rw [Int.mul_comm]at this;omega
 have hm0:0≤u % d:=Int.emod_nonneg _ (by omega);refine⟨by rw [hd];omega, ?_, ?_,by omega⟩
 ·rw [Int.le_ediv_iff_mul_le (by omega)];have h1:(u * 4294967296 + v) / y * y≤u * 4294967296 + v:=Int.ediv_mul_le _ (by omega);have h0:0≤(u * 4294967296 + v) / y:=Int.ediv_nonneg (by omega) (by omega);generalize (u * 4294967296 + v) / y=q1 at *;rw [ey]at h1;have h2:0≤q1 * e:=Int.mul_nonneg h0 he0;have h3:q1 * (d * 4294967296 + e)=(q1 * d) * 4294967296 + q1 * e:=by grind
  omega
 ·have:u / d < 4294967298:=by
   rw [Int.ediv_lt_iff_lt_mul (by omega)];omega
  omega
theorem zxd(u v y:Int)(hu:0≤u)(huy:u < y)(hv:0≤v)(hv':v < 4294967296)(hy:9223372036854775808≤y):(u * 4294967296 + v) / y < 4294967296:=by
 rw [Int.ediv_lt_iff_lt_mul (by omega)];omega
theorem zcd(u v y q r:Int)(h:Dig u v y q r)(hu:0≤u)(huy:u < y)(hv:0≤v)(hv':v < 4294967296)(hy:9223372036854775808≤y)(hy':y < 18446744073709551616)
  (hc:4294967296≤q∨4294967296 * r + v < q * (y % 4294967296)):Dig u v y (q - 1) (r + y / 4294967296)∧q - 1≤4294967296∧1≤q:=by
 obtain⟨h1,h2,h3,h4⟩:=h;have hl:=zxd u v y hu huy hv hv' hy;have h0:0≤(u * 4294967296 + v) / y:=Int.ediv_nonneg (by omega) (by omega)
 have hlt:(u * 4294967296 + v) / y < q:=by
  rcases hc with hc | hc
  ·omega
  ·rw [Int.ediv_lt_iff_lt_mul (by omega)];have ey:y=(y / 4294967296) * 4294967296 + y % 4294967296:=by omega
   generalize y / 4294967296=d at *;generalize y % 4294967296=e at *;rw [ey,h1]
   have:q * (d * 4294967296 + e)=(q * d) * 4294967296 + q * e:=by grind
   omega
 refine⟨⟨?_,by omega,by omega,by omega⟩,by omega,by omega⟩;rw [h1];grind
theorem zlm(u v y q r:Int)(h:Dig u v y q r)(hy:9223372036854775808≤y)(hc:q * (y % 4294967296)≤4294967296 * r + v):q=(u * 4294967296 + v) / y:=by
 obtain⟨h1,h2,h3,h4⟩:=h
 have:q≤(u * 4294967296 + v) / y:=by
  rw [Int.le_ediv_iff_mul_le (by omega)];have ey:y=(y / 4294967296) * 4294967296 + y % 4294967296:=by omega
  generalize y / 4294967296=d at *;generalize y % 4294967296=e at *;rw [ey,h1]
  have:q * (d * 4294967296 + e)=(q * d) * 4294967296 + q * e:=by grind
  omega
 omega
theorem zgc(u v y q r:Int)(h:Dig u v y q r)(hy:9223372036854775808≤y)(hv:0≤v)(hu:0≤u)(hq:q≤4294967296)(hr:4294967296≤r):q=(u * 4294967296 + v) / y:=by
 refine zlm u v y q r h hy ?_;obtain⟨h1,h2,h3,h4⟩:=h;have h0:0≤(u * 4294967296 + v) / y:=Int.ediv_nonneg (by omega) (by omega)
 have:=zeb q (y % 4294967296) 4294967296 4294967296 (by omega) (by omega) hq (by omega)
 omega
theorem zyv(u a b y:Int)(hy:0 < y):((u * 4294967296 + a) * 4294967296 + b) / y=((u * 4294967296 + a) / y) * 4294967296 + (((u * 4294967296 + a) % y) * 4294967296 + b) / y
  ∧ ((u * 4294967296 + a) * 4294967296 + b) % y=(((u * 4294967296 + a) % y) * 4294967296 + b) % y:=by
 have h:=Int.mul_ediv_add_emod (u * 4294967296 + a) y;generalize (u * 4294967296 + a) / y=q at *;generalize (u * 4294967296 + a) % y=r at *;have e:(u * 4294967296 + a) * 4294967296 + b=(r * 4294967296 + b) + y * (q * 4294967296):=by rw [← h];grind
 rw [e,Int.add_mul_ediv_left _ _ (by omega),Int.add_mul_emod_self_left];exact⟨by omega,rfl⟩
theorem zeea(n y k:Int)(hk:0 < k)(hy:0 < y):(n * k) / (y * k)=n / y∧(n * k) % (y * k) / k=n % y:=by
 constructor
 ·exact Int.mul_ediv_mul_of_pos_left _ _ hk
 ·rw [Int.mul_comm n k,Int.mul_comm y k,Int.mul_emod_mul_of_pos _ _ hk,Int.mul_ediv_cancel_left _ (by omega)]
end Ul
set_option linter.unusedVariables false
namespace Ul
theorem zoa(k:Nat):(0:Int) < 2 ^ k:=Int.pow_pos (by decide)
end Ul
set_option linter.unusedVariables false
namespace Ul
open Go Go.RowKit
def val(h l:Int):Int:=h * 18446744073709551616 + l
def hiW(v:Int):Int:=v / 18446744073709551616
def loW(v:Int):Int:=v % 18446744073709551616
theorem zpfa(v:Int):val (hiW v) (loW v)=v:=by unfold val hiW loW;omega
theorem zrr(v:Int):0≤loW v∧loW v≤18446744073709551615:=by unfold loW;omega
theorem zsr(v:Int)(h0:0≤v)(h1:v≤18446744073709551615):hiW v=0∧loW v=v:=by unfold hiW loW;omega
theorem i64_eq(x:Int):IntKind.i64.wrap x=(x + 9223372036854775808) % 18446744073709551616 - 9223372036854775808:=IntKind.wrap_i64 x
theorem u64_eq(x:Int):IntKind.u64.wrap x=x % 18446744073709551616:=by
 simp [IntKind.wrap,IntKind.bits,IntKind.signed]
theorem zmm(x:Int):((BitVec.ofInt 64 x).toNat:Int)=x % 18446744073709551616:=by
 rw [BitVec.toNat_ofInt];simp;omega
def absI(n:Int):Int:=if n < 0 then -n else n
theorem zhf(n:Int)(h:-9223372036854775808≤n)(h':n≤9223372036854775807):0≤absI n∧absI n≤9223372036854775808:=by unfold absI;split <;> omega
theorem zdaa(a b:Int):absI a * absI b=if (decide (a < 0)) == (decide (b < 0))then a * b else -(a * b):=by
 unfold absI;by_cases ha:a < 0 <;> by_cases hb:b < 0 <;> simp [ha,hb,Int.neg_mul,Int.mul_neg]
end Ul
set_option linter.unusedVariables false
namespace Ul
open Go Go.RowKit
theorem zgt(a y:Int)(h0:0≤a)(y0:0 < y):fl a y=a / y∧ce a y=if a % y=0 then a / y else a / y + 1:=by
 refine⟨rfl, ?_⟩;unfold ce;have h3:=Int.mul_ediv_add_emod a y;have h4:=Int.emod_nonneg a (show y≠0 by omega);have h5:=Int.emod_lt_of_pos a y0;split
 ·rename_i h;have e:-a=y * (-(a / y)):=by rw [Int.mul_neg];omega
  rw [e,Int.mul_ediv_cancel_left _ (by omega)];omega
 ·rename_i h;have e:-a=(y - a % y) + y * (-(a / y + 1)):=by rw [Int.mul_neg,Int.mul_add];omega
  rw [e,Int.add_mul_ediv_left _ _ (by omega),Int.ediv_eq_zero_of_lt (by omega) (by omega)];omega
def sv(n:Bool)(m:Int):Int:=if n then -m else m
abbrev VB(n:Bool)(m:Int):Value := .agg #[.bool n,.int .u64 (hiW m),.int .u64 (loW m)]
def P128(m:Int):Prop:=0≤m∧m < 340282366920938463463374607431768211456
theorem hi_u(m:Int)(h:P128 m):0≤hiW m∧hiW m≤18446744073709551615:=by obtain⟨h1,h2⟩:=h;unfold hiW;omega
theorem zzn(a b:Int):sv (decide (a < 0) != decide (b < 0)) (absI a * absI b)=a * b:=by
 rw [zdaa];unfold sv;by_cases ha:a < 0 <;> by_cases hb:b < 0 <;> simp [ha,hb]
end Ul
set_option linter.unusedVariables false
namespace Go.Proofs.YtkjmhcejdiglfacGreatDoor
open Go Go.RowKit Ul Vc
attribute [local irreducible] Go.Calls
theorem zqx(x:Int)(h0:0≤x)(h1:x≤18446744073709551615):bits .and .u64 x 4294967295=x % 4294967296:=by
 obtain⟨a,rfl⟩:=Int.eq_ofNat_of_zero_le h0;have h:=bits_and_u64_nat a 4294967295 (by omega) (by omega);have e:a &&& 4294967295=a % 4294967296:=Nat.and_two_pow_sub_one_eq_mod a 32;rw [e]at h;exact h
theorem zfea(x y c:Int)(hx:0≤x)(hy:0≤y)(hc0:0≤c)(hc:c≤1)(w:World):(callFunc 101 #[.int .u64 x,.int .u64 y,.int .u64 c]).run Tryz.prog w =
  .ok (.value (.tuple #[.int .u64 ((x + y + c) % 18446744073709551616),.int .u64 ((x + y + c) / 18446744073709551616)])) w:=by
 rw [run_callFunc_extern Tryz.func101 (by kernel_rfl) (by kernel_rfl) (by kernel_rfl) (e:=add64Entry) (by kernel_rfl),run_add64 x y c hx hy hc0 hc];rfl
theorem ztca(x y:Int)(hx:0≤x)(hy:0≤y)(w:World):(callFunc 101 #[.int .u64 x,.int .u64 y,.int .u64 0]).run Tryz.prog w =
  .ok (.value (.tuple #[.int .u64 ((x + y) % 18446744073709551616),.int .u64 ((x + y) / 18446744073709551616)])) w:=by
 simpa using zfea x y 0 hx hy (Int.le_refl 0) (by decide) w
def sub64Entry:Array Value→Sem Value:=fun args=>do
  let (x, y, b) ← Extern.MathBitsCarry.three "Sub64" args
  pure (Extern.MathBitsCarry.pair ((x + Extern.MathBitsCarry.m64 - y - b) % Extern.MathBitsCarry.m64) (if x < y + b then 1 else 0))
def bor(x y:Int):Int:=if x < y then 1 else 0
theorem zsba(x y:Int):0≤bor x y∧bor x y≤1:=by unfold bor;split <;> omega
theorem zrx(x y b:Nat)(hb:b≤1)(w:World) :
  (sub64Entry #[.int .u64 x,.int .u64 y,.int .u64 b]).run Tryz.prog w =
   .ok (.tuple #[.int .u64 (((x + 18446744073709551616 - y - b) % 18446744073709551616:Nat):Int),.int .u64 ((if x < y + b then 1 else 0:Nat):Int)]) w:=by
 have:b=0∨b=1:=by omega
 rcases this with rfl | rfl <;> rfl
theorem zsx(x y b:Int)(hx:0≤x)(hy:0≤y)(hy':y≤18446744073709551615)(hb0:0≤b)(hb:b≤1)(w:World):(callFunc 100 #[.int .u64 x,.int .u64 y,.int .u64 b]).run Tryz.prog w =
  .ok (.value (.tuple #[.int .u64 ((x - y - b) % 18446744073709551616),.int .u64 (bor x (y + b))])) w:=by
 obtain⟨x,rfl⟩:=Int.eq_ofNat_of_zero_le hx;obtain⟨y,rfl⟩:=Int.eq_ofNat_of_zero_le hy;obtain⟨b,rfl⟩:=Int.eq_ofNat_of_zero_le hb0;have e1:(((x + 18446744073709551616 - y - b) % 18446744073709551616:Nat):Int)=((x:Int) - y - b) % 18446744073709551616:=by omega
 have e2:((if x < y + b then 1 else 0:Nat):Int)=bor (x:Int) (y + b):=by unfold bor;split <;> split <;> omega
 rw [← e1,← e2];rw [run_callFunc_extern Tryz.func100 (by kernel_rfl) (by kernel_rfl) (by kernel_rfl) (e:=sub64Entry) (by kernel_rfl),zrx x y b (by omega)];rfl
theorem zjp(x y:Int)(hx:0≤x)(hy:0≤y)(hy':y≤18446744073709551615)(w:World):(callFunc 100 #[.int .u64 x,.int .u64 y,.int .u64 0]).run Tryz.prog w =
  .ok (.value (.tuple #[.int .u64 ((x - y) % 18446744073709551616),.int .u64 (bor x y)])) w:=by
 simpa using zsx x y 0 hx hy hy' (Int.le_refl 0) (by decide) w
def plN(n1:Bool)(m1:Int)(n2:Bool)(m2:Int):Bool:=if n1 == n2 then n1 else if m1 < m2 then n2 else n1
def plM(n1:Bool)(m1:Int)(n2:Bool)(m2:Int):Int:=if n1 == n2 then m1 + m2 else if m1 < m2 then m2 - m1 else m1 - m2
theorem zht(m1 m2:Int):(m1 < m2)↔(hiW m1 < hiW m2∨(hiW m1=hiW m2∧loW m1 < loW m2)):=by unfold hiW loW;omega
theorem znm(n:Int)(w:World)(h:I64 n):Calls Tryz.prog 53 #[.int .i64 n] w (Vc.Ret (.int .u64 (absI n)) w):=by
 obtain⟨h,h'⟩:=h;refine zor _ w _ ?_
 (repeat' (first | (intro _ hx) | (refine Vc.iteI (fun h => ?_) (fun h => ?_)) | (refine And.intro (by omega) ?_)))
 all_goals (simp only [Ul.u64_eq]at *;refine int1 ?_;unfold absI;split <;> omega)
theorem zit(n:Int)(w:World)(h:I64 n):Calls Tryz.prog 31 #[.int .i64 n] w (Vc.Ret (VB (decide (n < 0)) (absI n)) w):=by
 have hb:=zhf n h.1 h.2;have e:=zsr (absI n) (by omega) (by omega);refine zxv _ w _ ?_
 (repeat' (first | (intro _ hx) | ((repeat apply Exists.intro);first | refine And.intro (fun _ _=>znm _ _ h) ?_) | (refine Vc.iteI (fun h => ?_) (fun h => ?_)) | (refine And.intro (by omega) ?_)))
 simp only [VB,e.1,e.2]
theorem zru(n:Bool)(h l:Int)(w:World):Calls Tryz.prog 55 #[.agg #[.bool n,.int .u64 h,.int .u64 l]] w (Vc.Ret (.bool (h == 0 && l == 0)) w):=by
 refine zsh _ _ _ w _ ?_
 (repeat' (first | (intro _ hx) | (refine Vc.iteI (fun h => ?_) (fun h => ?_)) | (refine And.intro (by omega) ?_)))
 all_goals simp_all
theorem ztr(n:Bool)(h l:Int)(w:World):Calls Tryz.prog 99 #[.agg #[.bool n,.int .u64 h,.int .u64 l]] w (Vc.Ret (.bool (n && !(h == 0 && l == 0))) w):=by
 refine zog _ _ _ w _ ?_
 (repeat' (first | (intro _ hx) | ((repeat apply Exists.intro);first | refine And.intro (fun _ _=>zru _ _ _ _) ?_) | (refine Vc.iteI (fun h => ?_) (fun h => ?_)) | (refine And.intro (by omega) ?_)))
 all_goals simp_all
theorem ztx(n:Bool)(m:Int)(w:World)(h0:0≤m):Calls Tryz.prog 50 #[VB n m] w (Vc.Ret (.tuple #[.int .i64 (if m≤9223372036854775807 then sv n m else 0),.bool (decide (m≤9223372036854775807))]) w):=by
 have hl:=zrr m;refine zbj _ _ _ w _ ?_;have t2:∀ {a b:Int} {p q:Bool},a=b→p=q→(Value.tuple #[.int .i64 a,.bool p])=.tuple #[.int .i64 b,.bool q]:=by rintro _ _ _ _ rfl rfl;rfl
 have e1:0 < hiW m→¬ m≤9223372036854775807:=by unfold hiW;omega
 have e2:¬ 0 < hiW m→9223372036854775807 < loW m→¬ m≤9223372036854775807:=by unfold hiW loW;omega
 have e3:¬ 0 < hiW m→¬ 9223372036854775807 < loW m→m≤9223372036854775807∧loW m=m:=by unfold hiW loW;omega
 refine iteI (fun h1 => ?_) (fun h1=>iteI (fun h2 => ?_) (fun h2=>iteI (fun hn => ?_) (fun hn => ?_)))
 ·rw [if_neg (e1 h1)];exact t2 rfl (by simpa using e1 h1)
 ·rw [if_neg (e2 h1 h2)];exact t2 rfl (by simpa using e2 h1 h2)
 ·obtain⟨q1,q2⟩:=e3 h1 h2;rintro _ rfl _ rfl;rw [if_pos q1];refine t2 ?_ (by simpa using q1);unfold sv;rw [if_pos hn,q2];simp only [Ul.i64_eq];omega
 ·obtain⟨q1,q2⟩:=e3 h1 h2;rintro _ rfl;rw [if_pos q1];refine t2 ?_ (by simpa using q1);unfold sv;rw [if_neg hn,q2];simp only [Ul.i64_eq];omega
theorem zkp(n1 n2:Bool)(m1 m2:Int)(w:World)(h1:0≤m1)(h2:0≤m2):Calls Tryz.prog 26 #[VB n1 m1,VB n2 m2] w (Vc.Ret (Vc.RV (fit (sv n1 m1) (sv n2 m2))) w):=by
 have hf:fit (sv n1 m1) (sv n2 m2)=if m1≤9223372036854775807∧m2≤9223372036854775807 then (sv n1 m1,sv n2 m2,0)else (0,0,4):=by
  unfold fit sv;cases n1 <;> cases n2 <;> simp <;> (split <;> split <;> first | rfl | omega)
 refine zdt _ _ _ _ _ _ w _ ?_
 (repeat apply Exists.intro);refine And.intro (fun _ _=>ztx n1 m1 _ h1) ?_
 (repeat apply Exists.intro);refine And.intro (fun _ _=>ztx n2 m2 _ h2) ?_
 rw [hf];refine iteI (fun c1=>iteI (fun c2 => ?_) (fun c2 => ?_)) (fun c1 => ?_)
 ·have c1:=of_decide_eq_true c1;have c2:=of_decide_eq_true c2;rw [if_pos c1,if_pos c2,if_pos ⟨c1,c2⟩]
 ·have c2:¬ m2≤9223372036854775807:=by simpa using c2
  rw [if_neg (fun h=>c2 h.2)]
 ·have c1:¬ m1≤9223372036854775807:=by simpa using c1
  rw [if_neg (fun h=>c1 h.1)]
theorem zjt{b b':Bool}{k l:IntKind}{x x' y y':Int}(hb:b=b')(h:x=x')(h':y=y'):Value.agg #[.bool b,.int k x,.int l y]=.agg #[.bool b',.int k x',.int l y']:=by rw [hb,h,h']
theorem zeaa(n1 n2:Bool)(m1 m2:Int)(w:World)(h1:P128 m1)(h2:P128 m2)(h:m1 + m2 < 340282366920938463463374607431768211456) :
  Calls Tryz.prog 56 #[VB n1 m1,VB n2 m2] w (Vc.Ret (VB (plN n1 m1 n2 m2) (plM n1 m1 n2 m2)) w):=by
 have l1:=zrr m1;have l2:=zrr m2;have u1:=hi_u m1 h1;have u2:=hi_u m2 h2;have b12:=zsba (loW m1) (loW m2);have b21:=zsba (loW m2) (loW m1);obtain⟨h1,h1'⟩:=h1;obtain⟨h2,h2'⟩:=h2;refine zqr _ _ _ _ _ _ w _ ?_;refine iteI (fun hn => ?_) (fun hn => ?_)
 ·have hn:n1=n2:=Bool.eq_iff_iff.2 hn;refine⟨_,_,⟨rfl,ztca _ _ l1.1 l2.1⟩,_,_,⟨rfl,zfea _ _ _ u1.1 u2.1 (by omega) (by omega)⟩, ?_⟩;unfold plN plM;rw [if_pos (by simpa using hn),if_pos (by simpa using hn)];refine zjt rfl ?_ ?_ <;> (try unfold hiW at *) <;> (try unfold loW at *) <;> omega
 ·have hn:¬ (n1 == n2)=true:=by rw [beq_iff_eq];exact fun e=>hn (Bool.eq_iff_iff.1 e)
  have hs:=zht m1 m2;unfold plN plM;rw [if_neg hn,if_neg hn];refine iteI (fun c1 => ?_) (fun c1=>iteI (fun c2=>iteI (fun c3 => ?_) (fun c3 => ?_)) (fun c2 => ?_))
  ·have hlt:=hs.2 (.inl c1);refine⟨_,_,⟨rfl,zjp _ _ l2.1 l1.1 l1.2⟩,_,_,⟨rfl,zsx _ _ _ u2.1 u1.1 u1.2 b21.1 b21.2⟩, ?_⟩;rw [if_pos hlt,if_pos hlt];refine zjt rfl ?_ ?_ <;> unfold bor hiW loW at * <;> (try split) <;> omega
  ·have hlt:=hs.2 (.inr ⟨c2,c3⟩);refine⟨_,_,⟨rfl,zjp _ _ l2.1 l1.1 l1.2⟩,_,_,⟨rfl,zsx _ _ _ u2.1 u1.1 u1.2 b21.1 b21.2⟩, ?_⟩;rw [if_pos hlt,if_pos hlt];refine zjt rfl ?_ ?_ <;> unfold bor hiW loW at * <;> (try split) <;> omega
  ·have hlt:¬ m1 < m2:=by rw [hs];omega
   refine⟨_,_,⟨rfl,zjp _ _ l1.1 l2.1 l2.2⟩,_,_,⟨rfl,zsx _ _ _ u1.1 u2.1 u2.2 b12.1 b12.2⟩, ?_⟩;rw [if_neg hlt,if_neg hlt];refine zjt rfl ?_ ?_ <;> unfold bor hiW loW at * <;> (try split) <;> omega
  ·have hlt:¬ m1 < m2:=by rw [hs];omega
   refine⟨_,_,⟨rfl,zjp _ _ l1.1 l2.1 l2.2⟩,_,_,⟨rfl,zsx _ _ _ u1.1 u2.1 u2.2 b12.1 b12.2⟩, ?_⟩;rw [if_neg hlt,if_neg hlt];refine zjt rfl ?_ ?_ <;> unfold bor hiW loW at * <;> (try split) <;> omega
theorem zux{a b c d:Int}(h:chk2 a b c d=0):(ok a b && ok c d)=true:=by
 unfold chk2 at h;split at h
 ·assumption
 ·cases h
theorem zlp{a b c d:Int}(h:¬ chk2 a b c d=0):¬ (ok a b && ok c d)=true∧chk2 a b c d=2:=by
 unfold chk2 at h ⊢;split at h
 ·exact absurd rfl h
 ·rename_i h1;exact⟨h1,by rw [if_neg h1]⟩
theorem chk_ok{a b:Int}(h:chk a b=0):ok a b=true:=by
 unfold chk at h;split at h
 ·assumption
 ·cases h
theorem ztba{a b:Int}(h:¬ chk a b=0):¬ ok a b=true∧chk a b=2:=by
 unfold chk at h ⊢;split at h
 ·exact absurd rfl h
 ·rename_i h1;exact⟨h1,by rw [if_neg h1]⟩
end Go.Proofs.YtkjmhcejdiglfacGreatDoor
set_option linter.unusedVariables false
namespace Go.Proofs.YtkjmhcejdiglfacGreatDoor
open Go Go.RowKit Ul Vc
attribute [local irreducible] Go.Calls
theorem zvx(x y:Int)(w:World)(hx0:0≤x)(hx:x≤18446744073709551615)(hy0:0≤y)(hy:y≤18446744073709551615) :
  Calls Tryz.prog 52 #[.int .u64 x,.int .u64 y] w (Vc.Ret (.tuple #[.int .u64 (hiW (x * y)),.int .u64 (loW (x * y))]) w):=by
 have p0:=zeb (x % 4294967296) (y % 4294967296) 4294967295 4294967295 (by omega) (by omega) (by omega) (by omega);have p1:=zeb (x / 4294967296) (y % 4294967296) 4294967295 4294967295 (by omega) (by omega) (by omega) (by omega);have p2:=zeb (x % 4294967296) (y / 4294967296) 4294967295 4294967295 (by omega) (by omega) (by omega) (by omega);have p3:=zeb (x / 4294967296) (y / 4294967296) 4294967295 4294967295 (by omega) (by omega) (by omega) (by omega);have E:=zdea x y;refine zrh _ _ w _ ?_;rintro _ rfl _ rfl _ rfl _ rfl;rw [zqx x hx0 hx,zqx y hy0 hy];intro x6 h6 x7 h7 x8 h8 x9 h9;generalize x % 4294967296 * (y % 4294967296)=p00 at *;generalize x / 4294967296 * (y % 4294967296)=p10 at *;generalize x % 4294967296 * (y / 4294967296)=p01 at *;generalize x / 4294967296 * (y / 4294967296)=p11 at *;generalize x * y=xy at *;simp only [Ul.u64_eq]at h6 h7 h9;rw [zqx x9 (by omega) (by omega)];intro x10 h10 x11 h11 x12 h12 x13 h13 x14 h14 x15 h15 x16 h16 x17 h17 x18 h18;simp only [Ul.u64_eq]at h12 h13 h14 h15 h17 h18;have e1:x17=hiW xy:=by unfold hiW;omega
 have e2:x18=loW xy:=by unfold loW;omega
 rw [e1,e2]
theorem zpg(a b:Int)(w:World)(ha:I64 a)(hb:I64 b) :
  Calls Tryz.prog 28 #[.int .i64 a,.int .i64 b] w (Vc.Ret (VB (decide (a < 0) != decide (b < 0)) (absI a * absI b)) w):=by
 have xa:=zhf a ha.1 ha.2;have xb:=zhf b hb.1 hb.2;refine zdp _ _ w _ ?_
 (repeat apply Exists.intro);refine And.intro (fun _ _=>znm _ _ ha) ?_
 (repeat apply Exists.intro);refine And.intro (fun _ _=>znm _ _ hb) ?_
 (repeat apply Exists.intro);refine And.intro (fun _ _=>zvx _ _ _ (by omega) (by omega) (by omega) (by omega)) ?_
 rfl
theorem zyb{a b:Int}(ha:I64 a)(hb:I64 b):0≤absI a * absI b∧absI a * absI b≤85070591730234615865843651857942052864:=by
 have xa:=zhf a ha.1 ha.2;have xb:=zhf b hb.1 hb.2;exact zeb _ _ 9223372036854775808 9223372036854775808 xa.1 xb.1 xa.2 xb.2
theorem zfaa(n1 n2:Bool)(m1 m2:Int)(w:World)(h1:0≤m1)(h2:0≤m2) :
  Calls Tryz.prog 51 #[VB n1 m1,VB n2 m2] w (Vc.Ret (.bool (decide (sv n1 m1 < sv n2 m2))) w):=by
 have l1:=zrr m1;have l2:=zrr m2
 have z1:(hiW m1 == 0 && loW m1 == 0)=decide (m1=0):=by
  rw [Bool.eq_iff_iff];simp only [Bool.and_eq_true,beq_iff_eq,decide_eq_true_eq];unfold hiW loW;omega
 have z2:(hiW m2 == 0 && loW m2 == 0)=decide (m2=0):=by
  rw [Bool.eq_iff_iff];simp only [Bool.and_eq_true,beq_iff_eq,decide_eq_true_eq];unfold hiW loW;omega
 have s12:=zht m1 m2;have s21:=zht m2 m1;have b1:=ztr n1 (hiW m1) (loW m1);have b2:=ztr n2 (hiW m2) (loW m2);rw [z1]at b1;rw [z2]at b2;refine zpr _ _ _ _ _ _ w _ ?_
 (repeat apply Exists.intro);refine And.intro (fun _ _=>b1 _) ?_
 (repeat apply Exists.intro);refine And.intro (fun _ _=>b2 _) ?_
 refine iteI (fun h => ?_) (fun h => ?_)
 ·(repeat apply Exists.intro);refine And.intro (fun _ _=>b1 _) ?_
  unfold sv;refine iteI (fun g => ?_) (fun g => ?_)
  ·have e2:=h.1 g;simp only [Bool.and_eq_true,Bool.not_eq_true',decide_eq_false_iff_not]at g e2;rw [if_pos g.1,if_pos e2.1];refine iteI (fun c1 => ?_) (fun c1=>iteI (fun c2 => ?_) (fun c2 => ?_))
   all_goals (refine zcj ?_;rw [Bool.eq_iff_iff];simp only [decide_eq_true_eq,true_iff,Bool.false_eq_true,false_iff];omega)
  ·have e2:=mt h.2 g;have p1:sv n1 m1=m1:=by unfold sv;cases n1 <;> simp_all
   have p2:sv n2 m2=m2:=by unfold sv;cases n2 <;> simp_all
   unfold sv at p1 p2;rw [p1,p2];refine iteI (fun c1 => ?_) (fun c1=>iteI (fun c2 => ?_) (fun c2 => ?_))
   all_goals (refine zcj ?_;rw [Bool.eq_iff_iff];simp only [decide_eq_true_eq,true_iff,Bool.false_eq_true,false_iff];omega)
 ·(repeat apply Exists.intro);refine And.intro (fun _ _=>b1 _) ?_
  refine zcj ?_;rw [Bool.eq_iff_iff];unfold sv;cases n1 <;> cases n2 <;> simp at h ⊢ <;> omega
abbrev VP(p:Bool × Int):Value:=VB p.1 p.2
def svp(p:Bool × Int):Int:=sv p.1 p.2
def bmin(p q:Bool × Int):Bool × Int:=if svp q < svp p then q else p
def bmax(p q:Bool × Int):Bool × Int:=if svp p < svp q then q else p
theorem zje(p q:Bool × Int):svp (bmin p q)=min (svp p) (svp q):=by unfold bmin;split <;> omega
theorem zke(p q:Bool × Int):svp (bmax p q)=max (svp p) (svp q):=by unfold bmax;split <;> omega
theorem zkd{p q:Bool × Int}{B:Int}(hp:0≤p.2∧p.2≤B)(hq:0≤q.2∧q.2≤B):0≤(bmin p q).2∧(bmin p q).2≤B:=by unfold bmin;split <;> assumption
theorem zld{p q:Bool × Int}{B:Int}(hp:0≤p.2∧p.2≤B)(hq:0≤q.2∧q.2≤B):0≤(bmax p q).2∧(bmax p q).2≤B:=by unfold bmax;split <;> assumption
theorem zcc(p q:Bool × Int)(w:World)(hp:0≤p.2)(hq:0≤q.2) :
  Calls Tryz.prog 51 #[VP p,VP q] w (Vc.Ret (.bool (decide (svp p < svp q))) w):=zfaa _ _ _ _ w hp hq
theorem zqfa{b:Nat}{p q:Bool × Int}{t:TypeId}{w:World}(hp:0≤p.2)(hq:0≤q.2)
  (h:w.heap[b]? = some (.cells #[.bool p.1,.int .u64 (hiW p.2),.int .u64 (loW p.2),.bool q.1,.int .u64 (hiW q.2),.int .u64 (loW q.2)] t)) :
  Calls Tryz.prog 27 #[.slice (some ⟨b,0,none⟩) 2 2] w (Vc.Ret (.tuple #[VP (bmin p q),VP (bmax p q)]) w):=by
 refine zcn (b,0) w _ ?_
 refine⟨p.1,by simp [World.cell?,h],hiW p.2,by simp [World.cell?,h],loW p.2,by simp [World.cell?,h],p.1,by simp [World.cell?,h],hiW p.2,by simp [World.cell?,h],loW p.2,by simp [World.cell?,h],
  q.1,by simp [World.cell?,h],hiW q.2,by simp [World.cell?,h],loW q.2,by simp [World.cell?,h], ?_⟩
 (repeat apply Exists.intro);refine And.intro (fun _ _=>zcc q p _ hq hp) ?_
 refine iteI (fun c1 => ?_) (fun c1 => ?_)
 all_goals
  (repeat apply Exists.intro);refine And.intro (fun _ _=>zcc p q _ hp hq) ?_
  refine iteI (fun c2 => ?_) (fun c2 => ?_)
  all_goals (simp only [decide_eq_true_eq]at c1 c2;unfold bmin bmax)
 ·omega
 ·rw [if_pos c1,if_neg c2]
 ·rw [if_neg c1,if_pos c2]
 ·rw [if_neg c1,if_neg c2]
theorem zao(a b n:Int)(w:World)(ha:I64 a)(hb:I64 b)(hn:I64 n):Calls Tryz.prog 10 #[Vc.S a b,.int .i64 n] w (Vc.Ret (Vc.RV (scale a b n)) w):=by
 refine zfp _ _ _ w _ ?_
 (repeat apply Exists.intro);refine And.intro (fun _ _=>zkm _ _ _) ?_
 refine iteI (fun h => ?_) (fun h => ?_)
 ·have d1:=zyb ha hn;have d2:=zyb hb hn
  (repeat apply Exists.intro);refine And.intro (fun _ _=>zpg _ _ _ ha hn) ?_
  (repeat apply Exists.intro);refine And.intro (fun _ _=>zpg _ _ _ hb hn) ?_
  refine⟨_,_,_,_,_,_,fun _ _ _ hm=>zqfa (p:=(decide (a < 0) != decide (n < 0),absI a * absI n)) (q:=(decide (b < 0) != decide (n < 0),absI b * absI n)) d1.1 d2.1 hm.1.2, ?_⟩
  (repeat apply Exists.intro);refine And.intro (fun _ _=>zkp _ _ _ _ _ (zkd d1 d2).1 (zld d1 d2).1) ?_
  have e1:=zje (decide (a < 0) != decide (n < 0),absI a * absI n) (decide (b < 0) != decide (n < 0),absI b * absI n);have e2:=zke (decide (a < 0) != decide (n < 0),absI a * absI n) (decide (b < 0) != decide (n < 0),absI b * absI n);unfold svp at e1 e2;rw [e1,e2,zzn,zzn];unfold scale;rw [if_pos (chk_ok h)]
 ·unfold scale;rw [if_neg (ztba h).1,(ztba h).2]
end Go.Proofs.YtkjmhcejdiglfacGreatDoor
set_option linter.unusedVariables false
namespace Ul
open Go Go.RowKit
theorem zwx(y:Int)(h0:0 < y)(h1:y≤18446744073709551615) :
  ∃ s:Nat,s≤63∧64 - (Lib.bitLen y.toNat:Int)=(s:Int)∧9223372036854775808≤y * 2 ^ s∧y * 2 ^ s < 18446744073709551616:=by
 obtain⟨b1,b2,b3⟩:=Lib.bitLenAux_bounds 64 y.toNat (by omega) (by omega);have b4:Lib.bitLen y.toNat≤64:=Lib.bitLen_le _ 64 (by omega) (by omega);have e:Lib.bitLenAux 64 y.toNat=Lib.bitLen y.toNat:=rfl;rw [e]at b1 b2 b3;generalize Lib.bitLen y.toNat=L at *;refine⟨64 - L,by omega,by omega, ?_, ?_⟩
 ·have h:=Nat.mul_le_mul_right (2 ^ (64 - L)) b2;rw [← Nat.pow_add,show L - 1 + (64 - L)=63 by omega]at h
  have:((y.toNat * 2 ^ (64 - L):Nat):Int)=y * 2 ^ (64 - L):=by rw [Int.natCast_mul,Int.natCast_pow,Int.toNat_of_nonneg (by omega)];rfl
  omega
 ·have h:=Nat.mul_lt_mul_of_pos_right b3 (Nat.two_pow_pos (64 - L));rw [← Nat.pow_add,show L + (64 - L)=64 by omega]at h
  have:((y.toNat * 2 ^ (64 - L):Nat):Int)=y * 2 ^ (64 - L):=by rw [Int.natCast_mul,Int.natCast_pow,Int.toNat_of_nonneg (by omega)];rfl
  omega
theorem zkt(h l:Int)(s:Nat)(hs:s≤63)(h0:0≤h)(hk:h * 2 ^ s < 18446744073709551616)(l0:0≤l)(l1:l≤18446744073709551615) :
    0 ≤ h * 2 ^ s∧0≤l / 2 ^ (64 - s)∧l / 2 ^ (64 - s) < 2 ^ s ∧
      (h * 18446744073709551616 + l) * 2 ^ s=(h * 2 ^ s + l / 2 ^ (64 - s)) * 18446744073709551616 + (l * 2 ^ s) % 18446744073709551616∧h * 2 ^ s + l / 2 ^ (64 - s) < 18446744073709551616 + 2 ^ s:=by
  have p1:=zoa s;have p2:=zoa (64 - s);have e:(2:Int) ^ s * 2 ^ (64 - s)=18446744073709551616:=by rw [← Int.pow_add,show s + (64 - s)=64 by omega];decide
  have q0:0≤l / 2 ^ (64 - s):=Int.ediv_nonneg l0 (by omega);have q1:l / 2 ^ (64 - s) < 2 ^ s:=by rw [Int.ediv_lt_iff_lt_mul p2];omega
  refine⟨Int.mul_nonneg h0 (by omega),q0,q1, ?_,by omega⟩
  have d:l * 2 ^ s / 18446744073709551616=l / 2 ^ (64 - s):=by
    rw [← e,Int.mul_comm (2 ^ s)];exact Int.mul_ediv_mul_of_pos_left _ _ p1
  have m:=Int.mul_ediv_add_emod (l * 2 ^ s) 18446744073709551616;rw [d]at m;rw [Int.add_mul,Int.add_mul];have c:h * 18446744073709551616 * 2 ^ s=h * 2 ^ s * 18446744073709551616:=by grind
  omega
theorem znb(h l y u d1 d0 q1 q0:Int)(s:Nat)(hy:0 < y)(hs:(h * 18446744073709551616 + l) * 2 ^ s=u * 18446744073709551616 + (d1 * 4294967296 + d0))
  (hq1:q1=(u * 4294967296 + d1) / (y * 2 ^ s)) (hq0:q0=((u * 4294967296 + d1) % (y * 2 ^ s) * 4294967296 + d0) / (y * 2 ^ s)) :
  q1 * 4294967296 + q0=(h * 18446744073709551616 + l) / y∧((u * 4294967296 + d1) % (y * 2 ^ s) * 4294967296 + d0) % (y * 2 ^ s) / 2 ^ s=(h * 18446744073709551616 + l) % y:=by
 have p1:=zoa s;have hp:0 < y * 2 ^ s:=Int.mul_pos hy p1;have t:=zyv u d1 d0 (y * 2 ^ s) hp;have sc:=zeea (h * 18446744073709551616 + l) y (2 ^ s) p1 hy;have e:(u * 4294967296 + d1) * 4294967296 + d0=(h * 18446744073709551616 + l) * 2 ^ s:=by rw [hs];omega
 rw [e,sc.1]at t;refine⟨by rw [hq1,hq0];exact t.1.symm, ?_⟩;rw [← t.2];exact sc.2
theorem zuba(a b:Int)(s:Nat)(hs:s≤63)(x:Int)(ha:a=x * 2 ^ s)(hx:0≤x)(hb:0≤b)(hb1:b < 2 ^ s)(hab:a + b < 18446744073709551616):bits .or .u64 a b=a + b:=by
 obtain⟨n,rfl⟩:=Int.eq_ofNat_of_zero_le hx;obtain⟨m,rfl⟩:=Int.eq_ofNat_of_zero_le hb;have e:a=((n * 2 ^ s:Nat):Int):=by rw [ha,Int.natCast_mul,Int.natCast_pow];rfl
 have hm:m < 2 ^ s:=by
  have:((2 ^ s:Nat):Int)=2 ^ s:=by rw [Int.natCast_pow];rfl
  omega
 have o:n * 2 ^ s ||| m=n * 2 ^ s + m:=by
  have:=Nat.two_pow_add_eq_or_of_lt hm n
  rw [Nat.mul_comm];exact this.symm
 have t1:(BitVec.ofInt 64 a).toNat=n * 2 ^ s:=by
  have:=zmm a
  omega
 have t2:(BitVec.ofInt 64 (m:Int)).toNat=m:=by
  have:=zmm (m:Int)
  omega
 show IntKind.u64.wrap ((BitVec.ofInt 64 a ||| BitVec.ofInt 64 (m:Int)).toNat:Int)=_;rw [BitVec.toNat_or,t1,t2,o,u64_eq];omega
end Ul
set_option linter.unusedVariables false
namespace Go.Proofs.YtkjmhcejdiglfacGreatDoor
open Go Go.RowKit Ul Vc
attribute [local irreducible] Go.Calls
theorem zgea(x:Int)(w:World)(h0:0≤x)(h1:x≤18446744073709551615) :
  Calls Tryz.prog 77 #[.int .u64 x] w (Vc.Ret (.int .i64 (64 - (Lib.bitLen x.toNat:Int))) w) :=
 (zmg x w h0 h1).mono fun e w' ⟨he,hw⟩=>⟨he,by subst hw;exact Below.refl _ _⟩
def DigI(u v y:Int)(l:List Vc.Vl):Prop:=∃ q r,l=[.i q,.i r]∧Dig u v y q r∧r < 4294967296
def digM(l:List Vc.Vl):Nat:=match l with | .i q::_=>q.toNat | _=>0
theorem zxx(h l y:Int)(w:World)(h0:0≤h)(hlt:h < y)(hy1:y≤18446744073709551615)(l0:0≤l)(l1:l≤18446744073709551615) :
  Calls Tryz.prog 40 #[.int .u64 h,.int .u64 l,.int .u64 y] w (Vc.Ret (.tuple #[.int .u64 ((h * 18446744073709551616 + l) / y),.int .u64 ((h * 18446744073709551616 + l) % y)]) w):=by
 have hy:0 < y:=by omega
 refine zth _ _ _ w _ ?_;refine iteI (fun hc=>absurd hc (by omega)) (fun _=>iteI (fun hc=>absurd hc (by omega)) (fun _=>iteI (fun hz => ?_) (fun hz => ?_)))
 ·subst hz;refine⟨by omega, ?_⟩;rintro _ rfl;refine⟨by omega, ?_⟩;rintro _ rfl;have q0:0≤l / y:=Int.ediv_nonneg l0 (by omega);have q1:l / y≤l:=Int.ediv_le_self _ l0;rw [Int.tdiv_eq_ediv_of_nonneg l0,Int.tmod_eq_emod_of_nonneg l0,Ul.u64_eq,Int.emod_eq_of_lt q0 (by omega)];simp
 ·obtain⟨s,hs,e1,t0,t1⟩:=zwx y hy hy1
  have hk:h * 2 ^ s < 18446744073709551616:=by
   have:=Int.mul_le_mul_of_nonneg_right (Int.le_of_lt hlt) (Int.le_of_lt (zoa s));omega
  obtain⟨z1,z2,z3,z4,z5⟩:=zkt h l s hs h0 hk l0 l1;have hmin:Nat.min (Int.toNat (s:Int)) 64=s:=Nat.min_eq_left (by omega)
  (repeat apply Exists.intro);refine And.intro (fun _ _=>zgea _ _ (by omega) hy1) ?_
  rw [e1];intro x4 h4;have e4:x4=(s:Int):=by rw [h4,Ul.u64_eq];omega
  subst e4;clear h4;rw [hmin];refine⟨by omega, ?_⟩;intro n hn;have hn:n=y * 2 ^ s:=by rw [hn,Ul.u64_eq];omega
  rw [← hn]at t0 t1;rintro _ rfl n0 hn0';rw [zqx n (by omega) (by omega)]at hn0';subst hn0';refine⟨by omega, ?_⟩;intro x8 h8 x9 h9;have e8:x8=h * 2 ^ s:=by rw [h8,Ul.u64_eq];omega
  have e9:x9=((64 - s:Nat):Int):=by rw [h9,Ul.u64_eq];omega
  subst e8 e9;rw [show Nat.min (Int.toNat ((64 - s:Nat):Int)) 64=64 - s from Nat.min_eq_left (by omega),Int.fdiv_eq_ediv_of_nonneg _ (Int.le_of_lt (zoa _))];refine⟨by omega, ?_⟩;rintro _ rfl;have hk2:(h + 1) * 2 ^ s≤n:=by rw [hn];exact Int.mul_le_mul_of_nonneg_right (by omega) (Int.le_of_lt (zoa s))
  rw [Int.add_mul,Int.one_mul]at hk2;intro u hu;have hu:u=h * 2 ^ s + l / 2 ^ (64 - s):=by rw [hu];exact zuba _ _ s hs h rfl h0 z2 z3 (by omega)
  have hu0:0≤u:=by omega
  have hun:u < n:=by omega
  rw [← hu]at z4;refine⟨by omega, ?_⟩;intro x12 h12;rw [Ul.u64_eq]at h12;rw [← h12]at z4;intro d1 hd1' d0 hd0';rw [zqx x12 (by omega) (by omega)]at hd0';have hd0:0≤d1:=by omega
  have hd1:d1 < 4294967296:=by omega
  have hd00:0≤d0:=by omega
  have hd01:d0 < 4294967296:=by omega
  have hN:(h * 18446744073709551616 + l) * 2 ^ s=u * 18446744073709551616 + (d1 * 4294967296 + d0):=by rw [z4];omega
  clear z1 z2 z3 z4 z5 hk hk2 hu h12 hd1' hd0' hz e1;refine⟨by omega, ?_⟩;intro b1 hb1 b2 hb2 b3 hb3;have st:=zuh u d1 n (by omega) (by omega) (by omega) (by omega) t0 t1;have f0:0≤u / (n / 4294967296):=Int.ediv_nonneg (by omega) (by omega);have f1:u / (n / 4294967296)≤u:=Int.ediv_le_self _ (by omega);have f2:=Int.mul_ediv_add_emod u (n / 4294967296);have f3:=Int.emod_nonneg u (show n / 4294967296≠0 by omega);have f4:=Int.emod_lt_of_pos u (show 0 < n / 4294967296 by omega);rw [Int.mul_comm (n / 4294967296)]at f2;have f5:0≤u / (n / 4294967296) * (n / 4294967296):=Int.mul_nonneg f0 (by omega);have w1:b1=u / (n / 4294967296):=by rw [hb1,Int.tdiv_eq_ediv_of_nonneg (by omega),Ul.u64_eq];omega
  have w2:b2=u / (n / 4294967296) * (n / 4294967296):=by rw [hb2,w1,Ul.u64_eq];omega
  have w3:b3=u - u / (n / 4294967296) * (n / 4294967296):=by rw [hb3,w2,Ul.u64_eq];omega
  rw [← w3,← w1]at st;have w4:b3 < 4294967296:=by omega
  clear hb1 hb2 hb3 f0 f1 f2 f3 f4 f5 w1 w2 w3;refine⟨DigI u d1 n,digM,⟨_,_,rfl,st,by omega⟩, ?_⟩;rintro qa ra ⟨_,_,he,hd,hr⟩;simp only [List.cons.injEq,Vc.Vl.i.injEq,and_true]at he;obtain⟨rfl,rfl⟩:=he;have hpos:=hd.pos;have hhi:=hd.hi;have qpos:0≤qa:=Int.le_trans (Int.ediv_nonneg (by omega) (by omega)) hd.lo;refine iteI (fun c1 => ?_) (fun c1 => ?_)
  ·intro qb hqb rb hrb;have nx:=zcd u d1 n qa ra hd (by omega) (by omega) (by omega) (by omega) t0 t1 (.inl c1);have e1:qb=qa - 1:=by rw [hqb,Ul.u64_eq];omega
   have e2:rb=ra + n / 4294967296:=by rw [hrb,Ul.u64_eq];omega
   rw [← e1,← e2]at nx;clear hqb hrb;refine iteI (fun c2 => ?_) (fun c2 => ?_)
   ·have fq:=zgc u d1 n qb rb nx.1 t0 (by omega) (by omega) nx.2.1 c2;intro a1 ha1 a2 ha2 a3 ha3 RA ha4;have hq1:=fq;have m1:=Int.mul_ediv_add_emod (u * 4294967296 + d1) n;rw [← hq1]at m1;have m2:=Int.emod_nonneg (u * 4294967296 + d1) (show n≠0 by omega);have m3:=Int.emod_lt_of_pos (u * 4294967296 + d1) (show 0 < n by omega)
    have hR1:RA=(u * 4294967296 + d1) % n:=by
     rw [ha4,ha3,ha2,ha1];simp only [Ul.u64_eq];rw [Int.mul_comm n]at m1;generalize (u * 4294967296 + d1) % n=R2 at *;generalize qb * n=P at *;omega
    have l1:=zxd u d1 n hu0 hun hd0 hd1 t0;rw [← hq1]at l1;have g1:0≤qb:=by rw [hq1];exact Int.ediv_nonneg (by omega) (by omega)
    have r0:0≤RA:=by omega
    have r1:RA < n:=by omega
    obtain⟨qA,hqA⟩:∃ qA,qA=qb:=⟨_,rfl⟩;rw [← hqA]at hq1 l1 g1 ⊢;clear ha1 ha2 ha3 ha4 m1 m2 m3 fq hqA;refine⟨by omega, ?_⟩;intro b1 hb1 b2 hb2 b3 hb3;have st:=zuh RA d0 n (by omega) (by omega) (by omega) (by omega) t0 t1;have f0:0≤RA / (n / 4294967296):=Int.ediv_nonneg (by omega) (by omega);have f1:RA / (n / 4294967296)≤RA:=Int.ediv_le_self _ (by omega);have f2:=Int.mul_ediv_add_emod RA (n / 4294967296);have f3:=Int.emod_nonneg RA (show n / 4294967296≠0 by omega);have f4:=Int.emod_lt_of_pos RA (show 0 < n / 4294967296 by omega);rw [Int.mul_comm (n / 4294967296)]at f2;have f5:0≤RA / (n / 4294967296) * (n / 4294967296):=Int.mul_nonneg f0 (by omega);have w1:b1=RA / (n / 4294967296):=by rw [hb1,Int.tdiv_eq_ediv_of_nonneg (by omega),Ul.u64_eq];omega
    have w2:b2=RA / (n / 4294967296) * (n / 4294967296):=by rw [hb2,w1,Ul.u64_eq];omega
    have w3:b3=RA - RA / (n / 4294967296) * (n / 4294967296):=by rw [hb3,w2,Ul.u64_eq];omega
    rw [← w3,← w1]at st;have w4:b3 < 4294967296:=by omega
    clear hb1 hb2 hb3 f0 f1 f2 f3 f4 f5 w1 w2 w3;refine⟨DigI RA d0 n,digM,⟨_,_,rfl,st,by omega⟩, ?_⟩;rintro qa ra ⟨_,_,he,hd,hr⟩;simp only [List.cons.injEq,Vc.Vl.i.injEq,and_true]at he;obtain⟨rfl,rfl⟩:=he;have hpos:=hd.pos;have hhi:=hd.hi;have qpos:0≤qa:=Int.le_trans (Int.ediv_nonneg (by omega) (by omega)) hd.lo;refine iteI (fun c1 => ?_) (fun c1 => ?_)
    ·intro qb hqb rb hrb;have nx:=zcd RA d0 n qa ra hd (by omega) (by omega) (by omega) (by omega) t0 t1 (.inl c1);have e1:qb=qa - 1:=by rw [hqb,Ul.u64_eq];omega
     have e2:rb=ra + n / 4294967296:=by rw [hrb,Ul.u64_eq];omega
     rw [← e1,← e2]at nx;clear hqb hrb;refine iteI (fun c2 => ?_) (fun c2 => ?_)
     ·have fq:=zgc RA d0 n qb rb nx.1 t0 (by omega) (by omega) nx.2.1 c2;have hq0:=fq;have hq0:=hq0;intro c1 hc1 c2 hc2 c3 hc3 c4 hc4 c5 hc5 c6 hc6;refine⟨by omega, ?_⟩;intro c7 hc7;have fin:=znb h l y u d1 d0 qA qb s hy hN (by rw [hq1,hn]) (by rw [hq0,hR1,hn]);have m1:=Int.mul_ediv_add_emod (RA * 4294967296 + d0) n;rw [← hq0]at m1;have m2:=Int.emod_nonneg (RA * 4294967296 + d0) (show n≠0 by omega);have m3:=Int.emod_lt_of_pos (RA * 4294967296 + d0) (show 0 < n by omega)
      have e6:c6=(RA * 4294967296 + d0) % n:=by
       rw [hc6,hc5,hc4,hc3];simp only [Ul.u64_eq];rw [Int.mul_comm n]at m1;generalize (RA * 4294967296 + d0) % n=R2 at *;generalize qb * n=P at *;omega
      rw [hc7,Int.fdiv_eq_ediv_of_nonneg _ (Int.le_of_lt (zoa s)),e6];rw [← hn,← hR1]at fin;have l2:=zxd RA d0 n r0 r1 hd00 hd01 t0;rw [← hq0]at l2;have g2:0≤qb:=by rw [hq0];exact Int.ediv_nonneg (by omega) (by omega)
      have e2:c2=(h * 18446744073709551616 + l) / y:=by
       rw [← fin.1,hc2,hc1];simp only [Ul.u64_eq];omega
      rw [e2,fin.2]
     ·exact⟨⟨_,_,rfl,nx.1,by omega⟩,by simp only [digM];omega⟩
    ·intro a ha b hb c hc;have pr:=zeb qa (n % 4294967296) 4294967295 4294967295 (by omega) (by omega) (by omega) (by omega);have ea:a=qa * (n % 4294967296):=by rw [ha,Ul.u64_eq];omega
     have ec:c=4294967296 * ra + d0:=by rw [hc,hb];simp only [Ul.u64_eq];omega
     clear ha hb hc;refine iteI (fun c2 => ?_) (fun c2 => ?_)
     ·intro qb hqb rb hrb;have nx:=zcd RA d0 n qa ra hd (by omega) (by omega) (by omega) (by omega) t0 t1 (.inr (by rw [← ea,← ec];exact c2));have e1:qb=qa - 1:=by rw [hqb,Ul.u64_eq];omega
      have e2:rb=ra + n / 4294967296:=by rw [hrb,Ul.u64_eq];omega
      rw [← e1,← e2]at nx;clear hqb hrb;refine iteI (fun c2 => ?_) (fun c2 => ?_)
      ·have fq:=zgc RA d0 n qb rb nx.1 t0 (by omega) (by omega) nx.2.1 c2;have hq0:=fq;have hq0:=hq0;intro c1 hc1 c2 hc2 c3 hc3 c4 hc4 c5 hc5 c6 hc6;refine⟨by omega, ?_⟩;intro c7 hc7;have fin:=znb h l y u d1 d0 qA qb s hy hN (by rw [hq1,hn]) (by rw [hq0,hR1,hn]);have m1:=Int.mul_ediv_add_emod (RA * 4294967296 + d0) n;rw [← hq0]at m1;have m2:=Int.emod_nonneg (RA * 4294967296 + d0) (show n≠0 by omega);have m3:=Int.emod_lt_of_pos (RA * 4294967296 + d0) (show 0 < n by omega)
       have e6:c6=(RA * 4294967296 + d0) % n:=by
        rw [hc6,hc5,hc4,hc3];simp only [Ul.u64_eq];rw [Int.mul_comm n]at m1;generalize (RA * 4294967296 + d0) % n=R2 at *;generalize qb * n=P at *;omega
       rw [hc7,Int.fdiv_eq_ediv_of_nonneg _ (Int.le_of_lt (zoa s)),e6];rw [← hn,← hR1]at fin;have l2:=zxd RA d0 n r0 r1 hd00 hd01 t0;rw [← hq0]at l2;have g2:0≤qb:=by rw [hq0];exact Int.ediv_nonneg (by omega) (by omega)
       have e2:c2=(h * 18446744073709551616 + l) / y:=by
        rw [← fin.1,hc2,hc1];simp only [Ul.u64_eq];omega
       rw [e2,fin.2]
      ·exact⟨⟨_,_,rfl,nx.1,by omega⟩,by simp only [digM];omega⟩
     ·have fq:=zlm RA d0 n qa ra hd t0 (by rw [← ea,← ec];omega);have hq0:=fq;have hq0:=hq0;intro c1 hc1 c2 hc2 c3 hc3 c4 hc4 c5 hc5 c6 hc6;refine⟨by omega, ?_⟩;intro c7 hc7;have fin:=znb h l y u d1 d0 qA qa s hy hN (by rw [hq1,hn]) (by rw [hq0,hR1,hn]);have m1:=Int.mul_ediv_add_emod (RA * 4294967296 + d0) n;rw [← hq0]at m1;have m2:=Int.emod_nonneg (RA * 4294967296 + d0) (show n≠0 by omega);have m3:=Int.emod_lt_of_pos (RA * 4294967296 + d0) (show 0 < n by omega)
      have e6:c6=(RA * 4294967296 + d0) % n:=by
       rw [hc6,hc5,hc4,hc3];simp only [Ul.u64_eq];rw [Int.mul_comm n]at m1;generalize (RA * 4294967296 + d0) % n=R2 at *;generalize qa * n=P at *;omega
      rw [hc7,Int.fdiv_eq_ediv_of_nonneg _ (Int.le_of_lt (zoa s)),e6];rw [← hn,← hR1]at fin;have l2:=zxd RA d0 n r0 r1 hd00 hd01 t0;rw [← hq0]at l2;have g2:0≤qa:=by rw [hq0];exact Int.ediv_nonneg (by omega) (by omega)
      have e2:c2=(h * 18446744073709551616 + l) / y:=by
       rw [← fin.1,hc2,hc1];simp only [Ul.u64_eq];omega
      rw [e2,fin.2]
   ·exact⟨⟨_,_,rfl,nx.1,by omega⟩,by simp only [digM];omega⟩
  ·intro a ha b hb c hc;have pr:=zeb qa (n % 4294967296) 4294967295 4294967295 (by omega) (by omega) (by omega) (by omega);have ea:a=qa * (n % 4294967296):=by rw [ha,Ul.u64_eq];omega
   have ec:c=4294967296 * ra + d1:=by rw [hc,hb];simp only [Ul.u64_eq];omega
   clear ha hb hc;refine iteI (fun c2 => ?_) (fun c2 => ?_)
   ·intro qb hqb rb hrb;have nx:=zcd u d1 n qa ra hd (by omega) (by omega) (by omega) (by omega) t0 t1 (.inr (by rw [← ea,← ec];exact c2));have e1:qb=qa - 1:=by rw [hqb,Ul.u64_eq];omega
    have e2:rb=ra + n / 4294967296:=by rw [hrb,Ul.u64_eq];omega
    rw [← e1,← e2]at nx;clear hqb hrb;refine iteI (fun c2 => ?_) (fun c2 => ?_)
    ·have fq:=zgc u d1 n qb rb nx.1 t0 (by omega) (by omega) nx.2.1 c2;intro a1 ha1 a2 ha2 a3 ha3 RA ha4;have hq1:=fq;have m1:=Int.mul_ediv_add_emod (u * 4294967296 + d1) n;rw [← hq1]at m1;have m2:=Int.emod_nonneg (u * 4294967296 + d1) (show n≠0 by omega);have m3:=Int.emod_lt_of_pos (u * 4294967296 + d1) (show 0 < n by omega)
     have hR1:RA=(u * 4294967296 + d1) % n:=by
      rw [ha4,ha3,ha2,ha1];simp only [Ul.u64_eq];rw [Int.mul_comm n]at m1;generalize (u * 4294967296 + d1) % n=R2 at *;generalize qb * n=P at *;omega
     have l1:=zxd u d1 n hu0 hun hd0 hd1 t0;rw [← hq1]at l1;have g1:0≤qb:=by rw [hq1];exact Int.ediv_nonneg (by omega) (by omega)
     have r0:0≤RA:=by omega
     have r1:RA < n:=by omega
     obtain⟨qA,hqA⟩:∃ qA,qA=qb:=⟨_,rfl⟩;rw [← hqA]at hq1 l1 g1 ⊢;clear ha1 ha2 ha3 ha4 m1 m2 m3 fq hqA;refine⟨by omega, ?_⟩;intro b1 hb1 b2 hb2 b3 hb3;have st:=zuh RA d0 n (by omega) (by omega) (by omega) (by omega) t0 t1;have f0:0≤RA / (n / 4294967296):=Int.ediv_nonneg (by omega) (by omega);have f1:RA / (n / 4294967296)≤RA:=Int.ediv_le_self _ (by omega);have f2:=Int.mul_ediv_add_emod RA (n / 4294967296);have f3:=Int.emod_nonneg RA (show n / 4294967296≠0 by omega);have f4:=Int.emod_lt_of_pos RA (show 0 < n / 4294967296 by omega);rw [Int.mul_comm (n / 4294967296)]at f2;have f5:0≤RA / (n / 4294967296) * (n / 4294967296):=Int.mul_nonneg f0 (by omega);have w1:b1=RA / (n / 4294967296):=by rw [hb1,Int.tdiv_eq_ediv_of_nonneg (by omega),Ul.u64_eq];omega
     have w2:b2=RA / (n / 4294967296) * (n / 4294967296):=by rw [hb2,w1,Ul.u64_eq];omega
     have w3:b3=RA - RA / (n / 4294967296) * (n / 4294967296):=by rw [hb3,w2,Ul.u64_eq];omega
     rw [← w3,← w1]at st;have w4:b3 < 4294967296:=by omega
     clear hb1 hb2 hb3 f0 f1 f2 f3 f4 f5 w1 w2 w3;refine⟨DigI RA d0 n,digM,⟨_,_,rfl,st,by omega⟩, ?_⟩;rintro qa ra ⟨_,_,he,hd,hr⟩;simp only [List.cons.injEq,Vc.Vl.i.injEq,and_true]at he;obtain⟨rfl,rfl⟩:=he;have hpos:=hd.pos;have hhi:=hd.hi;have qpos:0≤qa:=Int.le_trans (Int.ediv_nonneg (by omega) (by omega)) hd.lo;refine iteI (fun c1 => ?_) (fun c1 => ?_)
     ·intro qb hqb rb hrb;have nx:=zcd RA d0 n qa ra hd (by omega) (by omega) (by omega) (by omega) t0 t1 (.inl c1);have e1:qb=qa - 1:=by rw [hqb,Ul.u64_eq];omega
      have e2:rb=ra + n / 4294967296:=by rw [hrb,Ul.u64_eq];omega
      rw [← e1,← e2]at nx;clear hqb hrb;refine iteI (fun c2 => ?_) (fun c2 => ?_)
      ·have fq:=zgc RA d0 n qb rb nx.1 t0 (by omega) (by omega) nx.2.1 c2;have hq0:=fq;have hq0:=hq0;intro c1 hc1 c2 hc2 c3 hc3 c4 hc4 c5 hc5 c6 hc6;refine⟨by omega, ?_⟩;intro c7 hc7;have fin:=znb h l y u d1 d0 qA qb s hy hN (by rw [hq1,hn]) (by rw [hq0,hR1,hn]);have m1:=Int.mul_ediv_add_emod (RA * 4294967296 + d0) n;rw [← hq0]at m1;have m2:=Int.emod_nonneg (RA * 4294967296 + d0) (show n≠0 by omega);have m3:=Int.emod_lt_of_pos (RA * 4294967296 + d0) (show 0 < n by omega)
       have e6:c6=(RA * 4294967296 + d0) % n:=by
        rw [hc6,hc5,hc4,hc3];simp only [Ul.u64_eq];rw [Int.mul_comm n]at m1;generalize (RA * 4294967296 + d0) % n=R2 at *;generalize qb * n=P at *;omega
       rw [hc7,Int.fdiv_eq_ediv_of_nonneg _ (Int.le_of_lt (zoa s)),e6];rw [← hn,← hR1]at fin;have l2:=zxd RA d0 n r0 r1 hd00 hd01 t0;rw [← hq0]at l2;have g2:0≤qb:=by rw [hq0];exact Int.ediv_nonneg (by omega) (by omega)
       have e2:c2=(h * 18446744073709551616 + l) / y:=by
        rw [← fin.1,hc2,hc1];simp only [Ul.u64_eq];omega
       rw [e2,fin.2]
      ·exact⟨⟨_,_,rfl,nx.1,by omega⟩,by simp only [digM];omega⟩
     ·intro a ha b hb c hc;have pr:=zeb qa (n % 4294967296) 4294967295 4294967295 (by omega) (by omega) (by omega) (by omega);have ea:a=qa * (n % 4294967296):=by rw [ha,Ul.u64_eq];omega
      have ec:c=4294967296 * ra + d0:=by rw [hc,hb];simp only [Ul.u64_eq];omega
      clear ha hb hc;refine iteI (fun c2 => ?_) (fun c2 => ?_)
      ·intro qb hqb rb hrb;have nx:=zcd RA d0 n qa ra hd (by omega) (by omega) (by omega) (by omega) t0 t1 (.inr (by rw [← ea,← ec];exact c2));have e1:qb=qa - 1:=by rw [hqb,Ul.u64_eq];omega
       have e2:rb=ra + n / 4294967296:=by rw [hrb,Ul.u64_eq];omega
       rw [← e1,← e2]at nx;clear hqb hrb;refine iteI (fun c2 => ?_) (fun c2 => ?_)
       ·have fq:=zgc RA d0 n qb rb nx.1 t0 (by omega) (by omega) nx.2.1 c2;have hq0:=fq;have hq0:=hq0;intro c1 hc1 c2 hc2 c3 hc3 c4 hc4 c5 hc5 c6 hc6;refine⟨by omega, ?_⟩;intro c7 hc7;have fin:=znb h l y u d1 d0 qA qb s hy hN (by rw [hq1,hn]) (by rw [hq0,hR1,hn]);have m1:=Int.mul_ediv_add_emod (RA * 4294967296 + d0) n;rw [← hq0]at m1;have m2:=Int.emod_nonneg (RA * 4294967296 + d0) (show n≠0 by omega);have m3:=Int.emod_lt_of_pos (RA * 4294967296 + d0) (show 0 < n by omega)
        have e6:c6=(RA * 4294967296 + d0) % n:=by
         rw [hc6,hc5,hc4,hc3];simp only [Ul.u64_eq];rw [Int.mul_comm n]at m1;generalize (RA * 4294967296 + d0) % n=R2 at *;generalize qb * n=P at *;omega
        rw [hc7,Int.fdiv_eq_ediv_of_nonneg _ (Int.le_of_lt (zoa s)),e6];rw [← hn,← hR1]at fin;have l2:=zxd RA d0 n r0 r1 hd00 hd01 t0;rw [← hq0]at l2;have g2:0≤qb:=by rw [hq0];exact Int.ediv_nonneg (by omega) (by omega)
        have e2:c2=(h * 18446744073709551616 + l) / y:=by
         rw [← fin.1,hc2,hc1];simp only [Ul.u64_eq];omega
        rw [e2,fin.2]
       ·exact⟨⟨_,_,rfl,nx.1,by omega⟩,by simp only [digM];omega⟩
      ·have fq:=zlm RA d0 n qa ra hd t0 (by rw [← ea,← ec];omega);have hq0:=fq;have hq0:=hq0;intro c1 hc1 c2 hc2 c3 hc3 c4 hc4 c5 hc5 c6 hc6;refine⟨by omega, ?_⟩;intro c7 hc7;have fin:=znb h l y u d1 d0 qA qa s hy hN (by rw [hq1,hn]) (by rw [hq0,hR1,hn]);have m1:=Int.mul_ediv_add_emod (RA * 4294967296 + d0) n;rw [← hq0]at m1;have m2:=Int.emod_nonneg (RA * 4294967296 + d0) (show n≠0 by omega);have m3:=Int.emod_lt_of_pos (RA * 4294967296 + d0) (show 0 < n by omega)
       have e6:c6=(RA * 4294967296 + d0) % n:=by
        rw [hc6,hc5,hc4,hc3];simp only [Ul.u64_eq];rw [Int.mul_comm n]at m1;generalize (RA * 4294967296 + d0) % n=R2 at *;generalize qa * n=P at *;omega
       rw [hc7,Int.fdiv_eq_ediv_of_nonneg _ (Int.le_of_lt (zoa s)),e6];rw [← hn,← hR1]at fin;have l2:=zxd RA d0 n r0 r1 hd00 hd01 t0;rw [← hq0]at l2;have g2:0≤qa:=by rw [hq0];exact Int.ediv_nonneg (by omega) (by omega)
       have e2:c2=(h * 18446744073709551616 + l) / y:=by
        rw [← fin.1,hc2,hc1];simp only [Ul.u64_eq];omega
       rw [e2,fin.2]
    ·exact⟨⟨_,_,rfl,nx.1,by omega⟩,by simp only [digM];omega⟩
   ·have fq:=zlm u d1 n qa ra hd t0 (by rw [← ea,← ec];omega);intro a1 ha1 a2 ha2 a3 ha3 RA ha4;have hq1:=fq;have m1:=Int.mul_ediv_add_emod (u * 4294967296 + d1) n;rw [← hq1]at m1;have m2:=Int.emod_nonneg (u * 4294967296 + d1) (show n≠0 by omega);have m3:=Int.emod_lt_of_pos (u * 4294967296 + d1) (show 0 < n by omega)
    have hR1:RA=(u * 4294967296 + d1) % n:=by
     rw [ha4,ha3,ha2,ha1];simp only [Ul.u64_eq];rw [Int.mul_comm n]at m1;generalize (u * 4294967296 + d1) % n=R2 at *;generalize qa * n=P at *;omega
    have l1:=zxd u d1 n hu0 hun hd0 hd1 t0;rw [← hq1]at l1;have g1:0≤qa:=by rw [hq1];exact Int.ediv_nonneg (by omega) (by omega)
    have r0:0≤RA:=by omega
    have r1:RA < n:=by omega
    obtain⟨qA,hqA⟩:∃ qA,qA=qa:=⟨_,rfl⟩;rw [← hqA]at hq1 l1 g1 ⊢;clear ha1 ha2 ha3 ha4 m1 m2 m3 fq hqA;refine⟨by omega, ?_⟩;intro b1 hb1 b2 hb2 b3 hb3;have st:=zuh RA d0 n (by omega) (by omega) (by omega) (by omega) t0 t1;have f0:0≤RA / (n / 4294967296):=Int.ediv_nonneg (by omega) (by omega);have f1:RA / (n / 4294967296)≤RA:=Int.ediv_le_self _ (by omega);have f2:=Int.mul_ediv_add_emod RA (n / 4294967296);have f3:=Int.emod_nonneg RA (show n / 4294967296≠0 by omega);have f4:=Int.emod_lt_of_pos RA (show 0 < n / 4294967296 by omega);rw [Int.mul_comm (n / 4294967296)]at f2;have f5:0≤RA / (n / 4294967296) * (n / 4294967296):=Int.mul_nonneg f0 (by omega);have w1:b1=RA / (n / 4294967296):=by rw [hb1,Int.tdiv_eq_ediv_of_nonneg (by omega),Ul.u64_eq];omega
    have w2:b2=RA / (n / 4294967296) * (n / 4294967296):=by rw [hb2,w1,Ul.u64_eq];omega
    have w3:b3=RA - RA / (n / 4294967296) * (n / 4294967296):=by rw [hb3,w2,Ul.u64_eq];omega
    rw [← w3,← w1]at st;have w4:b3 < 4294967296:=by omega
    clear hb1 hb2 hb3 f0 f1 f2 f3 f4 f5 w1 w2 w3;refine⟨DigI RA d0 n,digM,⟨_,_,rfl,st,by omega⟩, ?_⟩;rintro qa ra ⟨_,_,he,hd,hr⟩;simp only [List.cons.injEq,Vc.Vl.i.injEq,and_true]at he;obtain⟨rfl,rfl⟩:=he;have hpos:=hd.pos;have hhi:=hd.hi;have qpos:0≤qa:=Int.le_trans (Int.ediv_nonneg (by omega) (by omega)) hd.lo;refine iteI (fun c1 => ?_) (fun c1 => ?_)
    ·intro qb hqb rb hrb;have nx:=zcd RA d0 n qa ra hd (by omega) (by omega) (by omega) (by omega) t0 t1 (.inl c1);have e1:qb=qa - 1:=by rw [hqb,Ul.u64_eq];omega
     have e2:rb=ra + n / 4294967296:=by rw [hrb,Ul.u64_eq];omega
     rw [← e1,← e2]at nx;clear hqb hrb;refine iteI (fun c2 => ?_) (fun c2 => ?_)
     ·have fq:=zgc RA d0 n qb rb nx.1 t0 (by omega) (by omega) nx.2.1 c2;have hq0:=fq;have hq0:=hq0;intro c1 hc1 c2 hc2 c3 hc3 c4 hc4 c5 hc5 c6 hc6;refine⟨by omega, ?_⟩;intro c7 hc7;have fin:=znb h l y u d1 d0 qA qb s hy hN (by rw [hq1,hn]) (by rw [hq0,hR1,hn]);have m1:=Int.mul_ediv_add_emod (RA * 4294967296 + d0) n;rw [← hq0]at m1;have m2:=Int.emod_nonneg (RA * 4294967296 + d0) (show n≠0 by omega);have m3:=Int.emod_lt_of_pos (RA * 4294967296 + d0) (show 0 < n by omega)
      have e6:c6=(RA * 4294967296 + d0) % n:=by
       rw [hc6,hc5,hc4,hc3];simp only [Ul.u64_eq];rw [Int.mul_comm n]at m1;generalize (RA * 4294967296 + d0) % n=R2 at *;generalize qb * n=P at *;omega
      rw [hc7,Int.fdiv_eq_ediv_of_nonneg _ (Int.le_of_lt (zoa s)),e6];rw [← hn,← hR1]at fin;have l2:=zxd RA d0 n r0 r1 hd00 hd01 t0;rw [← hq0]at l2;have g2:0≤qb:=by rw [hq0];exact Int.ediv_nonneg (by omega) (by omega)
      have e2:c2=(h * 18446744073709551616 + l) / y:=by
       rw [← fin.1,hc2,hc1];simp only [Ul.u64_eq];omega
      rw [e2,fin.2]
     ·exact⟨⟨_,_,rfl,nx.1,by omega⟩,by simp only [digM];omega⟩
    ·intro a ha b hb c hc;have pr:=zeb qa (n % 4294967296) 4294967295 4294967295 (by omega) (by omega) (by omega) (by omega);have ea:a=qa * (n % 4294967296):=by rw [ha,Ul.u64_eq];omega
     have ec:c=4294967296 * ra + d0:=by rw [hc,hb];simp only [Ul.u64_eq];omega
     clear ha hb hc;refine iteI (fun c2 => ?_) (fun c2 => ?_)
     ·intro qb hqb rb hrb;have nx:=zcd RA d0 n qa ra hd (by omega) (by omega) (by omega) (by omega) t0 t1 (.inr (by rw [← ea,← ec];exact c2));have e1:qb=qa - 1:=by rw [hqb,Ul.u64_eq];omega
      have e2:rb=ra + n / 4294967296:=by rw [hrb,Ul.u64_eq];omega
      rw [← e1,← e2]at nx;clear hqb hrb;refine iteI (fun c2 => ?_) (fun c2 => ?_)
      ·have fq:=zgc RA d0 n qb rb nx.1 t0 (by omega) (by omega) nx.2.1 c2;have hq0:=fq;have hq0:=hq0;intro c1 hc1 c2 hc2 c3 hc3 c4 hc4 c5 hc5 c6 hc6;refine⟨by omega, ?_⟩;intro c7 hc7;have fin:=znb h l y u d1 d0 qA qb s hy hN (by rw [hq1,hn]) (by rw [hq0,hR1,hn]);have m1:=Int.mul_ediv_add_emod (RA * 4294967296 + d0) n;rw [← hq0]at m1;have m2:=Int.emod_nonneg (RA * 4294967296 + d0) (show n≠0 by omega);have m3:=Int.emod_lt_of_pos (RA * 4294967296 + d0) (show 0 < n by omega)
       have e6:c6=(RA * 4294967296 + d0) % n:=by
        rw [hc6,hc5,hc4,hc3];simp only [Ul.u64_eq];rw [Int.mul_comm n]at m1;generalize (RA * 4294967296 + d0) % n=R2 at *;generalize qb * n=P at *;omega
       rw [hc7,Int.fdiv_eq_ediv_of_nonneg _ (Int.le_of_lt (zoa s)),e6];rw [← hn,← hR1]at fin;have l2:=zxd RA d0 n r0 r1 hd00 hd01 t0;rw [← hq0]at l2;have g2:0≤qb:=by rw [hq0];exact Int.ediv_nonneg (by omega) (by omega)
       have e2:c2=(h * 18446744073709551616 + l) / y:=by
        rw [← fin.1,hc2,hc1];simp only [Ul.u64_eq];omega
       rw [e2,fin.2]
      ·exact⟨⟨_,_,rfl,nx.1,by omega⟩,by simp only [digM];omega⟩
     ·have fq:=zlm RA d0 n qa ra hd t0 (by rw [← ea,← ec];omega);have hq0:=fq;have hq0:=hq0;intro c1 hc1 c2 hc2 c3 hc3 c4 hc4 c5 hc5 c6 hc6;refine⟨by omega, ?_⟩;intro c7 hc7;have fin:=znb h l y u d1 d0 qA qa s hy hN (by rw [hq1,hn]) (by rw [hq0,hR1,hn]);have m1:=Int.mul_ediv_add_emod (RA * 4294967296 + d0) n;rw [← hq0]at m1;have m2:=Int.emod_nonneg (RA * 4294967296 + d0) (show n≠0 by omega);have m3:=Int.emod_lt_of_pos (RA * 4294967296 + d0) (show 0 < n by omega)
      have e6:c6=(RA * 4294967296 + d0) % n:=by
       rw [hc6,hc5,hc4,hc3];simp only [Ul.u64_eq];rw [Int.mul_comm n]at m1;generalize (RA * 4294967296 + d0) % n=R2 at *;generalize qa * n=P at *;omega
      rw [hc7,Int.fdiv_eq_ediv_of_nonneg _ (Int.le_of_lt (zoa s)),e6];rw [← hn,← hR1]at fin;have l2:=zxd RA d0 n r0 r1 hd00 hd01 t0;rw [← hq0]at l2;have g2:0≤qa:=by rw [hq0];exact Int.ediv_nonneg (by omega) (by omega)
      have e2:c2=(h * 18446744073709551616 + l) / y:=by
       rw [← fin.1,hc2,hc1];simp only [Ul.u64_eq];omega
      rw [e2,fin.2]
end Go.Proofs.YtkjmhcejdiglfacGreatDoor
set_option linter.unusedVariables false
namespace Go.Proofs.YtkjmhcejdiglfacGreatDoor
open Go Go.RowKit Ul Vc
attribute [local irreducible] Go.Calls
theorem zgaa(n:Bool)(h l:Int)(w:World)(h0:0≤h)(h1:h < 4294967296)(l0:0≤l)(l1:l≤18446744073709551615) :
  Calls Tryz.prog 57 #[.agg #[.bool n,.int .u64 h,.int .u64 l],.int .u64 32] w (Vc.Ret (.agg #[.bool n,.int .u64 (h * 4294967296 + l / 4294967296),.int .u64 (l * 4294967296 % 18446744073709551616)]) w):=by
 refine zng _ _ _ w _ ?_;rintro x2 h2 x3 h3 x4 h4 x5 h5;have e2:x2=h * 2 ^ 32:=by rw [h2,Ul.u64_eq];omega
 have e4:x4=x2 + x3:=by rw [h4];exact zuba _ _ 32 (by decide) h e2 h0 (by omega) (by omega) (by omega)
 refine zjt rfl ?_ ?_
 ·rw [e4,e2,h3];omega
 ·rw [h5,Ul.u64_eq]
theorem zhea(n:Bool)(m:Int)(w:World)(h0:0≤m)(h1:m < 79228162514264337593543950336):Calls Tryz.prog 57 #[VB n m,.int .u64 32] w (Vc.Ret (VB n (m * 4294967296)) w):=by
 refine Vc.Ret.as (zgaa n _ _ w (by unfold hiW;omega) (by unfold hiW;omega) (zrr m).1 (zrr m).2) (zjt rfl ?_ ?_) <;> (try unfold hiW) <;> (try unfold loW) <;> omega
def qdn(n:Bool)(m y:Int):Int:=if n then -((-m) / y)else m / y
def qup(n:Bool)(m y:Int):Int:=if n then m / y else -((-m) / y)
theorem ziea(m y:Int)(h0:0≤m)(y0:0 < y):-((-m) / y)=if m % y=0 then m / y else m / y + 1:=(zgt m y h0 y0).2
theorem q_sv(n:Bool)(m y:Int):sv n (qdn n m y)=fl (sv n m) y∧sv n (qup n m y)=ce (sv n m) y:=by
 unfold sv qdn qup fl ce;cases n <;> simp
theorem zsu(n k:Bool)(m y:Int)(w:World)(h0:0≤m)(h1:m < 340282366920938463463374607431768211456)(y0:0 < y)(y1:y≤18446744073709551615) :
  Calls Tryz.prog 32 #[VB n m,.agg #[.bool k,.int .u64 0,.int .u64 y]] w (Vc.Ret (.tuple #[VB n (qdn n m y),VB n (qup n m y)]) w):=by
 have hl:=zrr m;have hh:=hi_u m ⟨h0,h1⟩;refine zbn _ _ _ _ _ _ w _ ?_;refine iteI (fun _ => ?_) (fun h=>absurd rfl h);refine⟨by omega, ?_⟩;intro a ha;refine⟨by omega, ?_⟩;intro b hb;have q0:0≤hiW m / y:=Int.ediv_nonneg hh.1 (by omega);have q1:hiW m / y≤hiW m:=Int.ediv_le_self _ hh.1;have r0:=Int.emod_nonneg (hiW m) (show y≠0 by omega);have r1:=Int.emod_lt_of_pos (hiW m) y0;have ea:a=hiW m / y:=by rw [ha,Int.tdiv_eq_ediv_of_nonneg hh.1,Ul.u64_eq];omega
 have eb:b=hiW m % y:=by rw [hb,Int.tmod_eq_emod_of_nonneg hh.1]
 subst ea eb;clear ha hb
 (repeat apply Exists.intro);refine And.intro (fun _ _=>zxx _ _ _ _ r0 r1 y1 hl.1 hl.2) ?_
 have em:m=hiW m * 18446744073709551616 + loW m:=(zpfa m).symm;have dm:=Int.mul_ediv_add_emod (hiW m) y
 have eN:m=(hiW m % y * 18446744073709551616 + loW m) + y * (hiW m / y * 18446744073709551616):=by
  rw [← Int.mul_assoc];omega
 have e1:m / y=(hiW m % y * 18446744073709551616 + loW m) / y + hiW m / y * 18446744073709551616:=by
  conv=>lhs;rw [eN]
  exact Int.add_mul_ediv_left _ _ (by omega)
 have e2:m % y=(hiW m % y * 18446744073709551616 + loW m) % y:=by
  conv=>lhs;rw [eN]
  exact Int.add_mul_emod_self_left _ _ _
 have lo0:0≤(hiW m % y * 18446744073709551616 + loW m) / y:=Int.ediv_nonneg (by omega) (by omega)
 have lo1:(hiW m % y * 18446744073709551616 + loW m) / y < 18446744073709551616:=by
  rw [Int.ediv_lt_iff_lt_mul y0];omega
 have rr0:=Int.emod_nonneg (hiW m % y * 18446744073709551616 + loW m) (show y≠0 by omega);have eh:hiW (m / y)=hiW m / y:=by unfold hiW at *;omega
 have el:loW (m / y)=(hiW m % y * 18446744073709551616 + loW m) / y:=by rw [e1];generalize (hiW m % y * 18446744073709551616 + loW m) / y=L at *;generalize hiW m / y=H at *;unfold loW;omega
 rw [← el,← eh,← e2]
 (repeat apply Exists.intro);refine And.intro (fun _ _=>zru _ _ _ _) ?_
 have q2:=Int.ediv_nonneg h0 (show 0≤y by omega);have q3:m / y≤m:=Int.ediv_le_self _ h0;have ce1:=ziea m y h0 y0;refine iteI (fun hz => ?_) (fun hz => ?_)
 ·have hz:m % y=0:=by simpa using hz
  rw [if_pos hz]at ce1;refine iteI (fun hn => ?_) (fun hn => ?_)
  ·rw [hn];unfold qdn qup;rw [if_pos rfl,if_pos rfl,ce1]
  ·have hn:n=false:=by simpa using hn
   rw [hn];unfold qdn qup;rw [if_neg (by decide),if_neg (by decide),ce1]
 ·have hz:¬ m % y=0:=by simpa using hz
  rw [if_neg hz]at ce1
  have q4:m / y + 1 < 340282366920938463463374607431768211456:=by
   have h5:y * (m / y) + m % y=m:=Int.mul_ediv_add_emod m y;have h6:=Int.emod_nonneg m (show y≠0 by omega);have h7:1 * (m / y)≤y * (m / y):=Int.mul_le_mul_of_nonneg_right (by omega) q2;omega
  have p:=zeaa false false (m / y) 1;have pn:plN false (m / y) false 1=false:=rfl;have pm:plM false (m / y) false 1=m / y + 1:=rfl;rw [pn,pm]at p
  (repeat apply Exists.intro);refine And.intro (fun _ _=>p _ ⟨q2,by omega⟩ ⟨by decide,by decide⟩ q4) ?_
  refine iteI (fun hn => ?_) (fun hn => ?_)
  ·rw [hn];unfold qdn qup;rw [if_pos rfl,if_pos rfl,ce1]
  ·have hn:n=false:=by simpa using hn
   rw [hn];unfold qdn qup;rw [if_neg (by decide),if_neg (by decide),ce1]
theorem zzv(a b:Int)(w:World)(ha:I64 a)(hb:I64 b)(h0:b≠0) :
  Calls Tryz.prog 33 #[.int .i64 a,.int .i64 b] w (Vc.Ret (.tuple #[VB (decide (a < 0) != decide (b < 0)) (qdn (decide (a < 0) != decide (b < 0)) (absI a * 4294967296) (absI b)),VB (decide (a < 0) != decide (b < 0)) (qup (decide (a < 0) != decide (b < 0)) (absI a * 4294967296) (absI b))]) w):=by
 have xa:=zhf a ha.1 ha.2;have xb:=zhf b hb.1 hb.2;have xb0:0 < absI b:=by unfold absI;split <;> omega
 have eb:=zsr (absI b) (by omega) (by omega);refine zep _ _ w _ ?_
 (repeat apply Exists.intro);refine And.intro (fun _ _=>zit _ _ ha) ?_
 (repeat apply Exists.intro);refine And.intro (fun _ _=>zhea _ _ _ (by omega) (by omega)) ?_
 (repeat apply Exists.intro);refine And.intro (fun _ _=>zit _ _ hb) ?_
 rw [eb.1,eb.2]
 (repeat apply Exists.intro);refine And.intro (fun _ _=>zsu _ _ _ _ _ (by omega) (by omega) xb0 (by omega)) ?_
 rfl
theorem r_sv(a b:Int)(h0:b≠0):fl (sv (decide (a < 0) != decide (b < 0)) (absI a * 4294967296)) (absI b)=rdn a b∧ce (sv (decide (a < 0) != decide (b < 0)) (absI a * 4294967296)) (absI b)=rup a b:=by
 unfold rdn rup absI sv;by_cases sa:a < 0 <;> by_cases sb:b < 0 <;> simp [sa,sb,Int.neg_mul]
theorem zuca(n:Bool)(m y:Int)(h0:0≤m)(y0:0 < y):0≤qdn n m y∧0≤qup n m y∧qdn n m y≤m + 1∧qup n m y≤m + 1:=by
 have c:=ziea m y h0 y0;have q2:=Int.ediv_nonneg h0 (show 0≤y by omega);have q3:m / y≤m:=Int.ediv_le_self _ h0;unfold qdn qup;cases n <;> simp only [Bool.false_eq_true,if_false,if_true] <;> rw [c] <;> split <;> omega
end Go.Proofs.YtkjmhcejdiglfacGreatDoor
set_option linter.unusedVariables false
namespace Go.Proofs.YtkjmhcejdiglfacGreatDoor
open Go Go.RowKit Ul Vc
attribute [local irreducible] Go.Calls
def One1(x:Int):Prop := -4294967296≤x∧x≤4294967296
theorem One1.i64{x:Int}(h:One1 x):I64 x:=by obtain⟨h1,h2⟩:=h;constructor <;> omega
end Go.Proofs.YtkjmhcejdiglfacGreatDoor
set_option linter.unusedVariables false
namespace Go.Proofs.YtkjmhcejdiglfacGreatDoor
open Go Go.RowKit Ul Vc
attribute [local irreducible] Go.Calls
theorem zrfa{b:Nat}{p q r s:Bool × Int}{t:TypeId}{w:World}(hp:0≤p.2)(hq:0≤q.2)(hr:0≤r.2)(hs:0≤s.2)
  (h:w.heap[b]? = some (.cells #[.bool p.1,.int .u64 (hiW p.2),.int .u64 (loW p.2),.bool q.1,.int .u64 (hiW q.2),.int .u64 (loW q.2),.bool r.1,.int .u64 (hiW r.2),.int .u64 (loW r.2),.bool s.1,.int .u64 (hiW s.2),.int .u64 (loW s.2)] t)) :
  Calls Tryz.prog 27 #[.slice (some ⟨b,0,none⟩) 4 4] w (Vc.Ret (.tuple #[VP (bmin (bmin (bmin p q) r) s),VP (bmax (bmax (bmax p q) r) s)]) w):=by
 refine zdn (b,0) w _ ?_
 refine⟨p.1,by simp [World.cell?,h],hiW p.2,by simp [World.cell?,h],loW p.2,by simp [World.cell?,h],p.1,by simp [World.cell?,h],hiW p.2,by simp [World.cell?,h],loW p.2,by simp [World.cell?,h],
  q.1,by simp [World.cell?,h],hiW q.2,by simp [World.cell?,h],loW q.2,by simp [World.cell?,h], ?_⟩
 have r1:w.cell? ⟨b,0 + (Int.toNat 2) * 3 + 0,none⟩=some (.bool r.1):=by simp [World.cell?,h]
 have r2:w.cell? ⟨b,0 + (Int.toNat 2) * 3 + 1,none⟩=some (.int .u64 (hiW r.2)):=by simp [World.cell?,h]
 have r3:w.cell? ⟨b,0 + (Int.toNat 2) * 3 + 2,none⟩=some (.int .u64 (loW r.2)):=by simp [World.cell?,h]
 have s1:w.cell? ⟨b,0 + (Int.toNat 3) * 3 + 0,none⟩=some (.bool s.1):=by simp [World.cell?,h]
 have s2:w.cell? ⟨b,0 + (Int.toNat 3) * 3 + 1,none⟩=some (.int .u64 (hiW s.2)):=by simp [World.cell?,h]
 have s3:w.cell? ⟨b,0 + (Int.toNat 3) * 3 + 2,none⟩=some (.int .u64 (loW s.2)):=by simp [World.cell?,h]
 clear h
 (repeat apply Exists.intro);refine And.intro (fun _ _=>zcc q p _ hq hp) ?_
 refine iteI (fun c1 => ?_) (fun c1 => ?_)
 all_goals
  (repeat apply Exists.intro);refine And.intro (fun _ _=>zcc p q _ hp hq) ?_
  refine iteI (fun c2 => ?_) (fun c2 => ?_)
  all_goals
   refine⟨_,r1,_,r2,_,r3, ?_⟩
   (repeat apply Exists.intro);refine And.intro (fun _ _=>zcc r _ _ hr (by assumption)) ?_
   refine iteI (fun c3 => ?_) (fun c3 => ?_)
   all_goals
    (repeat apply Exists.intro);refine And.intro (fun _ _=>zcc _ r _ (by assumption) hr) ?_
    refine iteI (fun c4 => ?_) (fun c4 => ?_)
    all_goals
     refine⟨_,s1,_,s2,_,s3, ?_⟩
     (repeat apply Exists.intro);refine And.intro (fun _ _=>zcc s _ _ hs (by assumption)) ?_
     refine iteI (fun c5 => ?_) (fun c5 => ?_)
     all_goals
      (repeat apply Exists.intro);refine And.intro (fun _ _=>zcc _ s _ (by assumption) hs) ?_
      refine iteI (fun c6 => ?_) (fun c6 => ?_)
      all_goals
       simp only [decide_eq_true_eq]at c1 c2 c3 c4 c5 c6;simp only [bmin,bmax,c1,c2,c3,c4,c5,c6,if_true,if_false]
theorem zjk(a b:Int)(w:World)(ha:I64 a)(hb:I64 b) :
  Calls Tryz.prog 30 #[.int .i64 a,.int .i64 b] w (Vc.Ret (VB (decide (a < 0) != decide (b < 0)) (absI a * absI b)) w):=by
 refine zgp _ _ w _ ?_
 (repeat apply Exists.intro);refine And.intro (fun _ _=>zpg _ _ _ ha hb) ?_
 rfl
theorem zbo(n:Bool)(m:Int)(w:World)(h0:0≤m)(h1:m < 340282366920938463463374607431768211456) :
  Calls Tryz.prog 32 #[VB n m,VB (decide ((4294967296:Int) < 0)) (absI 4294967296)] w (Vc.Ret (.tuple #[VB n (qdn n m 4294967296),VB n (qup n m 4294967296)]) w) :=
 zsu n _ m 4294967296 w h0 h1 (by decide) (by decide)
theorem zkk(a b c d:Int)(w:World)(ha:I64 a)(hb:I64 b)(hc:I64 c)(hd:I64 d):Calls Tryz.prog 11 #[Vc.S a b,Vc.S c d] w (Vc.Ret (Vc.RV (mul a b c d)) w):=by
 refine zet _ _ _ _ w _ ?_;refine⟨_,fun _ _ _ hm=>zhp hm.1.2, ?_⟩;refine iteI (fun h => ?_) (fun h => ?_)
 ·have d1:=zyb ha hc;have d2:=zyb ha hd;have d3:=zyb hb hc;have d4:=zyb hb hd
  (repeat apply Exists.intro);refine And.intro (fun _ _=>zjk _ _ _ ha hc) ?_
  (repeat apply Exists.intro);refine And.intro (fun _ _=>zjk _ _ _ ha hd) ?_
  (repeat apply Exists.intro);refine And.intro (fun _ _=>zjk _ _ _ hb hc) ?_
  (repeat apply Exists.intro);refine And.intro (fun _ _=>zjk _ _ _ hb hd) ?_
  obtain⟨p,hp⟩:∃ p:Bool × Int,p=(decide (a < 0) != decide (c < 0),absI a * absI c):=⟨_,rfl⟩;obtain⟨q,hq⟩:∃ p:Bool × Int,p=(decide (a < 0) != decide (d < 0),absI a * absI d):=⟨_,rfl⟩;obtain⟨r,hr⟩:∃ p:Bool × Int,p=(decide (b < 0) != decide (c < 0),absI b * absI c):=⟨_,rfl⟩;obtain⟨s,hs⟩:∃ p:Bool × Int,p=(decide (b < 0) != decide (d < 0),absI b * absI d):=⟨_,rfl⟩;have vp:svp p=a * c:=by rw [hp];exact zzn a c
  have vq:svp q=a * d:=by rw [hq];exact zzn a d
  have vr:svp r=b * c:=by rw [hr];exact zzn b c
  have vs:svp s=b * d:=by rw [hs];exact zzn b d
  have bp:0≤p.2∧p.2≤85070591730234615865843651857942052864:=by rw [hp];exact d1
  have bq:0≤q.2∧q.2≤85070591730234615865843651857942052864:=by rw [hq];exact d2
  have br:0≤r.2∧r.2≤85070591730234615865843651857942052864:=by rw [hr];exact d3
  have bs:0≤s.2∧s.2≤85070591730234615865843651857942052864:=by rw [hs];exact d4
  have bmn:=zkd (zkd (zkd bp bq) br) bs;have bmx:=zld (zld (zld bp bq) br) bs;refine⟨_,_,_,_,_,_,fun _ _ _ hm=>zrfa (p:=p) (q:=q) (r:=r) (s:=s) bp.1 bq.1 br.1 bs.1 (by subst hp hq hr hs;exact hm.1.2), ?_⟩;have e1:svp (bmin (bmin (bmin p q) r) s)=min4 (a * c) (a * d) (b * c) (b * d):=by rw [zje,zje,zje,vp,vq,vr,vs];rfl
  have e2:svp (bmax (bmax (bmax p q) r) s)=max4 (a * c) (a * d) (b * c) (b * d):=by rw [zke,zke,zke,vp,vq,vr,vs];rfl
  generalize bmin (bmin (bmin p q) r) s=mn at *;generalize bmax (bmax (bmax p q) r) s=mx at *
  (repeat apply Exists.intro);refine And.intro (fun _ _=>zit 4294967296 _ (by constructor <;> decide)) ?_
  (repeat apply Exists.intro);refine And.intro (fun _ _=>zbo _ _ _ bmn.1 (by omega)) ?_
  (repeat apply Exists.intro);refine And.intro (fun _ _=>zbo _ _ _ bmx.1 (by omega)) ?_
  (repeat apply Exists.intro);refine And.intro (fun _ _=>zkp _ _ _ _ _ (zuca _ _ _ bmn.1 (by decide)).1 (zuca _ _ _ bmx.1 (by decide)).2.1) ?_
  rw [(q_sv _ _ _).1,(q_sv _ _ _).2];unfold svp at e1 e2;rw [e1,e2];unfold mul;rw [if_pos (zux h)]
 ·unfold mul;rw [if_neg (zlp h).1,(zlp h).2]
end Go.Proofs.YtkjmhcejdiglfacGreatDoor
set_option linter.unusedVariables false
namespace Vc
open Go Go.RowKit
theorem zjea{lo b code n base sz k:Nat}{xs:List Value}{t:TypeId}{w:World}(h:RowOk lo b code n base xs sz t w)(hk:xs.length=k * sz)(k0:0 < k)(hz:0 < sz:=by decide) :
  ∃ m:Nat,ownV b code n base=.slice (some ⟨b,0,none⟩) k m∧k≤m∧∀ j u,xs[j]? = some u→w.cell? ⟨b,j,none⟩=some u:=by
 obtain⟨h1,h2,h3⟩:=RowOkP.old h hz;have hn:n=k:=Nat.eq_of_mul_eq_mul_right h2 (by rw [← h1,hk]);subst hn;rcases h3 with ⟨_,h0⟩ | ⟨c1,c2,c3,c4,c5,cur,c6,c7,c8⟩
 ·omega
 ·subst c2;refine⟨code - 1, ?_,c4,fun j u hj => ?_⟩
  ·unfold ownV;rw [if_neg (by omega)]
  ·have hlt:j < n * sz:=by
    have:=(List.getElem?_eq_some_iff.1 hj).1
    omega
   rw [← c8,List.getElem?_take,if_pos hlt]at hj;simp only [World.cell?,c6];simpa using hj
end Vc
namespace Go.Proofs.YtkjmhcejdiglfacGreatDoor
open Go Go.RowKit Ul Vc
attribute [local irreducible] Go.Calls
def c3(p:Bool × Int):List Value := [.bool p.1,.int .u64 (hiW p.2),.int .u64 (loW p.2)]
theorem zvca{ps:List (Bool × Int)}:∀ {i:Nat} {q:Bool × Int} {o:Nat},ps[i]? = some q→o < 3→(ps.flatMap c3)[i * 3 + o]? = (c3 q)[o]? := by
  induction ps with
  | nil=>intro i q o h;simp at h
  | cons p ps ih =>
    intro i q o h ho;rw [List.flatMap_cons];have hl:(c3 p).length=3:=rfl;cases i with
    | zero =>
      simp only [List.getElem?_cons_zero,Option.some.injEq]at h;subst h;rw [List.getElem?_append_left (by omega)];simp
    | succ i =>
      rw [List.getElem?_append_right (by omega),← ih (by simpa using h) ho];congr 1;omega
def upTo(n:Int):List Vc.Vl→Nat
 | .i x::_=>(n - x).toNat
 | _=>0
theorem zur{α β:Type}(f:β→α→β)(b:β){l:List α}{i:Nat}{x:α}(h:l[i]? = some x):(l.take (i + 1)).foldl f b=f ((l.take i).foldl f b) x:=by
 rw [List.take_add_one,h,List.foldl_append];rfl
theorem zlt{f:Bool × Int→Bool × Int→Bool × Int}(hf:∀ p q,f p q=p∨f p q=q):∀ (l:List (Bool × Int)) (p:Bool × Int),(∀ q∈p::l,0≤q.2)→0≤(l.foldl f p).2
  | [],p,h=>h p (by simp)
  | q::l,p,h=>by
    rw [List.foldl_cons];refine zlt hf l (f p q) fun r hr => ?_;rcases List.mem_cons.1 hr with rfl | hr
    · rcases hf p q with e | e <;> rw [e] <;> exact h _ (by simp)
    · exact h r (by simp [hr])
theorem zwca(p q:Bool × Int):bmin p q=p∨bmin p q=q:=by unfold bmin;split <;> simp
theorem zxca(p q:Bool × Int):bmax p q=p∨bmax p q=q:=by unfold bmax;split <;> simp
theorem zyx{b m:Nat}(p:Bool × Int)(ps:List (Bool × Int)){w:World}(hnn:∀ q∈p::ps,0≤q.2)(hm:ps.length + 1≤m)(hmm:ps.length < 1000000)(h:∀ j u,((p::ps).flatMap c3)[j]? = some u→w.cell? ⟨b,j,none⟩=some u) :
  Calls Tryz.prog 27 #[.slice (some ⟨b,0,none⟩) (ps.length + 1) m] w (Vc.Ret (.tuple #[VP (ps.foldl bmin p),VP (ps.foldl bmax p)]) w):=by
 have g:∀ (i:Nat) (q:Bool × Int),(p::ps)[i]? = some q→w.cell? ⟨b,0 + i * 3 + 0,none⟩=some (.bool q.1)∧w.cell? ⟨b,0 + i * 3 + 1,none⟩=some (.int .u64 (hiW q.2))∧w.cell? ⟨b,0 + i * 3 + 2,none⟩=some (.int .u64 (loW q.2)):=fun i q hq=>by
  simp only [Nat.zero_add];exact⟨h _ _ (zvca hq (by decide)),h _ _ (zvca hq (by decide)),h _ _ (zvca hq (by decide))⟩
 have g0:=g 0 p rfl;refine zen (b,0) (((ps.length + 1:Nat):Nat):Int) (m:Int) w _ ?_;refine⟨by omega,p.1,g0.1,hiW p.2,g0.2.1,loW p.2,g0.2.2,by omega,p.1,g0.1,hiW p.2,g0.2.1,loW p.2,g0.2.2,by omega,by omega,by omega,by omega, ?_⟩;rintro x6 hx6 x7 hx7;have ex:x6=(ps.length:Int):=by omega
 refine iteI (fun hc => ?_) (fun hc => ?_)
 ·refine⟨by omega, ?_⟩
  refine⟨fun l=>∃ i:Nat,i≤ps.length∧l=[.i (i:Int),.b ((ps.take i).foldl bmin p).1,.i (hiW ((ps.take i).foldl bmin p).2),.i (loW ((ps.take i).foldl bmin p).2),.b ((ps.take i).foldl bmax p).1,.i (hiW ((ps.take i).foldl bmax p).2),.i (loW ((ps.take i).foldl bmax p).2)],
   upTo (ps.length:Int),⟨0,by omega,rfl⟩, ?_⟩
  rintro x8 b2 x9 x10 b3 x11 x12 ⟨i,hi0,hl⟩;simp only [List.cons.injEq,Vc.Vl.i.injEq,Vc.Vl.b.injEq,and_true]at hl;obtain⟨rfl,rfl,rfl,rfl,rfl,rfl,rfl⟩:=hl;refine iteI (fun hi1 => ?_) (fun hi1 => ?_)
  ·have hq:=List.getElem?_eq_getElem (l:=ps) (i:=i) (by omega);generalize hqe:ps[i]=q at hq
   have n1:=zlt zwca (ps.take i) p fun r hr=>hnn r (by
    rcases List.mem_cons.1 hr with rfl | hr
    ·simp
    ·exact List.mem_cons_of_mem _ (List.mem_of_mem_take hr))
   have n2:=zlt zxca (ps.take i) p fun r hr=>hnn r (by
    rcases List.mem_cons.1 hr with rfl | hr
    ·simp
    ·exact List.mem_cons_of_mem _ (List.mem_of_mem_take hr))
   have nq:0≤q.2:=hnn q (List.mem_cons_of_mem _ (List.mem_of_getElem? hq));have g0:=g (i + 1) q (by simpa using hq);have t1:=zur bmin p hq;have t2:=zur bmax p hq;generalize (ps.take i).foldl bmin p=lo at *;generalize (ps.take i).foldl bmax p=hi at *;have e0:Int.toNat (1 + (i:Int))=i + 1:=by omega
   refine⟨by omega,by omega, ?_⟩;rintro _ rfl;rw [e0];refine⟨_,g0.1,_,g0.2.1,_,g0.2.2, ?_⟩
   (repeat apply Exists.intro);refine And.intro (fun _ _=>zcc q lo _ nq n1) ?_
   refine iteI (fun c1 => ?_) (fun c1 => ?_)
   all_goals
    (repeat apply Exists.intro);refine And.intro (fun _ _=>zcc hi q _ n2 nq) ?_
    refine iteI (fun c2 => ?_) (fun c2 => ?_)
    all_goals
     simp only [decide_eq_true_eq]at c1 c2;rintro _ rfl;have ew:IntKind.i64.wrap ((i:Int) + 1)=((i + 1:Nat):Int):=by rw [Vc.zj (by omega)];omega
     rw [ew];refine⟨⟨i + 1,by omega, ?_⟩, ?_⟩
     ·rw [t1,t2];simp only [bmin,bmax,c1,c2,if_true,if_false]
     ·simp only [upTo];omega
  ·have:ps.take i=ps:=List.take_of_length_le (by omega)
   rw [this]
 ·refine⟨by omega, ?_⟩;have h0:ps=[]:=List.eq_nil_of_length_eq_zero (by omega);refine⟨fun l=>l=[.i 0,.b p.1,.i (hiW p.2),.i (loW p.2),.b p.1,.i (hiW p.2),.i (loW p.2)],fun _=>0,rfl, ?_⟩;rintro x8 b2 x9 x10 b3 x11 x12 hl;simp only [List.cons.injEq,Vc.Vl.i.injEq,Vc.Vl.b.injEq,and_true]at hl;obtain⟨rfl,rfl,rfl,rfl,rfl,rfl,rfl⟩:=hl;refine iteI (fun hi1 => ?_) (fun hi1 => ?_)
  ·subst h0;simp at ex;omega
  ·subst h0;rfl
theorem zmp{lo b code n base:Nat}(p:Bool × Int)(ps:List (Bool × Int)){t:TypeId}{w:World}(hnn:∀ q∈p::ps,0≤q.2)(hmm:ps.length < 1000000)(h:RowOk lo b code n base ((p::ps).flatMap c3) 3 t w) :
  Calls Tryz.prog 27 #[ownV b code n base] w (Vc.Ret (.tuple #[VP (ps.foldl bmin p),VP (ps.foldl bmax p)]) w):=by
 have hlen:∀ l:List (Bool × Int),(l.flatMap c3).length=l.length * 3:=by
  intro l
  induction l with
  | nil=>rfl
  | cons a l ih=>rw [List.flatMap_cons,List.length_append,ih];simp [c3];omega
 obtain⟨m,h1,h2,h3⟩:=zjea (k:=ps.length + 1) h (by rw [hlen];rfl) (by omega);rw [h1];exact zyx p ps hnn h2 hmm h3
def qd(a c:Int):Bool × Int:=(decide (a < 0) != decide (c < 0),qdn (decide (a < 0) != decide (c < 0)) (absI a * 4294967296) (absI c))
def qu(a c:Int):Bool × Int:=(decide (a < 0) != decide (c < 0),qup (decide (a < 0) != decide (c < 0)) (absI a * 4294967296) (absI c))
theorem zvr(a c:Int)(h0:c≠0):svp (qd a c)=rdn a c∧svp (qu a c)=rup a c:=by
 unfold svp qd qu;rw [(q_sv _ _ _).1,(q_sv _ _ _).2];exact r_sv a c h0
theorem zwr(a c:Int)(ha:I64 a)(h0:c≠0):(0≤(qd a c).2∧(qd a c).2≤39614081257132168796771975169)∧(0≤(qu a c).2∧(qu a c).2≤39614081257132168796771975169):=by
 have xa:=zhf a ha.1 ha.2;have xc:0 < absI c:=by unfold absI;split <;> omega
 have q:=zuca (decide (a < 0) != decide (c < 0)) (absI a * 4294967296) (absI c) (by omega) xc;unfold qd qu;constructor <;> constructor <;> simp only <;> omega
theorem zdd(a c:Int)(w:World)(ha:I64 a)(hc:I64 c)(h0:c≠0):Calls Tryz.prog 33 #[.int .i64 a,.int .i64 c] w (Vc.Ret (.tuple #[VP (qd a c),VP (qu a c)]) w):=zzv a c w ha hc h0
theorem znp(a b c d:Int)(w:World)(ha:I64 a)(hb:I64 b)(hc:I64 c)(hd:I64 d):Calls Tryz.prog 12 #[Vc.S a b,Vc.S c d] w (Vc.Ret (Vc.RV (div a b c d)) w):=by
 have body:(ok a b && ok c d)=true→¬ (c≤0∧0≤d)→c≠0∧d≠0:=by
  intro h1 h2;simp only [ok,Bool.and_eq_true,decide_eq_true_eq]at h1;omega
 refine zft _ _ _ _ w _ ?_;refine⟨_,fun _ _ _ hm=>zhp hm.1.2, ?_⟩;refine iteI (fun h => ?_) (fun h => ?_)
 ·have hok:=zux h
  have go:¬ (c≤0∧0≤d)→div a b c d=fit (svp (bmin (bmin (bmin (qd a c) (qd a d)) (qd b c)) (qd b d))) (svp (bmax (bmax (bmax (qu a c) (qu a d)) (qu b c)) (qu b d))):=by
   intro h2;obtain⟨c0,d0⟩:=body hok h2;rw [zje,zje,zje,zke,zke,zke,(zvr a c c0).1,(zvr a d d0).1,(zvr b c c0).1,(zvr b d d0).1,(zvr a c c0).2,(zvr a d d0).2,(zvr b c c0).2,(zvr b d d0).2];unfold div;rw [if_pos hok,if_neg h2];rfl
  refine iteI (fun h1 => ?_) (fun h1 => ?_)
  ·refine iteI (fun h2 => ?_) (fun h2 => ?_)
   ·unfold div;rw [if_pos hok,if_pos ⟨h1,h2⟩]
   ·have hnz:¬ (c≤0∧0≤d):=fun hx=>h2 hx.2;obtain⟨c0,d0⟩:=body hok hnz;rw [go hnz];have b1:=zwr a c ha c0;have b2:=zwr a d ha d0;have b3:=zwr b c hb c0;have b4:=zwr b d hb d0
    (repeat apply Exists.intro);refine And.intro (fun _ _=>zdd _ _ _ ha hc c0) ?_
    (repeat apply Exists.intro);refine And.intro (fun _ _=>zdd _ _ _ ha hd d0) ?_
    (repeat apply Exists.intro);refine And.intro (fun _ _=>zdd _ _ _ hb hc c0) ?_
    (repeat apply Exists.intro);refine And.intro (fun _ _=>zdd _ _ _ hb hd d0) ?_
    refine⟨_,_,_,_,_,_,fun _ _ _ hm=>zmp (qd a c) [qd a d,qd b c,qd b d] (by simpa using ⟨b1.1.1,b2.1.1,b3.1.1,b4.1.1⟩) (by simp) hm.1, ?_⟩;refine⟨_,_,_,_,_,_,fun _ _ _ hm=>zmp (qu a c) [qu a d,qu b c,qu b d] (by simpa using ⟨b1.2.1,b2.2.1,b3.2.1,b4.2.1⟩) (by simp) hm.1, ?_⟩;have m1:=zkd (zkd (zkd b1.1 b2.1) b3.1) b4.1;have m2:=zld (zld (zld b1.2 b2.2) b3.2) b4.2
    (repeat apply Exists.intro);refine And.intro (fun _ _=>zkp _ _ _ _ _ m1.1 m2.1) ?_
    rfl
  ·have hnz:¬ (c≤0∧0≤d):=fun hx=>h1 hx.1;obtain⟨c0,d0⟩:=body hok hnz;rw [go hnz];have b1:=zwr a c ha c0;have b2:=zwr a d ha d0;have b3:=zwr b c hb c0;have b4:=zwr b d hb d0
   (repeat apply Exists.intro);refine And.intro (fun _ _=>zdd _ _ _ ha hc c0) ?_
   (repeat apply Exists.intro);refine And.intro (fun _ _=>zdd _ _ _ ha hd d0) ?_
   (repeat apply Exists.intro);refine And.intro (fun _ _=>zdd _ _ _ hb hc c0) ?_
   (repeat apply Exists.intro);refine And.intro (fun _ _=>zdd _ _ _ hb hd d0) ?_
   refine⟨_,_,_,_,_,_,fun _ _ _ hm=>zmp (qd a c) [qd a d,qd b c,qd b d] (by simpa using ⟨b1.1.1,b2.1.1,b3.1.1,b4.1.1⟩) (by simp) hm.1, ?_⟩;refine⟨_,_,_,_,_,_,fun _ _ _ hm=>zmp (qu a c) [qu a d,qu b c,qu b d] (by simpa using ⟨b1.2.1,b2.2.1,b3.2.1,b4.2.1⟩) (by simp) hm.1, ?_⟩;have m1:=zkd (zkd (zkd b1.1 b2.1) b3.1) b4.1;have m2:=zld (zld (zld b1.2 b2.2) b3.2) b4.2
   (repeat apply Exists.intro);refine And.intro (fun _ _=>zkp _ _ _ _ _ m1.1 m2.1) ?_
   rfl
 ·unfold div;rw [if_neg (zlp h).1,(zlp h).2]
end Go.Proofs.YtkjmhcejdiglfacGreatDoor
