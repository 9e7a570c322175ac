import Derived.Test.YtpfgephckjpcjaaGreatDoorGq
import Derived.Test.YtpfgephckjpcjaaGreatDoorFvA
set_option linter.unusedVariables false
set_option linter.unusedSimpArgs false
namespace Go.Proofs.YtpfgephckjpcjaaGreatDoor
open Go Go.RowKit Vc
abbrev Bd(a:Int):Prop := -4611686018427387904<=a/\a<=4611686018427387904
def iy(n d k s t:Int):Bool :=
 decide (-4611686018427387904<=n) && decide (n<=4611686018427387904) && decide (1<=d) && decide (d<=4611686018427387904) && decide ((Int.gcd n d:Nat)=1) &&
 (decide (-9<=k) && decide (k<=9) && decide (-9<=s) && decide (s<=9) && decide (-9<=t) && decide (t<=9))
theorem Ro(a b:Int):Int.gcd b (a.tmod b)=Int.gcd a b:=by
 simp only [Int.gcd,Int.natAbs_tmod];rw [Nat.gcd_comm a.natAbs,Nat.gcd_rec b.natAbs a.natAbs,Nat.gcd_comm]
theorem Fv{a b:Int}(ha:Bd a)(hb:Bd b):Bd (a.tmod b)/\(b≠0->(a.tmod b).natAbs<b.natAbs):=by
 have h1:(a.tmod b).natAbs=a.natAbs % b.natAbs:=Int.natAbs_tmod a b;have h2:a.natAbs % b.natAbs<=a.natAbs:=Nat.mod_le _ _;refine⟨⟨by omega,by omega⟩,λh => ?_⟩;rw [h1];exact Nat.mod_lt _ (by omega)
theorem Fw{a:Int}(ha:Bd a):(if IntKind.i64.wrap (0-a) > a then IntKind.i64.wrap (0-a)else a)=((Int.gcd a 0:Nat):Int):=by
 have hw:IntKind.i64.wrap (0-a) = -a:=by rw [zk (by omega)];omega
 rw [hw,Int.gcd_zero_right];split<;>omega
def Fx(g:Nat)(l:List Vc.Vl):Prop:=∃x y:Int,l=[.i x,.i y]/\Bd x/\Bd y/\Int.gcd x y=g
def Rp(l:List Vc.Vl):Nat:=match l with
 | [.i _,.i y]=>y.natAbs
 |_=>0
theorem Fy(a b:Int)(w:World)(ha:Bd a)(hb:Bd b):Calls Tryz.prog 63 #[.int .i64 a,.int .i64 b] w (Vc.aR (.int .i64 (Int.gcd a b:Nat)) w):=by
 refine Vb a b w _ ⟨Fx (Int.gcd a b),Rp,⟨a,b,rfl,ha,hb,rfl⟩, ?_⟩;rintro x2 x3 ⟨x,y,xd,hx,hy,hg⟩;simp only [List.cons.injEq,Vc.Vl.i.injEq,and_true]at xd;obtain⟨rfl,rfl⟩:=xd;refine aa (λh => ?_) (λh => ?_)
 ·subst h;rintro x4 rfl x5 rfl;rw [Fw hx,hg]
 ·refine⟨h, ?_⟩;rintro x4 rfl;obtain⟨h1,h2⟩:=Fv hx hy;exact⟨⟨x3,_,rfl,hy,h1,(Ro x2 x3).trans hg⟩,h2 h⟩
theorem Fz(a b:Int)(w:World)(ha:Bd a)(hb:Bd b):Calls Tryz.prog 66 #[.int .i64 a,.int .i64 b] w (Vc.aR (.int .i64 (Int.gcd a b:Nat)) w):=by
 refine Ve a b w _ ⟨Fx (Int.gcd a b),Rp,⟨a,b,rfl,ha,hb,rfl⟩, ?_⟩;rintro x2 x3 ⟨x,y,xd,hx,hy,hg⟩;simp only [List.cons.injEq,Vc.Vl.i.injEq,and_true]at xd;obtain⟨rfl,rfl⟩:=xd;refine aa (λh => ?_) (λh => ?_)
 ·subst h;rintro x4 rfl x5 rfl;rw [Fw hx,hg]
 ·refine⟨h, ?_⟩;rintro x4 rfl;obtain⟨h1,h2⟩:=Fv hx hy;exact⟨⟨x3,_,rfl,hy,h1,(Ro x2 x3).trans hg⟩,h2 h⟩
theorem Ls(g:Nat):(((g:Nat):Int) == 1)=decide (g=1):=by
 by_cases h:g=1
 ·subst h;rfl
 ·rw [decide_eq_false h];exact beq_eq_false_iff_ne.2 (by omega)
theorem yX(n d k s t:Int)(w:World):Calls Tryz.prog 21 #[.agg #[.int .i64 n,.int .i64 d,.int .i64 k,.int .i64 s,.int .i64 t]] w (Vc.aR (.bool (iy n d k s t)) w):=by
 refine Vd n d k s t w _ ?_;refine aa (λh1=>aa (λh2=>aa (λh3=>aa (λh4=>aa (λh5=>aa (λh6=>aa (λh7=>aa (λh8=>aa (λh9=>aa (λC_ => ?_) λh => ?_) λh => ?_) λh => ?_) λh => ?_) λh => ?_) λh => ?_) λh => ?_) λh => ?_) λh => ?_) λh => ?_
 ·refine⟨_,λw' _=>Fy n d w' ⟨h7,h8⟩ ⟨by omega,C_⟩, ?_⟩;rw [Ls];simp [iy,h1,h2,h3,h4,h5,h6,h7,h8,h9,C_]
 all_goals simp [iy,h]
theorem yY(n d k s t:Int)(w:World):Calls Tryz.prog 24 #[.agg #[.int .i64 n,.int .i64 d,.int .i64 k,.int .i64 s,.int .i64 t]] w (Vc.aR (.bool (iy n d k s t)) w):=by
  refine Vf n d k s t w _ ?_;refine aa (λh1=>aa (λh2=>aa (λh3=>aa (λh4 => ?_) λh => ?_) λh => ?_) λh => ?_) λh => ?_
  · refine⟨_,λw' _=>Fz n d w' ⟨h1,h2⟩ ⟨by omega,h4⟩, ?_⟩;refine aa (λh5=>aa (λh6=>aa (λh7=>aa (λh8=>aa (λh9=>aa (λC_ => ?_) λh => ?_) λh => ?_) λh => ?_) λh => ?_) λh => ?_) λh => ?_
    · have Lt:Int.gcd n d=1:=by omega
      simp [iy,h1,h2,h3,h4,Lt,h6,h7,h8,h9,C_]
    all_goals first
      | (simp [iy,h];done)
      | (have Lt:¬Int.gcd n d=1:=by omega
         simp [iy,Lt])
  all_goals simp [iy,h]
abbrev QV(n d k s t:Int):Value := .agg #[.int .i64 n,.int .i64 d,.int .i64 k,.int .i64 s,.int .i64 t]
theorem ub{n d k s t:Int}(hc:iy n d k s t=true):Bd n/\1<=d/\d<=4611686018427387904/\Int.gcd n d=1:=by
 simp only [iy,Bool.and_eq_true,decide_eq_true_eq]at hc;obtain⟨⟨⟨⟨⟨h1,h2⟩,h3⟩,h4⟩,h5⟩,_⟩:=hc;exact⟨⟨h1,h2⟩,h3,h4,h5⟩
theorem Az{n d k s t:Int}(hc:iy n d k s t=true):(-9<=k/\k<=9)/\(-9<=s/\s<=9)/\(-9<=t/\t<=9):=by
 simp only [iy,Bool.and_eq_true,decide_eq_true_eq]at hc;omega
end Go.Proofs.YtpfgephckjpcjaaGreatDoor
