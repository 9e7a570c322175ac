import Derived.Test.YtnjpiipdgapakaaGreatDoorGq
import Derived.Test.YtnjpiipdgapakaaGreatDoorFvA
set_option linter.unusedVariables false
set_option linter.unusedSimpArgs false
namespace Go.Proofs.YtnjpiipdgapakaaGreatDoor
open Go Go.RowKit Vc
abbrev Bd(a:Int):Prop := -4611686018427387904<=a/\a<=4611686018427387904
def GG(n d k s t:Int):Bool :=
 decide (-4611686018427387904<=n) && decide (n<=4611686018427387904) && decide (1<=d) && decide (d<=4611686018427387904) && decide ((Int.gcd n d:Nat)=1) &&
 (decide (-9<=k) && decide (k<=9) && decide (-9<=s) && decide (s<=9) && decide (-9<=t) && decide (t<=9))
theorem Ly(a b:Int):Int.gcd b (a.tmod b)=Int.gcd a b:=by
 simp only [Int.gcd,Int.natAbs_tmod];rw [Nat.gcd_comm a.natAbs,Nat.gcd_rec b.natAbs a.natAbs,Nat.gcd_comm]
theorem Lz{a b:Int}(ha:Bd a)(hb:Bd b):Bd (a.tmod b)/\(b≠0->(a.tmod b).natAbs<b.natAbs):=by
 have h1:(a.tmod b).natAbs=a.natAbs % b.natAbs:=Int.natAbs_tmod a b;have h2:a.natAbs % b.natAbs<=a.natAbs:=Nat.mod_le _ _;refine⟨⟨by omega,by omega⟩,λh => ?_⟩;rw [h1];exact Nat.mod_lt _ (by omega)
theorem LA{a:Int}(ha:Bd a):(if IntKind.i64.wrap (0-a) > a then IntKind.i64.wrap (0-a)else a)=((Int.gcd a 0:Nat):Int):=by
 have hw:IntKind.i64.wrap (0-a) = -a:=by rw [zx (by omega)];omega
 rw [hw,Int.gcd_zero_right];split<;>omega
def LB(g:Nat)(l:List Vc.Vl):Prop:=∃x y:Int,l=[.i x,.i y]/\Bd x/\Bd y/\Int.gcd x y=g
def Vu(l:List Vc.Vl):Nat:=match l with
 | [.i _,.i y]=>y.natAbs
 |_=>0
theorem Q4(a b:Int)(w:World)(ha:Bd a)(hb:Bd b):Calls Tryz.prog 162 #[.int .i64 a,.int .i64 b] w (Vc.aw (.int .i64 (Int.gcd a b:Nat)) w):=by
 refine Vr a b w _ ⟨LB (Int.gcd a b),Vu,⟨a,b,rfl,ha,hb,rfl⟩, ?_⟩;rintro x2 x3 ⟨x,y,Q6,hx,hy,hg⟩;simp only [List.cons.injEq,Vc.Vl.i.injEq,and_true]at Q6;obtain⟨rfl,rfl⟩:=Q6;refine af (λh => ?_) (λh => ?_)
 ·subst h;rintro x4 rfl x5 rfl;rw [LA hx,hg]
 ·refine⟨h, ?_⟩;rintro x4 rfl;obtain⟨h1,h2⟩:=Lz hx hy;exact⟨⟨x3,_,rfl,hy,h1,(Ly x2 x3).trans hg⟩,h2 h⟩
theorem LC(g:Nat):(((g:Nat):Int) == 1)=decide (g=1):=by
 by_cases h:g=1
 ·subst h;rfl
 ·rw [decide_eq_false h];exact beq_eq_false_iff_ne.2 (by omega)
theorem LD(n d k s t:Int)(w:World):Calls Tryz.prog 163 #[.agg #[.int .i64 n,.int .i64 d,.int .i64 k,.int .i64 s,.int .i64 t]] w (Vc.aw (.bool (GG n d k s t)) w):=by
 refine Vs n d k s t w _ ?_;refine af (λh1=>af (λh2=>af (λh3=>af (λh4=>af (λh5=>af (λh6=>af (λh7=>af (λh8=>af (λh9=>af (λEc => ?_) λh => ?_) λh => ?_) λh => ?_) λh => ?_) λh => ?_) λh => ?_) λh => ?_) λh => ?_) λh => ?_) λh => ?_
 ·refine⟨_,λw' _=>Q4 n d w' ⟨h7,h8⟩ ⟨by omega,Ec⟩, ?_⟩;rw [LC];simp [GG,h1,h2,h3,h4,h5,h6,h7,h8,h9,Ec]
 all_goals simp [GG,h]
abbrev QV(n d k s t:Int):Value := .agg #[.int .i64 n,.int .i64 d,.int .i64 k,.int .i64 s,.int .i64 t]
end Go.Proofs.YtnjpiipdgapakaaGreatDoor
