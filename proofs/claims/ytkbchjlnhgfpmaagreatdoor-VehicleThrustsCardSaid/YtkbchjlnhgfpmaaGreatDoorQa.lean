import Derived.Test.YtkbchjlnhgfpmaaGreatDoorGq
import Derived.Test.YtkbchjlnhgfpmaaGreatDoorFvA
set_option linter.unusedVariables false
set_option linter.unusedSimpArgs false
namespace Go.Proofs.YtkbchjlnhgfpmaaGreatDoor
open Go Go.RowKit Vc
abbrev Bd(a:Int):Prop := -4611686018427387904<=a/\a<=4611686018427387904
def om(n d k s t:Int):Bool :=
 decide (-4611686018427387904<=n) && decide (n<=4611686018427387904) && decide (1<=d) && decide (d<=4611686018427387904) && decide ((Int.gcd n d:Nat)=1) &&
 (decide (-9<=k) && decide (k<=9) && decide (-9<=s) && decide (s<=9) && decide (-9<=t) && decide (t<=9))
theorem G_(a b:Int):Int.gcd b (a.tmod b)=Int.gcd a b:=by
 simp only [Int.gcd,Int.natAbs_tmod];rw [Nat.gcd_comm a.natAbs,Nat.gcd_rec b.natAbs a.natAbs,Nat.gcd_comm]
theorem G'{a b:Int}(ha:Bd a)(hb:Bd b):Bd (a.tmod b)/\(b≠0->(a.tmod b).natAbs<b.natAbs):=by
 have h1:(a.tmod b).natAbs=a.natAbs % b.natAbs:=Int.natAbs_tmod a b;have h2:a.natAbs % b.natAbs<=a.natAbs:=Nat.mod_le _ _;refine⟨⟨by omega,by omega⟩,λh => ?_⟩;rw [h1];exact Nat.mod_lt _ (by omega)
theorem Ha{a:Int}(ha:Bd a):(if IntKind.i64.wrap (0-a) > a then IntKind.i64.wrap (0-a)else a)=((Int.gcd a 0:Nat):Int):=by
 have hw:IntKind.i64.wrap (0-a) = -a:=by rw [zb (by omega)];omega
 rw [hw,Int.gcd_zero_right];split<;>omega
def Hb(g:Nat)(l:List Vc.Vl):Prop:=∃x y:Int,l=[.i x,.i y]/\Bd x/\Bd y/\Int.gcd x y=g
def Vm(l:List Vc.Vl):Nat:=match l with
 | [.i _,.i y]=>y.natAbs
 |_=>0
theorem Hc(a b:Int)(w:World)(ha:Bd a)(hb:Bd b):Calls Tryz.prog 90 #[.int .i64 a,.int .i64 b] w (Vc.aI (.int .i64 (Int.gcd a b:Nat)) w):=by
 refine YL a b w _ ⟨Hb (Int.gcd a b),Vm,⟨a,b,rfl,ha,hb,rfl⟩, ?_⟩;rintro x2 x3 ⟨x,y,xN,hx,hy,hg⟩;simp only [List.cons.injEq,Vc.Vl.i.injEq,and_true]at xN;obtain⟨rfl,rfl⟩:=xN;refine ae (λh => ?_) (λh => ?_)
 ·subst h;rintro x4 rfl x5 rfl;rw [Ha hx,hg]
 ·refine⟨h, ?_⟩;rintro x4 rfl;obtain⟨h1,h2⟩:=G' hx hy;exact⟨⟨x3,_,rfl,hy,h1,(G_ x2 x3).trans hg⟩,h2 h⟩
theorem Hd(a b:Int)(w:World)(ha:Bd a)(hb:Bd b):Calls Tryz.prog 58 #[.int .i64 a,.int .i64 b] w (Vc.aI (.int .i64 (Int.gcd a b:Nat)) w):=by
 refine YN a b w _ ⟨Hb (Int.gcd a b),Vm,⟨a,b,rfl,ha,hb,rfl⟩, ?_⟩;rintro x2 x3 ⟨x,y,xN,hx,hy,hg⟩;simp only [List.cons.injEq,Vc.Vl.i.injEq,and_true]at xN;obtain⟨rfl,rfl⟩:=xN;refine ae (λh => ?_) (λh => ?_)
 ·subst h;rintro x4 rfl x5 rfl;rw [Ha hx,hg]
 ·refine⟨h, ?_⟩;rintro x4 rfl;obtain⟨h1,h2⟩:=G' hx hy;exact⟨⟨x3,_,rfl,hy,h1,(G_ x2 x3).trans hg⟩,h2 h⟩
theorem OR(g:Nat):(((g:Nat):Int) == 1)=decide (g=1):=by
 by_cases h:g=1
 ·subst h;rfl
 ·rw [decide_eq_false h];exact beq_eq_false_iff_ne.2 (by omega)
theorem OS(n d k s t:Int)(w:World):Calls Tryz.prog 41 #[.agg #[.int .i64 n,.int .i64 d,.int .i64 k,.int .i64 s,.int .i64 t]] w (Vc.aI (.bool (om n d k s t)) w):=by
 refine YM n d k s t w _ ?_;refine ae (λh1=>ae (λh2=>ae (λh3=>ae (λh4=>ae (λh5=>ae (λh6=>ae (λh7=>ae (λh8=>ae (λh9=>ae (λC5 => ?_) λh => ?_) λh => ?_) λh => ?_) λh => ?_) λh => ?_) λh => ?_) λh => ?_) λh => ?_) λh => ?_) λh => ?_
 ·refine⟨_,λw' _=>Hc n d w' ⟨h7,h8⟩ ⟨by omega,C5⟩, ?_⟩;rw [OR];simp [om,h1,h2,h3,h4,h5,h6,h7,h8,h9,C5]
 all_goals simp [om,h]
theorem OT(n d k s t:Int)(w:World):Calls Tryz.prog 59 #[.agg #[.int .i64 n,.int .i64 d,.int .i64 k,.int .i64 s,.int .i64 t]] w (Vc.aI (.bool (om n d k s t)) w):=by
  refine YO n d k s t w _ ?_;refine ae (λh1=>ae (λh2=>ae (λh3=>ae (λh4 => ?_) λh => ?_) λh => ?_) λh => ?_) λh => ?_
  · refine⟨_,λw' _=>Hd n d w' ⟨h1,h2⟩ ⟨by omega,h4⟩, ?_⟩;refine ae (λh5=>ae (λh6=>ae (λh7=>ae (λh8=>ae (λh9=>ae (λC5 => ?_) λh => ?_) λh => ?_) λh => ?_) λh => ?_) λh => ?_) λh => ?_
    · have OU:Int.gcd n d=1:=by omega
      simp [om,h1,h2,h3,h4,OU,h6,h7,h8,h9,C5]
    all_goals first
      | (simp [om,h];done)
      | (have OU:¬Int.gcd n d=1:=by omega
         simp [om,OU])
  all_goals simp [om,h]
abbrev QV(n d k s t:Int):Value := .agg #[.int .i64 n,.int .i64 d,.int .i64 k,.int .i64 s,.int .i64 t]
theorem Ac{n d k s t:Int}(hc:om n d k s t=true):Bd n/\1<=d/\d<=4611686018427387904/\Int.gcd n d=1:=by
 simp only [om,Bool.and_eq_true,decide_eq_true_eq]at hc;obtain⟨⟨⟨⟨⟨h1,h2⟩,h3⟩,h4⟩,h5⟩,_⟩:=hc;exact⟨⟨h1,h2⟩,h3,h4,h5⟩
end Go.Proofs.YtkbchjlnhgfpmaaGreatDoor
