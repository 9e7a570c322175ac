import Derived.Test.YtkjmhcejdiglfacGreatDoorGq
import Derived.Test.YtkjmhcejdiglfacGreatDoorFvA
set_option linter.unusedVariables false
set_option linter.unusedSimpArgs false
namespace Go.Proofs.YtkjmhcejdiglfacGreatDoor
open Go Go.RowKit Vc
abbrev Bd(a:Int):Prop := -4611686018427387904≤a∧a≤4611686018427387904
def ckQ(n d k s t:Int):Bool :=
 decide (-4611686018427387904≤n) && decide (n≤4611686018427387904) && decide (1≤d) && decide (d≤4611686018427387904) && decide ((Int.gcd n d:Nat)=1) &&
 (decide (-9≤k) && decide (k≤9) && decide (-9≤s) && decide (s≤9) && decide (-9≤t) && decide (t≤9))
theorem zhaa(a b:Int):Int.gcd b (a.tmod b)=Int.gcd a b:=by
 simp only [Int.gcd,Int.natAbs_tmod];rw [Nat.gcd_comm a.natAbs,Nat.gcd_rec b.natAbs a.natAbs,Nat.gcd_comm]
theorem zyca{a b:Int}(ha:Bd a)(hb:Bd b):Bd (a.tmod b)∧(b≠0→(a.tmod b).natAbs < b.natAbs):=by
 have h1:(a.tmod b).natAbs=a.natAbs % b.natAbs:=Int.natAbs_tmod a b;have h2:a.natAbs % b.natAbs≤a.natAbs:=Nat.mod_le _ _;refine⟨⟨by omega,by omega⟩,fun h => ?_⟩;rw [h1];exact Nat.mod_lt _ (by omega)
theorem zzca{a:Int}(ha:Bd a):(if IntKind.i64.wrap (0 - a) > a then IntKind.i64.wrap (0 - a)else a)=((Int.gcd a 0:Nat):Int):=by
 have hw:IntKind.i64.wrap (0 - a) = -a:=by rw [zj (by omega)];omega
 rw [hw,Int.gcd_zero_right];split <;> omega
def InvG(g:Nat)(l:List Vc.Vl):Prop:=∃ x y:Int,l=[.i x,.i y]∧Bd x∧Bd y∧Int.gcd x y=g
def msG(l:List Vc.Vl):Nat:=match l with
 | [.i _,.i y]=>y.natAbs
 | _=>0
theorem ztu(a b:Int)(w:World)(ha:Bd a)(hb:Bd b):Calls Tryz.prog 76 #[.int .i64 a,.int .i64 b] w (Vc.Ret (.int .i64 (Int.gcd a b:Nat)) w):=by
 refine zzm a b w _ ⟨InvG (Int.gcd a b),msG,⟨a,b,rfl,ha,hb,rfl⟩, ?_⟩;rintro x2 x3 ⟨x,y,hxy,hx,hy,hg⟩;simp only [List.cons.injEq,Vc.Vl.i.injEq,and_true]at hxy;obtain⟨rfl,rfl⟩:=hxy;refine iteI (fun h => ?_) (fun h => ?_)
 ·subst h;rintro x4 rfl x5 rfl;rw [zzca hx,hg]
 ·refine⟨h, ?_⟩;rintro x4 rfl;obtain⟨h1,h2⟩:=zyca hx hy;exact⟨⟨x3,_,rfl,hy,h1,(zhaa x2 x3).trans hg⟩,h2 h⟩
theorem zada(g:Nat):(((g:Nat):Int) == 1)=decide (g=1):=by
 by_cases h:g=1
 ·subst h;rfl
 ·rw [decide_eq_false h];exact beq_eq_false_iff_ne.2 (by omega)
theorem zbda(n d k s t:Int)(w:World):Calls Tryz.prog 39 #[.agg #[.int .i64 n,.int .i64 d,.int .i64 k,.int .i64 s,.int .i64 t]] w (Vc.Ret (.bool (ckQ n d k s t)) w):=by
 refine zwd n d k s t w _ ?_;refine iteI (fun h1=>iteI (fun h2=>iteI (fun h3=>iteI (fun h4=>iteI (fun h5=>iteI (fun h6=>iteI (fun h7=>iteI (fun h8=>iteI (fun h9=>iteI (fun h10 => ?_) fun h => ?_) fun h => ?_) fun h => ?_) fun h => ?_) fun h => ?_) fun h => ?_) fun h => ?_) fun h => ?_) fun h => ?_) fun h => ?_
 ·refine⟨_,fun w' _=>ztu n d w' ⟨h7,h8⟩ ⟨by omega,h10⟩, ?_⟩;rw [zada];simp [ckQ,h1,h2,h3,h4,h5,h6,h7,h8,h9,h10]
 all_goals simp [ckQ,h]
abbrev QV(n d k s t:Int):Value := .agg #[.int .i64 n,.int .i64 d,.int .i64 k,.int .i64 s,.int .i64 t]
end Go.Proofs.YtkjmhcejdiglfacGreatDoor
