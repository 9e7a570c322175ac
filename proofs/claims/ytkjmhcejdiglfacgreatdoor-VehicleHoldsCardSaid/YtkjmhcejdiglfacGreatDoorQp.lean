import Derived.Test.YtkjmhcejdiglfacGreatDoorGq
import Derived.Test.YtkjmhcejdiglfacGreatDoorQa
set_option linter.unusedVariables false
set_option linter.unusedSimpArgs false
namespace Go.Proofs.YtkjmhcejdiglfacGreatDoor
open Go Go.RowKit Vc
attribute [local irreducible] Go.Calls
structure Qr where
 (n d k s t e:Int)
abbrev QE(r:Qr):Value := .tuple #[QV r.n r.d r.k r.s r.t,.int .i64 r.e]
def badQ(e:Int):Qr:=⟨0,0,0,0,0,e⟩
theorem zcda{a b:Int}(ha:Bd a):Bd (a.tdiv b):=by
 have h1:(a.tdiv b).natAbs=a.natAbs / b.natAbs:=Int.natAbs_tdiv a b;have h2:a.natAbs / b.natAbs≤a.natAbs:=Nat.div_le_self _ _;exact⟨by omega,by omega⟩
theorem zzx{a b:Int}(ha:Bd a):IntKind.i64.wrap (a.tdiv b)=a.tdiv b:=by
 have:=zcda (b:=b) ha
 exact zj (by omega)
def madeR(n d k s t:Int):Qr:=if ckQ (n.tdiv (Int.gcd n d:Nat)) (d.tdiv (Int.gcd n d:Nat)) k s t=true then ⟨n.tdiv (Int.gcd n d:Nat),d.tdiv (Int.gcd n d:Nat),k,s,t,0⟩else badQ 4
theorem zvba{n d:Int}(h:d≠0):((Int.gcd n d:Nat):Int)≠0:=by
 intro h1;have h2:Int.gcd n d=0:=by omega
 exact h (Int.gcd_eq_zero_iff.1 h2).2
theorem zay(n d k s t:Int)(w:World)(hn:Bd n)(hd:Bd d)(h0:d≠0):Calls Tryz.prog 107 #[.int .i64 n,.int .i64 d,.agg #[.int .i64 k,.int .i64 s,.int .i64 t]] w (Vc.Ret (QE (madeR n d k s t)) w):=by
 refine zjm n d k s t w _ ⟨_,fun w' _=>ztu n d w' hn hd,zvba h0, ?_⟩;rintro x6 hx6;rw [zzx hn]at hx6;refine⟨zvba h0, ?_⟩;rintro x7 hx7;rw [zzx hd]at hx7;subst hx6 hx7;refine⟨_,fun w' _=>zbda _ _ k s t w', ?_⟩;unfold madeR;exact iteI (fun h=>by rw [if_pos h]) fun h=>by rw [if_neg h];rfl
section
variable {n1 d1 k1 s1 t1 n2 d2 k2 s2 t2:Int}
end
section
variable {n1 d1 k1 s1 t1 n2 d2 k2 s2 t2:Int}
end
end Go.Proofs.YtkjmhcejdiglfacGreatDoor
