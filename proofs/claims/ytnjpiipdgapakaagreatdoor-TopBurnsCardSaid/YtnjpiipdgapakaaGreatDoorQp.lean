import Derived.Test.YtnjpiipdgapakaaGreatDoorGq
import Derived.Test.YtnjpiipdgapakaaGreatDoorQa
set_option linter.unusedVariables false
set_option linter.unusedSimpArgs false
namespace Go.Proofs.YtnjpiipdgapakaaGreatDoor
open Go Go.RowKit Vc
attribute [local irreducible] Go.Calls
structure Qr where
 (n d k s t e:Int)
abbrev QE(r:Qr):Value := .tuple #[QV r.n r.d r.k r.s r.t,.int .i64 r.e]
def LF(e:Int):Qr:=⟨0,0,0,0,0,e⟩
theorem LG{a b:Int}(ha:Bd a):Bd (a.tdiv b):=by
 have h1:(a.tdiv b).natAbs=a.natAbs / b.natAbs:=Int.natAbs_tdiv a b;have h2:a.natAbs / b.natAbs<=a.natAbs:=Nat.div_le_self _ _;exact⟨by omega,by omega⟩
theorem Ey{a b:Int}(ha:Bd a):IntKind.i64.wrap (a.tdiv b)=a.tdiv b:=by
 have:=LG (b:=b) ha
 exact zx (by omega)
def nN(n d k s t:Int):Qr:=if GG (n.tdiv (Int.gcd n d:Nat)) (d.tdiv (Int.gcd n d:Nat)) k s t=true then ⟨n.tdiv (Int.gcd n d:Nat),d.tdiv (Int.gcd n d:Nat),k,s,t,0⟩else LF 4
theorem Ez{n d:Int}(h:d≠0):((Int.gcd n d:Nat):Int)≠0:=by
 intro h1;have h2:Int.gcd n d=0:=by omega
 exact h (Int.gcd_eq_zero_iff.1 h2).2
theorem LI(n d k s t:Int)(w:World)(hn:Bd n)(hd:Bd d)(h0:d≠0):Calls Tryz.prog 148 #[.int .i64 n,.int .i64 d,.agg #[.int .i64 k,.int .i64 s,.int .i64 t]] w (Vc.aw (QE (nN n d k s t)) w):=by
 refine Vt n d k s t w _ ⟨_,λw' _=>Q4 n d w' hn hd,Ez h0, ?_⟩;rintro x6 Lh;rw [Ey hn]at Lh;refine⟨Ez h0, ?_⟩;rintro x7 Li;rw [Ey hd]at Li;subst Lh Li;refine⟨_,λw' _=>LD _ _ k s t w', ?_⟩;unfold nN;exact af (λh=>by rw [if_pos h]) λh=>by rw [if_neg h];rfl
section
variable {n1 d1 k1 s1 t1 n2 d2 k2 s2 t2:Int}
end
section
variable {n1 d1 k1 s1 t1 n2 d2 k2 s2 t2:Int}
end
end Go.Proofs.YtnjpiipdgapakaaGreatDoor
