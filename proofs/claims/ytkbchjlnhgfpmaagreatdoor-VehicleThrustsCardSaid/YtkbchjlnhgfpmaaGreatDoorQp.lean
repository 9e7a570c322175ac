import Derived.Test.YtkbchjlnhgfpmaaGreatDoorGq
import Derived.Test.YtkbchjlnhgfpmaaGreatDoorQa
set_option linter.unusedVariables false
set_option linter.unusedSimpArgs false
namespace Go.Proofs.YtkbchjlnhgfpmaaGreatDoor
open Go Go.RowKit Vc
attribute [local irreducible] Go.Calls
structure Qr where
 (n d k s t e:Int)
abbrev QE(r:Qr):Value := .tuple #[QV r.n r.d r.k r.s r.t,.int .i64 r.e]
def OW(e:Int):Qr:=⟨0,0,0,0,0,e⟩
theorem OX{a b:Int}(ha:Bd a):Bd (a.tdiv b):=by
 have h1:(a.tdiv b).natAbs=a.natAbs / b.natAbs:=Int.natAbs_tdiv a b;have h2:a.natAbs / b.natAbs<=a.natAbs:=Nat.div_le_self _ _;exact⟨by omega,by omega⟩
theorem JJ{a b:Int}(ha:Bd a):IntKind.i64.wrap (a.tdiv b)=a.tdiv b:=by
 have:=OX (b:=b) ha
 exact zb (by omega)
def iU(n d k s t:Int):Qr:=if om (n.tdiv (Int.gcd n d:Nat)) (d.tdiv (Int.gcd n d:Nat)) k s t=true then ⟨n.tdiv (Int.gcd n d:Nat),d.tdiv (Int.gcd n d:Nat),k,s,t,0⟩else OW 4
theorem Ad{n d:Int}(h:d≠0):((Int.gcd n d:Nat):Int)≠0:=by
 intro h1;have h2:Int.gcd n d=0:=by omega
 exact h (Int.gcd_eq_zero_iff.1 h2).2
theorem OY(n d k s t:Int)(w:World)(hn:Bd n)(hd:Bd d)(h0:d≠0):Calls Tryz.prog 141 #[.int .i64 n,.int .i64 d,.agg #[.int .i64 k,.int .i64 s,.int .i64 t]] w (Vc.aI (QE (iU n d k s t)) w):=by
 refine YP n d k s t w _ ⟨_,λw' _=>Hc n d w' hn hd,Ad h0, ?_⟩;rintro x6 sf;rw [JJ hn]at sf;refine⟨Ad h0, ?_⟩;rintro x7 tx;rw [JJ hd]at tx;subst sf tx;refine⟨_,λw' _=>OS _ _ k s t w', ?_⟩;unfold iU;exact ae (λh=>by rw [if_pos h]) λh=>by rw [if_neg h];rfl
theorem OZ(n d k s t:Int)(w:World)(hn:Bd n)(hd:Bd d)(h0:d≠0):Calls Tryz.prog 31 #[.int .i64 n,.int .i64 d,.int .i64 k,.int .i64 s,.int .i64 t] w (Vc.aI (QE (iU n d k s t)) w):=by
 refine YQ n d k s t w _ ⟨_,λw' _=>Hd n d w' hn hd,Ad h0, ?_⟩;rintro x6 sf;rw [JJ hn]at sf;refine⟨Ad h0, ?_⟩;rintro x7 tx;rw [JJ hd]at tx;subst sf tx;refine⟨_,λw' _=>OT _ _ k s t w', ?_⟩;unfold iU;exact ae (λh=>by rw [if_pos h]) λh=>by rw [if_neg h];rfl
section
variable {n1 d1 k1 s1 t1 n2 d2 k2 s2 t2:Int}
end
section
variable {n1 d1 k1 s1 t1 n2 d2 k2 s2 t2:Int}
end
end Go.Proofs.YtkbchjlnhgfpmaaGreatDoor
