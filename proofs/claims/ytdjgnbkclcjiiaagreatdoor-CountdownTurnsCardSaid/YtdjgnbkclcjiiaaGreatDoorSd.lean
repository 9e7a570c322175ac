import Derived.Test.YtdjgnbkclcjiiaaGreatDoorSc
import Derived.Test.YtdjgnbkclcjiiaaGreatDoorRy
set_option linter.unusedVariables false
set_option linter.unusedSimpArgs false
set_option maxRecDepth 4000
namespace Go.Proofs.YtdjgnbkclcjiiaaGreatDoor
open Go Go.RowKit Go.Proofs Wk
open Vc (SlAt OV iteI Vl zrc zf)
attribute [local irreducible] Go.Calls
def aS(f:Nat→Bool):Nat→Bool | 0=>true | n + 1=>aS f n && f n
def nS(f:Nat→Bool):Nat→Bool | 0=>true | n + 1=>nS f n && !f n
def msQ3:List Vl→Nat | [_,_,.i a]=>3 - a.toNat | _=>0
def fS(c n lo hi mid:Int):Nat→Bool | 0=>cmpB c lo n | 1=>cmpB c hi n | _=>cmpB c mid n
section
variable {w:World} {x c n lo hi mid:Int} {i:Nat} {b0 b1 b2:Bool} (hc:0≤c∧c≤5) (hi3:i < 3) (hx:cmpB c x n=fS c n lo hi mid i) (h0:b0=aS (fS c n lo hi mid) i) (h1:b1=nS (fS c n lo hi mid) i)
def IS(c n lo hi mid:Int):List Vl→Prop:=fun L=>∃ i:Nat,L=[.b (aS (fS c n lo hi mid) i),.b (nS (fS c n lo hi mid) i),.i i]∧i≤3
include hc hi3 hx h0 h1
theorem s3(hb2:b2=fS c n lo hi mid i)(e0:b0=true)(e1:b1=true):Vj_ullageref10_answer_T3 w x c n (i:Int) (IS c n lo hi mid) b2 msQ3 b0 b1:=by
 refine⟨_,fun w' _=>zxy x n hc, ?_⟩;rintro x7 rfl;rw [zf (by omega)];refine⟨⟨i + 1, ?_,by omega⟩,by simp only [msQ3];omega⟩;simp only [aS,nS];rw [← h0,← h1,e0,e1,hx,hb2,Bool.true_and,Bool.true_and];rfl
omit hc hx in
theorem s4(hb2:b2=fS c n lo hi mid i)(e0:b0=true)(e1:¬ b1=true):Vj_ullageref10_answer_T4 (i:Int) (IS c n lo hi mid) b2 msQ3 b0 b1:=by
 rintro x7 rfl;rw [zf (by omega)];refine⟨⟨i + 1, ?_,by omega⟩,by simp only [msQ3];omega⟩;simp only [aS,nS];rw [← h0,← h1,e0,Bool.eq_false_iff.2 e1,hb2,Bool.true_and,Bool.false_and];rfl
end
end Go.Proofs.YtdjgnbkclcjiiaaGreatDoor
