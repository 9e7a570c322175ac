import Derived.Test.YtdjgnbkclcjiiaaGreatDoorRx
set_option linter.unusedVariables false
set_option linter.unusedSimpArgs false
set_option maxRecDepth 4000
namespace Go.Proofs.YtdjgnbkclcjiiaaGreatDoor
open Go Go.RowKit Vc
attribute [local irreducible] Go.Calls
def sg:Bool→Int
 | true=>1
 | false => -1
theorem zxy{w:World}(a:Int){c:Int}(n:Int)(hc:0≤c∧c≤5):Calls Tryz.prog 103 #[.int .i64 a,.int .i64 c,.int .i64 n] w (Vc.Ret (.bool (cmpB c a n)) w):=by
 refine ztf a c n w _ ⟨by omega,by omega, ?_⟩;unfold cmpB;refine iteI (fun h => ?_) (fun h=>iteI (fun h1 => ?_) (fun h1=>iteI (fun h2 => ?_) (fun h2=>iteI (fun h3 => ?_) (fun h3=>iteI (fun h4 => ?_) (fun h4 => ?_)))))
 ·rw [if_pos h]
 ·rw [if_neg h,if_pos h1]
 ·rw [if_neg h,if_neg h1,if_pos h2]
 ·rw [if_neg h,if_neg h1,if_neg h2,if_pos h3]
 ·rw [if_neg h,if_neg h1,if_neg h2,if_neg h3,if_pos h4];refine zrc ?_;rw [Bool.eq_iff_iff];simp
 ·rw [if_neg h,if_neg h1,if_neg h2,if_neg h3,if_neg h4];refine zrc ?_;rw [Bool.eq_iff_iff];simp
end Go.Proofs.YtdjgnbkclcjiiaaGreatDoor
