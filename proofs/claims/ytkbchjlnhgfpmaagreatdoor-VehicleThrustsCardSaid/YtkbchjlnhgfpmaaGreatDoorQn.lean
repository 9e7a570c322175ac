import Derived.Test.YtkbchjlnhgfpmaaGreatDoorQb
import Derived.Test.YtkbchjlnhgfpmaaGreatDoorAwv
set_option linter.unusedVariables false
set_option linter.unusedSimpArgs false
namespace Go.Proofs.YtkbchjlnhgfpmaaGreatDoor
open Go Go.RowKit Vc
attribute [local irreducible] Go.Calls
def rS(n d k s t:Int):Int × Int:=if om n d k s t=true then (IntKind.i64.wrap (0-(ly (-n) d k s t).1),(ly (-n) d k s t).2)else (0,2)
theorem aae(n d k s t:Int)(w:World):Calls Tryz.prog 179 #[QV n d k s t] w (Vc.aI (NE (rS n d k s t)) w):=by
 refine YS n d k s t w _ ⟨_,λw' _=>OS n d k s t w', ?_⟩;refine ae (λhc => ?_) (λhc=>by unfold rS;rw [if_neg hc]);rintro x5 vT;have hb:=(Ac hc).1;rw [zb (by omega),Int.zero_sub]at vT;subst vT;refine⟨_,_,λw' _=>QU (-n) d k s t w', ?_⟩;rintro x8 rfl;unfold rS;rw [if_pos hc]
theorem QY(n d k s t:Int)(w:World):Calls Tryz.prog 33 #[QV n d k s t] w (Vc.aI (NE (rS n d k s t)) w):=by
 refine YU n d k s t w _ ⟨_,λw' _=>OT n d k s t w', ?_⟩;refine ae (λhc => ?_) (λhc=>by unfold rS;rw [if_neg hc]);rintro x5 vT;have hb:=(Ac hc).1;rw [zb (by omega),Int.zero_sub]at vT;subst vT;refine⟨_,_,λw' _=>HO (-n) d k s t w', ?_⟩;rintro x8 rfl;unfold rS;rw [if_pos hc]
theorem QZ{n d k s t:Int}(h:om n d k s t=true):om (-n) d k s t=true:=by
 simp only [om,Bool.and_eq_true,decide_eq_true_eq]at h ⊢;obtain⟨⟨⟨⟨⟨h1,h2⟩,h3⟩,h4⟩,h5⟩,h6⟩:=h;exact⟨⟨⟨⟨⟨by omega,by omega⟩,h3⟩,h4⟩,by simpa [Int.gcd]using h5⟩,h6⟩
end Go.Proofs.YtkbchjlnhgfpmaaGreatDoor
