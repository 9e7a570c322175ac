import Derived.Test.YtdjgnbkclcjiiaaGreatDoorRu
set_option linter.unusedVariables false
set_option linter.unusedSimpArgs false
set_option maxRecDepth 100000
namespace Go.Proofs.YtdjgnbkclcjiiaaGreatDoor
open Go Go.RowKit Go.Proofs Wk
open Vc (SlAt OV iteI Vl zrc zf)
attribute [local irreducible] Go.Calls
theorem zce{w:World}{v:Value}{sz:Nat}{xs:List Value}(h:SlAt w v sz xs):∃ a l c,v=.slice a l c:=by
 rcases h with ⟨rfl,_⟩ | ⟨_,rfl,_⟩ | ⟨_,_,_,_,rfl,_⟩ <;> exact⟨_,_,_,rfl⟩
theorem zpq{r:Rl}(h:validR r=true):rightR r=true:=by
 simp only [validR,Bool.and_eq_true]at h;exact h.2
end Go.Proofs.YtdjgnbkclcjiiaaGreatDoor
