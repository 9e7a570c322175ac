import Derived.Test.YtdjgnbkclcjiiaaGreatDoorRy
import Derived.Test.YtdjgnbkclcjiiaaGreatDoorAw
set_option linter.unusedVariables false
set_option linter.unusedSimpArgs false
namespace Go.Proofs.YtdjgnbkclcjiiaaGreatDoor
open Go Go.RowKit Vc
def VG(w:World):Prop:=Vg_0 w∧Vg_1 w∧Vg_2 w∧Vg_3 w
theorem VG.below{w w':World}(hb:Below w.heap.size w w')(h:VG w):VG w':=by
 have k:∀ {g:Nat} {cs:Array Value},(∃ ty mk,w.heap[g]? = some (.cells cs ty mk))→∃ ty mk,w'.heap[g]? = some (.cells cs ty mk):=fun⟨ty,mk,hg⟩=>⟨ty,mk,by rw [hb.block _ (Array.getElem?_eq_some_iff.1 hg).1];exact hg⟩;exact⟨k h.1,k h.2.1,k h.2.2.1,k h.2.2.2⟩
end Go.Proofs.YtdjgnbkclcjiiaaGreatDoor
