import Derived.Test.YtdjgnbkclcjiiaaGreatDoorRy
import Derived.Test.YtdjgnbkclcjiiaaGreatDoorAw
set_option linter.unusedVariables false
set_option linter.unusedSimpArgs false
namespace Go.Proofs.YtdjgnbkclcjiiaaGreatDoor
open Go Go.RowKit Vc
def VG(w:World):Prop:=Vg_0 w∧Vg_1 w∧Vg_2 w∧Vg_3 w
theorem VG.below{w w':World}(hb:Below w.heap.size w w')(h:VG w):VG w':=by
 have k:∀ {g:Nat} {cs:Array Value},(∃ ty mk,w.heap[g]? = some (.cells cs ty mk))→∃ ty mk,w'.heap[g]? = some (.cells cs ty mk):=fun⟨ty,mk,hg⟩=>⟨ty,mk,by rw [hb.block _ (Array.getElem?_eq_some_iff.1 hg).1];exact hg⟩;exact⟨k h.1,k h.2.1,k h.2.2.1,k h.2.2.2⟩
theorem zoh{w:World}{r:Rl}{v:Value}{l:List (List UInt8)}(h:RlAt w r)(hsz:RlSz r)(hl:SlAt w v 1 (l.flatMap stc1))(hn:l.length < 4611686018427387904)(hV:VG w):Calls Tryz.prog 10 #[RV7 r,v] w (Vc.Ret (.bool true) w) :=
 zmg hV.1 hV.2.1 (fun w' hb=>zgt w' (hV.below hb).1 (hV.below hb).2.1 (hV.below hb).2.2.1 (hV.below hb).2.2.2) h hsz hl hn
end Go.Proofs.YtdjgnbkclcjiiaaGreatDoor
