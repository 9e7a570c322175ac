import Derived.Test.YtnjpiipdgapakaaGreatDoorG0
import Derived.Test.YtnjpiipdgapakaaGreatDoorVal
import Derived.Test.YtnjpiipdgapakaaGreatDoorFvA
import Derived.Lib.Bytealg
set_option linter.unusedVariables false
set_option linter.unusedSimpArgs false
namespace Go.Proofs.YtnjpiipdgapakaaGreatDoor
open Go Go.RowKit
theorem EF(l:List UInt8)(w:World):(callFunc 179 #[.string ⟨l.toArray⟩,.int .u8 46]).run Tryz.prog w=.ok (.value (.int .i64 (Lib.indexByte l 46))) w:=by
 rw [run_callFunc_extern Tryz.func179 (by kernel_rfl) (by kernel_rfl) (by kernel_rfl) (e:=Extern.BytealgIndexByte.indexByte) (by kernel_rfl),Lib.run_indexByteString];rfl
theorem GL{w w':World}{g:Nat}{cs:Array Value}(h:∃ty mk,w.heap[g]? = some (.cells cs ty mk))(hb:Below w.heap.size w w'):∃ty mk,w'.heap[g]? = some (.cells cs ty mk):=by
 obtain⟨ty,mk,h⟩:=h;have h4:g<w.heap.size:=(Array.getElem?_eq_some_iff.1 h).1;exact⟨ty,mk,by rw [hb.block g h4];exact h⟩
structure nO(w:World):Prop where
 g0:DY w
 g3:eO w
 g4:J' w
 g14:aj w
theorem nO.eE{w w':World}(h:nO w)(hb:Below w.heap.size w w'):nO w':=⟨GL h.g0 hb,GL h.g3 hb,GL h.g4 hb,GL h.g14 hb⟩
end Go.Proofs.YtnjpiipdgapakaaGreatDoor
