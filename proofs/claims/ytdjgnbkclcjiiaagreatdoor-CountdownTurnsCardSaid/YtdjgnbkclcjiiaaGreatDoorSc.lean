import Derived.Test.YtdjgnbkclcjiiaaGreatDoorSb
set_option linter.unusedVariables false
set_option linter.unusedSimpArgs false
set_option maxRecDepth 4000
namespace Wk
open Go Go.RowKit
theorem via2{P:Program}{f:FuncId}{args:Array Value}{w0 W:World}{R:Ending→World→Prop}{Q:Ending→World→Prop}{L:List (Nat × Array Value × TypeId)}(hL:Kn w0 W L)
  (h:Calls P f args W fun e w1=>R e w1∧Below W.heap.size W w1) (k:∀ e w1,R e w1→Kn w0 w1 L→Opened w1 L→Q e w1):Calls P f args W Q :=
 h.mono fun e w1 ⟨he,hb⟩=>k e w1 he (hL.next hb) (Kn.opened_of (hL.next hb).all)
end Wk
namespace Go.Proofs.YtdjgnbkclcjiiaaGreatDoor
open Go Go.RowKit Go.Proofs Wk
attribute [local irreducible] Go.Calls
open Vc (SlAt OV iteI Vl zrc zf)
theorem zru{s:List Sn}(now fresh win:Int):(sightP s now fresh win).1.length≤s.length + 1:=by
 unfold sightP;dsimp only;have h1:=List.length_filter_le (fun x:Sn => !decide (x.t≤now - win)) s;split
 ·split
  ·simp only [List.length_cons];omega
  ·show _≤_;dsimp only;omega
 ·show _≤_;dsimp only;omega
end Go.Proofs.YtdjgnbkclcjiiaaGreatDoor
