import Derived.Test.YtdjgnbkclcjiiaaGreatDoorRx
import Derived.Test.YtdjgnbkclcjiiaaGreatDoorRw
import Derived.Test.YtdjgnbkclcjiiaaGreatDoorM3
set_option linter.unusedVariables false
set_option linter.unusedSimpArgs false
set_option maxRecDepth 4000
namespace Go.Proofs.YtdjgnbkclcjiiaaGreatDoor
open Go Go.RowKit Go.Proofs Wk
open Vc (SlAt OV iteI Vl zrc zf)
theorem zym{w:World}{v:Value}{l:List Sn}(h:SlAt w v 3 (l.flatMap snc)):∃ (b0:Bool) (p0:Nat × Nat) (x1:Int),v=(if b0=true then .slice none 0 0 else .slice (some (Vc.qad p0 (Int.toNat (l.length:Int)) (Int.toNat x1))) (Int.toNat (l.length:Int)) (Int.toNat x1))∧(b0=true→l.length=0) ∧
  (∀ (i:Nat) (z:Sn),l[i]? = some z→w.cell? ⟨p0.1,p0.2 + i * 3 + 0,none⟩=some (.string ⟨z.nm.toArray⟩)∧w.cell? ⟨p0.1,p0.2 + i * 3 + 1,none⟩=some (.int .i64 z.t)∧w.cell? ⟨p0.1,p0.2 + i * 3 + 2,none⟩=some (.int .i64 z.v)):=by
 obtain⟨b0,p0,x1,h1,h2,h3⟩:=Vc.ziu h (by decide) (Vc.zbb zk l);refine⟨b0,p0,x1,h1,h2,fun i p hp => ?_⟩;simp only [Nat.add_assoc];exact⟨h3 (i * 3 + 0) _ (Vc.zj zk hp (by decide)),h3 (i * 3 + 1) _ (Vc.zj zk hp (by decide)),h3 (i * 3 + 2) _ (Vc.zj zk hp (by decide))⟩
end Go.Proofs.YtdjgnbkclcjiiaaGreatDoor
