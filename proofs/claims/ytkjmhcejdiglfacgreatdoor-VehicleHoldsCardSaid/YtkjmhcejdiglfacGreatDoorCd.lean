import Derived.Test.YtkjmhcejdiglfacGreatDoorCc
set_option linter.unusedVariables false
set_option linter.unusedSimpArgs false
set_option maxRecDepth 4000
namespace Go.Proofs.YtkjmhcejdiglfacGreatDoor
open Go Go.RowKit Vc
attribute [local irreducible] Go.Calls
def msRt(n:Nat)(L:List Vl):Nat:=match L with
 | [_,.i i]=>n - i.toNat
 | _=>0
def msX(n:Nat)(L:List Vl):Nat:=match L with
 | [_,.i j]=>n - j.toNat
 | _=>0
end Go.Proofs.YtkjmhcejdiglfacGreatDoor
