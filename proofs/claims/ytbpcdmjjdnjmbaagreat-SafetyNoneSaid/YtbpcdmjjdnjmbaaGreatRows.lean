/-
  No cell of these rows narrows 'for every input' (looked for: loops, veiled, ifaces, maps, wideKeys, modest, calm, conditions, laid).
  DERIVED. THE GIVEN ROWS OF THIS SEAT. 6 by the template 'for every input the law returns true; each argument reads behind the call as it read before'; 0 by the template 'total and deterministic' (their statements: YtbpcdmjjdnjmbaaGreatTotals.lean).
  GIVEN WITH THE SEED: the statements are not yours to turn. If you find one false, say at which input.
  Laid BY PROGRAM, IN A SANDBOX (cutbox-rows.mjs): the forced cells as the released guide's own fill.sh prints them over the translation eb4053994b2606ad… (all of the seat's roots in one cut). By AI agents, Wed Nov 11 2026. No macro, syntax, notation, axiom, sorry.
-/
import Derived.Test.YtbpcdmjjdnjmbaaGreatChecked
import GoSem.Claim
import GoSem.ClaimJoined
import GoSem.ClaimMapViews
import Derived.JoinedTies
import Derived.KernelRfl
namespace Go.Proofs.YtbpcdmjjdnjmbaaGreat
/- THE CELL 'sum', in the pinned program and in every row, IS THE sha256 OF THE DUMP (.gsa) THAT YtbpcdmjjdnjmbaaGreatProg.lean LOADS. Nothing in Lean hashes anything: it is a label: what it is worth is what the hold of that sum in a sandbox is worth. -/
noncomputable def Tryz.pinned : Pinned := { name := "ytbpcdmjjdnjmbaagreat", sum := "eb4053994b2606adb6fd6de37bb2da222f11f61f6c3dddc2e22fcd5bdcc383ef", checked := Tryz.checked }
namespace Rows
def none {H : Type} : Left H := { results := [], args := [] }

/-- 'ullagelaw09.SafetySides': WHATEVER THE INPUT: true; the input reads as it did. -/
def safetySidesSpec : ChangeSpec := { name := "safetySides", fn := fun _ => fun
  | [d1, d2] => { results := [.lit (.bool true)], args := [d1, d2] }
  | _ => none }
def safetySidesRow : OpenClaim := { program := "ytbpcdmjjdnjmbaagreat", sum := "eb4053994b2606adb6fd6de37bb2da222f11f61f6c3dddc2e22fcd5bdcc383ef", func := "ullage/ullagelaw09.SafetySides", spec := "safetySides", inPlace := ["math/bits.Sub64", "math/bits.Add64"], unfollowed := true, recurses := true, named := ["math/bits.divideError", "math/bits.overflowError"], apart := false }
def SafetySidesSaid : Prop := safetySidesRow.holds Tryz.pinned (OpenSpec.ofChange safetySidesSpec)

/-- ITS FALSE NEIGHBOUR: 'it returns false'. Refute it at one input. -/
def safetySidesWrong : ChangeSpec := { name := "safetySides", fn := fun _ => fun
  | [d1, d2] => { results := [.lit (.bool false)], args := [d1, d2] }
  | _ => none }
def SafetySidesWrongFalsely : Prop := safetySidesRow.holds Tryz.pinned (OpenSpec.ofChange safetySidesWrong)

/-- 'ullagelaw09.SafetyImpacts': WHATEVER THE INPUT: true; the input reads as it did. -/
def safetyImpactsSpec : ChangeSpec := { name := "safetyImpacts", fn := fun _ => fun
  | [d] => { results := [.lit (.bool true)], args := [d] }
  | _ => none }
def safetyImpactsRow : OpenClaim := { program := "ytbpcdmjjdnjmbaagreat", sum := "eb4053994b2606adb6fd6de37bb2da222f11f61f6c3dddc2e22fcd5bdcc383ef", func := "ullage/ullagelaw09.SafetyImpacts", spec := "safetyImpacts", inPlace := ["math/bits.Sub64", "math/bits.Add64"], unfollowed := true, recurses := true, named := ["math/bits.divideError", "math/bits.overflowError"], apart := false }
def SafetyImpactsSaid : Prop := safetyImpactsRow.holds Tryz.pinned (OpenSpec.ofChange safetyImpactsSpec)

/-- ITS FALSE NEIGHBOUR: 'it returns false'. Refute it at one input. -/
def safetyImpactsWrong : ChangeSpec := { name := "safetyImpacts", fn := fun _ => fun
  | [d] => { results := [.lit (.bool false)], args := [d] }
  | _ => none }
def SafetyImpactsWrongFalsely : Prop := safetyImpactsRow.holds Tryz.pinned (OpenSpec.ofChange safetyImpactsWrong)

/-- 'ullagelaw09.SafetyRisks': WHATEVER THE INPUT: true; the input reads as it did. -/
def safetyRisksSpec : ChangeSpec := { name := "safetyRisks", fn := fun _ => fun
  | [d1, d2, d3] => { results := [.lit (.bool true)], args := [d1, d2, d3] }
  | _ => none }
def safetyRisksRow : OpenClaim := { program := "ytbpcdmjjdnjmbaagreat", sum := "eb4053994b2606adb6fd6de37bb2da222f11f61f6c3dddc2e22fcd5bdcc383ef", func := "ullage/ullagelaw09.SafetyRisks", spec := "safetyRisks", inPlace := ["math/bits.Sub64", "math/bits.Add64"], unfollowed := true, recurses := true, named := ["math/bits.divideError", "math/bits.overflowError"], apart := false }
def SafetyRisksSaid : Prop := safetyRisksRow.holds Tryz.pinned (OpenSpec.ofChange safetyRisksSpec)

/-- ITS FALSE NEIGHBOUR: 'it returns false'. Refute it at one input. -/
def safetyRisksWrong : ChangeSpec := { name := "safetyRisks", fn := fun _ => fun
  | [d1, d2, d3] => { results := [.lit (.bool false)], args := [d1, d2, d3] }
  | _ => none }
def SafetyRisksWrongFalsely : Prop := safetyRisksRow.holds Tryz.pinned (OpenSpec.ofChange safetyRisksWrong)

/-- 'ullagelaw09.SafetyAparts': WHATEVER THE INPUT: true; the input reads as it did. -/
def safetyApartsSpec : ChangeSpec := { name := "safetyAparts", fn := fun _ => fun
  | [d1, d2, d3] => { results := [.lit (.bool true)], args := [d1, d2, d3] }
  | _ => none }
def safetyApartsRow : OpenClaim := { program := "ytbpcdmjjdnjmbaagreat", sum := "eb4053994b2606adb6fd6de37bb2da222f11f61f6c3dddc2e22fcd5bdcc383ef", func := "ullage/ullagelaw09.SafetyAparts", spec := "safetyAparts", inPlace := ["math/bits.Sub64", "math/bits.Add64"], unfollowed := true, recurses := true, named := ["math/bits.divideError", "math/bits.overflowError"], apart := false }
def SafetyApartsSaid : Prop := safetyApartsRow.holds Tryz.pinned (OpenSpec.ofChange safetyApartsSpec)

/-- ITS FALSE NEIGHBOUR: 'it returns false'. Refute it at one input. -/
def safetyApartsWrong : ChangeSpec := { name := "safetyAparts", fn := fun _ => fun
  | [d1, d2, d3] => { results := [.lit (.bool false)], args := [d1, d2, d3] }
  | _ => none }
def SafetyApartsWrongFalsely : Prop := safetyApartsRow.holds Tryz.pinned (OpenSpec.ofChange safetyApartsWrong)

/-- 'ullagelaw09.SafetyUnits': WHATEVER THE INPUT: true; the input reads as it did. -/
def safetyUnitsSpec : ChangeSpec := { name := "safetyUnits", fn := fun _ => fun
  | [d1, d2] => { results := [.lit (.bool true)], args := [d1, d2] }
  | _ => none }
def safetyUnitsRow : OpenClaim := { program := "ytbpcdmjjdnjmbaagreat", sum := "eb4053994b2606adb6fd6de37bb2da222f11f61f6c3dddc2e22fcd5bdcc383ef", func := "ullage/ullagelaw09.SafetyUnits", spec := "safetyUnits", inPlace := ["math/bits.Sub64", "math/bits.Add64"], unfollowed := true, recurses := true, named := ["math/bits.divideError", "math/bits.overflowError"], apart := false }
def SafetyUnitsSaid : Prop := safetyUnitsRow.holds Tryz.pinned (OpenSpec.ofChange safetyUnitsSpec)

/-- ITS FALSE NEIGHBOUR: 'it returns false'. Refute it at one input. -/
def safetyUnitsWrong : ChangeSpec := { name := "safetyUnits", fn := fun _ => fun
  | [d1, d2] => { results := [.lit (.bool false)], args := [d1, d2] }
  | _ => none }
def SafetyUnitsWrongFalsely : Prop := safetyUnitsRow.holds Tryz.pinned (OpenSpec.ofChange safetyUnitsWrong)

/-- 'ullagelaw09.SafetyNone': WHATEVER THE INPUT: true; the input reads as it did. -/
def safetyNoneSpec : ChangeSpec := { name := "safetyNone", fn := fun _ => fun
  | [d1, d2] => { results := [.lit (.bool true)], args := [d1, d2] }
  | _ => none }
def safetyNoneRow : OpenClaim := { program := "ytbpcdmjjdnjmbaagreat", sum := "eb4053994b2606adb6fd6de37bb2da222f11f61f6c3dddc2e22fcd5bdcc383ef", func := "ullage/ullagelaw09.SafetyNone", spec := "safetyNone", inPlace := ["math/bits.Sub64", "math/bits.Add64"], unfollowed := true, recurses := true, named := ["math/bits.divideError", "math/bits.overflowError"], apart := false }
def SafetyNoneSaid : Prop := safetyNoneRow.holds Tryz.pinned (OpenSpec.ofChange safetyNoneSpec)

/-- ITS FALSE NEIGHBOUR: 'it returns false'. Refute it at one input. -/
def safetyNoneWrong : ChangeSpec := { name := "safetyNone", fn := fun _ => fun
  | [d1, d2] => { results := [.lit (.bool false)], args := [d1, d2] }
  | _ => none }
def SafetyNoneWrongFalsely : Prop := safetyNoneRow.holds Tryz.pinned (OpenSpec.ofChange safetyNoneWrong)

/- THE SECOND FORM. 'bulk': how many values and letters a reading holds, each counted each time it is reached (what is shared counts as often as it is met; a slice's spare places count too). A statement '..UptoSaid' is the law's where the arguments, and the package variables that the reading takes, are together of bulk at most 1048576: NARROWER than '..Said'. Prove '..Said' where nothing that the law and all that it calls make is longer than what came in: it says more and counts as full. Else prove '..UptoSaid'. A law counts once. -/
mutual
def uptoBulk {H : Type} : DataW H → Nat
  | .lit (.string bytes) => bytes.length + 1
  | .lit _ => 1
  | .nil => 1
  | .ptr d => uptoBulk d + 1
  | .slice elems spare => uptoBulkAll elems + uptoBulkAll spare + 1
  | .agg parts => uptoBulkAll parts + 1
  | .iface _ d => uptoBulk d + 1
  | .map entries => uptoBulkEntries entries + 1
  | .held _ => 1
def uptoBulkAll {H : Type} : List (DataW H) → Nat
  | [] => 0
  | d :: r => uptoBulk d + uptoBulkAll r
def uptoBulkEntries {H : Type} : List (Lit × DataW H) → Nat
  | [] => 0
  | x :: r => uptoBulkEntry x + uptoBulkEntries r
def uptoBulkEntry {H : Type} : Lit × DataW H → Nat
  | (.string bytes, d) => bytes.length + uptoBulk d + 1
  | (_, d) => uptoBulk d + 1
 end
def uptoSmall : (H : Type) → List (DataW H) → Bool := fun _ ds => decide (uptoBulkAll ds ≤ 1048576)
def OpenSpec.upto (s : _root_.Go.ChangeSpec) : _root_.Go.OpenSpec := { _root_.Go.OpenSpec.ofChange s with cond := some uptoSmall }

/-- 'ullagelaw09.SafetySides', WHERE WHAT IT READS IS OF BULK AT MOST 1048576: true; the input reads as it did. -/
def safetySidesUptoRow : OpenClaim := { program := "ytbpcdmjjdnjmbaagreat", sum := "eb4053994b2606adb6fd6de37bb2da222f11f61f6c3dddc2e22fcd5bdcc383ef", func := "ullage/ullagelaw09.SafetySides", spec := "safetySides", inPlace := ["math/bits.Sub64", "math/bits.Add64"], unfollowed := true, recurses := true, named := ["math/bits.divideError", "math/bits.overflowError"], apart := false, narrowed := true }
def SafetySidesUptoSaid : Prop := safetySidesUptoRow.holds Tryz.pinned (OpenSpec.upto safetySidesSpec)

/-- 'ullagelaw09.SafetyImpacts', WHERE WHAT IT READS IS OF BULK AT MOST 1048576: true; the input reads as it did. -/
def safetyImpactsUptoRow : OpenClaim := { program := "ytbpcdmjjdnjmbaagreat", sum := "eb4053994b2606adb6fd6de37bb2da222f11f61f6c3dddc2e22fcd5bdcc383ef", func := "ullage/ullagelaw09.SafetyImpacts", spec := "safetyImpacts", inPlace := ["math/bits.Sub64", "math/bits.Add64"], unfollowed := true, recurses := true, named := ["math/bits.divideError", "math/bits.overflowError"], apart := false, narrowed := true }
def SafetyImpactsUptoSaid : Prop := safetyImpactsUptoRow.holds Tryz.pinned (OpenSpec.upto safetyImpactsSpec)

/-- 'ullagelaw09.SafetyRisks', WHERE WHAT IT READS IS OF BULK AT MOST 1048576: true; the input reads as it did. -/
def safetyRisksUptoRow : OpenClaim := { program := "ytbpcdmjjdnjmbaagreat", sum := "eb4053994b2606adb6fd6de37bb2da222f11f61f6c3dddc2e22fcd5bdcc383ef", func := "ullage/ullagelaw09.SafetyRisks", spec := "safetyRisks", inPlace := ["math/bits.Sub64", "math/bits.Add64"], unfollowed := true, recurses := true, named := ["math/bits.divideError", "math/bits.overflowError"], apart := false, narrowed := true }
def SafetyRisksUptoSaid : Prop := safetyRisksUptoRow.holds Tryz.pinned (OpenSpec.upto safetyRisksSpec)

/-- 'ullagelaw09.SafetyAparts', WHERE WHAT IT READS IS OF BULK AT MOST 1048576: true; the input reads as it did. -/
def safetyApartsUptoRow : OpenClaim := { program := "ytbpcdmjjdnjmbaagreat", sum := "eb4053994b2606adb6fd6de37bb2da222f11f61f6c3dddc2e22fcd5bdcc383ef", func := "ullage/ullagelaw09.SafetyAparts", spec := "safetyAparts", inPlace := ["math/bits.Sub64", "math/bits.Add64"], unfollowed := true, recurses := true, named := ["math/bits.divideError", "math/bits.overflowError"], apart := false, narrowed := true }
def SafetyApartsUptoSaid : Prop := safetyApartsUptoRow.holds Tryz.pinned (OpenSpec.upto safetyApartsSpec)

/-- 'ullagelaw09.SafetyUnits', WHERE WHAT IT READS IS OF BULK AT MOST 1048576: true; the input reads as it did. -/
def safetyUnitsUptoRow : OpenClaim := { program := "ytbpcdmjjdnjmbaagreat", sum := "eb4053994b2606adb6fd6de37bb2da222f11f61f6c3dddc2e22fcd5bdcc383ef", func := "ullage/ullagelaw09.SafetyUnits", spec := "safetyUnits", inPlace := ["math/bits.Sub64", "math/bits.Add64"], unfollowed := true, recurses := true, named := ["math/bits.divideError", "math/bits.overflowError"], apart := false, narrowed := true }
def SafetyUnitsUptoSaid : Prop := safetyUnitsUptoRow.holds Tryz.pinned (OpenSpec.upto safetyUnitsSpec)

/-- 'ullagelaw09.SafetyNone', WHERE WHAT IT READS IS OF BULK AT MOST 1048576: true; the input reads as it did. -/
def safetyNoneUptoRow : OpenClaim := { program := "ytbpcdmjjdnjmbaagreat", sum := "eb4053994b2606adb6fd6de37bb2da222f11f61f6c3dddc2e22fcd5bdcc383ef", func := "ullage/ullagelaw09.SafetyNone", spec := "safetyNone", inPlace := ["math/bits.Sub64", "math/bits.Add64"], unfollowed := true, recurses := true, named := ["math/bits.divideError", "math/bits.overflowError"], apart := false, narrowed := true }
def SafetyNoneUptoSaid : Prop := safetyNoneUptoRow.holds Tryz.pinned (OpenSpec.upto safetyNoneSpec)

end Rows
end Go.Proofs.YtbpcdmjjdnjmbaaGreat
