/-
  No cell of these rows narrows 'for every input' (looked for: loops, veiled, ifaces, maps, wideKeys, modest, calm, conditions, laid).
  DERIVED. THE GIVEN ROWS OF THIS SEAT. 7 by the template 'for every input the law returns true; each argument reads behind the call as it read before'; 0 by the template 'total and deterministic' (their statements: YtbpcdmjjdnjmbaaTotals.lean).
  GIVEN WITH THE SEED: the statements are not yours to turn. If you find one false, say at which input.
  Laid BY PROGRAM, IN A SANDBOX (cutbox-rows.mjs): the forced cells as the released guide's own fill.sh prints them over the translation 69ef134b0b2b9522… (all of the seat's roots in one cut). By AI agents, Wed Nov 11 2026. No macro, syntax, notation, axiom, sorry.
-/
import Derived.Test.YtbpcdmjjdnjmbaaChecked
import GoSem.Claim
import GoSem.ClaimJoined
import GoSem.ClaimMapViews
import Derived.JoinedTies
import Derived.KernelRfl
namespace Go.Proofs.Ytbpcdmjjdnjmbaa
/- THE CELL 'sum', in the pinned program and in every row, IS THE sha256 OF THE DUMP (.gsa) THAT YtbpcdmjjdnjmbaaProg.lean LOADS. Nothing in Lean hashes anything: it is a label: what it is worth is what the hold of that sum in a sandbox is worth. -/
noncomputable def Try.pinned : Pinned := { name := "ytbpcdmjjdnjmbaa", sum := "69ef134b0b2b95222903270b33bc880a5bc53f13271d87b0b3c2a44787b75b2c", checked := Try.checked }
namespace Rows
def none {H : Type} : Left H := { results := [], args := [] }

/-- 'ullagelaw09.SafetyFar': WHATEVER THE INPUT: true; the input reads as it did. -/
def safetyFarSpec : ChangeSpec := { name := "safetyFar", fn := fun _ => fun
  | [d1, d2, d3] => { results := [.lit (.bool true)], args := [d1, d2, d3] }
  | _ => none }
def safetyFarRow : OpenClaim := { program := "ytbpcdmjjdnjmbaa", sum := "69ef134b0b2b95222903270b33bc880a5bc53f13271d87b0b3c2a44787b75b2c", func := "ullage/ullagelaw09.SafetyFar", spec := "safetyFar", inPlace := ["math/bits.Sub64", "math/bits.Add64"], unfollowed := true, recurses := true, named := ["math/bits.divideError", "math/bits.overflowError"], apart := false }
def SafetyFarSaid : Prop := safetyFarRow.holds Try.pinned (OpenSpec.ofChange safetyFarSpec)

/-- ITS FALSE NEIGHBOUR: 'it returns false'. Refute it at one input. -/
def safetyFarWrong : ChangeSpec := { name := "safetyFar", fn := fun _ => fun
  | [d1, d2, d3] => { results := [.lit (.bool false)], args := [d1, d2, d3] }
  | _ => none }
def SafetyFarWrongFalsely : Prop := safetyFarRow.holds Try.pinned (OpenSpec.ofChange safetyFarWrong)

/-- 'ullagelaw09.SafetyFalls': WHATEVER THE INPUT: true; the input reads as it did. -/
def safetyFallsSpec : ChangeSpec := { name := "safetyFalls", fn := fun _ => fun
  | [d] => { results := [.lit (.bool true)], args := [d] }
  | _ => none }
def safetyFallsRow : OpenClaim := { program := "ytbpcdmjjdnjmbaa", sum := "69ef134b0b2b95222903270b33bc880a5bc53f13271d87b0b3c2a44787b75b2c", func := "ullage/ullagelaw09.SafetyFalls", spec := "safetyFalls", inPlace := ["math/bits.Sub64", "math/bits.Add64"], unfollowed := true, recurses := true, named := ["math/bits.divideError", "math/bits.overflowError"], apart := false }
def SafetyFallsSaid : Prop := safetyFallsRow.holds Try.pinned (OpenSpec.ofChange safetyFallsSpec)

/-- ITS FALSE NEIGHBOUR: 'it returns false'. Refute it at one input. -/
def safetyFallsWrong : ChangeSpec := { name := "safetyFalls", fn := fun _ => fun
  | [d] => { results := [.lit (.bool false)], args := [d] }
  | _ => none }
def SafetyFallsWrongFalsely : Prop := safetyFallsRow.holds Try.pinned (OpenSpec.ofChange safetyFallsWrong)

/-- 'ullagelaw09.SafetyQuiet': WHATEVER THE INPUT: true; the input reads as it did. -/
def safetyQuietSpec : ChangeSpec := { name := "safetyQuiet", fn := fun _ => fun
  | [d1, d2] => { results := [.lit (.bool true)], args := [d1, d2] }
  | _ => none }
def safetyQuietRow : OpenClaim := { program := "ytbpcdmjjdnjmbaa", sum := "69ef134b0b2b95222903270b33bc880a5bc53f13271d87b0b3c2a44787b75b2c", func := "ullage/ullagelaw09.SafetyQuiet", spec := "safetyQuiet", inPlace := ["math/bits.Sub64", "math/bits.Add64"], unfollowed := true, recurses := true, named := ["math/bits.divideError", "math/bits.overflowError"], apart := false }
def SafetyQuietSaid : Prop := safetyQuietRow.holds Try.pinned (OpenSpec.ofChange safetyQuietSpec)

/-- ITS FALSE NEIGHBOUR: 'it returns false'. Refute it at one input. -/
def safetyQuietWrong : ChangeSpec := { name := "safetyQuiet", fn := fun _ => fun
  | [d1, d2] => { results := [.lit (.bool false)], args := [d1, d2] }
  | _ => none }
def SafetyQuietWrongFalsely : Prop := safetyQuietRow.holds Try.pinned (OpenSpec.ofChange safetyQuietWrong)

/-- 'ullagelaw09.SafetyZones': WHATEVER THE INPUT: true; the input reads as it did. -/
def safetyZonesSpec : ChangeSpec := { name := "safetyZones", fn := fun _ => fun
  | [d1, d2] => { results := [.lit (.bool true)], args := [d1, d2] }
  | _ => none }
def safetyZonesRow : OpenClaim := { program := "ytbpcdmjjdnjmbaa", sum := "69ef134b0b2b95222903270b33bc880a5bc53f13271d87b0b3c2a44787b75b2c", func := "ullage/ullagelaw09.SafetyZones", spec := "safetyZones", inPlace := ["math/bits.Sub64", "math/bits.Add64"], unfollowed := true, recurses := true, named := ["math/bits.divideError", "math/bits.overflowError"], apart := false }
def SafetyZonesSaid : Prop := safetyZonesRow.holds Try.pinned (OpenSpec.ofChange safetyZonesSpec)

/-- ITS FALSE NEIGHBOUR: 'it returns false'. Refute it at one input. -/
def safetyZonesWrong : ChangeSpec := { name := "safetyZones", fn := fun _ => fun
  | [d1, d2] => { results := [.lit (.bool false)], args := [d1, d2] }
  | _ => none }
def SafetyZonesWrongFalsely : Prop := safetyZonesRow.holds Try.pinned (OpenSpec.ofChange safetyZonesWrong)

/-- 'ullagelaw09.SafetyHolds': WHATEVER THE INPUT: true; the input reads as it did. -/
def safetyHoldsSpec : ChangeSpec := { name := "safetyHolds", fn := fun _ => fun
  | [d1, d2, d3] => { results := [.lit (.bool true)], args := [d1, d2, d3] }
  | _ => none }
def safetyHoldsRow : OpenClaim := { program := "ytbpcdmjjdnjmbaa", sum := "69ef134b0b2b95222903270b33bc880a5bc53f13271d87b0b3c2a44787b75b2c", func := "ullage/ullagelaw09.SafetyHolds", spec := "safetyHolds", inPlace := ["math/bits.Sub64", "math/bits.Add64"], unfollowed := true, recurses := true, named := ["math/bits.divideError", "math/bits.overflowError"], apart := false }
def SafetyHoldsSaid : Prop := safetyHoldsRow.holds Try.pinned (OpenSpec.ofChange safetyHoldsSpec)

/-- ITS FALSE NEIGHBOUR: 'it returns false'. Refute it at one input. -/
def safetyHoldsWrong : ChangeSpec := { name := "safetyHolds", fn := fun _ => fun
  | [d1, d2, d3] => { results := [.lit (.bool false)], args := [d1, d2, d3] }
  | _ => none }
def SafetyHoldsWrongFalsely : Prop := safetyHoldsRow.holds Try.pinned (OpenSpec.ofChange safetyHoldsWrong)

/-- 'ullagelaw09.SafetySwift': WHATEVER THE INPUT: true; the input reads as it did. -/
def safetySwiftSpec : ChangeSpec := { name := "safetySwift", fn := fun _ => fun
  | [d1, d2] => { results := [.lit (.bool true)], args := [d1, d2] }
  | _ => none }
def safetySwiftRow : OpenClaim := { program := "ytbpcdmjjdnjmbaa", sum := "69ef134b0b2b95222903270b33bc880a5bc53f13271d87b0b3c2a44787b75b2c", func := "ullage/ullagelaw09.SafetySwift", spec := "safetySwift", inPlace := ["math/bits.Sub64", "math/bits.Add64"], unfollowed := true, recurses := true, named := ["math/bits.divideError", "math/bits.overflowError"], apart := false }
def SafetySwiftSaid : Prop := safetySwiftRow.holds Try.pinned (OpenSpec.ofChange safetySwiftSpec)

/-- ITS FALSE NEIGHBOUR: 'it returns false'. Refute it at one input. -/
def safetySwiftWrong : ChangeSpec := { name := "safetySwift", fn := fun _ => fun
  | [d1, d2] => { results := [.lit (.bool false)], args := [d1, d2] }
  | _ => none }
def SafetySwiftWrongFalsely : Prop := safetySwiftRow.holds Try.pinned (OpenSpec.ofChange safetySwiftWrong)

/-- 'ullagelaw09.SafetyClears': WHATEVER THE INPUT: true; the input reads as it did. -/
def safetyClearsSpec : ChangeSpec := { name := "safetyClears", fn := fun _ => fun
  | [d1, d2, d3] => { results := [.lit (.bool true)], args := [d1, d2, d3] }
  | _ => none }
def safetyClearsRow : OpenClaim := { program := "ytbpcdmjjdnjmbaa", sum := "69ef134b0b2b95222903270b33bc880a5bc53f13271d87b0b3c2a44787b75b2c", func := "ullage/ullagelaw09.SafetyClears", spec := "safetyClears", inPlace := ["math/bits.Sub64", "math/bits.Add64"], unfollowed := true, recurses := true, named := ["math/bits.divideError", "math/bits.overflowError"], apart := false }
def SafetyClearsSaid : Prop := safetyClearsRow.holds Try.pinned (OpenSpec.ofChange safetyClearsSpec)

/-- ITS FALSE NEIGHBOUR: 'it returns false'. Refute it at one input. -/
def safetyClearsWrong : ChangeSpec := { name := "safetyClears", fn := fun _ => fun
  | [d1, d2, d3] => { results := [.lit (.bool false)], args := [d1, d2, d3] }
  | _ => none }
def SafetyClearsWrongFalsely : Prop := safetyClearsRow.holds Try.pinned (OpenSpec.ofChange safetyClearsWrong)

/- THE SECOND FORM. 'bulk': how many values and letters a reading holds, each counted each time it is reached (what is shared counts as often as it is met; a slice's spare places count too). A statement '..UptoSaid' is the law's where the arguments, and the package variables that the reading takes, are together of bulk at most 1048576: NARROWER than '..Said'. Prove '..Said' where nothing that the law and all that it calls make is longer than what came in: it says more and counts as full. Else prove '..UptoSaid'. A law counts once. -/
mutual
def uptoBulk {H : Type} : DataW H → Nat
  | .lit (.string bytes) => bytes.length + 1
  | .lit _ => 1
  | .nil => 1
  | .ptr d => uptoBulk d + 1
  | .slice elems spare => uptoBulkAll elems + uptoBulkAll spare + 1
  | .agg parts => uptoBulkAll parts + 1
  | .iface _ d => uptoBulk d + 1
  | .map entries => uptoBulkEntries entries + 1
  | .held _ => 1
def uptoBulkAll {H : Type} : List (DataW H) → Nat
  | [] => 0
  | d :: r => uptoBulk d + uptoBulkAll r
def uptoBulkEntries {H : Type} : List (Lit × DataW H) → Nat
  | [] => 0
  | x :: r => uptoBulkEntry x + uptoBulkEntries r
def uptoBulkEntry {H : Type} : Lit × DataW H → Nat
  | (.string bytes, d) => bytes.length + uptoBulk d + 1
  | (_, d) => uptoBulk d + 1
 end
def uptoSmall : (H : Type) → List (DataW H) → Bool := fun _ ds => decide (uptoBulkAll ds ≤ 1048576)
def OpenSpec.upto (s : _root_.Go.ChangeSpec) : _root_.Go.OpenSpec := { _root_.Go.OpenSpec.ofChange s with cond := some uptoSmall }

/-- 'ullagelaw09.SafetyFar', WHERE WHAT IT READS IS OF BULK AT MOST 1048576: true; the input reads as it did. -/
def safetyFarUptoRow : OpenClaim := { program := "ytbpcdmjjdnjmbaa", sum := "69ef134b0b2b95222903270b33bc880a5bc53f13271d87b0b3c2a44787b75b2c", func := "ullage/ullagelaw09.SafetyFar", spec := "safetyFar", inPlace := ["math/bits.Sub64", "math/bits.Add64"], unfollowed := true, recurses := true, named := ["math/bits.divideError", "math/bits.overflowError"], apart := false, narrowed := true }
def SafetyFarUptoSaid : Prop := safetyFarUptoRow.holds Try.pinned (OpenSpec.upto safetyFarSpec)

/-- 'ullagelaw09.SafetyFalls', WHERE WHAT IT READS IS OF BULK AT MOST 1048576: true; the input reads as it did. -/
def safetyFallsUptoRow : OpenClaim := { program := "ytbpcdmjjdnjmbaa", sum := "69ef134b0b2b95222903270b33bc880a5bc53f13271d87b0b3c2a44787b75b2c", func := "ullage/ullagelaw09.SafetyFalls", spec := "safetyFalls", inPlace := ["math/bits.Sub64", "math/bits.Add64"], unfollowed := true, recurses := true, named := ["math/bits.divideError", "math/bits.overflowError"], apart := false, narrowed := true }
def SafetyFallsUptoSaid : Prop := safetyFallsUptoRow.holds Try.pinned (OpenSpec.upto safetyFallsSpec)

/-- 'ullagelaw09.SafetyQuiet', WHERE WHAT IT READS IS OF BULK AT MOST 1048576: true; the input reads as it did. -/
def safetyQuietUptoRow : OpenClaim := { program := "ytbpcdmjjdnjmbaa", sum := "69ef134b0b2b95222903270b33bc880a5bc53f13271d87b0b3c2a44787b75b2c", func := "ullage/ullagelaw09.SafetyQuiet", spec := "safetyQuiet", inPlace := ["math/bits.Sub64", "math/bits.Add64"], unfollowed := true, recurses := true, named := ["math/bits.divideError", "math/bits.overflowError"], apart := false, narrowed := true }
def SafetyQuietUptoSaid : Prop := safetyQuietUptoRow.holds Try.pinned (OpenSpec.upto safetyQuietSpec)

/-- 'ullagelaw09.SafetyZones', WHERE WHAT IT READS IS OF BULK AT MOST 1048576: true; the input reads as it did. -/
def safetyZonesUptoRow : OpenClaim := { program := "ytbpcdmjjdnjmbaa", sum := "69ef134b0b2b95222903270b33bc880a5bc53f13271d87b0b3c2a44787b75b2c", func := "ullage/ullagelaw09.SafetyZones", spec := "safetyZones", inPlace := ["math/bits.Sub64", "math/bits.Add64"], unfollowed := true, recurses := true, named := ["math/bits.divideError", "math/bits.overflowError"], apart := false, narrowed := true }
def SafetyZonesUptoSaid : Prop := safetyZonesUptoRow.holds Try.pinned (OpenSpec.upto safetyZonesSpec)

/-- 'ullagelaw09.SafetyHolds', WHERE WHAT IT READS IS OF BULK AT MOST 1048576: true; the input reads as it did. -/
def safetyHoldsUptoRow : OpenClaim := { program := "ytbpcdmjjdnjmbaa", sum := "69ef134b0b2b95222903270b33bc880a5bc53f13271d87b0b3c2a44787b75b2c", func := "ullage/ullagelaw09.SafetyHolds", spec := "safetyHolds", inPlace := ["math/bits.Sub64", "math/bits.Add64"], unfollowed := true, recurses := true, named := ["math/bits.divideError", "math/bits.overflowError"], apart := false, narrowed := true }
def SafetyHoldsUptoSaid : Prop := safetyHoldsUptoRow.holds Try.pinned (OpenSpec.upto safetyHoldsSpec)

/-- 'ullagelaw09.SafetySwift', WHERE WHAT IT READS IS OF BULK AT MOST 1048576: true; the input reads as it did. -/
def safetySwiftUptoRow : OpenClaim := { program := "ytbpcdmjjdnjmbaa", sum := "69ef134b0b2b95222903270b33bc880a5bc53f13271d87b0b3c2a44787b75b2c", func := "ullage/ullagelaw09.SafetySwift", spec := "safetySwift", inPlace := ["math/bits.Sub64", "math/bits.Add64"], unfollowed := true, recurses := true, named := ["math/bits.divideError", "math/bits.overflowError"], apart := false, narrowed := true }
def SafetySwiftUptoSaid : Prop := safetySwiftUptoRow.holds Try.pinned (OpenSpec.upto safetySwiftSpec)

/-- 'ullagelaw09.SafetyClears', WHERE WHAT IT READS IS OF BULK AT MOST 1048576: true; the input reads as it did. -/
def safetyClearsUptoRow : OpenClaim := { program := "ytbpcdmjjdnjmbaa", sum := "69ef134b0b2b95222903270b33bc880a5bc53f13271d87b0b3c2a44787b75b2c", func := "ullage/ullagelaw09.SafetyClears", spec := "safetyClears", inPlace := ["math/bits.Sub64", "math/bits.Add64"], unfollowed := true, recurses := true, named := ["math/bits.divideError", "math/bits.overflowError"], apart := false, narrowed := true }
def SafetyClearsUptoSaid : Prop := safetyClearsUptoRow.holds Try.pinned (OpenSpec.upto safetyClearsSpec)

end Rows
end Go.Proofs.Ytbpcdmjjdnjmbaa
