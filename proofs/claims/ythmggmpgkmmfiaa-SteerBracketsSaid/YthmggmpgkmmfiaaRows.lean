/-
  No cell of these rows narrows 'for every input' (looked for: loops, veiled, ifaces, maps, wideKeys, modest, calm, conditions, laid).
  DERIVED. THE GIVEN ROWS OF THIS SEAT. 5 by the template 'for every input the law returns true; each argument reads behind the call as it read before'; 0 by the template 'total and deterministic' (their statements: YthmggmpgkmmfiaaTotals.lean).
  GIVEN WITH THE SEED: the statements are not yours to turn. If you find one false, say at which input.
  Laid BY PROGRAM, IN A SANDBOX (cutbox-rows.mjs): the forced cells as the released guide's own fill.sh prints them over the translation dc2fcb2d3ef7c312… (all of the seat's roots in one cut). By AI agents, Wed Nov 11 2026. No macro, syntax, notation, axiom, sorry.
-/
import Derived.Test.YthmggmpgkmmfiaaChecked
import GoSem.Claim
import GoSem.ClaimJoined
import GoSem.ClaimMapViews
import Derived.JoinedTies
import Derived.KernelRfl
namespace Go.Proofs.Ythmggmpgkmmfiaa
/- THE CELL 'sum', in the pinned program and in every row, IS THE sha256 OF THE DUMP (.gsa) THAT YthmggmpgkmmfiaaProg.lean LOADS. Nothing in Lean hashes anything: it is a label: what it is worth is what the hold of that sum in a sandbox is worth. -/
noncomputable def Try.pinned : Pinned := { name := "ythmggmpgkmmfiaa", sum := "dc2fcb2d3ef7c31206dc2e33a90879125f1830c5c7088df80c4a510f98b06683", checked := Try.checked }
namespace Rows
def none {H : Type} : Left H := { results := [], args := [] }

/-- 'ullagelaw05.SteerTurns': WHATEVER THE INPUT: true; the input reads as it did. -/
def steerTurnsSpec : ChangeSpec := { name := "steerTurns", fn := fun _ => fun
  | [d1, d2, d3, d4] => { results := [.lit (.bool true)], args := [d1, d2, d3, d4] }
  | _ => none }
def steerTurnsRow : OpenClaim := { program := "ythmggmpgkmmfiaa", sum := "dc2fcb2d3ef7c31206dc2e33a90879125f1830c5c7088df80c4a510f98b06683", func := "ullage/ullagelaw05.SteerTurns", spec := "steerTurns", inPlace := ["math/bits.Sub64", "math/bits.Add64"], unfollowed := true, recurses := true, named := ["math/bits.divideError", "math/bits.overflowError"], apart := false }
def SteerTurnsSaid : Prop := steerTurnsRow.holds Try.pinned (OpenSpec.ofChange steerTurnsSpec)

/-- ITS FALSE NEIGHBOUR: 'it returns false'. Refute it at one input. -/
def steerTurnsWrong : ChangeSpec := { name := "steerTurns", fn := fun _ => fun
  | [d1, d2, d3, d4] => { results := [.lit (.bool false)], args := [d1, d2, d3, d4] }
  | _ => none }
def SteerTurnsWrongFalsely : Prop := steerTurnsRow.holds Try.pinned (OpenSpec.ofChange steerTurnsWrong)

/-- 'ullagelaw05.SteerLeast': WHATEVER THE INPUT: true; the input reads as it did. -/
def steerLeastSpec : ChangeSpec := { name := "steerLeast", fn := fun _ => fun
  | [d1, d2, d3, d4, d5] => { results := [.lit (.bool true)], args := [d1, d2, d3, d4, d5] }
  | _ => none }
def steerLeastRow : OpenClaim := { program := "ythmggmpgkmmfiaa", sum := "dc2fcb2d3ef7c31206dc2e33a90879125f1830c5c7088df80c4a510f98b06683", func := "ullage/ullagelaw05.SteerLeast", spec := "steerLeast", inPlace := ["math/bits.Sub64", "math/bits.Add64"], unfollowed := true, recurses := true, named := ["math/bits.divideError", "math/bits.overflowError"], apart := false }
def SteerLeastSaid : Prop := steerLeastRow.holds Try.pinned (OpenSpec.ofChange steerLeastSpec)

/-- ITS FALSE NEIGHBOUR: 'it returns false'. Refute it at one input. -/
def steerLeastWrong : ChangeSpec := { name := "steerLeast", fn := fun _ => fun
  | [d1, d2, d3, d4, d5] => { results := [.lit (.bool false)], args := [d1, d2, d3, d4, d5] }
  | _ => none }
def SteerLeastWrongFalsely : Prop := steerLeastRow.holds Try.pinned (OpenSpec.ofChange steerLeastWrong)

/-- 'ullagelaw05.SteerLands': WHATEVER THE INPUT: true; the input reads as it did. -/
def steerLandsSpec : ChangeSpec := { name := "steerLands", fn := fun _ => fun
  | [d] => { results := [.lit (.bool true)], args := [d] }
  | _ => none }
def steerLandsRow : OpenClaim := { program := "ythmggmpgkmmfiaa", sum := "dc2fcb2d3ef7c31206dc2e33a90879125f1830c5c7088df80c4a510f98b06683", func := "ullage/ullagelaw05.SteerLands", spec := "steerLands", inPlace := ["math/bits.Sub64", "math/bits.Add64"], unfollowed := true, recurses := true, named := ["math/bits.divideError", "math/bits.overflowError"], apart := false }
def SteerLandsSaid : Prop := steerLandsRow.holds Try.pinned (OpenSpec.ofChange steerLandsSpec)

/-- ITS FALSE NEIGHBOUR: 'it returns false'. Refute it at one input. -/
def steerLandsWrong : ChangeSpec := { name := "steerLands", fn := fun _ => fun
  | [d] => { results := [.lit (.bool false)], args := [d] }
  | _ => none }
def SteerLandsWrongFalsely : Prop := steerLandsRow.holds Try.pinned (OpenSpec.ofChange steerLandsWrong)

/-- 'ullagelaw05.SteerLimits': WHATEVER THE INPUT: true; the input reads as it did. -/
def steerLimitsSpec : ChangeSpec := { name := "steerLimits", fn := fun _ => fun
  | [d1, d2, d3, d4, d5] => { results := [.lit (.bool true)], args := [d1, d2, d3, d4, d5] }
  | _ => none }
def steerLimitsRow : OpenClaim := { program := "ythmggmpgkmmfiaa", sum := "dc2fcb2d3ef7c31206dc2e33a90879125f1830c5c7088df80c4a510f98b06683", func := "ullage/ullagelaw05.SteerLimits", spec := "steerLimits", inPlace := ["math/bits.Sub64", "math/bits.Add64"], unfollowed := true, recurses := true, named := ["math/bits.divideError", "math/bits.overflowError"], apart := false }
def SteerLimitsSaid : Prop := steerLimitsRow.holds Try.pinned (OpenSpec.ofChange steerLimitsSpec)

/-- ITS FALSE NEIGHBOUR: 'it returns false'. Refute it at one input. -/
def steerLimitsWrong : ChangeSpec := { name := "steerLimits", fn := fun _ => fun
  | [d1, d2, d3, d4, d5] => { results := [.lit (.bool false)], args := [d1, d2, d3, d4, d5] }
  | _ => none }
def SteerLimitsWrongFalsely : Prop := steerLimitsRow.holds Try.pinned (OpenSpec.ofChange steerLimitsWrong)

/-- 'ullagelaw05.SteerBrackets': WHATEVER THE INPUT: true; the input reads as it did. -/
def steerBracketsSpec : ChangeSpec := { name := "steerBrackets", fn := fun _ => fun
  | [d1, d2, d3, d4, d5] => { results := [.lit (.bool true)], args := [d1, d2, d3, d4, d5] }
  | _ => none }
def steerBracketsRow : OpenClaim := { program := "ythmggmpgkmmfiaa", sum := "dc2fcb2d3ef7c31206dc2e33a90879125f1830c5c7088df80c4a510f98b06683", func := "ullage/ullagelaw05.SteerBrackets", spec := "steerBrackets", inPlace := ["math/bits.Sub64", "math/bits.Add64"], unfollowed := true, recurses := true, named := ["math/bits.divideError", "math/bits.overflowError"], apart := false }
def SteerBracketsSaid : Prop := steerBracketsRow.holds Try.pinned (OpenSpec.ofChange steerBracketsSpec)

/-- ITS FALSE NEIGHBOUR: 'it returns false'. Refute it at one input. -/
def steerBracketsWrong : ChangeSpec := { name := "steerBrackets", fn := fun _ => fun
  | [d1, d2, d3, d4, d5] => { results := [.lit (.bool false)], args := [d1, d2, d3, d4, d5] }
  | _ => none }
def SteerBracketsWrongFalsely : Prop := steerBracketsRow.holds Try.pinned (OpenSpec.ofChange steerBracketsWrong)

/- THE SECOND FORM. 'bulk': how many values and letters a reading holds, each counted each time it is reached (what is shared counts as often as it is met; a slice's spare places count too). A statement '..UptoSaid' is the law's where the arguments, and the package variables that the reading takes, are together of bulk at most 1048576: NARROWER than '..Said'. Prove '..Said' where nothing that the law and all that it calls make is longer than what came in: it says more and counts as full. Else prove '..UptoSaid'. A law counts once. -/
mutual
def uptoBulk {H : Type} : DataW H → Nat
  | .lit (.string bytes) => bytes.length + 1
  | .lit _ => 1
  | .nil => 1
  | .ptr d => uptoBulk d + 1
  | .slice elems spare => uptoBulkAll elems + uptoBulkAll spare + 1
  | .agg parts => uptoBulkAll parts + 1
  | .iface _ d => uptoBulk d + 1
  | .map entries => uptoBulkEntries entries + 1
  | .held _ => 1
def uptoBulkAll {H : Type} : List (DataW H) → Nat
  | [] => 0
  | d :: r => uptoBulk d + uptoBulkAll r
def uptoBulkEntries {H : Type} : List (Lit × DataW H) → Nat
  | [] => 0
  | x :: r => uptoBulkEntry x + uptoBulkEntries r
def uptoBulkEntry {H : Type} : Lit × DataW H → Nat
  | (.string bytes, d) => bytes.length + uptoBulk d + 1
  | (_, d) => uptoBulk d + 1
 end
def uptoSmall : (H : Type) → List (DataW H) → Bool := fun _ ds => decide (uptoBulkAll ds ≤ 1048576)
def OpenSpec.upto (s : _root_.Go.ChangeSpec) : _root_.Go.OpenSpec := { _root_.Go.OpenSpec.ofChange s with cond := some uptoSmall }

/-- 'ullagelaw05.SteerTurns', WHERE WHAT IT READS IS OF BULK AT MOST 1048576: true; the input reads as it did. -/
def steerTurnsUptoRow : OpenClaim := { program := "ythmggmpgkmmfiaa", sum := "dc2fcb2d3ef7c31206dc2e33a90879125f1830c5c7088df80c4a510f98b06683", func := "ullage/ullagelaw05.SteerTurns", spec := "steerTurns", inPlace := ["math/bits.Sub64", "math/bits.Add64"], unfollowed := true, recurses := true, named := ["math/bits.divideError", "math/bits.overflowError"], apart := false, narrowed := true }
def SteerTurnsUptoSaid : Prop := steerTurnsUptoRow.holds Try.pinned (OpenSpec.upto steerTurnsSpec)

/-- 'ullagelaw05.SteerLeast', WHERE WHAT IT READS IS OF BULK AT MOST 1048576: true; the input reads as it did. -/
def steerLeastUptoRow : OpenClaim := { program := "ythmggmpgkmmfiaa", sum := "dc2fcb2d3ef7c31206dc2e33a90879125f1830c5c7088df80c4a510f98b06683", func := "ullage/ullagelaw05.SteerLeast", spec := "steerLeast", inPlace := ["math/bits.Sub64", "math/bits.Add64"], unfollowed := true, recurses := true, named := ["math/bits.divideError", "math/bits.overflowError"], apart := false, narrowed := true }
def SteerLeastUptoSaid : Prop := steerLeastUptoRow.holds Try.pinned (OpenSpec.upto steerLeastSpec)

/-- 'ullagelaw05.SteerLands', WHERE WHAT IT READS IS OF BULK AT MOST 1048576: true; the input reads as it did. -/
def steerLandsUptoRow : OpenClaim := { program := "ythmggmpgkmmfiaa", sum := "dc2fcb2d3ef7c31206dc2e33a90879125f1830c5c7088df80c4a510f98b06683", func := "ullage/ullagelaw05.SteerLands", spec := "steerLands", inPlace := ["math/bits.Sub64", "math/bits.Add64"], unfollowed := true, recurses := true, named := ["math/bits.divideError", "math/bits.overflowError"], apart := false, narrowed := true }
def SteerLandsUptoSaid : Prop := steerLandsUptoRow.holds Try.pinned (OpenSpec.upto steerLandsSpec)

/-- 'ullagelaw05.SteerLimits', WHERE WHAT IT READS IS OF BULK AT MOST 1048576: true; the input reads as it did. -/
def steerLimitsUptoRow : OpenClaim := { program := "ythmggmpgkmmfiaa", sum := "dc2fcb2d3ef7c31206dc2e33a90879125f1830c5c7088df80c4a510f98b06683", func := "ullage/ullagelaw05.SteerLimits", spec := "steerLimits", inPlace := ["math/bits.Sub64", "math/bits.Add64"], unfollowed := true, recurses := true, named := ["math/bits.divideError", "math/bits.overflowError"], apart := false, narrowed := true }
def SteerLimitsUptoSaid : Prop := steerLimitsUptoRow.holds Try.pinned (OpenSpec.upto steerLimitsSpec)

/-- 'ullagelaw05.SteerBrackets', WHERE WHAT IT READS IS OF BULK AT MOST 1048576: true; the input reads as it did. -/
def steerBracketsUptoRow : OpenClaim := { program := "ythmggmpgkmmfiaa", sum := "dc2fcb2d3ef7c31206dc2e33a90879125f1830c5c7088df80c4a510f98b06683", func := "ullage/ullagelaw05.SteerBrackets", spec := "steerBrackets", inPlace := ["math/bits.Sub64", "math/bits.Add64"], unfollowed := true, recurses := true, named := ["math/bits.divideError", "math/bits.overflowError"], apart := false, narrowed := true }
def SteerBracketsUptoSaid : Prop := steerBracketsUptoRow.holds Try.pinned (OpenSpec.upto steerBracketsSpec)

end Rows
end Go.Proofs.Ythmggmpgkmmfiaa
