/-
  DERIVED. GIVEN WITH THE SEED: THE CARDS: each row of YtcoakpdafpclpaaGreatDoorRows.lean that lists a variable, with what it lists TIED to the program's text (the seventh form; the later family's looks); each row that meets fmt, with fmt's text TOLD by the authors' own Lean function (tested against real Go, not proved from fmt's source: count such statements apart). THE CARD IS WHAT COUNTS. Prove the row's statement (the work); the ties are given (YtcoakpdafpclpaaGreatDoorTie.lean); close each card by the builder's one call (the guide's Derived/Test/ToyasCard.lean, 'card_holds'). Laid BY PROGRAM, IN A SANDBOX (cutbox-door.mjs). By AI agents, Wed Nov 11 2026. No macro, syntax, notation, axiom, sorry.
-/
import Derived.Test.YtcoakpdafpclpaaGreatDoorRows
import GoSem.ClaimSeven
namespace Go.Proofs.YtcoakpdafpclpaaGreatDoor
namespace Rows

/-- THE TIED CARD OF 'ullagelaw01.SpanNames'. -/
def spanNamesCard : Claim7 := { stood := { row := spanNamesRow, standIns := [], harness := (true, "9d5267d194381564a257f0186716dd38d274798e64644d95b27fcf82ce6f1513"), looks := false }, kinds := [], alts := [], laidByText := true, laidKinds := [.data, .data, .data, .data, .pinned], laidTests := true, laidLooks := .later }
def SpanNamesCardSaid : Prop := Claim7.holds Tryz.pinned (.plain (OpenSpec.ofChange spanNamesSpec)) spanNamesCard

/-- THE SECOND FORM's CARD OF 'ullagelaw01.SpanNames'. -/
def spanNamesUptoCard : Claim7 := { stood := { row := spanNamesUptoRow, standIns := [], harness := (true, "9d5267d194381564a257f0186716dd38d274798e64644d95b27fcf82ce6f1513"), looks := false }, kinds := [], alts := [], laidByText := true, laidKinds := [.data, .data, .data, .data, .pinned], laidTests := true, laidLooks := .later }
def SpanNamesUptoCardSaid : Prop := Claim7.holds Tryz.pinned (.plain (OpenSpec.upto spanNamesSpec)) spanNamesUptoCard
end Rows
end Go.Proofs.YtcoakpdafpclpaaGreatDoor
