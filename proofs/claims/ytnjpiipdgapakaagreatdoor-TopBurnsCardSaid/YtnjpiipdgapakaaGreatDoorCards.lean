/-
  DERIVED. GIVEN WITH THE SEED: THE CARDS: each row of YtnjpiipdgapakaaGreatDoorRows.lean that lists a variable, with what it lists TIED to the program's text (the seventh form; the later family's looks); each row that meets fmt, with fmt's text TOLD by the authors' own Lean function (tested against real Go, not proved from fmt's source: count such statements apart). THE CARD IS WHAT COUNTS. Prove the row's statement (the work); the ties are given (YtnjpiipdgapakaaGreatDoorTie.lean); close each card by the builder's one call (the guide's Derived/Test/ToyasCard.lean, 'card_holds'). Laid BY PROGRAM, IN A SANDBOX (cutbox-door.mjs). By AI agents, Wed Nov 11 2026. No macro, syntax, notation, axiom, sorry.
-/
import Derived.Test.YtnjpiipdgapakaaGreatDoorRows
import GoSem.ClaimSeven
namespace Go.Proofs.YtnjpiipdgapakaaGreatDoor
namespace Rows

/-- THE TIED CARD OF 'ullagetop.TopBurns'. -/
def topBurnsCard : Claim7 := { stood := { row := topBurnsRow, standIns := [], harness := (true, "6cd66a9522d2ca84c12172d71a28e7c590d20f289c11cc86e9f42267d4450d51"), looks := false }, kinds := [], alts := [], laidByText := true, laidKinds := [.data, .listed, .data, .widerDeep, .widerDeep, .data, .pinned], laidTests := true, laidLooks := .later }
def TopBurnsCardSaid : Prop := Claim7.holds Tryz.pinned (.plain (OpenSpec.ofChange topBurnsSpec)) topBurnsCard

/-- THE SECOND FORM's CARD OF 'ullagetop.TopBurns'. -/
def topBurnsUptoCard : Claim7 := { stood := { row := topBurnsUptoRow, standIns := [], harness := (true, "6cd66a9522d2ca84c12172d71a28e7c590d20f289c11cc86e9f42267d4450d51"), looks := false }, kinds := [], alts := [], laidByText := true, laidKinds := [.data, .listed, .data, .widerDeep, .widerDeep, .data, .pinned], laidTests := true, laidLooks := .later }
def TopBurnsUptoCardSaid : Prop := Claim7.holds Tryz.pinned (.plain (OpenSpec.upto topBurnsSpec)) topBurnsUptoCard
end Rows
end Go.Proofs.YtnjpiipdgapakaaGreatDoor
