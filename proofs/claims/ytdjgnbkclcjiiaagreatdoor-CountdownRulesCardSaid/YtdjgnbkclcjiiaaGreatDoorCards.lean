/-
  DERIVED. GIVEN WITH THE SEED: THE CARDS: each row of YtdjgnbkclcjiiaaGreatDoorRows.lean that lists a variable, with what it lists TIED to the program's text (the seventh form; the later family's looks); each row that meets fmt, with fmt's text TOLD by the authors' own Lean function (tested against real Go, not proved from fmt's source: count such statements apart). THE CARD IS WHAT COUNTS. Prove the row's statement (the work); the ties are given (YtdjgnbkclcjiiaaGreatDoorTie.lean); close each card by the builder's one call (the guide's Derived/Test/ToyasCard.lean, 'card_holds'). Laid BY PROGRAM, IN A SANDBOX (cutbox-door.mjs). By AI agents, Wed Nov 11 2026. No macro, syntax, notation, axiom, sorry.
-/
import Derived.Test.YtdjgnbkclcjiiaaGreatDoorRows
import GoSem.ClaimSeven
namespace Go.Proofs.YtdjgnbkclcjiiaaGreatDoor
namespace Rows

/-- THE TIED CARD OF 'ullagelaw10.CountdownLeads'. -/
def countdownLeadsCard : Claim7 := { stood := { row := countdownLeadsRow, standIns := [], harness := (true, "ef96ca74f71b0ee8ce9853d0d866aaeea865ad5ede2820f0fe13a0ac09cf6ca3"), looks := true }, kinds := [], alts := [], laidByText := true, laidKinds := [.data, .data, .data, .sentinel, .sentinel, .data, .widerDeep, .funcs, .widerDeep], laidTests := true, laidLooks := .later }
def CountdownLeadsCardSaid : Prop := Claim7.holds Tryz.pinned (.plain (OpenSpec.ofChange countdownLeadsSpec)) countdownLeadsCard

/-- THE TIED CARD OF 'ullagelaw10.CountdownRules'. -/
def countdownRulesCard : Claim7 := { stood := { row := countdownRulesRow, standIns := [], harness := (true, "ef96ca74f71b0ee8ce9853d0d866aaeea865ad5ede2820f0fe13a0ac09cf6ca3"), looks := true }, kinds := [], alts := [], laidByText := true, laidKinds := [.data, .data, .data, .sentinel, .sentinel, .data, .widerDeep, .funcs, .widerDeep], laidTests := true, laidLooks := .later }
def CountdownRulesCardSaid : Prop := Claim7.holds Tryz.pinned (.plain (OpenSpec.ofChange countdownRulesSpec)) countdownRulesCard

/-- THE TIED CARD OF 'ullagelaw10.CountdownReads'. -/
def countdownReadsCard : Claim7 := { stood := { row := countdownReadsRow, standIns := [], harness := (true, "ef96ca74f71b0ee8ce9853d0d866aaeea865ad5ede2820f0fe13a0ac09cf6ca3"), looks := true }, kinds := [], alts := [], laidByText := true, laidKinds := [.data, .data, .data, .sentinel, .sentinel, .data, .widerDeep, .funcs, .widerDeep], laidTests := true, laidLooks := .later }
def CountdownReadsCardSaid : Prop := Claim7.holds Tryz.pinned (.plain (OpenSpec.ofChange countdownReadsSpec)) countdownReadsCard

/-- THE TIED CARD OF 'ullagelaw10.CountdownJudges'. -/
def countdownJudgesCard : Claim7 := { stood := { row := countdownJudgesRow, standIns := [], harness := (true, "ef96ca74f71b0ee8ce9853d0d866aaeea865ad5ede2820f0fe13a0ac09cf6ca3"), looks := true }, kinds := [], alts := [], laidByText := true, laidKinds := [.data, .data, .data, .sentinel, .sentinel, .data, .widerDeep, .funcs, .widerDeep], laidTests := true, laidLooks := .later }
def CountdownJudgesCardSaid : Prop := Claim7.holds Tryz.pinned (.plain (OpenSpec.ofChange countdownJudgesSpec)) countdownJudgesCard

/-- THE TIED CARD OF 'ullagelaw10.CountdownTurns'. -/
def countdownTurnsCard : Claim7 := { stood := { row := countdownTurnsRow, standIns := [], harness := (true, "ef96ca74f71b0ee8ce9853d0d866aaeea865ad5ede2820f0fe13a0ac09cf6ca3"), looks := true }, kinds := [], alts := [], laidByText := true, laidKinds := [.data, .data, .data, .sentinel, .sentinel, .data, .widerDeep, .funcs, .widerDeep], laidTests := true, laidLooks := .later }
def CountdownTurnsCardSaid : Prop := Claim7.holds Tryz.pinned (.plain (OpenSpec.ofChange countdownTurnsSpec)) countdownTurnsCard

/-- THE TIED CARD OF 'ullagelaw10.CountdownKnows'. -/
def countdownKnowsCard : Claim7 := { stood := { row := countdownKnowsRow, standIns := [], harness := (true, "ef96ca74f71b0ee8ce9853d0d866aaeea865ad5ede2820f0fe13a0ac09cf6ca3"), looks := true }, kinds := [], alts := [], laidByText := true, laidKinds := [.data, .data, .data, .sentinel, .sentinel, .data, .widerDeep, .funcs, .widerDeep], laidTests := true, laidLooks := .later }
def CountdownKnowsCardSaid : Prop := Claim7.holds Tryz.pinned (.plain (OpenSpec.ofChange countdownKnowsSpec)) countdownKnowsCard

/-- THE TIED CARD OF 'ullagelaw10.CountdownBetween'. -/
def countdownBetweenCard : Claim7 := { stood := { row := countdownBetweenRow, standIns := [], harness := (true, "ef96ca74f71b0ee8ce9853d0d866aaeea865ad5ede2820f0fe13a0ac09cf6ca3"), looks := true }, kinds := [], alts := [], laidByText := true, laidKinds := [.data, .data, .data, .sentinel, .sentinel, .data, .widerDeep, .funcs, .widerDeep], laidTests := true, laidLooks := .later }
def CountdownBetweenCardSaid : Prop := Claim7.holds Tryz.pinned (.plain (OpenSpec.ofChange countdownBetweenSpec)) countdownBetweenCard

/-- THE TIED CARD OF 'ullagelaw10.CountdownHolds'. -/
def countdownHoldsCard : Claim7 := { stood := { row := countdownHoldsRow, standIns := [], harness := (true, "ef96ca74f71b0ee8ce9853d0d866aaeea865ad5ede2820f0fe13a0ac09cf6ca3"), looks := true }, kinds := [], alts := [], laidByText := true, laidKinds := [.data, .data, .data, .sentinel, .sentinel, .data, .widerDeep, .funcs, .widerDeep], laidTests := true, laidLooks := .later }
def CountdownHoldsCardSaid : Prop := Claim7.holds Tryz.pinned (.plain (OpenSpec.ofChange countdownHoldsSpec)) countdownHoldsCard

/-- THE TIED CARD OF 'ullagelaw10.CountdownFinds'. -/
def countdownFindsCard : Claim7 := { stood := { row := countdownFindsRow, standIns := [], harness := (true, "ef96ca74f71b0ee8ce9853d0d866aaeea865ad5ede2820f0fe13a0ac09cf6ca3"), looks := true }, kinds := [], alts := [], laidByText := true, laidKinds := [.data, .data, .data, .sentinel, .sentinel, .data, .widerDeep, .funcs, .widerDeep], laidTests := true, laidLooks := .later }
def CountdownFindsCardSaid : Prop := Claim7.holds Tryz.pinned (.plain (OpenSpec.ofChange countdownFindsSpec)) countdownFindsCard

/-- THE TIED CARD OF 'ullagelaw10.CountdownClock'. -/
def countdownClockCard : Claim7 := { stood := { row := countdownClockRow, standIns := [], harness := (true, "ef96ca74f71b0ee8ce9853d0d866aaeea865ad5ede2820f0fe13a0ac09cf6ca3"), looks := true }, kinds := [], alts := [], laidByText := true, laidKinds := [.data, .data, .data, .sentinel, .sentinel, .data, .widerDeep, .funcs, .widerDeep], laidTests := true, laidLooks := .later }
def CountdownClockCardSaid : Prop := Claim7.holds Tryz.pinned (.plain (OpenSpec.ofChange countdownClockSpec)) countdownClockCard

/-- THE TIED CARD OF 'ullagelaw10.CountdownSafe'. -/
def countdownSafeCard : Claim7 := { stood := { row := countdownSafeRow, standIns := [], harness := (true, "ef96ca74f71b0ee8ce9853d0d866aaeea865ad5ede2820f0fe13a0ac09cf6ca3"), looks := true }, kinds := [], alts := [], laidByText := true, laidKinds := [.data, .data, .data, .sentinel, .sentinel, .data, .widerDeep, .funcs, .widerDeep], laidTests := true, laidLooks := .later }
def CountdownSafeCardSaid : Prop := Claim7.holds Tryz.pinned (.plain (OpenSpec.ofChange countdownSafeSpec)) countdownSafeCard

/-- THE SECOND FORM's CARD OF 'ullagelaw10.CountdownLeads'. -/
def countdownLeadsUptoCard : Claim7 := { stood := { row := countdownLeadsUptoRow, standIns := [], harness := (true, "ef96ca74f71b0ee8ce9853d0d866aaeea865ad5ede2820f0fe13a0ac09cf6ca3"), looks := true }, kinds := [], alts := [], laidByText := true, laidKinds := [.data, .data, .data, .sentinel, .sentinel, .data, .widerDeep, .funcs, .widerDeep], laidTests := true, laidLooks := .later }
def CountdownLeadsUptoCardSaid : Prop := Claim7.holds Tryz.pinned (.plain (OpenSpec.upto countdownLeadsSpec)) countdownLeadsUptoCard

/-- THE SECOND FORM's CARD OF 'ullagelaw10.CountdownRules'. -/
def countdownRulesUptoCard : Claim7 := { stood := { row := countdownRulesUptoRow, standIns := [], harness := (true, "ef96ca74f71b0ee8ce9853d0d866aaeea865ad5ede2820f0fe13a0ac09cf6ca3"), looks := true }, kinds := [], alts := [], laidByText := true, laidKinds := [.data, .data, .data, .sentinel, .sentinel, .data, .widerDeep, .funcs, .widerDeep], laidTests := true, laidLooks := .later }
def CountdownRulesUptoCardSaid : Prop := Claim7.holds Tryz.pinned (.plain (OpenSpec.upto countdownRulesSpec)) countdownRulesUptoCard

/-- THE SECOND FORM's CARD OF 'ullagelaw10.CountdownReads'. -/
def countdownReadsUptoCard : Claim7 := { stood := { row := countdownReadsUptoRow, standIns := [], harness := (true, "ef96ca74f71b0ee8ce9853d0d866aaeea865ad5ede2820f0fe13a0ac09cf6ca3"), looks := true }, kinds := [], alts := [], laidByText := true, laidKinds := [.data, .data, .data, .sentinel, .sentinel, .data, .widerDeep, .funcs, .widerDeep], laidTests := true, laidLooks := .later }
def CountdownReadsUptoCardSaid : Prop := Claim7.holds Tryz.pinned (.plain (OpenSpec.upto countdownReadsSpec)) countdownReadsUptoCard

/-- THE SECOND FORM's CARD OF 'ullagelaw10.CountdownJudges'. -/
def countdownJudgesUptoCard : Claim7 := { stood := { row := countdownJudgesUptoRow, standIns := [], harness := (true, "ef96ca74f71b0ee8ce9853d0d866aaeea865ad5ede2820f0fe13a0ac09cf6ca3"), looks := true }, kinds := [], alts := [], laidByText := true, laidKinds := [.data, .data, .data, .sentinel, .sentinel, .data, .widerDeep, .funcs, .widerDeep], laidTests := true, laidLooks := .later }
def CountdownJudgesUptoCardSaid : Prop := Claim7.holds Tryz.pinned (.plain (OpenSpec.upto countdownJudgesSpec)) countdownJudgesUptoCard

/-- THE SECOND FORM's CARD OF 'ullagelaw10.CountdownTurns'. -/
def countdownTurnsUptoCard : Claim7 := { stood := { row := countdownTurnsUptoRow, standIns := [], harness := (true, "ef96ca74f71b0ee8ce9853d0d866aaeea865ad5ede2820f0fe13a0ac09cf6ca3"), looks := true }, kinds := [], alts := [], laidByText := true, laidKinds := [.data, .data, .data, .sentinel, .sentinel, .data, .widerDeep, .funcs, .widerDeep], laidTests := true, laidLooks := .later }
def CountdownTurnsUptoCardSaid : Prop := Claim7.holds Tryz.pinned (.plain (OpenSpec.upto countdownTurnsSpec)) countdownTurnsUptoCard

/-- THE SECOND FORM's CARD OF 'ullagelaw10.CountdownKnows'. -/
def countdownKnowsUptoCard : Claim7 := { stood := { row := countdownKnowsUptoRow, standIns := [], harness := (true, "ef96ca74f71b0ee8ce9853d0d866aaeea865ad5ede2820f0fe13a0ac09cf6ca3"), looks := true }, kinds := [], alts := [], laidByText := true, laidKinds := [.data, .data, .data, .sentinel, .sentinel, .data, .widerDeep, .funcs, .widerDeep], laidTests := true, laidLooks := .later }
def CountdownKnowsUptoCardSaid : Prop := Claim7.holds Tryz.pinned (.plain (OpenSpec.upto countdownKnowsSpec)) countdownKnowsUptoCard

/-- THE SECOND FORM's CARD OF 'ullagelaw10.CountdownBetween'. -/
def countdownBetweenUptoCard : Claim7 := { stood := { row := countdownBetweenUptoRow, standIns := [], harness := (true, "ef96ca74f71b0ee8ce9853d0d866aaeea865ad5ede2820f0fe13a0ac09cf6ca3"), looks := true }, kinds := [], alts := [], laidByText := true, laidKinds := [.data, .data, .data, .sentinel, .sentinel, .data, .widerDeep, .funcs, .widerDeep], laidTests := true, laidLooks := .later }
def CountdownBetweenUptoCardSaid : Prop := Claim7.holds Tryz.pinned (.plain (OpenSpec.upto countdownBetweenSpec)) countdownBetweenUptoCard

/-- THE SECOND FORM's CARD OF 'ullagelaw10.CountdownHolds'. -/
def countdownHoldsUptoCard : Claim7 := { stood := { row := countdownHoldsUptoRow, standIns := [], harness := (true, "ef96ca74f71b0ee8ce9853d0d866aaeea865ad5ede2820f0fe13a0ac09cf6ca3"), looks := true }, kinds := [], alts := [], laidByText := true, laidKinds := [.data, .data, .data, .sentinel, .sentinel, .data, .widerDeep, .funcs, .widerDeep], laidTests := true, laidLooks := .later }
def CountdownHoldsUptoCardSaid : Prop := Claim7.holds Tryz.pinned (.plain (OpenSpec.upto countdownHoldsSpec)) countdownHoldsUptoCard

/-- THE SECOND FORM's CARD OF 'ullagelaw10.CountdownFinds'. -/
def countdownFindsUptoCard : Claim7 := { stood := { row := countdownFindsUptoRow, standIns := [], harness := (true, "ef96ca74f71b0ee8ce9853d0d866aaeea865ad5ede2820f0fe13a0ac09cf6ca3"), looks := true }, kinds := [], alts := [], laidByText := true, laidKinds := [.data, .data, .data, .sentinel, .sentinel, .data, .widerDeep, .funcs, .widerDeep], laidTests := true, laidLooks := .later }
def CountdownFindsUptoCardSaid : Prop := Claim7.holds Tryz.pinned (.plain (OpenSpec.upto countdownFindsSpec)) countdownFindsUptoCard

/-- THE SECOND FORM's CARD OF 'ullagelaw10.CountdownClock'. -/
def countdownClockUptoCard : Claim7 := { stood := { row := countdownClockUptoRow, standIns := [], harness := (true, "ef96ca74f71b0ee8ce9853d0d866aaeea865ad5ede2820f0fe13a0ac09cf6ca3"), looks := true }, kinds := [], alts := [], laidByText := true, laidKinds := [.data, .data, .data, .sentinel, .sentinel, .data, .widerDeep, .funcs, .widerDeep], laidTests := true, laidLooks := .later }
def CountdownClockUptoCardSaid : Prop := Claim7.holds Tryz.pinned (.plain (OpenSpec.upto countdownClockSpec)) countdownClockUptoCard

/-- THE SECOND FORM's CARD OF 'ullagelaw10.CountdownSafe'. -/
def countdownSafeUptoCard : Claim7 := { stood := { row := countdownSafeUptoRow, standIns := [], harness := (true, "ef96ca74f71b0ee8ce9853d0d866aaeea865ad5ede2820f0fe13a0ac09cf6ca3"), looks := true }, kinds := [], alts := [], laidByText := true, laidKinds := [.data, .data, .data, .sentinel, .sentinel, .data, .widerDeep, .funcs, .widerDeep], laidTests := true, laidLooks := .later }
def CountdownSafeUptoCardSaid : Prop := Claim7.holds Tryz.pinned (.plain (OpenSpec.upto countdownSafeSpec)) countdownSafeUptoCard
end Rows
end Go.Proofs.YtdjgnbkclcjiiaaGreatDoor
