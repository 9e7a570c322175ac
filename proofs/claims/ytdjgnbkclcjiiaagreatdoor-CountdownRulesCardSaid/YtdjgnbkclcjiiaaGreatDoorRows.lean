/-
  NARROWER THAN 'FOR EVERY INPUT', by the rows' own cells (each row's printed sentence says how): CountdownLeads: loops, laid · CountdownRules: loops, laid · CountdownReads: laid · CountdownJudges: loops, laid · CountdownTurns: loops, laid · CountdownKnows: loops, laid · CountdownBetween: laid · CountdownHolds: loops, laid · CountdownFinds: loops, laid · CountdownClock: loops, laid · CountdownSafe: loops, laid.
  DERIVED. THE GIVEN ROWS OF THIS SEAT. 11 by the template 'for every input the law returns true; each argument reads behind the call as it read before'; 0 by the template 'total and deterministic' (their statements: YtdjgnbkclcjiiaaGreatDoorTotals.lean).
  GIVEN WITH THE SEED: the statements are not yours to turn. If you find one false, say at which input.
  Laid BY PROGRAM, IN A SANDBOX (cutbox-rows.mjs): the forced cells as the released guide's own fill.sh prints them over the translation cfb70090e5d7ecdb… (all of the seat's roots in one cut). By AI agents, Wed Nov 11 2026. No macro, syntax, notation, axiom, sorry.
-/
import Derived.Test.YtdjgnbkclcjiiaaGreatDoorChecked
import GoSem.Claim
import GoSem.ClaimJoined
import GoSem.ClaimMapViews
import Derived.JoinedTies
import Derived.KernelRfl
namespace Go.Proofs.YtdjgnbkclcjiiaaGreatDoor
/- THE CELL 'sum', in the pinned program and in every row, IS THE sha256 OF THE DUMP (.gsa) THAT YtdjgnbkclcjiiaaGreatDoorProg.lean LOADS. Nothing in Lean hashes anything: it is a label: what it is worth is what the hold of that sum in a sandbox is worth. -/
noncomputable def Tryz.pinned : Pinned := { name := "ytdjgnbkclcjiiaagreatdoor", sum := "cfb70090e5d7ecdb374e53c55a2a622d57da9c5601be503fab9da1044813168d", checked := Tryz.checked }
namespace Rows
def none {H : Type} : Left H := { results := [], args := [] }

/- WHAT THE LISTED PACKAGE-LEVEL VARIABLES READ AS WHEN THE CALL BEGINS. Each datum BY PROGRAM (the guide's laid-datum.mjs) off the statement by which the dump's own 'gosem.cut.vars' lays the variable. In a bare row this is a premise. The card (YtdjgnbkclcjiiaaGreatDoorCards.lean) ties it to the program's text. -/
def laid_math_bits_deBruijn32tab {H : Type} : DataW H := .agg [.lit (.int .u8 0), .lit (.int .u8 1), .lit (.int .u8 28), .lit (.int .u8 2), .lit (.int .u8 29), .lit (.int .u8 14), .lit (.int .u8 24), .lit (.int .u8 3), .lit (.int .u8 30), .lit (.int .u8 22), .lit (.int .u8 20), .lit (.int .u8 15), .lit (.int .u8 25), .lit (.int .u8 17), .lit (.int .u8 4), .lit (.int .u8 8), .lit (.int .u8 31), .lit (.int .u8 27), .lit (.int .u8 13), .lit (.int .u8 23), .lit (.int .u8 21), .lit (.int .u8 19), .lit (.int .u8 16), .lit (.int .u8 7), .lit (.int .u8 26), .lit (.int .u8 12), .lit (.int .u8 18), .lit (.int .u8 6), .lit (.int .u8 11), .lit (.int .u8 5), .lit (.int .u8 10), .lit (.int .u8 9)]
def laid_math_bits_deBruijn64tab {H : Type} : DataW H := .agg [.lit (.int .u8 0), .lit (.int .u8 1), .lit (.int .u8 56), .lit (.int .u8 2), .lit (.int .u8 57), .lit (.int .u8 49), .lit (.int .u8 28), .lit (.int .u8 3), .lit (.int .u8 61), .lit (.int .u8 58), .lit (.int .u8 42), .lit (.int .u8 50), .lit (.int .u8 38), .lit (.int .u8 29), .lit (.int .u8 17), .lit (.int .u8 4), .lit (.int .u8 62), .lit (.int .u8 47), .lit (.int .u8 59), .lit (.int .u8 36), .lit (.int .u8 45), .lit (.int .u8 43), .lit (.int .u8 51), .lit (.int .u8 22), .lit (.int .u8 53), .lit (.int .u8 39), .lit (.int .u8 33), .lit (.int .u8 30), .lit (.int .u8 24), .lit (.int .u8 18), .lit (.int .u8 12), .lit (.int .u8 5), .lit (.int .u8 63), .lit (.int .u8 55), .lit (.int .u8 48), .lit (.int .u8 27), .lit (.int .u8 60), .lit (.int .u8 41), .lit (.int .u8 37), .lit (.int .u8 16), .lit (.int .u8 46), .lit (.int .u8 35), .lit (.int .u8 44), .lit (.int .u8 21), .lit (.int .u8 52), .lit (.int .u8 32), .lit (.int .u8 23), .lit (.int .u8 11), .lit (.int .u8 54), .lit (.int .u8 26), .lit (.int .u8 40), .lit (.int .u8 15), .lit (.int .u8 34), .lit (.int .u8 20), .lit (.int .u8 31), .lit (.int .u8 10), .lit (.int .u8 25), .lit (.int .u8 14), .lit (.int .u8 19), .lit (.int .u8 9), .lit (.int .u8 13), .lit (.int .u8 8), .lit (.int .u8 7), .lit (.int .u8 6)]
def laid_internal_strconv_uint64pow10 {H : Type} : DataW H := .agg [.lit (.int .u64 1), .lit (.int .u64 10), .lit (.int .u64 100), .lit (.int .u64 1000), .lit (.int .u64 10000), .lit (.int .u64 100000), .lit (.int .u64 1000000), .lit (.int .u64 10000000), .lit (.int .u64 100000000), .lit (.int .u64 1000000000), .lit (.int .u64 10000000000), .lit (.int .u64 100000000000), .lit (.int .u64 1000000000000), .lit (.int .u64 10000000000000), .lit (.int .u64 100000000000000), .lit (.int .u64 1000000000000000), .lit (.int .u64 10000000000000000), .lit (.int .u64 100000000000000000), .lit (.int .u64 1000000000000000000), .lit (.int .u64 10000000000000000000)]
def laid_strconv_ErrRange {H : Type} : DataW H := .iface "*errors.errorString" (.ptr (.agg [.lit (.string [118, 97, 108, 117, 101, 32, 111, 117, 116, 32, 111, 102, 32, 114, 97, 110, 103, 101])]))
def laid_strconv_ErrSyntax {H : Type} : DataW H := .iface "*errors.errorString" (.ptr (.agg [.lit (.string [105, 110, 118, 97, 108, 105, 100, 32, 115, 121, 110, 116, 97, 120])]))
def laid_ullage_countdown_nothing {H : Type} : DataW H := .agg [.lit (.int .i64 (-1099511627776)), .lit (.int .i64 1099511627776)]
def laid_ullage_countdown_words {H : Type} : DataW H := .agg [.lit (.string []), .lit (.string [109, 111, 115, 116]), .lit (.string [108, 101, 97, 115, 116])]
def laid_ullage_countdown_comparisons {H : Type} : DataW H := .iface "func table" (.agg [.agg [.lit (.string [60]), .iface "func" (.lit (.string [117, 108, 108, 97, 103, 101, 47, 99, 111, 117, 110, 116, 100, 111, 119, 110, 46, 99, 111, 109, 112, 97, 114, 105, 115, 111, 110, 115, 36, 49]))], .agg [.lit (.string [60, 61]), .iface "func" (.lit (.string [117, 108, 108, 97, 103, 101, 47, 99, 111, 117, 110, 116, 100, 111, 119, 110, 46, 99, 111, 109, 112, 97, 114, 105, 115, 111, 110, 115, 36, 50]))], .agg [.lit (.string [62]), .iface "func" (.lit (.string [117, 108, 108, 97, 103, 101, 47, 99, 111, 117, 110, 116, 100, 111, 119, 110, 46, 99, 111, 109, 112, 97, 114, 105, 115, 111, 110, 115, 36, 51]))], .agg [.lit (.string [62, 61]), .iface "func" (.lit (.string [117, 108, 108, 97, 103, 101, 47, 99, 111, 117, 110, 116, 100, 111, 119, 110, 46, 99, 111, 109, 112, 97, 114, 105, 115, 111, 110, 115, 36, 52]))], .agg [.lit (.string [61, 61]), .iface "func" (.lit (.string [117, 108, 108, 97, 103, 101, 47, 99, 111, 117, 110, 116, 100, 111, 119, 110, 46, 99, 111, 109, 112, 97, 114, 105, 115, 111, 110, 115, 36, 53]))], .agg [.lit (.string [33, 61]), .iface "func" (.lit (.string [117, 108, 108, 97, 103, 101, 47, 99, 111, 117, 110, 116, 100, 111, 119, 110, 46, 99, 111, 109, 112, 97, 114, 105, 115, 111, 110, 115, 36, 54]))]])
def laid_ullage_countdown_signs {H : Type} : DataW H := .agg [.lit (.string [60, 61]), .lit (.string [62, 61]), .lit (.string [61, 61]), .lit (.string [33, 61]), .lit (.string [60]), .lit (.string [62]), .lit (.string [124]), .lit (.string [38]), .lit (.string [33]), .lit (.string [40]), .lit (.string [41]), .lit (.string [44]), .lit (.string [45])]

/-- 'ullagelaw10.CountdownLeads': WHATEVER THE INPUT: true; the input reads as it did. -/
def countdownLeadsSpec : ChangeSpec := { name := "countdownLeads", fn := fun _ => fun
  | [d1, d2] => { results := [.lit (.bool true)], args := [d1, d2] }
  | _ => none }
def countdownLeadsRow : OpenClaim := { program := "ytdjgnbkclcjiiaagreatdoor", sum := "cfb70090e5d7ecdb374e53c55a2a622d57da9c5601be503fab9da1044813168d", func := "ullage/ullagelaw10.CountdownLeads", spec := "countdownLeads", inPlace := ["slices.overlaps[ullage/api.Seen]"], unfollowed := true, recurses := true, named := ["ullage/countdown.signs", "ullage/countdown.words", "ullage/countdown.comparisons", "strconv.ErrSyntax", "strconv.ErrRange", "internal/strconv.uint64pow10", "math/bits.deBruijn32tab", "math/bits.deBruijn64tab", "ullage/countdown.nothing"], loops := true, plainKeys := false, apart := false, laid := [("math/bits.deBruijn32tab", laid_math_bits_deBruijn32tab), ("math/bits.deBruijn64tab", laid_math_bits_deBruijn64tab), ("internal/strconv.uint64pow10", laid_internal_strconv_uint64pow10), ("strconv.ErrRange", laid_strconv_ErrRange), ("strconv.ErrSyntax", laid_strconv_ErrSyntax), ("ullage/countdown.nothing", laid_ullage_countdown_nothing), ("ullage/countdown.words", laid_ullage_countdown_words), ("ullage/countdown.comparisons", laid_ullage_countdown_comparisons), ("ullage/countdown.signs", laid_ullage_countdown_signs)] }
def CountdownLeadsSaid : Prop := countdownLeadsRow.holds Tryz.pinned (OpenSpec.ofChange countdownLeadsSpec)

/-- ITS FALSE NEIGHBOUR: 'it returns false'. Refute it at one input. -/
def countdownLeadsWrong : ChangeSpec := { name := "countdownLeads", fn := fun _ => fun
  | [d1, d2] => { results := [.lit (.bool false)], args := [d1, d2] }
  | _ => none }
def CountdownLeadsWrongFalsely : Prop := countdownLeadsRow.holds Tryz.pinned (OpenSpec.ofChange countdownLeadsWrong)

/-- 'ullagelaw10.CountdownRules': WHATEVER THE INPUT: true; the input reads as it did. -/
def countdownRulesSpec : ChangeSpec := { name := "countdownRules", fn := fun _ => fun
  | [d] => { results := [.lit (.bool true)], args := [d] }
  | _ => none }
def countdownRulesRow : OpenClaim := { program := "ytdjgnbkclcjiiaagreatdoor", sum := "cfb70090e5d7ecdb374e53c55a2a622d57da9c5601be503fab9da1044813168d", func := "ullage/ullagelaw10.CountdownRules", spec := "countdownRules", inPlace := ["slices.overlaps[ullage/api.Seen]"], unfollowed := true, recurses := true, named := ["ullage/countdown.signs", "ullage/countdown.words", "ullage/countdown.comparisons", "strconv.ErrSyntax", "strconv.ErrRange", "internal/strconv.uint64pow10", "math/bits.deBruijn32tab", "math/bits.deBruijn64tab", "ullage/countdown.nothing"], loops := true, plainKeys := false, apart := false, laid := [("math/bits.deBruijn32tab", laid_math_bits_deBruijn32tab), ("math/bits.deBruijn64tab", laid_math_bits_deBruijn64tab), ("internal/strconv.uint64pow10", laid_internal_strconv_uint64pow10), ("strconv.ErrRange", laid_strconv_ErrRange), ("strconv.ErrSyntax", laid_strconv_ErrSyntax), ("ullage/countdown.nothing", laid_ullage_countdown_nothing), ("ullage/countdown.words", laid_ullage_countdown_words), ("ullage/countdown.comparisons", laid_ullage_countdown_comparisons), ("ullage/countdown.signs", laid_ullage_countdown_signs)] }
def CountdownRulesSaid : Prop := countdownRulesRow.holds Tryz.pinned (OpenSpec.ofChange countdownRulesSpec)

/-- ITS FALSE NEIGHBOUR: 'it returns false'. Refute it at one input. -/
def countdownRulesWrong : ChangeSpec := { name := "countdownRules", fn := fun _ => fun
  | [d] => { results := [.lit (.bool false)], args := [d] }
  | _ => none }
def CountdownRulesWrongFalsely : Prop := countdownRulesRow.holds Tryz.pinned (OpenSpec.ofChange countdownRulesWrong)

/-- 'ullagelaw10.CountdownReads': WHATEVER THE INPUT: true; the input reads as it did. -/
def countdownReadsSpec : ChangeSpec := { name := "countdownReads", fn := fun _ => fun
  | [d] => { results := [.lit (.bool true)], args := [d] }
  | _ => none }
def countdownReadsRow : OpenClaim := { program := "ytdjgnbkclcjiiaagreatdoor", sum := "cfb70090e5d7ecdb374e53c55a2a622d57da9c5601be503fab9da1044813168d", func := "ullage/ullagelaw10.CountdownReads", spec := "countdownReads", inPlace := ["slices.overlaps[ullage/api.Seen]"], unfollowed := true, recurses := true, named := ["ullage/countdown.signs", "ullage/countdown.words", "ullage/countdown.comparisons", "strconv.ErrSyntax", "strconv.ErrRange", "internal/strconv.uint64pow10", "math/bits.deBruijn32tab", "math/bits.deBruijn64tab", "ullage/countdown.nothing"], plainKeys := false, apart := false, laid := [("math/bits.deBruijn32tab", laid_math_bits_deBruijn32tab), ("math/bits.deBruijn64tab", laid_math_bits_deBruijn64tab), ("internal/strconv.uint64pow10", laid_internal_strconv_uint64pow10), ("strconv.ErrRange", laid_strconv_ErrRange), ("strconv.ErrSyntax", laid_strconv_ErrSyntax), ("ullage/countdown.nothing", laid_ullage_countdown_nothing), ("ullage/countdown.words", laid_ullage_countdown_words), ("ullage/countdown.comparisons", laid_ullage_countdown_comparisons), ("ullage/countdown.signs", laid_ullage_countdown_signs)] }
def CountdownReadsSaid : Prop := countdownReadsRow.holds Tryz.pinned (OpenSpec.ofChange countdownReadsSpec)

/-- ITS FALSE NEIGHBOUR: 'it returns false'. Refute it at one input. -/
def countdownReadsWrong : ChangeSpec := { name := "countdownReads", fn := fun _ => fun
  | [d] => { results := [.lit (.bool false)], args := [d] }
  | _ => none }
def CountdownReadsWrongFalsely : Prop := countdownReadsRow.holds Tryz.pinned (OpenSpec.ofChange countdownReadsWrong)

/-- 'ullagelaw10.CountdownJudges': WHATEVER THE INPUT: true; the input reads as it did. -/
def countdownJudgesSpec : ChangeSpec := { name := "countdownJudges", fn := fun _ => fun
  | [d1, d2, d3] => { results := [.lit (.bool true)], args := [d1, d2, d3] }
  | _ => none }
def countdownJudgesRow : OpenClaim := { program := "ytdjgnbkclcjiiaagreatdoor", sum := "cfb70090e5d7ecdb374e53c55a2a622d57da9c5601be503fab9da1044813168d", func := "ullage/ullagelaw10.CountdownJudges", spec := "countdownJudges", inPlace := ["slices.overlaps[ullage/api.Seen]"], unfollowed := true, recurses := true, named := ["ullage/countdown.signs", "ullage/countdown.words", "ullage/countdown.comparisons", "strconv.ErrSyntax", "strconv.ErrRange", "internal/strconv.uint64pow10", "math/bits.deBruijn32tab", "math/bits.deBruijn64tab", "ullage/countdown.nothing"], loops := true, plainKeys := false, apart := false, laid := [("math/bits.deBruijn32tab", laid_math_bits_deBruijn32tab), ("math/bits.deBruijn64tab", laid_math_bits_deBruijn64tab), ("internal/strconv.uint64pow10", laid_internal_strconv_uint64pow10), ("strconv.ErrRange", laid_strconv_ErrRange), ("strconv.ErrSyntax", laid_strconv_ErrSyntax), ("ullage/countdown.nothing", laid_ullage_countdown_nothing), ("ullage/countdown.words", laid_ullage_countdown_words), ("ullage/countdown.comparisons", laid_ullage_countdown_comparisons), ("ullage/countdown.signs", laid_ullage_countdown_signs)] }
def CountdownJudgesSaid : Prop := countdownJudgesRow.holds Tryz.pinned (OpenSpec.ofChange countdownJudgesSpec)

/-- ITS FALSE NEIGHBOUR: 'it returns false'. Refute it at one input. -/
def countdownJudgesWrong : ChangeSpec := { name := "countdownJudges", fn := fun _ => fun
  | [d1, d2, d3] => { results := [.lit (.bool false)], args := [d1, d2, d3] }
  | _ => none }
def CountdownJudgesWrongFalsely : Prop := countdownJudgesRow.holds Tryz.pinned (OpenSpec.ofChange countdownJudgesWrong)

/-- 'ullagelaw10.CountdownTurns': WHATEVER THE INPUT: true; the input reads as it did. -/
def countdownTurnsSpec : ChangeSpec := { name := "countdownTurns", fn := fun _ => fun
  | [d1, d2, d3] => { results := [.lit (.bool true)], args := [d1, d2, d3] }
  | _ => none }
def countdownTurnsRow : OpenClaim := { program := "ytdjgnbkclcjiiaagreatdoor", sum := "cfb70090e5d7ecdb374e53c55a2a622d57da9c5601be503fab9da1044813168d", func := "ullage/ullagelaw10.CountdownTurns", spec := "countdownTurns", inPlace := ["slices.overlaps[ullage/api.Seen]"], unfollowed := true, recurses := true, named := ["ullage/countdown.signs", "ullage/countdown.words", "ullage/countdown.comparisons", "strconv.ErrSyntax", "strconv.ErrRange", "internal/strconv.uint64pow10", "math/bits.deBruijn32tab", "math/bits.deBruijn64tab", "ullage/countdown.nothing"], loops := true, plainKeys := false, apart := false, laid := [("math/bits.deBruijn32tab", laid_math_bits_deBruijn32tab), ("math/bits.deBruijn64tab", laid_math_bits_deBruijn64tab), ("internal/strconv.uint64pow10", laid_internal_strconv_uint64pow10), ("strconv.ErrRange", laid_strconv_ErrRange), ("strconv.ErrSyntax", laid_strconv_ErrSyntax), ("ullage/countdown.nothing", laid_ullage_countdown_nothing), ("ullage/countdown.words", laid_ullage_countdown_words), ("ullage/countdown.comparisons", laid_ullage_countdown_comparisons), ("ullage/countdown.signs", laid_ullage_countdown_signs)] }
def CountdownTurnsSaid : Prop := countdownTurnsRow.holds Tryz.pinned (OpenSpec.ofChange countdownTurnsSpec)

/-- ITS FALSE NEIGHBOUR: 'it returns false'. Refute it at one input. -/
def countdownTurnsWrong : ChangeSpec := { name := "countdownTurns", fn := fun _ => fun
  | [d1, d2, d3] => { results := [.lit (.bool false)], args := [d1, d2, d3] }
  | _ => none }
def CountdownTurnsWrongFalsely : Prop := countdownTurnsRow.holds Tryz.pinned (OpenSpec.ofChange countdownTurnsWrong)

/-- 'ullagelaw10.CountdownKnows': WHATEVER THE INPUT: true; the input reads as it did. -/
def countdownKnowsSpec : ChangeSpec := { name := "countdownKnows", fn := fun _ => fun
  | [d1, d2, d3] => { results := [.lit (.bool true)], args := [d1, d2, d3] }
  | _ => none }
def countdownKnowsRow : OpenClaim := { program := "ytdjgnbkclcjiiaagreatdoor", sum := "cfb70090e5d7ecdb374e53c55a2a622d57da9c5601be503fab9da1044813168d", func := "ullage/ullagelaw10.CountdownKnows", spec := "countdownKnows", inPlace := ["slices.overlaps[ullage/api.Seen]"], unfollowed := true, recurses := true, named := ["ullage/countdown.signs", "ullage/countdown.words", "ullage/countdown.comparisons", "strconv.ErrSyntax", "strconv.ErrRange", "internal/strconv.uint64pow10", "math/bits.deBruijn32tab", "math/bits.deBruijn64tab", "ullage/countdown.nothing"], loops := true, plainKeys := false, apart := false, laid := [("math/bits.deBruijn32tab", laid_math_bits_deBruijn32tab), ("math/bits.deBruijn64tab", laid_math_bits_deBruijn64tab), ("internal/strconv.uint64pow10", laid_internal_strconv_uint64pow10), ("strconv.ErrRange", laid_strconv_ErrRange), ("strconv.ErrSyntax", laid_strconv_ErrSyntax), ("ullage/countdown.nothing", laid_ullage_countdown_nothing), ("ullage/countdown.words", laid_ullage_countdown_words), ("ullage/countdown.comparisons", laid_ullage_countdown_comparisons), ("ullage/countdown.signs", laid_ullage_countdown_signs)] }
def CountdownKnowsSaid : Prop := countdownKnowsRow.holds Tryz.pinned (OpenSpec.ofChange countdownKnowsSpec)

/-- ITS FALSE NEIGHBOUR: 'it returns false'. Refute it at one input. -/
def countdownKnowsWrong : ChangeSpec := { name := "countdownKnows", fn := fun _ => fun
  | [d1, d2, d3] => { results := [.lit (.bool false)], args := [d1, d2, d3] }
  | _ => none }
def CountdownKnowsWrongFalsely : Prop := countdownKnowsRow.holds Tryz.pinned (OpenSpec.ofChange countdownKnowsWrong)

/-- 'ullagelaw10.CountdownBetween': WHATEVER THE INPUT: true; the input reads as it did. -/
def countdownBetweenSpec : ChangeSpec := { name := "countdownBetween", fn := fun _ => fun
  | [d1, d2, d3] => { results := [.lit (.bool true)], args := [d1, d2, d3] }
  | _ => none }
def countdownBetweenRow : OpenClaim := { program := "ytdjgnbkclcjiiaagreatdoor", sum := "cfb70090e5d7ecdb374e53c55a2a622d57da9c5601be503fab9da1044813168d", func := "ullage/ullagelaw10.CountdownBetween", spec := "countdownBetween", inPlace := ["slices.overlaps[ullage/api.Seen]"], unfollowed := true, recurses := true, named := ["ullage/countdown.signs", "ullage/countdown.words", "ullage/countdown.comparisons", "strconv.ErrSyntax", "strconv.ErrRange", "internal/strconv.uint64pow10", "math/bits.deBruijn32tab", "math/bits.deBruijn64tab", "ullage/countdown.nothing"], plainKeys := false, apart := false, laid := [("math/bits.deBruijn32tab", laid_math_bits_deBruijn32tab), ("math/bits.deBruijn64tab", laid_math_bits_deBruijn64tab), ("internal/strconv.uint64pow10", laid_internal_strconv_uint64pow10), ("strconv.ErrRange", laid_strconv_ErrRange), ("strconv.ErrSyntax", laid_strconv_ErrSyntax), ("ullage/countdown.nothing", laid_ullage_countdown_nothing), ("ullage/countdown.words", laid_ullage_countdown_words), ("ullage/countdown.comparisons", laid_ullage_countdown_comparisons), ("ullage/countdown.signs", laid_ullage_countdown_signs)] }
def CountdownBetweenSaid : Prop := countdownBetweenRow.holds Tryz.pinned (OpenSpec.ofChange countdownBetweenSpec)

/-- ITS FALSE NEIGHBOUR: 'it returns false'. Refute it at one input. -/
def countdownBetweenWrong : ChangeSpec := { name := "countdownBetween", fn := fun _ => fun
  | [d1, d2, d3] => { results := [.lit (.bool false)], args := [d1, d2, d3] }
  | _ => none }
def CountdownBetweenWrongFalsely : Prop := countdownBetweenRow.holds Tryz.pinned (OpenSpec.ofChange countdownBetweenWrong)

/-- 'ullagelaw10.CountdownHolds': WHATEVER THE INPUT: true; the input reads as it did. -/
def countdownHoldsSpec : ChangeSpec := { name := "countdownHolds", fn := fun _ => fun
  | [d1, d2] => { results := [.lit (.bool true)], args := [d1, d2] }
  | _ => none }
def countdownHoldsRow : OpenClaim := { program := "ytdjgnbkclcjiiaagreatdoor", sum := "cfb70090e5d7ecdb374e53c55a2a622d57da9c5601be503fab9da1044813168d", func := "ullage/ullagelaw10.CountdownHolds", spec := "countdownHolds", inPlace := ["slices.overlaps[ullage/api.Seen]"], unfollowed := true, recurses := true, named := ["ullage/countdown.signs", "ullage/countdown.words", "ullage/countdown.comparisons", "strconv.ErrSyntax", "strconv.ErrRange", "internal/strconv.uint64pow10", "math/bits.deBruijn32tab", "math/bits.deBruijn64tab", "ullage/countdown.nothing"], loops := true, plainKeys := false, apart := false, laid := [("math/bits.deBruijn32tab", laid_math_bits_deBruijn32tab), ("math/bits.deBruijn64tab", laid_math_bits_deBruijn64tab), ("internal/strconv.uint64pow10", laid_internal_strconv_uint64pow10), ("strconv.ErrRange", laid_strconv_ErrRange), ("strconv.ErrSyntax", laid_strconv_ErrSyntax), ("ullage/countdown.nothing", laid_ullage_countdown_nothing), ("ullage/countdown.words", laid_ullage_countdown_words), ("ullage/countdown.comparisons", laid_ullage_countdown_comparisons), ("ullage/countdown.signs", laid_ullage_countdown_signs)] }
def CountdownHoldsSaid : Prop := countdownHoldsRow.holds Tryz.pinned (OpenSpec.ofChange countdownHoldsSpec)

/-- ITS FALSE NEIGHBOUR: 'it returns false'. Refute it at one input. -/
def countdownHoldsWrong : ChangeSpec := { name := "countdownHolds", fn := fun _ => fun
  | [d1, d2] => { results := [.lit (.bool false)], args := [d1, d2] }
  | _ => none }
def CountdownHoldsWrongFalsely : Prop := countdownHoldsRow.holds Tryz.pinned (OpenSpec.ofChange countdownHoldsWrong)

/-- 'ullagelaw10.CountdownFinds': WHATEVER THE INPUT: true; the input reads as it did. -/
def countdownFindsSpec : ChangeSpec := { name := "countdownFinds", fn := fun _ => fun
  | [d1, d2] => { results := [.lit (.bool true)], args := [d1, d2] }
  | _ => none }
def countdownFindsRow : OpenClaim := { program := "ytdjgnbkclcjiiaagreatdoor", sum := "cfb70090e5d7ecdb374e53c55a2a622d57da9c5601be503fab9da1044813168d", func := "ullage/ullagelaw10.CountdownFinds", spec := "countdownFinds", inPlace := ["slices.overlaps[ullage/api.Seen]"], unfollowed := true, recurses := true, named := ["ullage/countdown.signs", "ullage/countdown.words", "ullage/countdown.comparisons", "strconv.ErrSyntax", "strconv.ErrRange", "internal/strconv.uint64pow10", "math/bits.deBruijn32tab", "math/bits.deBruijn64tab", "ullage/countdown.nothing"], loops := true, plainKeys := false, apart := false, laid := [("math/bits.deBruijn32tab", laid_math_bits_deBruijn32tab), ("math/bits.deBruijn64tab", laid_math_bits_deBruijn64tab), ("internal/strconv.uint64pow10", laid_internal_strconv_uint64pow10), ("strconv.ErrRange", laid_strconv_ErrRange), ("strconv.ErrSyntax", laid_strconv_ErrSyntax), ("ullage/countdown.nothing", laid_ullage_countdown_nothing), ("ullage/countdown.words", laid_ullage_countdown_words), ("ullage/countdown.comparisons", laid_ullage_countdown_comparisons), ("ullage/countdown.signs", laid_ullage_countdown_signs)] }
def CountdownFindsSaid : Prop := countdownFindsRow.holds Tryz.pinned (OpenSpec.ofChange countdownFindsSpec)

/-- ITS FALSE NEIGHBOUR: 'it returns false'. Refute it at one input. -/
def countdownFindsWrong : ChangeSpec := { name := "countdownFinds", fn := fun _ => fun
  | [d1, d2] => { results := [.lit (.bool false)], args := [d1, d2] }
  | _ => none }
def CountdownFindsWrongFalsely : Prop := countdownFindsRow.holds Tryz.pinned (OpenSpec.ofChange countdownFindsWrong)

/-- 'ullagelaw10.CountdownClock': WHATEVER THE INPUT: true; the input reads as it did. -/
def countdownClockSpec : ChangeSpec := { name := "countdownClock", fn := fun _ => fun
  | [d1, d2] => { results := [.lit (.bool true)], args := [d1, d2] }
  | _ => none }
def countdownClockRow : OpenClaim := { program := "ytdjgnbkclcjiiaagreatdoor", sum := "cfb70090e5d7ecdb374e53c55a2a622d57da9c5601be503fab9da1044813168d", func := "ullage/ullagelaw10.CountdownClock", spec := "countdownClock", inPlace := ["slices.overlaps[ullage/api.Seen]"], unfollowed := true, recurses := true, named := ["ullage/countdown.signs", "ullage/countdown.words", "ullage/countdown.comparisons", "strconv.ErrSyntax", "strconv.ErrRange", "internal/strconv.uint64pow10", "math/bits.deBruijn32tab", "math/bits.deBruijn64tab", "ullage/countdown.nothing"], loops := true, plainKeys := false, apart := false, laid := [("math/bits.deBruijn32tab", laid_math_bits_deBruijn32tab), ("math/bits.deBruijn64tab", laid_math_bits_deBruijn64tab), ("internal/strconv.uint64pow10", laid_internal_strconv_uint64pow10), ("strconv.ErrRange", laid_strconv_ErrRange), ("strconv.ErrSyntax", laid_strconv_ErrSyntax), ("ullage/countdown.nothing", laid_ullage_countdown_nothing), ("ullage/countdown.words", laid_ullage_countdown_words), ("ullage/countdown.comparisons", laid_ullage_countdown_comparisons), ("ullage/countdown.signs", laid_ullage_countdown_signs)] }
def CountdownClockSaid : Prop := countdownClockRow.holds Tryz.pinned (OpenSpec.ofChange countdownClockSpec)

/-- ITS FALSE NEIGHBOUR: 'it returns false'. Refute it at one input. -/
def countdownClockWrong : ChangeSpec := { name := "countdownClock", fn := fun _ => fun
  | [d1, d2] => { results := [.lit (.bool false)], args := [d1, d2] }
  | _ => none }
def CountdownClockWrongFalsely : Prop := countdownClockRow.holds Tryz.pinned (OpenSpec.ofChange countdownClockWrong)

/-- 'ullagelaw10.CountdownSafe': WHATEVER THE INPUT: true; the input reads as it did. -/
def countdownSafeSpec : ChangeSpec := { name := "countdownSafe", fn := fun _ => fun
  | [d1, d2] => { results := [.lit (.bool true)], args := [d1, d2] }
  | _ => none }
def countdownSafeRow : OpenClaim := { program := "ytdjgnbkclcjiiaagreatdoor", sum := "cfb70090e5d7ecdb374e53c55a2a622d57da9c5601be503fab9da1044813168d", func := "ullage/ullagelaw10.CountdownSafe", spec := "countdownSafe", inPlace := ["slices.overlaps[ullage/api.Seen]"], unfollowed := true, recurses := true, named := ["ullage/countdown.signs", "ullage/countdown.words", "ullage/countdown.comparisons", "strconv.ErrSyntax", "strconv.ErrRange", "internal/strconv.uint64pow10", "math/bits.deBruijn32tab", "math/bits.deBruijn64tab", "ullage/countdown.nothing"], loops := true, plainKeys := false, apart := false, laid := [("math/bits.deBruijn32tab", laid_math_bits_deBruijn32tab), ("math/bits.deBruijn64tab", laid_math_bits_deBruijn64tab), ("internal/strconv.uint64pow10", laid_internal_strconv_uint64pow10), ("strconv.ErrRange", laid_strconv_ErrRange), ("strconv.ErrSyntax", laid_strconv_ErrSyntax), ("ullage/countdown.nothing", laid_ullage_countdown_nothing), ("ullage/countdown.words", laid_ullage_countdown_words), ("ullage/countdown.comparisons", laid_ullage_countdown_comparisons), ("ullage/countdown.signs", laid_ullage_countdown_signs)] }
def CountdownSafeSaid : Prop := countdownSafeRow.holds Tryz.pinned (OpenSpec.ofChange countdownSafeSpec)

/-- ITS FALSE NEIGHBOUR: 'it returns false'. Refute it at one input. -/
def countdownSafeWrong : ChangeSpec := { name := "countdownSafe", fn := fun _ => fun
  | [d1, d2] => { results := [.lit (.bool false)], args := [d1, d2] }
  | _ => none }
def CountdownSafeWrongFalsely : Prop := countdownSafeRow.holds Tryz.pinned (OpenSpec.ofChange countdownSafeWrong)

/- THE SECOND FORM. 'bulk': how many values and letters a reading holds, each counted each time it is reached (what is shared counts as often as it is met; a slice's spare places count too). A statement '..UptoSaid' is the law's where the arguments, and the package variables that the reading takes, are together of bulk at most 1048576: NARROWER than '..Said'. Prove '..Said' where nothing that the law and all that it calls make is longer than what came in: it says more and counts as full. Else prove '..UptoSaid'. A law counts once. -/
mutual
def uptoBulk {H : Type} : DataW H → Nat
  | .lit (.string bytes) => bytes.length + 1
  | .lit _ => 1
  | .nil => 1
  | .ptr d => uptoBulk d + 1
  | .slice elems spare => uptoBulkAll elems + uptoBulkAll spare + 1
  | .agg parts => uptoBulkAll parts + 1
  | .iface _ d => uptoBulk d + 1
  | .map entries => uptoBulkEntries entries + 1
  | .held _ => 1
def uptoBulkAll {H : Type} : List (DataW H) → Nat
  | [] => 0
  | d :: r => uptoBulk d + uptoBulkAll r
def uptoBulkEntries {H : Type} : List (Lit × DataW H) → Nat
  | [] => 0
  | x :: r => uptoBulkEntry x + uptoBulkEntries r
def uptoBulkEntry {H : Type} : Lit × DataW H → Nat
  | (.string bytes, d) => bytes.length + uptoBulk d + 1
  | (_, d) => uptoBulk d + 1
 end
def uptoSmall : (H : Type) → List (DataW H) → Bool := fun _ ds => decide (uptoBulkAll ds ≤ 1048576)
def OpenSpec.upto (s : _root_.Go.ChangeSpec) : _root_.Go.OpenSpec := { _root_.Go.OpenSpec.ofChange s with cond := some uptoSmall }

/-- 'ullagelaw10.CountdownLeads', WHERE WHAT IT READS IS OF BULK AT MOST 1048576: true; the input reads as it did. -/
def countdownLeadsUptoRow : OpenClaim := { program := "ytdjgnbkclcjiiaagreatdoor", sum := "cfb70090e5d7ecdb374e53c55a2a622d57da9c5601be503fab9da1044813168d", func := "ullage/ullagelaw10.CountdownLeads", spec := "countdownLeads", inPlace := ["slices.overlaps[ullage/api.Seen]"], unfollowed := true, recurses := true, named := ["ullage/countdown.signs", "ullage/countdown.words", "ullage/countdown.comparisons", "strconv.ErrSyntax", "strconv.ErrRange", "internal/strconv.uint64pow10", "math/bits.deBruijn32tab", "math/bits.deBruijn64tab", "ullage/countdown.nothing"], loops := true, plainKeys := false, apart := false, laid := [("math/bits.deBruijn32tab", laid_math_bits_deBruijn32tab), ("math/bits.deBruijn64tab", laid_math_bits_deBruijn64tab), ("internal/strconv.uint64pow10", laid_internal_strconv_uint64pow10), ("strconv.ErrRange", laid_strconv_ErrRange), ("strconv.ErrSyntax", laid_strconv_ErrSyntax), ("ullage/countdown.nothing", laid_ullage_countdown_nothing), ("ullage/countdown.words", laid_ullage_countdown_words), ("ullage/countdown.comparisons", laid_ullage_countdown_comparisons), ("ullage/countdown.signs", laid_ullage_countdown_signs)], narrowed := true }
def CountdownLeadsUptoSaid : Prop := countdownLeadsUptoRow.holds Tryz.pinned (OpenSpec.upto countdownLeadsSpec)

/-- 'ullagelaw10.CountdownRules', WHERE WHAT IT READS IS OF BULK AT MOST 1048576: true; the input reads as it did. -/
def countdownRulesUptoRow : OpenClaim := { program := "ytdjgnbkclcjiiaagreatdoor", sum := "cfb70090e5d7ecdb374e53c55a2a622d57da9c5601be503fab9da1044813168d", func := "ullage/ullagelaw10.CountdownRules", spec := "countdownRules", inPlace := ["slices.overlaps[ullage/api.Seen]"], unfollowed := true, recurses := true, named := ["ullage/countdown.signs", "ullage/countdown.words", "ullage/countdown.comparisons", "strconv.ErrSyntax", "strconv.ErrRange", "internal/strconv.uint64pow10", "math/bits.deBruijn32tab", "math/bits.deBruijn64tab", "ullage/countdown.nothing"], loops := true, plainKeys := false, apart := false, laid := [("math/bits.deBruijn32tab", laid_math_bits_deBruijn32tab), ("math/bits.deBruijn64tab", laid_math_bits_deBruijn64tab), ("internal/strconv.uint64pow10", laid_internal_strconv_uint64pow10), ("strconv.ErrRange", laid_strconv_ErrRange), ("strconv.ErrSyntax", laid_strconv_ErrSyntax), ("ullage/countdown.nothing", laid_ullage_countdown_nothing), ("ullage/countdown.words", laid_ullage_countdown_words), ("ullage/countdown.comparisons", laid_ullage_countdown_comparisons), ("ullage/countdown.signs", laid_ullage_countdown_signs)], narrowed := true }
def CountdownRulesUptoSaid : Prop := countdownRulesUptoRow.holds Tryz.pinned (OpenSpec.upto countdownRulesSpec)

/-- 'ullagelaw10.CountdownReads', WHERE WHAT IT READS IS OF BULK AT MOST 1048576: true; the input reads as it did. -/
def countdownReadsUptoRow : OpenClaim := { program := "ytdjgnbkclcjiiaagreatdoor", sum := "cfb70090e5d7ecdb374e53c55a2a622d57da9c5601be503fab9da1044813168d", func := "ullage/ullagelaw10.CountdownReads", spec := "countdownReads", inPlace := ["slices.overlaps[ullage/api.Seen]"], unfollowed := true, recurses := true, named := ["ullage/countdown.signs", "ullage/countdown.words", "ullage/countdown.comparisons", "strconv.ErrSyntax", "strconv.ErrRange", "internal/strconv.uint64pow10", "math/bits.deBruijn32tab", "math/bits.deBruijn64tab", "ullage/countdown.nothing"], plainKeys := false, apart := false, laid := [("math/bits.deBruijn32tab", laid_math_bits_deBruijn32tab), ("math/bits.deBruijn64tab", laid_math_bits_deBruijn64tab), ("internal/strconv.uint64pow10", laid_internal_strconv_uint64pow10), ("strconv.ErrRange", laid_strconv_ErrRange), ("strconv.ErrSyntax", laid_strconv_ErrSyntax), ("ullage/countdown.nothing", laid_ullage_countdown_nothing), ("ullage/countdown.words", laid_ullage_countdown_words), ("ullage/countdown.comparisons", laid_ullage_countdown_comparisons), ("ullage/countdown.signs", laid_ullage_countdown_signs)], narrowed := true }
def CountdownReadsUptoSaid : Prop := countdownReadsUptoRow.holds Tryz.pinned (OpenSpec.upto countdownReadsSpec)

/-- 'ullagelaw10.CountdownJudges', WHERE WHAT IT READS IS OF BULK AT MOST 1048576: true; the input reads as it did. -/
def countdownJudgesUptoRow : OpenClaim := { program := "ytdjgnbkclcjiiaagreatdoor", sum := "cfb70090e5d7ecdb374e53c55a2a622d57da9c5601be503fab9da1044813168d", func := "ullage/ullagelaw10.CountdownJudges", spec := "countdownJudges", inPlace := ["slices.overlaps[ullage/api.Seen]"], unfollowed := true, recurses := true, named := ["ullage/countdown.signs", "ullage/countdown.words", "ullage/countdown.comparisons", "strconv.ErrSyntax", "strconv.ErrRange", "internal/strconv.uint64pow10", "math/bits.deBruijn32tab", "math/bits.deBruijn64tab", "ullage/countdown.nothing"], loops := true, plainKeys := false, apart := false, laid := [("math/bits.deBruijn32tab", laid_math_bits_deBruijn32tab), ("math/bits.deBruijn64tab", laid_math_bits_deBruijn64tab), ("internal/strconv.uint64pow10", laid_internal_strconv_uint64pow10), ("strconv.ErrRange", laid_strconv_ErrRange), ("strconv.ErrSyntax", laid_strconv_ErrSyntax), ("ullage/countdown.nothing", laid_ullage_countdown_nothing), ("ullage/countdown.words", laid_ullage_countdown_words), ("ullage/countdown.comparisons", laid_ullage_countdown_comparisons), ("ullage/countdown.signs", laid_ullage_countdown_signs)], narrowed := true }
def CountdownJudgesUptoSaid : Prop := countdownJudgesUptoRow.holds Tryz.pinned (OpenSpec.upto countdownJudgesSpec)

/-- 'ullagelaw10.CountdownTurns', WHERE WHAT IT READS IS OF BULK AT MOST 1048576: true; the input reads as it did. -/
def countdownTurnsUptoRow : OpenClaim := { program := "ytdjgnbkclcjiiaagreatdoor", sum := "cfb70090e5d7ecdb374e53c55a2a622d57da9c5601be503fab9da1044813168d", func := "ullage/ullagelaw10.CountdownTurns", spec := "countdownTurns", inPlace := ["slices.overlaps[ullage/api.Seen]"], unfollowed := true, recurses := true, named := ["ullage/countdown.signs", "ullage/countdown.words", "ullage/countdown.comparisons", "strconv.ErrSyntax", "strconv.ErrRange", "internal/strconv.uint64pow10", "math/bits.deBruijn32tab", "math/bits.deBruijn64tab", "ullage/countdown.nothing"], loops := true, plainKeys := false, apart := false, laid := [("math/bits.deBruijn32tab", laid_math_bits_deBruijn32tab), ("math/bits.deBruijn64tab", laid_math_bits_deBruijn64tab), ("internal/strconv.uint64pow10", laid_internal_strconv_uint64pow10), ("strconv.ErrRange", laid_strconv_ErrRange), ("strconv.ErrSyntax", laid_strconv_ErrSyntax), ("ullage/countdown.nothing", laid_ullage_countdown_nothing), ("ullage/countdown.words", laid_ullage_countdown_words), ("ullage/countdown.comparisons", laid_ullage_countdown_comparisons), ("ullage/countdown.signs", laid_ullage_countdown_signs)], narrowed := true }
def CountdownTurnsUptoSaid : Prop := countdownTurnsUptoRow.holds Tryz.pinned (OpenSpec.upto countdownTurnsSpec)

/-- 'ullagelaw10.CountdownKnows', WHERE WHAT IT READS IS OF BULK AT MOST 1048576: true; the input reads as it did. -/
def countdownKnowsUptoRow : OpenClaim := { program := "ytdjgnbkclcjiiaagreatdoor", sum := "cfb70090e5d7ecdb374e53c55a2a622d57da9c5601be503fab9da1044813168d", func := "ullage/ullagelaw10.CountdownKnows", spec := "countdownKnows", inPlace := ["slices.overlaps[ullage/api.Seen]"], unfollowed := true, recurses := true, named := ["ullage/countdown.signs", "ullage/countdown.words", "ullage/countdown.comparisons", "strconv.ErrSyntax", "strconv.ErrRange", "internal/strconv.uint64pow10", "math/bits.deBruijn32tab", "math/bits.deBruijn64tab", "ullage/countdown.nothing"], loops := true, plainKeys := false, apart := false, laid := [("math/bits.deBruijn32tab", laid_math_bits_deBruijn32tab), ("math/bits.deBruijn64tab", laid_math_bits_deBruijn64tab), ("internal/strconv.uint64pow10", laid_internal_strconv_uint64pow10), ("strconv.ErrRange", laid_strconv_ErrRange), ("strconv.ErrSyntax", laid_strconv_ErrSyntax), ("ullage/countdown.nothing", laid_ullage_countdown_nothing), ("ullage/countdown.words", laid_ullage_countdown_words), ("ullage/countdown.comparisons", laid_ullage_countdown_comparisons), ("ullage/countdown.signs", laid_ullage_countdown_signs)], narrowed := true }
def CountdownKnowsUptoSaid : Prop := countdownKnowsUptoRow.holds Tryz.pinned (OpenSpec.upto countdownKnowsSpec)

/-- 'ullagelaw10.CountdownBetween', WHERE WHAT IT READS IS OF BULK AT MOST 1048576: true; the input reads as it did. -/
def countdownBetweenUptoRow : OpenClaim := { program := "ytdjgnbkclcjiiaagreatdoor", sum := "cfb70090e5d7ecdb374e53c55a2a622d57da9c5601be503fab9da1044813168d", func := "ullage/ullagelaw10.CountdownBetween", spec := "countdownBetween", inPlace := ["slices.overlaps[ullage/api.Seen]"], unfollowed := true, recurses := true, named := ["ullage/countdown.signs", "ullage/countdown.words", "ullage/countdown.comparisons", "strconv.ErrSyntax", "strconv.ErrRange", "internal/strconv.uint64pow10", "math/bits.deBruijn32tab", "math/bits.deBruijn64tab", "ullage/countdown.nothing"], plainKeys := false, apart := false, laid := [("math/bits.deBruijn32tab", laid_math_bits_deBruijn32tab), ("math/bits.deBruijn64tab", laid_math_bits_deBruijn64tab), ("internal/strconv.uint64pow10", laid_internal_strconv_uint64pow10), ("strconv.ErrRange", laid_strconv_ErrRange), ("strconv.ErrSyntax", laid_strconv_ErrSyntax), ("ullage/countdown.nothing", laid_ullage_countdown_nothing), ("ullage/countdown.words", laid_ullage_countdown_words), ("ullage/countdown.comparisons", laid_ullage_countdown_comparisons), ("ullage/countdown.signs", laid_ullage_countdown_signs)], narrowed := true }
def CountdownBetweenUptoSaid : Prop := countdownBetweenUptoRow.holds Tryz.pinned (OpenSpec.upto countdownBetweenSpec)

/-- 'ullagelaw10.CountdownHolds', WHERE WHAT IT READS IS OF BULK AT MOST 1048576: true; the input reads as it did. -/
def countdownHoldsUptoRow : OpenClaim := { program := "ytdjgnbkclcjiiaagreatdoor", sum := "cfb70090e5d7ecdb374e53c55a2a622d57da9c5601be503fab9da1044813168d", func := "ullage/ullagelaw10.CountdownHolds", spec := "countdownHolds", inPlace := ["slices.overlaps[ullage/api.Seen]"], unfollowed := true, recurses := true, named := ["ullage/countdown.signs", "ullage/countdown.words", "ullage/countdown.comparisons", "strconv.ErrSyntax", "strconv.ErrRange", "internal/strconv.uint64pow10", "math/bits.deBruijn32tab", "math/bits.deBruijn64tab", "ullage/countdown.nothing"], loops := true, plainKeys := false, apart := false, laid := [("math/bits.deBruijn32tab", laid_math_bits_deBruijn32tab), ("math/bits.deBruijn64tab", laid_math_bits_deBruijn64tab), ("internal/strconv.uint64pow10", laid_internal_strconv_uint64pow10), ("strconv.ErrRange", laid_strconv_ErrRange), ("strconv.ErrSyntax", laid_strconv_ErrSyntax), ("ullage/countdown.nothing", laid_ullage_countdown_nothing), ("ullage/countdown.words", laid_ullage_countdown_words), ("ullage/countdown.comparisons", laid_ullage_countdown_comparisons), ("ullage/countdown.signs", laid_ullage_countdown_signs)], narrowed := true }
def CountdownHoldsUptoSaid : Prop := countdownHoldsUptoRow.holds Tryz.pinned (OpenSpec.upto countdownHoldsSpec)

/-- 'ullagelaw10.CountdownFinds', WHERE WHAT IT READS IS OF BULK AT MOST 1048576: true; the input reads as it did. -/
def countdownFindsUptoRow : OpenClaim := { program := "ytdjgnbkclcjiiaagreatdoor", sum := "cfb70090e5d7ecdb374e53c55a2a622d57da9c5601be503fab9da1044813168d", func := "ullage/ullagelaw10.CountdownFinds", spec := "countdownFinds", inPlace := ["slices.overlaps[ullage/api.Seen]"], unfollowed := true, recurses := true, named := ["ullage/countdown.signs", "ullage/countdown.words", "ullage/countdown.comparisons", "strconv.ErrSyntax", "strconv.ErrRange", "internal/strconv.uint64pow10", "math/bits.deBruijn32tab", "math/bits.deBruijn64tab", "ullage/countdown.nothing"], loops := true, plainKeys := false, apart := false, laid := [("math/bits.deBruijn32tab", laid_math_bits_deBruijn32tab), ("math/bits.deBruijn64tab", laid_math_bits_deBruijn64tab), ("internal/strconv.uint64pow10", laid_internal_strconv_uint64pow10), ("strconv.ErrRange", laid_strconv_ErrRange), ("strconv.ErrSyntax", laid_strconv_ErrSyntax), ("ullage/countdown.nothing", laid_ullage_countdown_nothing), ("ullage/countdown.words", laid_ullage_countdown_words), ("ullage/countdown.comparisons", laid_ullage_countdown_comparisons), ("ullage/countdown.signs", laid_ullage_countdown_signs)], narrowed := true }
def CountdownFindsUptoSaid : Prop := countdownFindsUptoRow.holds Tryz.pinned (OpenSpec.upto countdownFindsSpec)

/-- 'ullagelaw10.CountdownClock', WHERE WHAT IT READS IS OF BULK AT MOST 1048576: true; the input reads as it did. -/
def countdownClockUptoRow : OpenClaim := { program := "ytdjgnbkclcjiiaagreatdoor", sum := "cfb70090e5d7ecdb374e53c55a2a622d57da9c5601be503fab9da1044813168d", func := "ullage/ullagelaw10.CountdownClock", spec := "countdownClock", inPlace := ["slices.overlaps[ullage/api.Seen]"], unfollowed := true, recurses := true, named := ["ullage/countdown.signs", "ullage/countdown.words", "ullage/countdown.comparisons", "strconv.ErrSyntax", "strconv.ErrRange", "internal/strconv.uint64pow10", "math/bits.deBruijn32tab", "math/bits.deBruijn64tab", "ullage/countdown.nothing"], loops := true, plainKeys := false, apart := false, laid := [("math/bits.deBruijn32tab", laid_math_bits_deBruijn32tab), ("math/bits.deBruijn64tab", laid_math_bits_deBruijn64tab), ("internal/strconv.uint64pow10", laid_internal_strconv_uint64pow10), ("strconv.ErrRange", laid_strconv_ErrRange), ("strconv.ErrSyntax", laid_strconv_ErrSyntax), ("ullage/countdown.nothing", laid_ullage_countdown_nothing), ("ullage/countdown.words", laid_ullage_countdown_words), ("ullage/countdown.comparisons", laid_ullage_countdown_comparisons), ("ullage/countdown.signs", laid_ullage_countdown_signs)], narrowed := true }
def CountdownClockUptoSaid : Prop := countdownClockUptoRow.holds Tryz.pinned (OpenSpec.upto countdownClockSpec)

/-- 'ullagelaw10.CountdownSafe', WHERE WHAT IT READS IS OF BULK AT MOST 1048576: true; the input reads as it did. -/
def countdownSafeUptoRow : OpenClaim := { program := "ytdjgnbkclcjiiaagreatdoor", sum := "cfb70090e5d7ecdb374e53c55a2a622d57da9c5601be503fab9da1044813168d", func := "ullage/ullagelaw10.CountdownSafe", spec := "countdownSafe", inPlace := ["slices.overlaps[ullage/api.Seen]"], unfollowed := true, recurses := true, named := ["ullage/countdown.signs", "ullage/countdown.words", "ullage/countdown.comparisons", "strconv.ErrSyntax", "strconv.ErrRange", "internal/strconv.uint64pow10", "math/bits.deBruijn32tab", "math/bits.deBruijn64tab", "ullage/countdown.nothing"], loops := true, plainKeys := false, apart := false, laid := [("math/bits.deBruijn32tab", laid_math_bits_deBruijn32tab), ("math/bits.deBruijn64tab", laid_math_bits_deBruijn64tab), ("internal/strconv.uint64pow10", laid_internal_strconv_uint64pow10), ("strconv.ErrRange", laid_strconv_ErrRange), ("strconv.ErrSyntax", laid_strconv_ErrSyntax), ("ullage/countdown.nothing", laid_ullage_countdown_nothing), ("ullage/countdown.words", laid_ullage_countdown_words), ("ullage/countdown.comparisons", laid_ullage_countdown_comparisons), ("ullage/countdown.signs", laid_ullage_countdown_signs)], narrowed := true }
def CountdownSafeUptoSaid : Prop := countdownSafeUptoRow.holds Tryz.pinned (OpenSpec.upto countdownSafeSpec)

end Rows
end Go.Proofs.YtdjgnbkclcjiiaaGreatDoor
