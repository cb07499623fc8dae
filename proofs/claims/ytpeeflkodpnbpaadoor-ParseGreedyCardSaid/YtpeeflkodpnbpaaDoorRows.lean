/-
  NARROWER THAN 'FOR EVERY INPUT', by the rows' own cells (each row's printed sentence says how): ParseParses: laid · ParseDoubled: laid · ParseInverse: laid · ParseNested: laid · ParseTurns: laid · ParseTouches: laid · ParseCommons: laid · ParseShared: laid · ParseFew: laid · ParseEnds: laid · ParseCounts: laid · ParseBack: laid · ParseReversed: laid · ParseThere: laid · ParseCheapests: laid · ParseGreedy: laid · ParseReads: laid · ParseOwn: laid.
  DERIVED. THE GIVEN ROWS OF THIS SEAT. 18 by the template 'for every input the law returns true; each argument reads behind the call as it read before'; 0 by the template 'total and deterministic' (their statements: YtpeeflkodpnbpaaDoorTotals.lean).
  GIVEN WITH THE SEED: the statements are not yours to turn. If you find one false, say at which input.
  Laid BY PROGRAM, IN A SANDBOX (cutbox-rows.mjs): the forced cells as the released guide's own fill.sh prints them over the translation 9e602d1758f95fc6… (all of the seat's roots in one cut). By AI agents, Wed Nov 11 2026. No macro, syntax, notation, axiom, sorry.
-/
import Derived.Test.YtpeeflkodpnbpaaDoorChecked
import GoSem.Claim
import GoSem.ClaimJoined
import GoSem.ClaimMapViews
import Derived.JoinedTies
import Derived.KernelRfl
namespace Go.Proofs.YtpeeflkodpnbpaaDoor
/- THE CELL 'sum', in the pinned program and in every row, IS THE sha256 OF THE DUMP (.gsa) THAT YtpeeflkodpnbpaaDoorProg.lean LOADS. Nothing in Lean hashes anything: it is a label: what it is worth is what the hold of that sum in a sandbox is worth. -/
noncomputable def Tryd.pinned : Pinned := { name := "ytpeeflkodpnbpaadoor", sum := "9e602d1758f95fc6c235323da75e643a8192c78fe4537d7f4476f6dbc7e33a0a", checked := Tryd.checked }
namespace Rows
def none {H : Type} : Left H := { results := [], args := [] }

/- WHAT THE LISTED PACKAGE-LEVEL VARIABLES READ AS WHEN THE CALL BEGINS. Each datum BY PROGRAM (the guide's laid-datum.mjs) off the statement by which the dump's own 'gosem.cut.vars' lays the variable. In a bare row this is a premise. The card (YtpeeflkodpnbpaaDoorCards.lean) ties it to the program's text. -/
def laid_numnah_parse_single {H : Type} : DataW H := .agg [.lit (.int .i64 (-1)), .lit (.int .i64 1)]

/-- 'numnahlaw09.ParseParses': WHATEVER THE INPUT: true; the input reads as it did. -/
def parseParsesSpec : ChangeSpec := { name := "parseParses", fn := fun _ => fun
  | [d] => { results := [.lit (.bool true)], args := [d] }
  | _ => none }
def parseParsesRow : OpenClaim := { program := "ytpeeflkodpnbpaadoor", sum := "9e602d1758f95fc6c235323da75e643a8192c78fe4537d7f4476f6dbc7e33a0a", func := "numnah/numnahlaw09.ParseParses", spec := "parseParses", unfollowed := true, recurses := true, named := ["numnah/parse.single"], apart := false, laid := [("numnah/parse.single", laid_numnah_parse_single)] }
def ParseParsesSaid : Prop := parseParsesRow.holds Tryd.pinned (OpenSpec.ofChange parseParsesSpec)

/-- ITS FALSE NEIGHBOUR: 'it returns false'. Refute it at one input. -/
def parseParsesWrong : ChangeSpec := { name := "parseParses", fn := fun _ => fun
  | [d] => { results := [.lit (.bool false)], args := [d] }
  | _ => none }
def ParseParsesWrongFalsely : Prop := parseParsesRow.holds Tryd.pinned (OpenSpec.ofChange parseParsesWrong)

/-- 'numnahlaw09.ParseDoubled': WHATEVER THE INPUT: true; the input reads as it did. -/
def parseDoubledSpec : ChangeSpec := { name := "parseDoubled", fn := fun _ => fun
  | [d] => { results := [.lit (.bool true)], args := [d] }
  | _ => none }
def parseDoubledRow : OpenClaim := { program := "ytpeeflkodpnbpaadoor", sum := "9e602d1758f95fc6c235323da75e643a8192c78fe4537d7f4476f6dbc7e33a0a", func := "numnah/numnahlaw09.ParseDoubled", spec := "parseDoubled", unfollowed := true, recurses := true, named := ["numnah/parse.single"], apart := false, laid := [("numnah/parse.single", laid_numnah_parse_single)] }
def ParseDoubledSaid : Prop := parseDoubledRow.holds Tryd.pinned (OpenSpec.ofChange parseDoubledSpec)

/-- ITS FALSE NEIGHBOUR: 'it returns false'. Refute it at one input. -/
def parseDoubledWrong : ChangeSpec := { name := "parseDoubled", fn := fun _ => fun
  | [d] => { results := [.lit (.bool false)], args := [d] }
  | _ => none }
def ParseDoubledWrongFalsely : Prop := parseDoubledRow.holds Tryd.pinned (OpenSpec.ofChange parseDoubledWrong)

/-- 'numnahlaw09.ParseInverse': WHATEVER THE INPUT: true; the input reads as it did. -/
def parseInverseSpec : ChangeSpec := { name := "parseInverse", fn := fun _ => fun
  | [d] => { results := [.lit (.bool true)], args := [d] }
  | _ => none }
def parseInverseRow : OpenClaim := { program := "ytpeeflkodpnbpaadoor", sum := "9e602d1758f95fc6c235323da75e643a8192c78fe4537d7f4476f6dbc7e33a0a", func := "numnah/numnahlaw09.ParseInverse", spec := "parseInverse", unfollowed := true, recurses := true, named := ["numnah/parse.single"], apart := false, laid := [("numnah/parse.single", laid_numnah_parse_single)] }
def ParseInverseSaid : Prop := parseInverseRow.holds Tryd.pinned (OpenSpec.ofChange parseInverseSpec)

/-- ITS FALSE NEIGHBOUR: 'it returns false'. Refute it at one input. -/
def parseInverseWrong : ChangeSpec := { name := "parseInverse", fn := fun _ => fun
  | [d] => { results := [.lit (.bool false)], args := [d] }
  | _ => none }
def ParseInverseWrongFalsely : Prop := parseInverseRow.holds Tryd.pinned (OpenSpec.ofChange parseInverseWrong)

/-- 'numnahlaw09.ParseNested': WHATEVER THE INPUT: true; the input reads as it did. -/
def parseNestedSpec : ChangeSpec := { name := "parseNested", fn := fun _ => fun
  | [d1, d2] => { results := [.lit (.bool true)], args := [d1, d2] }
  | _ => none }
def parseNestedRow : OpenClaim := { program := "ytpeeflkodpnbpaadoor", sum := "9e602d1758f95fc6c235323da75e643a8192c78fe4537d7f4476f6dbc7e33a0a", func := "numnah/numnahlaw09.ParseNested", spec := "parseNested", unfollowed := true, recurses := true, named := ["numnah/parse.single"], apart := false, laid := [("numnah/parse.single", laid_numnah_parse_single)] }
def ParseNestedSaid : Prop := parseNestedRow.holds Tryd.pinned (OpenSpec.ofChange parseNestedSpec)

/-- ITS FALSE NEIGHBOUR: 'it returns false'. Refute it at one input. -/
def parseNestedWrong : ChangeSpec := { name := "parseNested", fn := fun _ => fun
  | [d1, d2] => { results := [.lit (.bool false)], args := [d1, d2] }
  | _ => none }
def ParseNestedWrongFalsely : Prop := parseNestedRow.holds Tryd.pinned (OpenSpec.ofChange parseNestedWrong)

/-- 'numnahlaw09.ParseTurns': WHATEVER THE INPUT: true; the input reads as it did. -/
def parseTurnsSpec : ChangeSpec := { name := "parseTurns", fn := fun _ => fun
  | [d] => { results := [.lit (.bool true)], args := [d] }
  | _ => none }
def parseTurnsRow : OpenClaim := { program := "ytpeeflkodpnbpaadoor", sum := "9e602d1758f95fc6c235323da75e643a8192c78fe4537d7f4476f6dbc7e33a0a", func := "numnah/numnahlaw09.ParseTurns", spec := "parseTurns", unfollowed := true, recurses := true, named := ["numnah/parse.single"], apart := false, laid := [("numnah/parse.single", laid_numnah_parse_single)] }
def ParseTurnsSaid : Prop := parseTurnsRow.holds Tryd.pinned (OpenSpec.ofChange parseTurnsSpec)

/-- ITS FALSE NEIGHBOUR: 'it returns false'. Refute it at one input. -/
def parseTurnsWrong : ChangeSpec := { name := "parseTurns", fn := fun _ => fun
  | [d] => { results := [.lit (.bool false)], args := [d] }
  | _ => none }
def ParseTurnsWrongFalsely : Prop := parseTurnsRow.holds Tryd.pinned (OpenSpec.ofChange parseTurnsWrong)

/-- 'numnahlaw09.ParseTouches': WHATEVER THE INPUT: true; the input reads as it did. -/
def parseTouchesSpec : ChangeSpec := { name := "parseTouches", fn := fun _ => fun
  | [d1, d2] => { results := [.lit (.bool true)], args := [d1, d2] }
  | _ => none }
def parseTouchesRow : OpenClaim := { program := "ytpeeflkodpnbpaadoor", sum := "9e602d1758f95fc6c235323da75e643a8192c78fe4537d7f4476f6dbc7e33a0a", func := "numnah/numnahlaw09.ParseTouches", spec := "parseTouches", unfollowed := true, recurses := true, named := ["numnah/parse.single"], apart := false, laid := [("numnah/parse.single", laid_numnah_parse_single)] }
def ParseTouchesSaid : Prop := parseTouchesRow.holds Tryd.pinned (OpenSpec.ofChange parseTouchesSpec)

/-- ITS FALSE NEIGHBOUR: 'it returns false'. Refute it at one input. -/
def parseTouchesWrong : ChangeSpec := { name := "parseTouches", fn := fun _ => fun
  | [d1, d2] => { results := [.lit (.bool false)], args := [d1, d2] }
  | _ => none }
def ParseTouchesWrongFalsely : Prop := parseTouchesRow.holds Tryd.pinned (OpenSpec.ofChange parseTouchesWrong)

/-- 'numnahlaw09.ParseCommons': WHATEVER THE INPUT: true; the input reads as it did. -/
def parseCommonsSpec : ChangeSpec := { name := "parseCommons", fn := fun _ => fun
  | [d1, d2] => { results := [.lit (.bool true)], args := [d1, d2] }
  | _ => none }
def parseCommonsRow : OpenClaim := { program := "ytpeeflkodpnbpaadoor", sum := "9e602d1758f95fc6c235323da75e643a8192c78fe4537d7f4476f6dbc7e33a0a", func := "numnah/numnahlaw09.ParseCommons", spec := "parseCommons", unfollowed := true, recurses := true, named := ["numnah/parse.single"], apart := false, laid := [("numnah/parse.single", laid_numnah_parse_single)] }
def ParseCommonsSaid : Prop := parseCommonsRow.holds Tryd.pinned (OpenSpec.ofChange parseCommonsSpec)

/-- ITS FALSE NEIGHBOUR: 'it returns false'. Refute it at one input. -/
def parseCommonsWrong : ChangeSpec := { name := "parseCommons", fn := fun _ => fun
  | [d1, d2] => { results := [.lit (.bool false)], args := [d1, d2] }
  | _ => none }
def ParseCommonsWrongFalsely : Prop := parseCommonsRow.holds Tryd.pinned (OpenSpec.ofChange parseCommonsWrong)

/-- 'numnahlaw09.ParseShared': WHATEVER THE INPUT: true; the input reads as it did. -/
def parseSharedSpec : ChangeSpec := { name := "parseShared", fn := fun _ => fun
  | [d1, d2, d3] => { results := [.lit (.bool true)], args := [d1, d2, d3] }
  | _ => none }
def parseSharedRow : OpenClaim := { program := "ytpeeflkodpnbpaadoor", sum := "9e602d1758f95fc6c235323da75e643a8192c78fe4537d7f4476f6dbc7e33a0a", func := "numnah/numnahlaw09.ParseShared", spec := "parseShared", unfollowed := true, recurses := true, named := ["numnah/parse.single"], apart := false, laid := [("numnah/parse.single", laid_numnah_parse_single)] }
def ParseSharedSaid : Prop := parseSharedRow.holds Tryd.pinned (OpenSpec.ofChange parseSharedSpec)

/-- ITS FALSE NEIGHBOUR: 'it returns false'. Refute it at one input. -/
def parseSharedWrong : ChangeSpec := { name := "parseShared", fn := fun _ => fun
  | [d1, d2, d3] => { results := [.lit (.bool false)], args := [d1, d2, d3] }
  | _ => none }
def ParseSharedWrongFalsely : Prop := parseSharedRow.holds Tryd.pinned (OpenSpec.ofChange parseSharedWrong)

/-- 'numnahlaw09.ParseFew': WHATEVER THE INPUT: true; the input reads as it did. -/
def parseFewSpec : ChangeSpec := { name := "parseFew", fn := fun _ => fun
  | [d1, d2] => { results := [.lit (.bool true)], args := [d1, d2] }
  | _ => none }
def parseFewRow : OpenClaim := { program := "ytpeeflkodpnbpaadoor", sum := "9e602d1758f95fc6c235323da75e643a8192c78fe4537d7f4476f6dbc7e33a0a", func := "numnah/numnahlaw09.ParseFew", spec := "parseFew", unfollowed := true, recurses := true, named := ["numnah/parse.single"], apart := false, laid := [("numnah/parse.single", laid_numnah_parse_single)] }
def ParseFewSaid : Prop := parseFewRow.holds Tryd.pinned (OpenSpec.ofChange parseFewSpec)

/-- ITS FALSE NEIGHBOUR: 'it returns false'. Refute it at one input. -/
def parseFewWrong : ChangeSpec := { name := "parseFew", fn := fun _ => fun
  | [d1, d2] => { results := [.lit (.bool false)], args := [d1, d2] }
  | _ => none }
def ParseFewWrongFalsely : Prop := parseFewRow.holds Tryd.pinned (OpenSpec.ofChange parseFewWrong)

/-- 'numnahlaw09.ParseEnds': WHATEVER THE INPUT: true; the input reads as it did. -/
def parseEndsSpec : ChangeSpec := { name := "parseEnds", fn := fun _ => fun
  | [d] => { results := [.lit (.bool true)], args := [d] }
  | _ => none }
def parseEndsRow : OpenClaim := { program := "ytpeeflkodpnbpaadoor", sum := "9e602d1758f95fc6c235323da75e643a8192c78fe4537d7f4476f6dbc7e33a0a", func := "numnah/numnahlaw09.ParseEnds", spec := "parseEnds", unfollowed := true, recurses := true, named := ["numnah/parse.single"], apart := false, laid := [("numnah/parse.single", laid_numnah_parse_single)] }
def ParseEndsSaid : Prop := parseEndsRow.holds Tryd.pinned (OpenSpec.ofChange parseEndsSpec)

/-- ITS FALSE NEIGHBOUR: 'it returns false'. Refute it at one input. -/
def parseEndsWrong : ChangeSpec := { name := "parseEnds", fn := fun _ => fun
  | [d] => { results := [.lit (.bool false)], args := [d] }
  | _ => none }
def ParseEndsWrongFalsely : Prop := parseEndsRow.holds Tryd.pinned (OpenSpec.ofChange parseEndsWrong)

/-- 'numnahlaw09.ParseCounts': WHATEVER THE INPUT: true; the input reads as it did. -/
def parseCountsSpec : ChangeSpec := { name := "parseCounts", fn := fun _ => fun
  | [d] => { results := [.lit (.bool true)], args := [d] }
  | _ => none }
def parseCountsRow : OpenClaim := { program := "ytpeeflkodpnbpaadoor", sum := "9e602d1758f95fc6c235323da75e643a8192c78fe4537d7f4476f6dbc7e33a0a", func := "numnah/numnahlaw09.ParseCounts", spec := "parseCounts", unfollowed := true, recurses := true, named := ["numnah/parse.single"], apart := false, laid := [("numnah/parse.single", laid_numnah_parse_single)] }
def ParseCountsSaid : Prop := parseCountsRow.holds Tryd.pinned (OpenSpec.ofChange parseCountsSpec)

/-- ITS FALSE NEIGHBOUR: 'it returns false'. Refute it at one input. -/
def parseCountsWrong : ChangeSpec := { name := "parseCounts", fn := fun _ => fun
  | [d] => { results := [.lit (.bool false)], args := [d] }
  | _ => none }
def ParseCountsWrongFalsely : Prop := parseCountsRow.holds Tryd.pinned (OpenSpec.ofChange parseCountsWrong)

/-- 'numnahlaw09.ParseBack': WHATEVER THE INPUT: true; the input reads as it did. -/
def parseBackSpec : ChangeSpec := { name := "parseBack", fn := fun _ => fun
  | [d] => { results := [.lit (.bool true)], args := [d] }
  | _ => none }
def parseBackRow : OpenClaim := { program := "ytpeeflkodpnbpaadoor", sum := "9e602d1758f95fc6c235323da75e643a8192c78fe4537d7f4476f6dbc7e33a0a", func := "numnah/numnahlaw09.ParseBack", spec := "parseBack", unfollowed := true, recurses := true, named := ["numnah/parse.single"], apart := false, laid := [("numnah/parse.single", laid_numnah_parse_single)] }
def ParseBackSaid : Prop := parseBackRow.holds Tryd.pinned (OpenSpec.ofChange parseBackSpec)

/-- ITS FALSE NEIGHBOUR: 'it returns false'. Refute it at one input. -/
def parseBackWrong : ChangeSpec := { name := "parseBack", fn := fun _ => fun
  | [d] => { results := [.lit (.bool false)], args := [d] }
  | _ => none }
def ParseBackWrongFalsely : Prop := parseBackRow.holds Tryd.pinned (OpenSpec.ofChange parseBackWrong)

/-- 'numnahlaw09.ParseReversed': WHATEVER THE INPUT: true; the input reads as it did. -/
def parseReversedSpec : ChangeSpec := { name := "parseReversed", fn := fun _ => fun
  | [d1, d2] => { results := [.lit (.bool true)], args := [d1, d2] }
  | _ => none }
def parseReversedRow : OpenClaim := { program := "ytpeeflkodpnbpaadoor", sum := "9e602d1758f95fc6c235323da75e643a8192c78fe4537d7f4476f6dbc7e33a0a", func := "numnah/numnahlaw09.ParseReversed", spec := "parseReversed", unfollowed := true, recurses := true, named := ["numnah/parse.single"], apart := false, laid := [("numnah/parse.single", laid_numnah_parse_single)] }
def ParseReversedSaid : Prop := parseReversedRow.holds Tryd.pinned (OpenSpec.ofChange parseReversedSpec)

/-- ITS FALSE NEIGHBOUR: 'it returns false'. Refute it at one input. -/
def parseReversedWrong : ChangeSpec := { name := "parseReversed", fn := fun _ => fun
  | [d1, d2] => { results := [.lit (.bool false)], args := [d1, d2] }
  | _ => none }
def ParseReversedWrongFalsely : Prop := parseReversedRow.holds Tryd.pinned (OpenSpec.ofChange parseReversedWrong)

/-- 'numnahlaw09.ParseThere': WHATEVER THE INPUT: true; the input reads as it did. -/
def parseThereSpec : ChangeSpec := { name := "parseThere", fn := fun _ => fun
  | [d1, d2, d3] => { results := [.lit (.bool true)], args := [d1, d2, d3] }
  | _ => none }
def parseThereRow : OpenClaim := { program := "ytpeeflkodpnbpaadoor", sum := "9e602d1758f95fc6c235323da75e643a8192c78fe4537d7f4476f6dbc7e33a0a", func := "numnah/numnahlaw09.ParseThere", spec := "parseThere", unfollowed := true, recurses := true, named := ["numnah/parse.single"], apart := false, laid := [("numnah/parse.single", laid_numnah_parse_single)] }
def ParseThereSaid : Prop := parseThereRow.holds Tryd.pinned (OpenSpec.ofChange parseThereSpec)

/-- ITS FALSE NEIGHBOUR: 'it returns false'. Refute it at one input. -/
def parseThereWrong : ChangeSpec := { name := "parseThere", fn := fun _ => fun
  | [d1, d2, d3] => { results := [.lit (.bool false)], args := [d1, d2, d3] }
  | _ => none }
def ParseThereWrongFalsely : Prop := parseThereRow.holds Tryd.pinned (OpenSpec.ofChange parseThereWrong)

/-- 'numnahlaw09.ParseCheapests': WHATEVER THE INPUT: true; the input reads as it did. -/
def parseCheapestsSpec : ChangeSpec := { name := "parseCheapests", fn := fun _ => fun
  | [d1, d2, d3] => { results := [.lit (.bool true)], args := [d1, d2, d3] }
  | _ => none }
def parseCheapestsRow : OpenClaim := { program := "ytpeeflkodpnbpaadoor", sum := "9e602d1758f95fc6c235323da75e643a8192c78fe4537d7f4476f6dbc7e33a0a", func := "numnah/numnahlaw09.ParseCheapests", spec := "parseCheapests", unfollowed := true, recurses := true, named := ["numnah/parse.single"], apart := false, laid := [("numnah/parse.single", laid_numnah_parse_single)] }
def ParseCheapestsSaid : Prop := parseCheapestsRow.holds Tryd.pinned (OpenSpec.ofChange parseCheapestsSpec)

/-- ITS FALSE NEIGHBOUR: 'it returns false'. Refute it at one input. -/
def parseCheapestsWrong : ChangeSpec := { name := "parseCheapests", fn := fun _ => fun
  | [d1, d2, d3] => { results := [.lit (.bool false)], args := [d1, d2, d3] }
  | _ => none }
def ParseCheapestsWrongFalsely : Prop := parseCheapestsRow.holds Tryd.pinned (OpenSpec.ofChange parseCheapestsWrong)

/-- 'numnahlaw09.ParseGreedy': WHATEVER THE INPUT: true; the input reads as it did. -/
def parseGreedySpec : ChangeSpec := { name := "parseGreedy", fn := fun _ => fun
  | [d1, d2, d3] => { results := [.lit (.bool true)], args := [d1, d2, d3] }
  | _ => none }
def parseGreedyRow : OpenClaim := { program := "ytpeeflkodpnbpaadoor", sum := "9e602d1758f95fc6c235323da75e643a8192c78fe4537d7f4476f6dbc7e33a0a", func := "numnah/numnahlaw09.ParseGreedy", spec := "parseGreedy", unfollowed := true, recurses := true, named := ["numnah/parse.single"], apart := false, laid := [("numnah/parse.single", laid_numnah_parse_single)] }
def ParseGreedySaid : Prop := parseGreedyRow.holds Tryd.pinned (OpenSpec.ofChange parseGreedySpec)

/-- ITS FALSE NEIGHBOUR: 'it returns false'. Refute it at one input. -/
def parseGreedyWrong : ChangeSpec := { name := "parseGreedy", fn := fun _ => fun
  | [d1, d2, d3] => { results := [.lit (.bool false)], args := [d1, d2, d3] }
  | _ => none }
def ParseGreedyWrongFalsely : Prop := parseGreedyRow.holds Tryd.pinned (OpenSpec.ofChange parseGreedyWrong)

/-- 'numnahlaw09.ParseReads': WHATEVER THE INPUT: true; the input reads as it did. -/
def parseReadsSpec : ChangeSpec := { name := "parseReads", fn := fun _ => fun
  | [d1, d2] => { results := [.lit (.bool true)], args := [d1, d2] }
  | _ => none }
def parseReadsRow : OpenClaim := { program := "ytpeeflkodpnbpaadoor", sum := "9e602d1758f95fc6c235323da75e643a8192c78fe4537d7f4476f6dbc7e33a0a", func := "numnah/numnahlaw09.ParseReads", spec := "parseReads", unfollowed := true, recurses := true, named := ["numnah/parse.single"], apart := false, laid := [("numnah/parse.single", laid_numnah_parse_single)] }
def ParseReadsSaid : Prop := parseReadsRow.holds Tryd.pinned (OpenSpec.ofChange parseReadsSpec)

/-- ITS FALSE NEIGHBOUR: 'it returns false'. Refute it at one input. -/
def parseReadsWrong : ChangeSpec := { name := "parseReads", fn := fun _ => fun
  | [d1, d2] => { results := [.lit (.bool false)], args := [d1, d2] }
  | _ => none }
def ParseReadsWrongFalsely : Prop := parseReadsRow.holds Tryd.pinned (OpenSpec.ofChange parseReadsWrong)

/-- 'numnahlaw09.ParseOwn': WHATEVER THE INPUT: true; the input reads as it did. -/
def parseOwnSpec : ChangeSpec := { name := "parseOwn", fn := fun _ => fun
  | [d] => { results := [.lit (.bool true)], args := [d] }
  | _ => none }
def parseOwnRow : OpenClaim := { program := "ytpeeflkodpnbpaadoor", sum := "9e602d1758f95fc6c235323da75e643a8192c78fe4537d7f4476f6dbc7e33a0a", func := "numnah/numnahlaw09.ParseOwn", spec := "parseOwn", unfollowed := true, recurses := true, named := ["numnah/parse.single"], apart := false, laid := [("numnah/parse.single", laid_numnah_parse_single)] }
def ParseOwnSaid : Prop := parseOwnRow.holds Tryd.pinned (OpenSpec.ofChange parseOwnSpec)

/-- ITS FALSE NEIGHBOUR: 'it returns false'. Refute it at one input. -/
def parseOwnWrong : ChangeSpec := { name := "parseOwn", fn := fun _ => fun
  | [d] => { results := [.lit (.bool false)], args := [d] }
  | _ => none }
def ParseOwnWrongFalsely : Prop := parseOwnRow.holds Tryd.pinned (OpenSpec.ofChange parseOwnWrong)

/- THE SECOND FORM. 'bulk': how many values and letters a reading holds, each counted each time it is reached (what is shared counts as often as it is met; a slice's spare places count too). A statement '..UptoSaid' is the law's where the arguments, and the package variables that the reading takes, are together of bulk at most 1048576: NARROWER than '..Said'. Prove '..Said' where nothing that the law and all that it calls make is longer than what came in: it says more and counts as full. Else prove '..UptoSaid'. A law counts once. -/
mutual
def uptoBulk {H : Type} : DataW H → Nat
  | .lit (.string bytes) => bytes.length + 1
  | .lit _ => 1
  | .nil => 1
  | .ptr d => uptoBulk d + 1
  | .slice elems spare => uptoBulkAll elems + uptoBulkAll spare + 1
  | .agg parts => uptoBulkAll parts + 1
  | .iface _ d => uptoBulk d + 1
  | .map entries => uptoBulkEntries entries + 1
  | .held _ => 1
def uptoBulkAll {H : Type} : List (DataW H) → Nat
  | [] => 0
  | d :: r => uptoBulk d + uptoBulkAll r
def uptoBulkEntries {H : Type} : List (Lit × DataW H) → Nat
  | [] => 0
  | x :: r => uptoBulkEntry x + uptoBulkEntries r
def uptoBulkEntry {H : Type} : Lit × DataW H → Nat
  | (.string bytes, d) => bytes.length + uptoBulk d + 1
  | (_, d) => uptoBulk d + 1
 end
def uptoSmall : (H : Type) → List (DataW H) → Bool := fun _ ds => decide (uptoBulkAll ds ≤ 1048576)
def OpenSpec.upto (s : _root_.Go.ChangeSpec) : _root_.Go.OpenSpec := { _root_.Go.OpenSpec.ofChange s with cond := some uptoSmall }

/-- 'numnahlaw09.ParseParses', WHERE WHAT IT READS IS OF BULK AT MOST 1048576: true; the input reads as it did. -/
def parseParsesUptoRow : OpenClaim := { program := "ytpeeflkodpnbpaadoor", sum := "9e602d1758f95fc6c235323da75e643a8192c78fe4537d7f4476f6dbc7e33a0a", func := "numnah/numnahlaw09.ParseParses", spec := "parseParses", unfollowed := true, recurses := true, named := ["numnah/parse.single"], apart := false, laid := [("numnah/parse.single", laid_numnah_parse_single)], narrowed := true }
def ParseParsesUptoSaid : Prop := parseParsesUptoRow.holds Tryd.pinned (OpenSpec.upto parseParsesSpec)

/-- 'numnahlaw09.ParseDoubled', WHERE WHAT IT READS IS OF BULK AT MOST 1048576: true; the input reads as it did. -/
def parseDoubledUptoRow : OpenClaim := { program := "ytpeeflkodpnbpaadoor", sum := "9e602d1758f95fc6c235323da75e643a8192c78fe4537d7f4476f6dbc7e33a0a", func := "numnah/numnahlaw09.ParseDoubled", spec := "parseDoubled", unfollowed := true, recurses := true, named := ["numnah/parse.single"], apart := false, laid := [("numnah/parse.single", laid_numnah_parse_single)], narrowed := true }
def ParseDoubledUptoSaid : Prop := parseDoubledUptoRow.holds Tryd.pinned (OpenSpec.upto parseDoubledSpec)

/-- 'numnahlaw09.ParseInverse', WHERE WHAT IT READS IS OF BULK AT MOST 1048576: true; the input reads as it did. -/
def parseInverseUptoRow : OpenClaim := { program := "ytpeeflkodpnbpaadoor", sum := "9e602d1758f95fc6c235323da75e643a8192c78fe4537d7f4476f6dbc7e33a0a", func := "numnah/numnahlaw09.ParseInverse", spec := "parseInverse", unfollowed := true, recurses := true, named := ["numnah/parse.single"], apart := false, laid := [("numnah/parse.single", laid_numnah_parse_single)], narrowed := true }
def ParseInverseUptoSaid : Prop := parseInverseUptoRow.holds Tryd.pinned (OpenSpec.upto parseInverseSpec)

/-- 'numnahlaw09.ParseNested', WHERE WHAT IT READS IS OF BULK AT MOST 1048576: true; the input reads as it did. -/
def parseNestedUptoRow : OpenClaim := { program := "ytpeeflkodpnbpaadoor", sum := "9e602d1758f95fc6c235323da75e643a8192c78fe4537d7f4476f6dbc7e33a0a", func := "numnah/numnahlaw09.ParseNested", spec := "parseNested", unfollowed := true, recurses := true, named := ["numnah/parse.single"], apart := false, laid := [("numnah/parse.single", laid_numnah_parse_single)], narrowed := true }
def ParseNestedUptoSaid : Prop := parseNestedUptoRow.holds Tryd.pinned (OpenSpec.upto parseNestedSpec)

/-- 'numnahlaw09.ParseTurns', WHERE WHAT IT READS IS OF BULK AT MOST 1048576: true; the input reads as it did. -/
def parseTurnsUptoRow : OpenClaim := { program := "ytpeeflkodpnbpaadoor", sum := "9e602d1758f95fc6c235323da75e643a8192c78fe4537d7f4476f6dbc7e33a0a", func := "numnah/numnahlaw09.ParseTurns", spec := "parseTurns", unfollowed := true, recurses := true, named := ["numnah/parse.single"], apart := false, laid := [("numnah/parse.single", laid_numnah_parse_single)], narrowed := true }
def ParseTurnsUptoSaid : Prop := parseTurnsUptoRow.holds Tryd.pinned (OpenSpec.upto parseTurnsSpec)

/-- 'numnahlaw09.ParseTouches', WHERE WHAT IT READS IS OF BULK AT MOST 1048576: true; the input reads as it did. -/
def parseTouchesUptoRow : OpenClaim := { program := "ytpeeflkodpnbpaadoor", sum := "9e602d1758f95fc6c235323da75e643a8192c78fe4537d7f4476f6dbc7e33a0a", func := "numnah/numnahlaw09.ParseTouches", spec := "parseTouches", unfollowed := true, recurses := true, named := ["numnah/parse.single"], apart := false, laid := [("numnah/parse.single", laid_numnah_parse_single)], narrowed := true }
def ParseTouchesUptoSaid : Prop := parseTouchesUptoRow.holds Tryd.pinned (OpenSpec.upto parseTouchesSpec)

/-- 'numnahlaw09.ParseCommons', WHERE WHAT IT READS IS OF BULK AT MOST 1048576: true; the input reads as it did. -/
def parseCommonsUptoRow : OpenClaim := { program := "ytpeeflkodpnbpaadoor", sum := "9e602d1758f95fc6c235323da75e643a8192c78fe4537d7f4476f6dbc7e33a0a", func := "numnah/numnahlaw09.ParseCommons", spec := "parseCommons", unfollowed := true, recurses := true, named := ["numnah/parse.single"], apart := false, laid := [("numnah/parse.single", laid_numnah_parse_single)], narrowed := true }
def ParseCommonsUptoSaid : Prop := parseCommonsUptoRow.holds Tryd.pinned (OpenSpec.upto parseCommonsSpec)

/-- 'numnahlaw09.ParseShared', WHERE WHAT IT READS IS OF BULK AT MOST 1048576: true; the input reads as it did. -/
def parseSharedUptoRow : OpenClaim := { program := "ytpeeflkodpnbpaadoor", sum := "9e602d1758f95fc6c235323da75e643a8192c78fe4537d7f4476f6dbc7e33a0a", func := "numnah/numnahlaw09.ParseShared", spec := "parseShared", unfollowed := true, recurses := true, named := ["numnah/parse.single"], apart := false, laid := [("numnah/parse.single", laid_numnah_parse_single)], narrowed := true }
def ParseSharedUptoSaid : Prop := parseSharedUptoRow.holds Tryd.pinned (OpenSpec.upto parseSharedSpec)

/-- 'numnahlaw09.ParseFew', WHERE WHAT IT READS IS OF BULK AT MOST 1048576: true; the input reads as it did. -/
def parseFewUptoRow : OpenClaim := { program := "ytpeeflkodpnbpaadoor", sum := "9e602d1758f95fc6c235323da75e643a8192c78fe4537d7f4476f6dbc7e33a0a", func := "numnah/numnahlaw09.ParseFew", spec := "parseFew", unfollowed := true, recurses := true, named := ["numnah/parse.single"], apart := false, laid := [("numnah/parse.single", laid_numnah_parse_single)], narrowed := true }
def ParseFewUptoSaid : Prop := parseFewUptoRow.holds Tryd.pinned (OpenSpec.upto parseFewSpec)

/-- 'numnahlaw09.ParseEnds', WHERE WHAT IT READS IS OF BULK AT MOST 1048576: true; the input reads as it did. -/
def parseEndsUptoRow : OpenClaim := { program := "ytpeeflkodpnbpaadoor", sum := "9e602d1758f95fc6c235323da75e643a8192c78fe4537d7f4476f6dbc7e33a0a", func := "numnah/numnahlaw09.ParseEnds", spec := "parseEnds", unfollowed := true, recurses := true, named := ["numnah/parse.single"], apart := false, laid := [("numnah/parse.single", laid_numnah_parse_single)], narrowed := true }
def ParseEndsUptoSaid : Prop := parseEndsUptoRow.holds Tryd.pinned (OpenSpec.upto parseEndsSpec)

/-- 'numnahlaw09.ParseCounts', WHERE WHAT IT READS IS OF BULK AT MOST 1048576: true; the input reads as it did. -/
def parseCountsUptoRow : OpenClaim := { program := "ytpeeflkodpnbpaadoor", sum := "9e602d1758f95fc6c235323da75e643a8192c78fe4537d7f4476f6dbc7e33a0a", func := "numnah/numnahlaw09.ParseCounts", spec := "parseCounts", unfollowed := true, recurses := true, named := ["numnah/parse.single"], apart := false, laid := [("numnah/parse.single", laid_numnah_parse_single)], narrowed := true }
def ParseCountsUptoSaid : Prop := parseCountsUptoRow.holds Tryd.pinned (OpenSpec.upto parseCountsSpec)

/-- 'numnahlaw09.ParseBack', WHERE WHAT IT READS IS OF BULK AT MOST 1048576: true; the input reads as it did. -/
def parseBackUptoRow : OpenClaim := { program := "ytpeeflkodpnbpaadoor", sum := "9e602d1758f95fc6c235323da75e643a8192c78fe4537d7f4476f6dbc7e33a0a", func := "numnah/numnahlaw09.ParseBack", spec := "parseBack", unfollowed := true, recurses := true, named := ["numnah/parse.single"], apart := false, laid := [("numnah/parse.single", laid_numnah_parse_single)], narrowed := true }
def ParseBackUptoSaid : Prop := parseBackUptoRow.holds Tryd.pinned (OpenSpec.upto parseBackSpec)

/-- 'numnahlaw09.ParseReversed', WHERE WHAT IT READS IS OF BULK AT MOST 1048576: true; the input reads as it did. -/
def parseReversedUptoRow : OpenClaim := { program := "ytpeeflkodpnbpaadoor", sum := "9e602d1758f95fc6c235323da75e643a8192c78fe4537d7f4476f6dbc7e33a0a", func := "numnah/numnahlaw09.ParseReversed", spec := "parseReversed", unfollowed := true, recurses := true, named := ["numnah/parse.single"], apart := false, laid := [("numnah/parse.single", laid_numnah_parse_single)], narrowed := true }
def ParseReversedUptoSaid : Prop := parseReversedUptoRow.holds Tryd.pinned (OpenSpec.upto parseReversedSpec)

/-- 'numnahlaw09.ParseThere', WHERE WHAT IT READS IS OF BULK AT MOST 1048576: true; the input reads as it did. -/
def parseThereUptoRow : OpenClaim := { program := "ytpeeflkodpnbpaadoor", sum := "9e602d1758f95fc6c235323da75e643a8192c78fe4537d7f4476f6dbc7e33a0a", func := "numnah/numnahlaw09.ParseThere", spec := "parseThere", unfollowed := true, recurses := true, named := ["numnah/parse.single"], apart := false, laid := [("numnah/parse.single", laid_numnah_parse_single)], narrowed := true }
def ParseThereUptoSaid : Prop := parseThereUptoRow.holds Tryd.pinned (OpenSpec.upto parseThereSpec)

/-- 'numnahlaw09.ParseCheapests', WHERE WHAT IT READS IS OF BULK AT MOST 1048576: true; the input reads as it did. -/
def parseCheapestsUptoRow : OpenClaim := { program := "ytpeeflkodpnbpaadoor", sum := "9e602d1758f95fc6c235323da75e643a8192c78fe4537d7f4476f6dbc7e33a0a", func := "numnah/numnahlaw09.ParseCheapests", spec := "parseCheapests", unfollowed := true, recurses := true, named := ["numnah/parse.single"], apart := false, laid := [("numnah/parse.single", laid_numnah_parse_single)], narrowed := true }
def ParseCheapestsUptoSaid : Prop := parseCheapestsUptoRow.holds Tryd.pinned (OpenSpec.upto parseCheapestsSpec)

/-- 'numnahlaw09.ParseGreedy', WHERE WHAT IT READS IS OF BULK AT MOST 1048576: true; the input reads as it did. -/
def parseGreedyUptoRow : OpenClaim := { program := "ytpeeflkodpnbpaadoor", sum := "9e602d1758f95fc6c235323da75e643a8192c78fe4537d7f4476f6dbc7e33a0a", func := "numnah/numnahlaw09.ParseGreedy", spec := "parseGreedy", unfollowed := true, recurses := true, named := ["numnah/parse.single"], apart := false, laid := [("numnah/parse.single", laid_numnah_parse_single)], narrowed := true }
def ParseGreedyUptoSaid : Prop := parseGreedyUptoRow.holds Tryd.pinned (OpenSpec.upto parseGreedySpec)

/-- 'numnahlaw09.ParseReads', WHERE WHAT IT READS IS OF BULK AT MOST 1048576: true; the input reads as it did. -/
def parseReadsUptoRow : OpenClaim := { program := "ytpeeflkodpnbpaadoor", sum := "9e602d1758f95fc6c235323da75e643a8192c78fe4537d7f4476f6dbc7e33a0a", func := "numnah/numnahlaw09.ParseReads", spec := "parseReads", unfollowed := true, recurses := true, named := ["numnah/parse.single"], apart := false, laid := [("numnah/parse.single", laid_numnah_parse_single)], narrowed := true }
def ParseReadsUptoSaid : Prop := parseReadsUptoRow.holds Tryd.pinned (OpenSpec.upto parseReadsSpec)

/-- 'numnahlaw09.ParseOwn', WHERE WHAT IT READS IS OF BULK AT MOST 1048576: true; the input reads as it did. -/
def parseOwnUptoRow : OpenClaim := { program := "ytpeeflkodpnbpaadoor", sum := "9e602d1758f95fc6c235323da75e643a8192c78fe4537d7f4476f6dbc7e33a0a", func := "numnah/numnahlaw09.ParseOwn", spec := "parseOwn", unfollowed := true, recurses := true, named := ["numnah/parse.single"], apart := false, laid := [("numnah/parse.single", laid_numnah_parse_single)], narrowed := true }
def ParseOwnUptoSaid : Prop := parseOwnUptoRow.holds Tryd.pinned (OpenSpec.upto parseOwnSpec)

end Rows
end Go.Proofs.YtpeeflkodpnbpaaDoor
