/-
  No cell of these rows narrows 'for every input' (looked for: loops, veiled, ifaces, maps, wideKeys, modest, calm, conditions, laid).
  DERIVED. THE GIVEN ROWS OF THIS SEAT. 17 by the template 'for every input the law returns true; each argument reads behind the call as it read before'; 0 by the template 'total and deterministic' (their statements: YtaafeallcaiooaaGreatTotals.lean).
  GIVEN WITH THE SEED: the statements are not yours to turn. If you find one false, say at which input.
  Laid BY PROGRAM, IN A SANDBOX (cutbox-rows.mjs): the forced cells as the released guide's own fill.sh prints them over the translation cfbb824a2d5262d2… (all of the seat's roots in one cut). By AI agents, Wed Nov 11 2026. No macro, syntax, notation, axiom, sorry.
-/
import Derived.Test.YtaafeallcaiooaaGreatChecked
import GoSem.Claim
import GoSem.ClaimJoined
import GoSem.ClaimMapViews
import Derived.JoinedTies
import Derived.KernelRfl
namespace Go.Proofs.YtaafeallcaiooaaGreat
/- THE CELL 'sum', in the pinned program and in every row, IS THE sha256 OF THE DUMP (.gsa) THAT YtaafeallcaiooaaGreatProg.lean LOADS. Nothing in Lean hashes anything: it is a label: what it is worth is what the hold of that sum in a sandbox is worth. -/
noncomputable def Tryz.pinned : Pinned := { name := "ytaafeallcaiooaagreat", sum := "cfbb824a2d5262d24f48f276787aea4aa2d8e8df98062fd9a01119f129996ae8", checked := Tryz.checked }
namespace Rows
def none {H : Type} : Left H := { results := [], args := [] }

/-- 'numnahlaw08.RulesValues': WHATEVER THE INPUT: true; the input reads as it did. -/
def rulesValuesSpec : ChangeSpec := { name := "rulesValues", fn := fun _ => fun
  | [d1, d2] => { results := [.lit (.bool true)], args := [d1, d2] }
  | _ => none }
def rulesValuesRow : OpenClaim := { program := "ytaafeallcaiooaagreat", sum := "cfbb824a2d5262d24f48f276787aea4aa2d8e8df98062fd9a01119f129996ae8", func := "numnah/numnahlaw08.RulesValues", spec := "rulesValues", unfollowed := true, recurses := true, plainKeys := false, apart := false }
def RulesValuesSaid : Prop := rulesValuesRow.holds Tryz.pinned (OpenSpec.ofChange rulesValuesSpec)

/-- ITS FALSE NEIGHBOUR: 'it returns false'. Refute it at one input. -/
def rulesValuesWrong : ChangeSpec := { name := "rulesValues", fn := fun _ => fun
  | [d1, d2] => { results := [.lit (.bool false)], args := [d1, d2] }
  | _ => none }
def RulesValuesWrongFalsely : Prop := rulesValuesRow.holds Tryz.pinned (OpenSpec.ofChange rulesValuesWrong)

/-- 'numnahlaw08.RulesLoops': WHATEVER THE INPUT: true; the input reads as it did. -/
def rulesLoopsSpec : ChangeSpec := { name := "rulesLoops", fn := fun _ => fun
  | [d1, d2] => { results := [.lit (.bool true)], args := [d1, d2] }
  | _ => none }
def rulesLoopsRow : OpenClaim := { program := "ytaafeallcaiooaagreat", sum := "cfbb824a2d5262d24f48f276787aea4aa2d8e8df98062fd9a01119f129996ae8", func := "numnah/numnahlaw08.RulesLoops", spec := "rulesLoops", unfollowed := true, recurses := true, plainKeys := false, apart := false }
def RulesLoopsSaid : Prop := rulesLoopsRow.holds Tryz.pinned (OpenSpec.ofChange rulesLoopsSpec)

/-- ITS FALSE NEIGHBOUR: 'it returns false'. Refute it at one input. -/
def rulesLoopsWrong : ChangeSpec := { name := "rulesLoops", fn := fun _ => fun
  | [d1, d2] => { results := [.lit (.bool false)], args := [d1, d2] }
  | _ => none }
def RulesLoopsWrongFalsely : Prop := rulesLoopsRow.holds Tryz.pinned (OpenSpec.ofChange rulesLoopsWrong)

/-- 'numnahlaw08.RulesSized': WHATEVER THE INPUT: true; the input reads as it did. -/
def rulesSizedSpec : ChangeSpec := { name := "rulesSized", fn := fun _ => fun
  | [d1, d2] => { results := [.lit (.bool true)], args := [d1, d2] }
  | _ => none }
def rulesSizedRow : OpenClaim := { program := "ytaafeallcaiooaagreat", sum := "cfbb824a2d5262d24f48f276787aea4aa2d8e8df98062fd9a01119f129996ae8", func := "numnah/numnahlaw08.RulesSized", spec := "rulesSized", unfollowed := true, recurses := true, plainKeys := false, apart := false }
def RulesSizedSaid : Prop := rulesSizedRow.holds Tryz.pinned (OpenSpec.ofChange rulesSizedSpec)

/-- ITS FALSE NEIGHBOUR: 'it returns false'. Refute it at one input. -/
def rulesSizedWrong : ChangeSpec := { name := "rulesSized", fn := fun _ => fun
  | [d1, d2] => { results := [.lit (.bool false)], args := [d1, d2] }
  | _ => none }
def RulesSizedWrongFalsely : Prop := rulesSizedRow.holds Tryz.pinned (OpenSpec.ofChange rulesSizedWrong)

/-- 'numnahlaw08.RulesOrients': WHATEVER THE INPUT: true; the input reads as it did. -/
def rulesOrientsSpec : ChangeSpec := { name := "rulesOrients", fn := fun _ => fun
  | [d1, d2] => { results := [.lit (.bool true)], args := [d1, d2] }
  | _ => none }
def rulesOrientsRow : OpenClaim := { program := "ytaafeallcaiooaagreat", sum := "cfbb824a2d5262d24f48f276787aea4aa2d8e8df98062fd9a01119f129996ae8", func := "numnah/numnahlaw08.RulesOrients", spec := "rulesOrients", unfollowed := true, recurses := true, plainKeys := false, apart := false }
def RulesOrientsSaid : Prop := rulesOrientsRow.holds Tryz.pinned (OpenSpec.ofChange rulesOrientsSpec)

/-- ITS FALSE NEIGHBOUR: 'it returns false'. Refute it at one input. -/
def rulesOrientsWrong : ChangeSpec := { name := "rulesOrients", fn := fun _ => fun
  | [d1, d2] => { results := [.lit (.bool false)], args := [d1, d2] }
  | _ => none }
def RulesOrientsWrongFalsely : Prop := rulesOrientsRow.holds Tryz.pinned (OpenSpec.ofChange rulesOrientsWrong)

/-- 'numnahlaw08.RulesFirst': WHATEVER THE INPUT: true; the input reads as it did. -/
def rulesFirstSpec : ChangeSpec := { name := "rulesFirst", fn := fun _ => fun
  | [d1, d2] => { results := [.lit (.bool true)], args := [d1, d2] }
  | _ => none }
def rulesFirstRow : OpenClaim := { program := "ytaafeallcaiooaagreat", sum := "cfbb824a2d5262d24f48f276787aea4aa2d8e8df98062fd9a01119f129996ae8", func := "numnah/numnahlaw08.RulesFirst", spec := "rulesFirst", unfollowed := true, recurses := true, plainKeys := false, apart := false }
def RulesFirstSaid : Prop := rulesFirstRow.holds Tryz.pinned (OpenSpec.ofChange rulesFirstSpec)

/-- ITS FALSE NEIGHBOUR: 'it returns false'. Refute it at one input. -/
def rulesFirstWrong : ChangeSpec := { name := "rulesFirst", fn := fun _ => fun
  | [d1, d2] => { results := [.lit (.bool false)], args := [d1, d2] }
  | _ => none }
def RulesFirstWrongFalsely : Prop := rulesFirstRow.holds Tryz.pinned (OpenSpec.ofChange rulesFirstWrong)

/-- 'numnahlaw08.RulesGreater': WHATEVER THE INPUT: true; the input reads as it did. -/
def rulesGreaterSpec : ChangeSpec := { name := "rulesGreater", fn := fun _ => fun
  | [d1, d2, d3] => { results := [.lit (.bool true)], args := [d1, d2, d3] }
  | _ => none }
def rulesGreaterRow : OpenClaim := { program := "ytaafeallcaiooaagreat", sum := "cfbb824a2d5262d24f48f276787aea4aa2d8e8df98062fd9a01119f129996ae8", func := "numnah/numnahlaw08.RulesGreater", spec := "rulesGreater", unfollowed := true, recurses := true, plainKeys := false, apart := false }
def RulesGreaterSaid : Prop := rulesGreaterRow.holds Tryz.pinned (OpenSpec.ofChange rulesGreaterSpec)

/-- ITS FALSE NEIGHBOUR: 'it returns false'. Refute it at one input. -/
def rulesGreaterWrong : ChangeSpec := { name := "rulesGreater", fn := fun _ => fun
  | [d1, d2, d3] => { results := [.lit (.bool false)], args := [d1, d2, d3] }
  | _ => none }
def RulesGreaterWrongFalsely : Prop := rulesGreaterRow.holds Tryz.pinned (OpenSpec.ofChange rulesGreaterWrong)

/-- 'numnahlaw08.RulesOrdered': WHATEVER THE INPUT: true; the input reads as it did. -/
def rulesOrderedSpec : ChangeSpec := { name := "rulesOrdered", fn := fun _ => fun
  | [d1, d2] => { results := [.lit (.bool true)], args := [d1, d2] }
  | _ => none }
def rulesOrderedRow : OpenClaim := { program := "ytaafeallcaiooaagreat", sum := "cfbb824a2d5262d24f48f276787aea4aa2d8e8df98062fd9a01119f129996ae8", func := "numnah/numnahlaw08.RulesOrdered", spec := "rulesOrdered", unfollowed := true, recurses := true, plainKeys := false, apart := false }
def RulesOrderedSaid : Prop := rulesOrderedRow.holds Tryz.pinned (OpenSpec.ofChange rulesOrderedSpec)

/-- ITS FALSE NEIGHBOUR: 'it returns false'. Refute it at one input. -/
def rulesOrderedWrong : ChangeSpec := { name := "rulesOrdered", fn := fun _ => fun
  | [d1, d2] => { results := [.lit (.bool false)], args := [d1, d2] }
  | _ => none }
def RulesOrderedWrongFalsely : Prop := rulesOrderedRow.holds Tryz.pinned (OpenSpec.ofChange rulesOrderedWrong)

/-- 'numnahlaw08.RulesStable': WHATEVER THE INPUT: true; the input reads as it did. -/
def rulesStableSpec : ChangeSpec := { name := "rulesStable", fn := fun _ => fun
  | [d1, d2] => { results := [.lit (.bool true)], args := [d1, d2] }
  | _ => none }
def rulesStableRow : OpenClaim := { program := "ytaafeallcaiooaagreat", sum := "cfbb824a2d5262d24f48f276787aea4aa2d8e8df98062fd9a01119f129996ae8", func := "numnah/numnahlaw08.RulesStable", spec := "rulesStable", unfollowed := true, recurses := true, plainKeys := false, apart := false }
def RulesStableSaid : Prop := rulesStableRow.holds Tryz.pinned (OpenSpec.ofChange rulesStableSpec)

/-- ITS FALSE NEIGHBOUR: 'it returns false'. Refute it at one input. -/
def rulesStableWrong : ChangeSpec := { name := "rulesStable", fn := fun _ => fun
  | [d1, d2] => { results := [.lit (.bool false)], args := [d1, d2] }
  | _ => none }
def RulesStableWrongFalsely : Prop := rulesStableRow.holds Tryz.pinned (OpenSpec.ofChange rulesStableWrong)

/-- 'numnahlaw08.RulesTerms': WHATEVER THE INPUT: true; the input reads as it did. -/
def rulesTermsSpec : ChangeSpec := { name := "rulesTerms", fn := fun _ => fun
  | [d1, d2] => { results := [.lit (.bool true)], args := [d1, d2] }
  | _ => none }
def rulesTermsRow : OpenClaim := { program := "ytaafeallcaiooaagreat", sum := "cfbb824a2d5262d24f48f276787aea4aa2d8e8df98062fd9a01119f129996ae8", func := "numnah/numnahlaw08.RulesTerms", spec := "rulesTerms", unfollowed := true, recurses := true, plainKeys := false, apart := false }
def RulesTermsSaid : Prop := rulesTermsRow.holds Tryz.pinned (OpenSpec.ofChange rulesTermsSpec)

/-- ITS FALSE NEIGHBOUR: 'it returns false'. Refute it at one input. -/
def rulesTermsWrong : ChangeSpec := { name := "rulesTerms", fn := fun _ => fun
  | [d1, d2] => { results := [.lit (.bool false)], args := [d1, d2] }
  | _ => none }
def RulesTermsWrongFalsely : Prop := rulesTermsRow.holds Tryz.pinned (OpenSpec.ofChange rulesTermsWrong)

/-- 'numnahlaw08.RulesNexts': WHATEVER THE INPUT: true; the input reads as it did. -/
def rulesNextsSpec : ChangeSpec := { name := "rulesNexts", fn := fun _ => fun
  | [d1, d2, d3] => { results := [.lit (.bool true)], args := [d1, d2, d3] }
  | _ => none }
def rulesNextsRow : OpenClaim := { program := "ytaafeallcaiooaagreat", sum := "cfbb824a2d5262d24f48f276787aea4aa2d8e8df98062fd9a01119f129996ae8", func := "numnah/numnahlaw08.RulesNexts", spec := "rulesNexts", unfollowed := true, recurses := true, plainKeys := false, apart := false }
def RulesNextsSaid : Prop := rulesNextsRow.holds Tryz.pinned (OpenSpec.ofChange rulesNextsSpec)

/-- ITS FALSE NEIGHBOUR: 'it returns false'. Refute it at one input. -/
def rulesNextsWrong : ChangeSpec := { name := "rulesNexts", fn := fun _ => fun
  | [d1, d2, d3] => { results := [.lit (.bool false)], args := [d1, d2, d3] }
  | _ => none }
def RulesNextsWrongFalsely : Prop := rulesNextsRow.holds Tryz.pinned (OpenSpec.ofChange rulesNextsWrong)

/-- 'numnahlaw08.RulesSteps': WHATEVER THE INPUT: true; the input reads as it did. -/
def rulesStepsSpec : ChangeSpec := { name := "rulesSteps", fn := fun _ => fun
  | [d1, d2, d3] => { results := [.lit (.bool true)], args := [d1, d2, d3] }
  | _ => none }
def rulesStepsRow : OpenClaim := { program := "ytaafeallcaiooaagreat", sum := "cfbb824a2d5262d24f48f276787aea4aa2d8e8df98062fd9a01119f129996ae8", func := "numnah/numnahlaw08.RulesSteps", spec := "rulesSteps", unfollowed := true, recurses := true, plainKeys := false, apart := false }
def RulesStepsSaid : Prop := rulesStepsRow.holds Tryz.pinned (OpenSpec.ofChange rulesStepsSpec)

/-- ITS FALSE NEIGHBOUR: 'it returns false'. Refute it at one input. -/
def rulesStepsWrong : ChangeSpec := { name := "rulesSteps", fn := fun _ => fun
  | [d1, d2, d3] => { results := [.lit (.bool false)], args := [d1, d2, d3] }
  | _ => none }
def RulesStepsWrongFalsely : Prop := rulesStepsRow.holds Tryz.pinned (OpenSpec.ofChange rulesStepsWrong)

/-- 'numnahlaw08.RulesRound': WHATEVER THE INPUT: true; the input reads as it did. -/
def rulesRoundSpec : ChangeSpec := { name := "rulesRound", fn := fun _ => fun
  | [d1, d2, d3] => { results := [.lit (.bool true)], args := [d1, d2, d3] }
  | _ => none }
def rulesRoundRow : OpenClaim := { program := "ytaafeallcaiooaagreat", sum := "cfbb824a2d5262d24f48f276787aea4aa2d8e8df98062fd9a01119f129996ae8", func := "numnah/numnahlaw08.RulesRound", spec := "rulesRound", unfollowed := true, recurses := true, plainKeys := false, apart := false }
def RulesRoundSaid : Prop := rulesRoundRow.holds Tryz.pinned (OpenSpec.ofChange rulesRoundSpec)

/-- ITS FALSE NEIGHBOUR: 'it returns false'. Refute it at one input. -/
def rulesRoundWrong : ChangeSpec := { name := "rulesRound", fn := fun _ => fun
  | [d1, d2, d3] => { results := [.lit (.bool false)], args := [d1, d2, d3] }
  | _ => none }
def RulesRoundWrongFalsely : Prop := rulesRoundRow.holds Tryz.pinned (OpenSpec.ofChange rulesRoundWrong)

/-- 'numnahlaw08.RulesReaches': WHATEVER THE INPUT: true; the input reads as it did. -/
def rulesReachesSpec : ChangeSpec := { name := "rulesReaches", fn := fun _ => fun
  | [d1, d2, d3] => { results := [.lit (.bool true)], args := [d1, d2, d3] }
  | _ => none }
def rulesReachesRow : OpenClaim := { program := "ytaafeallcaiooaagreat", sum := "cfbb824a2d5262d24f48f276787aea4aa2d8e8df98062fd9a01119f129996ae8", func := "numnah/numnahlaw08.RulesReaches", spec := "rulesReaches", unfollowed := true, recurses := true, plainKeys := false, apart := false }
def RulesReachesSaid : Prop := rulesReachesRow.holds Tryz.pinned (OpenSpec.ofChange rulesReachesSpec)

/-- ITS FALSE NEIGHBOUR: 'it returns false'. Refute it at one input. -/
def rulesReachesWrong : ChangeSpec := { name := "rulesReaches", fn := fun _ => fun
  | [d1, d2, d3] => { results := [.lit (.bool false)], args := [d1, d2, d3] }
  | _ => none }
def RulesReachesWrongFalsely : Prop := rulesReachesRow.holds Tryz.pinned (OpenSpec.ofChange rulesReachesWrong)

/-- 'numnahlaw08.RulesReadings': WHATEVER THE INPUT: true; the input reads as it did. -/
def rulesReadingsSpec : ChangeSpec := { name := "rulesReadings", fn := fun _ => fun
  | [d1, d2] => { results := [.lit (.bool true)], args := [d1, d2] }
  | _ => none }
def rulesReadingsRow : OpenClaim := { program := "ytaafeallcaiooaagreat", sum := "cfbb824a2d5262d24f48f276787aea4aa2d8e8df98062fd9a01119f129996ae8", func := "numnah/numnahlaw08.RulesReadings", spec := "rulesReadings", unfollowed := true, recurses := true, plainKeys := false, apart := false }
def RulesReadingsSaid : Prop := rulesReadingsRow.holds Tryz.pinned (OpenSpec.ofChange rulesReadingsSpec)

/-- ITS FALSE NEIGHBOUR: 'it returns false'. Refute it at one input. -/
def rulesReadingsWrong : ChangeSpec := { name := "rulesReadings", fn := fun _ => fun
  | [d1, d2] => { results := [.lit (.bool false)], args := [d1, d2] }
  | _ => none }
def RulesReadingsWrongFalsely : Prop := rulesReadingsRow.holds Tryz.pinned (OpenSpec.ofChange rulesReadingsWrong)

/-- 'numnahlaw08.RulesNormal': WHATEVER THE INPUT: true; the input reads as it did. -/
def rulesNormalSpec : ChangeSpec := { name := "rulesNormal", fn := fun _ => fun
  | [d1, d2] => { results := [.lit (.bool true)], args := [d1, d2] }
  | _ => none }
def rulesNormalRow : OpenClaim := { program := "ytaafeallcaiooaagreat", sum := "cfbb824a2d5262d24f48f276787aea4aa2d8e8df98062fd9a01119f129996ae8", func := "numnah/numnahlaw08.RulesNormal", spec := "rulesNormal", unfollowed := true, recurses := true, plainKeys := false, apart := false }
def RulesNormalSaid : Prop := rulesNormalRow.holds Tryz.pinned (OpenSpec.ofChange rulesNormalSpec)

/-- ITS FALSE NEIGHBOUR: 'it returns false'. Refute it at one input. -/
def rulesNormalWrong : ChangeSpec := { name := "rulesNormal", fn := fun _ => fun
  | [d1, d2] => { results := [.lit (.bool false)], args := [d1, d2] }
  | _ => none }
def RulesNormalWrongFalsely : Prop := rulesNormalRow.holds Tryz.pinned (OpenSpec.ofChange rulesNormalWrong)

/-- 'numnahlaw08.RulesOwn': WHATEVER THE INPUT: true; the input reads as it did. -/
def rulesOwnSpec : ChangeSpec := { name := "rulesOwn", fn := fun _ => fun
  | [d1, d2] => { results := [.lit (.bool true)], args := [d1, d2] }
  | _ => none }
def rulesOwnRow : OpenClaim := { program := "ytaafeallcaiooaagreat", sum := "cfbb824a2d5262d24f48f276787aea4aa2d8e8df98062fd9a01119f129996ae8", func := "numnah/numnahlaw08.RulesOwn", spec := "rulesOwn", unfollowed := true, recurses := true, plainKeys := false, apart := false }
def RulesOwnSaid : Prop := rulesOwnRow.holds Tryz.pinned (OpenSpec.ofChange rulesOwnSpec)

/-- ITS FALSE NEIGHBOUR: 'it returns false'. Refute it at one input. -/
def rulesOwnWrong : ChangeSpec := { name := "rulesOwn", fn := fun _ => fun
  | [d1, d2] => { results := [.lit (.bool false)], args := [d1, d2] }
  | _ => none }
def RulesOwnWrongFalsely : Prop := rulesOwnRow.holds Tryz.pinned (OpenSpec.ofChange rulesOwnWrong)

/-- 'numnahlaw08.RulesEnds': WHATEVER THE INPUT: true; the input reads as it did. -/
def rulesEndsSpec : ChangeSpec := { name := "rulesEnds", fn := fun _ => fun
  | [d1, d2, d3] => { results := [.lit (.bool true)], args := [d1, d2, d3] }
  | _ => none }
def rulesEndsRow : OpenClaim := { program := "ytaafeallcaiooaagreat", sum := "cfbb824a2d5262d24f48f276787aea4aa2d8e8df98062fd9a01119f129996ae8", func := "numnah/numnahlaw08.RulesEnds", spec := "rulesEnds", unfollowed := true, recurses := true, plainKeys := false, apart := false }
def RulesEndsSaid : Prop := rulesEndsRow.holds Tryz.pinned (OpenSpec.ofChange rulesEndsSpec)

/-- ITS FALSE NEIGHBOUR: 'it returns false'. Refute it at one input. -/
def rulesEndsWrong : ChangeSpec := { name := "rulesEnds", fn := fun _ => fun
  | [d1, d2, d3] => { results := [.lit (.bool false)], args := [d1, d2, d3] }
  | _ => none }
def RulesEndsWrongFalsely : Prop := rulesEndsRow.holds Tryz.pinned (OpenSpec.ofChange rulesEndsWrong)

/- THE SECOND FORM. 'bulk': how many values and letters a reading holds, each counted each time it is reached (what is shared counts as often as it is met; a slice's spare places count too). A statement '..UptoSaid' is the law's where the arguments, and the package variables that the reading takes, are together of bulk at most 1048576: NARROWER than '..Said'. Prove '..Said' where nothing that the law and all that it calls make is longer than what came in: it says more and counts as full. Else prove '..UptoSaid'. A law counts once. -/
mutual
def uptoBulk {H : Type} : DataW H → Nat
  | .lit (.string bytes) => bytes.length + 1
  | .lit _ => 1
  | .nil => 1
  | .ptr d => uptoBulk d + 1
  | .slice elems spare => uptoBulkAll elems + uptoBulkAll spare + 1
  | .agg parts => uptoBulkAll parts + 1
  | .iface _ d => uptoBulk d + 1
  | .map entries => uptoBulkEntries entries + 1
  | .held _ => 1
def uptoBulkAll {H : Type} : List (DataW H) → Nat
  | [] => 0
  | d :: r => uptoBulk d + uptoBulkAll r
def uptoBulkEntries {H : Type} : List (Lit × DataW H) → Nat
  | [] => 0
  | x :: r => uptoBulkEntry x + uptoBulkEntries r
def uptoBulkEntry {H : Type} : Lit × DataW H → Nat
  | (.string bytes, d) => bytes.length + uptoBulk d + 1
  | (_, d) => uptoBulk d + 1
 end
def uptoSmall : (H : Type) → List (DataW H) → Bool := fun _ ds => decide (uptoBulkAll ds ≤ 1048576)
def OpenSpec.upto (s : _root_.Go.ChangeSpec) : _root_.Go.OpenSpec := { _root_.Go.OpenSpec.ofChange s with cond := some uptoSmall }

/-- 'numnahlaw08.RulesValues', WHERE WHAT IT READS IS OF BULK AT MOST 1048576: true; the input reads as it did. -/
def rulesValuesUptoRow : OpenClaim := { program := "ytaafeallcaiooaagreat", sum := "cfbb824a2d5262d24f48f276787aea4aa2d8e8df98062fd9a01119f129996ae8", func := "numnah/numnahlaw08.RulesValues", spec := "rulesValues", unfollowed := true, recurses := true, plainKeys := false, apart := false, narrowed := true }
def RulesValuesUptoSaid : Prop := rulesValuesUptoRow.holds Tryz.pinned (OpenSpec.upto rulesValuesSpec)

/-- 'numnahlaw08.RulesLoops', WHERE WHAT IT READS IS OF BULK AT MOST 1048576: true; the input reads as it did. -/
def rulesLoopsUptoRow : OpenClaim := { program := "ytaafeallcaiooaagreat", sum := "cfbb824a2d5262d24f48f276787aea4aa2d8e8df98062fd9a01119f129996ae8", func := "numnah/numnahlaw08.RulesLoops", spec := "rulesLoops", unfollowed := true, recurses := true, plainKeys := false, apart := false, narrowed := true }
def RulesLoopsUptoSaid : Prop := rulesLoopsUptoRow.holds Tryz.pinned (OpenSpec.upto rulesLoopsSpec)

/-- 'numnahlaw08.RulesSized', WHERE WHAT IT READS IS OF BULK AT MOST 1048576: true; the input reads as it did. -/
def rulesSizedUptoRow : OpenClaim := { program := "ytaafeallcaiooaagreat", sum := "cfbb824a2d5262d24f48f276787aea4aa2d8e8df98062fd9a01119f129996ae8", func := "numnah/numnahlaw08.RulesSized", spec := "rulesSized", unfollowed := true, recurses := true, plainKeys := false, apart := false, narrowed := true }
def RulesSizedUptoSaid : Prop := rulesSizedUptoRow.holds Tryz.pinned (OpenSpec.upto rulesSizedSpec)

/-- 'numnahlaw08.RulesOrients', WHERE WHAT IT READS IS OF BULK AT MOST 1048576: true; the input reads as it did. -/
def rulesOrientsUptoRow : OpenClaim := { program := "ytaafeallcaiooaagreat", sum := "cfbb824a2d5262d24f48f276787aea4aa2d8e8df98062fd9a01119f129996ae8", func := "numnah/numnahlaw08.RulesOrients", spec := "rulesOrients", unfollowed := true, recurses := true, plainKeys := false, apart := false, narrowed := true }
def RulesOrientsUptoSaid : Prop := rulesOrientsUptoRow.holds Tryz.pinned (OpenSpec.upto rulesOrientsSpec)

/-- 'numnahlaw08.RulesFirst', WHERE WHAT IT READS IS OF BULK AT MOST 1048576: true; the input reads as it did. -/
def rulesFirstUptoRow : OpenClaim := { program := "ytaafeallcaiooaagreat", sum := "cfbb824a2d5262d24f48f276787aea4aa2d8e8df98062fd9a01119f129996ae8", func := "numnah/numnahlaw08.RulesFirst", spec := "rulesFirst", unfollowed := true, recurses := true, plainKeys := false, apart := false, narrowed := true }
def RulesFirstUptoSaid : Prop := rulesFirstUptoRow.holds Tryz.pinned (OpenSpec.upto rulesFirstSpec)

/-- 'numnahlaw08.RulesGreater', WHERE WHAT IT READS IS OF BULK AT MOST 1048576: true; the input reads as it did. -/
def rulesGreaterUptoRow : OpenClaim := { program := "ytaafeallcaiooaagreat", sum := "cfbb824a2d5262d24f48f276787aea4aa2d8e8df98062fd9a01119f129996ae8", func := "numnah/numnahlaw08.RulesGreater", spec := "rulesGreater", unfollowed := true, recurses := true, plainKeys := false, apart := false, narrowed := true }
def RulesGreaterUptoSaid : Prop := rulesGreaterUptoRow.holds Tryz.pinned (OpenSpec.upto rulesGreaterSpec)

/-- 'numnahlaw08.RulesOrdered', WHERE WHAT IT READS IS OF BULK AT MOST 1048576: true; the input reads as it did. -/
def rulesOrderedUptoRow : OpenClaim := { program := "ytaafeallcaiooaagreat", sum := "cfbb824a2d5262d24f48f276787aea4aa2d8e8df98062fd9a01119f129996ae8", func := "numnah/numnahlaw08.RulesOrdered", spec := "rulesOrdered", unfollowed := true, recurses := true, plainKeys := false, apart := false, narrowed := true }
def RulesOrderedUptoSaid : Prop := rulesOrderedUptoRow.holds Tryz.pinned (OpenSpec.upto rulesOrderedSpec)

/-- 'numnahlaw08.RulesStable', WHERE WHAT IT READS IS OF BULK AT MOST 1048576: true; the input reads as it did. -/
def rulesStableUptoRow : OpenClaim := { program := "ytaafeallcaiooaagreat", sum := "cfbb824a2d5262d24f48f276787aea4aa2d8e8df98062fd9a01119f129996ae8", func := "numnah/numnahlaw08.RulesStable", spec := "rulesStable", unfollowed := true, recurses := true, plainKeys := false, apart := false, narrowed := true }
def RulesStableUptoSaid : Prop := rulesStableUptoRow.holds Tryz.pinned (OpenSpec.upto rulesStableSpec)

/-- 'numnahlaw08.RulesTerms', WHERE WHAT IT READS IS OF BULK AT MOST 1048576: true; the input reads as it did. -/
def rulesTermsUptoRow : OpenClaim := { program := "ytaafeallcaiooaagreat", sum := "cfbb824a2d5262d24f48f276787aea4aa2d8e8df98062fd9a01119f129996ae8", func := "numnah/numnahlaw08.RulesTerms", spec := "rulesTerms", unfollowed := true, recurses := true, plainKeys := false, apart := false, narrowed := true }
def RulesTermsUptoSaid : Prop := rulesTermsUptoRow.holds Tryz.pinned (OpenSpec.upto rulesTermsSpec)

/-- 'numnahlaw08.RulesNexts', WHERE WHAT IT READS IS OF BULK AT MOST 1048576: true; the input reads as it did. -/
def rulesNextsUptoRow : OpenClaim := { program := "ytaafeallcaiooaagreat", sum := "cfbb824a2d5262d24f48f276787aea4aa2d8e8df98062fd9a01119f129996ae8", func := "numnah/numnahlaw08.RulesNexts", spec := "rulesNexts", unfollowed := true, recurses := true, plainKeys := false, apart := false, narrowed := true }
def RulesNextsUptoSaid : Prop := rulesNextsUptoRow.holds Tryz.pinned (OpenSpec.upto rulesNextsSpec)

/-- 'numnahlaw08.RulesSteps', WHERE WHAT IT READS IS OF BULK AT MOST 1048576: true; the input reads as it did. -/
def rulesStepsUptoRow : OpenClaim := { program := "ytaafeallcaiooaagreat", sum := "cfbb824a2d5262d24f48f276787aea4aa2d8e8df98062fd9a01119f129996ae8", func := "numnah/numnahlaw08.RulesSteps", spec := "rulesSteps", unfollowed := true, recurses := true, plainKeys := false, apart := false, narrowed := true }
def RulesStepsUptoSaid : Prop := rulesStepsUptoRow.holds Tryz.pinned (OpenSpec.upto rulesStepsSpec)

/-- 'numnahlaw08.RulesRound', WHERE WHAT IT READS IS OF BULK AT MOST 1048576: true; the input reads as it did. -/
def rulesRoundUptoRow : OpenClaim := { program := "ytaafeallcaiooaagreat", sum := "cfbb824a2d5262d24f48f276787aea4aa2d8e8df98062fd9a01119f129996ae8", func := "numnah/numnahlaw08.RulesRound", spec := "rulesRound", unfollowed := true, recurses := true, plainKeys := false, apart := false, narrowed := true }
def RulesRoundUptoSaid : Prop := rulesRoundUptoRow.holds Tryz.pinned (OpenSpec.upto rulesRoundSpec)

/-- 'numnahlaw08.RulesReaches', WHERE WHAT IT READS IS OF BULK AT MOST 1048576: true; the input reads as it did. -/
def rulesReachesUptoRow : OpenClaim := { program := "ytaafeallcaiooaagreat", sum := "cfbb824a2d5262d24f48f276787aea4aa2d8e8df98062fd9a01119f129996ae8", func := "numnah/numnahlaw08.RulesReaches", spec := "rulesReaches", unfollowed := true, recurses := true, plainKeys := false, apart := false, narrowed := true }
def RulesReachesUptoSaid : Prop := rulesReachesUptoRow.holds Tryz.pinned (OpenSpec.upto rulesReachesSpec)

/-- 'numnahlaw08.RulesReadings', WHERE WHAT IT READS IS OF BULK AT MOST 1048576: true; the input reads as it did. -/
def rulesReadingsUptoRow : OpenClaim := { program := "ytaafeallcaiooaagreat", sum := "cfbb824a2d5262d24f48f276787aea4aa2d8e8df98062fd9a01119f129996ae8", func := "numnah/numnahlaw08.RulesReadings", spec := "rulesReadings", unfollowed := true, recurses := true, plainKeys := false, apart := false, narrowed := true }
def RulesReadingsUptoSaid : Prop := rulesReadingsUptoRow.holds Tryz.pinned (OpenSpec.upto rulesReadingsSpec)

/-- 'numnahlaw08.RulesNormal', WHERE WHAT IT READS IS OF BULK AT MOST 1048576: true; the input reads as it did. -/
def rulesNormalUptoRow : OpenClaim := { program := "ytaafeallcaiooaagreat", sum := "cfbb824a2d5262d24f48f276787aea4aa2d8e8df98062fd9a01119f129996ae8", func := "numnah/numnahlaw08.RulesNormal", spec := "rulesNormal", unfollowed := true, recurses := true, plainKeys := false, apart := false, narrowed := true }
def RulesNormalUptoSaid : Prop := rulesNormalUptoRow.holds Tryz.pinned (OpenSpec.upto rulesNormalSpec)

/-- 'numnahlaw08.RulesOwn', WHERE WHAT IT READS IS OF BULK AT MOST 1048576: true; the input reads as it did. -/
def rulesOwnUptoRow : OpenClaim := { program := "ytaafeallcaiooaagreat", sum := "cfbb824a2d5262d24f48f276787aea4aa2d8e8df98062fd9a01119f129996ae8", func := "numnah/numnahlaw08.RulesOwn", spec := "rulesOwn", unfollowed := true, recurses := true, plainKeys := false, apart := false, narrowed := true }
def RulesOwnUptoSaid : Prop := rulesOwnUptoRow.holds Tryz.pinned (OpenSpec.upto rulesOwnSpec)

/-- 'numnahlaw08.RulesEnds', WHERE WHAT IT READS IS OF BULK AT MOST 1048576: true; the input reads as it did. -/
def rulesEndsUptoRow : OpenClaim := { program := "ytaafeallcaiooaagreat", sum := "cfbb824a2d5262d24f48f276787aea4aa2d8e8df98062fd9a01119f129996ae8", func := "numnah/numnahlaw08.RulesEnds", spec := "rulesEnds", unfollowed := true, recurses := true, plainKeys := false, apart := false, narrowed := true }
def RulesEndsUptoSaid : Prop := rulesEndsUptoRow.holds Tryz.pinned (OpenSpec.upto rulesEndsSpec)

end Rows
end Go.Proofs.YtaafeallcaiooaaGreat
