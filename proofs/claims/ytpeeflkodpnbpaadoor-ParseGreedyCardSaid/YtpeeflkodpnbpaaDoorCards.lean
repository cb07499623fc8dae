/-
  DERIVED. GIVEN WITH THE SEED: THE CARDS: each row of YtpeeflkodpnbpaaDoorRows.lean that lists a variable, with what it lists TIED to the program's text (the seventh form; the later family's looks); each row that meets fmt, with fmt's text TOLD by the authors' own Lean function (tested against real Go, not proved from fmt's source: count such statements apart). THE CARD IS WHAT COUNTS. Prove the row's statement (the work); the ties are given (YtpeeflkodpnbpaaDoorTie.lean); close each card by the builder's one call (the guide's Derived/Test/ToyasCard.lean, 'card_holds'). Laid BY PROGRAM, IN A SANDBOX (cutbox-door.mjs). By AI agents, Wed Nov 11 2026. No macro, syntax, notation, axiom, sorry.
-/
import Derived.Test.YtpeeflkodpnbpaaDoorRows
import GoSem.ClaimSeven
namespace Go.Proofs.YtpeeflkodpnbpaaDoor
namespace Rows

/-- THE TIED CARD OF 'numnahlaw09.ParseParses'. -/
def parseParsesCard : Claim7 := { stood := { row := parseParsesRow, standIns := [], harness := (true, "ae37856406640a60476ead501be46fb0c3fec37349c9488291c73b29ce38da8d"), looks := false }, kinds := [], alts := [], laidByText := true, laidKinds := [.data], laidTests := true, laidLooks := .later }
def ParseParsesCardSaid : Prop := Claim7.holds Tryd.pinned (.plain (OpenSpec.ofChange parseParsesSpec)) parseParsesCard

/-- THE TIED CARD OF 'numnahlaw09.ParseDoubled'. -/
def parseDoubledCard : Claim7 := { stood := { row := parseDoubledRow, standIns := [], harness := (true, "ae37856406640a60476ead501be46fb0c3fec37349c9488291c73b29ce38da8d"), looks := false }, kinds := [], alts := [], laidByText := true, laidKinds := [.data], laidTests := true, laidLooks := .later }
def ParseDoubledCardSaid : Prop := Claim7.holds Tryd.pinned (.plain (OpenSpec.ofChange parseDoubledSpec)) parseDoubledCard

/-- THE TIED CARD OF 'numnahlaw09.ParseInverse'. -/
def parseInverseCard : Claim7 := { stood := { row := parseInverseRow, standIns := [], harness := (true, "ae37856406640a60476ead501be46fb0c3fec37349c9488291c73b29ce38da8d"), looks := false }, kinds := [], alts := [], laidByText := true, laidKinds := [.data], laidTests := true, laidLooks := .later }
def ParseInverseCardSaid : Prop := Claim7.holds Tryd.pinned (.plain (OpenSpec.ofChange parseInverseSpec)) parseInverseCard

/-- THE TIED CARD OF 'numnahlaw09.ParseNested'. -/
def parseNestedCard : Claim7 := { stood := { row := parseNestedRow, standIns := [], harness := (true, "ae37856406640a60476ead501be46fb0c3fec37349c9488291c73b29ce38da8d"), looks := false }, kinds := [], alts := [], laidByText := true, laidKinds := [.data], laidTests := true, laidLooks := .later }
def ParseNestedCardSaid : Prop := Claim7.holds Tryd.pinned (.plain (OpenSpec.ofChange parseNestedSpec)) parseNestedCard

/-- THE TIED CARD OF 'numnahlaw09.ParseTurns'. -/
def parseTurnsCard : Claim7 := { stood := { row := parseTurnsRow, standIns := [], harness := (true, "ae37856406640a60476ead501be46fb0c3fec37349c9488291c73b29ce38da8d"), looks := false }, kinds := [], alts := [], laidByText := true, laidKinds := [.data], laidTests := true, laidLooks := .later }
def ParseTurnsCardSaid : Prop := Claim7.holds Tryd.pinned (.plain (OpenSpec.ofChange parseTurnsSpec)) parseTurnsCard

/-- THE TIED CARD OF 'numnahlaw09.ParseTouches'. -/
def parseTouchesCard : Claim7 := { stood := { row := parseTouchesRow, standIns := [], harness := (true, "ae37856406640a60476ead501be46fb0c3fec37349c9488291c73b29ce38da8d"), looks := false }, kinds := [], alts := [], laidByText := true, laidKinds := [.data], laidTests := true, laidLooks := .later }
def ParseTouchesCardSaid : Prop := Claim7.holds Tryd.pinned (.plain (OpenSpec.ofChange parseTouchesSpec)) parseTouchesCard

/-- THE TIED CARD OF 'numnahlaw09.ParseCommons'. -/
def parseCommonsCard : Claim7 := { stood := { row := parseCommonsRow, standIns := [], harness := (true, "ae37856406640a60476ead501be46fb0c3fec37349c9488291c73b29ce38da8d"), looks := false }, kinds := [], alts := [], laidByText := true, laidKinds := [.data], laidTests := true, laidLooks := .later }
def ParseCommonsCardSaid : Prop := Claim7.holds Tryd.pinned (.plain (OpenSpec.ofChange parseCommonsSpec)) parseCommonsCard

/-- THE TIED CARD OF 'numnahlaw09.ParseShared'. -/
def parseSharedCard : Claim7 := { stood := { row := parseSharedRow, standIns := [], harness := (true, "ae37856406640a60476ead501be46fb0c3fec37349c9488291c73b29ce38da8d"), looks := false }, kinds := [], alts := [], laidByText := true, laidKinds := [.data], laidTests := true, laidLooks := .later }
def ParseSharedCardSaid : Prop := Claim7.holds Tryd.pinned (.plain (OpenSpec.ofChange parseSharedSpec)) parseSharedCard

/-- THE TIED CARD OF 'numnahlaw09.ParseFew'. -/
def parseFewCard : Claim7 := { stood := { row := parseFewRow, standIns := [], harness := (true, "ae37856406640a60476ead501be46fb0c3fec37349c9488291c73b29ce38da8d"), looks := false }, kinds := [], alts := [], laidByText := true, laidKinds := [.data], laidTests := true, laidLooks := .later }
def ParseFewCardSaid : Prop := Claim7.holds Tryd.pinned (.plain (OpenSpec.ofChange parseFewSpec)) parseFewCard

/-- THE TIED CARD OF 'numnahlaw09.ParseEnds'. -/
def parseEndsCard : Claim7 := { stood := { row := parseEndsRow, standIns := [], harness := (true, "ae37856406640a60476ead501be46fb0c3fec37349c9488291c73b29ce38da8d"), looks := false }, kinds := [], alts := [], laidByText := true, laidKinds := [.data], laidTests := true, laidLooks := .later }
def ParseEndsCardSaid : Prop := Claim7.holds Tryd.pinned (.plain (OpenSpec.ofChange parseEndsSpec)) parseEndsCard

/-- THE TIED CARD OF 'numnahlaw09.ParseCounts'. -/
def parseCountsCard : Claim7 := { stood := { row := parseCountsRow, standIns := [], harness := (true, "ae37856406640a60476ead501be46fb0c3fec37349c9488291c73b29ce38da8d"), looks := false }, kinds := [], alts := [], laidByText := true, laidKinds := [.data], laidTests := true, laidLooks := .later }
def ParseCountsCardSaid : Prop := Claim7.holds Tryd.pinned (.plain (OpenSpec.ofChange parseCountsSpec)) parseCountsCard

/-- THE TIED CARD OF 'numnahlaw09.ParseBack'. -/
def parseBackCard : Claim7 := { stood := { row := parseBackRow, standIns := [], harness := (true, "ae37856406640a60476ead501be46fb0c3fec37349c9488291c73b29ce38da8d"), looks := false }, kinds := [], alts := [], laidByText := true, laidKinds := [.data], laidTests := true, laidLooks := .later }
def ParseBackCardSaid : Prop := Claim7.holds Tryd.pinned (.plain (OpenSpec.ofChange parseBackSpec)) parseBackCard

/-- THE TIED CARD OF 'numnahlaw09.ParseReversed'. -/
def parseReversedCard : Claim7 := { stood := { row := parseReversedRow, standIns := [], harness := (true, "ae37856406640a60476ead501be46fb0c3fec37349c9488291c73b29ce38da8d"), looks := false }, kinds := [], alts := [], laidByText := true, laidKinds := [.data], laidTests := true, laidLooks := .later }
def ParseReversedCardSaid : Prop := Claim7.holds Tryd.pinned (.plain (OpenSpec.ofChange parseReversedSpec)) parseReversedCard

/-- THE TIED CARD OF 'numnahlaw09.ParseThere'. -/
def parseThereCard : Claim7 := { stood := { row := parseThereRow, standIns := [], harness := (true, "ae37856406640a60476ead501be46fb0c3fec37349c9488291c73b29ce38da8d"), looks := false }, kinds := [], alts := [], laidByText := true, laidKinds := [.data], laidTests := true, laidLooks := .later }
def ParseThereCardSaid : Prop := Claim7.holds Tryd.pinned (.plain (OpenSpec.ofChange parseThereSpec)) parseThereCard

/-- THE TIED CARD OF 'numnahlaw09.ParseCheapests'. -/
def parseCheapestsCard : Claim7 := { stood := { row := parseCheapestsRow, standIns := [], harness := (true, "ae37856406640a60476ead501be46fb0c3fec37349c9488291c73b29ce38da8d"), looks := false }, kinds := [], alts := [], laidByText := true, laidKinds := [.data], laidTests := true, laidLooks := .later }
def ParseCheapestsCardSaid : Prop := Claim7.holds Tryd.pinned (.plain (OpenSpec.ofChange parseCheapestsSpec)) parseCheapestsCard

/-- THE TIED CARD OF 'numnahlaw09.ParseGreedy'. -/
def parseGreedyCard : Claim7 := { stood := { row := parseGreedyRow, standIns := [], harness := (true, "ae37856406640a60476ead501be46fb0c3fec37349c9488291c73b29ce38da8d"), looks := false }, kinds := [], alts := [], laidByText := true, laidKinds := [.data], laidTests := true, laidLooks := .later }
def ParseGreedyCardSaid : Prop := Claim7.holds Tryd.pinned (.plain (OpenSpec.ofChange parseGreedySpec)) parseGreedyCard

/-- THE TIED CARD OF 'numnahlaw09.ParseReads'. -/
def parseReadsCard : Claim7 := { stood := { row := parseReadsRow, standIns := [], harness := (true, "ae37856406640a60476ead501be46fb0c3fec37349c9488291c73b29ce38da8d"), looks := false }, kinds := [], alts := [], laidByText := true, laidKinds := [.data], laidTests := true, laidLooks := .later }
def ParseReadsCardSaid : Prop := Claim7.holds Tryd.pinned (.plain (OpenSpec.ofChange parseReadsSpec)) parseReadsCard

/-- THE TIED CARD OF 'numnahlaw09.ParseOwn'. -/
def parseOwnCard : Claim7 := { stood := { row := parseOwnRow, standIns := [], harness := (true, "ae37856406640a60476ead501be46fb0c3fec37349c9488291c73b29ce38da8d"), looks := false }, kinds := [], alts := [], laidByText := true, laidKinds := [.data], laidTests := true, laidLooks := .later }
def ParseOwnCardSaid : Prop := Claim7.holds Tryd.pinned (.plain (OpenSpec.ofChange parseOwnSpec)) parseOwnCard

/-- THE SECOND FORM's CARD OF 'numnahlaw09.ParseParses'. -/
def parseParsesUptoCard : Claim7 := { stood := { row := parseParsesUptoRow, standIns := [], harness := (true, "ae37856406640a60476ead501be46fb0c3fec37349c9488291c73b29ce38da8d"), looks := false }, kinds := [], alts := [], laidByText := true, laidKinds := [.data], laidTests := true, laidLooks := .later }
def ParseParsesUptoCardSaid : Prop := Claim7.holds Tryd.pinned (.plain (OpenSpec.upto parseParsesSpec)) parseParsesUptoCard

/-- THE SECOND FORM's CARD OF 'numnahlaw09.ParseDoubled'. -/
def parseDoubledUptoCard : Claim7 := { stood := { row := parseDoubledUptoRow, standIns := [], harness := (true, "ae37856406640a60476ead501be46fb0c3fec37349c9488291c73b29ce38da8d"), looks := false }, kinds := [], alts := [], laidByText := true, laidKinds := [.data], laidTests := true, laidLooks := .later }
def ParseDoubledUptoCardSaid : Prop := Claim7.holds Tryd.pinned (.plain (OpenSpec.upto parseDoubledSpec)) parseDoubledUptoCard

/-- THE SECOND FORM's CARD OF 'numnahlaw09.ParseInverse'. -/
def parseInverseUptoCard : Claim7 := { stood := { row := parseInverseUptoRow, standIns := [], harness := (true, "ae37856406640a60476ead501be46fb0c3fec37349c9488291c73b29ce38da8d"), looks := false }, kinds := [], alts := [], laidByText := true, laidKinds := [.data], laidTests := true, laidLooks := .later }
def ParseInverseUptoCardSaid : Prop := Claim7.holds Tryd.pinned (.plain (OpenSpec.upto parseInverseSpec)) parseInverseUptoCard

/-- THE SECOND FORM's CARD OF 'numnahlaw09.ParseNested'. -/
def parseNestedUptoCard : Claim7 := { stood := { row := parseNestedUptoRow, standIns := [], harness := (true, "ae37856406640a60476ead501be46fb0c3fec37349c9488291c73b29ce38da8d"), looks := false }, kinds := [], alts := [], laidByText := true, laidKinds := [.data], laidTests := true, laidLooks := .later }
def ParseNestedUptoCardSaid : Prop := Claim7.holds Tryd.pinned (.plain (OpenSpec.upto parseNestedSpec)) parseNestedUptoCard

/-- THE SECOND FORM's CARD OF 'numnahlaw09.ParseTurns'. -/
def parseTurnsUptoCard : Claim7 := { stood := { row := parseTurnsUptoRow, standIns := [], harness := (true, "ae37856406640a60476ead501be46fb0c3fec37349c9488291c73b29ce38da8d"), looks := false }, kinds := [], alts := [], laidByText := true, laidKinds := [.data], laidTests := true, laidLooks := .later }
def ParseTurnsUptoCardSaid : Prop := Claim7.holds Tryd.pinned (.plain (OpenSpec.upto parseTurnsSpec)) parseTurnsUptoCard

/-- THE SECOND FORM's CARD OF 'numnahlaw09.ParseTouches'. -/
def parseTouchesUptoCard : Claim7 := { stood := { row := parseTouchesUptoRow, standIns := [], harness := (true, "ae37856406640a60476ead501be46fb0c3fec37349c9488291c73b29ce38da8d"), looks := false }, kinds := [], alts := [], laidByText := true, laidKinds := [.data], laidTests := true, laidLooks := .later }
def ParseTouchesUptoCardSaid : Prop := Claim7.holds Tryd.pinned (.plain (OpenSpec.upto parseTouchesSpec)) parseTouchesUptoCard

/-- THE SECOND FORM's CARD OF 'numnahlaw09.ParseCommons'. -/
def parseCommonsUptoCard : Claim7 := { stood := { row := parseCommonsUptoRow, standIns := [], harness := (true, "ae37856406640a60476ead501be46fb0c3fec37349c9488291c73b29ce38da8d"), looks := false }, kinds := [], alts := [], laidByText := true, laidKinds := [.data], laidTests := true, laidLooks := .later }
def ParseCommonsUptoCardSaid : Prop := Claim7.holds Tryd.pinned (.plain (OpenSpec.upto parseCommonsSpec)) parseCommonsUptoCard

/-- THE SECOND FORM's CARD OF 'numnahlaw09.ParseShared'. -/
def parseSharedUptoCard : Claim7 := { stood := { row := parseSharedUptoRow, standIns := [], harness := (true, "ae37856406640a60476ead501be46fb0c3fec37349c9488291c73b29ce38da8d"), looks := false }, kinds := [], alts := [], laidByText := true, laidKinds := [.data], laidTests := true, laidLooks := .later }
def ParseSharedUptoCardSaid : Prop := Claim7.holds Tryd.pinned (.plain (OpenSpec.upto parseSharedSpec)) parseSharedUptoCard

/-- THE SECOND FORM's CARD OF 'numnahlaw09.ParseFew'. -/
def parseFewUptoCard : Claim7 := { stood := { row := parseFewUptoRow, standIns := [], harness := (true, "ae37856406640a60476ead501be46fb0c3fec37349c9488291c73b29ce38da8d"), looks := false }, kinds := [], alts := [], laidByText := true, laidKinds := [.data], laidTests := true, laidLooks := .later }
def ParseFewUptoCardSaid : Prop := Claim7.holds Tryd.pinned (.plain (OpenSpec.upto parseFewSpec)) parseFewUptoCard

/-- THE SECOND FORM's CARD OF 'numnahlaw09.ParseEnds'. -/
def parseEndsUptoCard : Claim7 := { stood := { row := parseEndsUptoRow, standIns := [], harness := (true, "ae37856406640a60476ead501be46fb0c3fec37349c9488291c73b29ce38da8d"), looks := false }, kinds := [], alts := [], laidByText := true, laidKinds := [.data], laidTests := true, laidLooks := .later }
def ParseEndsUptoCardSaid : Prop := Claim7.holds Tryd.pinned (.plain (OpenSpec.upto parseEndsSpec)) parseEndsUptoCard

/-- THE SECOND FORM's CARD OF 'numnahlaw09.ParseCounts'. -/
def parseCountsUptoCard : Claim7 := { stood := { row := parseCountsUptoRow, standIns := [], harness := (true, "ae37856406640a60476ead501be46fb0c3fec37349c9488291c73b29ce38da8d"), looks := false }, kinds := [], alts := [], laidByText := true, laidKinds := [.data], laidTests := true, laidLooks := .later }
def ParseCountsUptoCardSaid : Prop := Claim7.holds Tryd.pinned (.plain (OpenSpec.upto parseCountsSpec)) parseCountsUptoCard

/-- THE SECOND FORM's CARD OF 'numnahlaw09.ParseBack'. -/
def parseBackUptoCard : Claim7 := { stood := { row := parseBackUptoRow, standIns := [], harness := (true, "ae37856406640a60476ead501be46fb0c3fec37349c9488291c73b29ce38da8d"), looks := false }, kinds := [], alts := [], laidByText := true, laidKinds := [.data], laidTests := true, laidLooks := .later }
def ParseBackUptoCardSaid : Prop := Claim7.holds Tryd.pinned (.plain (OpenSpec.upto parseBackSpec)) parseBackUptoCard

/-- THE SECOND FORM's CARD OF 'numnahlaw09.ParseReversed'. -/
def parseReversedUptoCard : Claim7 := { stood := { row := parseReversedUptoRow, standIns := [], harness := (true, "ae37856406640a60476ead501be46fb0c3fec37349c9488291c73b29ce38da8d"), looks := false }, kinds := [], alts := [], laidByText := true, laidKinds := [.data], laidTests := true, laidLooks := .later }
def ParseReversedUptoCardSaid : Prop := Claim7.holds Tryd.pinned (.plain (OpenSpec.upto parseReversedSpec)) parseReversedUptoCard

/-- THE SECOND FORM's CARD OF 'numnahlaw09.ParseThere'. -/
def parseThereUptoCard : Claim7 := { stood := { row := parseThereUptoRow, standIns := [], harness := (true, "ae37856406640a60476ead501be46fb0c3fec37349c9488291c73b29ce38da8d"), looks := false }, kinds := [], alts := [], laidByText := true, laidKinds := [.data], laidTests := true, laidLooks := .later }
def ParseThereUptoCardSaid : Prop := Claim7.holds Tryd.pinned (.plain (OpenSpec.upto parseThereSpec)) parseThereUptoCard

/-- THE SECOND FORM's CARD OF 'numnahlaw09.ParseCheapests'. -/
def parseCheapestsUptoCard : Claim7 := { stood := { row := parseCheapestsUptoRow, standIns := [], harness := (true, "ae37856406640a60476ead501be46fb0c3fec37349c9488291c73b29ce38da8d"), looks := false }, kinds := [], alts := [], laidByText := true, laidKinds := [.data], laidTests := true, laidLooks := .later }
def ParseCheapestsUptoCardSaid : Prop := Claim7.holds Tryd.pinned (.plain (OpenSpec.upto parseCheapestsSpec)) parseCheapestsUptoCard

/-- THE SECOND FORM's CARD OF 'numnahlaw09.ParseGreedy'. -/
def parseGreedyUptoCard : Claim7 := { stood := { row := parseGreedyUptoRow, standIns := [], harness := (true, "ae37856406640a60476ead501be46fb0c3fec37349c9488291c73b29ce38da8d"), looks := false }, kinds := [], alts := [], laidByText := true, laidKinds := [.data], laidTests := true, laidLooks := .later }
def ParseGreedyUptoCardSaid : Prop := Claim7.holds Tryd.pinned (.plain (OpenSpec.upto parseGreedySpec)) parseGreedyUptoCard

/-- THE SECOND FORM's CARD OF 'numnahlaw09.ParseReads'. -/
def parseReadsUptoCard : Claim7 := { stood := { row := parseReadsUptoRow, standIns := [], harness := (true, "ae37856406640a60476ead501be46fb0c3fec37349c9488291c73b29ce38da8d"), looks := false }, kinds := [], alts := [], laidByText := true, laidKinds := [.data], laidTests := true, laidLooks := .later }
def ParseReadsUptoCardSaid : Prop := Claim7.holds Tryd.pinned (.plain (OpenSpec.upto parseReadsSpec)) parseReadsUptoCard

/-- THE SECOND FORM's CARD OF 'numnahlaw09.ParseOwn'. -/
def parseOwnUptoCard : Claim7 := { stood := { row := parseOwnUptoRow, standIns := [], harness := (true, "ae37856406640a60476ead501be46fb0c3fec37349c9488291c73b29ce38da8d"), looks := false }, kinds := [], alts := [], laidByText := true, laidKinds := [.data], laidTests := true, laidLooks := .later }
def ParseOwnUptoCardSaid : Prop := Claim7.holds Tryd.pinned (.plain (OpenSpec.upto parseOwnSpec)) parseOwnUptoCard
end Rows
end Go.Proofs.YtpeeflkodpnbpaaDoor
