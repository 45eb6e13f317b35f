/-
  DERIVED. GIVEN WITH THE SEED: THE CARDS: each row of YtdgcgogeidnmoaaDoorRows.lean that lists a variable, with what it lists TIED to the program's text (the seventh form; the later family's looks); each row that meets fmt, with fmt's text TOLD by the authors' own Lean function (tested against real Go, not proved from fmt's source: count such statements apart). THE CARD IS WHAT COUNTS. Prove the row's statement (the work); the ties are given (YtdgcgogeidnmoaaDoorTie.lean); close each card by the builder's one call (the guide's Derived/Test/ToyasCard.lean, 'card_holds'). Laid BY PROGRAM, IN A SANDBOX (cutbox-door.mjs). By AI agents, Wed Nov 11 2026. No macro, syntax, notation, axiom, sorry.
-/
import Derived.Test.YtdgcgogeidnmoaaDoorRows
import GoSem.ClaimSeven
namespace Go.Proofs.YtdgcgogeidnmoaaDoor
namespace Rows

/-- THE TIED CARD OF 'palaverlaw08.TypesWhole'. -/
def typesWholeCard : Claim7 := { stood := { row := typesWholeRow, standIns := [], harness := (true, "86d4f1e1a7d63a496c156739e8818724ffe7c4ce77527b382c92e31e02167a71"), looks := true }, kinds := [], alts := [], laidByText := true, laidKinds := [.data, .data, .data, .data, .sentinel, .sentinel, .pinned], laidTests := true, laidLooks := .later }
def TypesWholeCardSaid : Prop := Claim7.holds Tryd.pinned (.plain (OpenSpec.ofChange typesWholeSpec)) typesWholeCard

/-- THE TIED CARD OF 'palaverlaw07.ParseTight'. -/
def parseTightCard : Claim7 := { stood := { row := parseTightRow, standIns := [], harness := (true, "86d4f1e1a7d63a496c156739e8818724ffe7c4ce77527b382c92e31e02167a71"), looks := true }, kinds := [], alts := [], laidByText := true, laidKinds := [.data, .data, .data, .data, .sentinel, .sentinel, .pinned], laidTests := true, laidLooks := .later }
def ParseTightCardSaid : Prop := Claim7.holds Tryd.pinned (.plain (OpenSpec.ofChange parseTightSpec)) parseTightCard

/-- THE TIED CARD OF 'palaverlaw07.ParseDeep'. -/
def parseDeepCard : Claim7 := { stood := { row := parseDeepRow, standIns := [], harness := (true, "86d4f1e1a7d63a496c156739e8818724ffe7c4ce77527b382c92e31e02167a71"), looks := true }, kinds := [], alts := [], laidByText := true, laidKinds := [.data, .data, .data, .data, .sentinel, .sentinel, .pinned], laidTests := true, laidLooks := .later }
def ParseDeepCardSaid : Prop := Claim7.holds Tryd.pinned (.plain (OpenSpec.ofChange parseDeepSpec)) parseDeepCard

/-- THE TIED CARD OF 'palaverlaw07.ParseBack'. -/
def parseBackCard : Claim7 := { stood := { row := parseBackRow, standIns := [], harness := (true, "86d4f1e1a7d63a496c156739e8818724ffe7c4ce77527b382c92e31e02167a71"), looks := true }, kinds := [], alts := [], laidByText := true, laidKinds := [.data, .data, .data, .data, .sentinel, .sentinel, .pinned], laidTests := true, laidLooks := .later }
def ParseBackCardSaid : Prop := Claim7.holds Tryd.pinned (.plain (OpenSpec.ofChange parseBackSpec)) parseBackCard

/-- THE TIED CARD OF 'palaverlaw07.ParseParts'. -/
def parsePartsCard : Claim7 := { stood := { row := parsePartsRow, standIns := [], harness := (true, "86d4f1e1a7d63a496c156739e8818724ffe7c4ce77527b382c92e31e02167a71"), looks := true }, kinds := [], alts := [], laidByText := true, laidKinds := [.data, .data, .data, .data, .sentinel, .sentinel, .pinned], laidTests := true, laidLooks := .later }
def ParsePartsCardSaid : Prop := Claim7.holds Tryd.pinned (.plain (OpenSpec.ofChange parsePartsSpec)) parsePartsCard

/-- THE TIED CARD OF 'palaverlaw07.ParseBlanks'. -/
def parseBlanksCard : Claim7 := { stood := { row := parseBlanksRow, standIns := [], harness := (true, "86d4f1e1a7d63a496c156739e8818724ffe7c4ce77527b382c92e31e02167a71"), looks := true }, kinds := [], alts := [], laidByText := true, laidKinds := [.data, .data, .data, .data, .sentinel, .sentinel, .pinned], laidTests := true, laidLooks := .later }
def ParseBlanksCardSaid : Prop := Claim7.holds Tryd.pinned (.plain (OpenSpec.ofChange parseBlanksSpec)) parseBlanksCard

/-- THE TIED CARD OF 'palaverlaw07.ParseSigns'. -/
def parseSignsCard : Claim7 := { stood := { row := parseSignsRow, standIns := [], harness := (true, "86d4f1e1a7d63a496c156739e8818724ffe7c4ce77527b382c92e31e02167a71"), looks := true }, kinds := [], alts := [], laidByText := true, laidKinds := [.data, .data, .data, .data, .sentinel, .sentinel, .pinned], laidTests := true, laidLooks := .later }
def ParseSignsCardSaid : Prop := Claim7.holds Tryd.pinned (.plain (OpenSpec.ofChange parseSignsSpec)) parseSignsCard

/-- THE SECOND FORM's CARD OF 'palaverlaw08.TypesWhole'. -/
def typesWholeUptoCard : Claim7 := { stood := { row := typesWholeUptoRow, standIns := [], harness := (true, "86d4f1e1a7d63a496c156739e8818724ffe7c4ce77527b382c92e31e02167a71"), looks := true }, kinds := [], alts := [], laidByText := true, laidKinds := [.data, .data, .data, .data, .sentinel, .sentinel, .pinned], laidTests := true, laidLooks := .later }
def TypesWholeUptoCardSaid : Prop := Claim7.holds Tryd.pinned (.plain (OpenSpec.upto typesWholeSpec)) typesWholeUptoCard

/-- THE SECOND FORM's CARD OF 'palaverlaw07.ParseTight'. -/
def parseTightUptoCard : Claim7 := { stood := { row := parseTightUptoRow, standIns := [], harness := (true, "86d4f1e1a7d63a496c156739e8818724ffe7c4ce77527b382c92e31e02167a71"), looks := true }, kinds := [], alts := [], laidByText := true, laidKinds := [.data, .data, .data, .data, .sentinel, .sentinel, .pinned], laidTests := true, laidLooks := .later }
def ParseTightUptoCardSaid : Prop := Claim7.holds Tryd.pinned (.plain (OpenSpec.upto parseTightSpec)) parseTightUptoCard

/-- THE SECOND FORM's CARD OF 'palaverlaw07.ParseDeep'. -/
def parseDeepUptoCard : Claim7 := { stood := { row := parseDeepUptoRow, standIns := [], harness := (true, "86d4f1e1a7d63a496c156739e8818724ffe7c4ce77527b382c92e31e02167a71"), looks := true }, kinds := [], alts := [], laidByText := true, laidKinds := [.data, .data, .data, .data, .sentinel, .sentinel, .pinned], laidTests := true, laidLooks := .later }
def ParseDeepUptoCardSaid : Prop := Claim7.holds Tryd.pinned (.plain (OpenSpec.upto parseDeepSpec)) parseDeepUptoCard

/-- THE SECOND FORM's CARD OF 'palaverlaw07.ParseBack'. -/
def parseBackUptoCard : Claim7 := { stood := { row := parseBackUptoRow, standIns := [], harness := (true, "86d4f1e1a7d63a496c156739e8818724ffe7c4ce77527b382c92e31e02167a71"), looks := true }, kinds := [], alts := [], laidByText := true, laidKinds := [.data, .data, .data, .data, .sentinel, .sentinel, .pinned], laidTests := true, laidLooks := .later }
def ParseBackUptoCardSaid : Prop := Claim7.holds Tryd.pinned (.plain (OpenSpec.upto parseBackSpec)) parseBackUptoCard

/-- THE SECOND FORM's CARD OF 'palaverlaw07.ParseParts'. -/
def parsePartsUptoCard : Claim7 := { stood := { row := parsePartsUptoRow, standIns := [], harness := (true, "86d4f1e1a7d63a496c156739e8818724ffe7c4ce77527b382c92e31e02167a71"), looks := true }, kinds := [], alts := [], laidByText := true, laidKinds := [.data, .data, .data, .data, .sentinel, .sentinel, .pinned], laidTests := true, laidLooks := .later }
def ParsePartsUptoCardSaid : Prop := Claim7.holds Tryd.pinned (.plain (OpenSpec.upto parsePartsSpec)) parsePartsUptoCard

/-- THE SECOND FORM's CARD OF 'palaverlaw07.ParseBlanks'. -/
def parseBlanksUptoCard : Claim7 := { stood := { row := parseBlanksUptoRow, standIns := [], harness := (true, "86d4f1e1a7d63a496c156739e8818724ffe7c4ce77527b382c92e31e02167a71"), looks := true }, kinds := [], alts := [], laidByText := true, laidKinds := [.data, .data, .data, .data, .sentinel, .sentinel, .pinned], laidTests := true, laidLooks := .later }
def ParseBlanksUptoCardSaid : Prop := Claim7.holds Tryd.pinned (.plain (OpenSpec.upto parseBlanksSpec)) parseBlanksUptoCard

/-- THE SECOND FORM's CARD OF 'palaverlaw07.ParseSigns'. -/
def parseSignsUptoCard : Claim7 := { stood := { row := parseSignsUptoRow, standIns := [], harness := (true, "86d4f1e1a7d63a496c156739e8818724ffe7c4ce77527b382c92e31e02167a71"), looks := true }, kinds := [], alts := [], laidByText := true, laidKinds := [.data, .data, .data, .data, .sentinel, .sentinel, .pinned], laidTests := true, laidLooks := .later }
def ParseSignsUptoCardSaid : Prop := Claim7.holds Tryd.pinned (.plain (OpenSpec.upto parseSignsSpec)) parseSignsUptoCard
end Rows
end Go.Proofs.YtdgcgogeidnmoaaDoor
