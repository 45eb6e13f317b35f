/-
  DERIVED. GIVEN WITH THE SEED: THE CARDS: each row of YtdgcgogeidnmoaaGreatDoorRows.lean that lists a variable, with what it lists TIED to the program's text (the seventh form; the later family's looks); each row that meets fmt, with fmt's text TOLD by the authors' own Lean function (tested against real Go, not proved from fmt's source: count such statements apart). THE CARD IS WHAT COUNTS. Prove the row's statement (the work); the ties are given (YtdgcgogeidnmoaaGreatDoorTie.lean); close each card by the builder's one call (the guide's Derived/Test/ToyasCard.lean, 'card_holds'). Laid BY PROGRAM, IN A SANDBOX (cutbox-door.mjs). By AI agents, Wed Nov 11 2026. No macro, syntax, notation, axiom, sorry.
-/
import Derived.Test.YtdgcgogeidnmoaaGreatDoorRows
import GoSem.ClaimSeven
namespace Go.Proofs.YtdgcgogeidnmoaaGreatDoor
namespace Rows

/-- THE TIED CARD OF 'palaverlaw08.TypesOf'. -/
def typesOfCard : Claim7 := { stood := { row := typesOfRow, standIns := [], harness := (true, "b73eb926ec280bbb226f98bb6f60ef1faacfc7ff99817bf54b86fce97a9212d9"), looks := true }, kinds := [], alts := [], laidByText := true, laidKinds := [.data, .data, .data, .data, .sentinel, .sentinel, .pinned], laidTests := true, laidLooks := .later }
def TypesOfCardSaid : Prop := Claim7.holds Tryz.pinned (.plain (OpenSpec.ofChange typesOfSpec)) typesOfCard

/-- THE TIED CARD OF 'palaverlaw08.TypesTexts'. -/
def typesTextsCard : Claim7 := { stood := { row := typesTextsRow, standIns := [], harness := (true, "b73eb926ec280bbb226f98bb6f60ef1faacfc7ff99817bf54b86fce97a9212d9"), looks := true }, kinds := [], alts := [], laidByText := true, laidKinds := [.data, .data, .data, .data, .sentinel, .sentinel, .pinned], laidTests := true, laidLooks := .later }
def TypesTextsCardSaid : Prop := Claim7.holds Tryz.pinned (.plain (OpenSpec.ofChange typesTextsSpec)) typesTextsCard

/-- THE TIED CARD OF 'palaverlaw08.TypesMore'. -/
def typesMoreCard : Claim7 := { stood := { row := typesMoreRow, standIns := [], harness := (true, "b73eb926ec280bbb226f98bb6f60ef1faacfc7ff99817bf54b86fce97a9212d9"), looks := true }, kinds := [], alts := [], laidByText := true, laidKinds := [.data, .data, .data, .data, .sentinel, .sentinel, .pinned], laidTests := true, laidLooks := .later }
def TypesMoreCardSaid : Prop := Claim7.holds Tryz.pinned (.plain (OpenSpec.ofChange typesMoreSpec)) typesMoreCard

/-- THE TIED CARD OF 'palaverlaw07.ParseAll'. -/
def parseAllCard : Claim7 := { stood := { row := parseAllRow, standIns := [], harness := (true, "b73eb926ec280bbb226f98bb6f60ef1faacfc7ff99817bf54b86fce97a9212d9"), looks := true }, kinds := [], alts := [], laidByText := true, laidKinds := [.data, .data, .data, .data, .sentinel, .sentinel, .pinned], laidTests := true, laidLooks := .later }
def ParseAllCardSaid : Prop := Claim7.holds Tryz.pinned (.plain (OpenSpec.ofChange parseAllSpec)) parseAllCard

/-- THE TIED CARD OF 'palaverlaw07.ParseChecks'. -/
def parseChecksCard : Claim7 := { stood := { row := parseChecksRow, standIns := [], harness := (true, "b73eb926ec280bbb226f98bb6f60ef1faacfc7ff99817bf54b86fce97a9212d9"), looks := true }, kinds := [], alts := [], laidByText := true, laidKinds := [.data, .data, .data, .data, .sentinel, .sentinel, .pinned], laidTests := true, laidLooks := .later }
def ParseChecksCardSaid : Prop := Claim7.holds Tryz.pinned (.plain (OpenSpec.ofChange parseChecksSpec)) parseChecksCard

/-- THE TIED CARD OF 'palaverlaw09.EvalAll'. -/
def evalAllCard : Claim7 := { stood := { row := evalAllRow, standIns := [], harness := (true, "b73eb926ec280bbb226f98bb6f60ef1faacfc7ff99817bf54b86fce97a9212d9"), looks := true }, kinds := [], alts := [], laidByText := true, laidKinds := [.data, .data, .data, .data, .sentinel, .sentinel, .pinned], laidTests := true, laidLooks := .later }
def EvalAllCardSaid : Prop := Claim7.holds Tryz.pinned (.plain (OpenSpec.ofChange evalAllSpec)) evalAllCard

/-- THE TIED CARD OF 'palaverlaw09.EvalTexts'. -/
def evalTextsCard : Claim7 := { stood := { row := evalTextsRow, standIns := [], harness := (true, "b73eb926ec280bbb226f98bb6f60ef1faacfc7ff99817bf54b86fce97a9212d9"), looks := true }, kinds := [], alts := [], laidByText := true, laidKinds := [.data, .data, .data, .data, .sentinel, .sentinel, .pinned], laidTests := true, laidLooks := .later }
def EvalTextsCardSaid : Prop := Claim7.holds Tryz.pinned (.plain (OpenSpec.ofChange evalTextsSpec)) evalTextsCard

/-- THE TIED CARD OF 'palaverlaw09.EvalTyped'. -/
def evalTypedCard : Claim7 := { stood := { row := evalTypedRow, standIns := [], harness := (true, "b73eb926ec280bbb226f98bb6f60ef1faacfc7ff99817bf54b86fce97a9212d9"), looks := true }, kinds := [], alts := [], laidByText := true, laidKinds := [.data, .data, .data, .data, .sentinel, .sentinel, .pinned], laidTests := true, laidLooks := .later }
def EvalTypedCardSaid : Prop := Claim7.holds Tryz.pinned (.plain (OpenSpec.ofChange evalTypedSpec)) evalTypedCard

/-- THE TIED CARD OF 'palaverlaw09.EvalNumbers'. -/
def evalNumbersCard : Claim7 := { stood := { row := evalNumbersRow, standIns := [], harness := (true, "b73eb926ec280bbb226f98bb6f60ef1faacfc7ff99817bf54b86fce97a9212d9"), looks := true }, kinds := [], alts := [], laidByText := true, laidKinds := [.data, .data, .data, .data, .sentinel, .sentinel, .pinned], laidTests := true, laidLooks := .later }
def EvalNumbersCardSaid : Prop := Claim7.holds Tryz.pinned (.plain (OpenSpec.ofChange evalNumbersSpec)) evalNumbersCard

/-- THE TIED CARD OF 'palaverlaw09.EvalProducts'. -/
def evalProductsCard : Claim7 := { stood := { row := evalProductsRow, standIns := [], harness := (true, "b73eb926ec280bbb226f98bb6f60ef1faacfc7ff99817bf54b86fce97a9212d9"), looks := true }, kinds := [], alts := [], laidByText := true, laidKinds := [.data, .data, .data, .data, .sentinel, .sentinel, .pinned], laidTests := true, laidLooks := .later }
def EvalProductsCardSaid : Prop := Claim7.holds Tryz.pinned (.plain (OpenSpec.ofChange evalProductsSpec)) evalProductsCard

/-- THE TIED CARD OF 'palaverlaw09.EvalLazy'. -/
def evalLazyCard : Claim7 := { stood := { row := evalLazyRow, standIns := [], harness := (true, "b73eb926ec280bbb226f98bb6f60ef1faacfc7ff99817bf54b86fce97a9212d9"), looks := true }, kinds := [], alts := [], laidByText := true, laidKinds := [.data, .data, .data, .data, .sentinel, .sentinel, .pinned], laidTests := true, laidLooks := .later }
def EvalLazyCardSaid : Prop := Claim7.holds Tryz.pinned (.plain (OpenSpec.ofChange evalLazySpec)) evalLazyCard

/-- THE TIED CARD OF 'palaverlaw09.EvalNames'. -/
def evalNamesCard : Claim7 := { stood := { row := evalNamesRow, standIns := [], harness := (true, "b73eb926ec280bbb226f98bb6f60ef1faacfc7ff99817bf54b86fce97a9212d9"), looks := true }, kinds := [], alts := [], laidByText := true, laidKinds := [.data, .data, .data, .data, .sentinel, .sentinel, .pinned], laidTests := true, laidLooks := .later }
def EvalNamesCardSaid : Prop := Claim7.holds Tryz.pinned (.plain (OpenSpec.ofChange evalNamesSpec)) evalNamesCard

/-- THE TIED CARD OF 'palaverlaw09.EvalWords'. -/
def evalWordsCard : Claim7 := { stood := { row := evalWordsRow, standIns := [], harness := (true, "b73eb926ec280bbb226f98bb6f60ef1faacfc7ff99817bf54b86fce97a9212d9"), looks := true }, kinds := [], alts := [], laidByText := true, laidKinds := [.data, .data, .data, .data, .sentinel, .sentinel, .pinned], laidTests := true, laidLooks := .later }
def EvalWordsCardSaid : Prop := Claim7.holds Tryz.pinned (.plain (OpenSpec.ofChange evalWordsSpec)) evalWordsCard

/-- THE TIED CARD OF 'palaverlaw09.EvalOne'. -/
def evalOneCard : Claim7 := { stood := { row := evalOneRow, standIns := [], harness := (true, "b73eb926ec280bbb226f98bb6f60ef1faacfc7ff99817bf54b86fce97a9212d9"), looks := true }, kinds := [], alts := [], laidByText := true, laidKinds := [.data, .data, .data, .data, .sentinel, .sentinel, .pinned], laidTests := true, laidLooks := .later }
def EvalOneCardSaid : Prop := Claim7.holds Tryz.pinned (.plain (OpenSpec.ofChange evalOneSpec)) evalOneCard

/-- THE TIED CARD OF 'palaverlaw09.EvalTruths'. -/
def evalTruthsCard : Claim7 := { stood := { row := evalTruthsRow, standIns := [], harness := (true, "b73eb926ec280bbb226f98bb6f60ef1faacfc7ff99817bf54b86fce97a9212d9"), looks := true }, kinds := [], alts := [], laidByText := true, laidKinds := [.data, .data, .data, .data, .sentinel, .sentinel, .pinned], laidTests := true, laidLooks := .later }
def EvalTruthsCardSaid : Prop := Claim7.holds Tryz.pinned (.plain (OpenSpec.ofChange evalTruthsSpec)) evalTruthsCard

/-- THE TIED CARD OF 'palaverlaw07.ParseTexts'. -/
def parseTextsCard : Claim7 := { stood := { row := parseTextsRow, standIns := [], harness := (true, "b73eb926ec280bbb226f98bb6f60ef1faacfc7ff99817bf54b86fce97a9212d9"), looks := true }, kinds := [], alts := [], laidByText := true, laidKinds := [.data, .data, .data, .data, .sentinel, .sentinel, .pinned], laidTests := true, laidLooks := .later }
def ParseTextsCardSaid : Prop := Claim7.holds Tryz.pinned (.plain (OpenSpec.ofChange parseTextsSpec)) parseTextsCard

/-- THE SECOND FORM's CARD OF 'palaverlaw08.TypesOf'. -/
def typesOfUptoCard : Claim7 := { stood := { row := typesOfUptoRow, standIns := [], harness := (true, "b73eb926ec280bbb226f98bb6f60ef1faacfc7ff99817bf54b86fce97a9212d9"), looks := true }, kinds := [], alts := [], laidByText := true, laidKinds := [.data, .data, .data, .data, .sentinel, .sentinel, .pinned], laidTests := true, laidLooks := .later }
def TypesOfUptoCardSaid : Prop := Claim7.holds Tryz.pinned (.plain (OpenSpec.upto typesOfSpec)) typesOfUptoCard

/-- THE SECOND FORM's CARD OF 'palaverlaw08.TypesTexts'. -/
def typesTextsUptoCard : Claim7 := { stood := { row := typesTextsUptoRow, standIns := [], harness := (true, "b73eb926ec280bbb226f98bb6f60ef1faacfc7ff99817bf54b86fce97a9212d9"), looks := true }, kinds := [], alts := [], laidByText := true, laidKinds := [.data, .data, .data, .data, .sentinel, .sentinel, .pinned], laidTests := true, laidLooks := .later }
def TypesTextsUptoCardSaid : Prop := Claim7.holds Tryz.pinned (.plain (OpenSpec.upto typesTextsSpec)) typesTextsUptoCard

/-- THE SECOND FORM's CARD OF 'palaverlaw08.TypesMore'. -/
def typesMoreUptoCard : Claim7 := { stood := { row := typesMoreUptoRow, standIns := [], harness := (true, "b73eb926ec280bbb226f98bb6f60ef1faacfc7ff99817bf54b86fce97a9212d9"), looks := true }, kinds := [], alts := [], laidByText := true, laidKinds := [.data, .data, .data, .data, .sentinel, .sentinel, .pinned], laidTests := true, laidLooks := .later }
def TypesMoreUptoCardSaid : Prop := Claim7.holds Tryz.pinned (.plain (OpenSpec.upto typesMoreSpec)) typesMoreUptoCard

/-- THE SECOND FORM's CARD OF 'palaverlaw07.ParseAll'. -/
def parseAllUptoCard : Claim7 := { stood := { row := parseAllUptoRow, standIns := [], harness := (true, "b73eb926ec280bbb226f98bb6f60ef1faacfc7ff99817bf54b86fce97a9212d9"), looks := true }, kinds := [], alts := [], laidByText := true, laidKinds := [.data, .data, .data, .data, .sentinel, .sentinel, .pinned], laidTests := true, laidLooks := .later }
def ParseAllUptoCardSaid : Prop := Claim7.holds Tryz.pinned (.plain (OpenSpec.upto parseAllSpec)) parseAllUptoCard

/-- THE SECOND FORM's CARD OF 'palaverlaw07.ParseChecks'. -/
def parseChecksUptoCard : Claim7 := { stood := { row := parseChecksUptoRow, standIns := [], harness := (true, "b73eb926ec280bbb226f98bb6f60ef1faacfc7ff99817bf54b86fce97a9212d9"), looks := true }, kinds := [], alts := [], laidByText := true, laidKinds := [.data, .data, .data, .data, .sentinel, .sentinel, .pinned], laidTests := true, laidLooks := .later }
def ParseChecksUptoCardSaid : Prop := Claim7.holds Tryz.pinned (.plain (OpenSpec.upto parseChecksSpec)) parseChecksUptoCard

/-- THE SECOND FORM's CARD OF 'palaverlaw09.EvalAll'. -/
def evalAllUptoCard : Claim7 := { stood := { row := evalAllUptoRow, standIns := [], harness := (true, "b73eb926ec280bbb226f98bb6f60ef1faacfc7ff99817bf54b86fce97a9212d9"), looks := true }, kinds := [], alts := [], laidByText := true, laidKinds := [.data, .data, .data, .data, .sentinel, .sentinel, .pinned], laidTests := true, laidLooks := .later }
def EvalAllUptoCardSaid : Prop := Claim7.holds Tryz.pinned (.plain (OpenSpec.upto evalAllSpec)) evalAllUptoCard

/-- THE SECOND FORM's CARD OF 'palaverlaw09.EvalTexts'. -/
def evalTextsUptoCard : Claim7 := { stood := { row := evalTextsUptoRow, standIns := [], harness := (true, "b73eb926ec280bbb226f98bb6f60ef1faacfc7ff99817bf54b86fce97a9212d9"), looks := true }, kinds := [], alts := [], laidByText := true, laidKinds := [.data, .data, .data, .data, .sentinel, .sentinel, .pinned], laidTests := true, laidLooks := .later }
def EvalTextsUptoCardSaid : Prop := Claim7.holds Tryz.pinned (.plain (OpenSpec.upto evalTextsSpec)) evalTextsUptoCard

/-- THE SECOND FORM's CARD OF 'palaverlaw09.EvalTyped'. -/
def evalTypedUptoCard : Claim7 := { stood := { row := evalTypedUptoRow, standIns := [], harness := (true, "b73eb926ec280bbb226f98bb6f60ef1faacfc7ff99817bf54b86fce97a9212d9"), looks := true }, kinds := [], alts := [], laidByText := true, laidKinds := [.data, .data, .data, .data, .sentinel, .sentinel, .pinned], laidTests := true, laidLooks := .later }
def EvalTypedUptoCardSaid : Prop := Claim7.holds Tryz.pinned (.plain (OpenSpec.upto evalTypedSpec)) evalTypedUptoCard

/-- THE SECOND FORM's CARD OF 'palaverlaw09.EvalNumbers'. -/
def evalNumbersUptoCard : Claim7 := { stood := { row := evalNumbersUptoRow, standIns := [], harness := (true, "b73eb926ec280bbb226f98bb6f60ef1faacfc7ff99817bf54b86fce97a9212d9"), looks := true }, kinds := [], alts := [], laidByText := true, laidKinds := [.data, .data, .data, .data, .sentinel, .sentinel, .pinned], laidTests := true, laidLooks := .later }
def EvalNumbersUptoCardSaid : Prop := Claim7.holds Tryz.pinned (.plain (OpenSpec.upto evalNumbersSpec)) evalNumbersUptoCard

/-- THE SECOND FORM's CARD OF 'palaverlaw09.EvalProducts'. -/
def evalProductsUptoCard : Claim7 := { stood := { row := evalProductsUptoRow, standIns := [], harness := (true, "b73eb926ec280bbb226f98bb6f60ef1faacfc7ff99817bf54b86fce97a9212d9"), looks := true }, kinds := [], alts := [], laidByText := true, laidKinds := [.data, .data, .data, .data, .sentinel, .sentinel, .pinned], laidTests := true, laidLooks := .later }
def EvalProductsUptoCardSaid : Prop := Claim7.holds Tryz.pinned (.plain (OpenSpec.upto evalProductsSpec)) evalProductsUptoCard

/-- THE SECOND FORM's CARD OF 'palaverlaw09.EvalLazy'. -/
def evalLazyUptoCard : Claim7 := { stood := { row := evalLazyUptoRow, standIns := [], harness := (true, "b73eb926ec280bbb226f98bb6f60ef1faacfc7ff99817bf54b86fce97a9212d9"), looks := true }, kinds := [], alts := [], laidByText := true, laidKinds := [.data, .data, .data, .data, .sentinel, .sentinel, .pinned], laidTests := true, laidLooks := .later }
def EvalLazyUptoCardSaid : Prop := Claim7.holds Tryz.pinned (.plain (OpenSpec.upto evalLazySpec)) evalLazyUptoCard

/-- THE SECOND FORM's CARD OF 'palaverlaw09.EvalNames'. -/
def evalNamesUptoCard : Claim7 := { stood := { row := evalNamesUptoRow, standIns := [], harness := (true, "b73eb926ec280bbb226f98bb6f60ef1faacfc7ff99817bf54b86fce97a9212d9"), looks := true }, kinds := [], alts := [], laidByText := true, laidKinds := [.data, .data, .data, .data, .sentinel, .sentinel, .pinned], laidTests := true, laidLooks := .later }
def EvalNamesUptoCardSaid : Prop := Claim7.holds Tryz.pinned (.plain (OpenSpec.upto evalNamesSpec)) evalNamesUptoCard

/-- THE SECOND FORM's CARD OF 'palaverlaw09.EvalWords'. -/
def evalWordsUptoCard : Claim7 := { stood := { row := evalWordsUptoRow, standIns := [], harness := (true, "b73eb926ec280bbb226f98bb6f60ef1faacfc7ff99817bf54b86fce97a9212d9"), looks := true }, kinds := [], alts := [], laidByText := true, laidKinds := [.data, .data, .data, .data, .sentinel, .sentinel, .pinned], laidTests := true, laidLooks := .later }
def EvalWordsUptoCardSaid : Prop := Claim7.holds Tryz.pinned (.plain (OpenSpec.upto evalWordsSpec)) evalWordsUptoCard

/-- THE SECOND FORM's CARD OF 'palaverlaw09.EvalOne'. -/
def evalOneUptoCard : Claim7 := { stood := { row := evalOneUptoRow, standIns := [], harness := (true, "b73eb926ec280bbb226f98bb6f60ef1faacfc7ff99817bf54b86fce97a9212d9"), looks := true }, kinds := [], alts := [], laidByText := true, laidKinds := [.data, .data, .data, .data, .sentinel, .sentinel, .pinned], laidTests := true, laidLooks := .later }
def EvalOneUptoCardSaid : Prop := Claim7.holds Tryz.pinned (.plain (OpenSpec.upto evalOneSpec)) evalOneUptoCard

/-- THE SECOND FORM's CARD OF 'palaverlaw09.EvalTruths'. -/
def evalTruthsUptoCard : Claim7 := { stood := { row := evalTruthsUptoRow, standIns := [], harness := (true, "b73eb926ec280bbb226f98bb6f60ef1faacfc7ff99817bf54b86fce97a9212d9"), looks := true }, kinds := [], alts := [], laidByText := true, laidKinds := [.data, .data, .data, .data, .sentinel, .sentinel, .pinned], laidTests := true, laidLooks := .later }
def EvalTruthsUptoCardSaid : Prop := Claim7.holds Tryz.pinned (.plain (OpenSpec.upto evalTruthsSpec)) evalTruthsUptoCard

/-- THE SECOND FORM's CARD OF 'palaverlaw07.ParseTexts'. -/
def parseTextsUptoCard : Claim7 := { stood := { row := parseTextsUptoRow, standIns := [], harness := (true, "b73eb926ec280bbb226f98bb6f60ef1faacfc7ff99817bf54b86fce97a9212d9"), looks := true }, kinds := [], alts := [], laidByText := true, laidKinds := [.data, .data, .data, .data, .sentinel, .sentinel, .pinned], laidTests := true, laidLooks := .later }
def ParseTextsUptoCardSaid : Prop := Claim7.holds Tryz.pinned (.plain (OpenSpec.upto parseTextsSpec)) parseTextsUptoCard
end Rows
end Go.Proofs.YtdgcgogeidnmoaaGreatDoor
