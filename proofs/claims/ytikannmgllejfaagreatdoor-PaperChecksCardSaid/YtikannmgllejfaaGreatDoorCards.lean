/-
  DERIVED. GIVEN WITH THE SEED: THE CARDS: each row of YtikannmgllejfaaGreatDoorRows.lean that lists a variable, with what it lists TIED to the program's text (the seventh form; the later family's looks); each row that meets fmt, with fmt's text TOLD by the authors' own Lean function (tested against real Go, not proved from fmt's source: count such statements apart). THE CARD IS WHAT COUNTS. Prove the row's statement (the work); the ties are given (YtikannmgllejfaaGreatDoorTie.lean); close each card by the builder's one call (the guide's Derived/Test/ToyasCard.lean, 'card_holds'). Laid BY PROGRAM, IN A SANDBOX (cutbox-door.mjs). By AI agents, Wed Nov 11 2026. No macro, syntax, notation, axiom, sorry.
-/
import Derived.Test.YtikannmgllejfaaGreatDoorRows
import GoSem.ClaimSeven
namespace Go.Proofs.YtikannmgllejfaaGreatDoor
namespace Rows

/-- THE TIED CARD OF 'palaverlaw12.PaperGate'. -/
def paperGateCard : Claim7 := { stood := { row := paperGateRow, standIns := [], harness := (true, "68d465196905732aa604b99fce1e103512a92f866817974889a1ab34cb4258a9"), looks := true }, kinds := [], alts := [], laidByText := true, laidKinds := [.data, .data, .data, .data, .sentinel, .sentinel, .pinned], laidTests := true, laidLooks := .later }
def PaperGateCardSaid : Prop := Claim7.holds Tryz.pinned (.plain (OpenSpec.ofChange paperGateSpec)) paperGateCard

/-- THE TIED CARD OF 'palaverlaw12.PaperTwice'. -/
def paperTwiceCard : Claim7 := { stood := { row := paperTwiceRow, standIns := [], harness := (true, "68d465196905732aa604b99fce1e103512a92f866817974889a1ab34cb4258a9"), looks := true }, kinds := [], alts := [], laidByText := true, laidKinds := [.data, .data, .data, .data, .sentinel, .sentinel, .pinned], laidTests := true, laidLooks := .later }
def PaperTwiceCardSaid : Prop := Claim7.holds Tryz.pinned (.plain (OpenSpec.ofChange paperTwiceSpec)) paperTwiceCard

/-- THE TIED CARD OF 'palaverlaw12.PaperApart'. -/
def paperApartCard : Claim7 := { stood := { row := paperApartRow, standIns := [], harness := (true, "68d465196905732aa604b99fce1e103512a92f866817974889a1ab34cb4258a9"), looks := true }, kinds := [], alts := [], laidByText := true, laidKinds := [.data, .data, .data, .data, .sentinel, .sentinel, .pinned], laidTests := true, laidLooks := .later }
def PaperApartCardSaid : Prop := Claim7.holds Tryz.pinned (.plain (OpenSpec.ofChange paperApartSpec)) paperApartCard

/-- THE TIED CARD OF 'palaverlaw12.PaperChecks'. -/
def paperChecksCard : Claim7 := { stood := { row := paperChecksRow, standIns := [], harness := (true, "68d465196905732aa604b99fce1e103512a92f866817974889a1ab34cb4258a9"), looks := true }, kinds := [], alts := [], laidByText := true, laidKinds := [.data, .data, .data, .data, .sentinel, .sentinel, .pinned], laidTests := true, laidLooks := .later }
def PaperChecksCardSaid : Prop := Claim7.holds Tryz.pinned (.plain (OpenSpec.ofChange paperChecksSpec)) paperChecksCard

/-- THE SECOND FORM's CARD OF 'palaverlaw12.PaperGate'. -/
def paperGateUptoCard : Claim7 := { stood := { row := paperGateUptoRow, standIns := [], harness := (true, "68d465196905732aa604b99fce1e103512a92f866817974889a1ab34cb4258a9"), looks := true }, kinds := [], alts := [], laidByText := true, laidKinds := [.data, .data, .data, .data, .sentinel, .sentinel, .pinned], laidTests := true, laidLooks := .later }
def PaperGateUptoCardSaid : Prop := Claim7.holds Tryz.pinned (.plain (OpenSpec.upto paperGateSpec)) paperGateUptoCard

/-- THE SECOND FORM's CARD OF 'palaverlaw12.PaperTwice'. -/
def paperTwiceUptoCard : Claim7 := { stood := { row := paperTwiceUptoRow, standIns := [], harness := (true, "68d465196905732aa604b99fce1e103512a92f866817974889a1ab34cb4258a9"), looks := true }, kinds := [], alts := [], laidByText := true, laidKinds := [.data, .data, .data, .data, .sentinel, .sentinel, .pinned], laidTests := true, laidLooks := .later }
def PaperTwiceUptoCardSaid : Prop := Claim7.holds Tryz.pinned (.plain (OpenSpec.upto paperTwiceSpec)) paperTwiceUptoCard

/-- THE SECOND FORM's CARD OF 'palaverlaw12.PaperApart'. -/
def paperApartUptoCard : Claim7 := { stood := { row := paperApartUptoRow, standIns := [], harness := (true, "68d465196905732aa604b99fce1e103512a92f866817974889a1ab34cb4258a9"), looks := true }, kinds := [], alts := [], laidByText := true, laidKinds := [.data, .data, .data, .data, .sentinel, .sentinel, .pinned], laidTests := true, laidLooks := .later }
def PaperApartUptoCardSaid : Prop := Claim7.holds Tryz.pinned (.plain (OpenSpec.upto paperApartSpec)) paperApartUptoCard

/-- THE SECOND FORM's CARD OF 'palaverlaw12.PaperChecks'. -/
def paperChecksUptoCard : Claim7 := { stood := { row := paperChecksUptoRow, standIns := [], harness := (true, "68d465196905732aa604b99fce1e103512a92f866817974889a1ab34cb4258a9"), looks := true }, kinds := [], alts := [], laidByText := true, laidKinds := [.data, .data, .data, .data, .sentinel, .sentinel, .pinned], laidTests := true, laidLooks := .later }
def PaperChecksUptoCardSaid : Prop := Claim7.holds Tryz.pinned (.plain (OpenSpec.upto paperChecksSpec)) paperChecksUptoCard
end Rows
end Go.Proofs.YtikannmgllejfaaGreatDoor
