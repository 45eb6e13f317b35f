/-
  DERIVED. GIVEN WITH THE SEED: THE CARDS: each row of YtpfhhikbaeknpaaGreatDoorRows.lean that lists a variable, with what it lists TIED to the program's text (the seventh form; the later family's looks); each row that meets fmt, with fmt's text TOLD by the authors' own Lean function (tested against real Go, not proved from fmt's source: count such statements apart). THE CARD IS WHAT COUNTS. Prove the row's statement (the work); the ties are given (YtpfhhikbaeknpaaGreatDoorTie.lean); close each card by the builder's one call (the guide's Derived/Test/ToyasCard.lean, 'card_holds'). Laid BY PROGRAM, IN A SANDBOX (cutbox-door.mjs). By AI agents, Wed Nov 11 2026. No macro, syntax, notation, axiom, sorry.
-/
import Derived.Test.YtpfhhikbaeknpaaGreatDoorRows
import GoSem.ClaimSeven
namespace Go.Proofs.YtpfhhikbaeknpaaGreatDoor
namespace Rows

/-- THE TIED CARD OF 'palaverlaw11.SchemaRings'. -/
def schemaRingsCard : Claim7 := { stood := { row := schemaRingsRow, standIns := [], harness := (true, "64651976b4b1362d9987b28889d977338d9d605105d9f177b3ee9c2b7dd28d8a"), looks := true }, kinds := [], alts := [], laidByText := true, laidKinds := [.data, .data, .data, .data, .sentinel, .sentinel, .pinned], laidTests := true, laidLooks := .later }
def SchemaRingsCardSaid : Prop := Claim7.holds Tryz.pinned (.plain (OpenSpec.ofChange schemaRingsSpec)) schemaRingsCard

/-- THE TIED CARD OF 'palaverlaw11.SchemaWrong'. -/
def schemaWrongCard : Claim7 := { stood := { row := schemaWrongRow, standIns := [], harness := (true, "64651976b4b1362d9987b28889d977338d9d605105d9f177b3ee9c2b7dd28d8a"), looks := true }, kinds := [], alts := [], laidByText := true, laidKinds := [.data, .data, .data, .data, .sentinel, .sentinel, .pinned], laidTests := true, laidLooks := .later }
def SchemaWrongCardSaid : Prop := Claim7.holds Tryz.pinned (.plain (OpenSpec.ofChange schemaWrongSpec)) schemaWrongCard

/-- THE TIED CARD OF 'palaverlaw11.SchemaAhead'. -/
def schemaAheadCard : Claim7 := { stood := { row := schemaAheadRow, standIns := [], harness := (true, "64651976b4b1362d9987b28889d977338d9d605105d9f177b3ee9c2b7dd28d8a"), looks := true }, kinds := [], alts := [], laidByText := true, laidKinds := [.data, .data, .data, .data, .sentinel, .sentinel, .pinned], laidTests := true, laidLooks := .later }
def SchemaAheadCardSaid : Prop := Claim7.holds Tryz.pinned (.plain (OpenSpec.ofChange schemaAheadSpec)) schemaAheadCard

/-- THE TIED CARD OF 'palaverlaw11.SchemaFinds'. -/
def schemaFindsCard : Claim7 := { stood := { row := schemaFindsRow, standIns := [], harness := (true, "64651976b4b1362d9987b28889d977338d9d605105d9f177b3ee9c2b7dd28d8a"), looks := true }, kinds := [], alts := [], laidByText := true, laidKinds := [.data, .data, .data, .data, .sentinel, .sentinel, .pinned], laidTests := true, laidLooks := .later }
def SchemaFindsCardSaid : Prop := Claim7.holds Tryz.pinned (.plain (OpenSpec.ofChange schemaFindsSpec)) schemaFindsCard

/-- THE TIED CARD OF 'palaverlaw11.SchemaMore'. -/
def schemaMoreCard : Claim7 := { stood := { row := schemaMoreRow, standIns := [], harness := (true, "64651976b4b1362d9987b28889d977338d9d605105d9f177b3ee9c2b7dd28d8a"), looks := true }, kinds := [], alts := [], laidByText := true, laidKinds := [.data, .data, .data, .data, .sentinel, .sentinel, .pinned], laidTests := true, laidLooks := .later }
def SchemaMoreCardSaid : Prop := Claim7.holds Tryz.pinned (.plain (OpenSpec.ofChange schemaMoreSpec)) schemaMoreCard

/-- THE TIED CARD OF 'palaverlaw11.SchemaNews'. -/
def schemaNewsCard : Claim7 := { stood := { row := schemaNewsRow, standIns := [], harness := (true, "64651976b4b1362d9987b28889d977338d9d605105d9f177b3ee9c2b7dd28d8a"), looks := true }, kinds := [], alts := [], laidByText := true, laidKinds := [.data, .data, .data, .data, .sentinel, .sentinel, .pinned], laidTests := true, laidLooks := .later }
def SchemaNewsCardSaid : Prop := Claim7.holds Tryz.pinned (.plain (OpenSpec.ofChange schemaNewsSpec)) schemaNewsCard

/-- THE SECOND FORM's CARD OF 'palaverlaw11.SchemaRings'. -/
def schemaRingsUptoCard : Claim7 := { stood := { row := schemaRingsUptoRow, standIns := [], harness := (true, "64651976b4b1362d9987b28889d977338d9d605105d9f177b3ee9c2b7dd28d8a"), looks := true }, kinds := [], alts := [], laidByText := true, laidKinds := [.data, .data, .data, .data, .sentinel, .sentinel, .pinned], laidTests := true, laidLooks := .later }
def SchemaRingsUptoCardSaid : Prop := Claim7.holds Tryz.pinned (.plain (OpenSpec.upto schemaRingsSpec)) schemaRingsUptoCard

/-- THE SECOND FORM's CARD OF 'palaverlaw11.SchemaWrong'. -/
def schemaWrongUptoCard : Claim7 := { stood := { row := schemaWrongUptoRow, standIns := [], harness := (true, "64651976b4b1362d9987b28889d977338d9d605105d9f177b3ee9c2b7dd28d8a"), looks := true }, kinds := [], alts := [], laidByText := true, laidKinds := [.data, .data, .data, .data, .sentinel, .sentinel, .pinned], laidTests := true, laidLooks := .later }
def SchemaWrongUptoCardSaid : Prop := Claim7.holds Tryz.pinned (.plain (OpenSpec.upto schemaWrongSpec)) schemaWrongUptoCard

/-- THE SECOND FORM's CARD OF 'palaverlaw11.SchemaAhead'. -/
def schemaAheadUptoCard : Claim7 := { stood := { row := schemaAheadUptoRow, standIns := [], harness := (true, "64651976b4b1362d9987b28889d977338d9d605105d9f177b3ee9c2b7dd28d8a"), looks := true }, kinds := [], alts := [], laidByText := true, laidKinds := [.data, .data, .data, .data, .sentinel, .sentinel, .pinned], laidTests := true, laidLooks := .later }
def SchemaAheadUptoCardSaid : Prop := Claim7.holds Tryz.pinned (.plain (OpenSpec.upto schemaAheadSpec)) schemaAheadUptoCard

/-- THE SECOND FORM's CARD OF 'palaverlaw11.SchemaFinds'. -/
def schemaFindsUptoCard : Claim7 := { stood := { row := schemaFindsUptoRow, standIns := [], harness := (true, "64651976b4b1362d9987b28889d977338d9d605105d9f177b3ee9c2b7dd28d8a"), looks := true }, kinds := [], alts := [], laidByText := true, laidKinds := [.data, .data, .data, .data, .sentinel, .sentinel, .pinned], laidTests := true, laidLooks := .later }
def SchemaFindsUptoCardSaid : Prop := Claim7.holds Tryz.pinned (.plain (OpenSpec.upto schemaFindsSpec)) schemaFindsUptoCard

/-- THE SECOND FORM's CARD OF 'palaverlaw11.SchemaMore'. -/
def schemaMoreUptoCard : Claim7 := { stood := { row := schemaMoreUptoRow, standIns := [], harness := (true, "64651976b4b1362d9987b28889d977338d9d605105d9f177b3ee9c2b7dd28d8a"), looks := true }, kinds := [], alts := [], laidByText := true, laidKinds := [.data, .data, .data, .data, .sentinel, .sentinel, .pinned], laidTests := true, laidLooks := .later }
def SchemaMoreUptoCardSaid : Prop := Claim7.holds Tryz.pinned (.plain (OpenSpec.upto schemaMoreSpec)) schemaMoreUptoCard

/-- THE SECOND FORM's CARD OF 'palaverlaw11.SchemaNews'. -/
def schemaNewsUptoCard : Claim7 := { stood := { row := schemaNewsUptoRow, standIns := [], harness := (true, "64651976b4b1362d9987b28889d977338d9d605105d9f177b3ee9c2b7dd28d8a"), looks := true }, kinds := [], alts := [], laidByText := true, laidKinds := [.data, .data, .data, .data, .sentinel, .sentinel, .pinned], laidTests := true, laidLooks := .later }
def SchemaNewsUptoCardSaid : Prop := Claim7.holds Tryz.pinned (.plain (OpenSpec.upto schemaNewsSpec)) schemaNewsUptoCard
end Rows
end Go.Proofs.YtpfhhikbaeknpaaGreatDoor
