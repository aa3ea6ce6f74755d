/-
  DERIVED. GIVEN WITH THE SEED: THE CARDS: each row of YtnhpcpmgedjffaaDoorRows.lean that lists a variable, with what it lists TIED to the program's text (the seventh form; the later family's looks); each row that meets fmt, with fmt's text TOLD by the authors' own Lean function (tested against real Go, not proved from fmt's source: count such statements apart). THE CARD IS WHAT COUNTS. Prove the row's statement (the work); the ties are given (YtnhpcpmgedjffaaDoorTie.lean); close each card by the builder's one call (the guide's Derived/Test/ToyasCard.lean, 'card_holds'). Laid BY PROGRAM, IN A SANDBOX (cutbox-door.mjs). By AI agents, Wed Nov 11 2026. No macro, syntax, notation, axiom, sorry.
-/
import Derived.Test.YtnhpcpmgedjffaaDoorRows
import GoSem.ClaimSeven
namespace Go.Proofs.YtnhpcpmgedjffaaDoor
namespace Rows

/-- THE TIED CARD OF 'ostiarylaw16.DohAsks'. -/
def dohAsksCard : Claim7 := { stood := { row := dohAsksRow, standIns := [], harness := (true, "943b7e5e6c988817b5fb0c4e25fe76673e48efc62b8a3200cc9b6f0694dcc4de"), looks := true }, kinds := [], alts := [], laidByText := true, laidKinds := [.data, .pinned], laidTests := true, laidLooks := .later }
def DohAsksCardSaid : Prop := Claim7.holds Tryd.pinned (.plain (OpenSpec.ofChange dohAsksSpec)) dohAsksCard

/-- THE TIED CARD OF 'ostiarylaw16.DohParts'. -/
def dohPartsCard : Claim7 := { stood := { row := dohPartsRow, standIns := [], harness := (true, "943b7e5e6c988817b5fb0c4e25fe76673e48efc62b8a3200cc9b6f0694dcc4de"), looks := true }, kinds := [], alts := [], laidByText := true, laidKinds := [.data, .pinned], laidTests := true, laidLooks := .later }
def DohPartsCardSaid : Prop := Claim7.holds Tryd.pinned (.plain (OpenSpec.ofChange dohPartsSpec)) dohPartsCard

/-- THE TIED CARD OF 'ostiarylaw16.DohYoung'. -/
def dohYoungCard : Claim7 := { stood := { row := dohYoungRow, standIns := [], harness := (true, "943b7e5e6c988817b5fb0c4e25fe76673e48efc62b8a3200cc9b6f0694dcc4de"), looks := true }, kinds := [], alts := [], laidByText := true, laidKinds := [.data, .pinned], laidTests := true, laidLooks := .later }
def DohYoungCardSaid : Prop := Claim7.holds Tryd.pinned (.plain (OpenSpec.ofChange dohYoungSpec)) dohYoungCard

/-- THE TIED CARD OF 'ostiarylaw15.RespWrites'. -/
def respWritesCard : Claim7 := { stood := { row := respWritesRow, standIns := [], harness := (true, "943b7e5e6c988817b5fb0c4e25fe76673e48efc62b8a3200cc9b6f0694dcc4de"), looks := true }, kinds := [], alts := [], laidByText := true, laidKinds := [.data, .data, .data, .data, .pinned], laidTests := true, laidLooks := .later }
def RespWritesCardSaid : Prop := Claim7.holds Tryd.pinned (.plain (OpenSpec.ofChange respWritesSpec)) respWritesCard

/-- THE TIED CARD OF 'ostiarylaw15.RespSplits'. -/
def respSplitsCard : Claim7 := { stood := { row := respSplitsRow, standIns := [], harness := (true, "943b7e5e6c988817b5fb0c4e25fe76673e48efc62b8a3200cc9b6f0694dcc4de"), looks := true }, kinds := [], alts := [], laidByText := true, laidKinds := [.data, .data, .data, .data, .pinned], laidTests := true, laidLooks := .later }
def RespSplitsCardSaid : Prop := Claim7.holds Tryd.pinned (.plain (OpenSpec.ofChange respSplitsSpec)) respSplitsCard

/-- THE TIED CARD OF 'ostiarylaw15.RespPlain'. -/
def respPlainCard : Claim7 := { stood := { row := respPlainRow, standIns := [], harness := (true, "943b7e5e6c988817b5fb0c4e25fe76673e48efc62b8a3200cc9b6f0694dcc4de"), looks := true }, kinds := [], alts := [], laidByText := true, laidKinds := [.data, .data, .data, .data, .pinned], laidTests := true, laidLooks := .later }
def RespPlainCardSaid : Prop := Claim7.holds Tryd.pinned (.plain (OpenSpec.ofChange respPlainSpec)) respPlainCard

/-- THE TIED CARD OF 'ostiarylaw13.HeadParses'. -/
def headParsesCard : Claim7 := { stood := { row := headParsesRow, standIns := [], harness := (true, "943b7e5e6c988817b5fb0c4e25fe76673e48efc62b8a3200cc9b6f0694dcc4de"), looks := true }, kinds := [], alts := [], laidByText := true, laidKinds := [.data, .pinned], laidTests := true, laidLooks := .later }
def HeadParsesCardSaid : Prop := Claim7.holds Tryd.pinned (.plain (OpenSpec.ofChange headParsesSpec)) headParsesCard

/-- THE TIED CARD OF 'ostiarylaw13.HeadBlanks'. -/
def headBlanksCard : Claim7 := { stood := { row := headBlanksRow, standIns := [], harness := (true, "943b7e5e6c988817b5fb0c4e25fe76673e48efc62b8a3200cc9b6f0694dcc4de"), looks := true }, kinds := [], alts := [], laidByText := true, laidKinds := [.data, .data, .data, .data, .pinned], laidTests := true, laidLooks := .later }
def HeadBlanksCardSaid : Prop := Claim7.holds Tryd.pinned (.plain (OpenSpec.ofChange headBlanksSpec)) headBlanksCard

/-- THE SECOND FORM's CARD OF 'ostiarylaw16.DohAsks'. -/
def dohAsksUptoCard : Claim7 := { stood := { row := dohAsksUptoRow, standIns := [], harness := (true, "943b7e5e6c988817b5fb0c4e25fe76673e48efc62b8a3200cc9b6f0694dcc4de"), looks := true }, kinds := [], alts := [], laidByText := true, laidKinds := [.data, .pinned], laidTests := true, laidLooks := .later }
def DohAsksUptoCardSaid : Prop := Claim7.holds Tryd.pinned (.plain (OpenSpec.upto dohAsksSpec)) dohAsksUptoCard

/-- THE SECOND FORM's CARD OF 'ostiarylaw16.DohParts'. -/
def dohPartsUptoCard : Claim7 := { stood := { row := dohPartsUptoRow, standIns := [], harness := (true, "943b7e5e6c988817b5fb0c4e25fe76673e48efc62b8a3200cc9b6f0694dcc4de"), looks := true }, kinds := [], alts := [], laidByText := true, laidKinds := [.data, .pinned], laidTests := true, laidLooks := .later }
def DohPartsUptoCardSaid : Prop := Claim7.holds Tryd.pinned (.plain (OpenSpec.upto dohPartsSpec)) dohPartsUptoCard

/-- THE SECOND FORM's CARD OF 'ostiarylaw16.DohYoung'. -/
def dohYoungUptoCard : Claim7 := { stood := { row := dohYoungUptoRow, standIns := [], harness := (true, "943b7e5e6c988817b5fb0c4e25fe76673e48efc62b8a3200cc9b6f0694dcc4de"), looks := true }, kinds := [], alts := [], laidByText := true, laidKinds := [.data, .pinned], laidTests := true, laidLooks := .later }
def DohYoungUptoCardSaid : Prop := Claim7.holds Tryd.pinned (.plain (OpenSpec.upto dohYoungSpec)) dohYoungUptoCard

/-- THE SECOND FORM's CARD OF 'ostiarylaw15.RespWrites'. -/
def respWritesUptoCard : Claim7 := { stood := { row := respWritesUptoRow, standIns := [], harness := (true, "943b7e5e6c988817b5fb0c4e25fe76673e48efc62b8a3200cc9b6f0694dcc4de"), looks := true }, kinds := [], alts := [], laidByText := true, laidKinds := [.data, .data, .data, .data, .pinned], laidTests := true, laidLooks := .later }
def RespWritesUptoCardSaid : Prop := Claim7.holds Tryd.pinned (.plain (OpenSpec.upto respWritesSpec)) respWritesUptoCard

/-- THE SECOND FORM's CARD OF 'ostiarylaw15.RespSplits'. -/
def respSplitsUptoCard : Claim7 := { stood := { row := respSplitsUptoRow, standIns := [], harness := (true, "943b7e5e6c988817b5fb0c4e25fe76673e48efc62b8a3200cc9b6f0694dcc4de"), looks := true }, kinds := [], alts := [], laidByText := true, laidKinds := [.data, .data, .data, .data, .pinned], laidTests := true, laidLooks := .later }
def RespSplitsUptoCardSaid : Prop := Claim7.holds Tryd.pinned (.plain (OpenSpec.upto respSplitsSpec)) respSplitsUptoCard

/-- THE SECOND FORM's CARD OF 'ostiarylaw15.RespPlain'. -/
def respPlainUptoCard : Claim7 := { stood := { row := respPlainUptoRow, standIns := [], harness := (true, "943b7e5e6c988817b5fb0c4e25fe76673e48efc62b8a3200cc9b6f0694dcc4de"), looks := true }, kinds := [], alts := [], laidByText := true, laidKinds := [.data, .data, .data, .data, .pinned], laidTests := true, laidLooks := .later }
def RespPlainUptoCardSaid : Prop := Claim7.holds Tryd.pinned (.plain (OpenSpec.upto respPlainSpec)) respPlainUptoCard

/-- THE SECOND FORM's CARD OF 'ostiarylaw13.HeadParses'. -/
def headParsesUptoCard : Claim7 := { stood := { row := headParsesUptoRow, standIns := [], harness := (true, "943b7e5e6c988817b5fb0c4e25fe76673e48efc62b8a3200cc9b6f0694dcc4de"), looks := true }, kinds := [], alts := [], laidByText := true, laidKinds := [.data, .pinned], laidTests := true, laidLooks := .later }
def HeadParsesUptoCardSaid : Prop := Claim7.holds Tryd.pinned (.plain (OpenSpec.upto headParsesSpec)) headParsesUptoCard

/-- THE SECOND FORM's CARD OF 'ostiarylaw13.HeadBlanks'. -/
def headBlanksUptoCard : Claim7 := { stood := { row := headBlanksUptoRow, standIns := [], harness := (true, "943b7e5e6c988817b5fb0c4e25fe76673e48efc62b8a3200cc9b6f0694dcc4de"), looks := true }, kinds := [], alts := [], laidByText := true, laidKinds := [.data, .data, .data, .data, .pinned], laidTests := true, laidLooks := .later }
def HeadBlanksUptoCardSaid : Prop := Claim7.holds Tryd.pinned (.plain (OpenSpec.upto headBlanksSpec)) headBlanksUptoCard
end Rows
end Go.Proofs.YtnhpcpmgedjffaaDoor
