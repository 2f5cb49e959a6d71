/-
  DERIVED. GIVEN WITH THE SEED: THE CARDS: each row of YtofdhdafabmhmaaDoorRows.lean that lists a variable, with what it lists TIED to the program's text (the seventh form; the later family's looks); each row that meets fmt, with fmt's text TOLD by the authors' own Lean function (tested against real Go, not proved from fmt's source: count such statements apart). THE CARD IS WHAT COUNTS. Prove the row's statement (the work); the ties are given (YtofdhdafabmhmaaDoorTie.lean); close each card by the builder's one call (the guide's Derived/Test/ToyasCard.lean, 'card_holds'). Laid BY PROGRAM, IN A SANDBOX (cutbox-door.mjs). By AI agents, Wed Nov 11 2026. No macro, syntax, notation, axiom, sorry.
-/
import Derived.Test.YtofdhdafabmhmaaDoorRows
import GoSem.ClaimSeven
namespace Go.Proofs.YtofdhdafabmhmaaDoor
namespace Rows

/-- THE TIED CARD OF 'parterrelaw08.AreaCells'. -/
def areaCellsCard : Claim7 := { stood := { row := areaCellsRow, standIns := [], harness := (true, "337d80b408899af679114773d9a5a4e4cbe6b1166ff577fdd8390ef57ed50a1f"), looks := true }, kinds := [], alts := [], laidByText := true, laidKinds := [.data, .pinned], laidTests := true, laidLooks := .later }
def AreaCellsCardSaid : Prop := Claim7.holds Tryd.pinned (.plain (OpenSpec.ofChange areaCellsSpec)) areaCellsCard

/-- THE TIED CARD OF 'parterrelaw08.AreaApart'. -/
def areaApartCard : Claim7 := { stood := { row := areaApartRow, standIns := [], harness := (true, "337d80b408899af679114773d9a5a4e4cbe6b1166ff577fdd8390ef57ed50a1f"), looks := true }, kinds := [], alts := [], laidByText := true, laidKinds := [.data, .pinned], laidTests := true, laidLooks := .later }
def AreaApartCardSaid : Prop := Claim7.holds Tryd.pinned (.plain (OpenSpec.ofChange areaApartSpec)) areaApartCard

/-- THE TIED CARD OF 'parterrelaw08.AreaBack'. -/
def areaBackCard : Claim7 := { stood := { row := areaBackRow, standIns := [], harness := (true, "337d80b408899af679114773d9a5a4e4cbe6b1166ff577fdd8390ef57ed50a1f"), looks := true }, kinds := [], alts := [], laidByText := true, laidKinds := [.data, .pinned], laidTests := true, laidLooks := .later }
def AreaBackCardSaid : Prop := Claim7.holds Tryd.pinned (.plain (OpenSpec.ofChange areaBackSpec)) areaBackCard

/-- THE TIED CARD OF 'parterrelaw07.LineBack'. -/
def lineBackCard : Claim7 := { stood := { row := lineBackRow, standIns := [], harness := (true, "337d80b408899af679114773d9a5a4e4cbe6b1166ff577fdd8390ef57ed50a1f"), looks := true }, kinds := [], alts := [], laidByText := true, laidKinds := [.data, .data, .data], laidTests := true, laidLooks := .later }
def LineBackCardSaid : Prop := Claim7.holds Tryd.pinned (.plain (OpenSpec.ofChange lineBackSpec)) lineBackCard

/-- THE TIED CARD OF 'parterrelaw07.LineFours'. -/
def lineFoursCard : Claim7 := { stood := { row := lineFoursRow, standIns := [], harness := (true, "337d80b408899af679114773d9a5a4e4cbe6b1166ff577fdd8390ef57ed50a1f"), looks := true }, kinds := [], alts := [], laidByText := true, laidKinds := [.data, .data, .data], laidTests := true, laidLooks := .later }
def LineFoursCardSaid : Prop := Claim7.holds Tryd.pinned (.plain (OpenSpec.ofChange lineFoursSpec)) lineFoursCard

/-- THE SECOND FORM's CARD OF 'parterrelaw08.AreaCells'. -/
def areaCellsUptoCard : Claim7 := { stood := { row := areaCellsUptoRow, standIns := [], harness := (true, "337d80b408899af679114773d9a5a4e4cbe6b1166ff577fdd8390ef57ed50a1f"), looks := true }, kinds := [], alts := [], laidByText := true, laidKinds := [.data, .pinned], laidTests := true, laidLooks := .later }
def AreaCellsUptoCardSaid : Prop := Claim7.holds Tryd.pinned (.plain (OpenSpec.upto areaCellsSpec)) areaCellsUptoCard

/-- THE SECOND FORM's CARD OF 'parterrelaw08.AreaApart'. -/
def areaApartUptoCard : Claim7 := { stood := { row := areaApartUptoRow, standIns := [], harness := (true, "337d80b408899af679114773d9a5a4e4cbe6b1166ff577fdd8390ef57ed50a1f"), looks := true }, kinds := [], alts := [], laidByText := true, laidKinds := [.data, .pinned], laidTests := true, laidLooks := .later }
def AreaApartUptoCardSaid : Prop := Claim7.holds Tryd.pinned (.plain (OpenSpec.upto areaApartSpec)) areaApartUptoCard

/-- THE SECOND FORM's CARD OF 'parterrelaw08.AreaBack'. -/
def areaBackUptoCard : Claim7 := { stood := { row := areaBackUptoRow, standIns := [], harness := (true, "337d80b408899af679114773d9a5a4e4cbe6b1166ff577fdd8390ef57ed50a1f"), looks := true }, kinds := [], alts := [], laidByText := true, laidKinds := [.data, .pinned], laidTests := true, laidLooks := .later }
def AreaBackUptoCardSaid : Prop := Claim7.holds Tryd.pinned (.plain (OpenSpec.upto areaBackSpec)) areaBackUptoCard

/-- THE SECOND FORM's CARD OF 'parterrelaw07.LineBack'. -/
def lineBackUptoCard : Claim7 := { stood := { row := lineBackUptoRow, standIns := [], harness := (true, "337d80b408899af679114773d9a5a4e4cbe6b1166ff577fdd8390ef57ed50a1f"), looks := true }, kinds := [], alts := [], laidByText := true, laidKinds := [.data, .data, .data], laidTests := true, laidLooks := .later }
def LineBackUptoCardSaid : Prop := Claim7.holds Tryd.pinned (.plain (OpenSpec.upto lineBackSpec)) lineBackUptoCard

/-- THE SECOND FORM's CARD OF 'parterrelaw07.LineFours'. -/
def lineFoursUptoCard : Claim7 := { stood := { row := lineFoursUptoRow, standIns := [], harness := (true, "337d80b408899af679114773d9a5a4e4cbe6b1166ff577fdd8390ef57ed50a1f"), looks := true }, kinds := [], alts := [], laidByText := true, laidKinds := [.data, .data, .data], laidTests := true, laidLooks := .later }
def LineFoursUptoCardSaid : Prop := Claim7.holds Tryd.pinned (.plain (OpenSpec.upto lineFoursSpec)) lineFoursUptoCard
end Rows
end Go.Proofs.YtofdhdafabmhmaaDoor
