/-
  DERIVED. GIVEN WITH THE SEED: THE CARDS: each row of YtofdhdafabmhmaaGreatDoorRows.lean that lists a variable, with what it lists TIED to the program's text (the seventh form; the later family's looks); each row that meets fmt, with fmt's text TOLD by the authors' own Lean function (tested against real Go, not proved from fmt's source: count such statements apart). THE CARD IS WHAT COUNTS. Prove the row's statement (the work); the ties are given (YtofdhdafabmhmaaGreatDoorTie.lean); close each card by the builder's one call (the guide's Derived/Test/ToyasCard.lean, 'card_holds'). Laid BY PROGRAM, IN A SANDBOX (cutbox-door.mjs). By AI agents, Wed Nov 11 2026. No macro, syntax, notation, axiom, sorry.
-/
import Derived.Test.YtofdhdafabmhmaaGreatDoorRows
import GoSem.ClaimSeven
namespace Go.Proofs.YtofdhdafabmhmaaGreatDoor
namespace Rows

/-- THE TIED CARD OF 'parterrelaw08.AreaTells'. -/
def areaTellsCard : Claim7 := { stood := { row := areaTellsRow, standIns := [], harness := (true, "ed6c712cf89fe9831285ffcf1b18c30bce0a72f15a9951867df5d8622f83f5d9"), looks := true }, kinds := [], alts := [], laidByText := true, laidKinds := [.data, .pinned], laidTests := true, laidLooks := .later }
def AreaTellsCardSaid : Prop := Claim7.holds Tryz.pinned (.plain (OpenSpec.ofChange areaTellsSpec)) areaTellsCard

/-- THE TIED CARD OF 'parterrelaw07.LineTells'. -/
def lineTellsCard : Claim7 := { stood := { row := lineTellsRow, standIns := [], harness := (true, "ed6c712cf89fe9831285ffcf1b18c30bce0a72f15a9951867df5d8622f83f5d9"), looks := true }, kinds := [], alts := [], laidByText := true, laidKinds := [.data, .data, .data], laidTests := true, laidLooks := .later }
def LineTellsCardSaid : Prop := Claim7.holds Tryz.pinned (.plain (OpenSpec.ofChange lineTellsSpec)) lineTellsCard

/-- THE SECOND FORM's CARD OF 'parterrelaw08.AreaTells'. -/
def areaTellsUptoCard : Claim7 := { stood := { row := areaTellsUptoRow, standIns := [], harness := (true, "ed6c712cf89fe9831285ffcf1b18c30bce0a72f15a9951867df5d8622f83f5d9"), looks := true }, kinds := [], alts := [], laidByText := true, laidKinds := [.data, .pinned], laidTests := true, laidLooks := .later }
def AreaTellsUptoCardSaid : Prop := Claim7.holds Tryz.pinned (.plain (OpenSpec.upto areaTellsSpec)) areaTellsUptoCard

/-- THE SECOND FORM's CARD OF 'parterrelaw07.LineTells'. -/
def lineTellsUptoCard : Claim7 := { stood := { row := lineTellsUptoRow, standIns := [], harness := (true, "ed6c712cf89fe9831285ffcf1b18c30bce0a72f15a9951867df5d8622f83f5d9"), looks := true }, kinds := [], alts := [], laidByText := true, laidKinds := [.data, .data, .data], laidTests := true, laidLooks := .later }
def LineTellsUptoCardSaid : Prop := Claim7.holds Tryz.pinned (.plain (OpenSpec.upto lineTellsSpec)) lineTellsUptoCard
end Rows
end Go.Proofs.YtofdhdafabmhmaaGreatDoor
