/-
  DERIVED. GIVEN WITH THE SEED: THE CARDS: each row of YtfccpnpocfjbcaaDoorRows.lean that lists a variable, with what it lists TIED to the program's text (the seventh form; the later family's looks); each row that meets fmt, with fmt's text TOLD by the authors' own Lean function (tested against real Go, not proved from fmt's source: count such statements apart). THE CARD IS WHAT COUNTS. Prove the row's statement (the work); the ties are given (YtfccpnpocfjbcaaDoorTie.lean); close each card by the builder's one call (the guide's Derived/Test/ToyasCard.lean, 'card_holds'). Laid BY PROGRAM, IN A SANDBOX (cutbox-door.mjs). By AI agents, Wed Nov 11 2026. No macro, syntax, notation, axiom, sorry.
-/
import Derived.Test.YtfccpnpocfjbcaaDoorRows
import GoSem.ClaimSeven
namespace Go.Proofs.YtfccpnpocfjbcaaDoor
namespace Rows

/-- THE TIED CARD OF 'parterrelaw02.NumberScans'. -/
def numberScansCard : Claim7 := { stood := { row := numberScansRow, standIns := [], harness := (true, "561d7e5470f80f007a2f570077ded29425bd5282b99205fd5ed92221a3b18816"), looks := false }, kinds := [], alts := [], laidByText := true, laidKinds := [.data, .data, .data], laidTests := true, laidLooks := .later }
def NumberScansCardSaid : Prop := Claim7.holds Tryd.pinned (.plain (OpenSpec.ofChange numberScansSpec)) numberScansCard

/-- THE TIED CARD OF 'parterrelaw02.NumberValues'. -/
def numberValuesCard : Claim7 := { stood := { row := numberValuesRow, standIns := [], harness := (true, "561d7e5470f80f007a2f570077ded29425bd5282b99205fd5ed92221a3b18816"), looks := false }, kinds := [], alts := [], laidByText := true, laidKinds := [.data, .data, .data], laidTests := true, laidLooks := .later }
def NumberValuesCardSaid : Prop := Claim7.holds Tryd.pinned (.plain (OpenSpec.ofChange numberValuesSpec)) numberValuesCard

/-- THE TIED CARD OF 'parterrelaw02.NumberTexts'. -/
def numberTextsCard : Claim7 := { stood := { row := numberTextsRow, standIns := [], harness := (true, "561d7e5470f80f007a2f570077ded29425bd5282b99205fd5ed92221a3b18816"), looks := false }, kinds := [], alts := [], laidByText := true, laidKinds := [.data, .data, .data], laidTests := true, laidLooks := .later }
def NumberTextsCardSaid : Prop := Claim7.holds Tryd.pinned (.plain (OpenSpec.ofChange numberTextsSpec)) numberTextsCard

/-- THE TIED CARD OF 'parterrelaw02.NumberBack'. -/
def numberBackCard : Claim7 := { stood := { row := numberBackRow, standIns := [], harness := (true, "561d7e5470f80f007a2f570077ded29425bd5282b99205fd5ed92221a3b18816"), looks := false }, kinds := [], alts := [], laidByText := true, laidKinds := [.data, .data, .data], laidTests := true, laidLooks := .later }
def NumberBackCardSaid : Prop := Claim7.holds Tryd.pinned (.plain (OpenSpec.ofChange numberBackSpec)) numberBackCard

/-- THE TIED CARD OF 'parterrelaw02.NumberAlike'. -/
def numberAlikeCard : Claim7 := { stood := { row := numberAlikeRow, standIns := [], harness := (true, "561d7e5470f80f007a2f570077ded29425bd5282b99205fd5ed92221a3b18816"), looks := false }, kinds := [], alts := [], laidByText := true, laidKinds := [.data, .data, .data], laidTests := true, laidLooks := .later }
def NumberAlikeCardSaid : Prop := Claim7.holds Tryd.pinned (.plain (OpenSpec.ofChange numberAlikeSpec)) numberAlikeCard

/-- THE TIED CARD OF 'parterrelaw02.NumberFloats'. -/
def numberFloatsCard : Claim7 := { stood := { row := numberFloatsRow, standIns := [], harness := (true, "561d7e5470f80f007a2f570077ded29425bd5282b99205fd5ed92221a3b18816"), looks := false }, kinds := [], alts := [], laidByText := true, laidKinds := [.data, .data, .data], laidTests := true, laidLooks := .later }
def NumberFloatsCardSaid : Prop := Claim7.holds Tryd.pinned (.plain (OpenSpec.ofChange numberFloatsSpec)) numberFloatsCard

/-- THE TIED CARD OF 'parterrelaw02.NumberPixels'. -/
def numberPixelsCard : Claim7 := { stood := { row := numberPixelsRow, standIns := [], harness := (true, "561d7e5470f80f007a2f570077ded29425bd5282b99205fd5ed92221a3b18816"), looks := false }, kinds := [], alts := [], laidByText := true, laidKinds := [.data, .data, .data], laidTests := true, laidLooks := .later }
def NumberPixelsCardSaid : Prop := Claim7.holds Tryd.pinned (.plain (OpenSpec.ofChange numberPixelsSpec)) numberPixelsCard

/-- THE SECOND FORM's CARD OF 'parterrelaw02.NumberScans'. -/
def numberScansUptoCard : Claim7 := { stood := { row := numberScansUptoRow, standIns := [], harness := (true, "561d7e5470f80f007a2f570077ded29425bd5282b99205fd5ed92221a3b18816"), looks := false }, kinds := [], alts := [], laidByText := true, laidKinds := [.data, .data, .data], laidTests := true, laidLooks := .later }
def NumberScansUptoCardSaid : Prop := Claim7.holds Tryd.pinned (.plain (OpenSpec.upto numberScansSpec)) numberScansUptoCard

/-- THE SECOND FORM's CARD OF 'parterrelaw02.NumberValues'. -/
def numberValuesUptoCard : Claim7 := { stood := { row := numberValuesUptoRow, standIns := [], harness := (true, "561d7e5470f80f007a2f570077ded29425bd5282b99205fd5ed92221a3b18816"), looks := false }, kinds := [], alts := [], laidByText := true, laidKinds := [.data, .data, .data], laidTests := true, laidLooks := .later }
def NumberValuesUptoCardSaid : Prop := Claim7.holds Tryd.pinned (.plain (OpenSpec.upto numberValuesSpec)) numberValuesUptoCard

/-- THE SECOND FORM's CARD OF 'parterrelaw02.NumberTexts'. -/
def numberTextsUptoCard : Claim7 := { stood := { row := numberTextsUptoRow, standIns := [], harness := (true, "561d7e5470f80f007a2f570077ded29425bd5282b99205fd5ed92221a3b18816"), looks := false }, kinds := [], alts := [], laidByText := true, laidKinds := [.data, .data, .data], laidTests := true, laidLooks := .later }
def NumberTextsUptoCardSaid : Prop := Claim7.holds Tryd.pinned (.plain (OpenSpec.upto numberTextsSpec)) numberTextsUptoCard

/-- THE SECOND FORM's CARD OF 'parterrelaw02.NumberBack'. -/
def numberBackUptoCard : Claim7 := { stood := { row := numberBackUptoRow, standIns := [], harness := (true, "561d7e5470f80f007a2f570077ded29425bd5282b99205fd5ed92221a3b18816"), looks := false }, kinds := [], alts := [], laidByText := true, laidKinds := [.data, .data, .data], laidTests := true, laidLooks := .later }
def NumberBackUptoCardSaid : Prop := Claim7.holds Tryd.pinned (.plain (OpenSpec.upto numberBackSpec)) numberBackUptoCard

/-- THE SECOND FORM's CARD OF 'parterrelaw02.NumberAlike'. -/
def numberAlikeUptoCard : Claim7 := { stood := { row := numberAlikeUptoRow, standIns := [], harness := (true, "561d7e5470f80f007a2f570077ded29425bd5282b99205fd5ed92221a3b18816"), looks := false }, kinds := [], alts := [], laidByText := true, laidKinds := [.data, .data, .data], laidTests := true, laidLooks := .later }
def NumberAlikeUptoCardSaid : Prop := Claim7.holds Tryd.pinned (.plain (OpenSpec.upto numberAlikeSpec)) numberAlikeUptoCard

/-- THE SECOND FORM's CARD OF 'parterrelaw02.NumberFloats'. -/
def numberFloatsUptoCard : Claim7 := { stood := { row := numberFloatsUptoRow, standIns := [], harness := (true, "561d7e5470f80f007a2f570077ded29425bd5282b99205fd5ed92221a3b18816"), looks := false }, kinds := [], alts := [], laidByText := true, laidKinds := [.data, .data, .data], laidTests := true, laidLooks := .later }
def NumberFloatsUptoCardSaid : Prop := Claim7.holds Tryd.pinned (.plain (OpenSpec.upto numberFloatsSpec)) numberFloatsUptoCard

/-- THE SECOND FORM's CARD OF 'parterrelaw02.NumberPixels'. -/
def numberPixelsUptoCard : Claim7 := { stood := { row := numberPixelsUptoRow, standIns := [], harness := (true, "561d7e5470f80f007a2f570077ded29425bd5282b99205fd5ed92221a3b18816"), looks := false }, kinds := [], alts := [], laidByText := true, laidKinds := [.data, .data, .data], laidTests := true, laidLooks := .later }
def NumberPixelsUptoCardSaid : Prop := Claim7.holds Tryd.pinned (.plain (OpenSpec.upto numberPixelsSpec)) numberPixelsUptoCard
end Rows
end Go.Proofs.YtfccpnpocfjbcaaDoor
