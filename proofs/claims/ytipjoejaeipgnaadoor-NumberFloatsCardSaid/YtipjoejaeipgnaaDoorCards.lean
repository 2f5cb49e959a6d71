/-
  DERIVED. GIVEN WITH THE SEED: THE CARDS: each row of YtipjoejaeipgnaaDoorRows.lean that lists a variable, with what it lists TIED to the program's text (the seventh form; the later family's looks); each row that meets fmt, with fmt's text TOLD by the authors' own Lean function (tested against real Go, not proved from fmt's source: count such statements apart). THE CARD IS WHAT COUNTS. Prove the row's statement (the work); the ties are given (YtipjoejaeipgnaaDoorTie.lean); close each card by the builder's one call (the guide's Derived/Test/ToyasCard.lean, 'card_holds'). Laid BY PROGRAM, IN A SANDBOX (cutbox-door.mjs). By AI agents, Wed Nov 11 2026. No macro, syntax, notation, axiom, sorry.
-/
import Derived.Test.YtipjoejaeipgnaaDoorRows
import GoSem.ClaimSeven
namespace Go.Proofs.YtipjoejaeipgnaaDoor
namespace Rows

/-- THE TIED CARD OF 'parterrelaw02.NumberFloats'. -/
def numberFloatsCard : Claim7 := { stood := { row := numberFloatsRow, standIns := [], harness := (true, "c167b71de88b43815ba28b084f12484c76691461be81cdd94d9f156ffb9c1b91"), looks := false }, kinds := [], alts := [], laidByText := true, laidKinds := [.data, .data, .data], laidTests := true, laidLooks := .later }
def NumberFloatsCardSaid : Prop := Claim7.holds Tryd.pinned (.plain (OpenSpec.ofChange numberFloatsSpec)) numberFloatsCard

/-- THE TIED CARD OF 'parterrelaw02.NumberPixels'. -/
def numberPixelsCard : Claim7 := { stood := { row := numberPixelsRow, standIns := [], harness := (true, "c167b71de88b43815ba28b084f12484c76691461be81cdd94d9f156ffb9c1b91"), looks := false }, kinds := [], alts := [], laidByText := true, laidKinds := [.data, .data, .data], laidTests := true, laidLooks := .later }
def NumberPixelsCardSaid : Prop := Claim7.holds Tryd.pinned (.plain (OpenSpec.ofChange numberPixelsSpec)) numberPixelsCard

/-- THE SECOND FORM's CARD OF 'parterrelaw02.NumberFloats'. -/
def numberFloatsUptoCard : Claim7 := { stood := { row := numberFloatsUptoRow, standIns := [], harness := (true, "c167b71de88b43815ba28b084f12484c76691461be81cdd94d9f156ffb9c1b91"), looks := false }, kinds := [], alts := [], laidByText := true, laidKinds := [.data, .data, .data], laidTests := true, laidLooks := .later }
def NumberFloatsUptoCardSaid : Prop := Claim7.holds Tryd.pinned (.plain (OpenSpec.upto numberFloatsSpec)) numberFloatsUptoCard

/-- THE SECOND FORM's CARD OF 'parterrelaw02.NumberPixels'. -/
def numberPixelsUptoCard : Claim7 := { stood := { row := numberPixelsUptoRow, standIns := [], harness := (true, "c167b71de88b43815ba28b084f12484c76691461be81cdd94d9f156ffb9c1b91"), looks := false }, kinds := [], alts := [], laidByText := true, laidKinds := [.data, .data, .data], laidTests := true, laidLooks := .later }
def NumberPixelsUptoCardSaid : Prop := Claim7.holds Tryd.pinned (.plain (OpenSpec.upto numberPixelsSpec)) numberPixelsUptoCard
end Rows
end Go.Proofs.YtipjoejaeipgnaaDoor
