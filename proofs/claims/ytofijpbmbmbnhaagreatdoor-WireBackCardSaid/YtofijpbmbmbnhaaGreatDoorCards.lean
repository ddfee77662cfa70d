/-
  DERIVED. GIVEN WITH THE SEED: THE CARDS: each row of YtofijpbmbmbnhaaGreatDoorRows.lean that lists a variable, with what it lists TIED to the program's text (the seventh form; the later family's looks); each row that meets fmt, with fmt's text TOLD by the authors' own Lean function (tested against real Go, not proved from fmt's source: count such statements apart). THE CARD IS WHAT COUNTS. Prove the row's statement (the work); the ties are given (YtofijpbmbmbnhaaGreatDoorTie.lean); close each card by the builder's one call (the guide's Derived/Test/ToyasCard.lean, 'card_holds'). Laid BY PROGRAM, IN A SANDBOX (cutbox-door.mjs). By AI agents, Wed Nov 11 2026. No macro, syntax, notation, axiom, sorry.
-/
import Derived.Test.YtofijpbmbmbnhaaGreatDoorRows
import GoSem.ClaimSeven
namespace Go.Proofs.YtofijpbmbmbnhaaGreatDoor
namespace Rows

/-- THE TIED CARD OF 'hoarstonelaw02.WirePlaces'. -/
def wirePlacesCard : Claim7 := { stood := { row := wirePlacesRow, standIns := [], harness := (true, "32065c3aa73ec64e2b1ae14a05e05bfb57948738ff5578a3ca15a063491a5ed5"), looks := false }, kinds := [], alts := [], laidByText := true, laidKinds := [.data, .data, .data], laidTests := true, laidLooks := .later }
def WirePlacesCardSaid : Prop := Claim7.holds Tryz.pinned (.plain (OpenSpec.ofChange wirePlacesSpec)) wirePlacesCard

/-- THE TIED CARD OF 'hoarstonelaw02.WireBack'. -/
def wireBackCard : Claim7 := { stood := { row := wireBackRow, standIns := [], harness := (true, "32065c3aa73ec64e2b1ae14a05e05bfb57948738ff5578a3ca15a063491a5ed5"), looks := false }, kinds := [], alts := [], laidByText := true, laidKinds := [.data, .data, .data, .data, .data], laidTests := true, laidLooks := .later }
def WireBackCardSaid : Prop := Claim7.holds Tryz.pinned (.plain (OpenSpec.ofChange wireBackSpec)) wireBackCard

/-- THE TIED CARD OF 'hoarstonelaw02.WireWrites'. -/
def wireWritesCard : Claim7 := { stood := { row := wireWritesRow, standIns := [], harness := (true, "32065c3aa73ec64e2b1ae14a05e05bfb57948738ff5578a3ca15a063491a5ed5"), looks := false }, kinds := [], alts := [], laidByText := true, laidKinds := [.data, .data, .data, .data, .data], laidTests := true, laidLooks := .later }
def WireWritesCardSaid : Prop := Claim7.holds Tryz.pinned (.plain (OpenSpec.ofChange wireWritesSpec)) wireWritesCard

/-- THE SECOND FORM's CARD OF 'hoarstonelaw02.WirePlaces'. -/
def wirePlacesUptoCard : Claim7 := { stood := { row := wirePlacesUptoRow, standIns := [], harness := (true, "32065c3aa73ec64e2b1ae14a05e05bfb57948738ff5578a3ca15a063491a5ed5"), looks := false }, kinds := [], alts := [], laidByText := true, laidKinds := [.data, .data, .data], laidTests := true, laidLooks := .later }
def WirePlacesUptoCardSaid : Prop := Claim7.holds Tryz.pinned (.plain (OpenSpec.upto wirePlacesSpec)) wirePlacesUptoCard

/-- THE SECOND FORM's CARD OF 'hoarstonelaw02.WireBack'. -/
def wireBackUptoCard : Claim7 := { stood := { row := wireBackUptoRow, standIns := [], harness := (true, "32065c3aa73ec64e2b1ae14a05e05bfb57948738ff5578a3ca15a063491a5ed5"), looks := false }, kinds := [], alts := [], laidByText := true, laidKinds := [.data, .data, .data, .data, .data], laidTests := true, laidLooks := .later }
def WireBackUptoCardSaid : Prop := Claim7.holds Tryz.pinned (.plain (OpenSpec.upto wireBackSpec)) wireBackUptoCard

/-- THE SECOND FORM's CARD OF 'hoarstonelaw02.WireWrites'. -/
def wireWritesUptoCard : Claim7 := { stood := { row := wireWritesUptoRow, standIns := [], harness := (true, "32065c3aa73ec64e2b1ae14a05e05bfb57948738ff5578a3ca15a063491a5ed5"), looks := false }, kinds := [], alts := [], laidByText := true, laidKinds := [.data, .data, .data, .data, .data], laidTests := true, laidLooks := .later }
def WireWritesUptoCardSaid : Prop := Claim7.holds Tryz.pinned (.plain (OpenSpec.upto wireWritesSpec)) wireWritesUptoCard
end Rows
end Go.Proofs.YtofijpbmbmbnhaaGreatDoor
