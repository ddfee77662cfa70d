/-
  DERIVED. GIVEN WITH THE SEED: THE CARDS: each row of YtofijpbmbmbnhaaDoorRows.lean that lists a variable, with what it lists TIED to the program's text (the seventh form; the later family's looks); each row that meets fmt, with fmt's text TOLD by the authors' own Lean function (tested against real Go, not proved from fmt's source: count such statements apart). THE CARD IS WHAT COUNTS. Prove the row's statement (the work); the ties are given (YtofijpbmbmbnhaaDoorTie.lean); close each card by the builder's one call (the guide's Derived/Test/ToyasCard.lean, 'card_holds'). Laid BY PROGRAM, IN A SANDBOX (cutbox-door.mjs). By AI agents, Wed Nov 11 2026. No macro, syntax, notation, axiom, sorry.
-/
import Derived.Test.YtofijpbmbmbnhaaDoorRows
import GoSem.ClaimSeven
namespace Go.Proofs.YtofijpbmbmbnhaaDoor
namespace Rows

/-- THE TIED CARD OF 'hoarstonelaw02.WireParses'. -/
def wireParsesCard : Claim7 := { stood := { row := wireParsesRow, standIns := [], harness := (true, "dd39aefdd4fbebabeb528789cffc35ebda988315da12ef43dfd83f580aae36d8"), looks := false }, kinds := [], alts := [], laidByText := true, laidKinds := [.data, .data, .data], laidTests := true, laidLooks := .later }
def WireParsesCardSaid : Prop := Claim7.holds Tryd.pinned (.plain (OpenSpec.ofChange wireParsesSpec)) wireParsesCard

/-- THE TIED CARD OF 'hoarstonelaw02.WireReads'. -/
def wireReadsCard : Claim7 := { stood := { row := wireReadsRow, standIns := [], harness := (true, "dd39aefdd4fbebabeb528789cffc35ebda988315da12ef43dfd83f580aae36d8"), looks := false }, kinds := [], alts := [], laidByText := true, laidKinds := [.data, .data, .data], laidTests := true, laidLooks := .later }
def WireReadsCardSaid : Prop := Claim7.holds Tryd.pinned (.plain (OpenSpec.ofChange wireReadsSpec)) wireReadsCard

/-- THE TIED CARD OF 'hoarstonelaw02.WireOnce'. -/
def wireOnceCard : Claim7 := { stood := { row := wireOnceRow, standIns := [], harness := (true, "dd39aefdd4fbebabeb528789cffc35ebda988315da12ef43dfd83f580aae36d8"), looks := false }, kinds := [], alts := [], laidByText := true, laidKinds := [.data, .data, .data], laidTests := true, laidLooks := .later }
def WireOnceCardSaid : Prop := Claim7.holds Tryd.pinned (.plain (OpenSpec.ofChange wireOnceSpec)) wireOnceCard

/-- THE TIED CARD OF 'hoarstonelaw02.WireOrder'. -/
def wireOrderCard : Claim7 := { stood := { row := wireOrderRow, standIns := [], harness := (true, "dd39aefdd4fbebabeb528789cffc35ebda988315da12ef43dfd83f580aae36d8"), looks := false }, kinds := [], alts := [], laidByText := true, laidKinds := [.data, .data, .data], laidTests := true, laidLooks := .later }
def WireOrderCardSaid : Prop := Claim7.holds Tryd.pinned (.plain (OpenSpec.ofChange wireOrderSpec)) wireOrderCard

/-- THE TIED CARD OF 'hoarstonelaw02.WireChecks'. -/
def wireChecksCard : Claim7 := { stood := { row := wireChecksRow, standIns := [], harness := (true, "dd39aefdd4fbebabeb528789cffc35ebda988315da12ef43dfd83f580aae36d8"), looks := false }, kinds := [], alts := [], laidByText := true, laidKinds := [.data, .data, .data], laidTests := true, laidLooks := .later }
def WireChecksCardSaid : Prop := Claim7.holds Tryd.pinned (.plain (OpenSpec.ofChange wireChecksSpec)) wireChecksCard

/-- THE TIED CARD OF 'hoarstonelaw02.WireStreams'. -/
def wireStreamsCard : Claim7 := { stood := { row := wireStreamsRow, standIns := [], harness := (true, "dd39aefdd4fbebabeb528789cffc35ebda988315da12ef43dfd83f580aae36d8"), looks := false }, kinds := [], alts := [], laidByText := true, laidKinds := [.data, .data, .data], laidTests := true, laidLooks := .later }
def WireStreamsCardSaid : Prop := Claim7.holds Tryd.pinned (.plain (OpenSpec.ofChange wireStreamsSpec)) wireStreamsCard

/-- THE TIED CARD OF 'hoarstonelaw02.WirePuts'. -/
def wirePutsCard : Claim7 := { stood := { row := wirePutsRow, standIns := [], harness := (true, "dd39aefdd4fbebabeb528789cffc35ebda988315da12ef43dfd83f580aae36d8"), looks := false }, kinds := [], alts := [], laidByText := true, laidKinds := [.data, .data, .data], laidTests := true, laidLooks := .later }
def WirePutsCardSaid : Prop := Claim7.holds Tryd.pinned (.plain (OpenSpec.ofChange wirePutsSpec)) wirePutsCard

/-- THE TIED CARD OF 'hoarstonelaw02.WireLimits'. -/
def wireLimitsCard : Claim7 := { stood := { row := wireLimitsRow, standIns := [], harness := (true, "dd39aefdd4fbebabeb528789cffc35ebda988315da12ef43dfd83f580aae36d8"), looks := false }, kinds := [], alts := [], laidByText := true, laidKinds := [.data, .data, .data], laidTests := true, laidLooks := .later }
def WireLimitsCardSaid : Prop := Claim7.holds Tryd.pinned (.plain (OpenSpec.ofChange wireLimitsSpec)) wireLimitsCard

/-- THE SECOND FORM's CARD OF 'hoarstonelaw02.WireParses'. -/
def wireParsesUptoCard : Claim7 := { stood := { row := wireParsesUptoRow, standIns := [], harness := (true, "dd39aefdd4fbebabeb528789cffc35ebda988315da12ef43dfd83f580aae36d8"), looks := false }, kinds := [], alts := [], laidByText := true, laidKinds := [.data, .data, .data], laidTests := true, laidLooks := .later }
def WireParsesUptoCardSaid : Prop := Claim7.holds Tryd.pinned (.plain (OpenSpec.upto wireParsesSpec)) wireParsesUptoCard

/-- THE SECOND FORM's CARD OF 'hoarstonelaw02.WireReads'. -/
def wireReadsUptoCard : Claim7 := { stood := { row := wireReadsUptoRow, standIns := [], harness := (true, "dd39aefdd4fbebabeb528789cffc35ebda988315da12ef43dfd83f580aae36d8"), looks := false }, kinds := [], alts := [], laidByText := true, laidKinds := [.data, .data, .data], laidTests := true, laidLooks := .later }
def WireReadsUptoCardSaid : Prop := Claim7.holds Tryd.pinned (.plain (OpenSpec.upto wireReadsSpec)) wireReadsUptoCard

/-- THE SECOND FORM's CARD OF 'hoarstonelaw02.WireOnce'. -/
def wireOnceUptoCard : Claim7 := { stood := { row := wireOnceUptoRow, standIns := [], harness := (true, "dd39aefdd4fbebabeb528789cffc35ebda988315da12ef43dfd83f580aae36d8"), looks := false }, kinds := [], alts := [], laidByText := true, laidKinds := [.data, .data, .data], laidTests := true, laidLooks := .later }
def WireOnceUptoCardSaid : Prop := Claim7.holds Tryd.pinned (.plain (OpenSpec.upto wireOnceSpec)) wireOnceUptoCard

/-- THE SECOND FORM's CARD OF 'hoarstonelaw02.WireOrder'. -/
def wireOrderUptoCard : Claim7 := { stood := { row := wireOrderUptoRow, standIns := [], harness := (true, "dd39aefdd4fbebabeb528789cffc35ebda988315da12ef43dfd83f580aae36d8"), looks := false }, kinds := [], alts := [], laidByText := true, laidKinds := [.data, .data, .data], laidTests := true, laidLooks := .later }
def WireOrderUptoCardSaid : Prop := Claim7.holds Tryd.pinned (.plain (OpenSpec.upto wireOrderSpec)) wireOrderUptoCard

/-- THE SECOND FORM's CARD OF 'hoarstonelaw02.WireChecks'. -/
def wireChecksUptoCard : Claim7 := { stood := { row := wireChecksUptoRow, standIns := [], harness := (true, "dd39aefdd4fbebabeb528789cffc35ebda988315da12ef43dfd83f580aae36d8"), looks := false }, kinds := [], alts := [], laidByText := true, laidKinds := [.data, .data, .data], laidTests := true, laidLooks := .later }
def WireChecksUptoCardSaid : Prop := Claim7.holds Tryd.pinned (.plain (OpenSpec.upto wireChecksSpec)) wireChecksUptoCard

/-- THE SECOND FORM's CARD OF 'hoarstonelaw02.WireStreams'. -/
def wireStreamsUptoCard : Claim7 := { stood := { row := wireStreamsUptoRow, standIns := [], harness := (true, "dd39aefdd4fbebabeb528789cffc35ebda988315da12ef43dfd83f580aae36d8"), looks := false }, kinds := [], alts := [], laidByText := true, laidKinds := [.data, .data, .data], laidTests := true, laidLooks := .later }
def WireStreamsUptoCardSaid : Prop := Claim7.holds Tryd.pinned (.plain (OpenSpec.upto wireStreamsSpec)) wireStreamsUptoCard

/-- THE SECOND FORM's CARD OF 'hoarstonelaw02.WirePuts'. -/
def wirePutsUptoCard : Claim7 := { stood := { row := wirePutsUptoRow, standIns := [], harness := (true, "dd39aefdd4fbebabeb528789cffc35ebda988315da12ef43dfd83f580aae36d8"), looks := false }, kinds := [], alts := [], laidByText := true, laidKinds := [.data, .data, .data], laidTests := true, laidLooks := .later }
def WirePutsUptoCardSaid : Prop := Claim7.holds Tryd.pinned (.plain (OpenSpec.upto wirePutsSpec)) wirePutsUptoCard

/-- THE SECOND FORM's CARD OF 'hoarstonelaw02.WireLimits'. -/
def wireLimitsUptoCard : Claim7 := { stood := { row := wireLimitsUptoRow, standIns := [], harness := (true, "dd39aefdd4fbebabeb528789cffc35ebda988315da12ef43dfd83f580aae36d8"), looks := false }, kinds := [], alts := [], laidByText := true, laidKinds := [.data, .data, .data], laidTests := true, laidLooks := .later }
def WireLimitsUptoCardSaid : Prop := Claim7.holds Tryd.pinned (.plain (OpenSpec.upto wireLimitsSpec)) wireLimitsUptoCard
end Rows
end Go.Proofs.YtofijpbmbmbnhaaDoor
