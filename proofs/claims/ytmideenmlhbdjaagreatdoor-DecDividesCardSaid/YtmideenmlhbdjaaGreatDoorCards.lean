/-
  DERIVED. GIVEN WITH THE SEED: THE CARDS: each row of YtmideenmlhbdjaaGreatDoorRows.lean that lists a variable, with what it lists TIED to the program's text (the seventh form; the later family's looks); each row that meets fmt, with fmt's text TOLD by the authors' own Lean function (tested against real Go, not proved from fmt's source: count such statements apart). THE CARD IS WHAT COUNTS. Prove the row's statement (the work); the ties are given (YtmideenmlhbdjaaGreatDoorTie.lean); close each card by the builder's one call (the guide's Derived/Test/ToyasCard.lean, 'card_holds'). Laid BY PROGRAM, IN A SANDBOX (cutbox-door.mjs). By AI agents, Wed Nov 11 2026. No macro, syntax, notation, axiom, sorry.
-/
import Derived.Test.YtmideenmlhbdjaaGreatDoorRows
import GoSem.ClaimSeven
namespace Go.Proofs.YtmideenmlhbdjaaGreatDoor
namespace Rows

/-- THE TIED CARD OF 'qanatlaw01.DecSums'. -/
def decSumsCard : Claim7 := { stood := { row := decSumsRow, standIns := [], harness := (true, "6e0145a44043110f7be860ec21712677296a6735bf66c84af778968315e2c2aa"), looks := true }, kinds := [], alts := [], laidByText := true, laidKinds := [.data, .data, .data, .data, .sentinel, .sentinel, .pinned], laidTests := true, laidLooks := .later }
def DecSumsCardSaid : Prop := Claim7.holds Tryz.pinned (.plain (OpenSpec.ofChange decSumsSpec)) decSumsCard

/-- THE TIED CARD OF 'qanatlaw01.DecPowers'. -/
def decPowersCard : Claim7 := { stood := { row := decPowersRow, standIns := [], harness := (true, "6e0145a44043110f7be860ec21712677296a6735bf66c84af778968315e2c2aa"), looks := true }, kinds := [], alts := [], laidByText := true, laidKinds := [.data, .data, .data, .data, .sentinel, .sentinel, .pinned], laidTests := true, laidLooks := .later }
def DecPowersCardSaid : Prop := Claim7.holds Tryz.pinned (.plain (OpenSpec.ofChange decPowersSpec)) decPowersCard

/-- THE TIED CARD OF 'qanatlaw01.DecCompares'. -/
def decComparesCard : Claim7 := { stood := { row := decComparesRow, standIns := [], harness := (true, "6e0145a44043110f7be860ec21712677296a6735bf66c84af778968315e2c2aa"), looks := true }, kinds := [], alts := [], laidByText := true, laidKinds := [.data, .data, .data, .data, .sentinel, .sentinel, .pinned], laidTests := true, laidLooks := .later }
def DecComparesCardSaid : Prop := Claim7.holds Tryz.pinned (.plain (OpenSpec.ofChange decComparesSpec)) decComparesCard

/-- THE TIED CARD OF 'qanatlaw01.DecReads'. -/
def decReadsCard : Claim7 := { stood := { row := decReadsRow, standIns := [], harness := (true, "6e0145a44043110f7be860ec21712677296a6735bf66c84af778968315e2c2aa"), looks := true }, kinds := [], alts := [], laidByText := true, laidKinds := [.data, .data, .data, .data, .sentinel, .sentinel, .pinned], laidTests := true, laidLooks := .later }
def DecReadsCardSaid : Prop := Claim7.holds Tryz.pinned (.plain (OpenSpec.ofChange decReadsSpec)) decReadsCard

/-- THE TIED CARD OF 'qanatlaw01.DecTells'. -/
def decTellsCard : Claim7 := { stood := { row := decTellsRow, standIns := [], harness := (true, "6e0145a44043110f7be860ec21712677296a6735bf66c84af778968315e2c2aa"), looks := true }, kinds := [], alts := [], laidByText := true, laidKinds := [.data, .data, .data, .data, .sentinel, .sentinel, .pinned], laidTests := true, laidLooks := .later }
def DecTellsCardSaid : Prop := Claim7.holds Tryz.pinned (.plain (OpenSpec.ofChange decTellsSpec)) decTellsCard

/-- THE TIED CARD OF 'qanatlaw01.DecRoundTrip'. -/
def decRoundTripCard : Claim7 := { stood := { row := decRoundTripRow, standIns := [], harness := (true, "6e0145a44043110f7be860ec21712677296a6735bf66c84af778968315e2c2aa"), looks := true }, kinds := [], alts := [], laidByText := true, laidKinds := [.data, .data, .data, .data, .sentinel, .sentinel, .pinned], laidTests := true, laidLooks := .later }
def DecRoundTripCardSaid : Prop := Claim7.holds Tryz.pinned (.plain (OpenSpec.ofChange decRoundTripSpec)) decRoundTripCard

/-- THE TIED CARD OF 'qanatlaw01.DecNearest'. -/
def decNearestCard : Claim7 := { stood := { row := decNearestRow, standIns := [], harness := (true, "6e0145a44043110f7be860ec21712677296a6735bf66c84af778968315e2c2aa"), looks := true }, kinds := [], alts := [], laidByText := true, laidKinds := [.data, .data, .data, .data, .sentinel, .sentinel, .pinned], laidTests := true, laidLooks := .later }
def DecNearestCardSaid : Prop := Claim7.holds Tryz.pinned (.plain (OpenSpec.ofChange decNearestSpec)) decNearestCard

/-- THE TIED CARD OF 'qanatlaw01.DecAlgebra'. -/
def decAlgebraCard : Claim7 := { stood := { row := decAlgebraRow, standIns := [], harness := (true, "6e0145a44043110f7be860ec21712677296a6735bf66c84af778968315e2c2aa"), looks := true }, kinds := [], alts := [], laidByText := true, laidKinds := [.data, .data, .data, .data, .sentinel, .sentinel, .pinned], laidTests := true, laidLooks := .later }
def DecAlgebraCardSaid : Prop := Claim7.holds Tryz.pinned (.plain (OpenSpec.ofChange decAlgebraSpec)) decAlgebraCard

/-- THE TIED CARD OF 'qanatlaw01.DecPowersAdd'. -/
def decPowersAddCard : Claim7 := { stood := { row := decPowersAddRow, standIns := [], harness := (true, "6e0145a44043110f7be860ec21712677296a6735bf66c84af778968315e2c2aa"), looks := true }, kinds := [], alts := [], laidByText := true, laidKinds := [.data, .data, .data, .data, .sentinel, .sentinel, .pinned], laidTests := true, laidLooks := .later }
def DecPowersAddCardSaid : Prop := Claim7.holds Tryz.pinned (.plain (OpenSpec.ofChange decPowersAddSpec)) decPowersAddCard

/-- THE TIED CARD OF 'qanatlaw01.DecOrder'. -/
def decOrderCard : Claim7 := { stood := { row := decOrderRow, standIns := [], harness := (true, "6e0145a44043110f7be860ec21712677296a6735bf66c84af778968315e2c2aa"), looks := true }, kinds := [], alts := [], laidByText := true, laidKinds := [.data, .data, .data, .data, .sentinel, .sentinel, .pinned], laidTests := true, laidLooks := .later }
def DecOrderCardSaid : Prop := Claim7.holds Tryz.pinned (.plain (OpenSpec.ofChange decOrderSpec)) decOrderCard

/-- THE TIED CARD OF 'qanatlaw01.DecOps'. -/
def decOpsCard : Claim7 := { stood := { row := decOpsRow, standIns := [], harness := (true, "6e0145a44043110f7be860ec21712677296a6735bf66c84af778968315e2c2aa"), looks := true }, kinds := [], alts := [], laidByText := true, laidKinds := [.data, .data, .data, .data, .sentinel, .sentinel, .pinned], laidTests := true, laidLooks := .later }
def DecOpsCardSaid : Prop := Claim7.holds Tryz.pinned (.plain (OpenSpec.ofChange decOpsSpec)) decOpsCard

/-- THE TIED CARD OF 'qanatlaw01.DecRounds'. -/
def decRoundsCard : Claim7 := { stood := { row := decRoundsRow, standIns := [], harness := (true, "6e0145a44043110f7be860ec21712677296a6735bf66c84af778968315e2c2aa"), looks := true }, kinds := [], alts := [], laidByText := true, laidKinds := [.data, .data, .data, .data, .sentinel, .sentinel, .pinned], laidTests := true, laidLooks := .later }
def DecRoundsCardSaid : Prop := Claim7.holds Tryz.pinned (.plain (OpenSpec.ofChange decRoundsSpec)) decRoundsCard

/-- THE TIED CARD OF 'qanatlaw01.DecQuotients'. -/
def decQuotientsCard : Claim7 := { stood := { row := decQuotientsRow, standIns := [], harness := (true, "6e0145a44043110f7be860ec21712677296a6735bf66c84af778968315e2c2aa"), looks := true }, kinds := [], alts := [], laidByText := true, laidKinds := [.data, .data, .data, .data, .sentinel, .sentinel, .pinned], laidTests := true, laidLooks := .later }
def DecQuotientsCardSaid : Prop := Claim7.holds Tryz.pinned (.plain (OpenSpec.ofChange decQuotientsSpec)) decQuotientsCard

/-- THE TIED CARD OF 'qanatlaw01.DecDivides'. -/
def decDividesCard : Claim7 := { stood := { row := decDividesRow, standIns := [], harness := (true, "6e0145a44043110f7be860ec21712677296a6735bf66c84af778968315e2c2aa"), looks := true }, kinds := [], alts := [], laidByText := true, laidKinds := [.data, .data, .data, .data, .sentinel, .sentinel, .pinned], laidTests := true, laidLooks := .later }
def DecDividesCardSaid : Prop := Claim7.holds Tryz.pinned (.plain (OpenSpec.ofChange decDividesSpec)) decDividesCard

/-- THE SECOND FORM's CARD OF 'qanatlaw01.DecSums'. -/
def decSumsUptoCard : Claim7 := { stood := { row := decSumsUptoRow, standIns := [], harness := (true, "6e0145a44043110f7be860ec21712677296a6735bf66c84af778968315e2c2aa"), looks := true }, kinds := [], alts := [], laidByText := true, laidKinds := [.data, .data, .data, .data, .sentinel, .sentinel, .pinned], laidTests := true, laidLooks := .later }
def DecSumsUptoCardSaid : Prop := Claim7.holds Tryz.pinned (.plain (OpenSpec.upto decSumsSpec)) decSumsUptoCard

/-- THE SECOND FORM's CARD OF 'qanatlaw01.DecPowers'. -/
def decPowersUptoCard : Claim7 := { stood := { row := decPowersUptoRow, standIns := [], harness := (true, "6e0145a44043110f7be860ec21712677296a6735bf66c84af778968315e2c2aa"), looks := true }, kinds := [], alts := [], laidByText := true, laidKinds := [.data, .data, .data, .data, .sentinel, .sentinel, .pinned], laidTests := true, laidLooks := .later }
def DecPowersUptoCardSaid : Prop := Claim7.holds Tryz.pinned (.plain (OpenSpec.upto decPowersSpec)) decPowersUptoCard

/-- THE SECOND FORM's CARD OF 'qanatlaw01.DecCompares'. -/
def decComparesUptoCard : Claim7 := { stood := { row := decComparesUptoRow, standIns := [], harness := (true, "6e0145a44043110f7be860ec21712677296a6735bf66c84af778968315e2c2aa"), looks := true }, kinds := [], alts := [], laidByText := true, laidKinds := [.data, .data, .data, .data, .sentinel, .sentinel, .pinned], laidTests := true, laidLooks := .later }
def DecComparesUptoCardSaid : Prop := Claim7.holds Tryz.pinned (.plain (OpenSpec.upto decComparesSpec)) decComparesUptoCard

/-- THE SECOND FORM's CARD OF 'qanatlaw01.DecReads'. -/
def decReadsUptoCard : Claim7 := { stood := { row := decReadsUptoRow, standIns := [], harness := (true, "6e0145a44043110f7be860ec21712677296a6735bf66c84af778968315e2c2aa"), looks := true }, kinds := [], alts := [], laidByText := true, laidKinds := [.data, .data, .data, .data, .sentinel, .sentinel, .pinned], laidTests := true, laidLooks := .later }
def DecReadsUptoCardSaid : Prop := Claim7.holds Tryz.pinned (.plain (OpenSpec.upto decReadsSpec)) decReadsUptoCard

/-- THE SECOND FORM's CARD OF 'qanatlaw01.DecTells'. -/
def decTellsUptoCard : Claim7 := { stood := { row := decTellsUptoRow, standIns := [], harness := (true, "6e0145a44043110f7be860ec21712677296a6735bf66c84af778968315e2c2aa"), looks := true }, kinds := [], alts := [], laidByText := true, laidKinds := [.data, .data, .data, .data, .sentinel, .sentinel, .pinned], laidTests := true, laidLooks := .later }
def DecTellsUptoCardSaid : Prop := Claim7.holds Tryz.pinned (.plain (OpenSpec.upto decTellsSpec)) decTellsUptoCard

/-- THE SECOND FORM's CARD OF 'qanatlaw01.DecRoundTrip'. -/
def decRoundTripUptoCard : Claim7 := { stood := { row := decRoundTripUptoRow, standIns := [], harness := (true, "6e0145a44043110f7be860ec21712677296a6735bf66c84af778968315e2c2aa"), looks := true }, kinds := [], alts := [], laidByText := true, laidKinds := [.data, .data, .data, .data, .sentinel, .sentinel, .pinned], laidTests := true, laidLooks := .later }
def DecRoundTripUptoCardSaid : Prop := Claim7.holds Tryz.pinned (.plain (OpenSpec.upto decRoundTripSpec)) decRoundTripUptoCard

/-- THE SECOND FORM's CARD OF 'qanatlaw01.DecNearest'. -/
def decNearestUptoCard : Claim7 := { stood := { row := decNearestUptoRow, standIns := [], harness := (true, "6e0145a44043110f7be860ec21712677296a6735bf66c84af778968315e2c2aa"), looks := true }, kinds := [], alts := [], laidByText := true, laidKinds := [.data, .data, .data, .data, .sentinel, .sentinel, .pinned], laidTests := true, laidLooks := .later }
def DecNearestUptoCardSaid : Prop := Claim7.holds Tryz.pinned (.plain (OpenSpec.upto decNearestSpec)) decNearestUptoCard

/-- THE SECOND FORM's CARD OF 'qanatlaw01.DecAlgebra'. -/
def decAlgebraUptoCard : Claim7 := { stood := { row := decAlgebraUptoRow, standIns := [], harness := (true, "6e0145a44043110f7be860ec21712677296a6735bf66c84af778968315e2c2aa"), looks := true }, kinds := [], alts := [], laidByText := true, laidKinds := [.data, .data, .data, .data, .sentinel, .sentinel, .pinned], laidTests := true, laidLooks := .later }
def DecAlgebraUptoCardSaid : Prop := Claim7.holds Tryz.pinned (.plain (OpenSpec.upto decAlgebraSpec)) decAlgebraUptoCard

/-- THE SECOND FORM's CARD OF 'qanatlaw01.DecPowersAdd'. -/
def decPowersAddUptoCard : Claim7 := { stood := { row := decPowersAddUptoRow, standIns := [], harness := (true, "6e0145a44043110f7be860ec21712677296a6735bf66c84af778968315e2c2aa"), looks := true }, kinds := [], alts := [], laidByText := true, laidKinds := [.data, .data, .data, .data, .sentinel, .sentinel, .pinned], laidTests := true, laidLooks := .later }
def DecPowersAddUptoCardSaid : Prop := Claim7.holds Tryz.pinned (.plain (OpenSpec.upto decPowersAddSpec)) decPowersAddUptoCard

/-- THE SECOND FORM's CARD OF 'qanatlaw01.DecOrder'. -/
def decOrderUptoCard : Claim7 := { stood := { row := decOrderUptoRow, standIns := [], harness := (true, "6e0145a44043110f7be860ec21712677296a6735bf66c84af778968315e2c2aa"), looks := true }, kinds := [], alts := [], laidByText := true, laidKinds := [.data, .data, .data, .data, .sentinel, .sentinel, .pinned], laidTests := true, laidLooks := .later }
def DecOrderUptoCardSaid : Prop := Claim7.holds Tryz.pinned (.plain (OpenSpec.upto decOrderSpec)) decOrderUptoCard

/-- THE SECOND FORM's CARD OF 'qanatlaw01.DecOps'. -/
def decOpsUptoCard : Claim7 := { stood := { row := decOpsUptoRow, standIns := [], harness := (true, "6e0145a44043110f7be860ec21712677296a6735bf66c84af778968315e2c2aa"), looks := true }, kinds := [], alts := [], laidByText := true, laidKinds := [.data, .data, .data, .data, .sentinel, .sentinel, .pinned], laidTests := true, laidLooks := .later }
def DecOpsUptoCardSaid : Prop := Claim7.holds Tryz.pinned (.plain (OpenSpec.upto decOpsSpec)) decOpsUptoCard

/-- THE SECOND FORM's CARD OF 'qanatlaw01.DecRounds'. -/
def decRoundsUptoCard : Claim7 := { stood := { row := decRoundsUptoRow, standIns := [], harness := (true, "6e0145a44043110f7be860ec21712677296a6735bf66c84af778968315e2c2aa"), looks := true }, kinds := [], alts := [], laidByText := true, laidKinds := [.data, .data, .data, .data, .sentinel, .sentinel, .pinned], laidTests := true, laidLooks := .later }
def DecRoundsUptoCardSaid : Prop := Claim7.holds Tryz.pinned (.plain (OpenSpec.upto decRoundsSpec)) decRoundsUptoCard

/-- THE SECOND FORM's CARD OF 'qanatlaw01.DecQuotients'. -/
def decQuotientsUptoCard : Claim7 := { stood := { row := decQuotientsUptoRow, standIns := [], harness := (true, "6e0145a44043110f7be860ec21712677296a6735bf66c84af778968315e2c2aa"), looks := true }, kinds := [], alts := [], laidByText := true, laidKinds := [.data, .data, .data, .data, .sentinel, .sentinel, .pinned], laidTests := true, laidLooks := .later }
def DecQuotientsUptoCardSaid : Prop := Claim7.holds Tryz.pinned (.plain (OpenSpec.upto decQuotientsSpec)) decQuotientsUptoCard

/-- THE SECOND FORM's CARD OF 'qanatlaw01.DecDivides'. -/
def decDividesUptoCard : Claim7 := { stood := { row := decDividesUptoRow, standIns := [], harness := (true, "6e0145a44043110f7be860ec21712677296a6735bf66c84af778968315e2c2aa"), looks := true }, kinds := [], alts := [], laidByText := true, laidKinds := [.data, .data, .data, .data, .sentinel, .sentinel, .pinned], laidTests := true, laidLooks := .later }
def DecDividesUptoCardSaid : Prop := Claim7.holds Tryz.pinned (.plain (OpenSpec.upto decDividesSpec)) decDividesUptoCard
end Rows
end Go.Proofs.YtmideenmlhbdjaaGreatDoor
