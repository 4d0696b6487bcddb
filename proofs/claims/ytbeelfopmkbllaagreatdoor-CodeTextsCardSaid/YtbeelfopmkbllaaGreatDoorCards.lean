/-
  DERIVED. GIVEN WITH THE SEED: THE CARDS: each row of YtbeelfopmkbllaaGreatDoorRows.lean that lists a variable, with what it lists TIED to the program's text (the seventh form; the later family's looks); each row that meets fmt, with fmt's text TOLD by the authors' own Lean function (tested against real Go, not proved from fmt's source: count such statements apart). THE CARD IS WHAT COUNTS. Prove the row's statement (the work); the ties are given (YtbeelfopmkbllaaGreatDoorTie.lean); close each card by the builder's one call (the guide's Derived/Test/ToyasCard.lean, 'card_holds'). Laid BY PROGRAM, IN A SANDBOX (cutbox-door.mjs). By AI agents, Wed Nov 11 2026. No macro, syntax, notation, axiom, sorry.
-/
import Derived.Test.YtbeelfopmkbllaaGreatDoorRows
import GoSem.ClaimSeven
namespace Go.Proofs.YtbeelfopmkbllaaGreatDoor
namespace Rows

/-- THE TIED CARD OF 'qanatlaw14.CodeChecks'. -/
def codeChecksCard : Claim7 := { stood := { row := codeChecksRow, standIns := [], harness := (true, "fb06c6ee1658d5ac94611b24a2592992a536552c992eca3134cbedc9f7efa084"), looks := true }, kinds := [], alts := [], laidByText := true, laidKinds := [.data, .data, .data, .data, .pinned], laidTests := true, laidLooks := .later }
def CodeChecksCardSaid : Prop := Claim7.holds Tryz.pinned (.plain (OpenSpec.ofChange codeChecksSpec)) codeChecksCard

/-- THE TIED CARD OF 'qanatlaw14.CodeEffects'. -/
def codeEffectsCard : Claim7 := { stood := { row := codeEffectsRow, standIns := [], harness := (true, "fb06c6ee1658d5ac94611b24a2592992a536552c992eca3134cbedc9f7efa084"), looks := true }, kinds := [], alts := [], laidByText := true, laidKinds := [.data, .data, .data, .data, .pinned], laidTests := true, laidLooks := .later }
def CodeEffectsCardSaid : Prop := Claim7.holds Tryz.pinned (.plain (OpenSpec.ofChange codeEffectsSpec)) codeEffectsCard

/-- THE TIED CARD OF 'qanatlaw14.CodeTrimmed'. -/
def codeTrimmedCard : Claim7 := { stood := { row := codeTrimmedRow, standIns := [], harness := (true, "fb06c6ee1658d5ac94611b24a2592992a536552c992eca3134cbedc9f7efa084"), looks := true }, kinds := [], alts := [], laidByText := true, laidKinds := [.data, .data, .data, .data, .pinned], laidTests := true, laidLooks := .later }
def CodeTrimmedCardSaid : Prop := Claim7.holds Tryz.pinned (.plain (OpenSpec.ofChange codeTrimmedSpec)) codeTrimmedCard

/-- THE TIED CARD OF 'qanatlaw14.CodeDeep'. -/
def codeDeepCard : Claim7 := { stood := { row := codeDeepRow, standIns := [], harness := (true, "fb06c6ee1658d5ac94611b24a2592992a536552c992eca3134cbedc9f7efa084"), looks := true }, kinds := [], alts := [], laidByText := true, laidKinds := [.data, .data, .data, .data, .pinned], laidTests := true, laidLooks := .later }
def CodeDeepCardSaid : Prop := Claim7.holds Tryz.pinned (.plain (OpenSpec.ofChange codeDeepSpec)) codeDeepCard

/-- THE TIED CARD OF 'qanatlaw14.CodeClosed'. -/
def codeClosedCard : Claim7 := { stood := { row := codeClosedRow, standIns := [], harness := (true, "fb06c6ee1658d5ac94611b24a2592992a536552c992eca3134cbedc9f7efa084"), looks := true }, kinds := [], alts := [], laidByText := true, laidKinds := [.data, .data, .data, .data, .pinned], laidTests := true, laidLooks := .later }
def CodeClosedCardSaid : Prop := Claim7.holds Tryz.pinned (.plain (OpenSpec.ofChange codeClosedSpec)) codeClosedCard

/-- THE TIED CARD OF 'qanatlaw14.CodeFlows'. -/
def codeFlowsCard : Claim7 := { stood := { row := codeFlowsRow, standIns := [], harness := (true, "fb06c6ee1658d5ac94611b24a2592992a536552c992eca3134cbedc9f7efa084"), looks := true }, kinds := [], alts := [], laidByText := true, laidKinds := [.data, .data, .data, .data, .pinned], laidTests := true, laidLooks := .later }
def CodeFlowsCardSaid : Prop := Claim7.holds Tryz.pinned (.plain (OpenSpec.ofChange codeFlowsSpec)) codeFlowsCard

/-- THE TIED CARD OF 'qanatlaw14.CodeTrims'. -/
def codeTrimsCard : Claim7 := { stood := { row := codeTrimsRow, standIns := [], harness := (true, "fb06c6ee1658d5ac94611b24a2592992a536552c992eca3134cbedc9f7efa084"), looks := true }, kinds := [], alts := [], laidByText := true, laidKinds := [.data, .data, .data, .data, .pinned], laidTests := true, laidLooks := .later }
def CodeTrimsCardSaid : Prop := Claim7.holds Tryz.pinned (.plain (OpenSpec.ofChange codeTrimsSpec)) codeTrimsCard

/-- THE TIED CARD OF 'qanatlaw14.CodeBytes'. -/
def codeBytesCard : Claim7 := { stood := { row := codeBytesRow, standIns := [], harness := (true, "fb06c6ee1658d5ac94611b24a2592992a536552c992eca3134cbedc9f7efa084"), looks := true }, kinds := [], alts := [], laidByText := true, laidKinds := [.data, .data, .data, .data, .pinned], laidTests := true, laidLooks := .later }
def CodeBytesCardSaid : Prop := Claim7.holds Tryz.pinned (.plain (OpenSpec.ofChange codeBytesSpec)) codeBytesCard

/-- THE TIED CARD OF 'qanatlaw14.CodeTexts'. -/
def codeTextsCard : Claim7 := { stood := { row := codeTextsRow, standIns := [], harness := (true, "fb06c6ee1658d5ac94611b24a2592992a536552c992eca3134cbedc9f7efa084"), looks := true }, kinds := [], alts := [], laidByText := true, laidKinds := [.data, .data, .data, .data, .sentinel, .sentinel, .pinned], laidTests := true, laidLooks := .later }
def CodeTextsCardSaid : Prop := Claim7.holds Tryz.pinned (.plain (OpenSpec.ofChange codeTextsSpec)) codeTextsCard

/-- THE TIED CARD OF 'qanatlaw14.CodeReadsBack'. -/
def codeReadsBackCard : Claim7 := { stood := { row := codeReadsBackRow, standIns := [], harness := (true, "fb06c6ee1658d5ac94611b24a2592992a536552c992eca3134cbedc9f7efa084"), looks := true }, kinds := [], alts := [], laidByText := true, laidKinds := [.data, .data, .data, .data, .sentinel, .sentinel, .pinned], laidTests := true, laidLooks := .later }
def CodeReadsBackCardSaid : Prop := Claim7.holds Tryz.pinned (.plain (OpenSpec.ofChange codeReadsBackSpec)) codeReadsBackCard

/-- THE SECOND FORM's CARD OF 'qanatlaw14.CodeChecks'. -/
def codeChecksUptoCard : Claim7 := { stood := { row := codeChecksUptoRow, standIns := [], harness := (true, "fb06c6ee1658d5ac94611b24a2592992a536552c992eca3134cbedc9f7efa084"), looks := true }, kinds := [], alts := [], laidByText := true, laidKinds := [.data, .data, .data, .data, .pinned], laidTests := true, laidLooks := .later }
def CodeChecksUptoCardSaid : Prop := Claim7.holds Tryz.pinned (.plain (OpenSpec.upto codeChecksSpec)) codeChecksUptoCard

/-- THE SECOND FORM's CARD OF 'qanatlaw14.CodeEffects'. -/
def codeEffectsUptoCard : Claim7 := { stood := { row := codeEffectsUptoRow, standIns := [], harness := (true, "fb06c6ee1658d5ac94611b24a2592992a536552c992eca3134cbedc9f7efa084"), looks := true }, kinds := [], alts := [], laidByText := true, laidKinds := [.data, .data, .data, .data, .pinned], laidTests := true, laidLooks := .later }
def CodeEffectsUptoCardSaid : Prop := Claim7.holds Tryz.pinned (.plain (OpenSpec.upto codeEffectsSpec)) codeEffectsUptoCard

/-- THE SECOND FORM's CARD OF 'qanatlaw14.CodeTrimmed'. -/
def codeTrimmedUptoCard : Claim7 := { stood := { row := codeTrimmedUptoRow, standIns := [], harness := (true, "fb06c6ee1658d5ac94611b24a2592992a536552c992eca3134cbedc9f7efa084"), looks := true }, kinds := [], alts := [], laidByText := true, laidKinds := [.data, .data, .data, .data, .pinned], laidTests := true, laidLooks := .later }
def CodeTrimmedUptoCardSaid : Prop := Claim7.holds Tryz.pinned (.plain (OpenSpec.upto codeTrimmedSpec)) codeTrimmedUptoCard

/-- THE SECOND FORM's CARD OF 'qanatlaw14.CodeDeep'. -/
def codeDeepUptoCard : Claim7 := { stood := { row := codeDeepUptoRow, standIns := [], harness := (true, "fb06c6ee1658d5ac94611b24a2592992a536552c992eca3134cbedc9f7efa084"), looks := true }, kinds := [], alts := [], laidByText := true, laidKinds := [.data, .data, .data, .data, .pinned], laidTests := true, laidLooks := .later }
def CodeDeepUptoCardSaid : Prop := Claim7.holds Tryz.pinned (.plain (OpenSpec.upto codeDeepSpec)) codeDeepUptoCard

/-- THE SECOND FORM's CARD OF 'qanatlaw14.CodeClosed'. -/
def codeClosedUptoCard : Claim7 := { stood := { row := codeClosedUptoRow, standIns := [], harness := (true, "fb06c6ee1658d5ac94611b24a2592992a536552c992eca3134cbedc9f7efa084"), looks := true }, kinds := [], alts := [], laidByText := true, laidKinds := [.data, .data, .data, .data, .pinned], laidTests := true, laidLooks := .later }
def CodeClosedUptoCardSaid : Prop := Claim7.holds Tryz.pinned (.plain (OpenSpec.upto codeClosedSpec)) codeClosedUptoCard

/-- THE SECOND FORM's CARD OF 'qanatlaw14.CodeFlows'. -/
def codeFlowsUptoCard : Claim7 := { stood := { row := codeFlowsUptoRow, standIns := [], harness := (true, "fb06c6ee1658d5ac94611b24a2592992a536552c992eca3134cbedc9f7efa084"), looks := true }, kinds := [], alts := [], laidByText := true, laidKinds := [.data, .data, .data, .data, .pinned], laidTests := true, laidLooks := .later }
def CodeFlowsUptoCardSaid : Prop := Claim7.holds Tryz.pinned (.plain (OpenSpec.upto codeFlowsSpec)) codeFlowsUptoCard

/-- THE SECOND FORM's CARD OF 'qanatlaw14.CodeTrims'. -/
def codeTrimsUptoCard : Claim7 := { stood := { row := codeTrimsUptoRow, standIns := [], harness := (true, "fb06c6ee1658d5ac94611b24a2592992a536552c992eca3134cbedc9f7efa084"), looks := true }, kinds := [], alts := [], laidByText := true, laidKinds := [.data, .data, .data, .data, .pinned], laidTests := true, laidLooks := .later }
def CodeTrimsUptoCardSaid : Prop := Claim7.holds Tryz.pinned (.plain (OpenSpec.upto codeTrimsSpec)) codeTrimsUptoCard

/-- THE SECOND FORM's CARD OF 'qanatlaw14.CodeBytes'. -/
def codeBytesUptoCard : Claim7 := { stood := { row := codeBytesUptoRow, standIns := [], harness := (true, "fb06c6ee1658d5ac94611b24a2592992a536552c992eca3134cbedc9f7efa084"), looks := true }, kinds := [], alts := [], laidByText := true, laidKinds := [.data, .data, .data, .data, .pinned], laidTests := true, laidLooks := .later }
def CodeBytesUptoCardSaid : Prop := Claim7.holds Tryz.pinned (.plain (OpenSpec.upto codeBytesSpec)) codeBytesUptoCard

/-- THE SECOND FORM's CARD OF 'qanatlaw14.CodeTexts'. -/
def codeTextsUptoCard : Claim7 := { stood := { row := codeTextsUptoRow, standIns := [], harness := (true, "fb06c6ee1658d5ac94611b24a2592992a536552c992eca3134cbedc9f7efa084"), looks := true }, kinds := [], alts := [], laidByText := true, laidKinds := [.data, .data, .data, .data, .sentinel, .sentinel, .pinned], laidTests := true, laidLooks := .later }
def CodeTextsUptoCardSaid : Prop := Claim7.holds Tryz.pinned (.plain (OpenSpec.upto codeTextsSpec)) codeTextsUptoCard

/-- THE SECOND FORM's CARD OF 'qanatlaw14.CodeReadsBack'. -/
def codeReadsBackUptoCard : Claim7 := { stood := { row := codeReadsBackUptoRow, standIns := [], harness := (true, "fb06c6ee1658d5ac94611b24a2592992a536552c992eca3134cbedc9f7efa084"), looks := true }, kinds := [], alts := [], laidByText := true, laidKinds := [.data, .data, .data, .data, .sentinel, .sentinel, .pinned], laidTests := true, laidLooks := .later }
def CodeReadsBackUptoCardSaid : Prop := Claim7.holds Tryz.pinned (.plain (OpenSpec.upto codeReadsBackSpec)) codeReadsBackUptoCard
end Rows
end Go.Proofs.YtbeelfopmkbllaaGreatDoor
