/- Texts joined: FactDecRoundTrip. -/
import Derived.Test.YtmideenmlhbdjaaGreatDoorRows
import Derived.JoinedOf
set_option linter.unusedSimpArgs false
set_option linter.unusedVariables false
set_option linter.unusedSectionVars false
set_option maxRecDepth 100000
section
namespace Go.Proofs.YtmideenmlhbdjaaGreatDoor
open Go
theorem factsDecRoundTrip:joinedFacts Tryz.checked.prog 8 Tryz.f8 Rows.decRoundTripSpec Rows.decRoundTripRow = true:=by kernel_rfl
end Go.Proofs.YtmideenmlhbdjaaGreatDoor
end
