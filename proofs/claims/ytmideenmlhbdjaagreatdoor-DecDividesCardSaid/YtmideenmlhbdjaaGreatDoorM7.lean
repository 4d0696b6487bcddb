/- Texts joined: FactDecDivides. -/
import Derived.Test.YtmideenmlhbdjaaGreatDoorRows
import Derived.JoinedOf
set_option linter.unusedSimpArgs false
set_option linter.unusedVariables false
set_option linter.unusedSectionVars false
set_option maxRecDepth 100000
section
namespace Go.Proofs.YtmideenmlhbdjaaGreatDoor
open Go
theorem factsDecDivides:joinedFacts Tryz.checked.prog 16 Tryz.f16 Rows.decDividesSpec Rows.decDividesRow = true:=by kernel_rfl
end Go.Proofs.YtmideenmlhbdjaaGreatDoor
end
