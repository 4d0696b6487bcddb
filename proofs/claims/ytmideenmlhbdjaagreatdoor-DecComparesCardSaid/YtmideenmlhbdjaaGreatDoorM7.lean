/- Texts joined: FactDecCompares. -/
import Derived.Test.YtmideenmlhbdjaaGreatDoorRows
import Derived.JoinedOf
set_option linter.unusedSimpArgs false
set_option linter.unusedVariables false
set_option linter.unusedSectionVars false
set_option maxRecDepth 100000
section
namespace Go.Proofs.YtmideenmlhbdjaaGreatDoor
open Go
theorem factsDecCompares:joinedFacts Tryz.checked.prog 5 Tryz.f5 Rows.decComparesSpec Rows.decComparesRow = true:=by kernel_rfl
end Go.Proofs.YtmideenmlhbdjaaGreatDoor
end
