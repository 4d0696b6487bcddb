/- Texts joined: FactDecSums. -/
import Derived.Test.YtmideenmlhbdjaaGreatDoorRows
import Derived.JoinedOf
set_option linter.unusedSimpArgs false
set_option linter.unusedVariables false
set_option linter.unusedSectionVars false
set_option maxRecDepth 100000
section
namespace Go.Proofs.YtmideenmlhbdjaaGreatDoor
open Go
theorem factsDecSums:joinedFacts Tryz.checked.prog 3 Tryz.f3 Rows.decSumsSpec Rows.decSumsRow = true:=by kernel_rfl
end Go.Proofs.YtmideenmlhbdjaaGreatDoor
end
