/- Texts joined: FactDecPowers. -/
import Derived.Test.YtmideenmlhbdjaaGreatDoorRows
import Derived.JoinedOf
set_option linter.unusedSimpArgs false
set_option linter.unusedVariables false
set_option linter.unusedSectionVars false
set_option maxRecDepth 100000
section
namespace Go.Proofs.YtmideenmlhbdjaaGreatDoor
open Go
theorem factsDecPowers:joinedFacts Tryz.checked.prog 4 Tryz.f4 Rows.decPowersSpec Rows.decPowersRow = true:=by kernel_rfl
end Go.Proofs.YtmideenmlhbdjaaGreatDoor
end
