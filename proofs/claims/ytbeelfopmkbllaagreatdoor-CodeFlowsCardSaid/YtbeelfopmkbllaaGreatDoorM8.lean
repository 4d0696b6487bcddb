/- Texts joined: FactCodeFlows. -/
import Derived.Test.YtbeelfopmkbllaaGreatDoorRows
import Derived.JoinedOf
set_option linter.unusedSimpArgs false
set_option linter.unusedVariables false
set_option linter.unusedSectionVars false
set_option maxRecDepth 100000
section
namespace Go.Proofs.YtbeelfopmkbllaaGreatDoor
open Go
theorem factsCodeFlows : joinedFacts Tryz.checked.prog 8 Tryz.f8 Rows.codeFlowsSpec Rows.codeFlowsRow = true := by kernel_rfl
end Go.Proofs.YtbeelfopmkbllaaGreatDoor
end
