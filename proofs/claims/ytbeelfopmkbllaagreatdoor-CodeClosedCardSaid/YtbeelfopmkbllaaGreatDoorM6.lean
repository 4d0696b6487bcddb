/- Texts joined: FactCodeClosed. -/
import Derived.Test.YtbeelfopmkbllaaGreatDoorRows
import Derived.JoinedOf
set_option linter.unusedSimpArgs false
set_option linter.unusedVariables false
set_option linter.unusedSectionVars false
section
/- CodeClosed: its closed fact. -/
set_option maxRecDepth 100000
namespace Go.Proofs.YtbeelfopmkbllaaGreatDoor
open Go
theorem factsCodeClosed : joinedFacts Tryz.checked.prog 7 Tryz.f7 Rows.codeClosedSpec Rows.codeClosedRow = true := by kernel_rfl
end Go.Proofs.YtbeelfopmkbllaaGreatDoor
end
