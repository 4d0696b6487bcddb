/- Texts joined: FactCodeTrimmed. -/
import Derived.Test.YtbeelfopmkbllaaGreatDoorRows
import Derived.JoinedOf
set_option linter.unusedSimpArgs false
set_option linter.unusedVariables false
set_option linter.unusedSectionVars false
set_option maxRecDepth 100000
section
namespace Go.Proofs.YtbeelfopmkbllaaGreatDoor
open Go
theorem factsCodeTrimmed : joinedFacts Tryz.checked.prog 5 Tryz.f5 Rows.codeTrimmedSpec Rows.codeTrimmedRow = true := by kernel_rfl
end Go.Proofs.YtbeelfopmkbllaaGreatDoor
end
