/- Texts joined: FactCodeChecks. -/
import Derived.Test.YtbeelfopmkbllaaGreatDoorRows
import Derived.JoinedOf
set_option linter.unusedSimpArgs false
set_option linter.unusedVariables false
set_option linter.unusedSectionVars false
section
/- CodeChecks: its closed fact. -/
set_option maxRecDepth 100000
namespace Go.Proofs.YtbeelfopmkbllaaGreatDoor
open Go
theorem factsCodeChecks : joinedFacts Tryz.checked.prog 3 Tryz.f3 Rows.codeChecksSpec Rows.codeChecksRow = true := by kernel_rfl
end Go.Proofs.YtbeelfopmkbllaaGreatDoor
end
