/- Texts joined: FactCodeDeep. -/
import Derived.Test.YtbeelfopmkbllaaGreatDoorRows
import Derived.JoinedOf
set_option linter.unusedSimpArgs false
set_option linter.unusedVariables false
set_option linter.unusedSectionVars false
section
/- CodeDeep: its closed fact. -/
set_option maxRecDepth 100000
namespace Go.Proofs.YtbeelfopmkbllaaGreatDoor
open Go
theorem factsCodeDeep : joinedFacts Tryz.checked.prog 6 Tryz.f6 Rows.codeDeepSpec Rows.codeDeepRow = true := by kernel_rfl
end Go.Proofs.YtbeelfopmkbllaaGreatDoor
end
