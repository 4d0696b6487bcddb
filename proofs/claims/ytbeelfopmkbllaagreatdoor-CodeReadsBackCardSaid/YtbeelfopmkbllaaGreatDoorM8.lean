/- Texts joined: FactCodeReadsBack. -/
import Derived.Test.YtbeelfopmkbllaaGreatDoorRows
import Derived.JoinedOf
set_option linter.unusedSimpArgs false
set_option linter.unusedVariables false
set_option linter.unusedSectionVars false
set_option maxRecDepth 100000
section
namespace Go.Proofs.YtbeelfopmkbllaaGreatDoor
open Go
theorem factsCodeReadsBack:joinedFacts Tryz.checked.prog 12 Tryz.f12 Rows.codeReadsBackSpec Rows.codeReadsBackRow = true:=by kernel_rfl
end Go.Proofs.YtbeelfopmkbllaaGreatDoor
end
