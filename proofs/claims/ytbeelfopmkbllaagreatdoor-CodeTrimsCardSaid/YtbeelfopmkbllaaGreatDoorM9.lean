/- Texts joined: FactCodeTrims. -/
import Derived.Test.YtbeelfopmkbllaaGreatDoorRows
import Derived.JoinedOf
set_option linter.unusedSimpArgs false
set_option linter.unusedVariables false
set_option linter.unusedSectionVars false
set_option maxRecDepth 100000
section
namespace Go.Proofs.YtbeelfopmkbllaaGreatDoor
open Go
theorem factsCodeTrims:joinedFacts Tryz.checked.prog 9 Tryz.f9 Rows.codeTrimsSpec Rows.codeTrimsRow = true:=by kernel_rfl
end Go.Proofs.YtbeelfopmkbllaaGreatDoor
end
