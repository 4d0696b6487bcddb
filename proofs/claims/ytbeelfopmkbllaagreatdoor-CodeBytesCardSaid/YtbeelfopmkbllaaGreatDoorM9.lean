/- Texts joined: FactCodeBytes. -/
import Derived.Test.YtbeelfopmkbllaaGreatDoorRows
import Derived.JoinedOf
set_option linter.unusedSimpArgs false
set_option linter.unusedVariables false
set_option linter.unusedSectionVars false
set_option maxRecDepth 100000
section
namespace Go.Proofs.YtbeelfopmkbllaaGreatDoor
open Go
theorem factsCodeBytes:joinedFacts Tryz.checked.prog 10 Tryz.f10 Rows.codeBytesSpec Rows.codeBytesRow = true:=by kernel_rfl
end Go.Proofs.YtbeelfopmkbllaaGreatDoor
end
