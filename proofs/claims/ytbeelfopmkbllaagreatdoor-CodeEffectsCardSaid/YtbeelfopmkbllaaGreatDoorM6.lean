/- Texts joined: FactCodeEffects. -/
import Derived.Test.YtbeelfopmkbllaaGreatDoorRows
import Derived.JoinedOf
set_option linter.unusedSimpArgs false
set_option linter.unusedVariables false
set_option linter.unusedSectionVars false
section
/- CodeEffects: its closed fact. -/
set_option maxRecDepth 100000
namespace Go.Proofs.YtbeelfopmkbllaaGreatDoor
open Go
theorem factsCodeEffects : joinedFacts Tryz.checked.prog 4 Tryz.f4 Rows.codeEffectsSpec Rows.codeEffectsRow = true := by kernel_rfl
end Go.Proofs.YtbeelfopmkbllaaGreatDoor
end
