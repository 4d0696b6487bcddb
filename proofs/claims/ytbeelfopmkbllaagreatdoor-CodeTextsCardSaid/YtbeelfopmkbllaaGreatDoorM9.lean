/- Texts joined: FactCodeTexts. -/
import Derived.Test.YtbeelfopmkbllaaGreatDoorRows
import Derived.JoinedOf
set_option linter.unusedSimpArgs false
set_option linter.unusedVariables false
set_option linter.unusedSectionVars false
set_option maxRecDepth 100000
section
namespace Go.Proofs.YtbeelfopmkbllaaGreatDoor
open Go
namespace FactCodeTexts
theorem inPlace:(Rows.codeTextsRow.inPlace == Tryz.checked.prog.inPlace 11) = true:=by kernel_rfl
theorem unfollowed:(Rows.codeTextsRow.unfollowed == Tryz.checked.prog.unfollowed 11) = true:=by kernel_rfl
theorem recurses:(Rows.codeTextsRow.recurses == Tryz.checked.prog.recurses 11) = true:=by kernel_rfl
theorem named:(Rows.codeTextsRow.named == Tryz.checked.prog.varsNamed 11) = true:=by kernel_rfl
end FactCodeTexts
theorem qC:joinedFacts Tryz.checked.prog 11 Tryz.f11 Rows.codeTextsSpec Rows.codeTextsRow = true:=by
  unfold joinedFacts;rw [FactCodeTexts.inPlace,FactCodeTexts.unfollowed,FactCodeTexts.recurses,FactCodeTexts.named]
  kernel_rfl
end Go.Proofs.YtbeelfopmkbllaaGreatDoor
end
