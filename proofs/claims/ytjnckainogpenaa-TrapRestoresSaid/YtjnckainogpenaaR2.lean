/- More readings of arguments. -/
import Derived.Test.YtjnckainogpenaaT32
import Derived.ChangeMaps5
set_option linter.unusedVariables false
set_option maxRecDepth 20000
namespace Go.Proofs.Ytjnckainogpenaa
open Go Q Go.RowKit Go.ChangeShapes Go.WideShapes
theorem stays9 : Stays Try.prog 9 := ⟨by kernel_rfl, of_decide_eq_true (by kernel_rfl)⟩
theorem stays4 : Stays Try.prog 4 := ⟨by kernel_rfl, of_decide_eq_true (by kernel_rfl)⟩
theorem stays3 : Stays Try.prog 3 := ⟨by kernel_rfl, of_decide_eq_true (by kernel_rfl)⟩
theorem stays28 : Stays Try.prog 28 := ⟨by kernel_rfl, of_decide_eq_true (by kernel_rfl)⟩
end Go.Proofs.Ytjnckainogpenaa
