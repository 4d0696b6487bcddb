/- Short names for the operations of the formulas, at this program. -/
import Derived.Test.YtjnckainogpenaaQ5
import Derived.Test.YtjnckainogpenaaProg
set_option linter.unusedVariables false
namespace Go.Proofs.Ytjnckainogpenaa
open Go Q
abbrev al (t : TypeId) : Sem Value := Instr.alloc t true (.tuple #[])
abbrev bx := Instr.box
abbrev bd := Instr.build
abbrev bs := Instr.buildSlice
abbrev ld := Instr.loadAt
abbrev st := Instr.storeAt
abbrev bi := Go.binOp
def eq (op : BinOp) (t : TypeId) (x y : Operand) (a b : Value) : Sem Value := do eqGuard op t x y a b; Go.binOp op t a b
abbrev un := Op.unary
abbrev cv := Go.convert
abbrev mi := Instr.makeInterface
abbrev mm := Instr.makeMap
abbrev ms := Instr.makeSlice
abbrev sl := Instr.sliceAt
abbrev fa := Instr.fieldAt
abbrev fl := Instr.field
abbrev ia := Instr.indexAt
abbrev ix := Instr.index
abbrev lk := Instr.lookup
abbrev me := Instr.mapEntry
abbrev mu := Instr.mapUpdate
abbrev es := Instr.entryStore
abbrev rg := Instr.range
abbrev nx := Instr.next
abbrev en := Instr.entry
abbrev ta := Instr.typeAssert
abbrev ex := Instr.extract
abbrev V := Sv Try.prog
abbrev U := Su Try.prog
abbrev CV := CallV Try.prog
abbrev CE := CallE Try.prog
abbrev CW := CellW Try.prog
abbrev PV := Pv Try.prog
abbrev HV := Hv Try.prog
abbrev RunIs (s : Sem Value) (w : World) (v : Value) : Prop := s.run Try.prog w = .ok v w
abbrev Take1 (r : Nat) (w : World) (K : World → Prop) : Prop := w.heap[r]? = some (.deferred (some [])) ∧ K (putR w r (.deferred none))
theorem mixed : Try.prog.follows .mixedOrders = true := by kernel_rfl
end Go.Proofs.Ytjnckainogpenaa
