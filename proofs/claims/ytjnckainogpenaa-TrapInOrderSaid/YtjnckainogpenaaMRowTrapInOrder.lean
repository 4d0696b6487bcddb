/- The law TrapInOrder of package trap: conditions that are raised while their traps are on, not delayed and not pending are handled by EndClause in this order, behind those that were pending, until one is signalled; the traps of other conditions do not change. Proved for every list of operations and every list of conditions, without any condition. -/
import Derived.Test.YtjnckainogpenaaM5
import Derived.JoinedOf
set_option linter.unusedVariables false
set_option maxRecDepth 100000
namespace Go.Proofs.Ytjnckainogpenaa
open Go Q Go.RowKit Go.ChangeShapes Go.WideShapes Go.ChangeAt Go.ChangeMaps

namespace RowTrapInOrder
theorem func : Try.prog.funcs[7]? = some Try.f7 := by kernel_rfl
theorem params : Try.f7.params.toList = [22, 67] := by kernel_rfl
theorem contract (H : Type) (enc : TypeId × Value → H) (W : World) (base : Nat) (args : Array Value) (ds gs : List (DataW H)) (before : List MemPlace)
    (hval0 : ∀ (j : Nat) t v, Try.f7.params[j]? = some t → args[j]? = some v → Value.okWide Try.prog W .any base t v)
    (hW : DataW.Whole enc Try.prog Try.f7.params.toList Rows.trapInOrderSpec.vars false W args.toList ds gs before) :
    Calls Try.prog 7 args W fun e W' => ∃ v, e = .returned v ∧ Rows.trapInOrderSpec.post enc Try.prog Try.f7 false true false false W args v W' := by
  have hW' := hW
  obtain ⟨p, q, hA0, hV, rfl, hfz, _⟩ := hW
  have hA : DataW.TrodAll enc Try.prog W 0 (fun _ => true) true Try.f7.params.toList args.toList ds p := hA0
  rw [params] at hA
  obtain ⟨v0, vs0, d0, ds0, p0, q0, e0, rfl, rfl, h0, r0⟩ := trodAll_cons hA
  obtain ⟨v1, vs1, d1, ds1, p1, q1, e1, rfl, rfl, h1, r1⟩ := trodAll_cons r0
  obtain ⟨rfl, rfl, rfl⟩ := trodAll_nil r1
  obtain rfl : args = #[v0, v1] := by cases args; simp_all
  obtain ⟨rfl, rfl⟩ := trodVars_none hV
  have hpj : ∀ j : Nat, Try.f7.params[j]? = [22, 67][j]? := fun j => by rw [← params]; exact Array.getElem?_toList.symm
  obtain ⟨a0, len0, cap0, rfl⟩ := okWide_slice u22 (hval0 0 22 v0 (by rw [hpj]; rfl) rfl)
  obtain ⟨fuel0, hf0⟩ := h0
  obtain ⟨l0, hl0⟩ := ops_read (v := .slice a0 len0 cap0) (by simpa [Value.cells] using hf0)
  obtain ⟨a1, len1, cap1, rfl⟩ := okWide_slice u67 (hval0 1 67 v1 (by rw [hpj]; rfl) rfl)
  obtain ⟨fuel1, hf1⟩ := h1
  obtain ⟨l1, hl1⟩ := u8s_read (v := .slice a1 len1 cap1) (by simpa [Value.cells] using hf1)
  exact post_fn1 hW' (lawInOrder hl0 hl1) rfl (by rw [params]; exact List.forall_mem_cons.2 ⟨stays22, List.forall_mem_cons.2 ⟨stays67, fun _ h => by cases h⟩⟩) rfl rfl rfl rfl
theorem lifted (os : Os) (started : os.Started) (H : Type) (enc : TypeId × Value → H) :
    ReturnsInHanded {} Try.checked os 7 .any (Rows.trapInOrderSpec.pre6 enc Try.prog Try.f7 Rows.trapInOrderRow.domain false) (Rows.trapInOrderSpec.post enc Try.prog Try.f7 false true false false) := by
  refine returnsInHanded_of_change (C := Try.checked) (s := Rows.trapInOrderSpec) ownK started (by kernel_rfl) func
    (ChangeSpec.witness6 (enc := enc) (C := Try.checked) (s := Rows.trapInOrderSpec) false ⟨#[], #[.slice none 0 0, .slice none 0 0], []⟩ 8 (by kernel_rfl) (by kernel_rfl) (by kernel_rfl) (by kernel_rfl)) ?_
  intro W base args ds gs before hval hW _ _
  exact contract H enc W base args ds gs before hval hW
theorem holds : Rows.TrapInOrderSaid :=
  OpenClaim.holds_of_wide 7 Try.f7 rfl rfl rfl rfl rfl rfl rfl ⟨rfl, rfl, rfl, rfl, rfl⟩ rfl rfl rfl rfl rfl (by kernel_rfl) func (by kernel_rfl)
    (of_decide_eq_true (by kernel_rfl)) (by unfold Func.isWrapper; first | (rw [if_pos (by decide +kernel)]; kernel_rfl) | (rw [if_neg (by decide +kernel)]; exact ⟨rfl, rfl⟩))
    (fun os started H enc _ => lifted os started H enc)
end RowTrapInOrder
end Go.Proofs.Ytjnckainogpenaa
