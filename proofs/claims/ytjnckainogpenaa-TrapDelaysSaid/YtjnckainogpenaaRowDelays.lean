/- The law TrapDelays of package trap: if the end of a clause calls a handler, the condition is delayed in the handler: raising it there changes nothing; after the return the trap is as it was, and the condition can be raised again. Proved for every list of operations and every description, without any condition. -/
import Derived.Test.YtjnckainogpenaaR2
import Derived.Test.YtjnckainogpenaaT36
import Derived.JoinedOf
set_option linter.unusedVariables false
set_option maxRecDepth 100000
namespace Go.Proofs.Ytjnckainogpenaa
open Go Q Go.RowKit Go.ChangeShapes Go.WideShapes Go.ChangeAt Go.ChangeMaps

namespace RowTrapDelays
theorem func : Try.prog.funcs[8]? = some Try.f8 := by kernel_rfl
theorem params : Try.f8.params.toList = [22, 9] := by kernel_rfl
theorem contract (H : Type) (enc : TypeId × Value → H) (W : World) (base : Nat) (args : Array Value) (ds gs : List (DataW H)) (before : List MemPlace)
    (hval0 : ∀ (j : Nat) t v, Try.f8.params[j]? = some t → args[j]? = some v → Value.okWide Try.prog W .any base t v)
    (hW : DataW.Whole enc Try.prog Try.f8.params.toList Rows.trapDelaysSpec.vars false W args.toList ds gs before) :
    Calls Try.prog 8 args W fun e W' => ∃ v, e = .returned v ∧ Rows.trapDelaysSpec.post enc Try.prog Try.f8 false true false false W args v W' := by
  have hW' := hW
  obtain ⟨p, q, hA0, hV, rfl, hfz, _⟩ := hW
  have hA : DataW.TrodAll enc Try.prog W 0 (fun _ => true) true Try.f8.params.toList args.toList ds p := hA0
  rw [params] at hA
  obtain ⟨v0, vs0, d0, ds0, p0, q0, e0, rfl, rfl, h0, r0⟩ := trodAll_cons hA
  obtain ⟨v1, vs1, d1, ds1, p1, q1, e1, rfl, rfl, h1, r1⟩ := trodAll_cons r0
  obtain ⟨rfl, rfl, rfl⟩ := trodAll_nil r1
  obtain rfl : args = #[v0, v1] := by cases args; simp_all
  obtain ⟨rfl, rfl⟩ := trodVars_none hV
  have hpj : ∀ j : Nat, Try.f8.params[j]? = [22, 9][j]? := fun j => by rw [← params]; exact Array.getElem?_toList.symm
  obtain ⟨a0, len0, cap0, rfl⟩ := okWide_slice u22 (hval0 0 22 v0 (by rw [hpj]; rfl) rfl)
  obtain ⟨fuel0, hf0⟩ := h0
  obtain ⟨l0, hl0⟩ := ops_read (v := .slice a0 len0 cap0) (by simpa [Value.cells] using hf0)
  obtain ⟨s1, rfl, rfl, rfl, hs1⟩ := open_string u9 (hval0 1 9 v1 (by rw [hpj]; rfl) rfl) h1
  exact post_fn1 hW' (lawDelays hl0 hs1) rfl (by rw [params]; intro t ht; simp at ht; rcases ht with rfl | rfl; exact stays22; exact stays9) rfl rfl rfl rfl
theorem lifted (os : Os) (started : os.Started) (H : Type) (enc : TypeId × Value → H) :
    ReturnsInHanded {} Try.checked os 8 .any (Rows.trapDelaysSpec.pre6 enc Try.prog Try.f8 Rows.trapDelaysRow.domain false) (Rows.trapDelaysSpec.post enc Try.prog Try.f8 false true false false) := by
  refine returnsInHanded_of_change (C := Try.checked) (s := Rows.trapDelaysSpec) ownK started (by kernel_rfl) func
    (ChangeSpec.witness6 (enc := enc) (C := Try.checked) (s := Rows.trapDelaysSpec) false ⟨#[], #[.slice none 0 0, .string ⟨#[]⟩], []⟩ 8 (by kernel_rfl) (by kernel_rfl) (by kernel_rfl) (by kernel_rfl)) ?_
  intro W base args ds gs before hval hW _ _
  exact contract H enc W base args ds gs before hval hW
theorem holds : Rows.TrapDelaysSaid :=
  OpenClaim.holds_of_wide 8 Try.f8 rfl rfl rfl rfl rfl rfl rfl ⟨rfl, rfl, rfl, rfl, rfl⟩ rfl rfl rfl rfl rfl (by kernel_rfl) func (by kernel_rfl)
    (of_decide_eq_true (by kernel_rfl)) (by unfold Func.isWrapper; first | (rw [if_pos (by decide +kernel)]; kernel_rfl) | (rw [if_neg (by decide +kernel)]; exact ⟨rfl, rfl⟩))
    (fun os started H enc _ => lifted os started H enc)
end RowTrapDelays
end Go.Proofs.Ytjnckainogpenaa
