/- The law TrapSignals of package trap: after an action AcSignal the trap of its condition is off, nothing is pending, Condition tells of it, and raising it again ends the run for SYNTAX and HALT and does nothing else. Proved for every list of operations, condition, description and both ways, without any condition. -/
import Derived.Test.YtjnckainogpenaaR2
import Derived.Test.YtjnckainogpenaaT37
import Derived.JoinedOf
set_option linter.unusedVariables false
set_option maxRecDepth 100000
namespace Go.Proofs.Ytjnckainogpenaa
open Go Q Go.RowKit Go.ChangeShapes Go.WideShapes Go.ChangeAt Go.ChangeMaps

namespace RowTrapSignals
theorem func : Try.prog.funcs[9]? = some Try.f9 := by kernel_rfl
theorem params : Try.f9.params.toList = [22, 5, 9, 4] := by kernel_rfl
theorem contract (H : Type) (enc : TypeId × Value → H) (W : World) (base : Nat) (args : Array Value) (ds gs : List (DataW H)) (before : List MemPlace)
    (hval0 : ∀ (j : Nat) t v, Try.f9.params[j]? = some t → args[j]? = some v → Value.okWide Try.prog W .any base t v)
    (hW : DataW.Whole enc Try.prog Try.f9.params.toList Rows.trapSignalsSpec.vars false W args.toList ds gs before) :
    Calls Try.prog 9 args W fun e W' => ∃ v, e = .returned v ∧ Rows.trapSignalsSpec.post enc Try.prog Try.f9 false true false false W args v W' := by
  have hW' := hW
  obtain ⟨p, q, hA0, hV, rfl, hfz, _⟩ := hW
  have hA : DataW.TrodAll enc Try.prog W 0 (fun _ => true) true Try.f9.params.toList args.toList ds p := hA0
  rw [params] at hA
  obtain ⟨v0, vs0, d0, ds0, p0, q0, e0, rfl, rfl, h0, r0⟩ := trodAll_cons hA
  obtain ⟨v1, vs1, d1, ds1, p1, q1, e1, rfl, rfl, h1, r1⟩ := trodAll_cons r0
  obtain ⟨v2, vs2, d2, ds2, p2, q2, e2, rfl, rfl, h2, r2⟩ := trodAll_cons r1
  obtain ⟨v3, vs3, d3, ds3, p3, q3, e3, rfl, rfl, h3, r3⟩ := trodAll_cons r2
  obtain ⟨rfl, rfl, rfl⟩ := trodAll_nil r3
  obtain rfl : args = #[v0, v1, v2, v3] := by cases args; simp_all
  obtain ⟨rfl, rfl⟩ := trodVars_none hV
  have hpj : ∀ j : Nat, Try.f9.params[j]? = [22, 5, 9, 4][j]? := fun j => by rw [← params]; exact Array.getElem?_toList.symm
  obtain ⟨a0, len0, cap0, rfl⟩ := okWide_slice u22 (hval0 0 22 v0 (by rw [hpj]; rfl) rfl)
  obtain ⟨fuel0, hf0⟩ := h0
  obtain ⟨l0, hl0⟩ := ops_read (v := .slice a0 len0 cap0) (by simpa [Value.cells] using hf0)
  obtain ⟨n1, rfl, rfl, rfl, w1⟩ := open_int u5 (hval0 1 5 v1 (by rw [hpj]; rfl) rfl) h1
  have hn1 : 0 ≤ n1 ∧ n1 ≤ 255 := by simpa [Lit.wf, IntKind.min, IntKind.max, IntKind.signed, IntKind.bits] using w1
  obtain ⟨s2, rfl, rfl, rfl, hs2⟩ := open_string u9 (hval0 2 9 v2 (by rw [hpj]; rfl) rfl) h2
  obtain ⟨b3, rfl, rfl, rfl⟩ := open_bool u4 (hval0 3 4 v3 (by rw [hpj]; rfl) rfl) h3
  exact post_fn1 hW' (lawSignals hl0 hn1 hs2) rfl (by rw [params]; intro t ht; simp at ht; rcases ht with rfl | rfl | rfl | rfl; exact stays22; exact stays5; exact stays9; exact stays4) rfl rfl rfl rfl
theorem lifted (os : Os) (started : os.Started) (H : Type) (enc : TypeId × Value → H) :
    ReturnsInHanded {} Try.checked os 9 .any (Rows.trapSignalsSpec.pre6 enc Try.prog Try.f9 Rows.trapSignalsRow.domain false) (Rows.trapSignalsSpec.post enc Try.prog Try.f9 false true false false) := by
  refine returnsInHanded_of_change (C := Try.checked) (s := Rows.trapSignalsSpec) ownK started (by kernel_rfl) func
    (ChangeSpec.witness6 (enc := enc) (C := Try.checked) (s := Rows.trapSignalsSpec) false ⟨#[], #[.slice none 0 0, .int .u8 0, .string ⟨#[]⟩, .bool false], []⟩ 8 (by kernel_rfl) (by kernel_rfl) (by kernel_rfl) (by kernel_rfl)) ?_
  intro W base args ds gs before hval hW _ _
  exact contract H enc W base args ds gs before hval hW
theorem holds : Rows.TrapSignalsSaid :=
  OpenClaim.holds_of_wide 9 Try.f9 rfl rfl rfl rfl rfl rfl rfl ⟨rfl, rfl, rfl, rfl, rfl⟩ rfl rfl rfl rfl rfl (by kernel_rfl) func (by kernel_rfl)
    (of_decide_eq_true (by kernel_rfl)) (by unfold Func.isWrapper; first | (rw [if_pos (by decide +kernel)]; kernel_rfl) | (rw [if_neg (by decide +kernel)]; exact ⟨rfl, rfl⟩))
    (fun os started H enc _ => lifted os started H enc)
end RowTrapSignals
end Go.Proofs.Ytjnckainogpenaa
