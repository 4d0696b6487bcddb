/- The law TrapChecks of package trap: New, Check, Name, Number, Condition, Catches and Same return what the reference implementation returns. Proved for every two states, number, name and option, without any condition. -/
import Derived.Test.YtjnckainogpenaaM4
import Derived.Test.YtjnckainogpenaaM5
import Derived.JoinedOf
set_option linter.unusedVariables false
set_option maxRecDepth 100000
namespace Go.Proofs.Ytjnckainogpenaa
open Go Q Go.RowKit Go.ChangeShapes Go.WideShapes Go.ChangeAt Go.ChangeMaps

namespace RowTrapChecks
theorem func : Try.prog.funcs[11]? = some Try.f11 := by kernel_rfl
theorem params : Try.f11.params.toList = [28, 28, 3, 9, 5] := by kernel_rfl
theorem contract (H : Type) (enc : TypeId × Value → H) (W : World) (base : Nat) (args : Array Value) (ds gs : List (DataW H)) (before : List MemPlace)
    (hval0 : ∀ (j : Nat) t v, Try.f11.params[j]? = some t → args[j]? = some v → Value.okWide Try.prog W .any base t v)
    (hW : DataW.Whole enc Try.prog Try.f11.params.toList Rows.trapChecksSpec.vars false W args.toList ds gs before) :
    Calls Try.prog 11 args W fun e W' => ∃ v, e = .returned v ∧ Rows.trapChecksSpec.post enc Try.prog Try.f11 false true false false W args v W' := by
  have hW' := hW
  obtain ⟨p, q, hA0, hV, rfl, hfz, _⟩ := hW
  have hA : DataW.TrodAll enc Try.prog W 0 (fun _ => true) true Try.f11.params.toList args.toList ds p := hA0
  rw [params] at hA
  obtain ⟨v0, vs0, d0, ds0, p0, q0, e0, rfl, rfl, h0, r0⟩ := trodAll_cons hA
  obtain ⟨v1, vs1, d1, ds1, p1, q1, e1, rfl, rfl, h1, r1⟩ := trodAll_cons r0
  obtain ⟨v2, vs2, d2, ds2, p2, q2, e2, rfl, rfl, h2, r2⟩ := trodAll_cons r1
  obtain ⟨v3, vs3, d3, ds3, p3, q3, e3, rfl, rfl, h3, r3⟩ := trodAll_cons r2
  obtain ⟨v4, vs4, d4, ds4, p4, q4, e4, rfl, rfl, h4, r4⟩ := trodAll_cons r3
  obtain ⟨rfl, rfl, rfl⟩ := trodAll_nil r4
  obtain rfl : args = #[v0, v1, v2, v3, v4] := by cases args; simp_all
  obtain ⟨rfl, rfl⟩ := trodVars_none hV
  have hpj : ∀ j : Nat, Try.f11.params[j]? = [28, 28, 3, 9, 5][j]? := fun j => by rw [← params]; exact Array.getElem?_toList.symm
  obtain ⟨fuel0, hf0⟩ := h0
  obtain ⟨st0, hst0⟩ := st_read (hval0 0 28 v0 (by rw [hpj]; rfl) rfl) hf0
  obtain ⟨fuel1, hf1⟩ := h1
  obtain ⟨st1, hst1⟩ := st_read (hval0 1 28 v1 (by rw [hpj]; rfl) rfl) hf1
  obtain ⟨n2, rfl, rfl, rfl, w2⟩ := open_int u3 (hval0 2 3 v2 (by rw [hpj]; rfl) rfl) h2
  have hn2 : -9223372036854775808 ≤ n2 ∧ n2 ≤ 9223372036854775807 := by simpa [Lit.wf, IntKind.min, IntKind.max, IntKind.signed, IntKind.bits] using w2
  obtain ⟨s3, rfl, rfl, rfl, hs3⟩ := open_string u9 (hval0 3 9 v3 (by rw [hpj]; rfl) rfl) h3
  obtain ⟨n4, rfl, rfl, rfl, w4⟩ := open_int u5 (hval0 4 5 v4 (by rw [hpj]; rfl) rfl) h4
  have hn4 : 0 ≤ n4 ∧ n4 ≤ 255 := by simpa [Lit.wf, IntKind.min, IntKind.max, IntKind.signed, IntKind.bits] using w4
  exact post_fn1 hW' (lawChecks hst0 hst1 hs3) rfl (by rw [params]; exact List.forall_mem_cons.2 ⟨stays28, List.forall_mem_cons.2 ⟨stays28, List.forall_mem_cons.2 ⟨stays3, List.forall_mem_cons.2 ⟨stays9, List.forall_mem_cons.2 ⟨stays5, fun _ h => by cases h⟩⟩⟩⟩⟩) rfl rfl rfl rfl
theorem lifted (os : Os) (started : os.Started) (H : Type) (enc : TypeId × Value → H) :
    ReturnsInHanded {} Try.checked os 11 .any (Rows.trapChecksSpec.pre6 enc Try.prog Try.f11 Rows.trapChecksRow.domain false) (Rows.trapChecksSpec.post enc Try.prog Try.f11 false true false false) := by
  refine returnsInHanded_of_change (C := Try.checked) (s := Rows.trapChecksSpec) ownK started (by kernel_rfl) func
    (ChangeSpec.witness6 (enc := enc) (C := Try.checked) (s := Rows.trapChecksSpec) false ⟨#[], #[.agg #[.slice none 0 0], .agg #[.slice none 0 0], .int .i64 0, .string ⟨#[]⟩, .int .u8 0], []⟩ 8 (by kernel_rfl) (by kernel_rfl) (by kernel_rfl) (by kernel_rfl)) ?_
  intro W base args ds gs before hval hW _ _
  exact contract H enc W base args ds gs before hval hW
theorem holds : Rows.TrapChecksSaid :=
  OpenClaim.holds_of_wide 11 Try.f11 rfl rfl rfl rfl rfl rfl rfl ⟨rfl, rfl, rfl, rfl, rfl⟩ rfl rfl rfl rfl rfl (by kernel_rfl) func (by kernel_rfl)
    (of_decide_eq_true (by kernel_rfl)) (by unfold Func.isWrapper; first | (rw [if_pos (by decide +kernel)]; kernel_rfl) | (rw [if_neg (by decide +kernel)]; exact ⟨rfl, rfl⟩))
    (fun os started H enc _ => lifted os started H enc)
end RowTrapChecks
end Go.Proofs.Ytjnckainogpenaa
