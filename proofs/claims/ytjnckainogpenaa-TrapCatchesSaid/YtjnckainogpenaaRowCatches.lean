/- The law TrapCatches of package trap: after at most 200 operations, where nothing is pending, Catches is the action of Raise with an empty description or, if this is AcNone, that of EndClause. Proved for every list of operations and every condition, without any condition. -/
import Derived.Test.YtjnckainogpenaaT32
import Derived.JoinedOf
set_option linter.unusedVariables false
set_option maxRecDepth 100000
namespace Go.Proofs.Ytjnckainogpenaa
open Go Q Go.RowKit Go.ChangeShapes Go.WideShapes Go.ChangeAt

namespace RowCatches
theorem func : Try.prog.funcs[6]? = some Try.f6 := by kernel_rfl
theorem params : Try.f6.params.toList = [22, 5] := by kernel_rfl
theorem contract (H : Type) (enc : TypeId × Value → H) (W : World) (base : Nat) (args : Array Value) (ds gs : List (DataW H)) (before : List MemPlace)
    (hval0 : ∀ (j : Nat) t v, Try.f6.params[j]? = some t → args[j]? = some v → Value.okWide Try.prog W .any base t v)
    (hW : DataW.Whole enc Try.prog Try.f6.params.toList Rows.trapCatchesSpec.vars false W args.toList ds gs before) :
    Calls Try.prog 6 args W fun e W' => ∃ v, e = .returned v ∧ Rows.trapCatchesSpec.post enc Try.prog Try.f6 false true false false W args v W' := by
  have hW' := hW
  have hlt := hW.lt
  obtain ⟨p, q, hA0, hV, rfl, hfz, _⟩ := hW
  have hA : DataW.TrodAll enc Try.prog W 0 (fun _ => true) true Try.f6.params.toList args.toList ds p := hA0
  rw [params] at hA
  obtain ⟨v0, vs0, d0, ds0, p0, q0, hargs, rfl, rfl, h0, r0⟩ := trodAll_cons hA
  obtain ⟨v1, vs1, d1, ds1, p1, q1, hargs1, rfl, rfl, h1, r1⟩ := trodAll_cons r0
  obtain ⟨rfl, rfl, rfl⟩ := trodAll_nil r1
  obtain rfl : args = #[v0, v1] := by cases args; simp_all
  obtain ⟨rfl, rfl⟩ := trodVars_none hV
  have hpj : ∀ j : Nat, Try.f6.params[j]? = [22, 5][j]? := fun j => by rw [← params]; exact Array.getElem?_toList.symm
  obtain ⟨c, rfl, rfl, rfl, wc⟩ := open_int u5 (hval0 1 5 v1 (by rw [hpj]; rfl) rfl) h1
  obtain ⟨a0, len, cap, rfl⟩ := okWide_slice u22 (hval0 0 22 v0 (by rw [hpj]; rfl) rfl)
  obtain ⟨fuel, hf⟩ := h0
  obtain ⟨l, hl⟩ := ops_read (v := .slice a0 len cap) (by simpa [Value.cells] using hf)
  have hc : 0 ≤ c ∧ c ≤ 255 := by simpa [Lit.wf, IntKind.min, IntKind.max, IntKind.signed, IntKind.bits] using wc
  exact post_fn1 hW' (lawCatches hl hc) rfl (by rw [params]; intro t ht; simp at ht; rcases ht with rfl | rfl; exact stays22; exact stays5) rfl rfl rfl rfl
theorem lifted (os : Os) (started : os.Started) (H : Type) (enc : TypeId × Value → H) :
    ReturnsInHanded {} Try.checked os 6 .any (Rows.trapCatchesSpec.pre6 enc Try.prog Try.f6 Rows.trapCatchesRow.domain false) (Rows.trapCatchesSpec.post enc Try.prog Try.f6 false true false false) := by
  refine returnsInHanded_of_change (C := Try.checked) (s := Rows.trapCatchesSpec) ownK started (by kernel_rfl) func
    (ChangeSpec.witness6 (enc := enc) (C := Try.checked) (s := Rows.trapCatchesSpec) false ⟨#[], #[.slice none 0 0, .int .u8 0], []⟩ 8 (by kernel_rfl) (by kernel_rfl) (by kernel_rfl) (by kernel_rfl)) ?_
  intro W base args ds gs before hval hW _ _
  exact contract H enc W base args ds gs before hval hW
theorem holds : Rows.TrapCatchesSaid :=
  OpenClaim.holds_of_wide 6 Try.f6 rfl rfl rfl rfl rfl rfl rfl ⟨rfl, rfl, rfl, rfl, rfl⟩ rfl rfl rfl rfl rfl (by kernel_rfl) func (by kernel_rfl)
    (of_decide_eq_true (by kernel_rfl)) (by unfold Func.isWrapper; first | (rw [if_pos (by decide +kernel)]; kernel_rfl) | (rw [if_neg (by decide +kernel)]; exact ⟨rfl, rfl⟩))
    (fun os started H enc _ => lifted os started H enc)
end RowCatches
end Go.Proofs.Ytjnckainogpenaa
