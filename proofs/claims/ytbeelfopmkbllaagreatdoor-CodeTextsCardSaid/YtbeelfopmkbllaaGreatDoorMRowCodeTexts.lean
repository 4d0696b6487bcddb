/- The law CodeTexts of package code: Text and Read agree with the reference. Proved for every code and string. -/
import Derived.Test.YtbeelfopmkbllaaGreatDoorM8
import Derived.Test.YtbeelfopmkbllaaGreatDoorM9
import Derived.Test.YtbeelfopmkbllaaGreatDoorCards
import Derived.Test.YtbeelfopmkbllaaGreatDoorTie
import Derived.JoinedOf
import Derived.Handed
import Derived.SevenTiedAt
set_option linter.unusedVariables false
set_option maxRecDepth 100000
namespace Go.Proofs.YtbeelfopmkbllaaGreatDoor
open Go Q Go.RowKit Go.ChangeShapes Go.WideShapes Go.ChangeAt Go.ChangeMaps
namespace RowCodeTexts
theorem func : Tryz.prog.funcs[11]? = some Tryz.f11 := by kernel_rfl
theorem params : Tryz.f11.params.toList = [28, 9] := by kernel_rfl
theorem AM (H : Type) (enc : TypeId × Value → H) (W : World) (base : Nat) (args : Array Value) (ds gs : List (DataW H)) (before : List MemPlace) [ht : Tab (hp W)] [he : Errs (hp W)]
    (hval0 : ∀ (j : Nat) t v, Tryz.f11.params[j]? = some t → args[j]? = some v → Value.okWide Tryz.prog W .any base t v)
    (hW : DataW.Whole enc Tryz.prog Tryz.f11.params.toList Rows.codeTextsSpec.vars false W args.toList ds gs before) :
    Calls Tryz.prog 11 args W fun e W' => ∃ v, e = .returned v ∧ Rows.codeTextsSpec.post enc Tryz.prog Tryz.f11 false true false false W args v W' := by
  have hW' := hW
  obtain ⟨p, q, hA0, hV, rfl, hfz, _⟩ := hW
  have hA : DataW.TrodAll enc Tryz.prog W 0 (fun _ => true) true Tryz.f11.params.toList args.toList ds p := hA0
  rw [params] at hA
  obtain ⟨v0, vs0, d0, ds0, p0, q0, e0, rfl, rfl, h0, r0⟩ := trodAll_cons hA
  obtain ⟨v1, vs1, d1, ds1, p1, q1, e1, rfl, rfl, h1, r1⟩ := trodAll_cons r0
  obtain ⟨rfl, rfl, rfl⟩ := trodAll_nil r1
  obtain rfl : args = #[v0, v1] := by cases args; simp_all
  obtain ⟨rfl, rfl⟩ := trodVars_none hV
  have hpj : ∀ j : Nat, Tryz.f11.params[j]? = [28, 9][j]? := fun j => by rw [← params]; exact Array.getElem?_toList.symm
  obtain ⟨fuel0, hf0⟩ := h0
  obtain ⟨c0, hc0⟩ := Bm (hval0 0 28 v0 (by rw [hpj]; rfl) rfl) hf0
  obtain ⟨s1, rfl, rfl, rfl, hs1⟩ := open_string u9 (hval0 1 9 v1 (by rw [hpj]; rfl) rfl) h1
  exact zV hW' (zp hc0) rfl (by rw [params]; exact List.forall_mem_cons.2 ⟨Ak, List.forall_mem_cons.2 ⟨CS, fun _ h => by cases h⟩⟩) rfl rfl rfl rfl
theorem Cg (os : Os) (started : os.Started) (H : Type) (enc : TypeId × Value → H) :
    ReturnsInHanded {} Tryz.checked os 11 .any (fun w args => (Rows.codeTextsSpec.pre enc Tryz.prog Tryz.f11 Rows.codeTextsRow.domain false w args ∧ laidMetH Tryz.prog Rows.codeTextsRow.laid w) ∧ sizedMet enc Tryz.prog Tryz.f11 (OpenSpec.ofChange Rows.codeTextsSpec) false w args)
      (Rows.codeTextsSpec.post enc Tryz.prog Tryz.f11 false true false false) := by
  refine returnsInHanded_of_change_and (C := Tryz.checked) (X := fun w _ => laidMetH Tryz.prog Rows.codeTextsRow.laid w) (fun _ _ _ hh h => h.of_heap hh) Dj started (by kernel_rfl) func
    (ChangeSpec.witness_shaped (enc := enc) (C := Tryz.checked) (os := os) (X := fun w _ => laidMetH Tryz.prog Rows.codeTextsRow.laid w) false (World.laidAll Tryz.prog os Rows.codeTextsRow.laid) #[.agg #[.slice none 0 0, .slice none 0 0, .slice none 0 0, .slice none 0 0, .slice none 0 0, .slice none 0 0], .string ⟨#[]⟩] 8 (World.laidAll_os _ _ _)
      (World.shaped_of_ZipB (by kernel_rfl) (by kernel_rfl)) (by kernel_rfl) (by kernel_rfl) (by kernel_rfl)
      (by rw [MakeChecks.laidMetH_plain _ _ _ (by kernel_rfl)]; exact laidMet_laidAll _ (by kernel_rfl) (by kernel_rfl))) ?_
  intro W base args ds gs before hval hW _ _ hL _
  have hL' : laidMetH Tryz.prog Rows.codeTextsRow.laid W := hL
  rw [MakeChecks.laidMetH_plain _ _ _ (by kernel_rfl)] at hL'
  haveI := xV (CR hL')
  haveI := Be hL'
  exact AM H enc W base args ds gs before hval hW
theorem holds : Rows.CodeTextsSaid :=
  OpenClaim.holds_of_wide 11 Tryz.f11 rfl rfl rfl rfl rfl rfl rfl ⟨rfl, rfl, rfl, rfl, rfl⟩ rfl rfl rfl rfl rfl (by kernel_rfl) func qC
    (of_decide_eq_true (by kernel_rfl)) (by unfold Func.isWrapper; first | (rw [if_pos (by decide +kernel)]; kernel_rfl) | (rw [if_neg (by decide +kernel)]; exact ⟨rfl, rfl⟩))
    (fun os started H enc _ => Cg os started H enc)
theorem card_holds : Rows.CodeTextsCardSaid :=
  Claim7.holds_tied_plain_at .later [] [.data, .data, .data, .data, .sentinel, .sentinel, .pinned] true (true, "fb06c6ee1658d5ac94611b24a2592992a536552c992eca3134cbedc9f7efa084") true holds (fun _ h => by cases h) (by kernel_rfl) (fun _ h => by cases h) codeTexts_row_tie rfl ⟨rfl, rfl⟩ (by kernel_rfl) rfl
    (fun g fn hf hfn => by
      obtain rfl : g = 11 := Option.some.inj ((show Tryz.prog.funcNamed "qanat/qanatlaw14.CodeTexts" = some 11 by kernel_rfl).symm.trans hf) |>.symm
      obtain rfl : fn = Tryz.f11 := (Option.some.inj (func.symm.trans hfn)).symm
      exact ⟨by kernel_rfl, fun j t ht => by
        have hm : t ∈ [28, 9] := by rw [← params]; exact Array.mem_toList_iff.2 (Array.mem_of_getElem? ht)
        have hall : ([28, 9].all fun u => !Tryz.prog.wantsStandIn u) = true := by kernel_rfl
        exact (show Tryz.prog.wantsStandIn t = false by simpa using List.all_eq_true.1 hall t hm)⟩)
    (by kernel_rfl)
end RowCodeTexts
end Go.Proofs.YtbeelfopmkbllaaGreatDoor
