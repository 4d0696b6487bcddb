/- The law CodeBytes of package code: Encode and Decode agree with the reference implementation. Proved for every code, and bytes. -/
import Derived.Test.YtbeelfopmkbllaaGreatDoorM7
import Derived.Test.YtbeelfopmkbllaaGreatDoorM8
import Derived.Test.YtbeelfopmkbllaaGreatDoorM9
import Derived.Test.YtbeelfopmkbllaaGreatDoorCards
import Derived.Test.YtbeelfopmkbllaaGreatDoorTie
import Derived.JoinedOf
import Derived.Handed
import Derived.SevenTiedAt
set_option linter.unusedVariables false
set_option maxRecDepth 100000
namespace Go.Proofs.YtbeelfopmkbllaaGreatDoor
open Go Q Go.RowKit Go.ChangeShapes Go.WideShapes Go.ChangeAt Go.ChangeMaps
namespace RowCodeBytes
theorem func : Tryz.prog.funcs[10]? = some Tryz.f10 := by kernel_rfl
theorem params : Tryz.f10.params.toList = [28, 55] := by kernel_rfl
theorem contract (H : Type) (enc : TypeId × Value → H) (W : World) (base : Nat) (args : Array Value) (ds gs : List (DataW H)) (before : List MemPlace) [ht : Tab (hp W)]
    (hval0 : ∀ (j : Nat) t v, Tryz.f10.params[j]? = some t → args[j]? = some v → Value.okWide Tryz.prog W .any base t v)
    (hW : DataW.Whole enc Tryz.prog Tryz.f10.params.toList Rows.codeBytesSpec.vars false W args.toList ds gs before) :
    Calls Tryz.prog 10 args W fun e W' => ∃ v, e = .returned v ∧ Rows.codeBytesSpec.post enc Tryz.prog Tryz.f10 false true false false W args v W' := by
  have hW' := hW
  obtain ⟨p, q, hA0, hV, rfl, hfz, _⟩ := hW
  have hA : DataW.TrodAll enc Tryz.prog W 0 (fun _ => true) true Tryz.f10.params.toList args.toList ds p := hA0
  rw [params] at hA
  obtain ⟨v0, vs0, d0, ds0, p0, q0, e0, rfl, rfl, h0, r0⟩ := trodAll_cons hA
  obtain ⟨v1, vs1, d1, ds1, p1, q1, e1, rfl, rfl, h1, r1⟩ := trodAll_cons r0
  obtain ⟨rfl, rfl, rfl⟩ := trodAll_nil r1
  obtain rfl : args = #[v0, v1] := by cases args; simp_all
  obtain ⟨rfl, rfl⟩ := trodVars_none hV
  have hpj : ∀ j : Nat, Tryz.f10.params[j]? = [28, 55][j]? := fun j => by rw [← params]; exact Array.getElem?_toList.symm
  obtain ⟨fuel0, hf0⟩ := h0
  obtain ⟨c0, hc0⟩ := codeArg (hval0 0 28 v0 (by rw [hpj]; rfl) rfl) hf0
  obtain ⟨a1, len1, cap1, rfl⟩ := okWide_slice u55 (hval0 1 55 v1 (by rw [hpj]; rfl) rfl)
  obtain ⟨fuel1, hf1⟩ := h1
  obtain ⟨l1, hl1⟩ := u8s_read (v := .slice a1 len1 cap1) (by simpa [Value.cells] using hf1)
  exact post_fn1 hW' (lawBytes hc0 hl1) rfl (by rw [params]; exact List.forall_mem_cons.2 ⟨stays28, List.forall_mem_cons.2 ⟨stays55, fun _ h => by cases h⟩⟩) rfl rfl rfl rfl
theorem lifted (os : Os) (started : os.Started) (H : Type) (enc : TypeId × Value → H) :
    ReturnsInHanded {} Tryz.checked os 10 .any (fun w args => (Rows.codeBytesSpec.pre enc Tryz.prog Tryz.f10 Rows.codeBytesRow.domain false w args ∧ laidMetH Tryz.prog Rows.codeBytesRow.laid w) ∧ sizedMet enc Tryz.prog Tryz.f10 (OpenSpec.ofChange Rows.codeBytesSpec) false w args)
      (Rows.codeBytesSpec.post enc Tryz.prog Tryz.f10 false true false false) := by
  refine returnsInHanded_of_change_and (C := Tryz.checked) (X := fun w _ => laidMetH Tryz.prog Rows.codeBytesRow.laid w) (fun _ _ _ hh h => h.of_heap hh) ownK started (by kernel_rfl) func
    (ChangeSpec.witness_shaped (enc := enc) (C := Tryz.checked) (os := os) (X := fun w _ => laidMetH Tryz.prog Rows.codeBytesRow.laid w) false (World.laidAll Tryz.prog os Rows.codeBytesRow.laid) #[.agg #[.slice none 0 0, .slice none 0 0, .slice none 0 0, .slice none 0 0, .slice none 0 0, .slice none 0 0], .slice none 0 0] 8 (World.laidAll_os _ _ _)
      (World.shaped_of_ZipB (by kernel_rfl) (by kernel_rfl)) (by kernel_rfl) (by kernel_rfl) (by kernel_rfl)
      (by rw [MakeChecks.laidMetH_plain _ _ _ (by kernel_rfl)]; exact laidMet_laidAll _ (by kernel_rfl) (by kernel_rfl))) ?_
  intro W base args ds gs before hval hW _ _ hL _
  have hL' : laidMetH Tryz.prog Rows.codeBytesRow.laid W := hL
  rw [MakeChecks.laidMetH_plain _ _ _ (by kernel_rfl)] at hL'
  haveI := tab_start (tab_of hL')
  exact contract H enc W base args ds gs before hval hW
theorem holds : Rows.CodeBytesSaid :=
  OpenClaim.holds_of_wide 10 Tryz.f10 rfl rfl rfl rfl rfl rfl rfl ⟨rfl, rfl, rfl, rfl, rfl⟩ rfl rfl rfl rfl rfl (by kernel_rfl) func factsCodeBytes
    (of_decide_eq_true (by kernel_rfl)) (by unfold Func.isWrapper; first | (rw [if_pos (by decide +kernel)]; kernel_rfl) | (rw [if_neg (by decide +kernel)]; exact ⟨rfl, rfl⟩))
    (fun os started H enc _ => lifted os started H enc)
theorem card_holds : Rows.CodeBytesCardSaid :=
  Claim7.holds_tied_plain_at .later [] [.data, .data, .data, .data, .pinned] true (true, "fb06c6ee1658d5ac94611b24a2592992a536552c992eca3134cbedc9f7efa084") true holds (fun _ h => by cases h) (by kernel_rfl) (fun _ h => by cases h) codeBytes_row_tie rfl ⟨rfl, rfl⟩ (by kernel_rfl) rfl
    (fun g fn hf hfn => by
      obtain rfl : g = 10 := Option.some.inj ((show Tryz.prog.funcNamed "qanat/qanatlaw14.CodeBytes" = some 10 by kernel_rfl).symm.trans hf) |>.symm
      obtain rfl : fn = Tryz.f10 := (Option.some.inj (func.symm.trans hfn)).symm
      exact ⟨by kernel_rfl, fun j t ht => by
        have hm : t ∈ [28, 55] := by rw [← params]; exact Array.mem_toList_iff.2 (Array.mem_of_getElem? ht)
        have hall : ([28, 55].all fun u => !Tryz.prog.wantsStandIn u) = true := by kernel_rfl
        exact (show Tryz.prog.wantsStandIn t = false by simpa using List.all_eq_true.1 hall t hm)⟩)
    (by kernel_rfl)
end RowCodeBytes
end Go.Proofs.YtbeelfopmkbllaaGreatDoor
