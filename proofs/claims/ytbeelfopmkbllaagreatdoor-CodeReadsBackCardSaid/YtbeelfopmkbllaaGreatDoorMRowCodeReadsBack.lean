/- The law CodeReadsBack of package code: what is written is read back. Proved for every code, string and bytes. -/
import Derived.Test.YtbeelfopmkbllaaGreatDoorM7
import Derived.Test.YtbeelfopmkbllaaGreatDoorM8
import Derived.Test.YtbeelfopmkbllaaGreatDoorCards
import Derived.Test.YtbeelfopmkbllaaGreatDoorTie
import Derived.JoinedOf
import Derived.Handed
import Derived.SevenTiedAt
set_option linter.unusedVariables false
set_option maxRecDepth 100000
namespace Go.Proofs.YtbeelfopmkbllaaGreatDoor
open Go Q Go.RowKit Go.ChangeShapes Go.WideShapes Go.ChangeAt Go.ChangeMaps
namespace RowCodeReadsBack
theorem func : Tryz.prog.funcs[12]? = some Tryz.f12 := by kernel_rfl
theorem params : Tryz.f12.params.toList = [28, 9, 55] := by kernel_rfl
theorem contract (H : Type) (enc : TypeId × Value → H) (W : World) (base : Nat) (args : Array Value) (ds gs : List (DataW H)) (before : List MemPlace) [ht : Tab (hp W)] [he : Errs (hp W)]
    (hval0 : ∀ (j : Nat) t v, Tryz.f12.params[j]? = some t → args[j]? = some v → Value.okWide Tryz.prog W .any base t v)
    (hW : DataW.Whole enc Tryz.prog Tryz.f12.params.toList Rows.codeReadsBackSpec.vars false W args.toList ds gs before) :
    Calls Tryz.prog 12 args W fun e W' => ∃ v, e = .returned v ∧ Rows.codeReadsBackSpec.post enc Tryz.prog Tryz.f12 false true false false W args v W' := by
  have hW' := hW
  obtain ⟨p, q, hA0, hV, rfl, hfz, _⟩ := hW
  have hA : DataW.TrodAll enc Tryz.prog W 0 (fun _ => true) true Tryz.f12.params.toList args.toList ds p := hA0
  rw [params] at hA
  obtain ⟨v0, vs0, d0, ds0, p0, q0, e0, rfl, rfl, h0, r0⟩ := trodAll_cons hA
  obtain ⟨v1, vs1, d1, ds1, p1, q1, e1, rfl, rfl, h1, r1⟩ := trodAll_cons r0
  obtain ⟨v2, vs2, d2, ds2, p2, q2, e2, rfl, rfl, h2, r2⟩ := trodAll_cons r1
  obtain ⟨rfl, rfl, rfl⟩ := trodAll_nil r2
  obtain rfl : args = #[v0, v1, v2] := by cases args; simp_all
  obtain ⟨rfl, rfl⟩ := trodVars_none hV
  have hpj : ∀ j : Nat, Tryz.f12.params[j]? = [28, 9, 55][j]? := fun j => by rw [← params]; exact Array.getElem?_toList.symm
  obtain ⟨fuel0, hf0⟩ := h0
  obtain ⟨c0, hc0⟩ := codeArg (hval0 0 28 v0 (by rw [hpj]; rfl) rfl) hf0
  obtain ⟨s1, rfl, rfl, rfl, hs1⟩ := open_string u9 (hval0 1 9 v1 (by rw [hpj]; rfl) rfl) h1
  obtain ⟨a2, len2, cap2, rfl⟩ := okWide_slice u55 (hval0 2 55 v2 (by rw [hpj]; rfl) rfl)
  obtain ⟨fuel2, hf2⟩ := h2
  obtain ⟨l2, hl2⟩ := u8s_read (v := .slice a2 len2 cap2) (by simpa [Value.cells] using hf2)
  exact post_fn1 hW' (lawReadsBack hc0 hl2) rfl (by rw [params]; exact List.forall_mem_cons.2 ⟨stays28, List.forall_mem_cons.2 ⟨stays9, List.forall_mem_cons.2 ⟨stays55, fun _ h => by cases h⟩⟩⟩) rfl rfl rfl rfl
theorem lifted (os : Os) (started : os.Started) (H : Type) (enc : TypeId × Value → H) :
    ReturnsInHanded {} Tryz.checked os 12 .any (fun w args => (Rows.codeReadsBackSpec.pre enc Tryz.prog Tryz.f12 Rows.codeReadsBackRow.domain false w args ∧ laidMetH Tryz.prog Rows.codeReadsBackRow.laid w) ∧ sizedMet enc Tryz.prog Tryz.f12 (OpenSpec.ofChange Rows.codeReadsBackSpec) false w args)
      (Rows.codeReadsBackSpec.post enc Tryz.prog Tryz.f12 false true false false) := by
  refine returnsInHanded_of_change_and (C := Tryz.checked) (X := fun w _ => laidMetH Tryz.prog Rows.codeReadsBackRow.laid w) (fun _ _ _ hh h => h.of_heap hh) ownK started (by kernel_rfl) func
    (ChangeSpec.witness_shaped (enc := enc) (C := Tryz.checked) (os := os) (X := fun w _ => laidMetH Tryz.prog Rows.codeReadsBackRow.laid w) false (World.laidAll Tryz.prog os Rows.codeReadsBackRow.laid) #[.agg #[.slice none 0 0, .slice none 0 0, .slice none 0 0, .slice none 0 0, .slice none 0 0, .slice none 0 0], .string ⟨#[]⟩, .slice none 0 0] 8 (World.laidAll_os _ _ _)
      (World.shaped_of_ZipB (by kernel_rfl) (by kernel_rfl)) (by kernel_rfl) (by kernel_rfl) (by kernel_rfl)
      (by rw [MakeChecks.laidMetH_plain _ _ _ (by kernel_rfl)]; exact laidMet_laidAll _ (by kernel_rfl) (by kernel_rfl))) ?_
  intro W base args ds gs before hval hW _ _ hL _
  have hL' : laidMetH Tryz.prog Rows.codeReadsBackRow.laid W := hL
  rw [MakeChecks.laidMetH_plain _ _ _ (by kernel_rfl)] at hL'
  haveI := tab_start (tab_of hL')
  haveI := errs_of hL'
  exact contract H enc W base args ds gs before hval hW
theorem holds : Rows.CodeReadsBackSaid :=
  OpenClaim.holds_of_wide 12 Tryz.f12 rfl rfl rfl rfl rfl rfl rfl ⟨rfl, rfl, rfl, rfl, rfl⟩ rfl rfl rfl rfl rfl (by kernel_rfl) func factsCodeReadsBack
    (of_decide_eq_true (by kernel_rfl)) (by unfold Func.isWrapper; first | (rw [if_pos (by decide +kernel)]; kernel_rfl) | (rw [if_neg (by decide +kernel)]; exact ⟨rfl, rfl⟩))
    (fun os started H enc _ => lifted os started H enc)
theorem card_holds : Rows.CodeReadsBackCardSaid :=
  Claim7.holds_tied_plain_at .later [] [.data, .data, .data, .data, .sentinel, .sentinel, .pinned] true (true, "fb06c6ee1658d5ac94611b24a2592992a536552c992eca3134cbedc9f7efa084") true holds (fun _ h => by cases h) (by kernel_rfl) (fun _ h => by cases h) codeReadsBack_row_tie rfl ⟨rfl, rfl⟩ (by kernel_rfl) rfl
    (fun g fn hf hfn => by
      obtain rfl : g = 12 := Option.some.inj ((show Tryz.prog.funcNamed "qanat/qanatlaw14.CodeReadsBack" = some 12 by kernel_rfl).symm.trans hf) |>.symm
      obtain rfl : fn = Tryz.f12 := (Option.some.inj (func.symm.trans hfn)).symm
      exact ⟨by kernel_rfl, fun j t ht => by
        have hm : t ∈ [28, 9, 55] := by rw [← params]; exact Array.mem_toList_iff.2 (Array.mem_of_getElem? ht)
        have hall : ([28, 9, 55].all fun u => !Tryz.prog.wantsStandIn u) = true := by kernel_rfl
        exact (show Tryz.prog.wantsStandIn t = false by simpa using List.all_eq_true.1 hall t hm)⟩)
    (by kernel_rfl)
end RowCodeReadsBack
end Go.Proofs.YtbeelfopmkbllaaGreatDoor
