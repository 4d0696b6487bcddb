/- The law CodeDeep of package code: along each path of valid code from a root, the depths are what the path has pushed and popped, and the loops that it has begun and ended. Proved for every code, root and path. -/
import Derived.Test.YtbeelfopmkbllaaGreatDoorM5
import Derived.Test.YtbeelfopmkbllaaGreatDoorM6
import Derived.Test.YtbeelfopmkbllaaGreatDoorCards
import Derived.Test.YtbeelfopmkbllaaGreatDoorTie
import Derived.JoinedOf
import Derived.Handed
import Derived.SevenTiedAt
set_option linter.unusedVariables false
set_option maxRecDepth 100000
namespace Go.Proofs.YtbeelfopmkbllaaGreatDoor
open Go Q Go.RowKit Go.ChangeShapes Go.WideShapes Go.ChangeAt
namespace RowCodeDeep
theorem func : Tryz.prog.funcs[6]? = some Tryz.f6 := by kernel_rfl
theorem params : Tryz.f6.params.toList = [28, 5, 55] := by kernel_rfl
theorem contract (H : Type) (enc : TypeId × Value → H) (W : World) (base : Nat) (args : Array Value) (ds gs : List (DataW H)) (before : List MemPlace) [ht : Tab (hp W)]
    (hval0 : ∀ (j : Nat) t v, Tryz.f6.params[j]? = some t → args[j]? = some v → Value.okWide Tryz.prog W .any base t v)
    (hW : DataW.Whole enc Tryz.prog Tryz.f6.params.toList Rows.codeDeepSpec.vars false W args.toList ds gs before) :
    Calls Tryz.prog 6 args W fun e W' => ∃ v, e = .returned v ∧ Rows.codeDeepSpec.post enc Tryz.prog Tryz.f6 false true false false W args v W' := by
  have hW' := hW
  obtain ⟨p, q, hA0, hV, rfl, hfz, _⟩ := hW
  have hA : DataW.TrodAll enc Tryz.prog W 0 (fun _ => true) true Tryz.f6.params.toList args.toList ds p := hA0
  rw [params] at hA
  obtain ⟨v0, vs0, d0, ds0, p0, q0, e0, rfl, rfl, h0, r0⟩ := trodAll_cons hA
  obtain ⟨v1, vs1, d1, ds1, p1, q1, e1, rfl, rfl, h1, r1⟩ := trodAll_cons r0
  obtain ⟨v2, vs2, d2, ds2, p2, q2, e2, rfl, rfl, h2, r2⟩ := trodAll_cons r1
  obtain ⟨rfl, rfl, rfl⟩ := trodAll_nil r2
  obtain rfl : args = #[v0, v1, v2] := by cases args; simp_all
  obtain ⟨rfl, rfl⟩ := trodVars_none hV
  have hpj : ∀ j : Nat, Tryz.f6.params[j]? = [28, 5, 55][j]? := fun j => by rw [← params]; exact Array.getElem?_toList.symm
  obtain ⟨fuel0, hf0⟩ := h0
  obtain ⟨c0, hc0⟩ := codeArg (hval0 0 28 v0 (by rw [hpj]; rfl) rfl) hf0
  obtain ⟨n1, rfl, rfl, rfl, w1⟩ := open_int u5 (hval0 1 5 v1 (by rw [hpj]; rfl) rfl) h1
  have hn1 : 0 ≤ n1 ∧ n1 ≤ 255 := by simpa [Lit.wf, IntKind.min, IntKind.max, IntKind.signed, IntKind.bits] using w1
  obtain ⟨a2, len2, cap2, rfl⟩ := okWide_slice u55 (hval0 2 55 v2 (by rw [hpj]; rfl) rfl)
  obtain ⟨fuel2, hf2⟩ := h2
  obtain ⟨l2, hl2⟩ := u8s_read (v := .slice a2 len2 cap2) (by simpa [Value.cells] using hf2)
  exact post_fn1 hW' (lawDeep hc0 hn1 hl2) rfl (by rw [params]; exact List.forall_mem_cons.2 ⟨stays28, List.forall_mem_cons.2 ⟨stays5, List.forall_mem_cons.2 ⟨stays55, fun _ h => by cases h⟩⟩⟩) rfl rfl rfl rfl
theorem lifted (os : Os) (started : os.Started) (H : Type) (enc : TypeId × Value → H) :
    ReturnsInHanded {} Tryz.checked os 6 .any (fun w args => (Rows.codeDeepSpec.pre enc Tryz.prog Tryz.f6 Rows.codeDeepRow.domain false w args ∧ laidMetH Tryz.prog Rows.codeDeepRow.laid w) ∧ sizedMet enc Tryz.prog Tryz.f6 (OpenSpec.ofChange Rows.codeDeepSpec) false w args)
      (Rows.codeDeepSpec.post enc Tryz.prog Tryz.f6 false true false false) := by
  refine returnsInHanded_of_change_and (C := Tryz.checked) (X := fun w _ => laidMetH Tryz.prog Rows.codeDeepRow.laid w) (fun _ _ _ hh h => h.of_heap hh) ownK started (by kernel_rfl) func
    (ChangeSpec.witness_shaped (enc := enc) (C := Tryz.checked) (os := os) (X := fun w _ => laidMetH Tryz.prog Rows.codeDeepRow.laid w) false (World.laidAll Tryz.prog os Rows.codeDeepRow.laid) #[.agg #[.slice none 0 0, .slice none 0 0, .slice none 0 0, .slice none 0 0, .slice none 0 0, .slice none 0 0], .int .u8 0, .slice none 0 0] 8 (World.laidAll_os _ _ _)
      (World.shaped_of_ZipB (by kernel_rfl) (by kernel_rfl)) (by kernel_rfl) (by kernel_rfl) (by kernel_rfl)
      (by rw [MakeChecks.laidMetH_plain _ _ _ (by kernel_rfl)]; exact laidMet_laidAll _ (by kernel_rfl) (by kernel_rfl))) ?_
  intro W base args ds gs before hval hW _ _ hL _
  have hL' : laidMetH Tryz.prog Rows.codeDeepRow.laid W := hL
  rw [MakeChecks.laidMetH_plain _ _ _ (by kernel_rfl)] at hL'
  haveI := tab_start (tab_of hL')
  exact contract H enc W base args ds gs before hval hW
theorem holds : Rows.CodeDeepSaid :=
  OpenClaim.holds_of_wide 6 Tryz.f6 rfl rfl rfl rfl rfl rfl rfl ⟨rfl, rfl, rfl, rfl, rfl⟩ rfl rfl rfl rfl rfl (by kernel_rfl) func factsCodeDeep
    (of_decide_eq_true (by kernel_rfl)) (by unfold Func.isWrapper; first | (rw [if_pos (by decide +kernel)]; kernel_rfl) | (rw [if_neg (by decide +kernel)]; exact ⟨rfl, rfl⟩))
    (fun os started H enc _ => lifted os started H enc)
theorem card_holds : Rows.CodeDeepCardSaid :=
  Claim7.holds_tied_plain_at .later [] [.data, .data, .data, .data, .pinned] true (true, "fb06c6ee1658d5ac94611b24a2592992a536552c992eca3134cbedc9f7efa084") true holds (fun _ h => by cases h) (by kernel_rfl) (fun _ h => by cases h) codeDeep_row_tie rfl ⟨rfl, rfl⟩ (by kernel_rfl) rfl
    (fun g fn hf hfn => by
      obtain rfl : g = 6 := Option.some.inj ((show Tryz.prog.funcNamed "qanat/qanatlaw14.CodeDeep" = some 6 by kernel_rfl).symm.trans hf) |>.symm
      obtain rfl : fn = Tryz.f6 := (Option.some.inj (func.symm.trans hfn)).symm
      exact ⟨by kernel_rfl, fun j t ht => by
        have hm : t ∈ [28, 5, 55] := by rw [← params]; exact Array.mem_toList_iff.2 (Array.mem_of_getElem? ht)
        have hall : ([28, 5, 55].all fun u => !Tryz.prog.wantsStandIn u) = true := by kernel_rfl
        exact (show Tryz.prog.wantsStandIn t = false by simpa using List.all_eq_true.1 hall t hm)⟩)
    (by kernel_rfl)
end RowCodeDeep
end Go.Proofs.YtbeelfopmkbllaaGreatDoor
