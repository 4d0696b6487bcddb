/- The law DecDivides of package dec: quotients and remainders. Proved for all numbers. -/
import Derived.Test.YtmideenmlhbdjaaGreatDoorM6
import Derived.Test.YtmideenmlhbdjaaGreatDoorM7
import Derived.Test.YtmideenmlhbdjaaGreatDoorCards
import Derived.Test.YtmideenmlhbdjaaGreatDoorTie
import Derived.JoinedOf
import Derived.Handed
import Derived.SevenTiedAt
set_option linter.unusedVariables false
set_option maxRecDepth 100000
namespace Go.Proofs.YtmideenmlhbdjaaGreatDoor
open Go Q Go.RowKit Go.ChangeShapes Go.WideShapes Go.ChangeAt Go.ChangeMaps
namespace RowDecDivides
theorem func : Tryz.prog.funcs[16]? = some Tryz.f16 := by kernel_rfl
theorem params : Tryz.f16.params.toList = [23, 23, 23] := by kernel_rfl
theorem contract (H : Type) (enc : TypeId × Value → H) (W : World) (base : Nat) (args : Array Value) (ds gs : List (DataW H)) (before : List MemPlace) [ht : Tab (hp W)]
    (hval0 : ∀ (j : Nat) t v, Tryz.f16.params[j]? = some t → args[j]? = some v → Value.okWide Tryz.prog W .any base t v)
    (hW : DataW.Whole enc Tryz.prog Tryz.f16.params.toList Rows.decDividesSpec.vars false W args.toList ds gs before) :
    Calls Tryz.prog 16 args W fun e W' => ∃ v, e = .returned v ∧ Rows.decDividesSpec.post enc Tryz.prog Tryz.f16 false true false false W args v W' := by
  have hW' := hW
  obtain ⟨p, q, hA0, hV, rfl, hfz, _⟩ := hW
  have hA : DataW.TrodAll enc Tryz.prog W 0 (fun _ => true) true Tryz.f16.params.toList args.toList ds p := hA0
  rw [params] at hA
  obtain ⟨v0, vs0, d0, ds0, p0, q0, e0, rfl, rfl, h0, r0⟩ := trodAll_cons hA
  obtain ⟨v1, vs1, d1, ds1, p1, q1, e1, rfl, rfl, h1, r1⟩ := trodAll_cons r0
  obtain ⟨v2, vs2, d2, ds2, p2, q2, e2, rfl, rfl, h2, r2⟩ := trodAll_cons r1
  obtain ⟨rfl, rfl, rfl⟩ := trodAll_nil r2
  obtain rfl : args = #[v0, v1, v2] := by cases args; simp_all
  obtain ⟨rfl, rfl⟩ := trodVars_none hV
  have hpj : ∀ j : Nat, Tryz.f16.params[j]? = [23, 23, 23][j]? := fun j => by rw [← params]; exact Array.getElem?_toList.symm
  obtain ⟨fuel0, hf0⟩ := h0
  obtain ⟨x0, rfl, hs0⟩ := numArg (hval0 0 23 v0 (by rw [hpj]; rfl) rfl) hf0
  obtain ⟨fuel1, hf1⟩ := h1
  obtain ⟨x1, rfl, hs1⟩ := numArg (hval0 1 23 v1 (by rw [hpj]; rfl) rfl) hf1
  obtain ⟨fuel2, hf2⟩ := h2
  obtain ⟨x2, rfl, hs2⟩ := numArg (hval0 2 23 v2 (by rw [hpj]; rfl) rfl) hf2
  exact post_fn1 hW' (law_divides) rfl (by rw [params]; exact List.forall_mem_cons.2 ⟨stays_num, List.forall_mem_cons.2 ⟨stays_num, List.forall_mem_cons.2 ⟨stays_num, fun _ h => by cases h⟩⟩⟩) rfl rfl rfl rfl
theorem lifted (os : Os) (started : os.Started) (H : Type) (enc : TypeId × Value → H) :
    ReturnsInHanded {} Tryz.checked os 16 .any (fun w args => (Rows.decDividesSpec.pre enc Tryz.prog Tryz.f16 Rows.decDividesRow.domain false w args ∧ laidMetH Tryz.prog Rows.decDividesRow.laid w) ∧ sizedMet enc Tryz.prog Tryz.f16 (OpenSpec.ofChange Rows.decDividesSpec) false w args)
      (Rows.decDividesSpec.post enc Tryz.prog Tryz.f16 false true false false) := by
  refine returnsInHanded_of_change_and (C := Tryz.checked) (X := fun w _ => laidMetH Tryz.prog Rows.decDividesRow.laid w) (fun _ _ _ hh h => h.of_heap hh) ownK started (by kernel_rfl) func
    (ChangeSpec.witness_shaped (enc := enc) (C := Tryz.checked) (os := os) (X := fun w _ => laidMetH Tryz.prog Rows.decDividesRow.laid w) false (World.laidAll Tryz.prog os Rows.decDividesRow.laid) #[.agg #[.bool false, .string ⟨#[]⟩, .int .i64 0], .agg #[.bool false, .string ⟨#[]⟩, .int .i64 0], .agg #[.bool false, .string ⟨#[]⟩, .int .i64 0]] 8 (World.laidAll_os _ _ _)
      (World.shaped_of_ZipB (by kernel_rfl) (by kernel_rfl)) (by kernel_rfl) (by kernel_rfl) (by kernel_rfl)
      (by rw [MakeChecks.laidMetH_plain _ _ _ (by kernel_rfl)]; exact laidMet_laidAll _ (by kernel_rfl) (by kernel_rfl))) ?_
  intro W base args ds gs before hval hW _ _ hL _
  have hL' : laidMetH Tryz.prog Rows.decDividesRow.laid W := hL
  rw [MakeChecks.laidMetH_plain _ _ _ (by kernel_rfl)] at hL'
  haveI := tab_start (tab_of hL')
  exact contract H enc W base args ds gs before hval hW
theorem holds : Rows.DecDividesSaid :=
  OpenClaim.holds_of_wide 16 Tryz.f16 rfl rfl rfl rfl rfl rfl rfl ⟨rfl, rfl, rfl, rfl, rfl⟩ rfl rfl rfl rfl rfl (by kernel_rfl) func factsDecDivides
    (of_decide_eq_true (by kernel_rfl)) (by unfold Func.isWrapper; first | (rw [if_pos (by decide +kernel)]; kernel_rfl) | (rw [if_neg (by decide +kernel)]; exact ⟨rfl, rfl⟩))
    (fun os started H enc _ => lifted os started H enc)
theorem card_holds : Rows.DecDividesCardSaid :=
  Claim7.holds_tied_plain_at .later [] [.data, .data, .data, .data, .sentinel, .sentinel, .pinned] true (true, "6e0145a44043110f7be860ec21712677296a6735bf66c84af778968315e2c2aa") true holds (fun _ h => by cases h) (by kernel_rfl) (fun _ h => by cases h) decDivides_row_tie rfl ⟨rfl, rfl⟩ (by kernel_rfl) rfl
    (fun g fn hf hfn => by
      obtain rfl : g = 16 := Option.some.inj ((show Tryz.prog.funcNamed "qanat/qanatlaw01.DecDivides" = some 16 by kernel_rfl).symm.trans hf) |>.symm
      obtain rfl : fn = Tryz.f16 := (Option.some.inj (func.symm.trans hfn)).symm
      exact ⟨by kernel_rfl, fun j t ht => by
        have hm : t ∈ [23, 23, 23] := by rw [← params]; exact Array.mem_toList_iff.2 (Array.mem_of_getElem? ht)
        have hall : ([23, 23, 23].all fun u => !Tryz.prog.wantsStandIn u) = true := by kernel_rfl
        exact (show Tryz.prog.wantsStandIn t = false by simpa using List.all_eq_true.1 hall t hm)⟩)
    (by kernel_rfl)
end RowDecDivides
end Go.Proofs.YtmideenmlhbdjaaGreatDoor
