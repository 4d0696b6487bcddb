/- The reference's check; equality of states. -/
import Derived.Test.YtjnckainogpenaaT6
set_option linter.unusedVariables false
set_option maxRecDepth 20000
set_option synthInstance.maxHeartbeats 400000
set_option synthInstance.maxSize 4000
namespace Go.Proofs.Ytjnckainogpenaa
open Go Q Go.RowKit

theorem deferred_eq (n : Int) : deferred n = (cond n && !immediate n) := by
  simp only [deferred, cond, immediate]
  rw [Bool.eq_iff_iff]
  simp
  omega
theorem rightFrame {v : Value} {f : FrM} {z : Z} {w : World} (hf : FrR z v f) : Fn1 84 #[v] z w fun _ r => r = .bool (framedB f) := Fn1.intro fun hS => en84 (by
  unfold vc84
  obtain ⟨cs, rfl, v1, v2, rfl, hv1, hv2, hd⟩ := hf
  obtain ⟨hb1, a1, cap1, rfl, hc1, hel1⟩ := hv1.form
  obtain ⟨hb2, a2, cap2, rfl, hc2, hel2⟩ := hv2.form
  haveI : Sm f.info.desc := ⟨hd⟩
  dsimp only [InM.cells]
  refine iV_bx ?_
  intro b0 w1 hb0 hS1
  (repeat (first | (refine iDr ?_; intro _ _) | refine V_run ?_ | refine PV_run ?_ | refine HV_run ?_ | refine iV_ld1 ?_ | refine iV_ldN ?_ | (refine iV_bx ?_; intro _ _ _ _) | (refine iV_al ?_; intro _ _ _ _) | (refine iV_mm ?_; intro _ _ _ _) | (refine iU_st ?_; intro _ _) | refine iHV_1 ?_ | refine iHV_N ?_ | refine iRI_1 ?_ | refine iRI_N ?_ | refine Cond_t ?_ | refine Cond_f ?_ | refine JB ?_ | (refine JC ?_; intro _ _ _ _) | (refine J1 ?_; intro _ _) | (refine J0 ?_; intro _ _) | (refine J2 ?_; intro _ _) | (refine J3 ?_; intro _ _) | (refine J4 ?_; intro _ _) | refine K1 ?_ | refine K0 ?_ | refine K2 ?_ | refine K3 ?_ | refine K4 ?_ | (refine CV_pu ?_; intro _ _ _ _) | refine fV_ldN ?_ | refine fV_ld1 ?_ | refine fHV_ldN ?_ | refine fHV_ld1 ?_ | refine NilW_some ?_ | refine iCW_1 ?_ | refine iCW_N ?_ | refine Pk_b ?_))
  rename_i z1 w1' hz1 hS1'
  refine Cond_b (fun h => ?_) (fun h => ?_)
  · refine ⟨_, _, hS1', ?_⟩
    congr 1
    simp only [cond_eq_ite] at h
    rw [framedB]
    by_cases h6 : f.traps.length = 6
    · simp [h6] at h; simp [h]
    · simp [h6]
  · have h6 : f.traps.length = 6 ∧ infoB f.info = true := by
      simp only [cond_eq_ite] at h
      by_cases h6 : f.traps.length = 6
      · simp [h6] at h; exact ⟨h6, h⟩
      · exfalso
        revert h
        have : ¬ ((f.traps.length : Int) = 6) := by omega
        simp [this]
    refine LoopG1 (fun (i : Nat) x w' => x = .int .i64 i ∧ i ≤ f.traps.length ∧ trapsFrom 0 f.traps = trapsFrom i (f.traps.drop i) ∧ ∃ z', Res w z [] w' z' [(b0, .cells [.slice a1 f.traps.length cap1, .slice a2 f.pend.length cap2, .int .i64 f.info.cond, .int .i64 f.info.mode, .string f.info.desc].toArray 63 (0, 0))]) (fun i => f.traps.length - i) 0 ⟨rfl, by omega, rfl, _, hS1'⟩ ?_
    rintro I M i x w2 m ⟨rfl, h1, h2, z2, hS2⟩ back
    (repeat (first | (refine iDr ?_; intro _ _) | refine V_run ?_ | refine PV_run ?_ | refine HV_run ?_ | refine iV_ld1 ?_ | refine iV_ldN ?_ | (refine iV_bx ?_; intro _ _ _ _) | (refine iV_al ?_; intro _ _ _ _) | (refine iV_mm ?_; intro _ _ _ _) | (refine iU_st ?_; intro _ _) | refine iHV_1 ?_ | refine iHV_N ?_ | refine iRI_1 ?_ | refine iRI_N ?_ | refine Cond_t ?_ | refine Cond_f ?_ | refine JB ?_ | (refine JC ?_; intro _ _ _ _) | (refine J1 ?_; intro _ _) | (refine J0 ?_; intro _ _) | (refine J2 ?_; intro _ _) | (refine J3 ?_; intro _ _) | (refine J4 ?_; intro _ _) | refine K1 ?_ | refine K0 ?_ | refine K2 ?_ | refine K3 ?_ | refine K4 ?_ | (refine CV_pu ?_; intro _ _ _ _) | refine fV_ldN ?_ | refine fV_ld1 ?_ | refine fHV_ldN ?_ | refine fHV_ld1 ?_ | refine NilW_some ?_ | refine iCW_1 ?_ | refine iCW_N ?_ | refine Pk_b ?_))
    refine Cond_d (fun h => ?_) (fun h => ?_)
    · have hlt : i < f.traps.length := by omega
      obtain ⟨b, off, cs, rfl, ⟨rfl, hr⟩, hat⟩ := hel1 i _ (List.getElem?_eq_getElem hlt)
      haveI : InR (i : Int) f.traps.length := ⟨by omega, by omega⟩
      haveI : InR (i : Int) 6 := ⟨by omega, by omega⟩
      haveI : Sm (f.traps[i]).label := ⟨hr⟩
      haveI : InI ((i : Int) + 1) := ⟨by omega⟩
      (repeat (first | (refine iDr ?_; intro _ _) | refine V_run ?_ | refine PV_run ?_ | refine HV_run ?_ | refine iV_ld1 ?_ | refine iV_ldN ?_ | (refine iV_bx ?_; intro _ _ _ _) | (refine iV_al ?_; intro _ _ _ _) | (refine iV_mm ?_; intro _ _ _ _) | (refine iU_st ?_; intro _ _) | refine iHV_1 ?_ | refine iHV_N ?_ | refine iRI_1 ?_ | refine iRI_N ?_ | refine Cond_t ?_ | refine Cond_f ?_ | refine JB ?_ | (refine JC ?_; intro _ _ _ _) | (refine J1 ?_; intro _ _) | (refine J0 ?_; intro _ _) | (refine J2 ?_; intro _ _) | (refine J3 ?_; intro _ _) | (refine J4 ?_; intro _ _) | refine K1 ?_ | refine K0 ?_ | refine K2 ?_ | refine K3 ?_ | refine K4 ?_ | (refine CV_pu ?_; intro _ _ _ _) | refine fV_ldN ?_ | refine fV_ld1 ?_ | refine fHV_ldN ?_ | refine fHV_ld1 ?_ | refine NilW_some ?_ | refine iCW_1 ?_ | refine iCW_N ?_ | refine Pk_b ?_))
      simp only [Int.toNat_natCast]
      refine zV_ldN (hat.mono hS2.zle) rfl ?_
      dsimp only [TrM.cells]
      (repeat (first | (refine iDr ?_; intro _ _) | refine V_run ?_ | refine PV_run ?_ | refine HV_run ?_ | refine iV_ld1 ?_ | refine iV_ldN ?_ | (refine iV_bx ?_; intro _ _ _ _) | (refine iV_al ?_; intro _ _ _ _) | (refine iV_mm ?_; intro _ _ _ _) | (refine iU_st ?_; intro _ _) | refine iHV_1 ?_ | refine iHV_N ?_ | refine iRI_1 ?_ | refine iRI_N ?_ | refine Cond_t ?_ | refine Cond_f ?_ | refine JB ?_ | (refine JC ?_; intro _ _ _ _) | (refine J1 ?_; intro _ _) | (refine J0 ?_; intro _ _) | (refine J2 ?_; intro _ _) | (refine J3 ?_; intro _ _) | (refine J4 ?_; intro _ _) | refine K1 ?_ | refine K0 ?_ | refine K2 ?_ | refine K3 ?_ | refine K4 ?_ | (refine CV_pu ?_; intro _ _ _ _) | refine fV_ldN ?_ | refine fV_ld1 ?_ | refine fHV_ldN ?_ | refine fHV_ld1 ?_ | refine NilW_some ?_ | refine iCW_1 ?_ | refine iCW_N ?_ | refine Pk_b ?_))
      rw [List.drop_eq_getElem_cons hlt] at h2
      simp only [trapsFrom] at h2
      refine Cond_n (fun h' => ?_) (fun h' => ?_)
      · exact ⟨_, _, ‹_›, by rw [framedB, h2, show trapOk (i : Int) (f.traps[i]) = false from h']; simp⟩
      · (repeat (first | (refine iDr ?_; intro _ _) | refine V_run ?_ | refine PV_run ?_ | refine HV_run ?_ | refine iV_ld1 ?_ | refine iV_ldN ?_ | (refine iV_bx ?_; intro _ _ _ _) | (refine iV_al ?_; intro _ _ _ _) | (refine iV_mm ?_; intro _ _ _ _) | (refine iU_st ?_; intro _ _) | refine iHV_1 ?_ | refine iHV_N ?_ | refine iRI_1 ?_ | refine iRI_N ?_ | refine Cond_t ?_ | refine Cond_f ?_ | refine JB ?_ | (refine JC ?_; intro _ _ _ _) | (refine J1 ?_; intro _ _) | (refine J0 ?_; intro _ _) | (refine J2 ?_; intro _ _) | (refine J3 ?_; intro _ _) | (refine J4 ?_; intro _ _) | refine K1 ?_ | refine K0 ?_ | refine K2 ?_ | refine K3 ?_ | refine K4 ?_ | (refine CV_pu ?_; intro _ _ _ _) | refine fV_ldN ?_ | refine fV_ld1 ?_ | refine fHV_ldN ?_ | refine fHV_ld1 ?_ | refine NilW_some ?_ | refine iCW_1 ?_ | refine iCW_N ?_ | refine Pk_b ?_))
        exact back (i + 1) _ _ ⟨by simp, by omega, by rw [h2, show trapOk (i : Int) (f.traps[i]) = true from h']; simp, _, ‹_›⟩ (by omega)
    · have hdone : f.traps.drop i = [] := List.drop_of_length_le (by omega)
      rw [hdone] at h2
      refine LoopG1 (fun (i : Nat) x w' => x = .int .i64 i ∧ i ≤ f.pend.length ∧ pendFrom [] f.pend = pendFrom (f.pend.take i) (f.pend.drop i) ∧ ∃ z', Res w z [] w' z' [(b0, .cells [.slice a1 f.traps.length cap1, .slice a2 f.pend.length cap2, .int .i64 f.info.cond, .int .i64 f.info.mode, .string f.info.desc].toArray 63 (0, 0))]) (fun i => f.pend.length - i) 0 ⟨rfl, by omega, rfl, z2, hS2⟩ ?_
      rintro I M i x w4 m ⟨rfl, h1', h2', z4, hS4⟩ back
      (repeat (first | (refine iDr ?_; intro _ _) | refine V_run ?_ | refine PV_run ?_ | refine HV_run ?_ | refine iV_ld1 ?_ | refine iV_ldN ?_ | (refine iV_bx ?_; intro _ _ _ _) | (refine iV_al ?_; intro _ _ _ _) | (refine iV_mm ?_; intro _ _ _ _) | (refine iU_st ?_; intro _ _) | refine iHV_1 ?_ | refine iHV_N ?_ | refine iRI_1 ?_ | refine iRI_N ?_ | refine Cond_t ?_ | refine Cond_f ?_ | refine JB ?_ | (refine JC ?_; intro _ _ _ _) | (refine J1 ?_; intro _ _) | (refine J0 ?_; intro _ _) | (refine J2 ?_; intro _ _) | (refine J3 ?_; intro _ _) | (refine J4 ?_; intro _ _) | refine K1 ?_ | refine K0 ?_ | refine K2 ?_ | refine K3 ?_ | refine K4 ?_ | (refine CV_pu ?_; intro _ _ _ _) | refine fV_ldN ?_ | refine fV_ld1 ?_ | refine fHV_ldN ?_ | refine fHV_ld1 ?_ | refine NilW_some ?_ | refine iCW_1 ?_ | refine iCW_N ?_ | refine Pk_b ?_))
      refine Cond_d (fun h => ?_) (fun h => ?_)
      · have hlt : i < f.pend.length := by omega
        obtain ⟨b, off, cs, rfl, ⟨rfl, hr⟩, hat⟩ := hel2 i _ (List.getElem?_eq_getElem hlt)
        haveI : InR (i : Int) f.pend.length := ⟨by omega, by omega⟩
        haveI : InR (i : Int) (cap2 + 1) := ⟨by omega, by omega⟩
        haveI : Sm (f.pend[i]).desc := ⟨hr⟩
        haveI : InI ((i : Int) + 1) := ⟨by simp only [big] at hb2; omega⟩
        (repeat (first | (refine iDr ?_; intro _ _) | refine V_run ?_ | refine PV_run ?_ | refine HV_run ?_ | refine iV_ld1 ?_ | refine iV_ldN ?_ | (refine iV_bx ?_; intro _ _ _ _) | (refine iV_al ?_; intro _ _ _ _) | (refine iV_mm ?_; intro _ _ _ _) | (refine iU_st ?_; intro _ _) | refine iHV_1 ?_ | refine iHV_N ?_ | refine iRI_1 ?_ | refine iRI_N ?_ | refine Cond_t ?_ | refine Cond_f ?_ | refine JB ?_ | (refine JC ?_; intro _ _ _ _) | (refine J1 ?_; intro _ _) | (refine J0 ?_; intro _ _) | (refine J2 ?_; intro _ _) | (refine J3 ?_; intro _ _) | (refine J4 ?_; intro _ _) | refine K1 ?_ | refine K0 ?_ | refine K2 ?_ | refine K3 ?_ | refine K4 ?_ | (refine CV_pu ?_; intro _ _ _ _) | refine fV_ldN ?_ | refine fV_ld1 ?_ | refine fHV_ldN ?_ | refine fHV_ld1 ?_ | refine NilW_some ?_ | refine iCW_1 ?_ | refine iCW_N ?_ | refine Pk_b ?_))
        simp only [Int.toNat_natCast]
        refine zV_ldN (hat.mono hS4.zle) rfl ?_
        dsimp only [RaM.cells]
        rw [List.drop_eq_getElem_cons hlt] at h2'
        simp only [pendFrom] at h2'
        have hra : raOk (f.pend.take i) f.pend[i] = (deferred f.pend[i].cond && descB f.pend[i].desc && !decide (pendIdx (f.pend.take i) f.pend[i].cond ≥ 0)) := by
          rw [pendIdx, fidx_ge, raOk, ← deferred_eq]
          have : ((f.pend.take i).any fun x => x.cond == f.pend[i].cond) = ((f.pend.take i).any fun x => decide (x.cond = f.pend[i].cond)) := by
            congr 1
          rw [this]
          cases deferred f.pend[i].cond <;> cases descB f.pend[i].desc <;> simp
        (repeat (first | (refine iDr ?_; intro _ _) | refine V_run ?_ | refine PV_run ?_ | refine HV_run ?_ | refine iV_ld1 ?_ | refine iV_ldN ?_ | (refine iV_bx ?_; intro _ _ _ _) | (refine iV_al ?_; intro _ _ _ _) | (refine iV_mm ?_; intro _ _ _ _) | (refine iU_st ?_; intro _ _) | refine iHV_1 ?_ | refine iHV_N ?_ | refine iRI_1 ?_ | refine iRI_N ?_ | refine Cond_t ?_ | refine Cond_f ?_ | refine JB ?_ | (refine JC ?_; intro _ _ _ _) | (refine J1 ?_; intro _ _) | (refine J0 ?_; intro _ _) | (refine J2 ?_; intro _ _) | (refine J3 ?_; intro _ _) | (refine J4 ?_; intro _ _) | refine K1 ?_ | refine K0 ?_ | refine K2 ?_ | refine K3 ?_ | refine K4 ?_ | (refine CV_pu ?_; intro _ _ _ _) | refine fV_ldN ?_ | refine fV_ld1 ?_ | refine fHV_ldN ?_ | refine fHV_ld1 ?_ | refine NilW_some ?_ | refine iCW_1 ?_ | refine iCW_N ?_ | refine Pk_b ?_))
        refine Cond_n (fun h' => ?_) (fun h' => ?_)
        · (repeat (first | (refine iDr ?_; intro _ _) | refine V_run ?_ | refine PV_run ?_ | refine HV_run ?_ | refine iV_ld1 ?_ | refine iV_ldN ?_ | (refine iV_bx ?_; intro _ _ _ _) | (refine iV_al ?_; intro _ _ _ _) | (refine iV_mm ?_; intro _ _ _ _) | (refine iU_st ?_; intro _ _) | refine iHV_1 ?_ | refine iHV_N ?_ | refine iRI_1 ?_ | refine iRI_N ?_ | refine Cond_t ?_ | refine Cond_f ?_ | refine JB ?_ | (refine JC ?_; intro _ _ _ _) | (refine J1 ?_; intro _ _) | (refine J0 ?_; intro _ _) | (refine J2 ?_; intro _ _) | (refine J3 ?_; intro _ _) | (refine J4 ?_; intro _ _) | refine K1 ?_ | refine K0 ?_ | refine K2 ?_ | refine K3 ?_ | refine K4 ?_ | (refine CV_pu ?_; intro _ _ _ _) | refine fV_ldN ?_ | refine fV_ld1 ?_ | refine fHV_ldN ?_ | refine fHV_ld1 ?_ | refine NilW_some ?_ | refine iCW_1 ?_ | refine iCW_N ?_ | refine Pk_b ?_))
          exact ⟨_, _, ‹_›, by rw [framedB, h2', hra, h']; simp⟩
        · (repeat (first | (refine iDr ?_; intro _ _) | refine V_run ?_ | refine PV_run ?_ | refine HV_run ?_ | refine iV_ld1 ?_ | refine iV_ldN ?_ | (refine iV_bx ?_; intro _ _ _ _) | (refine iV_al ?_; intro _ _ _ _) | (refine iV_mm ?_; intro _ _ _ _) | (refine iU_st ?_; intro _ _) | refine iHV_1 ?_ | refine iHV_N ?_ | refine iRI_1 ?_ | refine iRI_N ?_ | refine Cond_t ?_ | refine Cond_f ?_ | refine JB ?_ | (refine JC ?_; intro _ _ _ _) | (refine J1 ?_; intro _ _) | (refine J0 ?_; intro _ _) | (refine J2 ?_; intro _ _) | (refine J3 ?_; intro _ _) | (refine J4 ?_; intro _ _) | refine K1 ?_ | refine K0 ?_ | refine K2 ?_ | refine K3 ?_ | refine K4 ?_ | (refine CV_pu ?_; intro _ _ _ _) | refine fV_ldN ?_ | refine fV_ld1 ?_ | refine fHV_ldN ?_ | refine fHV_ld1 ?_ | refine NilW_some ?_ | refine iCW_1 ?_ | refine iCW_N ?_ | refine Pk_b ?_))
          refine Cond_n (fun h'' => ?_) (fun h'' => ?_)
          · (repeat (first | (refine iDr ?_; intro _ _) | refine V_run ?_ | refine PV_run ?_ | refine HV_run ?_ | refine iV_ld1 ?_ | refine iV_ldN ?_ | (refine iV_bx ?_; intro _ _ _ _) | (refine iV_al ?_; intro _ _ _ _) | (refine iV_mm ?_; intro _ _ _ _) | (refine iU_st ?_; intro _ _) | refine iHV_1 ?_ | refine iHV_N ?_ | refine iRI_1 ?_ | refine iRI_N ?_ | refine Cond_t ?_ | refine Cond_f ?_ | refine JB ?_ | (refine JC ?_; intro _ _ _ _) | (refine J1 ?_; intro _ _) | (refine J0 ?_; intro _ _) | (refine J2 ?_; intro _ _) | (refine J3 ?_; intro _ _) | (refine J4 ?_; intro _ _) | refine K1 ?_ | refine K0 ?_ | refine K2 ?_ | refine K3 ?_ | refine K4 ?_ | (refine CV_pu ?_; intro _ _ _ _) | refine fV_ldN ?_ | refine fV_ld1 ?_ | refine fHV_ldN ?_ | refine fHV_ld1 ?_ | refine NilW_some ?_ | refine iCW_1 ?_ | refine iCW_N ?_ | refine Pk_b ?_))
            exact ⟨_, _, ‹_›, by rw [framedB, h2', hra, h', h'']; simp⟩
          · (repeat (first | (refine iDr ?_; intro _ _) | refine V_run ?_ | refine PV_run ?_ | refine HV_run ?_ | refine iV_ld1 ?_ | refine iV_ldN ?_ | (refine iV_bx ?_; intro _ _ _ _) | (refine iV_al ?_; intro _ _ _ _) | (refine iV_mm ?_; intro _ _ _ _) | (refine iU_st ?_; intro _ _) | refine iHV_1 ?_ | refine iHV_N ?_ | refine iRI_1 ?_ | refine iRI_N ?_ | refine Cond_t ?_ | refine Cond_f ?_ | refine JB ?_ | (refine JC ?_; intro _ _ _ _) | (refine J1 ?_; intro _ _) | (refine J0 ?_; intro _ _) | (refine J2 ?_; intro _ _) | (refine J3 ?_; intro _ _) | (refine J4 ?_; intro _ _) | refine K1 ?_ | refine K0 ?_ | refine K2 ?_ | refine K3 ?_ | refine K4 ?_ | (refine CV_pu ?_; intro _ _ _ _) | refine fV_ldN ?_ | refine fV_ld1 ?_ | refine fHV_ldN ?_ | refine fHV_ld1 ?_ | refine NilW_some ?_ | refine iCW_1 ?_ | refine iCW_N ?_ | refine Pk_b ?_))
            refine CV_1z (fun hz => pending ((hv2.take (k := i) (by omega)).mono hz)) ?_
            rintro z9 w9 v9 hle9 hS9 rfl
            (repeat (first | (refine iDr ?_; intro _ _) | refine V_run ?_ | refine PV_run ?_ | refine HV_run ?_ | refine iV_ld1 ?_ | refine iV_ldN ?_ | (refine iV_bx ?_; intro _ _ _ _) | (refine iV_al ?_; intro _ _ _ _) | (refine iV_mm ?_; intro _ _ _ _) | (refine iU_st ?_; intro _ _) | refine iHV_1 ?_ | refine iHV_N ?_ | refine iRI_1 ?_ | refine iRI_N ?_ | refine Cond_t ?_ | refine Cond_f ?_ | refine JB ?_ | (refine JC ?_; intro _ _ _ _) | (refine J1 ?_; intro _ _) | (refine J0 ?_; intro _ _) | (refine J2 ?_; intro _ _) | (refine J3 ?_; intro _ _) | (refine J4 ?_; intro _ _) | refine K1 ?_ | refine K0 ?_ | refine K2 ?_ | refine K3 ?_ | refine K4 ?_ | (refine CV_pu ?_; intro _ _ _ _) | refine fV_ldN ?_ | refine fV_ld1 ?_ | refine fHV_ldN ?_ | refine fHV_ld1 ?_ | refine NilW_some ?_ | refine iCW_1 ?_ | refine iCW_N ?_ | refine Pk_b ?_))
            refine Cond_d (fun h3 => ?_) (fun h3 => ?_)
            · exact ⟨_, _, ‹_›, by rw [framedB, h2', hra, decide_eq_true h3]; simp⟩
            · (repeat (first | (refine iDr ?_; intro _ _) | refine V_run ?_ | refine PV_run ?_ | refine HV_run ?_ | refine iV_ld1 ?_ | refine iV_ldN ?_ | (refine iV_bx ?_; intro _ _ _ _) | (refine iV_al ?_; intro _ _ _ _) | (refine iV_mm ?_; intro _ _ _ _) | (refine iU_st ?_; intro _ _) | refine iHV_1 ?_ | refine iHV_N ?_ | refine iRI_1 ?_ | refine iRI_N ?_ | refine Cond_t ?_ | refine Cond_f ?_ | refine JB ?_ | (refine JC ?_; intro _ _ _ _) | (refine J1 ?_; intro _ _) | (refine J0 ?_; intro _ _) | (refine J2 ?_; intro _ _) | (refine J3 ?_; intro _ _) | (refine J4 ?_; intro _ _) | refine K1 ?_ | refine K0 ?_ | refine K2 ?_ | refine K3 ?_ | refine K4 ?_ | (refine CV_pu ?_; intro _ _ _ _) | refine fV_ldN ?_ | refine fV_ld1 ?_ | refine fHV_ldN ?_ | refine fHV_ld1 ?_ | refine NilW_some ?_ | refine iCW_1 ?_ | refine iCW_N ?_ | refine Pk_b ?_))
              refine back (i + 1) _ _ ⟨by simp, by omega, ?_, _, Res.tl ‹_›⟩ (by omega)
              rw [h2', hra, h', h'', decide_eq_false h3, List.take_append_getElem hlt]; rfl
      · have hpd : f.pend.drop i = [] := List.drop_of_length_le (by omega)
        rw [hpd] at h2'
        exact ⟨_, _, ‹_›, by simp [framedB, h6, h2, h2', trapsFrom, pendFrom]⟩)
theorem refCheck {v : Value} {s : StM} {z : Z} {w : World} (hs : StR z v s) : Fn1 44 #[v] z w fun _ r => r = .int .i64 (errOf (checkB s) 2) := Fn1.intro fun hS => en44 (by
  unfold vc44
  obtain ⟨u, rfl, hu⟩ := hs
  obtain ⟨hb, a, cap, rfl, hc, hel⟩ := hu.form
  refine iV_bx ?_
  intro b0 w1 hb0 hS1
  (repeat (first | (refine iDr ?_; intro _ _) | refine V_run ?_ | refine PV_run ?_ | refine HV_run ?_ | refine iV_ld1 ?_ | refine iV_ldN ?_ | (refine iV_bx ?_; intro _ _ _ _) | (refine iV_al ?_; intro _ _ _ _) | (refine iV_mm ?_; intro _ _ _ _) | (refine iU_st ?_; intro _ _) | refine iHV_1 ?_ | refine iHV_N ?_ | refine iRI_1 ?_ | refine iRI_N ?_ | refine Cond_t ?_ | refine Cond_f ?_ | refine JB ?_ | (refine JC ?_; intro _ _ _ _) | (refine J1 ?_; intro _ _) | (refine J0 ?_; intro _ _) | (refine J2 ?_; intro _ _) | (refine J3 ?_; intro _ _) | (refine J4 ?_; intro _ _) | refine K1 ?_ | refine K0 ?_ | refine K2 ?_ | refine K3 ?_ | refine K4 ?_ | (refine CV_pu ?_; intro _ _ _ _) | refine fV_ldN ?_ | refine fV_ld1 ?_ | refine fHV_ldN ?_ | refine fHV_ld1 ?_ | refine NilW_some ?_ | refine iCW_1 ?_ | refine iCW_N ?_ | refine Pk_b ?_))
  refine Cond_b (fun h => ?_) (fun h => ?_)
  · refine ⟨_, _, ‹_›, ?_⟩
    have : (decide (1 ≤ s.length) && decide (s.length ≤ 30)) = false := by
      simp only [cond_eq_ite] at h
      by_cases h1 : (s.length : Int) < 1 <;> simp [h1] at h <;> simp <;> omega
    simp only [errOf, checkB, this, Bool.false_and]
    rfl
  · have h : 1 ≤ s.length ∧ s.length ≤ 30 := by
      simp only [cond_eq_ite] at h
      by_cases h1 : (s.length : Int) < 1 <;> simp [h1] at h <;> omega
    refine LoopG1 (fun (i : Nat) x w' => x = .int .i64 i ∧ i ≤ s.length ∧ s.all framedB = (s.drop i).all framedB ∧ ∃ z', Res w z [] w' z' [(b0, .cells [.slice a s.length cap].toArray 28 (0, 0))]) (fun i => s.length - i) 0 ⟨rfl, by omega, rfl, _, ‹_›⟩ ?_
    rintro I M i x w2 m ⟨rfl, h1, h2, z2, hS2⟩ back
    (repeat (first | (refine iDr ?_; intro _ _) | refine V_run ?_ | refine PV_run ?_ | refine HV_run ?_ | refine iV_ld1 ?_ | refine iV_ldN ?_ | (refine iV_bx ?_; intro _ _ _ _) | (refine iV_al ?_; intro _ _ _ _) | (refine iV_mm ?_; intro _ _ _ _) | (refine iU_st ?_; intro _ _) | refine iHV_1 ?_ | refine iHV_N ?_ | refine iRI_1 ?_ | refine iRI_N ?_ | refine Cond_t ?_ | refine Cond_f ?_ | refine JB ?_ | (refine JC ?_; intro _ _ _ _) | (refine J1 ?_; intro _ _) | (refine J0 ?_; intro _ _) | (refine J2 ?_; intro _ _) | (refine J3 ?_; intro _ _) | (refine J4 ?_; intro _ _) | refine K1 ?_ | refine K0 ?_ | refine K2 ?_ | refine K3 ?_ | refine K4 ?_ | (refine CV_pu ?_; intro _ _ _ _) | refine fV_ldN ?_ | refine fV_ld1 ?_ | refine fHV_ldN ?_ | refine fHV_ld1 ?_ | refine NilW_some ?_ | refine iCW_1 ?_ | refine iCW_N ?_ | refine Pk_b ?_))
    refine Cond_d (fun hh => ?_) (fun hh => ?_)
    · have hlt : i < s.length := by omega
      obtain ⟨b, off, cs, rfl, hr, hat⟩ := hel i _ (List.getElem?_eq_getElem hlt)
      haveI : InR (i : Int) s.length := ⟨by omega, by omega⟩
      haveI : InI ((i : Int) + 1) := ⟨by omega⟩
      haveI : Fz z b (off + (i : Int).toNat * 5) cs := ⟨by rw [Int.toNat_natCast]; exact hat⟩
      haveI : LenIs cs 5 := ⟨El.frame.len hr⟩
      (repeat (first | (refine iDr ?_; intro _ _) | refine V_run ?_ | refine PV_run ?_ | refine HV_run ?_ | refine iV_ld1 ?_ | refine iV_ldN ?_ | (refine iV_bx ?_; intro _ _ _ _) | (refine iV_al ?_; intro _ _ _ _) | (refine iV_mm ?_; intro _ _ _ _) | (refine iU_st ?_; intro _ _) | refine iHV_1 ?_ | refine iHV_N ?_ | refine iRI_1 ?_ | refine iRI_N ?_ | refine Cond_t ?_ | refine Cond_f ?_ | refine JB ?_ | (refine JC ?_; intro _ _ _ _) | (refine J1 ?_; intro _ _) | (refine J0 ?_; intro _ _) | (refine J2 ?_; intro _ _) | (refine J3 ?_; intro _ _) | (refine J4 ?_; intro _ _) | refine K1 ?_ | refine K0 ?_ | refine K2 ?_ | refine K3 ?_ | refine K4 ?_ | (refine CV_pu ?_; intro _ _ _ _) | refine fV_ldN ?_ | refine fV_ld1 ?_ | refine fHV_ldN ?_ | refine fHV_ld1 ?_ | refine NilW_some ?_ | refine iCW_1 ?_ | refine iCW_N ?_ | refine Pk_b ?_))
      refine CV_1z (fun hz => rightFrame ⟨cs, rfl, El.frame.mono hr hz⟩) ?_
      rintro z9 w9 v9 hle9 hS9 rfl
      (repeat (first | (refine iDr ?_; intro _ _) | refine V_run ?_ | refine PV_run ?_ | refine HV_run ?_ | refine iV_ld1 ?_ | refine iV_ldN ?_ | (refine iV_bx ?_; intro _ _ _ _) | (refine iV_al ?_; intro _ _ _ _) | (refine iV_mm ?_; intro _ _ _ _) | (refine iU_st ?_; intro _ _) | refine iHV_1 ?_ | refine iHV_N ?_ | refine iRI_1 ?_ | refine iRI_N ?_ | refine Cond_t ?_ | refine Cond_f ?_ | refine JB ?_ | (refine JC ?_; intro _ _ _ _) | (refine J1 ?_; intro _ _) | (refine J0 ?_; intro _ _) | (refine J2 ?_; intro _ _) | (refine J3 ?_; intro _ _) | (refine J4 ?_; intro _ _) | refine K1 ?_ | refine K0 ?_ | refine K2 ?_ | refine K3 ?_ | refine K4 ?_ | (refine CV_pu ?_; intro _ _ _ _) | refine fV_ldN ?_ | refine fV_ld1 ?_ | refine fHV_ldN ?_ | refine fHV_ld1 ?_ | refine NilW_some ?_ | refine iCW_1 ?_ | refine iCW_N ?_ | refine Pk_b ?_))
      rw [List.drop_eq_getElem_cons hlt] at h2
      simp only [List.all_cons] at h2
      refine Cond_n (fun h' => ?_) (fun h' => ?_)
      · exact ⟨_, _, ‹_›, by simp only [errOf, checkB, h2, h', Bool.false_and, Bool.and_false]; rfl⟩
      · (repeat (first | (refine iDr ?_; intro _ _) | refine V_run ?_ | refine PV_run ?_ | refine HV_run ?_ | refine iV_ld1 ?_ | refine iV_ldN ?_ | (refine iV_bx ?_; intro _ _ _ _) | (refine iV_al ?_; intro _ _ _ _) | (refine iV_mm ?_; intro _ _ _ _) | (refine iU_st ?_; intro _ _) | refine iHV_1 ?_ | refine iHV_N ?_ | refine iRI_1 ?_ | refine iRI_N ?_ | refine Cond_t ?_ | refine Cond_f ?_ | refine JB ?_ | (refine JC ?_; intro _ _ _ _) | (refine J1 ?_; intro _ _) | (refine J0 ?_; intro _ _) | (refine J2 ?_; intro _ _) | (refine J3 ?_; intro _ _) | (refine J4 ?_; intro _ _) | refine K1 ?_ | refine K0 ?_ | refine K2 ?_ | refine K3 ?_ | refine K4 ?_ | (refine CV_pu ?_; intro _ _ _ _) | refine fV_ldN ?_ | refine fV_ld1 ?_ | refine fHV_ldN ?_ | refine fHV_ld1 ?_ | refine NilW_some ?_ | refine iCW_1 ?_ | refine iCW_N ?_ | refine Pk_b ?_))
        exact back (i + 1) _ _ ⟨by simp, by omega, by rw [h2, h']; simp, _, ‹_›⟩ (by omega)
    · have hdone : s.drop i = [] := List.drop_of_length_le (by omega)
      rw [hdone] at h2
      exact ⟨_, _, ‹_›, by simp [errOf, checkB, h2, h]⟩)

/-! ### Equality -/
def listEq {α : Type} (q : α → α → Bool) : List α → List α → Bool
  | [], [] => true
  | x :: xs, y :: ys => q x y && listEq q xs ys
  | _, _ => false
theorem listEq_len {α : Type} {q : α → α → Bool} : ∀ {xs ys : List α}, listEq q xs ys = true → xs.length = ys.length
  | [], [], _ => rfl
  | x :: xs, y :: ys, h => by
    simp only [listEq, Bool.and_eq_true] at h
    simp [listEq_len h.2]
  | [], _ :: _, h => by simp [listEq] at h
  | _ :: _, [], h => by simp [listEq] at h
theorem listEq_iff {α : Type} {q : α → α → Bool} (hq : ∀ x y, q x y = true ↔ x = y) : ∀ {xs ys : List α}, listEq q xs ys = true ↔ xs = ys
  | [], [] => by simp [listEq]
  | x :: xs, y :: ys => by simp only [listEq, Bool.and_eq_true, hq, listEq_iff hq, List.cons.injEq]
  | [], _ :: _ => by simp [listEq]
  | _ :: _, [] => by simp [listEq]
theorem listEq_drop {α : Type} {q : α → α → Bool} {xs ys : List α} {i : Nat} (hx : i < xs.length) (hy : i < ys.length) : listEq q (xs.drop i) (ys.drop i) = (q xs[i] ys[i] && listEq q (xs.drop (i + 1)) (ys.drop (i + 1))) := by
  rw [List.drop_eq_getElem_cons hx, List.drop_eq_getElem_cons hy]
  rfl
theorem listEq_end {α : Type} {q : α → α → Bool} {xs ys : List α} {i : Nat} (hx : xs.length ≤ i) (hy : ys.length ≤ i) : listEq q (xs.drop i) (ys.drop i) = true := by
  rw [List.drop_of_length_le hx, List.drop_of_length_le hy]
  rfl
theorem listEq_ne {α : Type} {q : α → α → Bool} {xs ys : List α} (h : xs.length ≠ ys.length) : listEq q xs ys = false := by
  cases hh : listEq q xs ys with
  | false => rfl
  | true => exact absurd (listEq_len hh) h
theorem equalTraps {v v' : Value} {xs ys : List TrM} {z : Z} {w : World} (hx : SlR El.trap z v xs) (hy : SlR El.trap z v' ys) : Fn1 33 #[v, v'] z w fun _ r => r = .bool (listEq TrM.eqb xs ys) := Fn1.intro fun hS => en33 (by
  unfold vc33
  obtain ⟨hb, a, cap, rfl, hc, hel⟩ := hx.form
  obtain ⟨hb', a', cap', rfl, hc', hel'⟩ := hy.form
  (repeat (first | (refine iDr ?_; intro _ _) | refine V_run ?_ | refine PV_run ?_ | refine HV_run ?_ | refine iV_ld1 ?_ | refine iV_ldN ?_ | (refine iV_bx ?_; intro _ _ _ _) | (refine iV_al ?_; intro _ _ _ _) | (refine iV_mm ?_; intro _ _ _ _) | (refine iU_st ?_; intro _ _) | refine iHV_1 ?_ | refine iHV_N ?_ | refine iRI_1 ?_ | refine iRI_N ?_ | refine Cond_t ?_ | refine Cond_f ?_ | refine JB ?_ | (refine JC ?_; intro _ _ _ _) | (refine J1 ?_; intro _ _) | (refine J0 ?_; intro _ _) | (refine J2 ?_; intro _ _) | (refine J3 ?_; intro _ _) | (refine J4 ?_; intro _ _) | refine K1 ?_ | refine K0 ?_ | refine K2 ?_ | refine K3 ?_ | refine K4 ?_ | (refine CV_pu ?_; intro _ _ _ _) | refine fV_ldN ?_ | refine fV_ld1 ?_ | refine fHV_ldN ?_ | refine fHV_ld1 ?_ | refine NilW_some ?_ | refine iCW_1 ?_ | refine iCW_N ?_ | refine Pk_b ?_))
  refine Cond_nd (fun h => ?_) (fun h => ?_)
  · exact ⟨_, _, ‹_›, by rw [listEq_ne (by omega)]⟩
  · (repeat (first | (refine iDr ?_; intro _ _) | refine V_run ?_ | refine PV_run ?_ | refine HV_run ?_ | refine iV_ld1 ?_ | refine iV_ldN ?_ | (refine iV_bx ?_; intro _ _ _ _) | (refine iV_al ?_; intro _ _ _ _) | (refine iV_mm ?_; intro _ _ _ _) | (refine iU_st ?_; intro _ _) | refine iHV_1 ?_ | refine iHV_N ?_ | refine iRI_1 ?_ | refine iRI_N ?_ | refine Cond_t ?_ | refine Cond_f ?_ | refine JB ?_ | (refine JC ?_; intro _ _ _ _) | (refine J1 ?_; intro _ _) | (refine J0 ?_; intro _ _) | (refine J2 ?_; intro _ _) | (refine J3 ?_; intro _ _) | (refine J4 ?_; intro _ _) | refine K1 ?_ | refine K0 ?_ | refine K2 ?_ | refine K3 ?_ | refine K4 ?_ | (refine CV_pu ?_; intro _ _ _ _) | refine fV_ldN ?_ | refine fV_ld1 ?_ | refine fHV_ldN ?_ | refine fHV_ld1 ?_ | refine NilW_some ?_ | refine iCW_1 ?_ | refine iCW_N ?_ | refine Pk_b ?_))
    refine LoopG1 (fun (i : Nat) x w' => x = .int .i64 i ∧ i ≤ xs.length ∧ listEq TrM.eqb xs ys = listEq TrM.eqb (xs.drop i) (ys.drop i) ∧ Res w z [] w' z []) (fun i => xs.length - i) 0 ⟨rfl, by omega, rfl, hS⟩ ?_
    rintro I M i x w2 m ⟨rfl, h1, h2, hS2⟩ back
    (repeat (first | (refine iDr ?_; intro _ _) | refine V_run ?_ | refine PV_run ?_ | refine HV_run ?_ | refine iV_ld1 ?_ | refine iV_ldN ?_ | (refine iV_bx ?_; intro _ _ _ _) | (refine iV_al ?_; intro _ _ _ _) | (refine iV_mm ?_; intro _ _ _ _) | (refine iU_st ?_; intro _ _) | refine iHV_1 ?_ | refine iHV_N ?_ | refine iRI_1 ?_ | refine iRI_N ?_ | refine Cond_t ?_ | refine Cond_f ?_ | refine JB ?_ | (refine JC ?_; intro _ _ _ _) | (refine J1 ?_; intro _ _) | (refine J0 ?_; intro _ _) | (refine J2 ?_; intro _ _) | (refine J3 ?_; intro _ _) | (refine J4 ?_; intro _ _) | refine K1 ?_ | refine K0 ?_ | refine K2 ?_ | refine K3 ?_ | refine K4 ?_ | (refine CV_pu ?_; intro _ _ _ _) | refine fV_ldN ?_ | refine fV_ld1 ?_ | refine fHV_ldN ?_ | refine fHV_ld1 ?_ | refine NilW_some ?_ | refine iCW_1 ?_ | refine iCW_N ?_ | refine Pk_b ?_))
    refine Cond_d (fun hh => ?_) (fun hh => ?_)
    · have hlt : i < xs.length := by omega
      have hlt' : i < ys.length := by omega
      obtain ⟨b, off, cs, rfl, ⟨rfl, hr⟩, hat⟩ := hel i _ (List.getElem?_eq_getElem hlt)
      obtain ⟨b', off', cs', rfl, ⟨rfl, hr'⟩, hat'⟩ := hel' i _ (List.getElem?_eq_getElem hlt')
      haveI : InR (i : Int) xs.length := ⟨by omega, by omega⟩
      haveI : InR (i : Int) ys.length := ⟨by omega, by omega⟩
      haveI : InI ((i : Int) + 1) := ⟨by simp only [big] at hb; omega⟩
      haveI : Fz z b (off + (i : Int).toNat * 3) xs[i].cells := ⟨by rw [Int.toNat_natCast]; exact hat⟩
      haveI : Fz z b' (off' + (i : Int).toNat * 3) ys[i].cells := ⟨by rw [Int.toNat_natCast]; exact hat'⟩
      rw [listEq_drop hlt hlt'] at h2
      (repeat (first | (refine iDr ?_; intro _ _) | refine V_run ?_ | refine PV_run ?_ | refine HV_run ?_ | refine iV_ld1 ?_ | refine iV_ldN ?_ | (refine iV_bx ?_; intro _ _ _ _) | (refine iV_al ?_; intro _ _ _ _) | (refine iV_mm ?_; intro _ _ _ _) | (refine iU_st ?_; intro _ _) | refine iHV_1 ?_ | refine iHV_N ?_ | refine iRI_1 ?_ | refine iRI_N ?_ | refine Cond_t ?_ | refine Cond_f ?_ | refine JB ?_ | (refine JC ?_; intro _ _ _ _) | (refine J1 ?_; intro _ _) | (refine J0 ?_; intro _ _) | (refine J2 ?_; intro _ _) | (refine J3 ?_; intro _ _) | (refine J4 ?_; intro _ _) | refine K1 ?_ | refine K0 ?_ | refine K2 ?_ | refine K3 ?_ | refine K4 ?_ | (refine CV_pu ?_; intro _ _ _ _) | refine fV_ldN ?_ | refine fV_ld1 ?_ | refine fHV_ldN ?_ | refine fHV_ld1 ?_ | refine NilW_some ?_ | refine iCW_1 ?_ | refine iCW_N ?_ | refine Pk_b ?_))
      refine Cond_n (fun h' => ?_) (fun h' => ?_)
      · exact ⟨_, _, ‹_›, by rw [h2, show TrM.eqb xs[i] ys[i] = false from h']; rfl⟩
      · (repeat (first | (refine iDr ?_; intro _ _) | refine V_run ?_ | refine PV_run ?_ | refine HV_run ?_ | refine iV_ld1 ?_ | refine iV_ldN ?_ | (refine iV_bx ?_; intro _ _ _ _) | (refine iV_al ?_; intro _ _ _ _) | (refine iV_mm ?_; intro _ _ _ _) | (refine iU_st ?_; intro _ _) | refine iHV_1 ?_ | refine iHV_N ?_ | refine iRI_1 ?_ | refine iRI_N ?_ | refine Cond_t ?_ | refine Cond_f ?_ | refine JB ?_ | (refine JC ?_; intro _ _ _ _) | (refine J1 ?_; intro _ _) | (refine J0 ?_; intro _ _) | (refine J2 ?_; intro _ _) | (refine J3 ?_; intro _ _) | (refine J4 ?_; intro _ _) | refine K1 ?_ | refine K0 ?_ | refine K2 ?_ | refine K3 ?_ | refine K4 ?_ | (refine CV_pu ?_; intro _ _ _ _) | refine fV_ldN ?_ | refine fV_ld1 ?_ | refine fHV_ldN ?_ | refine fHV_ld1 ?_ | refine NilW_some ?_ | refine iCW_1 ?_ | refine iCW_N ?_ | refine Pk_b ?_))
        exact back (i + 1) _ _ ⟨by simp, by omega, by rw [h2, show TrM.eqb xs[i] ys[i] = true from h']; rfl, ‹_›⟩ (by omega)
    · exact ⟨_, _, ‹_›, by rw [h2, listEq_end (by omega) (by omega)]⟩)
theorem equalPend {v v' : Value} {xs ys : List RaM} {z : Z} {w : World} (hx : SlR El.raised z v xs) (hy : SlR El.raised z v' ys) : Fn1 79 #[v, v'] z w fun _ r => r = .bool (listEq RaM.eqb xs ys) := Fn1.intro fun hS => en79 (by
  unfold vc79
  obtain ⟨hb, a, cap, rfl, hc, hel⟩ := hx.form
  obtain ⟨hb', a', cap', rfl, hc', hel'⟩ := hy.form
  (repeat (first | (refine iDr ?_; intro _ _) | refine V_run ?_ | refine PV_run ?_ | refine HV_run ?_ | refine iV_ld1 ?_ | refine iV_ldN ?_ | (refine iV_bx ?_; intro _ _ _ _) | (refine iV_al ?_; intro _ _ _ _) | (refine iV_mm ?_; intro _ _ _ _) | (refine iU_st ?_; intro _ _) | refine iHV_1 ?_ | refine iHV_N ?_ | refine iRI_1 ?_ | refine iRI_N ?_ | refine Cond_t ?_ | refine Cond_f ?_ | refine JB ?_ | (refine JC ?_; intro _ _ _ _) | (refine J1 ?_; intro _ _) | (refine J0 ?_; intro _ _) | (refine J2 ?_; intro _ _) | (refine J3 ?_; intro _ _) | (refine J4 ?_; intro _ _) | refine K1 ?_ | refine K0 ?_ | refine K2 ?_ | refine K3 ?_ | refine K4 ?_ | (refine CV_pu ?_; intro _ _ _ _) | refine fV_ldN ?_ | refine fV_ld1 ?_ | refine fHV_ldN ?_ | refine fHV_ld1 ?_ | refine NilW_some ?_ | refine iCW_1 ?_ | refine iCW_N ?_ | refine Pk_b ?_))
  refine Cond_nd (fun h => ?_) (fun h => ?_)
  · exact ⟨_, _, ‹_›, by rw [listEq_ne (by omega)]⟩
  · (repeat (first | (refine iDr ?_; intro _ _) | refine V_run ?_ | refine PV_run ?_ | refine HV_run ?_ | refine iV_ld1 ?_ | refine iV_ldN ?_ | (refine iV_bx ?_; intro _ _ _ _) | (refine iV_al ?_; intro _ _ _ _) | (refine iV_mm ?_; intro _ _ _ _) | (refine iU_st ?_; intro _ _) | refine iHV_1 ?_ | refine iHV_N ?_ | refine iRI_1 ?_ | refine iRI_N ?_ | refine Cond_t ?_ | refine Cond_f ?_ | refine JB ?_ | (refine JC ?_; intro _ _ _ _) | (refine J1 ?_; intro _ _) | (refine J0 ?_; intro _ _) | (refine J2 ?_; intro _ _) | (refine J3 ?_; intro _ _) | (refine J4 ?_; intro _ _) | refine K1 ?_ | refine K0 ?_ | refine K2 ?_ | refine K3 ?_ | refine K4 ?_ | (refine CV_pu ?_; intro _ _ _ _) | refine fV_ldN ?_ | refine fV_ld1 ?_ | refine fHV_ldN ?_ | refine fHV_ld1 ?_ | refine NilW_some ?_ | refine iCW_1 ?_ | refine iCW_N ?_ | refine Pk_b ?_))
    refine LoopG1 (fun (i : Nat) x w' => x = .int .i64 i ∧ i ≤ xs.length ∧ listEq RaM.eqb xs ys = listEq RaM.eqb (xs.drop i) (ys.drop i) ∧ Res w z [] w' z []) (fun i => xs.length - i) 0 ⟨rfl, by omega, rfl, hS⟩ ?_
    rintro I M i x w2 m ⟨rfl, h1, h2, hS2⟩ back
    (repeat (first | (refine iDr ?_; intro _ _) | refine V_run ?_ | refine PV_run ?_ | refine HV_run ?_ | refine iV_ld1 ?_ | refine iV_ldN ?_ | (refine iV_bx ?_; intro _ _ _ _) | (refine iV_al ?_; intro _ _ _ _) | (refine iV_mm ?_; intro _ _ _ _) | (refine iU_st ?_; intro _ _) | refine iHV_1 ?_ | refine iHV_N ?_ | refine iRI_1 ?_ | refine iRI_N ?_ | refine Cond_t ?_ | refine Cond_f ?_ | refine JB ?_ | (refine JC ?_; intro _ _ _ _) | (refine J1 ?_; intro _ _) | (refine J0 ?_; intro _ _) | (refine J2 ?_; intro _ _) | (refine J3 ?_; intro _ _) | (refine J4 ?_; intro _ _) | refine K1 ?_ | refine K0 ?_ | refine K2 ?_ | refine K3 ?_ | refine K4 ?_ | (refine CV_pu ?_; intro _ _ _ _) | refine fV_ldN ?_ | refine fV_ld1 ?_ | refine fHV_ldN ?_ | refine fHV_ld1 ?_ | refine NilW_some ?_ | refine iCW_1 ?_ | refine iCW_N ?_ | refine Pk_b ?_))
    refine Cond_d (fun hh => ?_) (fun hh => ?_)
    · have hlt : i < xs.length := by omega
      have hlt' : i < ys.length := by omega
      obtain ⟨b, off, cs, rfl, ⟨rfl, hr⟩, hat⟩ := hel i _ (List.getElem?_eq_getElem hlt)
      obtain ⟨b', off', cs', rfl, ⟨rfl, hr'⟩, hat'⟩ := hel' i _ (List.getElem?_eq_getElem hlt')
      haveI : InR (i : Int) xs.length := ⟨by omega, by omega⟩
      haveI : InR (i : Int) ys.length := ⟨by omega, by omega⟩
      haveI : InI ((i : Int) + 1) := ⟨by simp only [big] at hb; omega⟩
      haveI : Fz z b (off + (i : Int).toNat * 2) xs[i].cells := ⟨by rw [Int.toNat_natCast]; exact hat⟩
      haveI : Fz z b' (off' + (i : Int).toNat * 2) ys[i].cells := ⟨by rw [Int.toNat_natCast]; exact hat'⟩
      rw [listEq_drop hlt hlt'] at h2
      (repeat (first | (refine iDr ?_; intro _ _) | refine V_run ?_ | refine PV_run ?_ | refine HV_run ?_ | refine iV_ld1 ?_ | refine iV_ldN ?_ | (refine iV_bx ?_; intro _ _ _ _) | (refine iV_al ?_; intro _ _ _ _) | (refine iV_mm ?_; intro _ _ _ _) | (refine iU_st ?_; intro _ _) | refine iHV_1 ?_ | refine iHV_N ?_ | refine iRI_1 ?_ | refine iRI_N ?_ | refine Cond_t ?_ | refine Cond_f ?_ | refine JB ?_ | (refine JC ?_; intro _ _ _ _) | (refine J1 ?_; intro _ _) | (refine J0 ?_; intro _ _) | (refine J2 ?_; intro _ _) | (refine J3 ?_; intro _ _) | (refine J4 ?_; intro _ _) | refine K1 ?_ | refine K0 ?_ | refine K2 ?_ | refine K3 ?_ | refine K4 ?_ | (refine CV_pu ?_; intro _ _ _ _) | refine fV_ldN ?_ | refine fV_ld1 ?_ | refine fHV_ldN ?_ | refine fHV_ld1 ?_ | refine NilW_some ?_ | refine iCW_1 ?_ | refine iCW_N ?_ | refine Pk_b ?_))
      refine Cond_n (fun h' => ?_) (fun h' => ?_)
      · exact ⟨_, _, ‹_›, by rw [h2, show RaM.eqb xs[i] ys[i] = false from h']; rfl⟩
      · (repeat (first | (refine iDr ?_; intro _ _) | refine V_run ?_ | refine PV_run ?_ | refine HV_run ?_ | refine iV_ld1 ?_ | refine iV_ldN ?_ | (refine iV_bx ?_; intro _ _ _ _) | (refine iV_al ?_; intro _ _ _ _) | (refine iV_mm ?_; intro _ _ _ _) | (refine iU_st ?_; intro _ _) | refine iHV_1 ?_ | refine iHV_N ?_ | refine iRI_1 ?_ | refine iRI_N ?_ | refine Cond_t ?_ | refine Cond_f ?_ | refine JB ?_ | (refine JC ?_; intro _ _ _ _) | (refine J1 ?_; intro _ _) | (refine J0 ?_; intro _ _) | (refine J2 ?_; intro _ _) | (refine J3 ?_; intro _ _) | (refine J4 ?_; intro _ _) | refine K1 ?_ | refine K0 ?_ | refine K2 ?_ | refine K3 ?_ | refine K4 ?_ | (refine CV_pu ?_; intro _ _ _ _) | refine fV_ldN ?_ | refine fV_ld1 ?_ | refine fHV_ldN ?_ | refine fHV_ld1 ?_ | refine NilW_some ?_ | refine iCW_1 ?_ | refine iCW_N ?_ | refine Pk_b ?_))
        exact back (i + 1) _ _ ⟨by simp, by omega, by rw [h2, show RaM.eqb xs[i] ys[i] = true from h']; rfl, ‹_›⟩ (by omega)
    · exact ⟨_, _, ‹_›, by rw [h2, listEq_end (by omega) (by omega)]⟩)
end Go.Proofs.Ytjnckainogpenaa
