/- The law TrapCatches, walked. -/
import Derived.Test.YtjnckainogpenaaT29
set_option linter.unusedVariables false
set_option linter.unusedSimpArgs false
set_option maxRecDepth 20000
set_option synthInstance.maxHeartbeats 400000
set_option synthInstance.maxSize 4000
namespace Go.Proofs.Ytjnckainogpenaa
open Go Q Go.RowKit

instance : Pu 12 #[] (.bool true) := ⟨fun z w => sane⟩
theorem V_rem {t : Nat} {a b : Int} {w : World} {K : Value → World → Prop} (ha : 0 ≤ a ∧ a ≤ 1000000) (hb : 0 < b ∧ b ≤ 1000000) (hk : K (.int .i64 (a % b)) w) : V (bi .rem t (.int .i64 a) (.int .i64 b)) w K := by
  refine ⟨_, w, ?_, hk⟩
  have h1 : a.tmod b = a % b := Int.tmod_eq_emod_of_nonneg ha.1
  have h2 : IntKind.i64.wrap (a % b) = a % b := wrap_in ⟨by have := Int.emod_nonneg a (show b ≠ 0 by omega); omega, by have := Int.emod_lt_of_pos a hb.1; omega⟩
  have h3 : ¬ (b = 0) := by omega
  simp [bi, binOp, Op.intDiv, h3, h1, h2]
theorem lawCatches {v : Value} {l : List OpM} {c : Int} {z : Z} {w : World} (hl : SlR El.op z v l) (hc : 0 ≤ c ∧ c ≤ 255) : Fn1 6 #[v, .int .u8 c] z w fun _ r => r = .bool true := Fn1.intro fun hS => en6 (by
  unfold vc6
  refine CV_1 (playedP hl) ?_
  rintro z1 w1 _ hle1 hS1 ⟨_, rfl, u, rfl, hu⟩
  obtain ⟨hb, a0, cap0, rfl, hcap, hel⟩ := hu.form
  (repeat (first | (refine iDr ?_; intro _ _) | refine V_run ?_ | refine PV_run ?_ | refine HV_run ?_ | refine iV_ld1 ?_ | refine iV_ldN ?_ | (refine iV_bx ?_; intro _ _ _ _) | (refine iV_al ?_; intro _ _ _ _) | (refine iV_mm ?_; intro _ _ _ _) | (refine iU_st ?_; intro _ _) | refine iHV_1 ?_ | refine iHV_N ?_ | refine iRI_1 ?_ | refine iRI_N ?_ | refine Cond_t ?_ | refine Cond_f ?_ | refine JB ?_ | (refine JC ?_; intro _ _ _ _) | (refine J1 ?_; intro _ _) | (refine J0 ?_; intro _ _) | (refine J2 ?_; intro _ _) | (refine J3 ?_; intro _ _) | (refine J4 ?_; intro _ _) | refine K1 ?_ | refine K0 ?_ | refine K2 ?_ | refine K3 ?_ | refine K4 ?_ | (refine CV_pu ?_; intro _ _ _ _) | refine fV_ldN ?_ | refine fV_ld1 ?_ | refine fHV_ldN ?_ | refine fHV_ld1 ?_ | refine NilW_some ?_ | refine iCW_1 ?_ | refine iCW_N ?_ | refine Pk_b ?_))
  refine Cond_n (fun hok => ?_) (fun hok => ?_)
  · (repeat (first | (refine iDr ?_; intro _ _) | refine V_run ?_ | refine PV_run ?_ | refine HV_run ?_ | refine iV_ld1 ?_ | refine iV_ldN ?_ | (refine iV_bx ?_; intro _ _ _ _) | (refine iV_al ?_; intro _ _ _ _) | (refine iV_mm ?_; intro _ _ _ _) | (refine iU_st ?_; intro _ _) | refine iHV_1 ?_ | refine iHV_N ?_ | refine iRI_1 ?_ | refine iRI_N ?_ | refine Cond_t ?_ | refine Cond_f ?_ | refine JB ?_ | (refine JC ?_; intro _ _ _ _) | (refine J1 ?_; intro _ _) | (refine J0 ?_; intro _ _) | (refine J2 ?_; intro _ _) | (refine J3 ?_; intro _ _) | (refine J4 ?_; intro _ _) | refine K1 ?_ | refine K0 ?_ | refine K2 ?_ | refine K3 ?_ | refine K4 ?_ | (refine CV_pu ?_; intro _ _ _ _) | refine fV_ldN ?_ | refine fV_ld1 ?_ | refine fHV_ldN ?_ | refine fHV_ld1 ?_ | refine NilW_some ?_ | refine iCW_1 ?_ | refine iCW_N ?_ | refine Pk_b ?_))
    exact ⟨_, _, ‹_›, rfl⟩
  · have hck : checkB (playedM l) = true := by rw [playedM, if_pos hok]; exact playFrom_ok newM_ok
    generalize playedM l = s at *
    obtain ⟨pre, f, rfl, h6, hp4, hpre, hfd, hlast, hdl⟩ := lastSplit hck
    have hl1 : (pre ++ [f]).length = pre.length + 1 := by simp
    obtain ⟨b, off, cs, rfl, ⟨v1, v2, rfl, hv1, hv2, hd⟩, hat⟩ := hel pre.length f (by simp)
    obtain ⟨_, a2, cap2, rfl, _, _⟩ := hv2.form
    haveI : InI (((pre ++ [f]).length : Int) - 1) := ⟨by rw [hl1]; omega⟩
    haveI : InR (((pre ++ [f]).length : Int) - 1) ((pre ++ [f]).length : Nat) := ⟨by rw [hl1]; omega, by rw [hl1]; omega⟩
    (repeat (first | (refine iDr ?_; intro _ _) | refine V_run ?_ | refine PV_run ?_ | refine HV_run ?_ | refine iV_ld1 ?_ | refine iV_ldN ?_ | (refine iV_bx ?_; intro _ _ _ _) | (refine iV_al ?_; intro _ _ _ _) | (refine iV_mm ?_; intro _ _ _ _) | (refine iU_st ?_; intro _ _) | refine iHV_1 ?_ | refine iHV_N ?_ | refine iRI_1 ?_ | refine iRI_N ?_ | refine Cond_t ?_ | refine Cond_f ?_ | refine JB ?_ | (refine JC ?_; intro _ _ _ _) | (refine J1 ?_; intro _ _) | (refine J0 ?_; intro _ _) | (refine J2 ?_; intro _ _) | (refine J3 ?_; intro _ _) | (refine J4 ?_; intro _ _) | refine K1 ?_ | refine K0 ?_ | refine K2 ?_ | refine K3 ?_ | refine K4 ?_ | (refine CV_pu ?_; intro _ _ _ _) | refine fV_ldN ?_ | refine fV_ld1 ?_ | refine fHV_ldN ?_ | refine fHV_ld1 ?_ | refine NilW_some ?_ | refine iCW_1 ?_ | refine iCW_N ?_ | refine Pk_b ?_))
    have hix : (((pre ++ [f]).length : Int) - 1).toNat = pre.length := by rw [hl1]; omega
    rw [hix]
    have hat1 : At z1 b (off + (pre.length * 5 + 1)) [.slice a2 f.pend.length cap2] := by
      obtain ⟨cc, cty, cfr, g1, g2⟩ := hat
      refine ⟨cc, cty, cfr, g1, fun j v hv => ?_⟩
      have := g2 (j + 1) v (by cases j with
        | zero => simpa using hv
        | succ j => simp at hv)
      rw [← this]
      congr 1
      show off + (pre.length * 5 + 1) + j = off + pre.length * 5 + (j + 1)
      omega
    refine zV_ld1 hat1 ?_
    (repeat (first | (refine iDr ?_; intro _ _) | refine V_run ?_ | refine PV_run ?_ | refine HV_run ?_ | refine iV_ld1 ?_ | refine iV_ldN ?_ | (refine iV_bx ?_; intro _ _ _ _) | (refine iV_al ?_; intro _ _ _ _) | (refine iV_mm ?_; intro _ _ _ _) | (refine iU_st ?_; intro _ _) | refine iHV_1 ?_ | refine iHV_N ?_ | refine iRI_1 ?_ | refine iRI_N ?_ | refine Cond_t ?_ | refine Cond_f ?_ | refine JB ?_ | (refine JC ?_; intro _ _ _ _) | (refine J1 ?_; intro _ _) | (refine J0 ?_; intro _ _) | (refine J2 ?_; intro _ _) | (refine J3 ?_; intro _ _) | (refine J4 ?_; intro _ _) | refine K1 ?_ | refine K0 ?_ | refine K2 ?_ | refine K3 ?_ | refine K4 ?_ | (refine CV_pu ?_; intro _ _ _ _) | refine fV_ldN ?_ | refine fV_ld1 ?_ | refine fHV_ldN ?_ | refine fHV_ld1 ?_ | refine NilW_some ?_ | refine iCW_1 ?_ | refine iCW_N ?_ | refine Pk_b ?_))
    refine Cond_d (fun hpn => ?_) (fun hpn => ?_)
    · (repeat (first | (refine iDr ?_; intro _ _) | refine V_run ?_ | refine PV_run ?_ | refine HV_run ?_ | refine iV_ld1 ?_ | refine iV_ldN ?_ | (refine iV_bx ?_; intro _ _ _ _) | (refine iV_al ?_; intro _ _ _ _) | (refine iV_mm ?_; intro _ _ _ _) | (refine iU_st ?_; intro _ _) | refine iHV_1 ?_ | refine iHV_N ?_ | refine iRI_1 ?_ | refine iRI_N ?_ | refine Cond_t ?_ | refine Cond_f ?_ | refine JB ?_ | (refine JC ?_; intro _ _ _ _) | (refine J1 ?_; intro _ _) | (refine J0 ?_; intro _ _) | (refine J2 ?_; intro _ _) | (refine J3 ?_; intro _ _) | (refine J4 ?_; intro _ _) | refine K1 ?_ | refine K0 ?_ | refine K2 ?_ | refine K3 ?_ | refine K4 ?_ | (refine CV_pu ?_; intro _ _ _ _) | refine fV_ldN ?_ | refine fV_ld1 ?_ | refine fHV_ldN ?_ | refine fHV_ld1 ?_ | refine NilW_some ?_ | refine iCW_1 ?_ | refine iCW_N ?_ | refine Pk_b ?_))
      exact ⟨_, _, ‹_›, rfl⟩
    · (repeat (first | (refine iDr ?_; intro _ _) | refine V_run ?_ | refine PV_run ?_ | refine HV_run ?_ | refine iV_ld1 ?_ | refine iV_ldN ?_ | (refine iV_bx ?_; intro _ _ _ _) | (refine iV_al ?_; intro _ _ _ _) | (refine iV_mm ?_; intro _ _ _ _) | (refine iU_st ?_; intro _ _) | refine iHV_1 ?_ | refine iHV_N ?_ | refine iRI_1 ?_ | refine iRI_N ?_ | refine Cond_t ?_ | refine Cond_f ?_ | refine JB ?_ | (refine JC ?_; intro _ _ _ _) | (refine J1 ?_; intro _ _) | (refine J0 ?_; intro _ _) | (refine J2 ?_; intro _ _) | (refine J3 ?_; intro _ _) | (refine J4 ?_; intro _ _) | refine K1 ?_ | refine K0 ?_ | refine K2 ?_ | refine K3 ?_ | refine K4 ?_ | (refine CV_pu ?_; intro _ _ _ _) | refine fV_ldN ?_ | refine fV_ld1 ?_ | refine fHV_ldN ?_ | refine fHV_ld1 ?_ | refine NilW_some ?_ | refine iCW_1 ?_ | refine iCW_N ?_ | refine Pk_b ?_))
      rw [wrap_in ⟨by omega, by omega⟩]
      refine V_rem (by omega) (by omega) ?_
      have hc0 : 0 ≤ c % 6 := Int.emod_nonneg c (by decide)
      have hc1 : c % 6 < 6 := Int.emod_lt_of_pos c (by decide)
      generalize c % 6 = d at *
      (repeat (first | (refine iDr ?_; intro _ _) | refine V_run ?_ | refine PV_run ?_ | refine HV_run ?_ | refine iV_ld1 ?_ | refine iV_ldN ?_ | (refine iV_bx ?_; intro _ _ _ _) | (refine iV_al ?_; intro _ _ _ _) | (refine iV_mm ?_; intro _ _ _ _) | (refine iU_st ?_; intro _ _) | refine iHV_1 ?_ | refine iHV_N ?_ | refine iRI_1 ?_ | refine iRI_N ?_ | refine Cond_t ?_ | refine Cond_f ?_ | refine JB ?_ | (refine JC ?_; intro _ _ _ _) | (refine J1 ?_; intro _ _) | (refine J0 ?_; intro _ _) | (refine J2 ?_; intro _ _) | (refine J3 ?_; intro _ _) | (refine J4 ?_; intro _ _) | refine K1 ?_ | refine K0 ?_ | refine K2 ?_ | refine K3 ?_ | refine K4 ?_ | (refine CV_pu ?_; intro _ _ _ _) | refine fV_ldN ?_ | refine fV_ld1 ?_ | refine fHV_ldN ?_ | refine fHV_ld1 ?_ | refine NilW_some ?_ | refine iCW_1 ?_ | refine iCW_N ?_ | refine Pk_b ?_))
      refine CV_1 (CatchesP (c := d) ⟨_, rfl, hu⟩) ?_
      rintro z3 w3 _ hle3 hS3 rfl
      dsimp only [AcM.v] at *
      (repeat (first | (refine iDr ?_; intro _ _) | refine V_run ?_ | refine PV_run ?_ | refine HV_run ?_ | refine iV_ld1 ?_ | refine iV_ldN ?_ | (refine iV_bx ?_; intro _ _ _ _) | (refine iV_al ?_; intro _ _ _ _) | (refine iV_mm ?_; intro _ _ _ _) | (refine iU_st ?_; intro _ _) | refine iHV_1 ?_ | refine iHV_N ?_ | refine iRI_1 ?_ | refine iRI_N ?_ | refine Cond_t ?_ | refine Cond_f ?_ | refine JB ?_ | (refine JC ?_; intro _ _ _ _) | (refine J1 ?_; intro _ _) | (refine J0 ?_; intro _ _) | (refine J2 ?_; intro _ _) | (refine J3 ?_; intro _ _) | (refine J4 ?_; intro _ _) | refine K1 ?_ | refine K0 ?_ | refine K2 ?_ | refine K3 ?_ | refine K4 ?_ | (refine CV_pu ?_; intro _ _ _ _) | refine fV_ldN ?_ | refine fV_ld1 ?_ | refine fHV_ldN ?_ | refine fHV_ld1 ?_ | refine NilW_some ?_ | refine iCW_1 ?_ | refine iCW_N ?_ | refine Pk_b ?_))
      refine CV_1 (RaiseP (c := d) ⟨_, rfl, hu.mono hle3⟩ emptySm) ?_
      rintro z4 w4 _ hle4 hS4 ⟨_, rfl, u4, rfl, hu4⟩
      obtain ⟨_, a4, cap4, rfl, _, _⟩ := hu4.form
      dsimp only [AcM.v] at *
      (repeat (first | (refine iDr ?_; intro _ _) | refine V_run ?_ | refine PV_run ?_ | refine HV_run ?_ | refine iV_ld1 ?_ | refine iV_ldN ?_ | (refine iV_bx ?_; intro _ _ _ _) | (refine iV_al ?_; intro _ _ _ _) | (refine iV_mm ?_; intro _ _ _ _) | (refine iU_st ?_; intro _ _) | refine iHV_1 ?_ | refine iHV_N ?_ | refine iRI_1 ?_ | refine iRI_N ?_ | refine Cond_t ?_ | refine Cond_f ?_ | refine JB ?_ | (refine JC ?_; intro _ _ _ _) | (refine J1 ?_; intro _ _) | (refine J0 ?_; intro _ _) | (refine J2 ?_; intro _ _) | (refine J3 ?_; intro _ _) | (refine J4 ?_; intro _ _) | refine K1 ?_ | refine K0 ?_ | refine K2 ?_ | refine K3 ?_ | refine K4 ?_ | (refine CV_pu ?_; intro _ _ _ _) | refine fV_ldN ?_ | refine fV_ld1 ?_ | refine fHV_ldN ?_ | refine fHV_ld1 ?_ | refine NilW_some ?_ | refine iCW_1 ?_ | refine iCW_N ?_ | refine Pk_b ?_))
      have hlaw := catches_law (c := d) hck (by rw [hlast]; exact List.eq_nil_of_length_eq_zero (by omega)) hc0 hc1
      rw [catchLaw] at hlaw
      refine Cond_b (fun hq => ?_) (fun hq => ?_)
      · have hq' : (doneM (pre ++ [f]) (raiseO d ⟨#[]⟩) [d]).e = 0 ∧ (doneM (pre ++ [f]) (raiseO d ⟨#[]⟩) [d]).a.kind = 0 := by
          simp only [cond_eq_ite] at hq
          by_cases e : (doneM (pre ++ [f]) (raiseO d ⟨#[]⟩) [d]).e = 0 <;> simp [e] at hq ⊢
          exact hq
        rw [if_pos hq'] at hlaw
        (repeat (first | (refine iDr ?_; intro _ _) | refine V_run ?_ | refine PV_run ?_ | refine HV_run ?_ | refine iV_ld1 ?_ | refine iV_ldN ?_ | (refine iV_bx ?_; intro _ _ _ _) | (refine iV_al ?_; intro _ _ _ _) | (refine iV_mm ?_; intro _ _ _ _) | (refine iU_st ?_; intro _ _) | refine iHV_1 ?_ | refine iHV_N ?_ | refine iRI_1 ?_ | refine iRI_N ?_ | refine Cond_t ?_ | refine Cond_f ?_ | refine JB ?_ | (refine JC ?_; intro _ _ _ _) | (refine J1 ?_; intro _ _) | (refine J0 ?_; intro _ _) | (refine J2 ?_; intro _ _) | (refine J3 ?_; intro _ _) | (refine J4 ?_; intro _ _) | refine K1 ?_ | refine K0 ?_ | refine K2 ?_ | refine K3 ?_ | refine K4 ?_ | (refine CV_pu ?_; intro _ _ _ _) | refine fV_ldN ?_ | refine fV_ld1 ?_ | refine fHV_ldN ?_ | refine fHV_ld1 ?_ | refine NilW_some ?_ | refine iCW_1 ?_ | refine iCW_N ?_ | refine Pk_b ?_))
        refine CV_1 (EndClauseP ⟨_, rfl, hu4.mono ‹Le z4 _›⟩) ?_
        rintro z5 w5 _ hle5 hS5 ⟨_, rfl, u5, rfl, hu5⟩
        dsimp only [AcM.v] at *
        (repeat (first | (refine iDr ?_; intro _ _) | refine V_run ?_ | refine PV_run ?_ | refine HV_run ?_ | refine iV_ld1 ?_ | refine iV_ldN ?_ | (refine iV_bx ?_; intro _ _ _ _) | (refine iV_al ?_; intro _ _ _ _) | (refine iV_mm ?_; intro _ _ _ _) | (refine iU_st ?_; intro _ _) | refine iHV_1 ?_ | refine iHV_N ?_ | refine iRI_1 ?_ | refine iRI_N ?_ | refine Cond_t ?_ | refine Cond_f ?_ | refine JB ?_ | (refine JC ?_; intro _ _ _ _) | (refine J1 ?_; intro _ _) | (refine J0 ?_; intro _ _) | (refine J2 ?_; intro _ _) | (refine J3 ?_; intro _ _) | (refine J4 ?_; intro _ _) | refine K1 ?_ | refine K0 ?_ | refine K2 ?_ | refine K3 ?_ | refine K4 ?_ | (refine CV_pu ?_; intro _ _ _ _) | refine fV_ldN ?_ | refine fV_ld1 ?_ | refine fHV_ldN ?_ | refine fHV_ld1 ?_ | refine NilW_some ?_ | refine iCW_1 ?_ | refine iCW_N ?_ | refine Pk_b ?_))
        exact ⟨_, _, ‹_›, by rw [hlaw]; simp⟩
      · have hq' : ¬ ((doneM (pre ++ [f]) (raiseO d ⟨#[]⟩) [d]).e = 0 ∧ (doneM (pre ++ [f]) (raiseO d ⟨#[]⟩) [d]).a.kind = 0) := by
          simp only [cond_eq_ite] at hq
          by_cases e : (doneM (pre ++ [f]) (raiseO d ⟨#[]⟩) [d]).e = 0 <;> simp [e] at hq ⊢
          exact hq
        rw [if_neg hq'] at hlaw
        (repeat (first | (refine iDr ?_; intro _ _) | refine V_run ?_ | refine PV_run ?_ | refine HV_run ?_ | refine iV_ld1 ?_ | refine iV_ldN ?_ | (refine iV_bx ?_; intro _ _ _ _) | (refine iV_al ?_; intro _ _ _ _) | (refine iV_mm ?_; intro _ _ _ _) | (refine iU_st ?_; intro _ _) | refine iHV_1 ?_ | refine iHV_N ?_ | refine iRI_1 ?_ | refine iRI_N ?_ | refine Cond_t ?_ | refine Cond_f ?_ | refine JB ?_ | (refine JC ?_; intro _ _ _ _) | (refine J1 ?_; intro _ _) | (refine J0 ?_; intro _ _) | (refine J2 ?_; intro _ _) | (refine J3 ?_; intro _ _) | (refine J4 ?_; intro _ _) | refine K1 ?_ | refine K0 ?_ | refine K2 ?_ | refine K3 ?_ | refine K4 ?_ | (refine CV_pu ?_; intro _ _ _ _) | refine fV_ldN ?_ | refine fV_ld1 ?_ | refine fHV_ldN ?_ | refine fHV_ld1 ?_ | refine NilW_some ?_ | refine iCW_1 ?_ | refine iCW_N ?_ | refine Pk_b ?_))
        exact ⟨_, _, ‹_›, by rw [hlaw]; simp⟩)
end Go.Proofs.Ytjnckainogpenaa
