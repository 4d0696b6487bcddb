/- The operations' own names; the first state; names. -/
import Derived.Test.YtjnckainogpenaaT19
set_option linter.unusedVariables false
set_option maxRecDepth 20000
set_option synthInstance.maxHeartbeats 400000
set_option synthInstance.maxSize 4000
namespace Go.Proofs.Ytjnckainogpenaa
open Go Q Go.RowKit

/-- The result of a step without its action. -/
def StepR2 (z : Z) (r : Value) (m : StepM) : Prop := ∃ v, r = .tuple #[v, .int .i64 m.e] ∧ StR z v m.s
def endO : OpM := ⟨3, 0, 0, ⟨#[]⟩⟩
def callO : OpM := ⟨4, 0, 0, ⟨#[]⟩⟩
def backO : OpM := ⟨5, 0, 0, ⟨#[]⟩⟩
def setO (c m : Int) (t : ByteArray) : OpM := ⟨1, c, m, t⟩
def raiseO (c : Int) (t : ByteArray) : OpM := ⟨2, c, 0, t⟩
theorem emptySm : (⟨#[]⟩ : ByteArray).size ≤ big := Nat.zero_le _
theorem EndClauseP {v : Value} {s : StM} {z : Z} {w : World} (hs : StR z v s) : Fn1 18 #[v] z w fun z' r => StepR z' r (doneM s endO []) := Fn1.intro fun hS => en18 (by
  unfold vc18
  obtain ⟨u, rfl, hu⟩ := hs
  obtain ⟨hb, a, cap, rfl, hcap, hel⟩ := hu.form
  (repeat (first | (refine iDr ?_; intro _ _) | refine V_run ?_ | refine PV_run ?_ | refine HV_run ?_ | refine iV_ld1 ?_ | refine iV_ldN ?_ | (refine iV_bx ?_; intro _ _ _ _) | (refine iV_al ?_; intro _ _ _ _) | (refine iV_mm ?_; intro _ _ _ _) | (refine iU_st ?_; intro _ _) | refine iHV_1 ?_ | refine iHV_N ?_ | refine iRI_1 ?_ | refine iRI_N ?_ | refine Cond_t ?_ | refine Cond_f ?_ | refine JB ?_ | (refine JC ?_; intro _ _ _ _) | (refine J1 ?_; intro _ _) | (refine J0 ?_; intro _ _) | (refine J2 ?_; intro _ _) | (refine J3 ?_; intro _ _) | (refine J4 ?_; intro _ _) | refine K1 ?_ | refine K0 ?_ | refine K2 ?_ | refine K3 ?_ | refine K4 ?_ | (refine CV_pu ?_; intro _ _ _ _) | refine fV_ldN ?_ | refine fV_ld1 ?_ | refine fHV_ldN ?_ | refine fHV_ld1 ?_ | refine NilW_some ?_ | refine iCW_1 ?_ | refine iCW_N ?_ | refine Pk_b ?_))
  refine CV_1z (fun hz => doneP (o := endO) (conds := []) ⟨_, rfl, hu.mono hz⟩ SlR.nil (by decide) (by intro h; rcases h with h | h <;> cases h) emptySm) ?_
  rintro z9 w9 v9 hle9 hS9 ⟨v', rfl, hv'⟩
  obtain ⟨u', rfl, hu'⟩ := hv'
  obtain ⟨hb', a', cap', rfl, hcap', hel'⟩ := hu'.form
  dsimp only [AcM.v] at *
  (repeat (first | (refine iDr ?_; intro _ _) | refine V_run ?_ | refine PV_run ?_ | refine HV_run ?_ | refine iV_ld1 ?_ | refine iV_ldN ?_ | (refine iV_bx ?_; intro _ _ _ _) | (refine iV_al ?_; intro _ _ _ _) | (refine iV_mm ?_; intro _ _ _ _) | (refine iU_st ?_; intro _ _) | refine iHV_1 ?_ | refine iHV_N ?_ | refine iRI_1 ?_ | refine iRI_N ?_ | refine Cond_t ?_ | refine Cond_f ?_ | refine JB ?_ | (refine JC ?_; intro _ _ _ _) | (refine J1 ?_; intro _ _) | (refine J0 ?_; intro _ _) | (refine J2 ?_; intro _ _) | (refine J3 ?_; intro _ _) | (refine J4 ?_; intro _ _) | refine K1 ?_ | refine K0 ?_ | refine K2 ?_ | refine K3 ?_ | refine K4 ?_ | (refine CV_pu ?_; intro _ _ _ _) | refine fV_ldN ?_ | refine fV_ld1 ?_ | refine fHV_ldN ?_ | refine fHV_ld1 ?_ | refine NilW_some ?_ | refine iCW_1 ?_ | refine iCW_N ?_ | refine Pk_b ?_))
  exact ⟨_, _, ‹_›, _, rfl, _, rfl, hu'⟩)
theorem CallP {v : Value} {s : StM} {z : Z} {w : World} (hs : StR z v s) : Fn1 23 #[v] z w fun z' r => StepR2 z' r (doneM s callO []) := Fn1.intro fun hS => en23 (by
  unfold vc23
  obtain ⟨u, rfl, hu⟩ := hs
  obtain ⟨hb, a, cap, rfl, hcap, hel⟩ := hu.form
  (repeat (first | (refine iDr ?_; intro _ _) | refine V_run ?_ | refine PV_run ?_ | refine HV_run ?_ | refine iV_ld1 ?_ | refine iV_ldN ?_ | (refine iV_bx ?_; intro _ _ _ _) | (refine iV_al ?_; intro _ _ _ _) | (refine iV_mm ?_; intro _ _ _ _) | (refine iU_st ?_; intro _ _) | refine iHV_1 ?_ | refine iHV_N ?_ | refine iRI_1 ?_ | refine iRI_N ?_ | refine Cond_t ?_ | refine Cond_f ?_ | refine JB ?_ | (refine JC ?_; intro _ _ _ _) | (refine J1 ?_; intro _ _) | (refine J0 ?_; intro _ _) | (refine J2 ?_; intro _ _) | (refine J3 ?_; intro _ _) | (refine J4 ?_; intro _ _) | refine K1 ?_ | refine K0 ?_ | refine K2 ?_ | refine K3 ?_ | refine K4 ?_ | (refine CV_pu ?_; intro _ _ _ _) | refine fV_ldN ?_ | refine fV_ld1 ?_ | refine fHV_ldN ?_ | refine fHV_ld1 ?_ | refine NilW_some ?_ | refine iCW_1 ?_ | refine iCW_N ?_ | refine Pk_b ?_))
  refine CV_1z (fun hz => doneP (o := callO) (conds := []) ⟨_, rfl, hu.mono hz⟩ SlR.nil (by decide) (by intro h; rcases h with h | h <;> cases h) emptySm) ?_
  rintro z9 w9 v9 hle9 hS9 ⟨v', rfl, hv'⟩
  obtain ⟨u', rfl, hu'⟩ := hv'
  obtain ⟨hb', a', cap', rfl, hcap', hel'⟩ := hu'.form
  dsimp only [AcM.v] at *
  (repeat (first | (refine iDr ?_; intro _ _) | refine V_run ?_ | refine PV_run ?_ | refine HV_run ?_ | refine iV_ld1 ?_ | refine iV_ldN ?_ | (refine iV_bx ?_; intro _ _ _ _) | (refine iV_al ?_; intro _ _ _ _) | (refine iV_mm ?_; intro _ _ _ _) | (refine iU_st ?_; intro _ _) | refine iHV_1 ?_ | refine iHV_N ?_ | refine iRI_1 ?_ | refine iRI_N ?_ | refine Cond_t ?_ | refine Cond_f ?_ | refine JB ?_ | (refine JC ?_; intro _ _ _ _) | (refine J1 ?_; intro _ _) | (refine J0 ?_; intro _ _) | (refine J2 ?_; intro _ _) | (refine J3 ?_; intro _ _) | (refine J4 ?_; intro _ _) | refine K1 ?_ | refine K0 ?_ | refine K2 ?_ | refine K3 ?_ | refine K4 ?_ | (refine CV_pu ?_; intro _ _ _ _) | refine fV_ldN ?_ | refine fV_ld1 ?_ | refine fHV_ldN ?_ | refine fHV_ld1 ?_ | refine NilW_some ?_ | refine iCW_1 ?_ | refine iCW_N ?_ | refine Pk_b ?_))
  exact ⟨_, _, ‹_›, _, rfl, _, rfl, hu'⟩)
theorem ReturnP {v : Value} {s : StM} {z : Z} {w : World} (hs : StR z v s) : Fn1 19 #[v] z w fun z' r => StepR2 z' r (doneM s backO []) := Fn1.intro fun hS => en19 (by
  unfold vc19
  obtain ⟨u, rfl, hu⟩ := hs
  obtain ⟨hb, a, cap, rfl, hcap, hel⟩ := hu.form
  (repeat (first | (refine iDr ?_; intro _ _) | refine V_run ?_ | refine PV_run ?_ | refine HV_run ?_ | refine iV_ld1 ?_ | refine iV_ldN ?_ | (refine iV_bx ?_; intro _ _ _ _) | (refine iV_al ?_; intro _ _ _ _) | (refine iV_mm ?_; intro _ _ _ _) | (refine iU_st ?_; intro _ _) | refine iHV_1 ?_ | refine iHV_N ?_ | refine iRI_1 ?_ | refine iRI_N ?_ | refine Cond_t ?_ | refine Cond_f ?_ | refine JB ?_ | (refine JC ?_; intro _ _ _ _) | (refine J1 ?_; intro _ _) | (refine J0 ?_; intro _ _) | (refine J2 ?_; intro _ _) | (refine J3 ?_; intro _ _) | (refine J4 ?_; intro _ _) | refine K1 ?_ | refine K0 ?_ | refine K2 ?_ | refine K3 ?_ | refine K4 ?_ | (refine CV_pu ?_; intro _ _ _ _) | refine fV_ldN ?_ | refine fV_ld1 ?_ | refine fHV_ldN ?_ | refine fHV_ld1 ?_ | refine NilW_some ?_ | refine iCW_1 ?_ | refine iCW_N ?_ | refine Pk_b ?_))
  refine CV_1z (fun hz => doneP (o := backO) (conds := []) ⟨_, rfl, hu.mono hz⟩ SlR.nil (by decide) (by intro h; rcases h with h | h <;> cases h) emptySm) ?_
  rintro z9 w9 v9 hle9 hS9 ⟨v', rfl, hv'⟩
  obtain ⟨u', rfl, hu'⟩ := hv'
  obtain ⟨hb', a', cap', rfl, hcap', hel'⟩ := hu'.form
  dsimp only [AcM.v] at *
  (repeat (first | (refine iDr ?_; intro _ _) | refine V_run ?_ | refine PV_run ?_ | refine HV_run ?_ | refine iV_ld1 ?_ | refine iV_ldN ?_ | (refine iV_bx ?_; intro _ _ _ _) | (refine iV_al ?_; intro _ _ _ _) | (refine iV_mm ?_; intro _ _ _ _) | (refine iU_st ?_; intro _ _) | refine iHV_1 ?_ | refine iHV_N ?_ | refine iRI_1 ?_ | refine iRI_N ?_ | refine Cond_t ?_ | refine Cond_f ?_ | refine JB ?_ | (refine JC ?_; intro _ _ _ _) | (refine J1 ?_; intro _ _) | (refine J0 ?_; intro _ _) | (refine J2 ?_; intro _ _) | (refine J3 ?_; intro _ _) | (refine J4 ?_; intro _ _) | refine K1 ?_ | refine K0 ?_ | refine K2 ?_ | refine K3 ?_ | refine K4 ?_ | (refine CV_pu ?_; intro _ _ _ _) | refine fV_ldN ?_ | refine fV_ld1 ?_ | refine fHV_ldN ?_ | refine fHV_ld1 ?_ | refine NilW_some ?_ | refine iCW_1 ?_ | refine iCW_N ?_ | refine Pk_b ?_))
  exact ⟨_, _, ‹_›, _, rfl, _, rfl, hu'⟩)
theorem SetP {v : Value} {s : StM} {c m : Int} {t : ByteArray} {z : Z} {w : World} (hs : StR z v s) (ht : t.size ≤ big) : Fn1 21 #[v, .int .i64 c, .int .i64 m, .string t] z w fun z' r => StepR2 z' r (doneM s (setO c m t) [c]) := Fn1.intro fun hS => en21 (by
  unfold vc21
  obtain ⟨u, rfl, hu⟩ := hs
  obtain ⟨hb, a, cap, rfl, hcap, hel⟩ := hu.form
  (repeat (first | (refine iDr ?_; intro _ _) | refine V_run ?_ | refine PV_run ?_ | refine HV_run ?_ | refine iV_ld1 ?_ | refine iV_ldN ?_ | (refine iV_bx ?_; intro _ _ _ _) | (refine iV_al ?_; intro _ _ _ _) | (refine iV_mm ?_; intro _ _ _ _) | (refine iU_st ?_; intro _ _) | refine iHV_1 ?_ | refine iHV_N ?_ | refine iRI_1 ?_ | refine iRI_N ?_ | refine Cond_t ?_ | refine Cond_f ?_ | refine JB ?_ | (refine JC ?_; intro _ _ _ _) | (refine J1 ?_; intro _ _) | (refine J0 ?_; intro _ _) | (refine J2 ?_; intro _ _) | (refine J3 ?_; intro _ _) | (refine J4 ?_; intro _ _) | refine K1 ?_ | refine K0 ?_ | refine K2 ?_ | refine K3 ?_ | refine K4 ?_ | (refine CV_pu ?_; intro _ _ _ _) | refine fV_ldN ?_ | refine fV_ld1 ?_ | refine fHV_ldN ?_ | refine fHV_ld1 ?_ | refine NilW_some ?_ | refine iCW_1 ?_ | refine iCW_N ?_ | refine Pk_b ?_))
  refine V_bs (parts := [(0, _)]) rfl (by omega) ?_
  intro b3 w3 hb3 hS3
  obtain ⟨z4, hz4, hS4, hfr⟩ := Res.freezeSl (E := El.int) (B := [(b3, _)]) (f := fun x => [.int .i64 x]) (xs := [c]) (v := .slice (some ⟨b3, 0, none⟩) 1 1) (e := 3) hS3 ⟨rfl, .inr ⟨b3, 1, [], by rfl, rfl, by simp, by simp [maxLen], rfl⟩⟩ (by simp [big]) (fun _ => rfl) (fun _ _ _ => rfl)
  clear hS3
  refine CV_1z (fun hz => doneP (o := (setO c m t)) (conds := [c]) ⟨_, rfl, hu.mono hz⟩ (hfr.mono (by first | exact Le.refl _ | assumption)) ⟨by show (1 : Int) ≤ 1; decide, by show (1 : Int) ≤ 5; decide⟩ (fun _ => rfl) ht) ?_
  rintro z9 w9 v9 hle9 hS9 ⟨v', rfl, hv'⟩
  obtain ⟨u', rfl, hu'⟩ := hv'
  obtain ⟨hb', a', cap', rfl, hcap', hel'⟩ := hu'.form
  dsimp only [AcM.v] at *
  (repeat (first | (refine iDr ?_; intro _ _) | refine V_run ?_ | refine PV_run ?_ | refine HV_run ?_ | refine iV_ld1 ?_ | refine iV_ldN ?_ | (refine iV_bx ?_; intro _ _ _ _) | (refine iV_al ?_; intro _ _ _ _) | (refine iV_mm ?_; intro _ _ _ _) | (refine iU_st ?_; intro _ _) | refine iHV_1 ?_ | refine iHV_N ?_ | refine iRI_1 ?_ | refine iRI_N ?_ | refine Cond_t ?_ | refine Cond_f ?_ | refine JB ?_ | (refine JC ?_; intro _ _ _ _) | (refine J1 ?_; intro _ _) | (refine J0 ?_; intro _ _) | (refine J2 ?_; intro _ _) | (refine J3 ?_; intro _ _) | (refine J4 ?_; intro _ _) | refine K1 ?_ | refine K0 ?_ | refine K2 ?_ | refine K3 ?_ | refine K4 ?_ | (refine CV_pu ?_; intro _ _ _ _) | refine fV_ldN ?_ | refine fV_ld1 ?_ | refine fHV_ldN ?_ | refine fHV_ld1 ?_ | refine NilW_some ?_ | refine iCW_1 ?_ | refine iCW_N ?_ | refine Pk_b ?_))
  exact ⟨_, _, ‹_›, _, rfl, _, rfl, hu'⟩)
theorem RaiseP {v : Value} {s : StM} {c : Int} {t : ByteArray} {z : Z} {w : World} (hs : StR z v s) (ht : t.size ≤ big) : Fn1 22 #[v, .int .i64 c, .string t] z w fun z' r => StepR z' r (doneM s (raiseO c t) [c]) := Fn1.intro fun hS => en22 (by
  unfold vc22
  obtain ⟨u, rfl, hu⟩ := hs
  obtain ⟨hb, a, cap, rfl, hcap, hel⟩ := hu.form
  (repeat (first | (refine iDr ?_; intro _ _) | refine V_run ?_ | refine PV_run ?_ | refine HV_run ?_ | refine iV_ld1 ?_ | refine iV_ldN ?_ | (refine iV_bx ?_; intro _ _ _ _) | (refine iV_al ?_; intro _ _ _ _) | (refine iV_mm ?_; intro _ _ _ _) | (refine iU_st ?_; intro _ _) | refine iHV_1 ?_ | refine iHV_N ?_ | refine iRI_1 ?_ | refine iRI_N ?_ | refine Cond_t ?_ | refine Cond_f ?_ | refine JB ?_ | (refine JC ?_; intro _ _ _ _) | (refine J1 ?_; intro _ _) | (refine J0 ?_; intro _ _) | (refine J2 ?_; intro _ _) | (refine J3 ?_; intro _ _) | (refine J4 ?_; intro _ _) | refine K1 ?_ | refine K0 ?_ | refine K2 ?_ | refine K3 ?_ | refine K4 ?_ | (refine CV_pu ?_; intro _ _ _ _) | refine fV_ldN ?_ | refine fV_ld1 ?_ | refine fHV_ldN ?_ | refine fHV_ld1 ?_ | refine NilW_some ?_ | refine iCW_1 ?_ | refine iCW_N ?_ | refine Pk_b ?_))
  refine V_bs (parts := [(0, _)]) rfl (by omega) ?_
  intro b3 w3 hb3 hS3
  obtain ⟨z4, hz4, hS4, hfr⟩ := Res.freezeSl (E := El.int) (B := [(b3, _)]) (f := fun x => [.int .i64 x]) (xs := [c]) (v := .slice (some ⟨b3, 0, none⟩) 1 1) (e := 3) hS3 ⟨rfl, .inr ⟨b3, 1, [], by rfl, rfl, by simp, by simp [maxLen], rfl⟩⟩ (by simp [big]) (fun _ => rfl) (fun _ _ _ => rfl)
  clear hS3
  refine CV_1z (fun hz => doneP (o := (raiseO c t)) (conds := [c]) ⟨_, rfl, hu.mono hz⟩ (hfr.mono (by first | exact Le.refl _ | assumption)) ⟨by show (1 : Int) ≤ 2; decide, by show (2 : Int) ≤ 5; decide⟩ (fun _ => rfl) ht) ?_
  rintro z9 w9 v9 hle9 hS9 ⟨v', rfl, hv'⟩
  obtain ⟨u', rfl, hu'⟩ := hv'
  obtain ⟨hb', a', cap', rfl, hcap', hel'⟩ := hu'.form
  dsimp only [AcM.v] at *
  (repeat (first | (refine iDr ?_; intro _ _) | refine V_run ?_ | refine PV_run ?_ | refine HV_run ?_ | refine iV_ld1 ?_ | refine iV_ldN ?_ | (refine iV_bx ?_; intro _ _ _ _) | (refine iV_al ?_; intro _ _ _ _) | (refine iV_mm ?_; intro _ _ _ _) | (refine iU_st ?_; intro _ _) | refine iHV_1 ?_ | refine iHV_N ?_ | refine iRI_1 ?_ | refine iRI_N ?_ | refine Cond_t ?_ | refine Cond_f ?_ | refine JB ?_ | (refine JC ?_; intro _ _ _ _) | (refine J1 ?_; intro _ _) | (refine J0 ?_; intro _ _) | (refine J2 ?_; intro _ _) | (refine J3 ?_; intro _ _) | (refine J4 ?_; intro _ _) | refine K1 ?_ | refine K0 ?_ | refine K2 ?_ | refine K3 ?_ | refine K4 ?_ | (refine CV_pu ?_; intro _ _ _ _) | refine fV_ldN ?_ | refine fV_ld1 ?_ | refine fHV_ldN ?_ | refine fHV_ld1 ?_ | refine NilW_some ?_ | refine iCW_1 ?_ | refine iCW_N ?_ | refine Pk_b ?_))
  exact ⟨_, _, ‹_›, _, rfl, _, rfl, hu'⟩)
def newM : StM := [⟨[noTrap, noTrap, noTrap, noTrap, noTrap, noTrap], [], noInfo⟩]
theorem NewP {z : Z} {w : World} : Fn1 42 #[] z w fun z' r => StR z' r newM := Fn1.intro fun hS => en42 (by
  unfold vc42
  refine iV_al ?_
  intro b0 w0 hb0 hS0
  refine iV_ms (n := 6) (by omega) (by omega) ?_
  intro b1 w1 hb1 hS1
  have e : ((List.range (6 * 3)).map fun i => [Value.int .i64 0, Value.string ⟨#[]⟩, Value.bool false][i % [Value.int .i64 0, Value.string ⟨#[]⟩, Value.bool false].length]!) = ([noTrap, noTrap, noTrap, noTrap, noTrap, noTrap].flatMap TrM.cells ++ []) := rfl
  rw [e] at hS1
  obtain ⟨z2, hz2, hS2, hv2⟩ := Res.freezeSl (E := El.trap) (B := [(b1, _)]) (v := .slice (some ⟨b1, 0, none⟩) 6 6) (xs := [noTrap, noTrap, noTrap, noTrap, noTrap, noTrap]) (f := TrM.cells) (e := 73) hS1 ⟨rfl, .inr ⟨b1, 6, [], rfl, rfl, by decide, by simp [maxLen], rfl⟩⟩ (by simp [big]) (fun _ => rfl) (fun z x hx => ⟨rfl, by
    have : x = noTrap := by simpa using hx
    rw [this]; exact emptySm⟩)
  clear hS1
  (repeat (first | (refine iDr ?_; intro _ _) | refine V_run ?_ | refine PV_run ?_ | refine HV_run ?_ | refine iV_ld1 ?_ | refine iV_ldN ?_ | (refine iV_bx ?_; intro _ _ _ _) | (refine iV_al ?_; intro _ _ _ _) | (refine iV_mm ?_; intro _ _ _ _) | (refine iU_st ?_; intro _ _) | refine iHV_1 ?_ | refine iHV_N ?_ | refine iRI_1 ?_ | refine iRI_N ?_ | refine Cond_t ?_ | refine Cond_f ?_ | refine JB ?_ | (refine JC ?_; intro _ _ _ _) | (refine J1 ?_; intro _ _) | (refine J0 ?_; intro _ _) | (refine J2 ?_; intro _ _) | (refine J3 ?_; intro _ _) | (refine J4 ?_; intro _ _) | refine K1 ?_ | refine K0 ?_ | refine K2 ?_ | refine K3 ?_ | refine K4 ?_ | (refine CV_pu ?_; intro _ _ _ _) | refine fV_ldN ?_ | refine fV_ld1 ?_ | refine fHV_ldN ?_ | refine fHV_ld1 ?_ | refine NilW_some ?_ | refine iCW_1 ?_ | refine iCW_N ?_ | refine Pk_b ?_))
  refine V_bs (parts := [(0, _)]) rfl (by omega) ?_
  intro b3 w3 hb3 hS3
  (repeat (first | (refine iDr ?_; intro _ _) | refine V_run ?_ | refine PV_run ?_ | refine HV_run ?_ | refine iV_ld1 ?_ | refine iV_ldN ?_ | (refine iV_bx ?_; intro _ _ _ _) | (refine iV_al ?_; intro _ _ _ _) | (refine iV_mm ?_; intro _ _ _ _) | (refine iU_st ?_; intro _ _) | refine iHV_1 ?_ | refine iHV_N ?_ | refine iRI_1 ?_ | refine iRI_N ?_ | refine Cond_t ?_ | refine Cond_f ?_ | refine JB ?_ | (refine JC ?_; intro _ _ _ _) | (refine J1 ?_; intro _ _) | (refine J0 ?_; intro _ _) | (refine J2 ?_; intro _ _) | (refine J3 ?_; intro _ _) | (refine J4 ?_; intro _ _) | refine K1 ?_ | refine K0 ?_ | refine K2 ?_ | refine K3 ?_ | refine K4 ?_ | (refine CV_pu ?_; intro _ _ _ _) | refine fV_ldN ?_ | refine fV_ld1 ?_ | refine fHV_ldN ?_ | refine fHV_ld1 ?_ | refine NilW_some ?_ | refine iCW_1 ?_ | refine iCW_N ?_ | refine Pk_b ?_))
  rename_i hSe
  obtain ⟨z4, hz4, hS4, hv4⟩ := MachR.st (s := newM) (Bf := [(b3, _)]) (L := []) (v := .slice (some ⟨b3, 0, none⟩) 1 1) (hSe.sublist (L' := [(b3, _)]) ((List.Sublist.refl [(b3, _)]).trans (by repeat (first | exact List.Sublist.refl _ | apply List.Sublist.cons_cons | apply List.Sublist.cons | exact List.nil_sublist _)))) ⟨rfl, .inr ⟨b3, 1, [], rfl, rfl, by decide, by simp [maxLen], rfl⟩⟩ ⟨_, [], by simp [noInfo], ⟨_, _, rfl, hv2, SlR.nil, emptySm⟩, rfl⟩ (by simp [newM, big])
  exact ⟨z4, [], hS4, _, rfl, hv4⟩)
end Go.Proofs.Ytjnckainogpenaa
