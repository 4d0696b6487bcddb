/- The non-vacuity check. -/
import Derived.Test.YtjnckainogpenaaT24
set_option linter.unusedVariables false
set_option maxRecDepth 20000
set_option synthInstance.maxHeartbeats 400000
set_option synthInstance.maxSize 4000
namespace Go.Proofs.Ytjnckainogpenaa
open Go Q Go.RowKit

def ex1 : List OpM := [setO 5 1 ⟨#[]⟩, raiseO 5 ⟨#[52, 49]⟩, raiseO 5 ⟨#[52, 50]⟩]
def ex2 : List OpM := [setO 0 2 ⟨#[79, 79, 80, 83]⟩, raiseO 0 ⟨#[108, 115]⟩, endO, raiseO 0 ⟨#[114, 109]⟩, endO, backO, raiseO 0 ⟨#[99, 112]⟩, endO]
def ex3 : List OpM := [setO 0 1 ⟨#[]⟩, raiseO 1 ⟨#[120]⟩, endO]
def ex4 : List OpM := [setO 4 2 ⟨#[]⟩, raiseO 4 ⟨#[102]⟩, raiseO 4 ⟨#[103]⟩, endO, endO]
def ex5 : List OpM := [raiseO 2 ⟨#[]⟩]
theorem k1 : kindsFrom (playFrom newM ex1).2.1 [0, 1, 3] = true := by decide +kernel
theorem k2 : kindsFrom (playFrom newM ex2).2.1 [0, 0, 2, 0, 0, 0, 0, 2] = true := by decide +kernel
theorem k3a : (playFrom newM ex3).2.1.length = 3 := by decide +kernel
theorem k3d : ((playFrom newM ex3).2.1[2]?).map (fun a => (a.kind, a.label)) = some (1, nameOf 0) := by decide +kernel
theorem k4 : kindsFrom (playFrom newM ex4).2.1 [0, 0, 0, 2, 0] = true := by decide +kernel
theorem k5 : kindsFrom (playFrom newM ex5).2.1 [3] = true := by decide +kernel
theorem k3b : condM (playFrom newM ex3).1 67 = (nameOf 0, 0) := by decide +kernel
theorem k3c : condM (playFrom newM ex3).1 83 = (wOff, 0) := by decide +kernel
theorem smOps : ∀ o ∈ ex1 ++ (ex2 ++ (ex3 ++ (ex4 ++ ex5))), o.text.size ≤ big := by
  have : (ex1 ++ (ex2 ++ (ex3 ++ (ex4 ++ ex5)))).all (fun o => decide (o.text.size ≤ 100)) = true := by decide +kernel
  intro o ho
  have := List.all_eq_true.1 this o ho
  simp only [decide_eq_true_eq] at this
  simp only [big]; omega
theorem sane {z : Z} {w : World} : Fn1 12 #[] z w fun _ r => r = .bool true := Fn1.intro fun hS => en12 (by
  unfold vc12
  (repeat (first | (refine iDr ?_; intro _ _) | refine V_run ?_ | refine PV_run ?_ | refine HV_run ?_ | refine iV_ld1 ?_ | refine iV_ldN ?_ | (refine iV_bx ?_; intro _ _ _ _) | (refine iV_al ?_; intro _ _ _ _) | (refine iV_mm ?_; intro _ _ _ _) | (refine iU_st ?_; intro _ _) | refine iHV_1 ?_ | refine iHV_N ?_ | refine iRI_1 ?_ | refine iRI_N ?_ | refine Cond_t ?_ | refine Cond_f ?_ | refine JB ?_ | (refine JC ?_; intro _ _ _ _) | (refine J1 ?_; intro _ _) | (refine J0 ?_; intro _ _) | (refine J2 ?_; intro _ _) | (refine J3 ?_; intro _ _) | (refine J4 ?_; intro _ _) | refine K1 ?_ | refine K0 ?_ | refine K2 ?_ | refine K3 ?_ | refine K4 ?_ | (refine CV_pu ?_; intro _ _ _ _) | refine fV_ldN ?_ | refine fV_ld1 ?_ | refine fHV_ldN ?_ | refine fHV_ld1 ?_ | refine NilW_some ?_ | refine iCW_1 ?_ | refine iCW_N ?_ | refine Pk_b ?_))
  refine V_bs (parts := [(0, _), (1, _), (2, _)]) rfl (by omega) ?_
  intro bo1 wo1 hbo1 hSo1
  refine V_bs (parts := [(0, _), (1, _), (2, _)]) rfl (by omega) ?_
  intro bw1 ww1 hbw1 hSw1
  obtain ⟨zw1, hzw1, hSw1', hlw1⟩ := Res.freezeSl (E := El.int) (B := [(bw1, _)]) (f := fun x => [.int .i64 x]) (xs := [0, 1, 3]) (v := .slice (some ⟨bw1, 0, none⟩) 3 3) (e := 3) hSw1 ⟨rfl, .inr ⟨bw1, 3, [], rfl, rfl, by decide, by simp [maxLen], rfl⟩⟩ (by simp [big]) (fun _ => rfl) (fun _ _ _ => rfl)
  obtain ⟨zo1, hzo1, hSo1', hlo1⟩ := Res.freezeSl (E := El.op) (B := [(bo1, _)]) (f := OpM.cells) (xs := ex1) (v := .slice (some ⟨bo1, 0, none⟩) 3 3) (e := 25) hSw1' ⟨rfl, .inr ⟨bo1, 3, [], rfl, rfl, by decide, by simp [maxLen], rfl⟩⟩ (by simp [big, ex1]) (fun _ => rfl) (fun _ x hx => ⟨rfl, smOps x (by simp only [List.mem_append]; simp [hx])⟩)
  clear hSw1 hSo1 hSw1'
  refine CV_1 (kindsP hlo1 (hlw1.mono hzo1) (by decide)) ?_
  rintro zk1 wk1 _ hlek1 hSk1 rfl
  rw [k1]
  clear hSo1'
  (repeat (first | (refine iDr ?_; intro _ _) | refine V_run ?_ | refine PV_run ?_ | refine HV_run ?_ | refine iV_ld1 ?_ | refine iV_ldN ?_ | (refine iV_bx ?_; intro _ _ _ _) | (refine iV_al ?_; intro _ _ _ _) | (refine iV_mm ?_; intro _ _ _ _) | (refine iU_st ?_; intro _ _) | refine iHV_1 ?_ | refine iHV_N ?_ | refine iRI_1 ?_ | refine iRI_N ?_ | refine Cond_t ?_ | refine Cond_f ?_ | refine JB ?_ | (refine JC ?_; intro _ _ _ _) | (refine J1 ?_; intro _ _) | (refine J0 ?_; intro _ _) | (refine J2 ?_; intro _ _) | (refine J3 ?_; intro _ _) | (refine J4 ?_; intro _ _) | refine K1 ?_ | refine K0 ?_ | refine K2 ?_ | refine K3 ?_ | refine K4 ?_ | (refine CV_pu ?_; intro _ _ _ _) | refine fV_ldN ?_ | refine fV_ld1 ?_ | refine fHV_ldN ?_ | refine fHV_ld1 ?_ | refine NilW_some ?_ | refine iCW_1 ?_ | refine iCW_N ?_ | refine Pk_b ?_))
  refine V_bs (parts := [(0, _), (1, _), (2, _), (3, _), (4, _), (5, _), (6, _), (7, _)]) rfl (by omega) ?_
  intro bo2 wo2 hbo2 hSo2
  refine V_bs (parts := [(0, _), (1, _), (2, _), (3, _), (4, _), (5, _), (6, _), (7, _)]) rfl (by omega) ?_
  intro bw2 ww2 hbw2 hSw2
  obtain ⟨zw2, hzw2, hSw2', hlw2⟩ := Res.freezeSl (E := El.int) (B := [(bw2, _)]) (f := fun x => [.int .i64 x]) (xs := [0, 0, 2, 0, 0, 0, 0, 2]) (v := .slice (some ⟨bw2, 0, none⟩) 8 8) (e := 3) hSw2 ⟨rfl, .inr ⟨bw2, 8, [], rfl, rfl, by decide, by simp [maxLen], rfl⟩⟩ (by simp [big]) (fun _ => rfl) (fun _ _ _ => rfl)
  obtain ⟨zo2, hzo2, hSo2', hlo2⟩ := Res.freezeSl (E := El.op) (B := [(bo2, _)]) (f := OpM.cells) (xs := ex2) (v := .slice (some ⟨bo2, 0, none⟩) 8 8) (e := 25) hSw2' ⟨rfl, .inr ⟨bo2, 8, [], rfl, rfl, by decide, by simp [maxLen], rfl⟩⟩ (by simp [big, ex2]) (fun _ => rfl) (fun _ x hx => ⟨rfl, smOps x (by simp only [List.mem_append]; simp [hx])⟩)
  clear hSw2 hSo2 hSw2'
  refine CV_1 (kindsP hlo2 (hlw2.mono hzo2) (by decide)) ?_
  rintro zk2 wk2 _ hlek2 hSk2 rfl
  rw [k2]
  clear hSo2'
  (repeat (first | (refine iDr ?_; intro _ _) | refine V_run ?_ | refine PV_run ?_ | refine HV_run ?_ | refine iV_ld1 ?_ | refine iV_ldN ?_ | (refine iV_bx ?_; intro _ _ _ _) | (refine iV_al ?_; intro _ _ _ _) | (refine iV_mm ?_; intro _ _ _ _) | (refine iU_st ?_; intro _ _) | refine iHV_1 ?_ | refine iHV_N ?_ | refine iRI_1 ?_ | refine iRI_N ?_ | refine Cond_t ?_ | refine Cond_f ?_ | refine JB ?_ | (refine JC ?_; intro _ _ _ _) | (refine J1 ?_; intro _ _) | (refine J0 ?_; intro _ _) | (refine J2 ?_; intro _ _) | (refine J3 ?_; intro _ _) | (refine J4 ?_; intro _ _) | refine K1 ?_ | refine K0 ?_ | refine K2 ?_ | refine K3 ?_ | refine K4 ?_ | (refine CV_pu ?_; intro _ _ _ _) | refine fV_ldN ?_ | refine fV_ld1 ?_ | refine fHV_ldN ?_ | refine fHV_ld1 ?_ | refine NilW_some ?_ | refine iCW_1 ?_ | refine iCW_N ?_ | refine Pk_b ?_))
  refine V_bs (parts := [(0, _), (1, _), (2, _)]) rfl (by omega) ?_
  intro bo3 wo3 hbo3 hSo3
  obtain ⟨zo3, hzo3, hSo3', hlo3⟩ := Res.freezeSl (E := El.op) (B := [(bo3, _)]) (f := OpM.cells) (xs := ex3) (v := .slice (some ⟨bo3, 0, none⟩) 3 3) (e := 25) hSo3 ⟨rfl, .inr ⟨bo3, 3, [], rfl, rfl, by decide, by simp [maxLen], rfl⟩⟩ (by simp [big, ex3]) (fun _ => rfl) (fun _ x hx => ⟨rfl, smOps x (by simp only [List.mem_append]; simp [hx])⟩)
  clear hSo3
  refine CV_1 (PlayP hlo3) ?_
  rintro zp wp r hlep hSp hp
  rw [PlayR, if_neg (by decide)] at hp
  obtain ⟨sv, va, ve, rfl, ⟨u, rfl, hu⟩, hva, hve⟩ := hp
  have q1 := k3b
  have q2 := k3c
  have q3 := k3a
  have q4 := k3d
  generalize (playFrom newM ex3).1 = S at *
  generalize (playFrom newM ex3).2.1 = A at *
  obtain ⟨_, a0, cap0, rfl, _, _⟩ := hu.form
  obtain ⟨hb, a, cap, rfl, hcap, hel⟩ := hva.form
  obtain ⟨_, a3, cap3, rfl, _, _⟩ := hve.form
  rw [q3] at *
  clear hSo3'
  (repeat (first | (refine iDr ?_; intro _ _) | refine V_run ?_ | refine PV_run ?_ | refine HV_run ?_ | refine iV_ld1 ?_ | refine iV_ldN ?_ | (refine iV_bx ?_; intro _ _ _ _) | (refine iV_al ?_; intro _ _ _ _) | (refine iV_mm ?_; intro _ _ _ _) | (refine iU_st ?_; intro _ _) | refine iHV_1 ?_ | refine iHV_N ?_ | refine iRI_1 ?_ | refine iRI_N ?_ | refine Cond_t ?_ | refine Cond_f ?_ | refine JB ?_ | (refine JC ?_; intro _ _ _ _) | (refine J1 ?_; intro _ _) | (refine J0 ?_; intro _ _) | (refine J2 ?_; intro _ _) | (refine J3 ?_; intro _ _) | (refine J4 ?_; intro _ _) | refine K1 ?_ | refine K0 ?_ | refine K2 ?_ | refine K3 ?_ | refine K4 ?_ | (refine CV_pu ?_; intro _ _ _ _) | refine fV_ldN ?_ | refine fV_ld1 ?_ | refine fHV_ldN ?_ | refine fHV_ld1 ?_ | refine NilW_some ?_ | refine iCW_1 ?_ | refine iCW_N ?_ | refine Pk_b ?_))
  refine CV_1 (ConditionP (s := S) ⟨_, rfl, hu⟩) ?_
  rintro zc wc _ hlec hSc rfl
  rw [q1]
  (repeat (first | (refine iDr ?_; intro _ _) | refine V_run ?_ | refine PV_run ?_ | refine HV_run ?_ | refine iV_ld1 ?_ | refine iV_ldN ?_ | (refine iV_bx ?_; intro _ _ _ _) | (refine iV_al ?_; intro _ _ _ _) | (refine iV_mm ?_; intro _ _ _ _) | (refine iU_st ?_; intro _ _) | refine iHV_1 ?_ | refine iHV_N ?_ | refine iRI_1 ?_ | refine iRI_N ?_ | refine Cond_t ?_ | refine Cond_f ?_ | refine JB ?_ | (refine JC ?_; intro _ _ _ _) | (refine J1 ?_; intro _ _) | (refine J0 ?_; intro _ _) | (refine J2 ?_; intro _ _) | (refine J3 ?_; intro _ _) | (refine J4 ?_; intro _ _) | refine K1 ?_ | refine K0 ?_ | refine K2 ?_ | refine K3 ?_ | refine K4 ?_ | (refine CV_pu ?_; intro _ _ _ _) | refine fV_ldN ?_ | refine fV_ld1 ?_ | refine fHV_ldN ?_ | refine fHV_ld1 ?_ | refine NilW_some ?_ | refine iCW_1 ?_ | refine iCW_N ?_ | refine Pk_b ?_))
  refine CV_1 (ConditionP (s := S) ⟨_, rfl, hu.mono hlec⟩) ?_
  rintro zd wd _ hled hSd rfl
  rw [q2]
  have hx2 : ∃ x2, A[2]? = some x2 ∧ x2.kind = 1 ∧ x2.label = nameOf 0 := by
    cases hA2 : A[2]? with
    | none => rw [hA2] at q4; cases q4
    | some x => rw [hA2] at q4; simp only [Option.map_some, Option.some.injEq, Prod.mk.injEq] at q4; exact ⟨x, rfl, q4.1, q4.2⟩
  obtain ⟨x2, hx2, hk2, hl2⟩ := hx2
  obtain ⟨bA, offA, cs, rfl, rfl, hat⟩ := hel 2 x2 hx2
  haveI : InR 2 (3 : Nat) := ⟨by decide, by decide⟩
  (repeat (first | (refine iDr ?_; intro _ _) | refine V_run ?_ | refine PV_run ?_ | refine HV_run ?_ | refine iV_ld1 ?_ | refine iV_ldN ?_ | (refine iV_bx ?_; intro _ _ _ _) | (refine iV_al ?_; intro _ _ _ _) | (refine iV_mm ?_; intro _ _ _ _) | (refine iU_st ?_; intro _ _) | refine iHV_1 ?_ | refine iHV_N ?_ | refine iRI_1 ?_ | refine iRI_N ?_ | refine Cond_t ?_ | refine Cond_f ?_ | refine JB ?_ | (refine JC ?_; intro _ _ _ _) | (refine J1 ?_; intro _ _) | (refine J0 ?_; intro _ _) | (refine J2 ?_; intro _ _) | (refine J3 ?_; intro _ _) | (refine J4 ?_; intro _ _) | refine K1 ?_ | refine K0 ?_ | refine K2 ?_ | refine K3 ?_ | refine K4 ?_ | (refine CV_pu ?_; intro _ _ _ _) | refine fV_ldN ?_ | refine fV_ld1 ?_ | refine fHV_ldN ?_ | refine fHV_ld1 ?_ | refine NilW_some ?_ | refine iCW_1 ?_ | refine iCW_N ?_ | refine Pk_b ?_))
  have hatd := hat.mono (hlec.trans hled)
  refine zV_ld1 (v := .int .i64 x2.kind) (At.head hatd) ?_
  rw [hk2]
  (repeat (first | (refine iDr ?_; intro _ _) | refine V_run ?_ | refine PV_run ?_ | refine HV_run ?_ | refine iV_ld1 ?_ | refine iV_ldN ?_ | (refine iV_bx ?_; intro _ _ _ _) | (refine iV_al ?_; intro _ _ _ _) | (refine iV_mm ?_; intro _ _ _ _) | (refine iU_st ?_; intro _ _) | refine iHV_1 ?_ | refine iHV_N ?_ | refine iRI_1 ?_ | refine iRI_N ?_ | refine Cond_t ?_ | refine Cond_f ?_ | refine JB ?_ | (refine JC ?_; intro _ _ _ _) | (refine J1 ?_; intro _ _) | (refine J0 ?_; intro _ _) | (refine J2 ?_; intro _ _) | (refine J3 ?_; intro _ _) | (refine J4 ?_; intro _ _) | refine K1 ?_ | refine K0 ?_ | refine K2 ?_ | refine K3 ?_ | refine K4 ?_ | (refine CV_pu ?_; intro _ _ _ _) | refine fV_ldN ?_ | refine fV_ld1 ?_ | refine fHV_ldN ?_ | refine fHV_ld1 ?_ | refine NilW_some ?_ | refine iCW_1 ?_ | refine iCW_N ?_ | refine Pk_b ?_))
  have hat1 : At zd bA (offA + (2 * 4 + 1)) [.string x2.label] := by
    obtain ⟨cc, cty, cfr, g1, g2⟩ := hatd
    refine ⟨cc, cty, cfr, g1, fun j v hv => ?_⟩
    have := g2 (j + 1) v (by cases j with
      | zero => simpa using hv
      | succ j => simp at hv)
    rw [← this]
    congr 1
    show offA + (2 * 4 + 1) + j = offA + 2 * 4 + (j + 1)
    omega
  refine zV_ld1 (v := .string x2.label) hat1 ?_
  rw [hl2]
  (repeat (first | (refine iDr ?_; intro _ _) | refine V_run ?_ | refine PV_run ?_ | refine HV_run ?_ | refine iV_ld1 ?_ | refine iV_ldN ?_ | (refine iV_bx ?_; intro _ _ _ _) | (refine iV_al ?_; intro _ _ _ _) | (refine iV_mm ?_; intro _ _ _ _) | (refine iU_st ?_; intro _ _) | refine iHV_1 ?_ | refine iHV_N ?_ | refine iRI_1 ?_ | refine iRI_N ?_ | refine Cond_t ?_ | refine Cond_f ?_ | refine JB ?_ | (refine JC ?_; intro _ _ _ _) | (refine J1 ?_; intro _ _) | (refine J0 ?_; intro _ _) | (refine J2 ?_; intro _ _) | (refine J3 ?_; intro _ _) | (refine J4 ?_; intro _ _) | refine K1 ?_ | refine K0 ?_ | refine K2 ?_ | refine K3 ?_ | refine K4 ?_ | (refine CV_pu ?_; intro _ _ _ _) | refine fV_ldN ?_ | refine fV_ld1 ?_ | refine fHV_ldN ?_ | refine fHV_ld1 ?_ | refine NilW_some ?_ | refine iCW_1 ?_ | refine iCW_N ?_ | refine Pk_b ?_))
  refine V_bs (parts := [(0, _), (1, _), (2, _), (3, _), (4, _)]) rfl (by omega) ?_
  intro bo4 wo4 hbo4 hSo4
  refine V_bs (parts := [(0, _), (1, _), (2, _), (3, _), (4, _)]) rfl (by omega) ?_
  intro bw4 ww4 hbw4 hSw4
  obtain ⟨zw4, hzw4, hSw4', hlw4⟩ := Res.freezeSl (E := El.int) (B := [(bw4, _)]) (f := fun x => [.int .i64 x]) (xs := [0, 0, 0, 2, 0]) (v := .slice (some ⟨bw4, 0, none⟩) 5 5) (e := 3) hSw4 ⟨rfl, .inr ⟨bw4, 5, [], rfl, rfl, by decide, by simp [maxLen], rfl⟩⟩ (by simp [big]) (fun _ => rfl) (fun _ _ _ => rfl)
  obtain ⟨zo4, hzo4, hSo4', hlo4⟩ := Res.freezeSl (E := El.op) (B := [(bo4, _)]) (f := OpM.cells) (xs := ex4) (v := .slice (some ⟨bo4, 0, none⟩) 5 5) (e := 25) hSw4' ⟨rfl, .inr ⟨bo4, 5, [], rfl, rfl, by decide, by simp [maxLen], rfl⟩⟩ (by simp [big, ex4]) (fun _ => rfl) (fun _ x hx => ⟨rfl, smOps x (by simp only [List.mem_append]; simp [hx])⟩)
  clear hSw4 hSo4 hSw4'
  refine CV_1 (kindsP hlo4 (hlw4.mono hzo4) (by decide)) ?_
  rintro zk4 wk4 _ hlek4 hSk4 rfl
  rw [k4]
  clear hSo4'
  (repeat (first | (refine iDr ?_; intro _ _) | refine V_run ?_ | refine PV_run ?_ | refine HV_run ?_ | refine iV_ld1 ?_ | refine iV_ldN ?_ | (refine iV_bx ?_; intro _ _ _ _) | (refine iV_al ?_; intro _ _ _ _) | (refine iV_mm ?_; intro _ _ _ _) | (refine iU_st ?_; intro _ _) | refine iHV_1 ?_ | refine iHV_N ?_ | refine iRI_1 ?_ | refine iRI_N ?_ | refine Cond_t ?_ | refine Cond_f ?_ | refine JB ?_ | (refine JC ?_; intro _ _ _ _) | (refine J1 ?_; intro _ _) | (refine J0 ?_; intro _ _) | (refine J2 ?_; intro _ _) | (refine J3 ?_; intro _ _) | (refine J4 ?_; intro _ _) | refine K1 ?_ | refine K0 ?_ | refine K2 ?_ | refine K3 ?_ | refine K4 ?_ | (refine CV_pu ?_; intro _ _ _ _) | refine fV_ldN ?_ | refine fV_ld1 ?_ | refine fHV_ldN ?_ | refine fHV_ld1 ?_ | refine NilW_some ?_ | refine iCW_1 ?_ | refine iCW_N ?_ | refine Pk_b ?_))
  refine V_bs (parts := [(0, _)]) rfl (by omega) ?_
  intro bo5 wo5 hbo5 hSo5
  refine V_bs (parts := [(0, _)]) rfl (by omega) ?_
  intro bw5 ww5 hbw5 hSw5
  obtain ⟨zw5, hzw5, hSw5', hlw5⟩ := Res.freezeSl (E := El.int) (B := [(bw5, _)]) (f := fun x => [.int .i64 x]) (xs := [3]) (v := .slice (some ⟨bw5, 0, none⟩) 1 1) (e := 3) hSw5 ⟨rfl, .inr ⟨bw5, 1, [], rfl, rfl, by decide, by simp [maxLen], rfl⟩⟩ (by simp [big]) (fun _ => rfl) (fun _ _ _ => rfl)
  obtain ⟨zo5, hzo5, hSo5', hlo5⟩ := Res.freezeSl (E := El.op) (B := [(bo5, _)]) (f := OpM.cells) (xs := ex5) (v := .slice (some ⟨bo5, 0, none⟩) 1 1) (e := 25) hSw5' ⟨rfl, .inr ⟨bo5, 1, [], rfl, rfl, by decide, by simp [maxLen], rfl⟩⟩ (by simp [big, ex5]) (fun _ => rfl) (fun _ x hx => ⟨rfl, smOps x (by simp only [List.mem_append]; simp [hx])⟩)
  clear hSw5 hSo5 hSw5'
  refine CV_1 (kindsP hlo5 (hlw5.mono hzo5) (by decide)) ?_
  rintro zk5 wk5 _ hlek5 hSk5 rfl
  rw [k5]
  clear hSo5'
  (repeat (first | (refine iDr ?_; intro _ _) | refine V_run ?_ | refine PV_run ?_ | refine HV_run ?_ | refine iV_ld1 ?_ | refine iV_ldN ?_ | (refine iV_bx ?_; intro _ _ _ _) | (refine iV_al ?_; intro _ _ _ _) | (refine iV_mm ?_; intro _ _ _ _) | (refine iU_st ?_; intro _ _) | refine iHV_1 ?_ | refine iHV_N ?_ | refine iRI_1 ?_ | refine iRI_N ?_ | refine Cond_t ?_ | refine Cond_f ?_ | refine JB ?_ | (refine JC ?_; intro _ _ _ _) | (refine J1 ?_; intro _ _) | (refine J0 ?_; intro _ _) | (refine J2 ?_; intro _ _) | (refine J3 ?_; intro _ _) | (refine J4 ?_; intro _ _) | refine K1 ?_ | refine K0 ?_ | refine K2 ?_ | refine K3 ?_ | refine K4 ?_ | (refine CV_pu ?_; intro _ _ _ _) | refine fV_ldN ?_ | refine fV_ld1 ?_ | refine fHV_ldN ?_ | refine fHV_ld1 ?_ | refine NilW_some ?_ | refine iCW_1 ?_ | refine iCW_N ?_ | refine Pk_b ?_))
  exact ⟨_, _, ‹_›, rfl⟩)
end Go.Proofs.Ytjnckainogpenaa
