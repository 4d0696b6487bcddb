/- Texts joined: C17, C18, C19, C20, C21, C22, C23, C24, C25, C26, C27, C28, C29, C30, C31, C32, C33, C34. -/
import Derived.Test.YtbeelfopmkbllaaGreatDoorM3
set_option linter.unusedSimpArgs false
set_option linter.unusedVariables false
set_option linter.unusedSectionVars false
section
/- Where code begins, what is behind an instruction. -/
set_option linter.unusedVariables false
set_option linter.unusedSimpArgs false
set_option maxRecDepth 20000
set_option synthInstance.maxHeartbeats 4000000
set_option synthInstance.maxSize 20000
namespace Go.Proofs.YtbeelfopmkbllaaGreatDoor
open Go Q Go.RowKit

structure DepM where
  stack : Int
  loops : Int
deriving DecidableEq
abbrev DepM.cells (s : DepM) : List Value := [.int .i64 s.stack, .int .i64 s.loops]
abbrev DepM.v (s : DepM) : Value := .agg s.cells.toArray
def calmM (i : InsM) (s : DepM) : Bool :=
  if i.op = 31 then decide (s.stack = 0) && decide (s.loops > 0) else if i.op = 1 ∨ i.op = 2 then decide (s.stack = 0) else if i.op = 30 ∨ i.op = 32 then decide (s.loops > 0) else true
instance {i : InsM} {s : DepM} : Pu 161 #[i.v, s.v] (.bool (calmM i s)) := ⟨fun z w => fnW en161 (fun hS R => by unfold vc161; exact inferInstance) (by
  unfold calmM
  simp only [Bool.cond_eq_ite, decide_eq_true_eq]
  (repeat' split) <;> simp_all)⟩
/-- An instruction whose numbers are small. -/
class Tame (i : InsM) : Prop where
  a : i.op = 33 → 0 ≤ i.a ∧ i.a ≤ 40
class Low (s : DepM) : Prop where
  h : 0 ≤ s.stack ∧ s.stack ≤ 200 ∧ 0 ≤ s.loops ∧ s.loops ≤ 40
theorem form_small {n : Int} : 0 ≤ (formAt n).pops ∧ (formAt n).pops ≤ 2 ∧ 0 ≤ (formAt n).pushes ∧ (formAt n).pushes ≤ 1 ∧ 0 ≤ (formAt n).loop ∧ (formAt n).loop ≤ 1 := by
  have key : formL.all (fun f => decide (0 ≤ f.pops ∧ f.pops ≤ 2 ∧ 0 ≤ f.pushes ∧ f.pushes ≤ 1 ∧ 0 ≤ f.loop ∧ f.loop ≤ 1)) = true := by decide +kernel
  have h0 : 0 ≤ noForm.pops ∧ noForm.pops ≤ 2 ∧ 0 ≤ noForm.pushes ∧ noForm.pushes ≤ 1 ∧ 0 ≤ noForm.loop ∧ noForm.loop ≤ 1 := by decide
  by_cases h : opOk n = true
  · have := List.mem_of_getElem? (formL_at h)
    have := List.all_eq_true.1 key _ this
    simpa using this
  · unfold formAt
    rw [if_neg h]
    exact h0
theorem ranged_in {k lo hi n : Int} (h : rngTab.find? (fun p => p.1 == k) = some (k, lo, hi)) (h2 : rangedM k n = true) : lo ≤ n ∧ n ≤ hi := by
  unfold rangedM at h2
  rw [h] at h2
  exact inB_iff.1 h2
theorem eff_small (i : InsM) : 0 ≤ (effM i).pops ∧ (effM i).pops ≤ 20 ∧ 0 ≤ (effM i).pushes ∧ (effM i).pushes ≤ 1 := by
  unfold effM
  by_cases h : (opOk i.op && effOk i) = true
  · rw [if_pos h]
    simp only [Bool.and_eq_true] at h
    have hf := @form_small i.op
    have h2 := h.2
    refine ⟨?_, ?_, hf.2.2.1, hf.2.2.2.1⟩
    all_goals
      simp only [effPops]
      unfold effOk at h2
      have hr := repsM_range i.b
      have hw : IntKind.i64.wrap 0 = 0 := rfl
      have hw1 : IntKind.i64.wrap 1 = 1 := rfl
      split
      · rename_i e; rw [if_pos e] at h2; have := ranged_in (k := 16) (lo := 0) (hi := 10) rfl h2; omega
      rename_i e; rw [if_neg e] at h2
      split
      · rename_i e; rw [if_pos e] at h2
        have := ranged_in (k := 15) (lo := 0) (hi := 2) rfl h2
        have : i.a = 0 ∨ i.a = 1 ∨ i.a = 2 := by omega
        rcases this with e | e | e <;> rw [e] <;> decide
      rename_i e; rw [if_neg e] at h2
      split
      · omega
      rename_i e; rw [if_neg e] at h2
      split
      · rename_i e; rw [if_pos e] at h2; simp only [Bool.and_eq_true] at h2
        have := ranged_in (k := 14) (lo := 0) (hi := 1) rfl h2.2
        split <;> omega
      rename_i e; rw [if_neg e] at h2
      split
      · split <;> omega
      rename_i e; rw [if_neg e] at h2
      split
      · rename_i e; rw [if_pos e] at h2; have := ranged_in (k := 14) (lo := 0) (hi := 1) rfl h2; omega
      · omega
  · rw [if_neg h]; decide
def behindM (i : InsM) (s : DepM) (jumps : Bool) : DepM :=
  ⟨s.stack + ((effM i).pushes - (effM i).pops), s.loops + (formAt i.op).loop - (if i.op = 30 ∧ jumps = true then 1 else if i.op = 33 then i.a else 0)⟩
theorem behind_of {i : InsM} {s : DepM} {j : Bool} (ht : Tame i) (hl : Low s) {z : Z} {w : World} : Fn1 162 #[i.v, s.v, .bool j] z w fun _ r => r = (behindM i s j).v := fnA en162 (by
  intro hS R hR
  have he := eff_small i
  have hf := @form_small i.op
  obtain ⟨l1, l2, l3, l4⟩ := hl.h
  haveI : InI ((effM i).pushes - (effM i).pops) := ⟨by omega⟩
  haveI : InI (s.stack + ((effM i).pushes - (effM i).pops)) := ⟨by omega⟩
  haveI : InI (s.loops + (formAt i.op).loop) := ⟨by omega⟩
  haveI : InI (s.loops + (formAt i.op).loop - 1) := ⟨by omega⟩
  unfold vc162
  (repeat (first | (refine iDr ?_; intro _ _) | refine V_run ?_ | refine PV_run ?_ | refine HV_run ?_ | refine iV_ld1 ?_ | refine iV_ldN ?_ | (refine iV_bx ?_; intro _ _ _ _) | (refine iV_al ?_; intro _ _ _ _) | (refine iV_mm ?_; intro _ _ _ _) | (refine iU_st ?_; intro _ _) | refine iHV_1 ?_ | refine iHV_N ?_ | refine iRI_1 ?_ | refine iRI_N ?_ | refine Cond_t ?_ | refine Cond_f ?_ | refine JB ?_ | (refine JC ?_; intro _ _ _ _) | (refine JGB ?_; intro _ _ _ _) | (refine J1 ?_; intro _ _) | (refine J0 ?_; intro _ _) | (refine J2 ?_; intro _ _) | (refine J3 ?_; intro _ _) | (refine J4 ?_; intro _ _) | refine K1 ?_ | refine K0 ?_ | refine K2 ?_ | refine K3 ?_ | refine K4 ?_ | (refine CV_pu ?_; intro _ _ _ _) | (refine CV_puz ?_; intro _ _ _ _) | refine fRI_1 ?_ | refine fRI_N ?_ | refine gHV_lkI ?_ | refine gRI_lkI ?_ | refine gV_lkI ?_ | refine fV_ldN ?_ | refine fV_ld1 ?_ | refine fHV_ldN ?_ | refine fHV_ld1 ?_ | refine NilW_some ?_ | refine iCW_1 ?_ | refine iCW_N ?_ | refine Pk_b ?_))
  refine Cond_b (fun e => ?_) (fun e => ?_)
  · have e2 : i.op = 30 ∧ j = true := by by_cases h : i.op = 30 <;> simp [h] at e ⊢; exact e
    (repeat (first | (refine iDr ?_; intro _ _) | refine V_run ?_ | refine PV_run ?_ | refine HV_run ?_ | refine iV_ld1 ?_ | refine iV_ldN ?_ | (refine iV_bx ?_; intro _ _ _ _) | (refine iV_al ?_; intro _ _ _ _) | (refine iV_mm ?_; intro _ _ _ _) | (refine iU_st ?_; intro _ _) | refine iHV_1 ?_ | refine iHV_N ?_ | refine iRI_1 ?_ | refine iRI_N ?_ | refine Cond_t ?_ | refine Cond_f ?_ | refine JB ?_ | (refine JC ?_; intro _ _ _ _) | (refine JGB ?_; intro _ _ _ _) | (refine J1 ?_; intro _ _) | (refine J0 ?_; intro _ _) | (refine J2 ?_; intro _ _) | (refine J3 ?_; intro _ _) | (refine J4 ?_; intro _ _) | refine K1 ?_ | refine K0 ?_ | refine K2 ?_ | refine K3 ?_ | refine K4 ?_ | (refine CV_pu ?_; intro _ _ _ _) | (refine CV_puz ?_; intro _ _ _ _) | refine fRI_1 ?_ | refine fRI_N ?_ | refine gHV_lkI ?_ | refine gRI_lkI ?_ | refine gV_lkI ?_ | refine fV_ldN ?_ | refine fV_ld1 ?_ | refine fHV_ldN ?_ | refine fHV_ld1 ?_ | refine NilW_some ?_ | refine iCW_1 ?_ | refine iCW_N ?_ | refine Pk_b ?_))
    exact finW hR (by rw [behindM, if_pos e2])
  · have e2 : ¬ (i.op = 30 ∧ j = true) := by by_cases h : i.op = 30 <;> simp [h] at e ⊢; exact e
    (repeat (first | (refine iDr ?_; intro _ _) | refine V_run ?_ | refine PV_run ?_ | refine HV_run ?_ | refine iV_ld1 ?_ | refine iV_ldN ?_ | (refine iV_bx ?_; intro _ _ _ _) | (refine iV_al ?_; intro _ _ _ _) | (refine iV_mm ?_; intro _ _ _ _) | (refine iU_st ?_; intro _ _) | refine iHV_1 ?_ | refine iHV_N ?_ | refine iRI_1 ?_ | refine iRI_N ?_ | refine Cond_t ?_ | refine Cond_f ?_ | refine JB ?_ | (refine JC ?_; intro _ _ _ _) | (refine JGB ?_; intro _ _ _ _) | (refine J1 ?_; intro _ _) | (refine J0 ?_; intro _ _) | (refine J2 ?_; intro _ _) | (refine J3 ?_; intro _ _) | (refine J4 ?_; intro _ _) | refine K1 ?_ | refine K0 ?_ | refine K2 ?_ | refine K3 ?_ | refine K4 ?_ | (refine CV_pu ?_; intro _ _ _ _) | (refine CV_puz ?_; intro _ _ _ _) | refine fRI_1 ?_ | refine fRI_N ?_ | refine gHV_lkI ?_ | refine gRI_lkI ?_ | refine gV_lkI ?_ | refine fV_ldN ?_ | refine fV_ld1 ?_ | refine fHV_ldN ?_ | refine fHV_ld1 ?_ | refine NilW_some ?_ | refine iCW_1 ?_ | refine iCW_N ?_ | refine Pk_b ?_))
    refine Cond_d (fun e3 => ?_) (fun e3 => ?_)
    · have ha := ht.a e3
      haveI : InI (s.loops + (formAt i.op).loop - i.a) := ⟨by omega⟩
      (repeat (first | (refine iDr ?_; intro _ _) | refine V_run ?_ | refine PV_run ?_ | refine HV_run ?_ | refine iV_ld1 ?_ | refine iV_ldN ?_ | (refine iV_bx ?_; intro _ _ _ _) | (refine iV_al ?_; intro _ _ _ _) | (refine iV_mm ?_; intro _ _ _ _) | (refine iU_st ?_; intro _ _) | refine iHV_1 ?_ | refine iHV_N ?_ | refine iRI_1 ?_ | refine iRI_N ?_ | refine Cond_t ?_ | refine Cond_f ?_ | refine JB ?_ | (refine JC ?_; intro _ _ _ _) | (refine JGB ?_; intro _ _ _ _) | (refine J1 ?_; intro _ _) | (refine J0 ?_; intro _ _) | (refine J2 ?_; intro _ _) | (refine J3 ?_; intro _ _) | (refine J4 ?_; intro _ _) | refine K1 ?_ | refine K0 ?_ | refine K2 ?_ | refine K3 ?_ | refine K4 ?_ | (refine CV_pu ?_; intro _ _ _ _) | (refine CV_puz ?_; intro _ _ _ _) | refine fRI_1 ?_ | refine fRI_N ?_ | refine gHV_lkI ?_ | refine gRI_lkI ?_ | refine gV_lkI ?_ | refine fV_ldN ?_ | refine fV_ld1 ?_ | refine fHV_ldN ?_ | refine fHV_ld1 ?_ | refine NilW_some ?_ | refine iCW_1 ?_ | refine iCW_N ?_ | refine Pk_b ?_))
      exact finW hR (by rw [behindM, if_neg e2, if_pos e3])
    · (repeat (first | (refine iDr ?_; intro _ _) | refine V_run ?_ | refine PV_run ?_ | refine HV_run ?_ | refine iV_ld1 ?_ | refine iV_ldN ?_ | (refine iV_bx ?_; intro _ _ _ _) | (refine iV_al ?_; intro _ _ _ _) | (refine iV_mm ?_; intro _ _ _ _) | (refine iU_st ?_; intro _ _) | refine iHV_1 ?_ | refine iHV_N ?_ | refine iRI_1 ?_ | refine iRI_N ?_ | refine Cond_t ?_ | refine Cond_f ?_ | refine JB ?_ | (refine JC ?_; intro _ _ _ _) | (refine JGB ?_; intro _ _ _ _) | (refine J1 ?_; intro _ _) | (refine J0 ?_; intro _ _) | (refine J2 ?_; intro _ _) | (refine J3 ?_; intro _ _) | (refine J4 ?_; intro _ _) | refine K1 ?_ | refine K0 ?_ | refine K2 ?_ | refine K3 ?_ | refine K4 ?_ | (refine CV_pu ?_; intro _ _ _ _) | (refine CV_puz ?_; intro _ _ _ _) | refine fRI_1 ?_ | refine fRI_N ?_ | refine gHV_lkI ?_ | refine gRI_lkI ?_ | refine gV_lkI ?_ | refine fV_ldN ?_ | refine fV_ld1 ?_ | refine fHV_ldN ?_ | refine fHV_ld1 ?_ | refine NilW_some ?_ | refine iCW_1 ?_ | refine iCW_N ?_ | refine Pk_b ?_))
      exact finW hR (by rw [behindM, if_neg e2, if_neg e3, Int.sub_zero]))
end Go.Proofs.YtbeelfopmkbllaaGreatDoor
end

section
/- Where code begins. -/
set_option linter.unusedVariables false
set_option linter.unusedSimpArgs false
set_option maxRecDepth 20000
set_option synthInstance.maxHeartbeats 4000000
set_option synthInstance.maxSize 20000
namespace Go.Proofs.YtbeelfopmkbllaaGreatDoor
open Go Q Go.RowKit

def intsV (l : List Nat) : List Value := l.map fun n : Nat => .int .i64 (n : Int)
theorem intsV_append {a b : List Nat} : intsV (a ++ b) = intsV a ++ intsV b := by simp [intsV]
def rootOk (c : CodeM) (s : SpotM) : Bool := inB s.at_ 0 ((c.ins.length : Int) - 1)
def rootsK (c : CodeM) (k : Nat) : List Nat := 0 :: ((c.labels.take k).filter (rootOk c)).map fun s => s.at_.toNat
def rootsM (c : CodeM) : List Nat := rootsK c c.labels.length
theorem rootsK_le {c : CodeM} {k : Nat} : (rootsK c k).length ≤ k + 1 := by
  have := List.length_filter_le (rootOk c) (c.labels.take k)
  rw [List.length_take] at this
  simp only [rootsK, List.length_cons, List.length_map]; omega
theorem rootsK_succ {c : CodeM} {k : Nat} (h : k < c.labels.length) : rootsK c (k + 1) = rootsK c k ++ (if rootOk c c.labels[k] then [c.labels[k].at_.toNat] else []) := by
  unfold rootsK
  rw [← List.take_append_getElem h, List.filter_append, List.map_append]
  cases hr : rootOk c c.labels[k] <;> simp [hr]
theorem roots_of {z : Z} {w : World} {v : Value} {c : CodeM} (hc : CodeR z v c) (hl : c.labels.length ≤ 3000) : Fn 73 #[v] z [] w fun z' B' r => OwnSl 3 1 B' r (rootsM c).length (intsV (rootsM c)) := Fn.intro fun hS => en73 (by
  unfold vc73
  obtain ⟨a1, a2, a3, a4, a5, a6, k1, k2, k3, k4, k5, k6, rfl, h1, h2, h3, h4, h5, h6⟩ := hc.form
  haveI := inI_len h6.big
  refine iV_bx ?_
  intro bc w1 hbc hS1
  refine V_bs (parts := [(0, _)]) rfl (by omega) ?_
  intro br w2 hbr hS2
  clear hS hS1
  (repeat (first | (refine iDr ?_; intro _ _) | refine V_run ?_ | refine PV_run ?_ | refine HV_run ?_ | refine iV_ld1 ?_ | refine iV_ldN ?_ | (refine iV_bx ?_; intro _ _ _ _) | (refine iV_al ?_; intro _ _ _ _) | (refine iV_mm ?_; intro _ _ _ _) | (refine iU_st ?_; intro _ _) | refine iHV_1 ?_ | refine iHV_N ?_ | refine iRI_1 ?_ | refine iRI_N ?_ | refine Cond_t ?_ | refine Cond_f ?_ | refine JB ?_ | (refine JC ?_; intro _ _ _ _) | (refine JGB ?_; intro _ _ _ _) | (refine J1 ?_; intro _ _) | (refine J0 ?_; intro _ _) | (refine J2 ?_; intro _ _) | (refine J3 ?_; intro _ _) | (refine J4 ?_; intro _ _) | refine K1 ?_ | refine K0 ?_ | refine K2 ?_ | refine K3 ?_ | refine K4 ?_ | (refine CV_pu ?_; intro _ _ _ _) | (refine CV_puz ?_; intro _ _ _ _) | refine fRI_1 ?_ | refine fRI_N ?_ | refine gHV_lkI ?_ | refine gRI_lkI ?_ | refine gV_lkI ?_ | refine fV_ldN ?_ | refine fV_ld1 ?_ | refine fHV_ldN ?_ | refine fHV_ld1 ?_ | refine NilW_some ?_ | refine iCW_1 ?_ | refine iCW_N ?_ | refine Pk_b ?_))
  refine LoopG2 (fun (k : Nat) x y w' => y = .int .i64 k ∧ k ≤ c.labels.length ∧ ∃ B' z', Le z z' ∧ OwnSl 3 1 B' x (rootsK c k).length (intsV (rootsK c k)) ∧ Res w z [] w' z' (B' ++ [(bc, .cells [.slice a1 c.consts.length k1, .slice a2 c.tmpls.length k2, .slice a3 c.lists.length k3, .slice a4 c.labels.length k4, .slice a5 c.slots.length k5, .slice a6 c.ins.length k6].toArray 28 (0, 0))])) (fun k => c.labels.length - k) 0
    ⟨rfl, by omega, [(br, .cells ([Value.int .i64 0] ++ []).toArray 3 (0, 0))], _, Le.refl _, ⟨rfl, .inr ⟨br, 1, [], rfl, rfl, Nat.le_refl 1, by decide, rfl⟩⟩, hS2⟩ ?_
  rintro I M k x y w3 m ⟨rfl, hk, B3, z3, hz3, ho, hS3⟩ back
  clear hS2
  (repeat (first | (refine iDr ?_; intro _ _) | refine V_run ?_ | refine PV_run ?_ | refine HV_run ?_ | refine iV_ld1 ?_ | refine iV_ldN ?_ | (refine iV_bx ?_; intro _ _ _ _) | (refine iV_al ?_; intro _ _ _ _) | (refine iV_mm ?_; intro _ _ _ _) | (refine iU_st ?_; intro _ _) | refine iHV_1 ?_ | refine iHV_N ?_ | refine iRI_1 ?_ | refine iRI_N ?_ | refine Cond_t ?_ | refine Cond_f ?_ | refine JB ?_ | (refine JC ?_; intro _ _ _ _) | (refine JGB ?_; intro _ _ _ _) | (refine J1 ?_; intro _ _) | (refine J0 ?_; intro _ _) | (refine J2 ?_; intro _ _) | (refine J3 ?_; intro _ _) | (refine J4 ?_; intro _ _) | refine K1 ?_ | refine K0 ?_ | refine K2 ?_ | refine K3 ?_ | refine K4 ?_ | (refine CV_pu ?_; intro _ _ _ _) | (refine CV_puz ?_; intro _ _ _ _) | refine fRI_1 ?_ | refine fRI_N ?_ | refine gHV_lkI ?_ | refine gRI_lkI ?_ | refine gV_lkI ?_ | refine fV_ldN ?_ | refine fV_ld1 ?_ | refine fHV_ldN ?_ | refine fHV_ld1 ?_ | refine NilW_some ?_ | refine iCW_1 ?_ | refine iCW_N ?_ | refine Pk_b ?_))
  refine Cond_d (fun h => ?_) (fun h => ?_)
  · have hlt : k < c.labels.length := by omega
    haveI : InR (k : Int) (c.labels.length : Nat) := ⟨by omega, by omega⟩
    haveI : InI ((k : Int) + 1) := ⟨by omega⟩
    intro K hK
    obtain ⟨_, a, kk, he, _, hel⟩ := h4.form
    cases he
    obtain ⟨b, off, cs, rfl, ⟨rfl, hs⟩, hat⟩ := hel k _ (List.getElem?_eq_getElem hlt)
    have hlen := @rootsK_le c k
    (repeat (first | (refine iDr ?_; intro _ _) | refine V_run ?_ | refine PV_run ?_ | refine HV_run ?_ | refine iV_ld1 ?_ | refine iV_ldN ?_ | (refine iV_bx ?_; intro _ _ _ _) | (refine iV_al ?_; intro _ _ _ _) | (refine iV_mm ?_; intro _ _ _ _) | (refine iU_st ?_; intro _ _) | refine iHV_1 ?_ | refine iHV_N ?_ | refine iRI_1 ?_ | refine iRI_N ?_ | refine Cond_t ?_ | refine Cond_f ?_ | refine JB ?_ | (refine JC ?_; intro _ _ _ _) | (refine JGB ?_; intro _ _ _ _) | (refine J1 ?_; intro _ _) | (refine J0 ?_; intro _ _) | (refine J2 ?_; intro _ _) | (refine J3 ?_; intro _ _) | (refine J4 ?_; intro _ _) | refine K1 ?_ | refine K0 ?_ | refine K2 ?_ | refine K3 ?_ | refine K4 ?_ | (refine CV_pu ?_; intro _ _ _ _) | (refine CV_puz ?_; intro _ _ _ _) | refine fRI_1 ?_ | refine fRI_N ?_ | refine gHV_lkI ?_ | refine gRI_lkI ?_ | refine gV_lkI ?_ | refine fV_ldN ?_ | refine fV_ld1 ?_ | refine fHV_ldN ?_ | refine fHV_ld1 ?_ | refine NilW_some ?_ | refine iCW_1 ?_ | refine iCW_N ?_ | refine Pk_b ?_))
    refine zV_ldN (n := 2) (vs := c.labels[k].cells) (hat.mono hz3) rfl ?_
    (repeat (first | (refine iDr ?_; intro _ _) | refine V_run ?_ | refine PV_run ?_ | refine HV_run ?_ | refine iV_ld1 ?_ | refine iV_ldN ?_ | (refine iV_bx ?_; intro _ _ _ _) | (refine iV_al ?_; intro _ _ _ _) | (refine iV_mm ?_; intro _ _ _ _) | (refine iU_st ?_; intro _ _) | refine iHV_1 ?_ | refine iHV_N ?_ | refine iRI_1 ?_ | refine iRI_N ?_ | refine Cond_t ?_ | refine Cond_f ?_ | refine JB ?_ | (refine JC ?_; intro _ _ _ _) | (refine JGB ?_; intro _ _ _ _) | (refine J1 ?_; intro _ _) | (refine J0 ?_; intro _ _) | (refine J2 ?_; intro _ _) | (refine J3 ?_; intro _ _) | (refine J4 ?_; intro _ _) | refine K1 ?_ | refine K0 ?_ | refine K2 ?_ | refine K3 ?_ | refine K4 ?_ | (refine CV_pu ?_; intro _ _ _ _) | (refine CV_puz ?_; intro _ _ _ _) | refine fRI_1 ?_ | refine fRI_N ?_ | refine gHV_lkI ?_ | refine gRI_lkI ?_ | refine gV_lkI ?_ | refine fV_ldN ?_ | refine fV_ld1 ?_ | refine fHV_ldN ?_ | refine fHV_ld1 ?_ | refine NilW_some ?_ | refine iCW_1 ?_ | refine iCW_N ?_ | refine Pk_b ?_))
    refine Cond_b (fun e => ?_) (fun e => ?_)
    · have e2 : rootOk c c.labels[k] = true := e
      have e3 := inB_iff.1 e
      have hat2 : ((c.labels[k].at_.toNat : Nat) : Int) = c.labels[k].at_ := by omega
      (repeat (first | (refine iDr ?_; intro _ _) | refine V_run ?_ | refine PV_run ?_ | refine HV_run ?_ | refine iV_ld1 ?_ | refine iV_ldN ?_ | (refine iV_bx ?_; intro _ _ _ _) | (refine iV_al ?_; intro _ _ _ _) | (refine iV_mm ?_; intro _ _ _ _) | (refine iU_st ?_; intro _ _) | refine iHV_1 ?_ | refine iHV_N ?_ | refine iRI_1 ?_ | refine iRI_N ?_ | refine Cond_t ?_ | refine Cond_f ?_ | refine JB ?_ | (refine JC ?_; intro _ _ _ _) | (refine JGB ?_; intro _ _ _ _) | (refine J1 ?_; intro _ _) | (refine J0 ?_; intro _ _) | (refine J2 ?_; intro _ _) | (refine J3 ?_; intro _ _) | (refine J4 ?_; intro _ _) | refine K1 ?_ | refine K0 ?_ | refine K2 ?_ | refine K3 ?_ | refine K4 ?_ | (refine CV_pu ?_; intro _ _ _ _) | (refine CV_puz ?_; intro _ _ _ _) | refine fRI_1 ?_ | refine fRI_N ?_ | refine gHV_lkI ?_ | refine gRI_lkI ?_ | refine gV_lkI ?_ | refine fV_ldN ?_ | refine fV_ld1 ?_ | refine fHV_ldN ?_ | refine fHV_ld1 ?_ | refine NilW_some ?_ | refine iCW_1 ?_ | refine iCW_N ?_ | refine Pk_b ?_))
      rename_i hS4
      refine V_push hS4 ho (by simp only [room]; omega) (by simp only [room]; omega) (by decide) ?_
      intro B5 v5 w5 ho5 hS5
      refine hK _ _ fun _ => ?_
      (repeat (first | (refine iDr ?_; intro _ _) | refine V_run ?_ | refine PV_run ?_ | refine HV_run ?_ | refine iV_ld1 ?_ | refine iV_ldN ?_ | (refine iV_bx ?_; intro _ _ _ _) | (refine iV_al ?_; intro _ _ _ _) | (refine iV_mm ?_; intro _ _ _ _) | (refine iU_st ?_; intro _ _) | refine iHV_1 ?_ | refine iHV_N ?_ | refine iRI_1 ?_ | refine iRI_N ?_ | refine Cond_t ?_ | refine Cond_f ?_ | refine JB ?_ | (refine JC ?_; intro _ _ _ _) | (refine JGB ?_; intro _ _ _ _) | (refine J1 ?_; intro _ _) | (refine J0 ?_; intro _ _) | (refine J2 ?_; intro _ _) | (refine J3 ?_; intro _ _) | (refine J4 ?_; intro _ _) | refine K1 ?_ | refine K0 ?_ | refine K2 ?_ | refine K3 ?_ | refine K4 ?_ | (refine CV_pu ?_; intro _ _ _ _) | (refine CV_puz ?_; intro _ _ _ _) | refine fRI_1 ?_ | refine fRI_N ?_ | refine gHV_lkI ?_ | refine gRI_lkI ?_ | refine gV_lkI ?_ | refine fV_ldN ?_ | refine fV_ld1 ?_ | refine fHV_ldN ?_ | refine fHV_ld1 ?_ | refine NilW_some ?_ | refine iCW_1 ?_ | refine iCW_N ?_ | refine Pk_b ?_))
      refine back (k + 1) _ _ _ ⟨by simp, by omega, B5, _, ?_, ?_, hS5.keep [.bl B5, .at bc]⟩ (by omega)
      · (repeat (first | assumption | exact Le.refl _ | exact Res.zle (by assumption) | refine Le.trans ?_ (by assumption : Le _ _)))
      · rw [rootsK_succ hlt, if_pos e2, intsV_append]
        simpa [intsV, hat2] using ho5
    · have e2 : ¬ rootOk c c.labels[k] = true := by rw [show rootOk c c.labels[k] = false from e]; simp
      rename_i hS4
      refine hK _ _ fun _ => ?_
      (repeat (first | (refine iDr ?_; intro _ _) | refine V_run ?_ | refine PV_run ?_ | refine HV_run ?_ | refine iV_ld1 ?_ | refine iV_ldN ?_ | (refine iV_bx ?_; intro _ _ _ _) | (refine iV_al ?_; intro _ _ _ _) | (refine iV_mm ?_; intro _ _ _ _) | (refine iU_st ?_; intro _ _) | refine iHV_1 ?_ | refine iHV_N ?_ | refine iRI_1 ?_ | refine iRI_N ?_ | refine Cond_t ?_ | refine Cond_f ?_ | refine JB ?_ | (refine JC ?_; intro _ _ _ _) | (refine JGB ?_; intro _ _ _ _) | (refine J1 ?_; intro _ _) | (refine J0 ?_; intro _ _) | (refine J2 ?_; intro _ _) | (refine J3 ?_; intro _ _) | (refine J4 ?_; intro _ _) | refine K1 ?_ | refine K0 ?_ | refine K2 ?_ | refine K3 ?_ | refine K4 ?_ | (refine CV_pu ?_; intro _ _ _ _) | (refine CV_puz ?_; intro _ _ _ _) | refine fRI_1 ?_ | refine fRI_N ?_ | refine gHV_lkI ?_ | refine gRI_lkI ?_ | refine gV_lkI ?_ | refine fV_ldN ?_ | refine fV_ld1 ?_ | refine fHV_ldN ?_ | refine fHV_ld1 ?_ | refine NilW_some ?_ | refine iCW_1 ?_ | refine iCW_N ?_ | refine Pk_b ?_))
      refine back (k + 1) _ _ _ ⟨by simp, by omega, B3, _, ?_, ?_, hS4.keep [.bl B3, .at bc]⟩ (by omega)
      · (repeat (first | assumption | exact Le.refl _ | exact Res.zle (by assumption) | refine Le.trans ?_ (by assumption : Le _ _)))
      · rw [rootsK_succ hlt, if_neg e2, List.append_nil]
        exact ho
  · have : k = c.labels.length := by omega
    subst this
    exact ⟨_, _, hS3.keep [.bl B3], by simpa [rootsM] using ho⟩)
end Go.Proofs.YtbeelfopmkbllaaGreatDoor
end

section
/- The successors of an instruction, as a loop over a function. -/
set_option linter.unusedVariables false
set_option linter.unusedSimpArgs false
set_option maxRecDepth 20000
set_option synthInstance.maxHeartbeats 4000000
set_option synthInstance.maxSize 20000
namespace Go.Proofs.YtbeelfopmkbllaaGreatDoor
open Go Q Go.RowKit

def jumpOp (i : InsM) : Bool := decide (i.op = 23) || (decide (i.op = 24) || decide (i.op = 30))
def lead1 (n at_ : Nat) (i : InsM) : List (Nat × Bool) := if (!(formAt i.op).final && decide (at_ + 1 < n)) = true then [(at_ + 1, false)] else []
def lead2 (n : Nat) (i : InsM) : List (Nat × Bool) := if (jumpOp i && inB i.a 0 ((n : Int) - 1)) = true then [(i.a.toNat, true)] else []
def leadsM (n at_ : Nat) (i : InsM) : List (Nat × Bool) := lead1 n at_ i ++ lead2 n i
theorem leads_of {z : Z} {w : World} {vs : List Value} {at_ : Int} : Fn1 74 #[.agg vs.toArray, .int .i64 at_] z w fun z' r => ∃ b1 b2, r = .func (.func 173) #[] #[.pointer (some ⟨b1, 0, none⟩), .pointer (some ⟨b2, 0, none⟩)] ∧ At z' b1 0 vs ∧ At z' b2 0 [.int .i64 at_] := Fn1.intro fun hS => en74 (by
  unfold vc74
  refine iV_bx ?_
  intro b1 w1 hb1 hS1
  refine iV_bx ?_
  intro b2 w2 hb2 hS2
  obtain ⟨z3, hz3, hS3, h3⟩ := hS2.frz b2
  obtain ⟨z4, hz4, hS4, h4⟩ := hS3.frz b1
  exact ⟨_, _, hS4, b1, b2, rfl, h4, h3.mono hz4⟩)
abbrev codeVs (a1 a2 a3 a4 a5 a6 : Option Addr) (k1 k2 k3 k4 k5 k6 : Nat) (c : CodeM) : List Value := [.slice a1 c.consts.length k1, .slice a2 c.tmpls.length k2, .slice a3 c.lists.length k3, .slice a4 c.labels.length k4, .slice a5 c.slots.length k5, .slice a6 c.ins.length k6]
theorem leads_gen {z : Z} {w : World} {L : Bl} {b1 b2 : Nat} {yv : Value} {K : Value → World → Prop} {c : CodeM} {at_ : Nat} {i : InsM} {a1 a2 a3 a4 a5 a6 : Option Addr} {k1 k2 k3 k4 k5 k6 : Nat} (hS : Res w z L w z L) (h6 : SlR El.ins z (.slice a6 c.ins.length k6) c.ins)
    (g1 : At z b1 0 (codeVs a1 a2 a3 a4 a5 a6 k1 k2 k3 k4 k5 k6 c)) (g2 : At z b2 0 [.int .i64 (at_ : Int)]) (hi : c.ins[at_]? = some i)
    (J : Nat → Z → Bl → Prop) (Jf : Z → Bl → Prop) (hm : ∀ k z' z'' L', Le z' z'' → J k z' L' → J k z'' L') (h0 : J 0 z L)
    (body : ∀ k x b, (leadsM c.ins.length at_ i)[k]? = some (x, b) → ∀ z' w' G L' (K' : Value → World → Prop), Le z z' → Res w z L w' z' (G ++ L') → J k z' L' → (∀ z'' w'' L'', Le z' z'' → Res w z L w'' z'' (G ++ L'') → J (k + 1) z'' L'' → K' (.bool true) w'') → (∀ z'' w'' L'', Le z' z'' → Res w z L w'' z'' (G ++ L'') → Jf z'' L'' → K' (.bool false) w'') → CV yv #[.int .i64 (x : Int), .bool b] w' K')
    (hend : ∀ z' w' L', Le z z' → Res w z L w' z' L' → J (leadsM c.ins.length at_ i).length z' L' → K (.tuple #[]) w') (hstop : ∀ z' w' L', Le z z' → Res w z L w' z' L' → Jf z' L' → K (.tuple #[]) w') :
    CE (.func (.func 173) #[] #[.pointer (some ⟨b1, 0, none⟩), .pointer (some ⟨b2, 0, none⟩)]) #[yv] w K := by
  refine CE_fn (args' := #[yv, .pointer (some ⟨b1, 0, none⟩), .pointer (some ⟨b2, 0, none⟩)]) (by simp) (en173 ?_)
  unfold vc173
  have hlt := (List.getElem?_eq_some_iff.1 hi).1
  have hbig := h6.big
  haveI := inI_len hbig
  haveI : InR (at_ : Int) (c.ins.length : Nat) := ⟨by omega, by omega⟩
  haveI : InI ((at_ : Int) + 1) := ⟨by simp only [big] at hbig; omega⟩
  haveI : Fz z b1 5 [.slice a6 c.ins.length k6] := ⟨g1.fld (i := 5) rfl rfl⟩
  haveI : Fz z b2 0 [.int .i64 (at_ : Int)] := ⟨g2⟩
  obtain ⟨_, a, kk, he, _, hel⟩ := h6.form
  cases he
  obtain ⟨b, off, cs, rfl, rfl, hat⟩ := hel _ _ hi
  (repeat (first | (refine iDr ?_; intro _ _) | refine V_run ?_ | refine PV_run ?_ | refine HV_run ?_ | refine iV_ld1 ?_ | refine iV_ldN ?_ | (refine iV_bx ?_; intro _ _ _ _) | (refine iV_al ?_; intro _ _ _ _) | (refine iV_mm ?_; intro _ _ _ _) | (refine iU_st ?_; intro _ _) | refine iHV_1 ?_ | refine iHV_N ?_ | refine iRI_1 ?_ | refine iRI_N ?_ | refine Cond_t ?_ | refine Cond_f ?_ | refine JB ?_ | (refine JC ?_; intro _ _ _ _) | (refine JGB ?_; intro _ _ _ _) | (refine J1 ?_; intro _ _) | (refine J0 ?_; intro _ _) | (refine J2 ?_; intro _ _) | (refine J3 ?_; intro _ _) | (refine J4 ?_; intro _ _) | refine K1 ?_ | refine K0 ?_ | refine K2 ?_ | refine K3 ?_ | refine K4 ?_ | (refine CV_pu ?_; intro _ _ _ _) | (refine CV_puz ?_; intro _ _ _ _) | refine fRI_1 ?_ | refine fRI_N ?_ | refine gHV_lkI ?_ | refine gRI_lkI ?_ | refine gV_lkI ?_ | refine fV_ldN ?_ | refine fV_ld1 ?_ | refine fHV_ldN ?_ | refine fHV_ld1 ?_ | refine NilW_some ?_ | refine iCW_1 ?_ | refine iCW_N ?_ | refine Pk_b ?_))
  refine zV_ldN (n := 4) (vs := i.cells) hat rfl ?_
  refine iV_al ?_
  intro b3 w3 hb3 hS3
  refine iU_st ?_
  intro w4 hS4
  refine iV_ldN ?_
  refine CV_pu ?_
  intro z5 w5 hz5 hS5
  refine V_run ?_
  refine V_run ?_
  refine iV_al ?_
  intro b6 w6 hb6 hS6
  refine iU_st ?_
  intro w7 hS7
  clear hS3 hS4 hS5 hS6
  (repeat (first | (refine iDr ?_; intro _ _) | refine V_run ?_ | refine PV_run ?_ | refine HV_run ?_ | refine iV_ld1 ?_ | refine iV_ldN ?_ | (refine iV_bx ?_; intro _ _ _ _) | (refine iV_al ?_; intro _ _ _ _) | (refine iV_mm ?_; intro _ _ _ _) | (refine iU_st ?_; intro _ _) | refine iHV_1 ?_ | refine iHV_N ?_ | refine iRI_1 ?_ | refine iRI_N ?_ | refine Cond_t ?_ | refine Cond_f ?_ | refine JB ?_ | (refine JC ?_; intro _ _ _ _) | (refine JGB ?_; intro _ _ _ _) | (refine J0 ?_; intro _ _) | (refine J2 ?_; intro _ _) | (refine J3 ?_; intro _ _) | (refine J4 ?_; intro _ _) | refine K1 ?_ | refine K0 ?_ | refine K2 ?_ | refine K3 ?_ | refine K4 ?_ | (refine CV_pu ?_; intro _ _ _ _) | (refine CV_puz ?_; intro _ _ _ _) | refine fRI_1 ?_ | refine fRI_N ?_ | refine gHV_lkI ?_ | refine gRI_lkI ?_ | refine gV_lkI ?_ | refine fV_ldN ?_ | refine fV_ld1 ?_ | refine fHV_ldN ?_ | refine fHV_ld1 ?_ | refine NilW_some ?_ | refine iCW_1 ?_ | refine iCW_N ?_ | refine Pk_b ?_))
  rename_i z8 w8 hz8 hS8
  clear hS7
  intro Ka hKa
  have cont : ∀ z' w' L', Le z8 z' → Res w z L w' z' ([(b6, .cells (formAt i.op).cells.toArray 102 (0, 0)), (b3, .cells i.cells.toArray 38 (0, 0))] ++ L') → J (lead1 c.ins.length at_ i).length z' L' → Ka [.bool false] w' := by
    intro z' w' L' hz' hS9 hJ
    refine hKa _ _ fun _ => ?_
    clear hS8 hKa hS
    simp only [List.cons_append, List.nil_append] at hS9
    refine Cond_f ?_
    (repeat (first | (refine iDr ?_; intro _ _) | refine V_run ?_ | refine PV_run ?_ | refine HV_run ?_ | refine iV_ld1 ?_ | refine iV_ldN ?_ | (refine iV_bx ?_; intro _ _ _ _) | (refine iV_al ?_; intro _ _ _ _) | (refine iV_mm ?_; intro _ _ _ _) | (refine iU_st ?_; intro _ _) | refine iHV_1 ?_ | refine iHV_N ?_ | refine iRI_1 ?_ | refine iRI_N ?_ | refine Cond_t ?_ | refine Cond_f ?_ | refine JB ?_ | (refine JC ?_; intro _ _ _ _) | (refine JGB ?_; intro _ _ _ _) | (refine J1 ?_; intro _ _) | (refine J0 ?_; intro _ _) | (refine J2 ?_; intro _ _) | (refine J3 ?_; intro _ _) | (refine J4 ?_; intro _ _) | refine K1 ?_ | refine K0 ?_ | refine K2 ?_ | refine K3 ?_ | refine K4 ?_ | (refine CV_pu ?_; intro _ _ _ _) | (refine CV_puz ?_; intro _ _ _ _) | refine fRI_1 ?_ | refine fRI_N ?_ | refine gHV_lkI ?_ | refine gRI_lkI ?_ | refine gV_lkI ?_ | refine fV_ldN ?_ | refine fV_ld1 ?_ | refine fHV_ldN ?_ | refine fHV_ld1 ?_ | refine NilW_some ?_ | refine iCW_1 ?_ | refine iCW_N ?_ | refine Pk_b ?_))
    rename_i z10 w10 hz10 hS10
    clear hS9
    have hz10' : Le z' z10 := by (repeat (first | assumption | exact Le.refl _ | exact Res.zle (by assumption) | refine Le.trans ?_ (by assumption : Le _ _)))
    have hz' := hz5.trans (hz8.trans (hz'.trans hz10'))
    have hjo : (bif bif bif decide (i.op = 23) then true else decide (i.op = 24) then true else decide (i.op = 30) then inB i.a 0 ((c.ins.length : Int) - 1) else false) = (jumpOp i && inB i.a 0 ((c.ins.length : Int) - 1)) := by
      unfold jumpOp; cases decide (i.op = 23) <;> cases decide (i.op = 24) <;> cases decide (i.op = 30) <;> rfl
    rw [hjo]
    refine Cond_b (fun e => ?_) (fun e => ?_)
    · have hin : inB i.a 0 ((c.ins.length : Int) - 1) = true := by revert e; cases jumpOp i <;> simp
      have hin' := inB_iff.1 hin
      have hl2 : lead2 c.ins.length i = [(i.a.toNat, true)] := by rw [lead2, if_pos e]
      (repeat (first | (refine iDr ?_; intro _ _) | refine V_run ?_ | refine PV_run ?_ | refine HV_run ?_ | refine iV_ld1 ?_ | refine iV_ldN ?_ | (refine iV_bx ?_; intro _ _ _ _) | (refine iV_al ?_; intro _ _ _ _) | (refine iV_mm ?_; intro _ _ _ _) | (refine iU_st ?_; intro _ _) | refine iHV_1 ?_ | refine iHV_N ?_ | refine iRI_1 ?_ | refine iRI_N ?_ | refine Cond_t ?_ | refine Cond_f ?_ | refine JB ?_ | (refine JC ?_; intro _ _ _ _) | (refine JGB ?_; intro _ _ _ _) | (refine J1 ?_; intro _ _) | (refine J0 ?_; intro _ _) | (refine J2 ?_; intro _ _) | (refine J3 ?_; intro _ _) | (refine J4 ?_; intro _ _) | refine K1 ?_ | refine K0 ?_ | refine K2 ?_ | refine K3 ?_ | refine K4 ?_ | (refine CV_pu ?_; intro _ _ _ _) | (refine CV_puz ?_; intro _ _ _ _) | refine fRI_1 ?_ | refine fRI_N ?_ | refine gHV_lkI ?_ | refine gRI_lkI ?_ | refine gV_lkI ?_ | refine fV_ldN ?_ | refine fV_ld1 ?_ | refine fHV_ldN ?_ | refine fHV_ld1 ?_ | refine NilW_some ?_ | refine iCW_1 ?_ | refine iCW_N ?_ | refine Pk_b ?_))
      have hb := body (lead1 c.ins.length at_ i).length i.a.toNat true (by rw [leadsM, hl2, List.getElem?_append_right (Nat.le_refl _), Nat.sub_self]; rfl) _ _ [(b6, .cells (formAt i.op).cells.toArray 102 (0, 0)), (b3, .cells i.cells.toArray 38 (0, 0))] L' (fun v w' => K (.tuple #[]) w') hz' hS10 (hm _ _ _ _ hz10' hJ)
        (fun z'' w'' L'' hz'' hS'' hJ'' => hend z'' w'' L'' (hz'.trans hz'') ((hS''.sublist (List.sublist_append_right _ _))) (by rw [leadsM, hl2, List.length_append]; exact hJ''))
        (fun z'' w'' L'' hz'' hS'' hJ'' => hstop z'' w'' L'' (hz'.trans hz'') ((hS''.sublist (List.sublist_append_right _ _))) hJ'')
      rw [show ((i.a.toNat : Nat) : Int) = i.a by omega] at hb
      exact hb
    · have hl2 : lead2 c.ins.length i = [] := by rw [lead2, if_neg (by rw [e]; simp)]
      exact hend z10 w10 L' hz' (hS10.sublist (List.sublist_append_right [_, _] _)) (by rw [leadsM, hl2, List.append_nil]; exact hm _ _ _ _ hz10' hJ)
  have hfi : (bif !(formAt i.op).final then decide ((at_ : Int) + 1 < (c.ins.length : Int)) else false) = (!(formAt i.op).final && decide (at_ + 1 < c.ins.length)) := by
    rw [show decide ((at_ : Int) + 1 < (c.ins.length : Int)) = decide (at_ + 1 < c.ins.length) from decide_eq_decide.2 (by omega)]
    cases (formAt i.op).final <;> rfl
  rw [hfi]
  refine Cond_b (fun e => ?_) (fun e => ?_)
  · have hl1 : lead1 c.ins.length at_ i = [(at_ + 1, false)] := by rw [lead1, if_pos e]
    (repeat (first | (refine iDr ?_; intro _ _) | refine V_run ?_ | refine PV_run ?_ | refine HV_run ?_ | refine iV_ld1 ?_ | refine iV_ldN ?_ | (refine iV_bx ?_; intro _ _ _ _) | (refine iV_al ?_; intro _ _ _ _) | (refine iV_mm ?_; intro _ _ _ _) | (refine iU_st ?_; intro _ _) | refine iHV_1 ?_ | refine iHV_N ?_ | refine iRI_1 ?_ | refine iRI_N ?_ | refine Cond_t ?_ | refine Cond_f ?_ | refine JB ?_ | (refine JC ?_; intro _ _ _ _) | (refine JGB ?_; intro _ _ _ _) | (refine J1 ?_; intro _ _) | (refine J0 ?_; intro _ _) | (refine J2 ?_; intro _ _) | (refine J3 ?_; intro _ _) | (refine J4 ?_; intro _ _) | refine K1 ?_ | refine K0 ?_ | refine K2 ?_ | refine K3 ?_ | refine K4 ?_ | (refine CV_pu ?_; intro _ _ _ _) | (refine CV_puz ?_; intro _ _ _ _) | refine fRI_1 ?_ | refine fRI_N ?_ | refine gHV_lkI ?_ | refine gRI_lkI ?_ | refine gV_lkI ?_ | refine fV_ldN ?_ | refine fV_ld1 ?_ | refine fHV_ldN ?_ | refine fHV_ld1 ?_ | refine NilW_some ?_ | refine iCW_1 ?_ | refine iCW_N ?_ | refine Pk_b ?_))
    have hb := body 0 (at_ + 1) false (by rw [leadsM, hl1]; rfl) _ _ [(b6, .cells (formAt i.op).cells.toArray 102 (0, 0)), (b3, .cells i.cells.toArray 38 (0, 0))] L (fun v w' => V (un .not v) w' fun t33 w => Ka [t33] w) (hz5.trans hz8) hS8 (hm _ _ _ _ (hz5.trans hz8) h0)
      (fun z'' w'' L'' hz'' hS'' hJ'' => by
        refine V_run ?_
        exact cont z'' w'' L'' hz'' hS'' (by rw [hl1]; exact hJ''))
      (fun z'' w'' L'' hz'' hS'' hJ'' => by
        refine V_run ?_
        refine hKa _ _ fun _ => Cond_t ?_
        exact hstop z'' w'' L'' ((hz5.trans hz8).trans hz'') (hS''.sublist (List.sublist_append_right _ _)) hJ'')
    exact hb
  · have hl1 : lead1 c.ins.length at_ i = [] := by rw [lead1, if_neg (by rw [e]; simp)]
    exact cont z8 w8 L (Le.refl _) hS8 (by rw [hl1]; exact hm _ _ _ _ (hz5.trans hz8) h0)
end Go.Proofs.YtbeelfopmkbllaaGreatDoor
end

section
/- Coming to an instruction with depths. -/
set_option linter.unusedVariables false
set_option linter.unusedSimpArgs false
set_option maxRecDepth 20000
set_option synthInstance.maxHeartbeats 4000000
set_option synthInstance.maxSize 20000
namespace Go.Proofs.YtbeelfopmkbllaaGreatDoor
open Go Q Go.RowKit

structure DpM where
  kn : List (Option DepM)
  open_ : List Nat
def comeM (d : DpM) (at_ : Nat) (s : DepM) : Bool × DpM := match d.kn.getD at_ none with
  | some was => (decide (was = s), d)
  | none => (inB s.stack 0 200 && inB s.loops 0 40, ⟨d.kn.set at_ (some s), d.open_ ++ [at_]⟩)
def KnR (l : List (Int × Value)) (kn : List (Option DepM)) : Prop := ∀ n : Int, getK l n = if 0 ≤ n then (kn.getD n.toNat none).map DepM.v else none
theorem KnR.up {l : List (Int × Value)} {kn : List (Option DepM)} (h : KnR l kn) {at_ : Nat} (ha : at_ < kn.length) {s : DepM} : KnR (upK l (at_ : Int) s.v) (kn.set at_ (some s)) := fun n => by
  rw [getK_up, h n]
  by_cases hn : n = (at_ : Int)
  · subst hn
    rw [if_pos rfl, if_pos (by omega), List.getD_eq_getElem?_getD, Int.toNat_natCast, List.getElem?_set_self ha]
    rfl
  · rw [if_neg hn]
    by_cases h0 : 0 ≤ n
    · rw [if_pos h0, if_pos h0, List.getD_eq_getElem?_getD, List.getD_eq_getElem?_getD, List.getElem?_set_ne (by omega)]
    · rw [if_neg h0, if_neg h0]
def DpR (b5 b6 : Nat) (B : Bl) (d : DpM) : Prop := ∃ bm l v Bo, B = (b5, .cells [.map (some bm)].toArray 236 (0, 0)) :: (bm, mK (Value.int .i64) l) :: (b6, .cells [v].toArray 45 (0, 0)) :: Bo ∧ KnR l d.kn ∧ OwnSl 3 1 Bo v d.open_.length (intsV d.open_)
instance : ZeroV 238 (.agg [.int .i64 0, .int .i64 0].toArray) := ⟨fun _ => by kernel_rfl⟩
theorem dep_eq {a b : DepM} : (decide (a.stack = b.stack) && (decide (a.loops = b.loops) && true)) = decide (a = b) := by
  cases a; cases b
  simp only [DepM.mk.injEq, Bool.and_true]
  rw [Bool.decide_and]
theorem come_of {z : Z} {w : World} {b5 b6 at_ : Nat} {s : DepM} {B : Bl} {d : DpM} (hd : DpR b5 b6 B d) (ha : at_ < d.kn.length) (ho : d.open_.length ≤ 20000) :
    Va (.func (.func 160) #[] #[.pointer (some ⟨b5, 0, none⟩), .pointer (some ⟨b6, 0, none⟩)]) #[.int .i64 (at_ : Int), s.v] z B w fun _ B' r => r = .bool (comeM d at_ s).1 ∧ DpR b5 b6 B' (comeM d at_ s).2 :=
  Fn.va (args' := #[.int .i64 (at_ : Int), s.v, .pointer (some ⟨b5, 0, none⟩), .pointer (some ⟨b6, 0, none⟩)]) (Fn.intro fun hS => en160 (by
    unfold vc160
    obtain ⟨bm, l, v, Bo, rfl, hkn, hown⟩ := hd
    obtain ⟨av, cv, rfl, _⟩ := hown.form
    have hk := hkn (at_ : Int)
    rw [if_pos (by omega), Int.toNat_natCast] at hk
    have hd' : comeM d at_ s = comeM d at_ s := rfl
    conv at hd' => rhs; unfold comeM
    (repeat (first | (refine iDr ?_; intro _ _) | refine V_run ?_ | refine PV_run ?_ | refine HV_run ?_ | refine iV_ld1 ?_ | refine iV_ldN ?_ | (refine iV_bx ?_; intro _ _ _ _) | (refine iV_al ?_; intro _ _ _ _) | (refine iV_mm ?_; intro _ _ _ _) | (refine iU_st ?_; intro _ _) | refine iHV_1 ?_ | refine iHV_N ?_ | refine iRI_1 ?_ | refine iRI_N ?_ | refine Cond_t ?_ | refine Cond_f ?_ | refine JB ?_ | (refine JC ?_; intro _ _ _ _) | (refine JGB ?_; intro _ _ _ _) | (refine J1 ?_; intro _ _) | (refine J0 ?_; intro _ _) | (refine J2 ?_; intro _ _) | (refine J3 ?_; intro _ _) | (refine J4 ?_; intro _ _) | refine K1 ?_ | refine K0 ?_ | refine K2 ?_ | refine K3 ?_ | refine K4 ?_ | (refine CV_pu ?_; intro _ _ _ _) | (refine CV_puz ?_; intro _ _ _ _) | refine fRI_1 ?_ | refine fRI_N ?_ | refine gHV_lkI ?_ | refine gRI_lkI ?_ | refine gV_lkI ?_ | refine fV_ldN ?_ | refine fV_ld1 ?_ | refine fHV_ldN ?_ | refine fHV_ld1 ?_ | refine NilW_some ?_ | refine iCW_1 ?_ | refine iCW_N ?_ | refine Pk_b ?_))
    refine kV_lk (mk := Value.int .i64) (zv := .agg [.int .i64 0, .int .i64 0].toArray) ?_
    rw [if_pos rfl, hk]
    cases h : d.kn.getD at_ none with
    | some was =>
      rw [h] at hd'
      simp only at hd'
      dsimp only [Option.map, Option.getD, Option.isSome]
      (repeat (first | (refine iDr ?_; intro _ _) | refine V_run ?_ | refine PV_run ?_ | refine HV_run ?_ | refine iV_ld1 ?_ | refine iV_ldN ?_ | (refine iV_bx ?_; intro _ _ _ _) | (refine iV_al ?_; intro _ _ _ _) | (refine iV_mm ?_; intro _ _ _ _) | (refine iU_st ?_; intro _ _) | refine iHV_1 ?_ | refine iHV_N ?_ | refine iRI_1 ?_ | refine iRI_N ?_ | refine Cond_t ?_ | refine Cond_f ?_ | refine JB ?_ | (refine JC ?_; intro _ _ _ _) | (refine JGB ?_; intro _ _ _ _) | (refine J1 ?_; intro _ _) | (refine J0 ?_; intro _ _) | (refine J2 ?_; intro _ _) | (refine J3 ?_; intro _ _) | (refine J4 ?_; intro _ _) | refine K1 ?_ | refine K0 ?_ | refine K2 ?_ | refine K3 ?_ | refine K4 ?_ | (refine CV_pu ?_; intro _ _ _ _) | (refine CV_puz ?_; intro _ _ _ _) | refine fRI_1 ?_ | refine fRI_N ?_ | refine gHV_lkI ?_ | refine gRI_lkI ?_ | refine gV_lkI ?_ | refine fV_ldN ?_ | refine fV_ld1 ?_ | refine fHV_ldN ?_ | refine fHV_ld1 ?_ | refine NilW_some ?_ | refine iCW_1 ?_ | refine iCW_N ?_ | refine Pk_b ?_))
      rw [hd']
      exact finK [.at b5, .at bm, .at b6, .bl Bo] ⟨by rw [← dep_eq], bm, l, _, Bo, by rw [List.append_nil], hkn, hown⟩
    | none =>
      rw [h] at hd'
      simp only at hd'
      dsimp only [Option.map, Option.getD, Option.isSome]
      (repeat (first | (refine iDr ?_; intro _ _) | refine V_run ?_ | refine PV_run ?_ | refine HV_run ?_ | refine iV_ld1 ?_ | refine iV_ldN ?_ | (refine iV_bx ?_; intro _ _ _ _) | (refine iV_al ?_; intro _ _ _ _) | (refine iV_mm ?_; intro _ _ _ _) | (refine iU_st ?_; intro _ _) | refine iHV_1 ?_ | refine iHV_N ?_ | refine iRI_1 ?_ | refine iRI_N ?_ | refine Cond_t ?_ | refine Cond_f ?_ | refine JB ?_ | (refine JC ?_; intro _ _ _ _) | (refine JGB ?_; intro _ _ _ _) | (refine J1 ?_; intro _ _) | (refine J0 ?_; intro _ _) | (refine J2 ?_; intro _ _) | (refine J3 ?_; intro _ _) | (refine J4 ?_; intro _ _) | refine K1 ?_ | refine K0 ?_ | refine K2 ?_ | refine K3 ?_ | refine K4 ?_ | (refine CV_pu ?_; intro _ _ _ _) | (refine CV_puz ?_; intro _ _ _ _) | refine fRI_1 ?_ | refine fRI_N ?_ | refine gHV_lkI ?_ | refine gRI_lkI ?_ | refine gV_lkI ?_ | refine fV_ldN ?_ | refine fV_ld1 ?_ | refine fHV_ldN ?_ | refine fHV_ld1 ?_ | refine NilW_some ?_ | refine iCW_1 ?_ | refine iCW_N ?_ | refine Pk_b ?_))
      refine kU_mu (mk := Value.int .i64) ?_
      intro w2 hS2
      (repeat (first | (refine iDr ?_; intro _ _) | refine V_run ?_ | refine PV_run ?_ | refine HV_run ?_ | refine iV_ld1 ?_ | refine iV_ldN ?_ | (refine iV_bx ?_; intro _ _ _ _) | (refine iV_al ?_; intro _ _ _ _) | (refine iV_mm ?_; intro _ _ _ _) | (refine iU_st ?_; intro _ _) | refine iHV_1 ?_ | refine iHV_N ?_ | refine iRI_1 ?_ | refine iRI_N ?_ | refine Cond_t ?_ | refine Cond_f ?_ | refine JB ?_ | (refine JC ?_; intro _ _ _ _) | (refine JGB ?_; intro _ _ _ _) | (refine J1 ?_; intro _ _) | (refine J0 ?_; intro _ _) | (refine J2 ?_; intro _ _) | (refine J3 ?_; intro _ _) | (refine J4 ?_; intro _ _) | refine K1 ?_ | refine K0 ?_ | refine K2 ?_ | refine K3 ?_ | refine K4 ?_ | (refine CV_pu ?_; intro _ _ _ _) | (refine CV_puz ?_; intro _ _ _ _) | refine fRI_1 ?_ | refine fRI_N ?_ | refine gHV_lkI ?_ | refine gRI_lkI ?_ | refine gV_lkI ?_ | refine fV_ldN ?_ | refine fV_ld1 ?_ | refine fHV_ldN ?_ | refine fHV_ld1 ?_ | refine NilW_some ?_ | refine iCW_1 ?_ | refine iCW_N ?_ | refine Pk_b ?_))
      refine V_push hS2 hown (by simp only [room]; omega) (by simp only [room]; omega) (by decide) ?_
      intro B5 v5 w5 ho5 hS5
      obtain ⟨a5, cap5, rfl, _⟩ := ho5.form
      clear hS2 hS
      (repeat (first | (refine iDr ?_; intro _ _) | refine V_run ?_ | refine PV_run ?_ | refine HV_run ?_ | refine iV_ld1 ?_ | refine iV_ldN ?_ | (refine iV_bx ?_; intro _ _ _ _) | (refine iV_al ?_; intro _ _ _ _) | (refine iV_mm ?_; intro _ _ _ _) | (refine iU_st ?_; intro _ _) | refine iHV_1 ?_ | refine iHV_N ?_ | refine iRI_1 ?_ | refine iRI_N ?_ | refine Cond_t ?_ | refine Cond_f ?_ | refine JB ?_ | (refine JC ?_; intro _ _ _ _) | (refine JGB ?_; intro _ _ _ _) | (refine J1 ?_; intro _ _) | (refine J0 ?_; intro _ _) | (refine J2 ?_; intro _ _) | (refine J3 ?_; intro _ _) | (refine J4 ?_; intro _ _) | refine K1 ?_ | refine K0 ?_ | refine K2 ?_ | refine K3 ?_ | refine K4 ?_ | (refine CV_pu ?_; intro _ _ _ _) | (refine CV_puz ?_; intro _ _ _ _) | refine fRI_1 ?_ | refine fRI_N ?_ | refine gHV_lkI ?_ | refine gRI_lkI ?_ | refine gV_lkI ?_ | refine fV_ldN ?_ | refine fV_ld1 ?_ | refine fHV_ldN ?_ | refine fHV_ld1 ?_ | refine NilW_some ?_ | refine iCW_1 ?_ | refine iCW_N ?_ | refine Pk_b ?_))
      rw [hd']
      refine finK [.at b5, .at bm, .at b6, .bl B5] ⟨by cases inB s.stack 0 200 <;> rfl, bm, _, _, B5, by rw [List.append_nil], hkn.up ha, ?_⟩
      simp only [List.length_append, intsV_append]
      exact ho5)) (by simp)
end Go.Proofs.YtbeelfopmkbllaaGreatDoor
end

section
/- The depths of code: the plain model, and what stays true. -/
set_option linter.unusedVariables false
set_option linter.unusedSimpArgs false
set_option maxRecDepth 20000
namespace Go.Proofs.YtbeelfopmkbllaaGreatDoor
open Go Q Go.RowKit

def noIns : InsM := ⟨0, 0, 0, 0⟩
def comesM : List (Nat × DepM) → DpM → Option DpM
  | [], d => some d
  | p :: l, d => if (comeM d p.1 p.2).1 then comesM l (comeM d p.1 p.2).2 else none
def insAt (c : CodeM) (at_ : Nat) : InsM := c.ins.getD at_ noIns
def depAt (kn : List (Option DepM)) (at_ : Nat) : DepM := (kn.getD at_ none).getD ⟨0, 0⟩
def stopsM (c : CodeM) (kn : List (Option DepM)) (at_ : Nat) : Bool :=
  !calmM (insAt c at_) (depAt kn at_) || (decide ((depAt kn at_).stack < (effM (insAt c at_)).pops) || (decide ((insAt c at_).op = 33) && decide ((depAt kn at_).loops < (insAt c at_).a)))
def nextsM (c : CodeM) (kn : List (Option DepM)) (at_ : Nat) : List (Nat × DepM) := (leadsM c.ins.length at_ (insAt c at_)).map fun p => (p.1, behindM (insAt c at_) (depAt kn at_) p.2)
def stepD (c : CodeM) (d : DpM) (at_ : Nat) : Option DpM := if stopsM c d.kn at_ then none else comesM (nextsM c d.kn at_) d
def runD (c : CodeM) : Nat → DpM → Option (List (Option DepM))
  | 0, d => some d.kn
  | f + 1, d => match d.open_.getLast? with
    | none => some d.kn
    | some at_ => match stepD c ⟨d.kn, d.open_.dropLast⟩ at_ with
      | none => none
      | some d' => runD c f d'
def initD (c : CodeM) : DpM := ⟨List.replicate c.ins.length none, []⟩
def rootsD (c : CodeM) : List (Nat × DepM) := (rootsM c).map fun n => (n, ⟨0, 0⟩)
def depthsM (c : CodeM) : Option (List (Option DepM)) := match comesM (rootsD c) (initD c) with
  | none => none
  | some d => runD c (2 * c.ins.length + 1) d
/-- What stays true. -/
structure InvD (n : Nat) (d : DpM) : Prop where
  len : d.kn.length = n
  low : ∀ a s, d.kn.getD a none = some s → Low s
  op : ∀ a ∈ d.open_, a < n ∧ ∃ s, d.kn.getD a none = some s
  size : d.open_.length + d.kn.count none ≤ n
def meaD (d : DpM) : Nat := d.open_.length + 2 * d.kn.count none
theorem count_set {α : Type} [BEq α] [LawfulBEq α] {l : List (Option α)} {k : Nat} {s : α} (hk : k < l.length) (h : l.getD k none = none) : (l.set k (some s)).count none + 1 = l.count none := by
  have h2 : l[k] = none := by rw [List.getD_eq_getElem?_getD, List.getElem?_eq_getElem hk] at h; exact h
  have hs : l = l.take k ++ none :: l.drop (k + 1) := by
    rw [← h2, ← List.drop_eq_getElem_cons hk, List.take_append_drop]
  rw [List.set_eq_take_append_cons_drop, if_pos hk]
  conv => rhs; rw [hs]
  simp [List.count_append, List.count_cons]
  omega
instance : BEq DepM := instBEqOfDecidableEq
theorem comeInv {n : Nat} {d : DpM} {at_ : Nat} {s : DepM} (h : InvD n d) (ha : at_ < n) (hc : (comeM d at_ s).1 = true) : InvD n (comeM d at_ s).2 ∧ meaD (comeM d at_ s).2 ≤ meaD d ∧ ∀ a u, d.kn.getD a none = some u → (comeM d at_ s).2.kn.getD a none = some u := by
  unfold comeM at hc ⊢
  have hl := h.len
  cases hk : d.kn.getD at_ none with
  | some was => exact ⟨h, Nat.le_refl _, fun a u hu => hu⟩
  | none =>
    rw [hk] at hc
    simp only [Bool.and_eq_true] at hc
    have h1 := inB_iff.1 hc.1
    have h2 := inB_iff.1 hc.2
    have hcnt := count_set (s := s) (by omega : at_ < d.kn.length) hk
    have hget : ∀ a, (d.kn.set at_ (some s)).getD a none = if a = at_ then some s else d.kn.getD a none := fun a => by
      rw [List.getD_eq_getElem?_getD, List.getD_eq_getElem?_getD]
      by_cases e : a = at_
      · subst e; rw [if_pos rfl, List.getElem?_set_self (by omega)]; rfl
      · rw [if_neg e, List.getElem?_set_ne (fun x => e x.symm)]
    refine ⟨⟨by simp [hl], fun a u hu => ?_, fun a hm => ?_, ?_⟩, ?_, fun a u hu => ?_⟩
    · simp only [hget] at hu
      by_cases e : a = at_
      · rw [if_pos e] at hu; cases hu; exact ⟨by omega⟩
      · rw [if_neg e] at hu; exact h.low a u hu
    · simp only [hget]
      rcases List.mem_append.1 hm with hm | hm
      · obtain ⟨h3, u, h4⟩ := h.op a hm
        refine ⟨h3, ?_⟩
        by_cases e : a = at_
        · exact ⟨s, if_pos e⟩
        · exact ⟨u, by rw [if_neg e]; exact h4⟩
      · simp only [List.mem_singleton] at hm
        exact ⟨by omega, s, if_pos hm⟩
    · have := h.size
      simp only [List.length_append, List.length_singleton]
      omega
    · unfold meaD
      simp only [List.length_append, List.length_singleton]
      omega
    · simp only [hget]
      rw [if_neg (fun e => by rw [e, hk] at hu; cases hu)]
      exact hu
theorem comesInv {n : Nat} : ∀ {l : List (Nat × DepM)} {d d' : DpM}, InvD n d → (∀ p ∈ l, p.1 < n) → comesM l d = some d' → InvD n d' ∧ meaD d' ≤ meaD d
  | [], d, d', h, _, hc => by cases hc; exact ⟨h, Nat.le_refl _⟩
  | p :: l, d, d', h, hl, hc => by
    unfold comesM at hc
    by_cases e : (comeM d p.1 p.2).1 = true
    · rw [if_pos e] at hc
      obtain ⟨h1, h2, _⟩ := comeInv h (hl p List.mem_cons_self) e
      obtain ⟨h3, h4⟩ := comesInv h1 (fun q hq => hl q (List.mem_cons_of_mem _ hq)) hc
      exact ⟨h3, Nat.le_trans h4 h2⟩
    · rw [if_neg e] at hc; cases hc
theorem leadsM_lt {n at_ : Nat} {i : InsM} : ∀ p ∈ leadsM n at_ i, p.1 < n := by
  intro p hp
  unfold leadsM lead1 lead2 at hp
  rcases List.mem_append.1 hp with hp | hp
  · split at hp
    · rename_i e; simp only [Bool.and_eq_true, decide_eq_true_eq] at e; simp at hp; subst hp; exact e.2
    · cases hp
  · split at hp
    · rename_i e; simp only [Bool.and_eq_true] at e; have := inB_iff.1 e.2; simp at hp; subst hp; simp only; omega
    · cases hp
theorem rootsM_lt {c : CodeM} (h : 0 < c.ins.length) : ∀ a ∈ rootsM c, a < c.ins.length := by
  intro a ha
  unfold rootsM rootsK at ha
  rcases List.mem_cons.1 ha with rfl | ha
  · exact h
  · obtain ⟨s, hs, rfl⟩ := List.mem_map.1 ha
    have := (List.mem_filter.1 hs).2
    have := inB_iff.1 this
    omega
theorem initInv {c : CodeM} : InvD c.ins.length (initD c) := by
  have hg : ∀ a, (List.replicate c.ins.length (none : Option DepM)).getD a none = none := fun a => by
    rw [List.getD_eq_getElem?_getD, List.getElem?_replicate]; split <;> rfl
  refine ⟨by simp [initD], fun a s hs => ?_, fun a ha => by simp [initD] at ha, by simp [initD]⟩
  rw [initD, hg] at hs; cases hs
/-- One step: what is on top is taken. -/
theorem popInv {n : Nat} {kn : List (Option DepM)} {l : List Nat} {at_ : Nat} (h : InvD n ⟨kn, l ++ [at_]⟩) : InvD n ⟨kn, l⟩ ∧ meaD ⟨kn, l⟩ + 1 = meaD ⟨kn, l ++ [at_]⟩ ∧ at_ < n ∧ ∃ s, kn.getD at_ none = some s ∧ Low s := by
  have hop := h.op at_ (by simp)
  obtain ⟨h1, s, h2⟩ := hop
  refine ⟨⟨h.len, h.low, fun a ha => h.op a (by simp [ha]), ?_⟩, ?_, h1, s, h2, h.low _ _ h2⟩
  · have := h.size; simp only [List.length_append, List.length_singleton] at this; simp only; omega
  · unfold meaD; simp only [List.length_append, List.length_singleton]; omega
theorem tame_of {c : CodeM} {i : InsM} (h : rightM c i = true) : Tame i := ⟨fun e => by
  unfold rightM at h
  simp only [Bool.and_eq_true] at h
  have hk : (formAt i.op).k0 = 20 := by rw [e]; decide +kernel
  have h2 := h.2.1
  rw [hk] at h2
  have h3 : goodM c 20 i.a = rangedM 20 i.a := by simp [goodM]
  rw [h3] at h2
  have := ranged_in (k := 20) (lo := 1) (hi := 40) rfl h2
  omega⟩
end Go.Proofs.YtbeelfopmkbllaaGreatDoor
end

section
/- The depths of code: the walk. -/
set_option linter.unusedVariables false
set_option linter.unusedSimpArgs false
set_option maxRecDepth 20000
set_option synthInstance.maxHeartbeats 4000000
set_option synthInstance.maxSize 20000
set_option maxHeartbeats 1000000
namespace Go.Proofs.YtbeelfopmkbllaaGreatDoor
open Go Q Go.RowKit

def stackV (o : Option DepM) : Int := match o with | some s => s.stack | none => -1
def loopsV (o : Option DepM) : Int := match o with | some s => s.loops | none => -1
/-- What the depths are as values. -/
def DepsR (z : Z) (v : Value) (o : Option (List (Option DepM))) : Prop := match o with
  | none => v = .tuple #[.slice none 0 0, .slice none 0 0, .bool false]
  | some kn => ∃ v1 v2, v = .tuple #[v1, v2, .bool true] ∧ SlR El.int z v1 (kn.map stackV) ∧ SlR El.int z v2 (kn.map loopsV)
abbrev resB (b2 b3 b4 : Nat) : Bl := [(b4, .cells [.bool false].toArray 4 (0, 0)), (b3, .cells [.slice none 0 0].toArray 45 (0, 0)), (b2, .cells [.slice none 0 0].toArray 45 (0, 0))]
theorem DpR.pop {b5 b6 : Nat} {B : Bl} {kn : List (Option DepM)} {l : List Nat} {at_ : Nat} (h : DpR b5 b6 B ⟨kn, l ++ [at_]⟩) : ∃ (bm : Nat) (m : List (Int × Value)) (bo cap : Nat) (C : List Value), B = [(b5, .cells [.map (some bm)].toArray 236 (0, 0)), (bm, mK (Value.int .i64) m), (b6, .cells [.slice (some ⟨bo, 0, none⟩) (l.length + 1) cap].toArray 45 (0, 0)), (bo, .cells C.toArray 3 (0, 0))] ∧
    l.length + 1 ≤ cap ∧ C[l.length]? = some (.int .i64 (at_ : Int)) ∧ KnR m kn ∧ DpR b5 b6 [(b5, .cells [.map (some bm)].toArray 236 (0, 0)), (bm, mK (Value.int .i64) m), (b6, .cells [.slice (some ⟨bo, 0, none⟩) l.length cap].toArray 45 (0, 0)), (bo, .cells C.toArray 3 (0, 0))] ⟨kn, l⟩ := by
  obtain ⟨bm, m, v, Bo, rfl, hkn, ho⟩ := h
  simp only [List.length_append, List.length_singleton, intsV_append] at ho
  obtain ⟨bo, cap, C, rfl, hc, rfl, hC, ho'⟩ := OwnSl.pop (u := .int .i64 (at_ : Int)) ho
  exact ⟨bm, m, bo, cap, C.toList, rfl, hc, by simpa using hC, hkn, bm, m, _, _, rfl, hkn, ho'⟩
def ofNats (l : List Nat) : List Int := l.map fun n : Nat => (n : Int)
theorem intsV_flat (l : List Nat) : (ofNats l).flatMap (fun x => [Value.int .i64 x]) = intsV l := by
  induction l with
  | nil => rfl
  | cons a l ih => simp only [ofNats, List.map_cons, List.flatMap_cons, intsV] at ih ⊢; rw [ih]; rfl
theorem ofNats_len (l : List Nat) : (ofNats l).length = l.length := by simp [ofNats]
/-- An own slice of numbers is frozen. -/
theorem freezeInts {w0 w : World} {z0 z : Z} {B0 B L : Bl} {v : Value} {l : List Nat} (hS : Res w0 z0 B0 w z (B ++ L)) (ho : OwnSl 3 1 B v l.length (intsV l)) (hb : l.length ≤ big) : ∃ z', Le z z' ∧ Res w0 z0 B0 w z' L ∧ SlR El.int z' v (ofNats l) :=
  Res.freezeSl (E := El.int) (e := 3) (f := fun x => [Value.int .i64 x]) hS (by rw [ofNats_len, intsV_flat]; exact ho) (by rw [ofNats_len]; exact hb) (fun _ => rfl) (fun z x _ => rfl)
theorem comesM_cons {p : Nat × DepM} {l : List (Nat × DepM)} {d : DpM} : comesM (p :: l) d = if (comeM d p.1 p.2).1 then comesM l (comeM d p.1 p.2).2 else none := rfl
theorem knR_init {n : Nat} : KnR [] (List.replicate n none) := fun m => by
  rw [getK_nil]
  split
  · rw [List.getD_eq_getElem?_getD, List.getElem?_replicate]; split <;> rfl
  · rfl
def arrV (f : Option DepM → Int) (kn : List (Option DepM)) (k : Nat) : List Value := (kn.take k).map (fun o => Value.int .i64 (f o)) ++ List.replicate (kn.length - k) (.int .i64 0)
theorem arrV_len {f : Option DepM → Int} {kn : List (Option DepM)} {k : Nat} (h : k ≤ kn.length) : (arrV f kn k).length = kn.length := by simp [arrV]; omega
theorem arrV_zero {f : Option DepM → Int} {kn : List (Option DepM)} : arrV f kn 0 = List.replicate kn.length (.int .i64 0) := by simp [arrV]
theorem arrV_end {f : Option DepM → Int} {kn : List (Option DepM)} : arrV f kn kn.length = (kn.map f).flatMap fun x => [Value.int .i64 x] := by
  simp only [arrV, List.take_length, Nat.sub_self, List.replicate_zero, List.append_nil]
  induction kn with
  | nil => rfl
  | cons a l ih => simp only [List.map_cons, List.flatMap_cons, ih]; rfl
theorem arrV_set {f : Option DepM → Int} {kn : List (Option DepM)} {k : Nat} (h : k < kn.length) : (arrV f kn k).set k (.int .i64 (f (kn.getD k none))) = arrV f kn (k + 1) := by
  unfold arrV
  have hl : ((kn.take k).map (fun o => Value.int .i64 (f o))).length = k := by simp; omega
  rw [List.set_append_right _ _ (by omega), hl, Nat.sub_self, show kn.length - k = (kn.length - (k + 1)) + 1 by omega, List.replicate_succ, List.set_cons_zero, ← List.take_append_getElem h, List.map_append, List.getD_eq_getElem?_getD, List.getElem?_eq_getElem h, List.append_assoc]
  rfl
theorem zeros_eq {n : Nat} : ((List.range (n * 1)).map fun i => ([Value.int .i64 0] : List Value)[i % ([Value.int .i64 0] : List Value).length]!) = List.replicate n (.int .i64 0) := by
  rw [Nat.mul_one]
  refine List.ext_getElem? fun j => ?_
  simp only [List.getElem?_map, List.getElem?_range, List.getElem?_replicate, List.length_singleton, Nat.mod_one]
  by_cases h : j < n
  · simp [h]
  · simp [h]
theorem depths_of {z : Z} {w : World} {v : Value} {c : CodeM} (hc : CodeR z v c) (hl : c.labels.length ≤ 3000) (hi0 : 0 < c.ins.length) (hi : c.ins.length ≤ 12000) (hr : ∀ i ∈ c.ins, rightM c i = true) :
    Fn1 50 #[v] z w fun z' r => DepsR z' r (depthsM c) := Fn1.intro fun hS => en50 (by
  unfold vc50
  obtain ⟨a1, a2, a3, a4, a5, a6, k1, k2, k3, k4, k5, k6, rfl, h1, h2, h3, h4, h5, h6⟩ := hc.form
  have hR : ∀ z' w' L' r, Res w z [] w' z' L' → DepsR z' r (depthsM c) → ∃ z'' L'', Res w z [] w' z'' L'' ∧ DepsR z'' r (depthsM c) := fun z' w' L' r h1 h2 => ⟨z', L', h1, h2⟩
  generalize hRR : (fun (v : Value) (w' : World) => ∃ z' L', Res w z [] w' z' L' ∧ DepsR z' v (depthsM c)) = RR
  have hR : ∀ z' w' L' r, Res w z [] w' z' L' → DepsR z' r (depthsM c) → RR r w' := fun z' w' L' r h1 h2 => by rw [← hRR]; exact ⟨z', L', h1, h2⟩
  clear hRR
  refine iV_bx ?_
  intro bc w1 hbc hS1
  refine iV_al ?_
  intro b2 w2 hb2 hS2
  refine iV_al ?_
  intro b3 w3 hb3 hS3
  refine iV_al ?_
  intro b4 w4 hb4 hS4
  refine kV_mm (mk := Value.int .i64) ?_
  intro bm w5 hbm hS5
  refine iV_al ?_
  intro b5 w6 hb5 hS6
  refine iU_st ?_
  intro w7 hS7
  refine iV_al ?_
  intro b6 w8 hb6 hS8
  refine iV_al ?_
  intro b7 w9 hb7 hS9
  refine iU_st ?_
  intro w10 hS10
  clear hS1 hS2 hS3 hS4 hS5 hS6 hS7 hS8 hS9
  obtain ⟨z11, hz11, hS11, hat7⟩ := hS10.frz b7
  obtain ⟨z12, hz12, hS12, hatc⟩ := hS11.frz bc
  have hat7 := hat7.mono hz12
  have hz := hz11.trans hz12
  clear hS10 hS11 hz11 hz12 hS
  have hS13 := hS12.keep [.at b5, .at bm, .at b6, .at b4, .at b3, .at b2]
  clear hS12
  obtain ⟨hS14, _⟩ := hS13.rebase (v := undef) (R := fun _ _ => True) (fun _ _ _ _ => trivial)
  have hR2 : ∀ z' w' L' r, Res w10 z12 [(b5, .cells [.map (some bm)].toArray 236 (0, 0)), (bm, mK (Value.int .i64) []), (b6, .cells [.slice none 0 0].toArray 45 (0, 0)), (b4, .cells [.bool false].toArray 4 (0, 0)), (b3, .cells [.slice none 0 0].toArray 45 (0, 0)), (b2, .cells [.slice none 0 0].toArray 45 (0, 0))] w' z' L' → DepsR z' r (depthsM c) → RR r w' := fun z' w' L' r k hd => by
    have hS' : Res w z [] w10 z12 ([(b5, .cells [.map (some bm)].toArray 236 (0, 0)), (bm, mK (Value.int .i64) []), (b6, .cells [.slice none 0 0].toArray 45 (0, 0)), (b4, .cells [.bool false].toArray 4 (0, 0)), (b3, .cells [.slice none 0 0].toArray 45 (0, 0)), (b2, .cells [.slice none 0 0].toArray 45 (0, 0))] ++ []) := hS13
    exact hR _ _ _ _ (hS'.step k) hd
  clear hS13 hR
  generalize hB00 : [(b5, Obj.cells [Value.map (some bm)].toArray 236 (0, 0)), (bm, mK (Value.int .i64) []), (b6, .cells [.slice none 0 0].toArray 45 (0, 0)), (b4, .cells [.bool false].toArray 4 (0, 0)), (b3, .cells [.slice none 0 0].toArray 45 (0, 0)), (b2, .cells [.slice none 0 0].toArray 45 (0, 0))] = B00 at *
  have hS15 : Res w10 z12 B00 w10 z12 ([(b5, Obj.cells [Value.map (some bm)].toArray 236 (0, 0)), (bm, mK (Value.int .i64) []), (b6, .cells [.slice none 0 0].toArray 45 (0, 0))] ++ resB b2 b3 b4) := by rw [← hB00] at hS14 ⊢; exact hS14
  clear hS14 hB00
  haveI : Fz z12 bc 0 (codeVs a1 a2 a3 a4 a5 a6 k1 k2 k3 k4 k5 k6 c) := ⟨hatc⟩
  haveI : Fz z12 bc 5 [.slice a6 c.ins.length k6] := ⟨hatc.fld (i := 5) rfl rfl⟩
  haveI : Fz z12 b7 0 [.func (.func 160) #[] #[.pointer (some ⟨b5, 0, none⟩), .pointer (some ⟨b6, 0, none⟩)]] := ⟨hat7⟩
  refine fV_ldN ?_
  refine CV_fn0 (fun hle => roots_of ((hc.mono hz).mono hle) hl) ?_
  rintro z16 B16 w16 v16 hz16 hS16 ho16
  have hrl : (rootsM c).length ≤ 3001 := Nat.le_trans rootsK_le (by omega)
  obtain ⟨z17, hz17, hS17, hv17⟩ := freezeInts hS16 ho16 (by simp only [big]; omega)
  clear hS16 ho16 hS15
  have hz17 := hz16.trans hz17
  obtain ⟨_, ar, kr, rfl, _, hel⟩ := hv17.form
  rw [ofNats_len]
  (repeat (refine V_run ?_))
  have hdl : (rootsD c).length = (rootsM c).length := by simp [rootsD]
  refine LoopG1 (fun (p : Nat × DpM) x w' => x = .int .i64 p.1 ∧ p.1 ≤ (rootsM c).length ∧ comesM (rootsD c) (initD c) = comesM ((rootsD c).drop p.1) p.2 ∧ InvD c.ins.length p.2 ∧ ∃ B' z', Le z17 z' ∧ DpR b5 b6 B' p.2 ∧ Res w10 z12 B00 w' z' (B' ++ resB b2 b3 b4)) (fun p => (rootsM c).length - p.1) (0, initD c)
    ⟨rfl, by omega, rfl, initInv, _, _, Le.refl _, ⟨bm, [], _, [], rfl, knR_init, OwnSl.nil⟩, hS17⟩ ?_
  rintro I M ⟨k, d⟩ x w18 m ⟨rfl, hk, hcm, hinv, B18, z18, hz18, hD, hS18⟩ back
  simp only at hk hcm hinv hD
  clear hS17
  (repeat (refine V_run ?_))
  refine Cond_d (fun h => ?_) (fun h => ?_)
  · have hlt : k < (rootsM c).length := by omega
    have hlt2 : k < (rootsD c).length := by omega
    haveI : InR (k : Int) ((rootsM c).length : Nat) := ⟨by omega, by omega⟩
    haveI : InI ((k : Int) + 1) := ⟨by omega⟩
    obtain ⟨b, off, cs, rfl, rfl, hat⟩ := hel k (((rootsM c)[k] : Nat) : Int) (by simp [ofNats, List.getElem?_eq_getElem hlt])
    (repeat (refine V_run ?_))
    refine zV_ld1 (hat.mono hz18) ?_
    (repeat (first | refine V_run ?_ | refine fV_ld1 ?_))
    have hroot := rootsM_lt hi0 _ (List.getElem_mem hlt)
    have hsz := hinv.size
    refine CV_va (B := B18) (F := resB b2 b3 b4) hS18 (come_of (s := ⟨0, 0⟩) hD (by rw [hinv.len]; exact hroot) (by omega)) ?_
    rintro z19 B19 w19 v19 hz19 hS19 ⟨rfl, hD19⟩
    rw [List.drop_eq_getElem_cons hlt2, show (rootsD c)[k] = ((rootsM c)[k], ⟨0, 0⟩) by simp [rootsD]] at hcm
    rw [comesM_cons] at hcm
    simp only at hcm
    clear hS18
    (repeat (refine V_run ?_))
    refine Cond_n (fun e => ?_) (fun e => ?_)
    · (repeat (first | (refine iU_st ?_; intro _ _) | refine iHV_1 ?_))
      rename_i hS20
      refine hR2 _ _ _ _ hS20 ?_
      rw [depthsM, hcm, e]; rfl
    · (repeat (refine V_run ?_))
      obtain ⟨h20, _, _⟩ := comeInv hinv hroot e
      refine back (k + 1, _) _ _ ⟨by simp, by simp only; omega, by rw [hcm, if_pos e], h20, B19, z19, hz18.trans hz19, hD19, hS19⟩ (by simp only; omega)
  · have hk2 : k = (rootsM c).length := by omega
    rw [List.drop_of_length_le (by omega)] at hcm
    have hcm2 : comesM (rootsD c) (initD c) = some d := hcm
    obtain ⟨hid, hmd⟩ := comesInv initInv (fun p hp => by
      obtain ⟨a, ha, rfl⟩ := List.mem_map.1 hp
      exact rootsM_lt hi0 _ ha) hcm2
    have hm0 : meaD (initD c) = 2 * c.ins.length := by simp [meaD, initD]
    clear hcm back hv17 hel
    refine LoopG1 (fun (p : Nat × DpM × List Nat) x w' => marks x = p.2.2 ∧ depthsM c = runD c p.1 p.2.1 ∧ meaD p.2.1 < p.1 ∧ InvD c.ins.length p.2.1 ∧ ∃ B' z', Le z17 z' ∧ DpR b5 b6 B' p.2.1 ∧ Res w10 z12 B00 w' z' (B' ++ (markB p.2.2 ++ resB b2 b3 b4))) (fun p => p.1) (2 * c.ins.length + 1, d, [])
      ⟨rfl, by rw [depthsM, hcm2], by simp only; omega, hid, B18, z18, hz18, hD, hS18⟩ ?_
    clear hS18 hcm2 hid hmd hD hinv h hz18
    rintro I1 M1 ⟨f, d1, rs⟩ x w20 m1 ⟨hmx, hrun, hmea, hinv, B20, z20, hz20, hD, hS20⟩ back
    simp only at hmx hrun hmea hinv hD hS20
    obtain ⟨kn, op⟩ := d1
    have hf : f = (f - 1) + 1 := by omega
    rcases List.eq_nil_or_concat op with rfl | ⟨l, at_, rfl⟩
    · obtain ⟨bm, mm_, v, Bo, rfl, hkn, ho⟩ := hD
      obtain ⟨av, cv, rfl, _⟩ := ho.form
      simp only [List.cons_append, List.nil_append] at hS20
      simp only at hkn hinv
      have hlen : kn.length = c.ins.length := hinv.len
      (repeat (first | refine V_run ?_ | refine iV_ld1 ?_ | refine Cond_f ?_))
      intro Ka hKa
      have main : ∀ b18 b19 w22 z22, Le z20 z22 → Res w10 z12 B00 w22 z22 ((b18, .cells (arrV stackV kn 0).toArray 3 (0, 0)) :: (b19, .cells (arrV loopsV kn 0).toArray 3 (0, 0)) :: (b5, .cells [.map (some bm)].toArray 236 (0, 0)) :: (bm, mK (Value.int .i64) mm_) :: (b6, .cells [.slice av 0 cv].toArray 45 (0, 0)) :: (Bo ++ (markB rs ++ resB b2 b3 b4))) → Ka [.slice (some ⟨b18, 0, none⟩) c.ins.length c.ins.length, .slice (some ⟨b19, 0, none⟩) c.ins.length c.ins.length] w22 := by
        intro b18 b19 w22 z22 hz22 hS22
        refine hKa _ _ _ fun _ => ?_
        clear hKa hS20
        (repeat (first | refine V_run ?_ | refine fV_ld1 ?_))
        refine LoopG1 (fun (k : Nat) y w' => y = .int .i64 k ∧ k ≤ c.ins.length ∧ ∃ z', Le z20 z' ∧ Res w10 z12 B00 w' z' ((b18, .cells (arrV stackV kn k).toArray 3 (0, 0)) :: (b19, .cells (arrV loopsV kn k).toArray 3 (0, 0)) :: (b5, .cells [.map (some bm)].toArray 236 (0, 0)) :: (bm, mK (Value.int .i64) mm_) :: (b6, .cells [.slice av 0 cv].toArray 45 (0, 0)) :: (Bo ++ (markB rs ++ resB b2 b3 b4)))) (fun k => c.ins.length - k) 0 ⟨rfl, by omega, z22, hz22, hS22⟩ ?_
        rintro I2 M2 k y w23 m2 ⟨rfl, hk, z23, hz23, hS23⟩ back2
        clear hS22
        (repeat (refine V_run ?_))
        refine Cond_d (fun h => ?_) (fun h => ?_)
        · have hlt : k < c.ins.length := by omega
          haveI : InR (k : Int) (c.ins.length : Nat) := ⟨by omega, by omega⟩
          haveI : InI ((k : Int) + 1) := ⟨by omega⟩
          have e1 : (k : Int).toNat * 1 = k := by omega
          have hs1 := fun f u => SetN.at_ (l := arrV f kn k) (k := k) (u := u) (by rw [arrV_len (by omega)]; omega)
          haveI : SetN (arrV stackV kn k) ((k : Int).toNat * 1) [.int .i64 (-1)] ((arrV stackV kn k).set k (.int .i64 (-1))) := by rw [e1]; exact hs1 _ _
          haveI : SetN (arrV loopsV kn k) ((k : Int).toNat * 1) [.int .i64 (-1)] ((arrV loopsV kn k).set k (.int .i64 (-1))) := by rw [e1]; exact hs1 _ _
          (repeat (first | refine V_run ?_ | refine iV_ld1 ?_ | (refine iU_st ?_; intro _ _) | (refine J0 ?_; intro _ _)))
          refine kV_lk (mk := Value.int .i64) (zv := .agg [.int .i64 0, .int .i64 0].toArray) ?_
          rw [if_pos rfl, hkn (k : Int), if_pos (by omega), Int.toNat_natCast]
          have hst := arrV_set (f := stackV) (kn := kn) (k := k) (by omega)
          have hlt' := arrV_set (f := loopsV) (kn := kn) (k := k) (by omega)
          cases hg : kn.getD k none with
          | none =>
            rw [hg] at hst hlt'
            simp only [stackV, loopsV] at hst hlt'
            dsimp only [Option.map, Option.getD, Option.isSome]
            (repeat (first | refine V_run ?_ | (refine iV_bx ?_; intro _ _ _ _) | (refine iU_st ?_; intro _ _) | refine Cond_f ?_ | refine K0 ?_))
            rename_i hSe
            rw [hst, hlt'] at hSe
            refine back2 (k + 1) _ _ ⟨by simp, by omega, _, hz23, hSe.sublist (List.sublist_cons_self _ _)⟩ (by omega)
          | some s =>
            rw [hg] at hst hlt'
            simp only [stackV, loopsV] at hst hlt'
            dsimp only [Option.map, Option.getD, Option.isSome]
            have hs2 := fun f (u u' : Value) => SetN.at_ (l := (arrV f kn k).set k u) (k := k) (u := u') (by rw [List.length_set, arrV_len (by omega)]; omega)
            haveI : SetN ((arrV stackV kn k).set k (.int .i64 (-1))) ((k : Int).toNat * 1) [.int .i64 s.stack] (arrV stackV kn (k + 1)) := by have h9 := hs2 stackV (.int .i64 (-1)) (.int .i64 s.stack); rw [List.set_set, hst] at h9; rw [e1]; exact h9
            haveI : SetN ((arrV loopsV kn k).set k (.int .i64 (-1))) ((k : Int).toNat * 1) [.int .i64 s.loops] (arrV loopsV kn (k + 1)) := by have h9 := hs2 loopsV (.int .i64 (-1)) (.int .i64 s.loops); rw [List.set_set, hlt'] at h9; rw [e1]; exact h9
            (repeat (first | (refine iDr ?_; intro _ _) | refine V_run ?_ | refine PV_run ?_ | (refine iV_bx ?_; intro _ _ _ _) | (refine iU_st ?_; intro _ _) | refine iHV_1 ?_ | refine iRI_1 ?_ | refine Cond_t ?_ | refine K0 ?_))
            rename_i hSe
            refine back2 (k + 1) _ _ ⟨by simp, by omega, _, hz23, hSe.sublist (List.sublist_cons_self _ _)⟩ (by omega)
        · have hkn2 : k = kn.length := by omega
          subst hkn2
          rw [arrV_end, arrV_end] at hS23
          (repeat (refine iU_st ?_; intro _ _))
          rename_i w24 hS24
          rw [hmx]
          refine iTakes rs (hS24.bring (markB rs)) ?_
          intro w25 hS25
          (repeat (refine iHV_1 ?_))
          have hS26 := hS25.bringB b18
          obtain ⟨z27, hz27, hS27, hv1⟩ := Res.freezeSl (E := El.int) (e := 3) (B := [(b18, _)]) (v := .slice (some ⟨b18, 0, none⟩) (kn.map stackV).length kn.length) (xs := kn.map stackV) (f := fun x => [Value.int .i64 x]) hS26 ⟨by rw [← arrV_end, arrV_len (Nat.le_refl _), List.length_map]; exact (Nat.mul_one _).symm, .inr ⟨b18, kn.length, [], by rw [List.append_nil], rfl, by simp, by simp only [maxLen]; omega, by rw [List.append_nil, ← arrV_end, arrV_len (Nat.le_refl _)]; exact (Nat.mul_one _).symm⟩⟩ (by simp only [List.length_map, big]; omega) (fun _ => rfl) (fun z x _ => rfl)
          have hS28 := hS27.bringB b19
          obtain ⟨z29, hz29, hS29, hv2⟩ := Res.freezeSl (E := El.int) (e := 3) (B := [(b19, _)]) (v := .slice (some ⟨b19, 0, none⟩) (kn.map loopsV).length kn.length) (xs := kn.map loopsV) (f := fun x => [Value.int .i64 x]) hS28 ⟨by rw [← arrV_end, arrV_len (Nat.le_refl _), List.length_map]; exact (Nat.mul_one _).symm, .inr ⟨b19, kn.length, [], by rw [List.append_nil], rfl, by simp, by simp only [maxLen]; omega, by rw [List.append_nil, ← arrV_end, arrV_len (Nat.le_refl _)]; exact (Nat.mul_one _).symm⟩⟩ (by simp only [List.length_map, big]; omega) (fun _ => rfl) (fun z x _ => rfl)
          rw [List.length_map, hlen] at hv1 hv2
          refine hR2 _ _ _ _ hS29 ?_
          rw [hrun, hf]
          exact ⟨_, _, rfl, hv1.mono hz29, hv2⟩
      clear hKa
      have hms : ∀ (w' : World) (L' : Bl) (K : Value → World → Prop), Res w10 z12 B00 w' z20 L' → (∀ b w'', Res w10 z12 B00 w'' z20 ((b, .cells (List.replicate kn.length (.int .i64 0)).toArray 3 (0, 0)) :: L') → K (.slice (some ⟨b, 0, none⟩) c.ins.length c.ins.length) w'') → V (ms 45 (.int .i64 (c.ins.length : Int)) (.int .i64 (c.ins.length : Int))) w' K := by
        intro w' L' K hSx hk
        refine iV_ms (by omega) (by omega) ?_
        intro b w'' _ hSy
        rw [zeros_eq, ← hlen] at hSy
        exact hk b w'' hSy
      (repeat (first | (refine iDr ?_; intro _ _) | refine PV_run ?_ | refine fHV_ld1 ?_))
      refine ⟨?_, ?_⟩
      · refine hms _ _ _ ‹_› ?_
        intro b18 w23 hS23
        (repeat (refine fRI_1 ?_))
        refine hms _ _ _ hS23 ?_
        intro b19 w24 hS24
        (repeat (refine fRI_1 ?_))
        exact main b18 b19 _ _ (Le.refl _) (by rw [arrV_zero, arrV_zero]; exact hS24.perm (.swap _ _ _))
      · refine hms _ _ _ ‹_› ?_
        intro b19 w23 hS23
        (repeat (refine fRI_1 ?_))
        refine hms _ _ _ hS23 ?_
        intro b18 w24 hS24
        (repeat (refine fRI_1 ?_))
        exact main b18 b19 _ _ (Le.refl _) (by rw [arrV_zero, arrV_zero]; exact hS24)
    · rw [List.concat_eq_append] at *
      obtain ⟨bm, mm_, bo, cap, C, rfl, hcap, hC, hkn, hD2⟩ := hD.pop
      obtain ⟨hip, hmp, hlt, s, hks, hlow⟩ := popInv hinv
      simp only [List.cons_append, List.nil_append] at hS20
      have e0 : ((l.length + 1 : Nat) : Int) - 1 = (l.length : Int) := by omega
      have hsz := hinv.size
      simp only [List.length_append, List.length_singleton] at hsz
      haveI : InI (((l.length + 1 : Nat) : Int) - 1) := ⟨by omega⟩
      haveI : InR (l.length : Int) ((l.length + 1 : Nat) : Int) := ⟨by omega, by omega⟩
      haveI : InR (l.length : Int) ((cap : Int) + 1) := ⟨by omega, by omega⟩
      haveI : Get C ((l.length : Int).toNat * 1) (.int .i64 (at_ : Int)) := ⟨by simpa using hC⟩
      (repeat (first | refine V_run ?_ | refine iV_ld1 ?_))
      refine Cond_d (fun _ => ?_) (fun hn => absurd hn (by omega))
      (repeat (first | refine V_run ?_ | refine iV_ld1 ?_))
      simp only [e0]
      (repeat (first | refine V_run ?_ | refine iV_ld1 ?_))
      simp only [e0]
      (repeat (first | refine V_run ?_ | (refine iU_st ?_; intro _ _)))
      rename_i w21 hS21
      simp only [Int.toNat_natCast] at hS21
      clear hS20
      intro Ka hKa
      have hi2 : c.ins[at_]? = some (insAt c at_) := by rw [insAt, List.getD_eq_getElem?_getD, List.getElem?_eq_getElem hlt]; rfl
      have hs2 : depAt kn at_ = s := by unfold depAt; rw [hks]; rfl
      obtain ⟨_, ai, ki, he, _, heli⟩ := h6.form
      cases he
      obtain ⟨be, offe, cse, rfl, rfl, hate⟩ := heli _ _ hi2
      have hgk : GetKV mm_ (at_ : Int) (.agg [.int .i64 0, .int .i64 0].toArray) s.v := ⟨by rw [hkn (at_ : Int), if_pos (by omega), Int.toNat_natCast, hks]; rfl⟩
      generalize hii : insAt c at_ = i at *
      have main : ∀ b11 b12 w22 z22, Le z20 z22 → Res w10 z12 B00 w22 z22 ((b11, .cells i.cells.toArray 38 (0, 0)) :: (b12, .cells s.cells.toArray 238 (0, 0)) :: (b5, .cells [.map (some bm)].toArray 236 (0, 0)) :: (bm, mK (Value.int .i64) mm_) :: (b6, .cells [.slice (some ⟨bo, 0, none⟩) l.length cap].toArray 45 (0, 0)) :: (bo, .cells C.toArray 3 (0, 0)) :: (markB rs ++ resB b2 b3 b4)) → Ka [.pointer (some ⟨b11, 0, none⟩), .pointer (some ⟨b12, 0, none⟩)] w22 := by
        intro b11 b12 w22 z22 hz22 hS22
        refine hKa _ _ _ fun _ => ?_
        clear hKa hS21
        (repeat (first | refine V_run ?_ | refine iV_ldN ?_ | (refine JC ?_; intro _ _ _ _) | (refine CV_pu ?_; intro _ _ _ _)))
        rename_i z23 w23 hz23 hS23
        have hz23' : Le z20 z23 := by (repeat (first | assumption | refine Le.trans ?_ (by assumption : Le _ _)))
        clear hS22 hz22 hz23
        have hst : (bif bif !calmM i s then true else decide (s.stack < (effM i).pops) then true else bif decide (i.op = 33) then decide (s.loops < i.a) else false) = stopsM c kn at_ := by
          rw [stopsM, hii, hs2]; cases calmM i s <;> cases decide (s.stack < (effM i).pops) <;> cases decide (i.op = 33) <;> rfl
        have hrun2 : runD c f ⟨kn, l ++ [at_]⟩ = match stepD c ⟨kn, l⟩ at_ with | none => none | some d' => runD c (f - 1) d' := by
          rw [hf]
          simp only [runD, List.getLast?_concat, List.dropLast_concat]
          rfl
        rw [hst]
        refine Cond_b (fun e => ?_) (fun e => ?_)
        · have hnone : depthsM c = none := by rw [hrun, hrun2, stepD, if_pos e]
          (repeat (refine iU_st ?_; intro _ _))
          rename_i w24 hS24
          rw [hmx]
          refine iTakes rs (hS24.bring (markB rs)) ?_
          intro w25 hS25
          (repeat (refine iHV_1 ?_))
          exact hR2 _ _ _ _ hS25 (by rw [hnone]; rfl)
        · have hstep : stepD c ⟨kn, l⟩ at_ = comesM (nextsM c kn at_) ⟨kn, l⟩ := by rw [stepD, if_neg (by rw [e]; simp)]
          (repeat (refine fV_ldN ?_))
          refine CV_1 leads_of ?_
          rintro z24 w24 v24 hz24 hS24 ⟨bl1, bl2, rfl, hbl1, hbl2⟩
          clear hS23
          intro lp r0 l0 w26 hnew hyp
          have hS26 := hS24.rf hnew
          clear hS24 hnew
          have hO := hS26.self
          have hzz := hz.trans (hz17.trans (hz20.trans (hz23'.trans hz24)))
          have hz12' : Le z12 z24 := hz17.trans (hz20.trans (hz23'.trans hz24))
          haveI : Fz z24 b7 0 [.func (.func 160) #[] #[.pointer (some ⟨b5, 0, none⟩), .pointer (some ⟨b6, 0, none⟩)]] := ⟨hat7.mono hz12'⟩
          refine leads_gen (i := i) hO (h6.mono hzz) hbl1 hbl2 hi2
            (fun k z' L' => ∃ d' B', comesM (nextsM c kn at_) ⟨kn, l⟩ = comesM ((nextsM c kn at_).drop k) d' ∧ InvD c.ins.length d' ∧ meaD d' ≤ meaD ⟨kn, l⟩ ∧ DpR b5 b6 B' d' ∧ L' = (l0, lobj lp .ready none) :: (r0, .deferred (some [])) :: (b11, .cells i.cells.toArray 38 (0, 0)) :: (b12, .cells s.cells.toArray 238 (0, 0)) :: (B' ++ (markB rs ++ resB b2 b3 b4)))
            (fun z' L' => comesM (nextsM c kn at_) ⟨kn, l⟩ = none ∧ ∃ B', L' = (l0, lobj lp .done (some .ret)) :: (r0, .deferred (some [])) :: (b11, .cells i.cells.toArray 38 (0, 0)) :: (b12, .cells s.cells.toArray 238 (0, 0)) :: (B' ++ (markB rs ++ resB b2 b3 b4)))
            (fun _ _ _ _ _ h => h) ⟨⟨kn, l⟩, _, rfl, hip, Nat.le_refl _, hD2, rfl⟩ ?_ ?_ ?_
          · rintro k x b hk z27 w27 G _ K' hz27 hS27 ⟨d', B', hcm, hinv', hmea', hD', rfl⟩ back' fail'
            have hk2 : (nextsM c kn at_)[k]? = some (x, behindM i s b) := by rw [nextsM, hii, hs2, List.getElem?_map, hk]; rfl
            have hkl := (List.getElem?_eq_some_iff.1 hk2).1
            have hxlt : x < c.ins.length := leadsM_lt (x, b) (List.mem_of_getElem? hk)
            rw [List.drop_eq_getElem_cons hkl, (List.getElem?_eq_some_iff.1 hk2).2, comesM_cons] at hcm
            refine hyp _ _ _ _ ?_ (Res.at_ (b := l0) hS27)
            refine iBegin ?_
            intro w28 hS28
            clear hS27
            (repeat (first | (refine iDr ?_; intro _ _) | refine iHV_N ?_ | refine fHV_ld1 ?_))
            refine CV_1 (behind_of (tame_of (hr i (List.mem_of_getElem? hi2))) hlow) ?_
            rintro z29 w29 v29 hz29 hS29 rfl
            (repeat (refine fRI_1 ?_))
            have hsz' := hinv'.size
            refine CV_va (B := B') (hS29.bring B') (come_of (s := behindM i s b) hD' (by rw [hinv'.len]; exact hxlt) (by omega)) ?_
            rintro z30 B30 w30 v30 hz30 hS30 ⟨rfl, hD30⟩
            clear hS29 hS28
            (repeat (refine PV_run ?_))
            refine Cond_n (fun e2 => ?_) (fun e2 => ?_)
            · (repeat (refine iU_st ?_; intro _ _))
              refine iEnd (st := .busy) (pend := none) ?_
              intro w31 hS31
              refine fail' _ _ _ ?_ (hS31.perm (perm_mid _ _ [_, _, _, _] _)) ⟨?_, B30, rfl⟩
              · (repeat (first | assumption | refine Le.trans ?_ (by assumption : Le _ _)))
              · rw [hcm, e2]; rfl
            · refine iEnd (st := .busy) (pend := none) ?_
              intro w31 hS31
              have hci := comeInv hinv' hxlt e2
              refine back' _ _ _ ?_ (hS31.perm (perm_mid _ _ [_, _, _, _] _)) ⟨_, B30, ?_, hci.1, Nat.le_trans hci.2.1 hmea', hD30, rfl⟩
              · (repeat (first | assumption | refine Le.trans ?_ (by assumption : Le _ _)))
              · rw [hcm, if_pos e2]
          · rintro z27 w27 _ hz27 hS27 ⟨d', B', hcm, hinv', hmea', hD', rfl⟩
            refine iRfEnd (st := .ready) (by intro h; cases h) ?_
            intro w28 hS28
            rw [List.drop_of_length_le (by simp [nextsM, hii])] at hcm
            have hcm2 : comesM (nextsM c kn at_) ⟨kn, l⟩ = some d' := hcm
            refine back (f - 1, d', r0 :: rs) _ _ ⟨by rw [marks_iface, hmx], ?_, by simp only; omega, hinv', B', z27, ?_, hD', ?_⟩ (by simp only; omega)
            · rw [hrun, hrun2, hstep, hcm2]
            · exact hz20.trans (hz23'.trans (hz24.trans hz27))
            · exact (hS26.comp hS28).keep [.bl B', .at r0, .bl (markB rs), .bl (resB b2 b3 b4)]
          · rintro z27 w27 _ hz27 hS27 ⟨hcm, B', rfl⟩
            refine iRfEnd (st := .done) (pend := some .ret) (by intro h; cases h) ?_
            intro w28 hS28
            dsimp only [jumpK]
            rw [marks_iface, hmx]
            refine iTakes (r0 :: rs) (L := resB b2 b3 b4) (hS28.keep [.at r0, .bl (markB rs), .bl (resB b2 b3 b4)]) ?_
            intro w29 hS29
            (repeat (refine iHV_1 ?_))
            exact hR2 _ _ _ _ (hS26.comp hS29) (by rw [hrun, hrun2, hstep, hcm]; rfl)
      haveI : Fz z12 be (offe + (at_ : Int).toNat * 4) i.cells := ⟨hate.mono hz⟩
      haveI : InR (at_ : Int) (c.ins.length : Nat) := ⟨by omega, by omega⟩
      clear hKa
      (repeat (first | (refine iDr ?_; intro _ _) | refine PV_run ?_ | refine iHV_1 ?_ | refine gHV_lkI ?_ | refine fHV_ldN ?_ | refine fHV_ld1 ?_))
      refine ⟨?_, ?_⟩
      · (repeat (first | (refine iV_bx ?_; intro _ _ _ _) | (refine iU_st ?_; intro _ _) | refine iRI_1 ?_ | refine fRI_1 ?_ | refine fRI_N ?_ | refine gRI_lkI ?_))
        rename_i hSe
        exact main _ _ _ _ (Le.refl _) (hSe.perm (.swap _ _ _))
      · (repeat (first | (refine iV_bx ?_; intro _ _ _ _) | (refine iU_st ?_; intro _ _) | refine iRI_1 ?_ | refine fRI_1 ?_ | refine fRI_N ?_ | refine gRI_lkI ?_))
        rename_i hSe
        exact main _ _ _ _ (Le.refl _) hSe)
end Go.Proofs.YtbeelfopmkbllaaGreatDoor
end

section
/- Check, Depths, Entry. -/
set_option linter.unusedVariables false
set_option linter.unusedSimpArgs false
set_option maxRecDepth 20000
set_option synthInstance.maxHeartbeats 4000000
set_option synthInstance.maxSize 20000
namespace Go.Proofs.YtbeelfopmkbllaaGreatDoor
open Go Q Go.RowKit

instance {z : Z} {v : Value} {c : CodeM} [hc : CodeZ z v c] : PuZ z 46 #[v] (.bool (limitsM c)) := ⟨fun z' w hz => limits_of (hc.h.mono hz)⟩
instance {z : Z} {v : Value} {c : CodeM} [hc : CodeZ z v c] : PuZ z 47 #[v] (.bool (partsM c)) := ⟨fun z' w hz => parts_of (hc.h.mono hz)⟩
def badIdx (c : CodeM) : Int := fidx (fun i => !rightM c i) c.ins
def lastI (c : CodeM) : InsM := insAt c (c.ins.length - 1)
def checkM (c : CodeM) : Int × Int :=
  if limitsM c = false then (3, 0) else if partsM c = false then (1, 0) else if 0 ≤ badIdx c then (1, badIdx c) else if (formAt (lastI c).op).final = false then (2, (c.ins.length : Int) - 1)
  else match depthsM c with | none => (12, 0) | some _ => (0, 0)
abbrev ckV (p : Int × Int) : Value := .tuple #[.int .i64 p.1, .int .i64 p.2]
theorem limits_bd {c : CodeM} (h : limitsM c = true) : c.consts.length ≤ 3000 ∧ c.tmpls.length ≤ 3000 ∧ c.lists.length ≤ 3000 ∧ c.labels.length ≤ 3000 ∧ c.slots.length ≤ 100 ∧ c.ins.length ≤ 12000 := by
  unfold limitsM at h
  simp only [Bool.and_eq_true] at h
  have h1 := h.1
  simp only [sizesL, List.all_cons, List.all_nil, Bool.and_eq_true, decide_eq_true_eq] at h1
  omega
theorem parts_pos {c : CodeM} (h : partsM c = true) : 0 < c.ins.length := by
  unfold partsM at h
  simp only [Bool.and_eq_true, Bool.not_eq_true', decide_eq_false_iff_not] at h
  omega
theorem check_of {z : Z} {w : World} {v : Value} {c : CodeM} (hc : CodeR z v c) : Fn1 15 #[v] z w fun _ r => r = ckV (checkM c) := fnA en15 (by
  intro hS R hR
  unfold vc15
  obtain ⟨a1, a2, a3, a4, a5, a6, k1, k2, k3, k4, k5, k6, rfl, h1, h2, h3, h4, h5, h6⟩ := hc.form
  haveI : CodeZ z _ c := ⟨hc⟩
  have hbig := h6.big
  refine iV_bx ?_
  intro bc w1 hbc hS1
  clear hS
  (repeat (first | refine V_run ?_ | refine iV_ldN ?_ | (refine CV_puz ?_; intro _ _ _ _)))
  refine Cond_n (fun e1 => ?_) (fun e1 => ?_)
  · exact finW hR (by rw [checkM, if_pos e1])
  have n1 : ¬ limitsM c = false := by rw [e1]; simp
  (repeat (first | refine V_run ?_ | refine iV_ldN ?_ | (refine CV_puz ?_; intro _ _ _ _)))
  refine Cond_n (fun e2 => ?_) (fun e2 => ?_)
  · exact finW hR (by rw [checkM, if_neg n1, if_pos e2])
  have n2 : ¬ partsM c = false := by rw [e2]; simp
  have hbd := limits_bd e1
  have hpos := parts_pos e2
  (repeat (first | refine V_run ?_ | refine iV_ld1 ?_))
  rename_i z3 w3 hz3 hS3
  have hz3' : Le z z3 := by (repeat (exact Res.zle (by assumption)))
  refine LoopG1 (fun (k : Nat) x w' => x = .int .i64 k ∧ k ≤ c.ins.length ∧ (∀ j i, j < k → c.ins[j]? = some i → rightM c i = true) ∧ ∃ z', Le z z' ∧ Res w z [] w' z' [(bc, .cells (codeVs a1 a2 a3 a4 a5 a6 k1 k2 k3 k4 k5 k6 c).toArray 28 (0, 0))]) (fun k => c.ins.length - k) 0 ⟨rfl, by omega, fun j i hj => absurd hj (by omega), z3, hz3', hS3⟩ ?_
  rintro I M k x w4 m ⟨rfl, hk, hall, z4, hz4, hS4⟩ back
  clear hS3 hS1
  obtain ⟨_, ai, ki, he, _, hel⟩ := h6.form
  cases he
  (repeat (refine V_run ?_))
  refine Cond_d (fun h => ?_) (fun h => ?_)
  · have hlt : k < c.ins.length := by omega
    have hi := List.getElem?_eq_getElem hlt
    haveI : InR (k : Int) (c.ins.length : Nat) := ⟨by omega, by omega⟩
    haveI : InI ((k : Int) + 1) := ⟨by omega⟩
    obtain ⟨b, off, cs, rfl, rfl, hat⟩ := hel _ _ hi
    haveI : Fz z b (off + (k : Int).toNat * 4) c.ins[k].cells := ⟨hat⟩
    (repeat (first | refine V_run ?_ | refine iV_ldN ?_ | (refine iV_bx ?_; intro _ _ _ _) | (refine iU_st ?_; intro _ _) | (refine CV_puz ?_; intro _ _ _ _) | refine fV_ldN ?_))
    refine Cond_n (fun e3 => ?_) (fun e3 => ?_)
    · refine finW hR ?_
      have hf : badIdx c = (k : Int) := fidx_some (x := c.ins[k]) (fun j y hj hy => by rw [hall j y hj hy]; rfl) hi (by rw [e3]; rfl)
      rw [checkM, if_neg n1, if_neg n2, if_pos (by omega), hf]
    · (repeat (refine V_run ?_))
      rename_i hS5
      refine back (k + 1) _ _ ⟨by simp, by omega, fun j i hj hji => ?_, _, ?_, hS5.keep [.at bc]⟩ (by omega)
      · rcases Nat.lt_or_eq_of_le (Nat.le_of_lt_succ hj) with hj | hj
        · exact hall j i hj hji
        · subst hj; rw [hi] at hji; cases hji; exact e3
      · (repeat (exact Res.zle (by assumption)))
  · have hall' : ∀ i ∈ c.ins, rightM c i = true := fun i hm => by
      obtain ⟨j, hj⟩ := List.mem_iff_getElem?.1 hm
      exact hall j i (by have := (List.getElem?_eq_some_iff.1 hj).1; omega) hj
    have hf : badIdx c = -1 := fidx_none (fun i y hm => by rw [hall' y (List.mem_of_getElem? hm)]; rfl)
    have n3 : ¬ 0 ≤ badIdx c := by rw [hf]; decide
    have e0 : (c.ins.length : Int) - 1 = ((c.ins.length - 1 : Nat) : Int) := by omega
    haveI : InI ((c.ins.length : Int) - 1) := ⟨by omega⟩
    haveI : InR ((c.ins.length - 1 : Nat) : Int) (c.ins.length : Nat) := ⟨by omega, by omega⟩
    have hi : c.ins[c.ins.length - 1]? = some (lastI c) := by rw [lastI, insAt, List.getD_eq_getElem?_getD, List.getElem?_eq_getElem (by omega)]; rfl
    obtain ⟨b, off, cs, rfl, rfl, hat⟩ := hel _ _ hi
    haveI : Fz z b (off + ((c.ins.length - 1 : Nat) : Int).toNat * 4) (lastI c).cells := ⟨hat⟩
    (repeat (first | refine V_run ?_ | refine iV_ld1 ?_))
    simp only [e0]
    (repeat (first | refine V_run ?_ | refine iV_ld1 ?_ | (refine iV_bx ?_; intro _ _ _ _) | (refine iU_st ?_; intro _ _) | (refine CV_pu ?_; intro _ _ _ _) | refine fV_ldN ?_))
    refine Cond_n (fun e4 => ?_) (fun e4 => ?_)
    · exact finW hR (by rw [checkM, if_neg n1, if_neg n2, if_neg n3, if_pos e4, e0])
    have n4 : ¬ (formAt (lastI c).op).final = false := by rw [e4]; simp
    (repeat (refine iV_ldN ?_))
    rename_i hS5
    refine CV_1 (depths_of (hc.mono hS5.zle) hbd.2.2.2.1 hpos hbd.2.2.2.2.2 hall') ?_
    rintro z6 w6 v6 hz6 hS6 hd
    have hck : checkM c = match depthsM c with | none => (12, 0) | some _ => (0, 0) := by rw [checkM, if_neg n1, if_neg n2, if_neg n3, if_neg n4]
    cases hdm : depthsM c with
    | none =>
      rw [hdm] at hd hck
      cases hd
      (repeat (first | refine V_run ?_ | refine Cond_t ?_))
      exact finW hR (by rw [hck])
    | some kn =>
      rw [hdm] at hd hck
      obtain ⟨v1, v2, rfl, _, _⟩ := hd
      (repeat (first | refine V_run ?_ | refine Cond_f ?_))
      exact finW hR (by rw [hck]))
instance {z : Z} {v : Value} {c : CodeM} [hc : CodeZ z v c] : PuZ z 15 #[v] (ckV (checkM c)) := ⟨fun z' w hz => check_of (hc.h.mono hz)⟩
theorem check_ok {c : CodeM} (h : (checkM c).1 = 0) : checkM c = (0, 0) ∧ limitsM c = true ∧ partsM c = true ∧ (∀ i ∈ c.ins, rightM c i = true) ∧ (formAt (lastI c).op).final = true ∧ ∃ kn, depthsM c = some kn := by
  unfold checkM at h ⊢
  by_cases e1 : limitsM c = false
  · rw [if_pos e1] at h; cases h
  rw [if_neg e1] at h ⊢
  by_cases e2 : partsM c = false
  · rw [if_pos e2] at h; cases h
  rw [if_neg e2] at h ⊢
  by_cases e3 : 0 ≤ badIdx c
  · rw [if_pos e3] at h; cases h
  rw [if_neg e3] at h ⊢
  by_cases e4 : (formAt (lastI c).op).final = false
  · rw [if_pos e4] at h; cases h
  rw [if_neg e4] at h ⊢
  cases hd : depthsM c with
  | none => rw [hd] at h; cases h
  | some kn =>
    refine ⟨rfl, by simpa using e1, by simpa using e2, fun i hi => ?_, by simpa using e4, kn, rfl⟩
    have : fidx (fun i => !rightM c i) c.ins < 0 := by unfold badIdx at e3; omega
    unfold fidx at this
    cases hf : c.ins.findIdx? (fun i => !rightM c i) with
    | none => rw [List.findIdx?_eq_none_iff] at hf; simpa using hf i hi
    | some j => rw [hf] at this; simp only at this; omega
/-- What Depths returns. -/
def DepthsR (z : Z) (v : Value) (c : CodeM) : Prop := ∃ v1 v2, v = .tuple #[v1, v2, .int .i64 (checkM c).1] ∧ SlR El.int z v1 (if (checkM c).1 = 0 then ((depthsM c).getD []).map stackV else []) ∧ SlR El.int z v2 (if (checkM c).1 = 0 then ((depthsM c).getD []).map loopsV else [])
theorem depthsX_of {z : Z} {w : World} {v : Value} {c : CodeM} (hc : CodeR z v c) : Fn1 23 #[v] z w fun z' r => DepthsR z' r c := Fn1.intro fun hS => en23 (by
  unfold vc23
  obtain ⟨a1, a2, a3, a4, a5, a6, k1, k2, k3, k4, k5, k6, rfl, h1, h2, h3, h4, h5, h6⟩ := hc.form
  haveI : CodeZ z _ c := ⟨hc⟩
  (repeat (first | refine V_run ?_ | refine iV_ldN ?_ | (refine iV_bx ?_; intro _ _ _ _) | (refine CV_puz ?_; intro _ _ _ _)))
  rename_i z5 w5 hz5 hS5
  refine Cond_nd (fun e1 => ?_) (fun e1 => ?_)
  · exact ⟨_, _, hS5, _, _, rfl, by rw [if_neg e1]; exact SlR.nil, by rw [if_neg e1]; exact SlR.nil⟩
  · obtain ⟨e0, hl, hp, hr, _, kn, hd⟩ := check_ok e1
    have hbd := limits_bd hl
    (repeat (refine iV_ldN ?_))
    refine CV_1 (depths_of (hc.mono hS5.zle) hbd.2.2.2.1 (parts_pos hp) hbd.2.2.2.2.2 hr) ?_
    rintro z6 w6 v6 hz6 hS6 hdd
    rw [hd] at hdd
    obtain ⟨v1, v2, rfl, g1, g2⟩ := hdd
    (repeat (refine V_run ?_))
    exact ⟨_, _, hS6, v1, v2, by rw [e1], by rw [if_pos e1, hd]; exact g1, by rw [if_pos e1, hd]; exact g2⟩)
/-- The instruction of a label. -/
def entryM (c : CodeM) (l : ByteArray) : Int × Int := if (checkM c).1 = 0 then (if fidx (fun s => decide (s.name = l)) c.labels < 0 then (0, 5) else ((c.labels.getD (fidx (fun s => decide (s.name = l)) c.labels).toNat ⟨⟨#[]⟩, 0⟩).at_, 0)) else (0, (checkM c).1)
theorem entry1 {z : Z} {w : World} {b : Nat} {l : ByteArray} {s : SpotM} (ha : At z b 0 [.string l]) : Va1 (.func (.func 78) #[] #[.pointer (some ⟨b, 0, none⟩)]) #[s.v] z w fun _ r => r = .bool (decide (s.name = l)) :=
  haveI : Fz z b 0 [.string l] := ⟨ha⟩
  Fn1.va (args' := #[s.v, .pointer (some ⟨b, 0, none⟩)]) (fnW en78 (fun hS R => by unfold vc78; exact inferInstance) rfl) (by simp)
theorem entry_of {z : Z} {w : World} {v : Value} {c : CodeM} {l : ByteArray} (hc : CodeR z v c) : Fn1 28 #[v, .string l] z w fun _ r => r = ckV (entryM c l) := fnA en28 (by
  intro hS R hR
  unfold vc28
  obtain ⟨a1, a2, a3, a4, a5, a6, k1, k2, k3, k4, k5, k6, rfl, h1, h2, h3, h4, h5, h6⟩ := hc.form
  haveI : CodeZ z _ c := ⟨hc⟩
  refine iV_bx ?_
  intro bc w1 hbc hS1
  refine iV_bx ?_
  intro bl w2 hbl hS2
  clear hS hS1
  (repeat (first | refine V_run ?_ | refine iV_ldN ?_ | (refine CV_puz ?_; intro _ _ _ _)))
  rename_i z5 w5 hz5 hS5
  refine Cond_nd (fun e1 => ?_) (fun e1 => ?_)
  · exact finW hR (by rw [entryM, if_neg e1])
  (repeat (first | refine V_run ?_ | refine iV_ld1 ?_))
  obtain ⟨z6, hz6, hS6, hat⟩ := hS5.frz bl
  clear hS5
  refine CV_1 (idx1 (E := El.spot) (p := fun s => decide (s.name = l)) (n := 2) rfl (fun h => en77 h) (h4.mono (hz5.trans hz6)) (fun z' w' cs x hm hz hr => by
    obtain ⟨rfl, _⟩ := hr
    exact entry1 (hat.mono hz))) ?_
  rintro z7 w7 v7 hz7 hS7 rfl
  clear hS6
  refine V_run ?_
  refine Cond_d (fun e2 => ?_) (fun e2 => ?_)
  · exact finW hR (by rw [entryM, if_pos e1, if_pos e2])
  obtain ⟨k, hk⟩ : ∃ k : Nat, fidx (fun s : SpotM => decide (s.name = l)) c.labels = k := ⟨(fidx (fun s : SpotM => decide (s.name = l)) c.labels).toNat, by omega⟩
  have hlt : k < c.labels.length := by
    rcases fidx_range (p := fun s : SpotM => decide (s.name = l)) (xs := c.labels) with hr | ⟨_, hr⟩ <;> omega
  obtain ⟨_, ai, ki, he, _, hel⟩ := h4.form
  cases he
  obtain ⟨b, off, cs, rfl, ⟨rfl, _⟩, hat4⟩ := hel _ _ (List.getElem?_eq_getElem hlt)
  rw [hk]
  haveI : InR (k : Int) (c.labels.length : Nat) := ⟨by omega, by omega⟩
  haveI : Fz z b (off + (k : Int).toNat * 2 + 1) [.int .i64 c.labels[k].at_] := ⟨hat4.fld (i := 1) rfl rfl⟩
  haveI : Fz z b (off + ((k : Int).toNat * 2 + 1)) [.int .i64 c.labels[k].at_] := ⟨hat4.fld (i := 1) rfl rfl⟩
  (repeat (first | refine V_run ?_ | refine iV_ld1 ?_ | refine fV_ld1 ?_))
  exact finW hR (by rw [entryM, if_pos e1, if_neg e2, hk, List.getD_eq_getElem?_getD, Int.toNat_natCast, List.getElem?_eq_getElem hlt]; rfl))
end Go.Proofs.YtbeelfopmkbllaaGreatDoor
end

section
/- Next and Reach. -/
set_option linter.unusedVariables false
set_option linter.unusedSimpArgs false
set_option maxRecDepth 20000
set_option synthInstance.maxHeartbeats 4000000
set_option synthInstance.maxSize 20000
set_option maxHeartbeats 1000000
namespace Go.Proofs.YtbeelfopmkbllaaGreatDoor
open Go Q Go.RowKit

theorem any_mem {out : List Nat} {x : Nat} : ((ofNats out).any fun y => decide ((x : Int) = y)) = memK out x := by
  unfold ofNats memK
  rw [List.any_map]
  congr 1
  funext y
  exact decide_eq_decide.2 ⟨fun h => by simp at h; omega, fun h => by simp; omega⟩
theorem insK_len {out : List Nat} {x : Nat} : (insK out x).length ≤ out.length + 1 := by
  unfold insK; cases memK out x <;> simp
def nextL (c : CodeM) (at_ : Nat) : List Nat := (leadsM c.ins.length at_ (insAt c at_)).foldl (fun out p => insK out p.1) []
def nextBad (c : CodeM) (at_ : Int) : Bool := decide (c.ins.length > 12000) || (decide (c.labels.length > 3000) || !inB at_ 0 ((c.ins.length : Int) - 1))
def nextM (c : CodeM) (at_ : Int) : List Nat := if nextBad c at_ = true then [] else nextL c at_.toNat
theorem leadsM_len {n at_ : Nat} {i : InsM} : (leadsM n at_ i).length ≤ 2 := by
  unfold leadsM lead1 lead2
  split <;> split <;> simp
theorem foldT_len {l : List (Nat × Bool)} {k : Nat} : ((l.take k).foldl (fun out p => insK out p.1) []).length ≤ k := by
  induction k generalizing l with
  | zero => simp
  | succ k ih =>
    by_cases h : k < l.length
    · rw [← List.take_append_getElem h, List.foldl_append]
      simp only [List.foldl_cons, List.foldl_nil]
      have := @ih l
      have := @insK_len ((l.take k).foldl (fun out p => insK out p.1) []) l[k].1
      omega
    · rw [List.take_of_length_le (by omega)]
      have := @ih l
      rw [List.take_of_length_le (by omega)] at this
      omega
def outK (c : CodeM) (n k : Nat) : List Nat := ((leadsM c.ins.length n (insAt c n)).take k).foldl (fun (out : List Nat) (p : Nat × Bool) => insK out p.1) []
theorem next_of {z : Z} {w : World} {v : Value} {c : CodeM} {at_ : Int} (hc : CodeR z v c) : Fn1 24 #[v, .int .i64 at_] z w fun z' r => SlR El.int z' r (ofNats (nextM c at_)) := Fn1.intro fun hS => en24 (by
  unfold vc24
  obtain ⟨a1, a2, a3, a4, a5, a6, k1, k2, k3, k4, k5, k6, rfl, h1, h2, h3, h4, h5, h6⟩ := hc.form
  haveI : CodeZ z _ c := ⟨hc⟩
  haveI := inI_len h6.big
  refine iV_bx ?_
  intro bc w1 hbc hS1
  obtain ⟨zc, hzc, hS2, hatc⟩ := hS1.frz bc
  have hR : ∀ z' w' L' r, Res w1 zc [] w' z' L' → SlR El.int z' r (ofNats (nextM c at_)) → ∃ z'' L'', Res w z [] w' z'' L'' ∧ SlR El.int z'' r (ofNats (nextM c at_)) := fun z' w' L' r k hd => ⟨z', L', hS2.comp k, hd⟩
  generalize hRR : (fun (v : Value) (w' : World) => ∃ z' L', Res w z [] w' z' L' ∧ SlR El.int z' v (ofNats (nextM c at_))) = RR
  have hR : ∀ z' w' L' r, Res w1 zc [] w' z' L' → SlR El.int z' r (ofNats (nextM c at_)) → RR r w' := fun z' w' L' r k hd => by rw [← hRR]; exact hR _ _ _ _ k hd
  clear hRR
  have hS3 := hS2.self
  clear hS hS1 hS2
  haveI : Fz zc bc 0 (codeVs a1 a2 a3 a4 a5 a6 k1 k2 k3 k4 k5 k6 c) := ⟨hatc⟩
  haveI : Fz zc bc 3 [.slice a4 c.labels.length k4] := ⟨hatc.fld (i := 3) rfl rfl⟩
  haveI : Fz zc bc 5 [.slice a6 c.ins.length k6] := ⟨hatc.fld (i := 5) rfl rfl⟩
  (repeat (first | (refine iDr ?_; intro _ _) | refine V_run ?_ | refine PV_run ?_ | refine HV_run ?_ | refine iV_ld1 ?_ | refine iV_ldN ?_ | (refine iV_bx ?_; intro _ _ _ _) | (refine iV_al ?_; intro _ _ _ _) | (refine iV_mm ?_; intro _ _ _ _) | (refine iU_st ?_; intro _ _) | refine iHV_1 ?_ | refine iHV_N ?_ | refine iRI_1 ?_ | refine iRI_N ?_ | refine Cond_t ?_ | refine Cond_f ?_ | refine JB ?_ | (refine JC ?_; intro _ _ _ _) | (refine JGB ?_; intro _ _ _ _) | (refine J1 ?_; intro _ _) | (refine J0 ?_; intro _ _) | (refine J2 ?_; intro _ _) | (refine J3 ?_; intro _ _) | (refine J4 ?_; intro _ _) | refine K1 ?_ | refine K0 ?_ | refine K2 ?_ | refine K3 ?_ | refine K4 ?_ | (refine CV_pu ?_; intro _ _ _ _) | (refine CV_puz ?_; intro _ _ _ _) | refine fRI_1 ?_ | refine fRI_N ?_ | refine gHV_lkI ?_ | refine gRI_lkI ?_ | refine gV_lkI ?_ | refine fV_ldN ?_ | refine fV_ld1 ?_ | refine fHV_ldN ?_ | refine fHV_ld1 ?_ | refine NilW_some ?_ | refine iCW_1 ?_ | refine iCW_N ?_ | refine Pk_b ?_))
  rename_i z4 w4 hz4 hS4
  have hz4' : Le zc z4 := by (repeat (first | assumption | exact Le.refl _ | exact Res.zle (by assumption) | refine Le.trans ?_ (by assumption : Le _ _)))
  clear hS3
  have hbad : (bif bif decide ((c.ins.length : Int) > 12000) then true else decide ((c.labels.length : Int) > 3000) then true else !inB at_ 0 ((c.ins.length : Int) - 1)) = nextBad c at_ := by
    rw [nextBad, show decide ((c.ins.length : Int) > 12000) = decide (c.ins.length > 12000) from decide_eq_decide.2 (by omega), show decide ((c.labels.length : Int) > 3000) = decide (c.labels.length > 3000) from decide_eq_decide.2 (by omega)]
    cases decide (c.ins.length > 12000) <;> cases decide (c.labels.length > 3000) <;> rfl
  rw [hbad]
  refine Cond_b (fun e => ?_) (fun e => ?_)
  · exact hR _ _ _ _ hS4 (by rw [nextM, if_pos e]; exact SlR.nil)
  have hnx : nextM c at_ = nextL c at_.toNat := by rw [nextM, if_neg (by rw [e]; simp)]
  have hin : inB at_ 0 ((c.ins.length : Int) - 1) = true := by
    revert e; rw [nextBad]; cases decide (c.ins.length > 12000) <;> cases decide (c.labels.length > 3000) <;> simp
  have hin' := inB_iff.1 hin
  obtain ⟨n, rfl⟩ : ∃ n : Nat, at_ = n := ⟨at_.toNat, by omega⟩
  rw [Int.toNat_natCast] at hnx
  rw [hnx] at hR
  clear hbad
  have hi2 : c.ins[n]? = some (insAt c n) := by rw [insAt, List.getD_eq_getElem?_getD, List.getElem?_eq_getElem (by omega)]; rfl
  refine iV_al ?_
  intro b5 w5 hb5 hS5
  refine fV_ldN ?_
  refine CV_1 leads_of ?_
  rintro z6 w6 v6 hz6 hS6 ⟨bl1, bl2, rfl, hbl1, hbl2⟩
  clear hS4 hS5
  intro lp r0 l0 w7 hnew hyp
  have hS7 := hS6.rf hnew
  clear hS6 hnew
  have hO := hS7.self
  refine leads_gen (i := insAt c n) hO (h6.mono (hzc.trans (hz4'.trans hz6))) hbl1 hbl2 hi2
    (fun k z' L' => ∃ v B, OwnSl 3 1 B v (outK c n k).length (intsV (outK c n k)) ∧ L' = (l0, lobj lp .ready none) :: (r0, .deferred (some [])) :: (b5, .cells [v].toArray 45 (0, 0)) :: B)
    (fun _ _ => False) (fun _ _ _ _ _ h => h) ⟨_, [], OwnSl.nil, rfl⟩ ?_ ?_ ?_
  · rintro k x b hk z8 w8 G _ K' hz8 hS8 ⟨v, B, ho, rfl⟩ back fail
    have hkl := (List.getElem?_eq_some_iff.1 hk).1
    have hk2 := leadsM_len (n := c.ins.length) (at_ := n) (i := insAt c n)
    have hfl : (outK c n k).length ≤ k := @foldT_len (leadsM c.ins.length n (insAt c n)) k
    have hsucc : outK c n (k + 1) = insK (outK c n k) x := by
      unfold outK
      rw [← List.take_append_getElem hkl, List.foldl_append, (List.getElem?_eq_some_iff.1 hk).2]; rfl
    generalize hout : outK c n k = out at *
    obtain ⟨av, cv, rfl, _⟩ := ho.form
    refine hyp _ _ _ _ ?_ (Res.at_ (b := l0) hS8)
    refine iBegin ?_
    intro w9 hS9
    clear hS8
    (repeat (first | (refine iDr ?_; intro _ _) | refine V_run ?_ | refine PV_run ?_ | refine HV_run ?_ | refine iV_ld1 ?_ | refine iV_ldN ?_ | (refine iV_bx ?_; intro _ _ _ _) | (refine iV_al ?_; intro _ _ _ _) | (refine iV_mm ?_; intro _ _ _ _) | (refine iU_st ?_; intro _ _) | refine iHV_1 ?_ | refine iHV_N ?_ | refine iRI_1 ?_ | refine iRI_N ?_ | refine Cond_t ?_ | refine Cond_f ?_ | refine JB ?_ | (refine JC ?_; intro _ _ _ _) | (refine JGB ?_; intro _ _ _ _) | (refine J1 ?_; intro _ _) | (refine J0 ?_; intro _ _) | (refine J2 ?_; intro _ _) | (refine J3 ?_; intro _ _) | (refine J4 ?_; intro _ _) | refine K1 ?_ | refine K0 ?_ | refine K2 ?_ | refine K3 ?_ | refine K4 ?_ | (refine CV_pu ?_; intro _ _ _ _) | (refine CV_puz ?_; intro _ _ _ _) | refine fRI_1 ?_ | refine fRI_N ?_ | refine gHV_lkI ?_ | refine gRI_lkI ?_ | refine gV_lkI ?_ | refine fV_ldN ?_ | refine fV_ld1 ?_ | refine fHV_ldN ?_ | refine fHV_ld1 ?_ | refine NilW_some ?_ | refine iCW_1 ?_ | refine iCW_N ?_ | refine Pk_b ?_))
    refine CV_lend (E := El.int) (e := 3) (xs := ofNats out) (f := fun x => [Value.int .i64 x]) (P := fun r => r = .bool (memK out x)) (hS9.bring B) (by rw [ofNats_len, intsV_flat]; exact ho) (by rw [ofNats_len]; simp only [big]; omega) (fun _ => rfl) (fun z x _ => rfl) (fun z1 hz1 hv1 => ?_) ?_
    · have := containsI (w := w9) (c := (x : Int)) hv1
      rw [any_mem] at this
      exact this
    · rintro z10 w10 r hz10 hS10 rfl
      clear hS9
      (repeat (first | (refine iDr ?_; intro _ _) | refine V_run ?_ | refine PV_run ?_ | refine HV_run ?_ | refine iV_ld1 ?_ | refine iV_ldN ?_ | (refine iV_bx ?_; intro _ _ _ _) | (refine iV_al ?_; intro _ _ _ _) | (refine iV_mm ?_; intro _ _ _ _) | (refine iU_st ?_; intro _ _) | refine iHV_1 ?_ | refine iHV_N ?_ | refine iRI_1 ?_ | refine iRI_N ?_ | refine Cond_t ?_ | refine Cond_f ?_ | refine JB ?_ | (refine JC ?_; intro _ _ _ _) | (refine JGB ?_; intro _ _ _ _) | (refine J1 ?_; intro _ _) | (refine J0 ?_; intro _ _) | (refine J2 ?_; intro _ _) | (refine J3 ?_; intro _ _) | (refine J4 ?_; intro _ _) | refine K1 ?_ | refine K0 ?_ | refine K2 ?_ | refine K3 ?_ | refine K4 ?_ | (refine CV_pu ?_; intro _ _ _ _) | (refine CV_puz ?_; intro _ _ _ _) | refine fRI_1 ?_ | refine fRI_N ?_ | refine gHV_lkI ?_ | refine gRI_lkI ?_ | refine gV_lkI ?_ | refine fV_ldN ?_ | refine fV_ld1 ?_ | refine fHV_ldN ?_ | refine fHV_ld1 ?_ | refine NilW_some ?_ | refine iCW_1 ?_ | refine iCW_N ?_ | refine Pk_b ?_))
      refine Cond_n (fun e2 => ?_) (fun e2 => ?_)
      · (repeat (first | (refine iDr ?_; intro _ _) | refine V_run ?_ | refine PV_run ?_ | refine HV_run ?_ | refine iV_ld1 ?_ | refine iV_ldN ?_ | (refine iV_bx ?_; intro _ _ _ _) | (refine iV_al ?_; intro _ _ _ _) | (refine iV_mm ?_; intro _ _ _ _) | (refine iU_st ?_; intro _ _) | refine iHV_1 ?_ | refine iHV_N ?_ | refine iRI_1 ?_ | refine iRI_N ?_ | refine Cond_t ?_ | refine Cond_f ?_ | refine JB ?_ | (refine JC ?_; intro _ _ _ _) | (refine JGB ?_; intro _ _ _ _) | (refine J1 ?_; intro _ _) | (refine J0 ?_; intro _ _) | (refine J2 ?_; intro _ _) | (refine J3 ?_; intro _ _) | (refine J4 ?_; intro _ _) | refine K1 ?_ | refine K0 ?_ | refine K2 ?_ | refine K3 ?_ | refine K4 ?_ | (refine CV_pu ?_; intro _ _ _ _) | (refine CV_puz ?_; intro _ _ _ _) | refine fRI_1 ?_ | refine fRI_N ?_ | refine gHV_lkI ?_ | refine gRI_lkI ?_ | refine gV_lkI ?_ | refine fV_ldN ?_ | refine fV_ld1 ?_ | refine fHV_ldN ?_ | refine fHV_ld1 ?_ | refine NilW_some ?_ | refine iCW_1 ?_ | refine iCW_N ?_ | refine Pk_b ?_))
        refine V_push hS10 ho (by simp only [room]; omega) (by simp only [room]; omega) (by decide) ?_
        intro B11 v11 w11 ho11 hS11
        obtain ⟨a11, c11, rfl, _⟩ := ho11.form
        clear hS10
        (repeat (first | (refine iDr ?_; intro _ _) | refine V_run ?_ | refine PV_run ?_ | refine HV_run ?_ | refine iV_ld1 ?_ | refine iV_ldN ?_ | (refine iV_bx ?_; intro _ _ _ _) | (refine iV_al ?_; intro _ _ _ _) | (refine iV_mm ?_; intro _ _ _ _) | (refine iU_st ?_; intro _ _) | refine iHV_1 ?_ | refine iHV_N ?_ | refine iRI_1 ?_ | refine iRI_N ?_ | refine Cond_t ?_ | refine Cond_f ?_ | refine JB ?_ | (refine JC ?_; intro _ _ _ _) | (refine JGB ?_; intro _ _ _ _) | (refine J1 ?_; intro _ _) | (refine J0 ?_; intro _ _) | (refine J2 ?_; intro _ _) | (refine J3 ?_; intro _ _) | (refine J4 ?_; intro _ _) | refine K1 ?_ | refine K0 ?_ | refine K2 ?_ | refine K3 ?_ | refine K4 ?_ | (refine CV_pu ?_; intro _ _ _ _) | (refine CV_puz ?_; intro _ _ _ _) | refine fRI_1 ?_ | refine fRI_N ?_ | refine gHV_lkI ?_ | refine gRI_lkI ?_ | refine gV_lkI ?_ | refine fV_ldN ?_ | refine fV_ld1 ?_ | refine fHV_ldN ?_ | refine fHV_ld1 ?_ | refine NilW_some ?_ | refine iCW_1 ?_ | refine iCW_N ?_ | refine Pk_b ?_))
        refine iEnd (st := .busy) (pend := none) ?_
        intro w12 hS12
        refine back _ _ _ ?_ (hS12.perm (perm_mid _ _ [_, _, _] [])) ⟨_, B11, ?_, by rw [List.append_nil]; rfl⟩
        · (repeat (first | assumption | exact Le.refl _ | exact Res.zle (by assumption) | refine Le.trans ?_ (by assumption : Le _ _)))
        · rw [hsucc, insK, e2, cond_false, List.length_append, intsV_append]
          exact ho11
      · refine iEnd (st := .busy) (pend := none) ?_
        intro w12 hS12
        refine back _ _ _ ?_ (hS12.perm (perm_mid _ _ [_, _, _] [])) ⟨_, B, ?_, by rw [List.append_nil]; rfl⟩
        · (repeat (first | assumption | exact Le.refl _ | exact Res.zle (by assumption) | refine Le.trans ?_ (by assumption : Le _ _)))
        · rw [hsucc, insK, e2, cond_true]
          exact ho
  · rintro z8 w8 _ hz8 hS8 ⟨v, B, ho, rfl⟩
    have hoo : outK c n (leadsM c.ins.length n (insAt c n)).length = nextL c n := by unfold outK nextL; rw [List.take_of_length_le (Nat.le_refl _)]
    have hfl : (outK c n (leadsM c.ins.length n (insAt c n)).length).length ≤ _ := @foldT_len (leadsM c.ins.length n (insAt c n)) (leadsM c.ins.length n (insAt c n)).length
    rw [hoo] at ho hfl
    have hk2 := leadsM_len (n := c.ins.length) (at_ := n) (i := insAt c n)
    obtain ⟨av, cv, rfl, _⟩ := ho.form
    refine iRfEnd (st := .ready) (by intro h; cases h) ?_
    intro w9 hS9
    (repeat (first | (refine iDr ?_; intro _ _) | refine V_run ?_ | refine PV_run ?_ | refine HV_run ?_ | refine iV_ld1 ?_ | refine iV_ldN ?_ | (refine iV_bx ?_; intro _ _ _ _) | (refine iV_al ?_; intro _ _ _ _) | (refine iV_mm ?_; intro _ _ _ _) | (refine iU_st ?_; intro _ _) | refine iHV_1 ?_ | refine iHV_N ?_ | refine iRI_1 ?_ | refine iRI_N ?_ | refine Cond_t ?_ | refine Cond_f ?_ | refine JB ?_ | (refine JC ?_; intro _ _ _ _) | (refine JGB ?_; intro _ _ _ _) | (refine J1 ?_; intro _ _) | (refine J0 ?_; intro _ _) | (refine J2 ?_; intro _ _) | (refine J3 ?_; intro _ _) | (refine J4 ?_; intro _ _) | refine K1 ?_ | refine K0 ?_ | refine K2 ?_ | refine K3 ?_ | refine K4 ?_ | (refine CV_pu ?_; intro _ _ _ _) | (refine CV_puz ?_; intro _ _ _ _) | refine fRI_1 ?_ | refine fRI_N ?_ | refine gHV_lkI ?_ | refine gRI_lkI ?_ | refine gV_lkI ?_ | refine fV_ldN ?_ | refine fV_ld1 ?_ | refine fHV_ldN ?_ | refine fHV_ld1 ?_ | refine NilW_some ?_ | refine iCW_1 ?_ | refine iCW_N ?_ | refine Pk_b ?_))
    refine iTake ?_
    intro w10 hS10
    obtain ⟨z11, hz11, hS11, hv⟩ := freezeInts (hS10.bring B) ho (by simp only [big]; omega)
    exact hR _ _ _ _ (hS7.comp hS11) hv
  · intro _ _ _ _ _ hf
    exact hf.elim)
end Go.Proofs.YtbeelfopmkbllaaGreatDoor
end

section
/- Reach. -/
set_option linter.unusedVariables false
set_option linter.unusedSimpArgs false
set_option maxRecDepth 20000
set_option synthInstance.maxHeartbeats 4000000
set_option synthInstance.maxSize 20000
set_option maxHeartbeats 1000000
namespace Go.Proofs.YtbeelfopmkbllaaGreatDoor
open Go Q Go.RowKit

structure RcM where
  set : List Bool
  open_ : List Nat
def toL (c : CodeM) (at_ : Nat) : List Nat := (leadsM c.ins.length at_ (insAt c at_)).map fun p => p.1
def stepR (c : CodeM) (r : RcM) (at_ : Nat) : RcM := if r.set.getD at_ false = true then r else ⟨r.set.set at_ true, r.open_ ++ toL c at_⟩
def runR (c : CodeM) : Nat → RcM → List Bool
  | 0, r => r.set
  | f + 1, r => match r.open_.getLast? with
    | none => r.set
    | some at_ => runR c f (stepR c ⟨r.set, r.open_.dropLast⟩ at_)
def reachBad (c : CodeM) : Bool := decide (c.ins.length > 12000) || (decide (c.labels.length > 3000) || decide (c.ins.length = 0))
def reachM (c : CodeM) : List Bool := if reachBad c = true then [] else runR c ((rootsM c).length + 3 * c.ins.length + 1) ⟨List.replicate c.ins.length false, rootsM c⟩
structure InvR (n : Nat) (r : RcM) : Prop where
  len : r.set.length = n
  op : ∀ a ∈ r.open_, a < n
  size : r.open_.length + 2 * r.set.count false ≤ 3001 + 2 * n
def meaR (r : RcM) : Nat := r.open_.length + 3 * r.set.count false
theorem countF_set {l : List Bool} {k : Nat} (hk : k < l.length) (h : l.getD k false = false) : (l.set k true).count false + 1 = l.count false := by
  have h2 : l[k] = false := by rw [List.getD_eq_getElem?_getD, List.getElem?_eq_getElem hk] at h; exact h
  have hs : l = l.take k ++ false :: l.drop (k + 1) := by
    rw [← h2, ← List.drop_eq_getElem_cons hk, List.take_append_drop]
  rw [List.set_eq_take_append_cons_drop, if_pos hk]
  conv => rhs; rw [hs]
  simp [List.count_append, List.count_cons]
  omega
theorem toL_len {c : CodeM} {a : Nat} : (toL c a).length ≤ 2 := by unfold toL; rw [List.length_map]; exact leadsM_len
theorem toL_lt {c : CodeM} {a : Nat} : ∀ x ∈ toL c a, x < c.ins.length := fun x hx => by
  obtain ⟨p, hp, rfl⟩ := List.mem_map.1 hx
  exact leadsM_lt p hp
theorem popR {n : Nat} {s : List Bool} {l : List Nat} {a : Nat} (h : InvR n ⟨s, l ++ [a]⟩) : InvR n ⟨s, l⟩ ∧ meaR ⟨s, l⟩ + 1 = meaR ⟨s, l ++ [a]⟩ ∧ a < n := by
  refine ⟨⟨h.len, fun x hx => h.op x (by simp [hx]), ?_⟩, ?_, h.op a (by simp)⟩
  · have := h.size; simp only [List.length_append, List.length_singleton] at this; simp only; omega
  · unfold meaR; simp only [List.length_append, List.length_singleton]; omega
theorem stepR_inv {c : CodeM} {r : RcM} {a : Nat} (h : InvR c.ins.length r) (ha : a < c.ins.length) : InvR c.ins.length (stepR c r a) ∧ meaR (stepR c r a) ≤ meaR r := by
  unfold stepR
  by_cases e : r.set.getD a false = true
  · rw [if_pos e]; exact ⟨h, Nat.le_refl _⟩
  · rw [if_neg e]
    have hc := countF_set (by rw [h.len]; exact ha) (by simpa using e)
    have ht := @toL_len c a
    refine ⟨⟨by simp [h.len], fun x hx => ?_, ?_⟩, ?_⟩
    · rcases List.mem_append.1 hx with hx | hx
      · exact h.op x hx
      · exact toL_lt x hx
    · have := h.size; simp only [List.length_append]; omega
    · unfold meaR; simp only [List.length_append]; omega
def boolsV (l : List Bool) : List Value := l.map Value.bool
theorem boolsV_flat (l : List Bool) : l.flatMap (fun x => [Value.bool x]) = boolsV l := by
  induction l with
  | nil => rfl
  | cons a l ih => simp only [List.flatMap_cons, boolsV, List.map_cons] at ih ⊢; rw [ih]; rfl
theorem boolsV_len (l : List Bool) : (boolsV l).length = l.length := by simp [boolsV]
theorem zerosB_eq {n : Nat} : ((List.range (n * 1)).map fun i => ([Value.bool false] : List Value)[i % ([Value.bool false] : List Value).length]!) = boolsV (List.replicate n false) := by
  rw [Nat.mul_one]
  refine List.ext_getElem? fun j => ?_
  simp only [boolsV, List.getElem?_map, List.getElem?_range, List.getElem?_replicate, List.length_singleton, Nat.mod_one]
  by_cases h : j < n
  · simp [h]
  · simp [h]
theorem reach_of {z : Z} {w : World} {v : Value} {c : CodeM} (hc : CodeR z v c) : Fn1 22 #[v] z w fun z' r => SlR El.bool z' r (reachM c) := Fn1.intro fun hS => en22 (by
  unfold vc22
  obtain ⟨a1, a2, a3, a4, a5, a6, k1, k2, k3, k4, k5, k6, rfl, h1, h2, h3, h4, h5, h6⟩ := hc.form
  refine iV_bx ?_
  intro bc w1 hbc hS1
  obtain ⟨zc, hzc, hS2, hatc⟩ := hS1.frz bc
  generalize hRR : (fun (v : Value) (w' : World) => ∃ z' L', Res w z [] w' z' L' ∧ SlR El.bool z' v (reachM c)) = RR
  have hR : ∀ z' w' L' r, Res w1 zc [] w' z' L' → SlR El.bool z' r (reachM c) → RR r w' := fun z' w' L' r k hd => by rw [← hRR]; exact ⟨z', L', hS2.comp k, hd⟩
  clear hRR
  have hS3 := hS2.self
  clear hS hS1 hS2
  haveI : Fz zc bc 0 (codeVs a1 a2 a3 a4 a5 a6 k1 k2 k3 k4 k5 k6 c) := ⟨hatc⟩
  haveI : Fz zc bc 3 [.slice a4 c.labels.length k4] := ⟨hatc.fld (i := 3) rfl rfl⟩
  haveI : Fz zc bc 5 [.slice a6 c.ins.length k6] := ⟨hatc.fld (i := 5) rfl rfl⟩
  (repeat (first | refine V_run ?_ | (refine JGB ?_; intro _ _ _ _) | refine fV_ld1 ?_))
  rename_i z4 w4 hz4 hS4
  have hz4' : Le zc z4 := by (repeat (exact Res.zle (by assumption)))
  clear hS3
  have hbad : (bif bif decide ((c.ins.length : Int) > 12000) then true else decide ((c.labels.length : Int) > 3000) then true else decide ((c.ins.length : Int) = 0)) = reachBad c := by
    rw [reachBad, show decide ((c.ins.length : Int) > 12000) = decide (c.ins.length > 12000) from decide_eq_decide.2 (by omega), show decide ((c.labels.length : Int) > 3000) = decide (c.labels.length > 3000) from decide_eq_decide.2 (by omega), show decide ((c.ins.length : Int) = 0) = decide (c.ins.length = 0) from decide_eq_decide.2 (by omega)]
    cases decide (c.ins.length > 12000) <;> cases decide (c.labels.length > 3000) <;> rfl
  rw [hbad]
  refine Cond_b (fun e => ?_) (fun e => ?_)
  · exact hR _ _ _ _ hS4 (by rw [reachM, if_pos e]; exact SlR.nil)
  have hrm : reachM c = runR c ((rootsM c).length + 3 * c.ins.length + 1) ⟨List.replicate c.ins.length false, rootsM c⟩ := by rw [reachM, if_neg (by rw [e]; simp)]
  have hbd : c.ins.length ≤ 12000 ∧ c.labels.length ≤ 3000 ∧ 0 < c.ins.length := by
    rw [reachBad] at e
    simp only [Bool.or_eq_false_iff, decide_eq_false_iff_not] at e
    omega
  clear hbad e
  (repeat (first | refine V_run ?_ | refine fV_ld1 ?_))
  refine iV_ms (by omega) (by omega) ?_
  intro bs w5 hbs hS5
  rw [zerosB_eq] at hS5
  clear hS4
  (repeat (refine fV_ldN ?_))
  refine CV_fn0 (fun hle => roots_of ((hc.mono hzc).mono hle) hbd.2.1) ?_
  rintro z6 B6 w6 v6 hz6 hS6 ho6
  have hrl : (rootsM c).length ≤ 3001 := Nat.le_trans rootsK_le (by omega)
  obtain ⟨av6, cv6, rfl, _⟩ := ho6.form
  refine iV_al ?_
  intro b4 w7 hb4 hS7
  clear hS5 hS6
  (repeat (refine iU_st ?_; intro _ _))
  rename_i w8 hS8
  have hS9 := hS8.keep [.at bs, .at b4, .bl B6]
  clear hS7 hS8
  have hz6' := hz4'.trans hz6
  refine LoopG1 (fun (p : Nat × RcM × List Nat) x w' => marks x = p.2.2 ∧ reachM c = runR c p.1 p.2.1 ∧ meaR p.2.1 < p.1 ∧ InvR c.ins.length p.2.1 ∧ ∃ B' v' z', Le z6 z' ∧ OwnSl 3 1 B' v' p.2.1.open_.length (intsV p.2.1.open_) ∧ Res w1 zc [] w' z' ((bs, .cells (boolsV p.2.1.set).toArray 4 (0, 0)) :: (b4, .cells [v'].toArray 45 (0, 0)) :: (B' ++ markB p.2.2))) (fun p => p.1) ((rootsM c).length + 3 * c.ins.length + 1, ⟨List.replicate c.ins.length false, rootsM c⟩, [])
    ⟨rfl, hrm, by simp [meaR], ⟨by simp, rootsM_lt hbd.2.2, by simp; omega⟩, B6, _, z6, Le.refl _, ho6, hS9⟩ ?_
  rintro I M ⟨f, r, rs⟩ x w10 m ⟨hmx, hrun, hmea, hinv, B10, v10, z10, hz10, ho, hS10⟩ back
  simp only at hmx hrun hmea hinv ho hS10
  obtain ⟨s, op⟩ := r
  simp only at ho hS10
  clear hS9 ho6
  have hf : f = (f - 1) + 1 := by omega
  have hlen : s.length = c.ins.length := hinv.len
  have hsz := hinv.size
  simp only at hsz
  rcases List.eq_nil_or_concat op with rfl | ⟨l, a, rfl⟩
  · obtain ⟨av, cv, rfl, _⟩ := ho.form
    (repeat (first | refine V_run ?_ | refine iV_ld1 ?_ | refine Cond_f ?_))
    rw [hmx]
    refine iTakes rs (hS10.bring (markB rs)) ?_
    intro w11 hS11
    have hS12 := hS11.bringB bs
    obtain ⟨z13, hz13, hS13, hv⟩ := Res.freezeSl (E := El.bool) (e := 4) (B := [(bs, _)]) (v := .slice (some ⟨bs, 0, none⟩) s.length s.length) (xs := s) (f := fun x => [Value.bool x]) hS12 ⟨by rw [boolsV_flat, boolsV_len]; exact (Nat.mul_one _).symm, .inr ⟨bs, s.length, [], by rw [boolsV_flat, List.append_nil], rfl, Nat.le_refl _, by simp only [maxLen]; omega, by rw [boolsV_flat, List.append_nil, boolsV_len]; exact (Nat.mul_one _).symm⟩⟩ (by simp only [big]; omega) (fun _ => rfl) (fun z x _ => rfl)
    rw [hlen] at hv
    refine hR _ _ _ _ hS13 ?_
    rw [hrun, hf]
    exact hv
  · rw [List.concat_eq_append] at *
    obtain ⟨hip, hmp, hlt⟩ := popR hinv
    simp only [List.length_append, List.length_singleton, intsV_append] at ho
    obtain ⟨bo, cap, C, rfl, hcap, rfl, hC, ho2⟩ := OwnSl.pop (u := .int .i64 (a : Int)) ho
    obtain ⟨C, rfl⟩ : ∃ D : List Value, C = D.toArray := ⟨C.toList, by simp⟩
    simp only [List.cons_append, List.nil_append] at hS10
    have e0 : ((l.length + 1 : Nat) : Int) - 1 = (l.length : Int) := by omega
    simp only [List.length_append, List.length_singleton] at hsz
    haveI : InI (((l.length + 1 : Nat) : Int) - 1) := ⟨by omega⟩
    haveI : InR (l.length : Int) ((l.length + 1 : Nat) : Int) := ⟨by omega, by omega⟩
    haveI : InR (l.length : Int) ((cap : Int) + 1) := ⟨by omega, by omega⟩
    haveI : Get C ((l.length : Int).toNat * 1) (.int .i64 (a : Int)) := ⟨by simpa using hC⟩
    haveI : InR (a : Int) (c.ins.length : Nat) := ⟨by omega, by omega⟩
    have e1 : (a : Int).toNat * 1 = a := by omega
    haveI : Get (boolsV s) ((a : Int).toNat * 1) (.bool (s.getD a false)) := ⟨by rw [e1, boolsV, List.getElem?_map, List.getD_eq_getElem?_getD, List.getElem?_eq_getElem (by omega)]; rfl⟩
    haveI : SetN (boolsV s) ((a : Int).toNat * 1) [.bool true] (boolsV (s.set a true)) := by
      have := SetN.at_ (l := boolsV s) (k := a) (u := .bool true) (by rw [boolsV_len]; omega)
      rw [e1, show boolsV (s.set a true) = (boolsV s).set a (.bool true) by simp [boolsV, List.map_set]]; exact this
    have hrun2 : runR c f ⟨s, l ++ [a]⟩ = runR c (f - 1) (stepR c ⟨s, l⟩ a) := by
      rw [hf]
      simp only [runR, List.getLast?_concat, List.dropLast_concat]
      rfl
    (repeat (first | refine V_run ?_ | refine iV_ld1 ?_))
    refine Cond_d (fun _ => ?_) (fun hn => absurd hn (by omega))
    (repeat (first | refine V_run ?_ | refine iV_ld1 ?_))
    simp only [e0]
    (repeat (first | refine V_run ?_ | refine iV_ld1 ?_))
    simp only [e0]
    (repeat (first | refine V_run ?_ | refine iV_ld1 ?_ | (refine iU_st ?_; intro _ _)))
    rename_i w11 hS11
    simp only [Int.toNat_natCast] at hS11
    clear hS10
    refine Cond_b (fun e => ?_) (fun e => ?_)
    · refine back (f - 1, ⟨s, l⟩, rs) _ _ ⟨hmx, ?_, by simp only; omega, hip, [(bo, .cells C.toArray 3 (0, 0))], _, z10, hz10, ho2, hS11⟩ (by simp only; omega)
      rw [hrun, hrun2, stepR, if_pos e]
    · have hst : stepR c ⟨s, l⟩ a = ⟨s.set a true, l ++ toL c a⟩ := by rw [stepR, if_neg (by rw [e]; simp)]
      obtain ⟨hin2, hme2⟩ := stepR_inv (c := c) hip hlt
      rw [hst] at hin2 hme2
      have hi2 : c.ins[a]? = some (insAt c a) := by rw [insAt, List.getD_eq_getElem?_getD, List.getElem?_eq_getElem hlt]; rfl
      (repeat (first | refine V_run ?_ | (refine iU_st ?_; intro _ _) | refine fV_ldN ?_))
      refine CV_1 leads_of ?_
      rintro z12 w12 v12 hz12 hS12 ⟨bl1, bl2, rfl, hbl1, hbl2⟩
      clear hS11
      intro lp r0 l0 w13 hnew hyp
      have hS13 := hS12.rf hnew
      clear hS12 hnew
      have hO := hS13.self
      have hll : (toL c a).length = (leadsM c.ins.length a (insAt c a)).length := by simp [toL]
      have htl := @toL_len c a
      have hll2 := hin2.size
      refine leads_gen (i := insAt c a) hO (h6.mono (hzc.trans (hz6'.trans (hz10.trans hz12)))) hbl1 hbl2 hi2
        (fun k z' L' => ∃ v B, OwnSl 3 1 B v (l ++ (toL c a).take k).length (intsV (l ++ (toL c a).take k)) ∧ L' = (l0, lobj lp .ready none) :: (r0, .deferred (some [])) :: (bs, .cells (boolsV (s.set a true)).toArray 4 (0, 0)) :: (b4, .cells [v].toArray 45 (0, 0)) :: (B ++ markB rs))
        (fun _ _ => False) (fun _ _ _ _ _ h => h) ⟨_, [(bo, .cells C.toArray 3 (0, 0))], by rw [List.take_zero, List.append_nil]; exact ho2, rfl⟩ ?_ ?_ ?_
      · rintro k y b hk z14 w14 G _ K' hz14 hS14 ⟨v, B, ho3, rfl⟩ back' fail
        have hkl := (List.getElem?_eq_some_iff.1 hk).1
        have hk2 : k < (toL c a).length := by omega
        have hky : (toL c a)[k] = y := by simp only [toL, List.getElem_map, (List.getElem?_eq_some_iff.1 hk).2]
        obtain ⟨av, cv, rfl, _⟩ := ho3.form
        refine hyp _ _ _ _ ?_ (Res.at_ (b := l0) hS14)
        refine iBegin ?_
        intro w15 hS15
        clear hS14
        have hlk : (l ++ (toL c a).take k).length ≤ l.length + 2 := by rw [List.length_append, List.length_take]; omega
        (repeat (refine iV_ld1 ?_))
        refine V_push hS15 ho3 (by simp only [room]; omega) (by simp only [room]; omega) (by decide) ?_
        intro B16 v16 w16 ho16 hS16
        obtain ⟨a16, c16, rfl, _⟩ := ho16.form
        clear hS15
        (repeat (refine iU_st ?_; intro _ _))
        refine iEnd (st := .busy) (pend := none) ?_
        intro w17 hS17
        refine back' _ _ _ ?_ (hS17.perm (perm_mid _ _ [_, _, _, _] _)) ⟨_, B16, ?_, rfl⟩
        · (repeat (exact Le.refl _))
        · have hlen3 : (l ++ List.take k (toL c a) ++ [y]).length = (l ++ List.take k (toL c a)).length + 1 := List.length_append
          rw [← List.take_append_getElem hk2, hky, ← List.append_assoc, hlen3, intsV_append]
          exact ho16
      · rintro z14 w14 _ hz14 hS14 ⟨v, B, ho3, rfl⟩
        rw [← hll, List.take_of_length_le (Nat.le_refl _)] at ho3
        refine iRfEnd (st := .ready) (by intro h; cases h) ?_
        intro w15 hS15
        refine back (f - 1, ⟨s.set a true, l ++ toL c a⟩, r0 :: rs) _ _ ⟨by rw [marks_iface, hmx], by rw [hrun, hrun2, hst], by simp only; omega, hin2, B, v, z14, ?_, ho3, ?_⟩ (by simp only; omega)
        · exact hz10.trans (hz12.trans hz14)
        · have hS16 := (hS13.comp hS15).keep [.at bs, .at b4, .bl B, .at r0, .bl (markB rs)]
          simpa [markB] using hS16
      · intro _ _ _ _ _ hf
        exact hf.elim)
end Go.Proofs.YtbeelfopmkbllaaGreatDoor
end

section
/- The operands of an instruction, as a loop over a function. -/
set_option linter.unusedVariables false
set_option linter.unusedSimpArgs false
set_option maxRecDepth 20000
set_option synthInstance.maxHeartbeats 4000000
set_option synthInstance.maxSize 20000
set_option maxHeartbeats 1000000
namespace Go.Proofs.YtbeelfopmkbllaaGreatDoor
open Go Q Go.RowKit

/-- The kind of an operand, those asked for by themselves told. -/
def kindM (i : InsM) (k : Int) : Int :=
  if ((i.op = 12 ∨ i.op = 21) ∧ k = 0) ∨ (i.op = 19 ∧ k = 1 ∧ i.a = 1) then 2 else if i.op = 22 ∧ k = 2 then 8 else if k = 0 then (formAt i.op).k0 else if k = 1 then (formAt i.op).k1 else (formAt i.op).k2
theorem JGIe {w0 : World} {z0 z : Z} {B0 L : Bl} {x y : Int} {rest : Value → World → Prop} {body : (List Value → World → Prop) → Prop} [g : PG (Value.int .i64) body w0 z0 B0 z L x] (hx : x = y) (h : ∀ z' w', Le z z' → Res w0 z0 B0 w' z' L → rest (.int .i64 y) w') : ∀ K : List Value → World → Prop, (∀ t w, (∀ _ : Env, rest t w) → K [t] w) → body K := by subst hx; exact JGI h
theorem operands_of {z : Z} {w : World} {p : Option Addr} : Fn1 61 #[.pointer p] z w fun z' r => ∃ b1, r = .func (.func 172) #[] #[.pointer (some ⟨b1, 0, none⟩)] ∧ At z' b1 0 [.pointer p] := Fn1.intro fun hS => en61 (by
  unfold vc61
  refine iV_bx ?_
  intro b1 w1 hb1 hS1
  obtain ⟨z3, hz3, hS3, h3⟩ := hS1.frz b1
  exact ⟨_, _, hS3, b1, rfl, h3⟩)
theorem operands_gen {z : Z} {w : World} {L : Bl} {b1 bb : Nat} {yv : Value} {K : Value → World → Prop} {i : InsM} (hS : Res w z ((bb, .cells i.cells.toArray 38 (0, 0)) :: L) w z ((bb, .cells i.cells.toArray 38 (0, 0)) :: L)) (g1 : At z b1 0 [.pointer (some ⟨bb, 0, none⟩)])
    (J : Int → InsM → Z → Bl → Prop) (hm : ∀ k i' z' z'' L', Le z' z'' → J k i' z' L' → J k i' z'' L') (h0 : J 0 i z L)
    (body : ∀ k : Int, 0 ≤ k → k < 3 → ∀ i' z' w' G L' (K' : Value → World → Prop), i'.op = i.op → Le z z' → Res w z ((bb, .cells i.cells.toArray 38 (0, 0)) :: L) w' z' (G ++ ((bb, .cells i'.cells.toArray 38 (0, 0)) :: L')) → J k i' z' L' →
      (∀ i'' z'' w'' L'', i''.op = i.op → Le z' z'' → Res w z ((bb, .cells i.cells.toArray 38 (0, 0)) :: L) w'' z'' (G ++ ((bb, .cells i''.cells.toArray 38 (0, 0)) :: L'')) → J (k + 1) i'' z'' L'' → K' (.bool true) w'') → CV yv #[.int .i64 (kindM i' k), .pointer (some ⟨bb, k.toNat + 1, none⟩)] w' K')
    (hend : ∀ i' z' w' L', i'.op = i.op → Le z z' → Res w z ((bb, .cells i.cells.toArray 38 (0, 0)) :: L) w' z' ((bb, .cells i'.cells.toArray 38 (0, 0)) :: L') → J 3 i' z' L' → K (.tuple #[]) w') :
    CE (.func (.func 172) #[] #[.pointer (some ⟨b1, 0, none⟩)]) #[yv] w K := by
  refine CE_fn (args' := #[yv, .pointer (some ⟨b1, 0, none⟩)]) (by simp) (en172 ?_)
  unfold vc172
  haveI : Fz z b1 0 [.pointer (some ⟨bb, 0, none⟩)] := ⟨g1⟩
  refine fV_ld1 ?_
  refine NilW_some ?_
  refine iV_ldN ?_
  refine CV_pu ?_
  intro z5 w5 hz5 hS5
  refine V_run ?_
  refine V_run ?_
  refine iV_al ?_
  intro b3 w6 hb3 hS6
  refine iU_st ?_
  intro w7 hS7
  clear hS5 hS6
  (repeat (first | (refine iDr ?_; intro _ _) | refine PV_run ?_ | refine fHV_ld1 ?_))
  rename_i w8 hS8
  clear hS7
  refine LoopG1 (fun (p : Int × InsM) x w' => x = .int .i64 p.1 ∧ 0 ≤ p.1 ∧ p.1 ≤ 3 ∧ p.2.op = i.op ∧ ∃ z' L', Le z z' ∧ Res w z ((bb, .cells i.cells.toArray 38 (0, 0)) :: L) w' z' ((b3, .cells (formAt i.op).cells.toArray 102 (0, 0)) :: (bb, .cells p.2.cells.toArray 38 (0, 0)) :: L') ∧ J p.1 p.2 z' L') (fun p => (3 - p.1).toNat) (0, i) ⟨rfl, by simp, by simp, rfl, z5, L, hz5, hS8, hm _ _ _ _ _ hz5 h0⟩ ?_
  rintro I M ⟨k, i'⟩ x w9 m ⟨rfl, gp, g3, ho, z9, L9, hz9, hS9, hJ⟩ back
  simp only at gp g3 ho hS9 hJ
  clear hS8 hS
  refine V_run ?_
  have hkk : k = 0 ∨ k = 1 ∨ k = 2 ∨ k = 3 := by omega
  rcases hkk with rfl | rfl | rfl | rfl
  · refine Cond_is rfl ?_
    dsimp only
    (repeat (first | refine V_run ?_ | refine iV_ld1 ?_))
    intro Kq hKq
    have main : ∀ kd z11 w11, Le z9 z11 → Res w z ((bb, .cells i.cells.toArray 38 (0, 0)) :: L) w11 z11 ((b3, .cells (formAt i.op).cells.toArray 102 (0, 0)) :: (bb, .cells i'.cells.toArray 38 (0, 0)) :: L9) → kd = kindM i' 0 → Kq [.int .i64 kd] w11 := by
      rintro kd z11 w11 hz11 hS11 rfl
      refine hKq _ _ fun _ => ?_
      have hb := body 0 (by omega) (by omega) i' z11 w11 [(b3, .cells (formAt i.op).cells.toArray 102 (0, 0))] L9 (fun v w' => V (un .not v) w' fun t80 w => CondW t80 (K (.tuple #[]) w) (V (bi .add 3 (.int .i64 0) (.int .i64 1)) w fun t81 w => I [t81] w ∧ M [t81] w < m)) ho (hz9.trans hz11) hS11 (hm _ _ _ _ _ hz11 hJ)
        (fun i'' z'' w'' L'' ho'' hz'' hS'' hJ'' => by
          refine V_run ?_
          refine Cond_f ?_
          refine V_run ?_
          exact back (1, i'') _ _ ⟨rfl, by simp, by simp, ho'', z'', L'', (hz9.trans hz11).trans hz'', hS'', hJ''⟩ (by simp))
      exact hb
    clear hKq back
    intro Kr hKr
    have main2 : ∀ b z11 w11, Le z9 z11 → Res w z ((bb, .cells i.cells.toArray 38 (0, 0)) :: L) w11 z11 ((b3, .cells (formAt i.op).cells.toArray 102 (0, 0)) :: (bb, .cells i'.cells.toArray 38 (0, 0)) :: L9) → b = decide (((i'.op = 12 ∨ i'.op = 21) ∧ (0 : Int) = 0) ∨ (i'.op = 19 ∧ (0 : Int) = 1 ∧ i'.a = 1)) → Kr [.bool b] w11 := by
      rintro b z11 w11 hz11 hS11 rfl
      refine hKr _ _ fun _ => ?_
      clear hS9
      refine Cond_d (fun e => ?_) (fun e => ?_)
      · exact main _ _ _ hz11 hS11 (by rw [kindM, if_pos e])
      · (repeat (first | refine V_run ?_ | refine iV_ld1 ?_ | refine JB ?_ | refine fV_ld1 ?_))
        refine Cond_b (fun e2 => ?_) (fun e2 => ?_)
        · exact main _ _ _ hz11 hS11 (by rw [kindM, if_neg e]; simp only [Bool.cond_eq_ite, decide_eq_true_eq] at e2; simp_all)
        · exact main _ _ _ hz11 hS11 (by rw [kindM, if_neg e]; simp only [Bool.cond_eq_ite, decide_eq_true_eq] at e2; simp_all)
    clear hKr main
    (repeat (first | refine V_run ?_ | refine iV_ld1 ?_ | refine JB ?_ | (refine JGB ?_; intro _ _ _ _) | refine fV_ld1 ?_))
    rename_i z12 w12 hz12 hS12
    have hz12' : Le z9 z12 := by (repeat (assumption))
    clear hS9
    refine Cond_b (fun e => ?_) (fun e => ?_)
    · exact main2 _ _ _ hz12' hS12 (by simp only [Bool.cond_eq_ite, decide_eq_true_eq] at e ⊢; (repeat' split) <;> simp_all)
    · (repeat (first | refine V_run ?_ | refine iV_ld1 ?_ | refine JB ?_ | (refine JGB ?_; intro _ _ _ _) | refine fV_ld1 ?_))
      rename_i z13 w13 hz13 hS13
      have hz13' : Le z9 z13 := by (repeat (first | assumption | refine Le.trans ?_ (by assumption : Le _ _)))
      exact main2 _ _ _ hz13' hS13 (by simp only [Bool.cond_eq_ite, decide_eq_true_eq] at e ⊢; (repeat' split) <;> simp_all)
  · refine Cond_is rfl ?_
    dsimp only
    (repeat (first | refine V_run ?_ | refine iV_ld1 ?_))
    intro Kq hKq
    have main : ∀ kd z11 w11, Le z9 z11 → Res w z ((bb, .cells i.cells.toArray 38 (0, 0)) :: L) w11 z11 ((b3, .cells (formAt i.op).cells.toArray 102 (0, 0)) :: (bb, .cells i'.cells.toArray 38 (0, 0)) :: L9) → kd = kindM i' 1 → Kq [.int .i64 kd] w11 := by
      rintro kd z11 w11 hz11 hS11 rfl
      refine hKq _ _ fun _ => ?_
      have hb := body 1 (by omega) (by omega) i' z11 w11 [(b3, .cells (formAt i.op).cells.toArray 102 (0, 0))] L9 (fun v w' => V (un .not v) w' fun t80 w => CondW t80 (K (.tuple #[]) w) (V (bi .add 3 (.int .i64 1) (.int .i64 1)) w fun t81 w => I [t81] w ∧ M [t81] w < m)) ho (hz9.trans hz11) hS11 (hm _ _ _ _ _ hz11 hJ)
        (fun i'' z'' w'' L'' ho'' hz'' hS'' hJ'' => by
          refine V_run ?_
          refine Cond_f ?_
          refine V_run ?_
          exact back (2, i'') _ _ ⟨rfl, by simp, by simp, ho'', z'', L'', (hz9.trans hz11).trans hz'', hS'', hJ''⟩ (by simp))
      exact hb
    clear hKq back
    intro Kr hKr
    have main2 : ∀ b z11 w11, Le z9 z11 → Res w z ((bb, .cells i.cells.toArray 38 (0, 0)) :: L) w11 z11 ((b3, .cells (formAt i.op).cells.toArray 102 (0, 0)) :: (bb, .cells i'.cells.toArray 38 (0, 0)) :: L9) → b = decide (((i'.op = 12 ∨ i'.op = 21) ∧ (1 : Int) = 0) ∨ (i'.op = 19 ∧ (1 : Int) = 1 ∧ i'.a = 1)) → Kr [.bool b] w11 := by
      rintro b z11 w11 hz11 hS11 rfl
      refine hKr _ _ fun _ => ?_
      clear hS9
      refine Cond_d (fun e => ?_) (fun e => ?_)
      · exact main _ _ _ hz11 hS11 (by rw [kindM, if_pos e])
      · (repeat (first | refine V_run ?_ | refine iV_ld1 ?_ | refine JB ?_ | refine fV_ld1 ?_))
        refine Cond_b (fun e2 => ?_) (fun e2 => ?_)
        · exact main _ _ _ hz11 hS11 (by rw [kindM, if_neg e]; simp only [Bool.cond_eq_ite, decide_eq_true_eq] at e2; simp_all)
        · exact main _ _ _ hz11 hS11 (by rw [kindM, if_neg e]; simp only [Bool.cond_eq_ite, decide_eq_true_eq] at e2; simp_all)
    clear hKr main
    (repeat (first | refine V_run ?_ | refine iV_ld1 ?_ | refine JB ?_ | (refine JGB ?_; intro _ _ _ _) | refine fV_ld1 ?_))
    rename_i z12 w12 hz12 hS12
    have hz12' : Le z9 z12 := by (repeat (assumption))
    clear hS9
    refine Cond_b (fun e => ?_) (fun e => ?_)
    · exact main2 _ _ _ hz12' hS12 (by simp only [Bool.cond_eq_ite, decide_eq_true_eq] at e ⊢; (repeat' split) <;> simp_all)
    · (repeat (first | refine V_run ?_ | refine iV_ld1 ?_ | refine JB ?_ | (refine JGB ?_; intro _ _ _ _) | refine fV_ld1 ?_))
      rename_i z13 w13 hz13 hS13
      have hz13' : Le z9 z13 := by (repeat (first | assumption | refine Le.trans ?_ (by assumption : Le _ _)))
      exact main2 _ _ _ hz13' hS13 (by simp only [Bool.cond_eq_ite, decide_eq_true_eq] at e ⊢; (repeat' split) <;> simp_all)
  · refine Cond_is rfl ?_
    dsimp only
    (repeat (first | refine V_run ?_ | refine iV_ld1 ?_))
    intro Kq hKq
    have main : ∀ kd z11 w11, Le z9 z11 → Res w z ((bb, .cells i.cells.toArray 38 (0, 0)) :: L) w11 z11 ((b3, .cells (formAt i.op).cells.toArray 102 (0, 0)) :: (bb, .cells i'.cells.toArray 38 (0, 0)) :: L9) → kd = kindM i' 2 → Kq [.int .i64 kd] w11 := by
      rintro kd z11 w11 hz11 hS11 rfl
      refine hKq _ _ fun _ => ?_
      have hb := body 2 (by omega) (by omega) i' z11 w11 [(b3, .cells (formAt i.op).cells.toArray 102 (0, 0))] L9 (fun v w' => V (un .not v) w' fun t80 w => CondW t80 (K (.tuple #[]) w) (V (bi .add 3 (.int .i64 2) (.int .i64 1)) w fun t81 w => I [t81] w ∧ M [t81] w < m)) ho (hz9.trans hz11) hS11 (hm _ _ _ _ _ hz11 hJ)
        (fun i'' z'' w'' L'' ho'' hz'' hS'' hJ'' => by
          refine V_run ?_
          refine Cond_f ?_
          refine V_run ?_
          exact back (3, i'') _ _ ⟨rfl, by simp, by simp, ho'', z'', L'', (hz9.trans hz11).trans hz'', hS'', hJ''⟩ (by simp))
      exact hb
    clear hKq back
    intro Kr hKr
    have main2 : ∀ b z11 w11, Le z9 z11 → Res w z ((bb, .cells i.cells.toArray 38 (0, 0)) :: L) w11 z11 ((b3, .cells (formAt i.op).cells.toArray 102 (0, 0)) :: (bb, .cells i'.cells.toArray 38 (0, 0)) :: L9) → b = decide (((i'.op = 12 ∨ i'.op = 21) ∧ (2 : Int) = 0) ∨ (i'.op = 19 ∧ (2 : Int) = 1 ∧ i'.a = 1)) → Kr [.bool b] w11 := by
      rintro b z11 w11 hz11 hS11 rfl
      refine hKr _ _ fun _ => ?_
      clear hS9
      refine Cond_d (fun e => ?_) (fun e => ?_)
      · exact main _ _ _ hz11 hS11 (by rw [kindM, if_pos e])
      · (repeat (first | refine V_run ?_ | refine iV_ld1 ?_ | refine JB ?_ | refine fV_ld1 ?_))
        refine Cond_b (fun e2 => ?_) (fun e2 => ?_)
        · exact main _ _ _ hz11 hS11 (by rw [kindM, if_neg e]; simp only [Bool.cond_eq_ite, decide_eq_true_eq] at e2; simp_all)
        · exact main _ _ _ hz11 hS11 (by rw [kindM, if_neg e]; simp only [Bool.cond_eq_ite, decide_eq_true_eq] at e2; simp_all)
    clear hKr main
    (repeat (first | refine V_run ?_ | refine iV_ld1 ?_ | refine JB ?_ | (refine JGB ?_; intro _ _ _ _) | refine fV_ld1 ?_))
    rename_i z12 w12 hz12 hS12
    have hz12' : Le z9 z12 := by (repeat (assumption))
    clear hS9
    refine Cond_b (fun e => ?_) (fun e => ?_)
    · exact main2 _ _ _ hz12' hS12 (by simp only [Bool.cond_eq_ite, decide_eq_true_eq] at e ⊢; (repeat' split) <;> simp_all)
    · (repeat (first | refine V_run ?_ | refine iV_ld1 ?_ | refine JB ?_ | (refine JGB ?_; intro _ _ _ _) | refine fV_ld1 ?_))
      rename_i z13 w13 hz13 hS13
      have hz13' : Le z9 z13 := by (repeat (first | assumption | refine Le.trans ?_ (by assumption : Le _ _)))
      exact main2 _ _ _ hz13' hS13 (by simp only [Bool.cond_eq_ite, decide_eq_true_eq] at e ⊢; (repeat' split) <;> simp_all)
  · refine Cond_not rfl ?_
    exact hend i' z9 w9 L9 ho hz9 (hS9.sublist (List.sublist_cons_self _ _)) hJ
end Go.Proofs.YtbeelfopmkbllaaGreatDoor
end

section
/- Which operands name what; parts of lists that are used; copies of lists. -/
set_option linter.unusedVariables false
set_option linter.unusedSimpArgs false
set_option maxRecDepth 20000
set_option synthInstance.maxHeartbeats 4000000
set_option synthInstance.maxSize 20000
set_option maxHeartbeats 1000000
namespace Go.Proofs.YtbeelfopmkbllaaGreatDoor
open Go Q Go.RowKit

/-! ### Maps that are nil -/
instance {r : Option Nat} {x y : Operand} : Run (eq .neq 115 x y (.map r) (.map none)) (.bool r.isSome) := ⟨fun w => by
  have h : ∀ d : Nat, (Op.equalIn (d + 1) 115 (.map r) (.map none)).run Tryz.prog w = .ok r.isNone w := fun d => by
    have hu : ∀ w, (underlying 115).run Tryz.prog w = .ok (.map 3 4) w := fun _ => by kernel_rfl
    simp only [Op.equalIn, Sem.run_bind, hu, Result.andThen_ok]
    cases r <;> rfl
  have := h 9999
  simp only [eq, eqGuard, binOp, Op.equal, Op.maxDepth, Sem.run_bind]
  simp [this]⟩
/-- The class of an operand: constants, templates, lists; none. -/
def clsM (k : Int) : Int := if k = 2 ∨ k = 3 ∨ k = 4 ∨ k = 5 ∨ k = 6 ∨ k = 7 ∨ k = 8 then 1 else if k = 10 then 2 else if k = 11 ∨ k = 12 then 3 else 0
def ofR (k : Int) (a b c : Nat) : Option Nat := if clsM k = 1 then some a else if clsM k = 2 then some b else if clsM k = 3 then some c else none
instance {k : Int} {a b c : Nat} : Pu 62 #[.agg [.map (some a), .map (some b), .map (some c)].toArray, .int .i64 k] (.map (ofR k a b c)) := ⟨fun z w => fnW en62 (fun hS R => by unfold vc62; exact inferInstance) (by
  unfold ofR clsM
  simp only [Bool.cond_eq_ite, decide_eq_true_eq]
  (repeat' split) <;> simp_all)⟩
theorem zV_lkS {w0 w : World} {z0 z : Z} {B0 L : Bl} {K : Value → World → Prop} [hS : Res w0 z0 B0 w z L] {m : Nat} {S : List Int} {n : Int} {zm : Z} (hm : zm m = some (mK (Value.int .i64) (setK S))) (hz : Le zm z) (hk : K (.bool (memK S n)) w) : V (lk 115 (.map (some m)) (.int .i64 n) false) w K := by
  refine ⟨_, w, run_lkK (k := 3) (e := 4) (mk := Value.int .i64) (zv := .bool false) (hS.sub _ _ (hz _ _ hm)) (fun _ => by kernel_rfl) false, ?_⟩
  rw [if_neg (by simp), getK_set]
  cases h : memK S n <;> rw [h] at hk <;> exact hk
/-! ### Parts of lists -/
def vcSift (S T : Nat) (R : Value → World → Prop) (w : World) (t0 t1 : Value) : Prop :=
 V (mm 124 none) w fun t10 w =>
 U (mu 124 t10 (.int .i64 (-1)) (.int .i64 (-1))) w fun w =>
 V (Builtin.len_ #[S] 3 #[t0]) w fun t13 w =>
 ∃ (I0 : List Value → World → Prop) (M0 : List Value → World → Nat), I0 [(.slice none 0 0), (.int .i64 0)] w ∧ ∀ g : Env, ∀ t6, ∀ t14, ∀ w, I0 [t6, t14] w → ∀ m0, m0 = M0 [t6, t14] w →
 V (bi .lss 3 t14 t13) w fun t15 w =>
 CondW t15
 (∀ K0 : List Value → World → Prop, (∀ t6a, ∀ w, (∀ g : Env,
 V (bi .add 3 t14 (.int .i64 1)) w fun t30 w =>
 I0 [t6a, t30] w ∧ M0 [t6a, t30] w < m0) → K0 [t6a] w) →
 V (ia S t0 t14) w fun t17 w =>
 V (ld T t17) w fun t18 w =>
 V (lk 115 t1 t14 false) w fun t21 w =>
 CondW t21
 (V (Builtin.len_ #[S] 3 #[t6]) w fun t25 w =>
 U (mu 124 t10 t14 t25) w fun w =>
 V (bs S 1 #[(0, t18)]) w fun t28 w =>
 V (Builtin.append_ #[S, S] S #[t6, t28]) w fun t29 w =>
 K0 [t29] w)
 (K0 [t6] w))
 (R (.tuple #[t6, t10]) w)
def keptI (S : List Int) (n : Nat) : List Nat := (List.range n).filter fun i => memK S (i : Int)
theorem keptI_succ {S : List Int} {n : Nat} : keptI S (n + 1) = keptI S n ++ (if memK S (n : Int) = true then [n] else []) := by
  unfold keptI
  rw [List.range_succ, List.filter_append]
  cases h : memK S (n : Int) <;> simp [h]
theorem keptI_len {S : List Int} {n : Nat} : (keptI S n).length ≤ n := by
  have := List.length_filter_le (fun i : Nat => memK S (i : Int)) (List.range n)
  rw [List.length_range] at this; exact this
/-- The new index of an element. -/
def posK (S : List Int) (k : Nat) (n : Int) : Option Value := if n = -1 then some (.int .i64 (-1)) else if 0 ≤ n ∧ n < k ∧ memK S n = true then some (.int .i64 ((keptI S n.toNat).length : Int)) else none
/-- The cells of what is kept. -/
structure KeptR {α : Type} (E : El α) (z : Z) (xs : List α) (ks : List Nat) (us : List Value) : Prop where
  len : us.length = ks.length
  one : ∀ u ∈ us, isOne u = true
  at_ : ∀ (j : Nat) i, ks[j]? = some i → ∃ u x, us[j]? = some u ∧ xs[i]? = some x ∧ E.rel z [u] x
theorem KeptR.mono {α : Type} {E : El α} {z z' : Z} {xs : List α} {ks : List Nat} {us : List Value} (h : KeptR E z xs ks us) (hz : Le z z') : KeptR E z' xs ks us :=
  ⟨h.len, h.one, fun j i hi => let ⟨u, x, h1, h2, h3⟩ := h.at_ j i hi; ⟨u, x, h1, h2, E.mono h3 hz⟩⟩
theorem sift_ok {α : Type} {E : El α} {S T bytes fi : Nat} [g : TyApp S T 1 bytes] [gs : TySlice S T 1] [gz : TyFill T 1] [go : TyOne T] (hE : E.size = 1) (hone : ∀ z cs x, E.rel z cs x → ∃ u, cs = [u] ∧ isOne u = true) (hbytes : bytes ≤ 1000)
    (h1 : ∀ {R : Value → World → Prop} {w : World} {t0 t1 : Value}, vcSift S T R w t0 t1 → Calls Tryz.prog fi #[t0, t1] w (retK R)) {z : Z} {w : World} {v : Value} {xs : List α} {m : Nat} {St : List Int} (hx : SlR E z v xs) (hm : z m = some (mK (Value.int .i64) (setK St))) (hl : xs.length ≤ 1000000) :
    Fn fi #[v, .map (some m)] z [] w fun z' B' r => ∃ sl mp Bs l us, r = .tuple #[sl, .map (some mp)] ∧ B' = Bs ++ [(mp, mK (Value.int .i64) l)] ∧ OwnSl T 1 Bs sl (keptI St xs.length).length us ∧ KeptR E z' xs (keptI St xs.length) us ∧ ∀ n, getK l n = posK St xs.length n := Fn.intro fun hS => h1 (by
  unfold vcSift
  obtain ⟨_, a, cap, rfl, _, hel⟩ := hx.form
  refine kV_mm (mk := Value.int .i64) ?_
  intro mp w1 hmp hS1
  refine kU_mu (mk := Value.int .i64) ?_
  intro w2 hS2
  clear hS hS1
  refine V_run ?_
  refine LoopG2 (fun (k : Nat) x y w' => y = .int .i64 k ∧ k ≤ xs.length ∧ ∃ z' Bs l us, Le z z' ∧ OwnSl T 1 Bs x (keptI St k).length us ∧ KeptR E z' xs (keptI St k) us ∧ (∀ n, getK l n = posK St k n) ∧ Res w z [] w' z' (Bs ++ [(mp, mK (Value.int .i64) l)])) (fun k => xs.length - k) 0
    ⟨rfl, by omega, z, [], _, [], Le.refl _, OwnSl.nil, ⟨rfl, by simp, fun j i hi => by simp [keptI] at hi⟩, fun n => ?_, hS2⟩ ?_
  · rw [getK_up, getK_nil, posK]
    by_cases e : n = -1
    · rw [if_pos e, if_pos e]
    · rw [if_neg e, if_neg e, if_neg (by omega)]
  rintro I M k x y w3 mm_ ⟨rfl, hk, z3, Bs, l, us, hz3, ho, hkr, hlk, hS3⟩ back
  clear hS2
  obtain ⟨ax, cx, rfl, _⟩ := ho.form
  refine V_run ?_
  refine Cond_d (fun h => ?_) (fun h => ?_)
  · have hlt : k < xs.length := by omega
    obtain ⟨b, off, cs, rfl, hr, hat⟩ := hel _ _ (List.getElem?_eq_getElem hlt)
    obtain ⟨u, rfl, hu1⟩ := hone _ _ _ hr
    haveI : InR (k : Int) xs.length := ⟨by omega, by omega⟩
    haveI : InI ((k : Int) + 1) := ⟨by omega⟩
    intro K hK
    refine V_run ?_
    refine zV_ld1 (v := u) (by have := hat.mono hz3; rw [hE] at this; simpa using this) ?_
    refine zV_lkS hm hz3 ?_
    have hkl := @keptI_len St k
    refine Cond_b (fun e => ?_) (fun e => ?_)
    · refine V_run ?_
      refine kU_mu (mk := Value.int .i64) ?_
      intro w4 hS4
      haveI : CellsOf u [u] := ⟨by cases u <;> first | rfl | (cases hu1; done)⟩
      haveI : Ones [u] := ⟨fun v hv => by simp at hv; subst hv; exact hu1⟩
      have hbb : ((keptI St k).length + 1) * bytes ≤ 1000000 * 1000 := Nat.mul_le_mul (by omega) hbytes
      refine V_push hS4 ho (by simp only [room]; omega) (by simp only [room]; omega) (by decide) ?_
      intro B5 v5 w5 ho5 hS5
      refine hK _ _ fun _ => ?_
      refine V_run ?_
      have hks : keptI St (k + 1) = keptI St k ++ [k] := by rw [keptI_succ, if_pos e]
      refine back (k + 1) _ _ _ ⟨by simp, by omega, z3, B5, _, us ++ [u], hz3, by rw [hks, List.length_append]; exact ho5, ⟨by rw [hks]; simp [hkr.len], fun v hv => ?_, fun j i hi => ?_⟩, fun n => ?_, hS5⟩ (by omega)
      · rcases List.mem_append.1 hv with hv | hv
        · exact hkr.one v hv
        · simp at hv; subst hv; exact hu1
      · rw [hks] at hi
        by_cases hj : j < (keptI St k).length
        · rw [List.getElem?_append_left hj] at hi
          obtain ⟨u', x', g1, g2, g3⟩ := hkr.at_ j i hi
          exact ⟨u', x', by rw [List.getElem?_append_left (List.getElem?_eq_some_iff.1 g1).1]; exact g1, g2, g3⟩
        · have hj2 : j = (keptI St k).length := by
            have := (List.getElem?_eq_some_iff.1 hi).1
            simp at this; omega
          subst hj2
          rw [List.getElem?_append_right (Nat.le_refl _), Nat.sub_self] at hi
          simp at hi
          subst hi
          exact ⟨u, xs[k], by rw [List.getElem?_append_right (by rw [hkr.len]; exact Nat.le_refl _), hkr.len, Nat.sub_self]; rfl, List.getElem?_eq_getElem hlt, E.mono hr hz3⟩
      · rw [getK_up, hlk n, posK, posK]
        by_cases e1 : n = (k : Int)
        · subst e1
          rw [if_pos rfl, if_neg (by omega), if_pos ⟨by omega, by omega, e⟩, Int.toNat_natCast]
        · rw [if_neg e1]
          by_cases e2 : n = -1
          · rw [if_pos e2, if_pos e2]
          · rw [if_neg e2, if_neg e2]
            by_cases e3 : 0 ≤ n ∧ n < k ∧ memK St n = true
            · rw [if_pos e3, if_pos ⟨e3.1, by omega, e3.2.2⟩]
            · rw [if_neg e3, if_neg (fun c => e3 ⟨c.1, by omega, c.2.2⟩)]
    · refine hK _ _ fun _ => ?_
      refine V_run ?_
      have hks : keptI St (k + 1) = keptI St k := by rw [keptI_succ, if_neg (by rw [e]; simp), List.append_nil]
      refine back (k + 1) _ _ _ ⟨by simp, by omega, z3, Bs, l, us, hz3, by rw [hks]; exact ho, by rw [hks]; exact hkr, fun n => ?_, hS3⟩ (by omega)
      rw [hlk n, posK, posK]
      by_cases e2 : n = -1
      · rw [if_pos e2, if_pos e2]
      · rw [if_neg e2, if_neg e2]
        by_cases e3 : 0 ≤ n ∧ n < k ∧ memK St n = true
        · rw [if_pos e3, if_pos ⟨e3.1, by omega, e3.2.2⟩]
        · rw [if_neg e3, if_neg (fun c => e3 ⟨c.1, by
            have : n ≠ k := fun c2 => by rw [c2, e] at c; simp at c
            omega, c.2.2⟩)]
  · have hk2 : k = xs.length := by omega
    subst hk2
    exact ⟨_, _, hS3, _, mp, Bs, l, us, rfl, rfl, ho, hkr, hlk⟩)
/-! ### Copies of lists -/
def vcClone (S : Nat) (R : Value → World → Prop) (w : World) (t0 : Value) : Prop :=
 V (eq .eql S (.tmp 3) (.const (.slice none 0 0)) t0 (.slice none 0 0)) w fun t4 w =>
 CondW t4
 (R (.slice none 0 0) w)
 (V (bs S 0 #[]) w fun t5 w =>
 V (Builtin.append_ #[S, S] S #[t5, t0]) w fun t7 w =>
 R t7 w)
theorem clone_of {α : Type} {E : El α} {S e n bytes fi : Nat} [g : TyApp S e n bytes] [gs : TySlice S e n] [gz : TyFill e n] (hE : E.size = n) (f : α → List Value) (hf : ∀ z cs x, E.rel z cs x → cs = f x) (hr : ∀ z z' cs x, E.rel z cs x → E.rel z' (f x) x) (hn : ∀ x, (f x).length = n) (hone : ∀ x, ∀ u ∈ f x, isOne u = true) (hbytes : bytes ≤ 1000)
    (h1 : ∀ {R : Value → World → Prop} {w : World} {t0 : Value}, vcClone S R w t0 → Calls Tryz.prog fi #[t0] w (retK R)) {z : Z} {w : World} {v : Value} {xs : List α} (hx : SlR E z v xs) (hb : xs.length ≤ 1000000) : Fn1 fi #[v] z w fun z' r => SlR E z' r xs := Fn1.intro fun hS => h1 (by
  unfold vcClone
  have hx' := hx
  obtain ⟨a, cap, rfl, hc, hbig, hel⟩ := hx
  refine V_run ?_
  cases a with
  | none =>
    have : xs = [] := by
      by_cases hn : xs = []
      · exact hn
      · obtain ⟨b, off, h, _⟩ := hel hn; cases h
    subst this
    refine Cond_t ?_
    exact ⟨_, _, hS, SlR.nil⟩
  | some a =>
    refine Cond_f ?_
    refine V_bs rfl (by omega) ?_
    intro b w1 hb1 hS1
    by_cases hne : xs = []
    · subst hne
      refine V_app0 (xs := []) (sp := []) hS1 (by simp) (by simp) (by omega) ?_
      exact ⟨_, _, hS1, some ⟨b, 0, none⟩, 0, rfl, Nat.le_refl _, by simp, fun h => absurd rfl h⟩
    · obtain ⟨b', off, cap', hv, _, hat⟩ := hx'.all f (fun z cs x h => hf z cs x h) hne
      cases hv
      have hpos : 0 < xs.length := List.length_pos_iff.2 hne
      have hbb : (0 + xs.length) * bytes ≤ 1000000 * 1000 := Nat.mul_le_mul (by omega) hbytes
      refine V_app (B := [(b, .cells [].toArray e (0, 0))]) (L := []) (n := 0) (xs := []) (news := xs.flatMap f) hS1 ⟨by simp, .inr ⟨b, 0, [], rfl, rfl, by omega, by simp [maxLen], by simp⟩⟩ (hat.world hS1.sub) (flat_len (f := f) hn xs) (fun u hu => ?_) hpos (by simp only [room]; omega) (by simp only [room]; omega) ?_
      · obtain ⟨x, _, hx⟩ := List.mem_flatMap.1 hu
        exact hone x u hx
      · intro B2 v2 w2 ho2 hS2
        rw [Nat.zero_add, List.nil_append] at ho2
        obtain ⟨z3, hz3, hS3, hv3⟩ := Res.freezeSl (E := E) (e := e) (f := f) hS2 (by rw [hE]; exact ho2) hbig (fun x => by rw [hn, hE]) (fun z' x hm => by
          obtain ⟨j, hj⟩ := List.mem_iff_getElem?.1 hm
          obtain ⟨b3, off3, _, h6⟩ := hel hne
          obtain ⟨cs, h7, _⟩ := h6 j x hj
          exact hr _ _ _ _ h7)
        exact ⟨_, _, hS3, hv3⟩)
theorem cloneParts {z : Z} {w : World} {v : Value} {xs : List PartM} (hx : SlR El.part z v xs) (hb : xs.length ≤ 1000000) : Fn1 67 #[v] z w fun z' r => SlR El.part z' r xs :=
  clone_of (E := El.part) (n := 3) rfl PartM.cells (fun z cs x h => h.1) (fun z z' cs x h => ⟨rfl, h.2⟩) (fun _ => rfl) (fun x u hu => by simp only [PartM.cells, List.mem_cons, List.not_mem_nil, or_false] at hu; rcases hu with rfl | rfl | rfl <;> rfl) (by decide) (fun h => en67 h) hx hb
theorem cloneItems {z : Z} {w : World} {v : Value} {xs : List ItemM} (hx : SlR El.item z v xs) (hb : xs.length ≤ 1000000) : Fn1 68 #[v] z w fun z' r => SlR El.item z' r xs :=
  clone_of (E := El.item) (n := 2) rfl ItemM.cells (fun z cs x h => h.1) (fun z z' cs x h => ⟨rfl, h.2⟩) (fun _ => rfl) (fun x u hu => by simp only [ItemM.cells, List.mem_cons, List.not_mem_nil, or_false] at hu; rcases hu with rfl | rfl <;> rfl) (by decide) (fun h => en68 h) hx hb
theorem cloneStrs {z : Z} {w : World} {v : Value} {xs : List ByteArray} (hx : SlR El.str z v xs) (hb : xs.length ≤ 1000000) : Fn1 69 #[v] z w fun z' r => SlR El.str z' r xs :=
  clone_of (E := El.str) (n := 1) rfl (fun x => [.string x]) (fun z cs x h => h.1) (fun z z' cs x h => ⟨rfl, h.2⟩) (fun _ => rfl) (fun x u hu => by simp only [List.mem_cons, List.not_mem_nil, or_false] at hu; subst hu; rfl) (by decide) (fun h => en69 h) hx hb
theorem siftStrs {z : Z} {w : World} {v : Value} {xs : List ByteArray} {m : Nat} {St : List Int} (hx : SlR El.str z v xs) (hm : z m = some (mK (Value.int .i64) (setK St))) (hl : xs.length ≤ 1000000) :
    Fn 63 #[v, .map (some m)] z [] w fun z' B' r => ∃ sl mp Bs l us, r = .tuple #[sl, .map (some mp)] ∧ B' = Bs ++ [(mp, mK (Value.int .i64) l)] ∧ OwnSl 9 1 Bs sl (keptI St xs.length).length us ∧ KeptR El.str z' xs (keptI St xs.length) us ∧ ∀ n, getK l n = posK St xs.length n :=
  sift_ok (E := El.str) rfl (fun z cs x h => ⟨_, h.1, rfl⟩) (by decide) (fun h => en63 h) hx hm hl
theorem siftTmpls {z : Z} {w : World} {v : Value} {xs : List (List PartM)} {m : Nat} {St : List Int} (hx : SlR (El.sl El.part) z v xs) (hm : z m = some (mK (Value.int .i64) (setK St))) (hl : xs.length ≤ 1000000) :
    Fn 64 #[v, .map (some m)] z [] w fun z' B' r => ∃ sl mp Bs l us, r = .tuple #[sl, .map (some mp)] ∧ B' = Bs ++ [(mp, mK (Value.int .i64) l)] ∧ OwnSl 93 1 Bs sl (keptI St xs.length).length us ∧ KeptR (El.sl El.part) z' xs (keptI St xs.length) us ∧ ∀ n, getK l n = posK St xs.length n :=
  sift_ok (E := El.sl El.part) rfl (fun z cs x h => by
    obtain ⟨v, rfl, hv⟩ := h
    obtain ⟨_, a, k, rfl, _, _⟩ := hv.form
    exact ⟨_, rfl, rfl⟩) (by decide) (fun h => en64 h) hx hm hl
theorem siftLists {z : Z} {w : World} {v : Value} {xs : List (List ItemM)} {m : Nat} {St : List Int} (hx : SlR (El.sl El.item) z v xs) (hm : z m = some (mK (Value.int .i64) (setK St))) (hl : xs.length ≤ 1000000) :
    Fn 65 #[v, .map (some m)] z [] w fun z' B' r => ∃ sl mp Bs l us, r = .tuple #[sl, .map (some mp)] ∧ B' = Bs ++ [(mp, mK (Value.int .i64) l)] ∧ OwnSl 96 1 Bs sl (keptI St xs.length).length us ∧ KeptR (El.sl El.item) z' xs (keptI St xs.length) us ∧ ∀ n, getK l n = posK St xs.length n :=
  sift_ok (E := El.sl El.item) rfl (fun z cs x h => by
    obtain ⟨v, rfl, hv⟩ := h
    obtain ⟨_, a, k, rfl, _, _⟩ := hv.form
    exact ⟨_, rfl, rfl⟩) (by decide) (fun h => en65 h) hx hm hl
end Go.Proofs.YtbeelfopmkbllaaGreatDoor
end

section
/- Trim: the plain model. -/
set_option linter.unusedVariables false
set_option linter.unusedSimpArgs false
set_option maxRecDepth 20000
namespace Go.Proofs.YtbeelfopmkbllaaGreatDoor
open Go Q Go.RowKit

def rcAt (c : CodeM) (i : Nat) : Bool := (reachM c).getD i false
/-- The instructions that can be reached, of the first k. -/
def rK (c : CodeM) (k : Nat) : List Nat := (List.range k).filter (rcAt c)
theorem rK_succ {c : CodeM} {k : Nat} : rK c (k + 1) = rK c k ++ (if rcAt c k = true then [k] else []) := by
  unfold rK
  rw [List.range_succ, List.filter_append]
  cases h : rcAt c k <;> simp [h]
theorem rK_len {c : CodeM} {k : Nat} : (rK c k).length ≤ k := by
  have := List.length_filter_le (rcAt c) (List.range k)
  rw [List.length_range] at this; exact this
def newAt (c : CodeM) (i : Nat) : Int := if rcAt c i = true then ((rK c i).length : Int) else -1
def atV (c : CodeM) (k : Nat) : List Value := (List.range k).map (fun i => Value.int .i64 (newAt c i)) ++ List.replicate (c.ins.length - k) (.int .i64 0)
theorem atV_len {c : CodeM} {k : Nat} (h : k ≤ c.ins.length) : (atV c k).length = c.ins.length := by simp [atV]; omega
theorem atV_set {c : CodeM} {k : Nat} (h : k < c.ins.length) : (atV c k).set k (.int .i64 (newAt c k)) = atV c (k + 1) := by
  unfold atV
  have hl : ((List.range k).map (fun i => Value.int .i64 (newAt c i))).length = k := by simp
  rw [List.set_append_right _ _ (by omega), hl, Nat.sub_self, show c.ins.length - k = (c.ins.length - (k + 1)) + 1 by omega, List.replicate_succ, List.set_cons_zero, List.range_succ, List.map_append, List.append_assoc]
  rfl
def atM (c : CodeM) : List Int := (List.range c.ins.length).map (newAt c)
theorem atV_end {c : CodeM} : atV c c.ins.length = (atM c).flatMap fun x => [Value.int .i64 x] := by
  unfold atV atM
  simp only [Nat.sub_self, List.replicate_zero, List.append_nil]
  generalize List.range c.ins.length = l
  induction l with
  | nil => rfl
  | cons a l ih => simp only [List.map_cons, List.flatMap_cons, ih]; rfl
structure UsM where
  s1 : List Int
  s2 : List Int
  s3 : List Int
def markU (u : UsM) (kind n : Int) : UsM := if clsM kind = 1 then ⟨insK u.s1 n, u.s2, u.s3⟩ else if clsM kind = 2 then ⟨u.s1, insK u.s2 n, u.s3⟩ else if clsM kind = 3 then ⟨u.s1, u.s2, insK u.s3 n⟩ else u
def fldM (i : InsM) (k : Int) : Int := if k = 0 then i.a else if k = 1 then i.b else i.c
def markK (i : InsM) (k : Nat) (u : UsM) : UsM := (List.range k).foldl (fun u (j : Nat) => markU u (kindM i j) (fldM i j)) u
theorem markK_succ {i : InsM} {k : Nat} {u : UsM} : markK i (k + 1) u = markU (markK i k u) (kindM i k) (fldM i k) := by
  unfold markK; rw [List.range_succ, List.foldl_append]; rfl
/-- What the first k instructions use. -/
def usesK (c : CodeM) (k : Nat) : UsM := (rK c k).foldl (fun u j => markK (insAt c j) 3 u) ⟨[], [], []⟩
theorem usesK_succ {c : CodeM} {k : Nat} : usesK c (k + 1) = if rcAt c k = true then markK (insAt c k) 3 (usesK c k) else usesK c k := by
  unfold usesK
  rw [rK_succ, List.foldl_append]
  cases rcAt c k <;> rfl
def usesM (c : CodeM) : UsM := usesK c c.ins.length
def posM (S : List Int) (n : Nat) (i : Int) : Int := if i = -1 then -1 else if 0 ≤ i ∧ i < n ∧ memK S i = true then ((keptI S i.toNat).length : Int) else 0
theorem posK_get {S : List Int} {n : Nat} {i : Int} : (posK S n i).getD (.int .i64 0) = .int .i64 (posM S n i) := by
  unfold posK posM
  split
  · rfl
  · split <;> rfl
def renewM (c : CodeM) (kind n : Int) : Int :=
  if kind = 13 then (atM c).getD n.toNat 0 else if kind = 10 then posM (usesM c).s2 c.tmpls.length n else if kind = 11 ∨ kind = 12 then posM (usesM c).s3 c.lists.length n else if clsM kind = 1 then posM (usesM c).s1 c.consts.length n else n
def setFld (i : InsM) (k n : Int) : InsM := if k = 0 then { i with a := n } else if k = 1 then { i with b := n } else { i with c := n }
def renewK (c : CodeM) (i : InsM) (k : Nat) : InsM := (List.range k).foldl (fun i (j : Nat) => setFld i j (renewM c (kindM i j) (fldM i j))) i
theorem renewK_succ {c : CodeM} {i : InsM} {k : Nat} : renewK c i (k + 1) = setFld (renewK c i k) k (renewM c (kindM (renewK c i k) k) (fldM (renewK c i k) k)) := by
  unfold renewK; rw [List.range_succ, List.foldl_append]; rfl
def newIns (c : CodeM) (i : InsM) : InsM := renewK c i 3
def pickK {α : Type} (xs : List α) (ks : List Nat) : List α := ks.filterMap fun i => xs[i]?
def trimOk (c : CodeM) : CodeM where
  consts := pickK c.consts (keptI (usesM c).s1 c.consts.length)
  tmpls := pickK c.tmpls (keptI (usesM c).s2 c.tmpls.length)
  lists := pickK c.lists (keptI (usesM c).s3 c.lists.length)
  labels := c.labels.map fun s => ⟨s.name, (atM c).getD s.at_.toNat 0⟩
  slots := c.slots
  ins := (rK c c.ins.length).map fun j => newIns c (insAt c j)
def noCode : CodeM := ⟨[], [], [], [], [], []⟩
def trimM (c : CodeM) : CodeM := if (checkM c).1 = 0 then trimOk c else noCode
def trimAt (c : CodeM) : List Int := if (checkM c).1 = 0 then atM c else []
theorem reach_len {c : CodeM} : ∀ (f : Nat) (r : RcM), (∀ a ∈ r.open_, a < r.set.length) → r.set.length = c.ins.length → (runR c f r).length = c.ins.length
  | 0, r, _, h => h
  | f + 1, r, ho, h => by
    unfold runR
    cases hl : r.open_.getLast? with
    | none => exact h
    | some a =>
      simp only
      have hlen : (stepR c ⟨r.set, r.open_.dropLast⟩ a).set.length = c.ins.length := by unfold stepR; split <;> simp [h]
      refine reach_len f _ (fun x hx => ?_) hlen
      rw [hlen]
      unfold stepR at hx
      split at hx
      · have := ho x (List.dropLast_subset _ hx); omega
      · rcases List.mem_append.1 hx with hx | hx
        · have := ho x (List.dropLast_subset _ hx); omega
        · exact toL_lt x hx
theorem reachM_len {c : CodeM} (h : reachBad c = false) : (reachM c).length = c.ins.length := by
  rw [reachM, if_neg (by rw [h]; simp)]
  have hpos : 0 < c.ins.length := by
    rw [reachBad] at h
    simp only [Bool.or_eq_false_iff, decide_eq_false_iff_not] at h
    omega
  refine reach_len _ _ (fun a ha => ?_) (by simp)
  simp only [List.length_replicate]
  exact rootsM_lt hpos a ha
theorem reachBad_ok {c : CodeM} (h1 : limitsM c = true) (h2 : partsM c = true) : reachBad c = false := by
  have := limits_bd h1
  have := parts_pos h2
  rw [reachBad]
  simp only [Bool.or_eq_false_iff, decide_eq_false_iff_not]
  omega
theorem labs_in {n : Nat} : ∀ {l : List SpotM} {last : Int}, 0 ≤ last → (allS (labS n) last l).1 = true → ∀ s ∈ l, 0 ≤ s.at_ ∧ s.at_ < n
  | [], _, _, _, s, hs => by cases hs
  | x :: l, last, h0, h, s, hs => by
    rw [allS_cons, show labS n last x = ((labS n last x).1, (labS n last x).2) from rfl] at h
    cases hx : (labS n last x).1 with
    | false => rw [hx] at h; cases h
    | true =>
      rw [hx] at h
      simp only [labS, Bool.and_eq_true] at hx
      have hin := inB_iff.1 hx.2
      rcases List.mem_cons.1 hs with rfl | hs
      · omega
      · exact labs_in (last := (labS n last x).2) (by simp only [labS]; omega) h s hs
theorem labels_in {c : CodeM} (h : partsM c = true) : ∀ s ∈ c.labels, 0 ≤ s.at_ ∧ s.at_ < c.ins.length := by
  unfold partsM at h
  simp only [Bool.and_eq_true] at h
  exact labs_in (by decide) h.2.2.2.2.1
theorem place_in {c : CodeM} {i i' : InsM} {k : Int} (h : rightM c i = true) (ho : i'.op = i.op) (h0 : k = 0 ∨ k = 1 ∨ k = 2) (hk : kindM i' k = 13) : 0 ≤ fldM i k ∧ fldM i k < c.ins.length := by
  unfold rightM at h
  simp only [Bool.and_eq_true] at h
  have key : ∀ n, goodM c 13 n = true → 0 ≤ n ∧ n < c.ins.length := fun n hn => by
    have : goodM c 13 n = inB n 0 ((c.ins.length : Int) - 1) := by simp [goodM]
    rw [this] at hn
    have := inB_iff.1 hn
    omega
  unfold kindM at hk
  rw [ho] at hk
  split at hk
  · cases hk
  split at hk
  · cases hk
  rcases h0 with rfl | rfl | rfl
  · rw [if_pos rfl] at hk; rw [hk] at h; exact key _ h.2.1
  · rw [if_neg (by decide), if_pos rfl] at hk; rw [hk] at h; exact key _ h.2.2.1
  · rw [if_neg (by decide), if_neg (by decide)] at hk; rw [hk] at h; exact key _ h.2.2.2.1
end Go.Proofs.YtbeelfopmkbllaaGreatDoor
end

section
/- Parts of Trim's formula. -/
set_option linter.unusedVariables false
namespace Go.Proofs.YtbeelfopmkbllaaGreatDoor
open Go Q Go.RowKit

def vcTd (R : Value → World → Prop) (w : World) (t1 t2 t8 t9 t205a : Value) : Prop :=
(V (fa 28 t1 3) w fun t178 w =>
 V (ld 25 t178) w fun t179 w =>
 V (Builtin.len_ #[25] 3 #[t179]) w fun t180 w =>
 ∃ (I4 : List Value → World → Prop) (M4 : List Value → World → Nat), I4 [(.int .i64 0)] w ∧ ∀ g : Env, ∀ t181, ∀ w, I4 [t181] w → ∀ m4, m4 = M4 [t181] w →
 V (bi .lss 3 t181 t180) w fun t182 w =>
 CondW t182
 (V (ia 25 t179 t181) w fun t183 w =>
 V (ld 54 t183) w fun t184 w =>
 V (al 54) w fun t27 w =>
 U (st 54 t27 t184) w fun w =>
 Dr w fun w =>
 PV (fa 28 t9 3) fun t185 =>
 HV (ld 25 t185) w fun t186 =>
 PV (fa 54 t27 0) fun t187 =>
 HV (ld 9 t187) w fun t188 =>
 HV (ld 45 t8) w fun t189 =>
 PV (fa 54 t27 1) fun t190 =>
 HV (ld 3 t190) w fun t191 =>
 PV (ia 45 t189 t191) fun t192 =>
 HV (ld 3 t192) w fun t193 =>
 PV (bd 54 #[(0, t188), (1, t193)]) fun t194 =>
 V (bs 25 1 #[(0, t194)]) w fun t195 w =>
 RunIs (ld 3 t192) w t193 ∧ RunIs (ld 3 t190) w t191 ∧ RunIs (ld 45 t8) w t189 ∧ RunIs (ld 9 t187) w t188 ∧ RunIs (ld 25 t185) w t186 ∧ (V (Builtin.append_ #[25, 25] 25 #[t186, t195]) w fun t196 w =>
 RunIs (ld 3 t192) w t193 ∧ RunIs (ld 3 t190) w t191 ∧ RunIs (ld 45 t8) w t189 ∧ RunIs (ld 9 t187) w t188 ∧ (PV (fa 28 t9 3) fun t197 =>
 U (st 25 t197 t196) w fun w =>
 V (bi .add 3 t181 (.int .i64 1)) w fun t198 w =>
 I4 [t198] w ∧ M4 [t198] w < m4)))
 (V (fa 28 t1 4) w fun t199 w =>
 V (ld 22 t199) w fun t200 w =>
 CV (.func (.func 69) #[] #[]) #[t200] w fun t201 w =>
 V (fa 28 t9 4) w fun t202 w =>
 U (st 22 t202 t201) w fun w =>
 Dr w fun w =>
 HV (ld 28 t9) w fun t203 =>
 HV (ld 45 t8) w fun t204 =>
 U (st 28 t2 t203) w fun w =>
 RunIs (ld 45 t8) w t204 ∧ (TakeW (marks t205a) w fun w =>
 CW 28 t2 w fun t1002 => R (.tuple #[t1002, t204, (.int .i64 0)]) w)))
def vcTc (R : Value → World → Prop) (w : World) (t1 t2 t8 t9 t205a : Value) : Prop :=
(V (fa 28 t9 1) w fun t144 w =>
 V (ld 23 t144) w fun t145 w =>
 V (Builtin.len_ #[23] 3 #[t145]) w fun t146 w =>
 ∃ (I2 : List Value → World → Prop) (M2 : List Value → World → Nat), I2 [(.int .i64 0)] w ∧ ∀ g : Env, ∀ t147, ∀ w, I2 [t147] w → ∀ m2, m2 = M2 [t147] w →
 V (bi .lss 3 t147 t146) w fun t148 w =>
 CondW t148
 (Dr w fun w =>
 PV (fa 28 t9 1) fun t150 =>
 HV (ld 23 t150) w fun t151 =>
 PV (fa 28 t9 1) fun t153 =>
 HV (ld 23 t153) w fun t154 =>
 PV (ia 23 t154 t147) fun t156 =>
 HV (ld 93 t156) w fun t157 =>
 CV (.func (.func 67) #[] #[]) #[t157] w fun t158 w =>
 RunIs (ld 23 t153) w t154 ∧ RunIs (ld 23 t150) w t151 ∧ (PV (ia 23 t151 t147) fun t159 =>
 U (st 93 t159 t158) w fun w =>
 V (bi .add 3 t147 (.int .i64 1)) w fun t160 w =>
 I2 [t160] w ∧ M2 [t160] w < m2))
 (V (fa 28 t9 2) w fun t161 w =>
 V (ld 24 t161) w fun t162 w =>
 V (Builtin.len_ #[24] 3 #[t162]) w fun t163 w =>
 ∃ (I3 : List Value → World → Prop) (M3 : List Value → World → Nat), I3 [(.int .i64 0)] w ∧ ∀ g : Env, ∀ t164, ∀ w, I3 [t164] w → ∀ m3, m3 = M3 [t164] w →
 V (bi .lss 3 t164 t163) w fun t165 w =>
 CondW t165
 (Dr w fun w =>
 PV (fa 28 t9 2) fun t167 =>
 HV (ld 24 t167) w fun t168 =>
 PV (fa 28 t9 2) fun t170 =>
 HV (ld 24 t170) w fun t171 =>
 PV (ia 24 t171 t164) fun t173 =>
 HV (ld 96 t173) w fun t174 =>
 CV (.func (.func 68) #[] #[]) #[t174] w fun t175 w =>
 RunIs (ld 24 t170) w t171 ∧ RunIs (ld 24 t167) w t168 ∧ (PV (ia 24 t168 t164) fun t176 =>
 U (st 96 t176 t175) w fun w =>
 V (bi .add 3 t164 (.int .i64 1)) w fun t177 w =>
 I3 [t177] w ∧ M3 [t177] w < m3))
 (vcTd R w t1 t2 t8 t9 t205a)))
def vcTb (R : Value → World → Prop) (w : World) (t1 t2 t8 t9 t10 t205 : Value) : Prop :=
(V (al 124) w fun t16 w =>
 V (al 124) w fun t17 w =>
 V (al 124) w fun t18 w =>
 V (fa 28 t1 0) w fun t89 w =>
 V (ld 22 t89) w fun t90 w =>
 V (fa 117 t10 0) w fun t91 w =>
 V (ld 115 t91) w fun t92 w =>
 CV (.func (.func 63) #[] #[]) #[t90, t92] w fun t93 w =>
 V (ex t93 0) w fun t94 w =>
 V (ex t93 1) w fun t95 w =>
 V (fa 28 t9 0) w fun t96 w =>
 U (st 22 t96 t94) w fun w =>
 U (st 124 t16 t95) w fun w =>
 V (fa 28 t1 1) w fun t98 w =>
 V (ld 23 t98) w fun t99 w =>
 V (fa 117 t10 1) w fun t100 w =>
 V (ld 115 t100) w fun t101 w =>
 CV (.func (.func 64) #[] #[]) #[t99, t101] w fun t102 w =>
 V (ex t102 0) w fun t103 w =>
 V (ex t102 1) w fun t104 w =>
 V (fa 28 t9 1) w fun t105 w =>
 U (st 23 t105 t103) w fun w =>
 U (st 124 t17 t104) w fun w =>
 V (fa 28 t1 2) w fun t107 w =>
 V (ld 24 t107) w fun t108 w =>
 V (fa 117 t10 2) w fun t109 w =>
 V (ld 115 t109) w fun t110 w =>
 CV (.func (.func 65) #[] #[]) #[t108, t110] w fun t111 w =>
 V (ex t111 0) w fun t112 w =>
 V (ex t111 1) w fun t113 w =>
 V (fa 28 t9 2) w fun t114 w =>
 U (st 24 t114 t112) w fun w =>
 U (st 124 t18 t113) w fun w =>
 V (al 131) w fun t19 w =>
 U (st 131 t19 (.func (.func 66) #[] #[t8, t17, t18, t10, t16])) w fun w =>
 V (fa 28 t9 5) w fun t116 w =>
 V (ld 26 t116) w fun t117 w =>
 V (Builtin.len_ #[26] 3 #[t117]) w fun t118 w =>
 ∃ (I1 : List Value → World → Prop) (M1 : List Value → World → Nat), I1 [t205, (.int .i64 0)] w ∧ ∀ g : Env, ∀ t205a, ∀ t119, ∀ w, I1 [t205a, t119] w → ∀ m1, m1 = M1 [t205a, t119] w →
 V (bi .lss 3 t119 t118) w fun t120 w =>
 CondW t120
 (V (fa 28 t9 5) w fun t122 w =>
 V (ld 26 t122) w fun t123 w =>
 V (ia 26 t123 t119) w fun t125 w =>
 V (ld 38 t125) w fun t126 w =>
 V (al 38) w fun t21 w =>
 U (st 38 t21 t126) w fun w =>
 CV (.func (.func 61) #[] #[]) #[t21] w fun t127 w =>
 ∀ (lp0 : Loop) (r0 l0 : Nat) (w1 : World), NewRF w w1 r0 l0 lp0 →
 (∀ (w : World) (Kl0 : Value → World → Prop), ∀ t128, ∀ t129, (BeginW l0 lp0 w fun w =>
 Dr w fun w =>
 HV (ld 131 t19) w fun t131 =>
 NilW t129 fun t134 => HV (ld 3 t134) w fun t135 =>
 CV t131 #[t128, t135] w fun t136 w =>
 NilW t129 fun t137 => U (st 3 t137 t136) w fun w =>
 EndW l0 lp0 none w Kl0) → w.heap[l0]? = some (lobj lp0 .ready none) → CV (.func (.yield l0) #[] #[]) #[t128, t129] w Kl0) →
 CE t127 #[.func (.yield l0) #[] #[]] w1 fun _ w => RfEnd l0 lp0 w (fun w =>
 V (fa 28 t9 5) w fun t138 w =>
 V (ld 26 t138) w fun t139 w =>
 V (ld 38 t21) w fun t141 w =>
 V (ia 26 t139 t119) w fun t142 w =>
 U (st 38 t142 t141) w fun w =>
 V (bi .add 3 t119 (.int .i64 1)) w fun t143 w =>
 I1 [(.iface r0 t205a), t143] w ∧ M1 [(.iface r0 t205a), t143] w < m1) (fun w =>
 TakeW (marks (.iface r0 t205a)) w fun w =>
 CW 28 t2 w fun t1002 => R (.tuple #[t1002, (.slice none 0 0), (.int .i64 0)]) w) [])
 (vcTc R w t1 t2 t8 t9 t205a))
end Go.Proofs.YtbeelfopmkbllaaGreatDoor
end

section
/- Trim: labels and slots. -/
set_option linter.unusedVariables false
set_option linter.unusedSimpArgs false
set_option maxRecDepth 20000
set_option synthInstance.maxHeartbeats 4000000
set_option synthInstance.maxSize 20000
set_option maxHeartbeats 1000000
namespace Go.Proofs.YtbeelfopmkbllaaGreatDoor
open Go Q Go.RowKit

def TrimR (z : Z) (r : Value) (c : CodeM) : Prop := ∃ cv av, r = .tuple #[cv, av, .int .i64 (checkM c).1] ∧ CodeR z cv (trimM c) ∧ SlR El.int z av (trimAt c)
abbrev nilS : Value := .slice none 0 0
def newLab (c : CodeM) (s : SpotM) : SpotM := ⟨s.name, (atM c).getD s.at_.toNat 0⟩
theorem trimD {R : Value → World → Prop} {z : Z} {w : World} {c : CodeM} {bc b2 b8 b9 : Nat} {x vat v1 v2 v3 v6 : Value} {rs : List Nat} {a1 a2 a3 a4 a5 a6 : Option Addr} {k1 k2 k3 k4 k5 k6 : Nat}
    (hS : Res w z ((b9, .cells [v1, v2, v3, nilS, nilS, v6].toArray 28 (0, 0)) :: (b2, .cells [nilS, nilS, nilS, nilS, nilS, nilS].toArray 28 (0, 0)) :: markB rs) w z ((b9, .cells [v1, v2, v3, nilS, nilS, v6].toArray 28 (0, 0)) :: (b2, .cells [nilS, nilS, nilS, nilS, nilS, nilS].toArray 28 (0, 0)) :: markB rs))
    (hR : ∀ z' w' L' r, Res w z ((b9, .cells [v1, v2, v3, nilS, nilS, v6].toArray 28 (0, 0)) :: (b2, .cells [nilS, nilS, nilS, nilS, nilS, nilS].toArray 28 (0, 0)) :: markB rs) w' z' L' → TrimR z' r c → R r w') (hmx : marks x = rs) (hck : (checkM c).1 = 0)
    (hatc : At z bc 0 (codeVs a1 a2 a3 a4 a5 a6 k1 k2 k3 k4 k5 k6 c)) (h4 : SlR El.spot z (.slice a4 c.labels.length k4) c.labels) (h5 : SlR El.str z (.slice a5 c.slots.length k5) c.slots)
    (hat8 : At z b8 0 [vat]) (hvat : SlR El.int z vat (atM c)) (g1 : SlR El.str z v1 (trimOk c).consts) (g2 : SlR (El.sl El.part) z v2 (trimOk c).tmpls) (g3 : SlR (El.sl El.item) z v3 (trimOk c).lists) (g6 : SlR El.ins z v6 (trimOk c).ins) :
    vcTd R w (.pointer (some ⟨bc, 0, none⟩)) (.pointer (some ⟨b2, 0, none⟩)) (.pointer (some ⟨b8, 0, none⟩)) (.pointer (some ⟨b9, 0, none⟩)) x := by
  obtain ⟨e0, hli, hpa, hri, _, _⟩ := check_ok hck
  have hbd := limits_bd hli
  have hlab := labels_in hpa
  obtain ⟨_, av1, cv1, rfl, _, _⟩ := g1.form
  obtain ⟨_, av2, cv2, rfl, _, _⟩ := g2.form
  obtain ⟨_, av3, cv3, rfl, _, _⟩ := g3.form
  obtain ⟨_, av6, cv6, rfl, _, _⟩ := g6.form
  obtain ⟨_, at_, ct, rfl, _, helt⟩ := hvat.form
  have hatl : (atM c).length = c.ins.length := by simp [atM]
  unfold vcTd
  haveI : Fz z bc 3 [.slice a4 c.labels.length k4] := ⟨hatc.fld (i := 3) rfl rfl⟩
  haveI : Fz z bc 4 [.slice a5 c.slots.length k5] := ⟨hatc.fld (i := 4) rfl rfl⟩
  haveI : Fz z b8 0 [.slice at_ (atM c).length ct] := ⟨hat8⟩
  (repeat (first | refine V_run ?_ | refine fV_ld1 ?_))
  refine LoopG1 (fun (k : Nat) y w' => y = .int .i64 k ∧ k ≤ c.labels.length ∧ ∃ vl Bl z', Le z z' ∧ OwnSl 54 2 Bl vl k ((c.labels.take k).flatMap fun s => (newLab c s).cells) ∧ Res w z ((b9, .cells [.slice av1 (trimOk c).consts.length cv1, .slice av2 (trimOk c).tmpls.length cv2, .slice av3 (trimOk c).lists.length cv3, nilS, nilS, .slice av6 (trimOk c).ins.length cv6].toArray 28 (0, 0)) :: (b2, .cells [nilS, nilS, nilS, nilS, nilS, nilS].toArray 28 (0, 0)) :: markB rs) w' z' ((b9, .cells [.slice av1 (trimOk c).consts.length cv1, .slice av2 (trimOk c).tmpls.length cv2, .slice av3 (trimOk c).lists.length cv3, vl, nilS, .slice av6 (trimOk c).ins.length cv6].toArray 28 (0, 0)) :: (b2, .cells [nilS, nilS, nilS, nilS, nilS, nilS].toArray 28 (0, 0)) :: (Bl ++ markB rs))) (fun k => c.labels.length - k) 0 ⟨rfl, by omega, nilS, [], z, Le.refl _, OwnSl.nil, hS⟩ ?_
  rintro I M k y w1 m ⟨rfl, hk, vl, Bl, z1, hz1, ho, hS1⟩ back
  obtain ⟨avl, cvl, rfl, _⟩ := ho.form
  obtain ⟨_, ai, ki, he, _, hel⟩ := h4.form
  cases he
  (repeat (refine V_run ?_))
  refine Cond_d (fun h => ?_) (fun h => ?_)
  · have hlt : k < c.labels.length := by omega
    haveI : InR (k : Int) (c.labels.length : Nat) := ⟨by omega, by omega⟩
    haveI : InI ((k : Int) + 1) := ⟨by omega⟩
    obtain ⟨b, off, cs, rfl, ⟨rfl, hs⟩, hat⟩ := hel _ _ (List.getElem?_eq_getElem hlt)
    haveI : Fz z b (off + (k : Int).toNat * 2) (c.labels[k].cells) := ⟨hat⟩
    have hin := hlab _ (List.getElem_mem hlt)
    have hal : c.labels[k].at_.toNat < (atM c).length := by omega
    haveI : InR c.labels[k].at_ ((atM c).length : Nat) := ⟨by omega, by omega⟩
    obtain ⟨bt, offt, cst, rfl, rfl, hatt⟩ := helt _ _ (List.getElem?_eq_getElem hal)
    haveI : Fz z bt (offt + c.labels[k].at_.toNat * 1) [.int .i64 (atM c)[c.labels[k].at_.toNat]] := ⟨hatt⟩
    (repeat (first | (refine iDr ?_; intro _ _) | refine V_run ?_ | refine PV_run ?_ | (refine iV_bx ?_; intro _ _ _ _) | (refine iU_st ?_; intro _ _) | refine iHV_1 ?_ | refine fV_ldN ?_ | refine fHV_ld1 ?_))
    refine V_bs (parts := [(0, _)]) rfl (by omega) ?_
    intro bl w3 hbl hS3
    (repeat (first | refine iRI_1 ?_ | refine fRI_1 ?_))
    have hatl2 : At (hp w3) bl 0 (newLab c c.labels[k]).cells := ⟨_, _, _, (hS3.mem _ List.mem_cons_self).1, fun j u hu => by
      have e : (atM c)[c.labels[k].at_.toNat] = (newLab c c.labels[k]).at_ := by rw [newLab, List.getD_eq_getElem?_getD, List.getElem?_eq_getElem hal]; rfl
      simp only [e]
      rw [Nat.zero_add]
      simp only [List.append_nil, List.getElem?_toArray]
      exact hu⟩
    refine V_app (B := Bl) (m := 1) (hS3.bring Bl) ho hatl2 rfl (fun u hu => by simp only [SpotM.cells, List.mem_cons, List.not_mem_nil, or_false] at hu; rcases hu with rfl | rfl <;> rfl) (by omega) (by simp only [room]; omega) (by simp only [room]; omega) ?_
    intro B5 v5 w5 ho5 hS5
    obtain ⟨a5', c5', rfl, _⟩ := ho5.form
    clear hS3
    (repeat (first | refine V_run ?_ | refine PV_run ?_ | (refine iU_st ?_; intro _ _) | refine iRI_1 ?_ | refine fRI_1 ?_))
    rename_i hS6
    have hS7 := hS6.keep [.at b9, .at b2, .bl B5, .bl (markB rs)]
    rw [List.append_nil] at hS7
    refine back (k + 1) _ _ ⟨by simp, by omega, _, B5, _, hz1, ?_, hS7⟩ (by omega)
    rw [← List.take_append_getElem hlt, List.flatMap_append]
    simpa using ho5
  · have hk2 : k = c.labels.length := by omega
    subst hk2
    rw [List.take_of_length_le (Nat.le_refl _)] at ho
    (repeat (first | refine V_run ?_ | refine fV_ld1 ?_))
    rename_i hS2
    refine CV_1 (cloneStrs (h5.mono hz1) (by omega)) ?_
    rintro z3 w3 v5 hz3 hS3 hv5
    obtain ⟨_, a5', c5', rfl, _, _⟩ := hv5.form
    clear hS2 hS1
    (repeat (first | (refine iDr ?_; intro _ _) | refine V_run ?_ | (refine iU_st ?_; intro _ _) | refine iHV_N ?_ | refine fRI_1 ?_ | refine fHV_ld1 ?_))
    rename_i w4 hS4
    rw [hmx]
    refine iTakes rs (hS4.bring (markB rs)) ?_
    intro w6 hS6
    (repeat (refine iHV_N ?_))
    have hS7 := hS6.bring Bl
    obtain ⟨z8, hz8, hS8, hv4⟩ := Res.freezeSl (E := El.spot) (e := 54) (xs := c.labels.map (newLab c)) (f := SpotM.cells) hS7 (by rw [List.flatMap_map, List.length_map]; exact ho) (by rw [List.length_map]; simp only [big]; omega) (fun _ => rfl) (fun z' s hm => by
      obtain ⟨s', hm', rfl⟩ := List.mem_map.1 hm
      obtain ⟨j, hj⟩ := List.mem_iff_getElem?.1 hm'
      obtain ⟨_, _, cs, _, ⟨_, hsz⟩, _⟩ := hel j s' hj
      exact ⟨rfl, hsz⟩)
    have hzz : Le z z8 := by (repeat (exact Res.zle (by assumption)))
    refine hR _ _ _ _ hS8 ⟨_, _, by rw [hck], ⟨_, _, _, _, _, _, rfl, ?_, ?_, ?_, ?_, ?_, ?_⟩, ?_⟩
    · rw [trimM, if_pos hck]; exact g1.mono hzz
    · rw [trimM, if_pos hck]; exact g2.mono hzz
    · rw [trimM, if_pos hck]; exact g3.mono hzz
    · rw [trimM, if_pos hck]; exact hv4
    · rw [trimM, if_pos hck]; exact hv5.mono hz8
    · rw [trimM, if_pos hck]; exact g6.mono hzz
    · rw [trimAt, if_pos hck]; exact hvat.mono hzz
end Go.Proofs.YtbeelfopmkbllaaGreatDoor
end

section
/- Trim: copies of templates and lists. -/
set_option linter.unusedVariables false
set_option linter.unusedSimpArgs false
set_option maxRecDepth 20000
set_option synthInstance.maxHeartbeats 4000000
set_option synthInstance.maxSize 20000
set_option maxHeartbeats 1000000
namespace Go.Proofs.YtbeelfopmkbllaaGreatDoor
open Go Q Go.RowKit

/-- An element of an own slice of one-celled elements. -/
theorem OwnSl.el {e n k : Nat} {B : Bl} {v : Value} {xs : List Value} (h : OwnSl e 1 B v n xs) (hk : k < n) : ∃ (b cap : Nat) (C : List Value), v = .slice (some ⟨b, 0, none⟩) n cap ∧ B = [(b, .cells C.toArray e (0, 0))] ∧ k < C.length ∧ C[k]? = xs[k]? ∧ ∀ u, OwnSl e 1 [(b, .cells (C.set k u).toArray e (0, 0))] v n (xs.set k u) := by
  rcases h.2 with ⟨_, _, h0⟩ | ⟨b, cap, sp, rfl, rfl, h1, h2, h3⟩
  · omega
  · have hxn : xs.length = n := by have := h.1; omega
    refine ⟨b, cap, xs ++ sp, rfl, rfl, by simp; omega, List.getElem?_append_left (by omega), fun u => ⟨by simp [hxn], .inr ⟨b, cap, sp, ?_, rfl, h1, h2, by simp at h3 ⊢; omega⟩⟩⟩
    rw [List.set_append_left _ _ (by omega)]
theorem KeptR.set {α : Type} {E : El α} {z : Z} {xs : List α} {ks : List Nat} {us : List Value} (h : KeptR E z xs ks us) {k i : Nat} {x : α} {u : Value} (hk : ks[k]? = some i) (hx : xs[i]? = some x) (hu : E.rel z [u] x) (h1 : isOne u = true) : KeptR E z xs ks (us.set k u) where
  len := by rw [List.length_set]; exact h.len
  one := fun v hv => by
    rcases List.mem_or_eq_of_mem_set hv with hv | rfl
    · exact h.one v hv
    · exact h1
  at_ := fun j i' hj => by
    by_cases e : k = j
    · subst e
      rw [hk] at hj; cases hj
      have hlt : k < us.length := by rw [h.len]; exact (List.getElem?_eq_some_iff.1 hk).1
      exact ⟨u, x, by rw [List.getElem?_set_self hlt], hx, hu⟩
    · obtain ⟨u', x', g1, g2, g3⟩ := h.at_ j i' hj
      exact ⟨u', x', by rw [List.getElem?_set_ne e]; exact g1, g2, g3⟩
theorem pickK_get {α : Type} {xs : List α} : ∀ {ks : List Nat}, (∀ i ∈ ks, i < xs.length) → (pickK xs ks).length = ks.length ∧ ∀ j : Nat, (pickK xs ks)[j]? = (ks[j]?).bind fun i => xs[i]?
  | [], _ => ⟨rfl, fun j => by simp [pickK]⟩
  | i :: ks, h => by
    have hi : xs[i]? = some (xs[i]'(h i List.mem_cons_self)) := List.getElem?_eq_getElem _
    have he : pickK xs (i :: ks) = xs[i]'(h i List.mem_cons_self) :: pickK xs ks := by unfold pickK; rw [List.filterMap_cons, hi]
    obtain ⟨h1, h2⟩ := @pickK_get _ xs ks (fun j hj => h j (List.mem_cons_of_mem _ hj))
    rw [he]
    refine ⟨by simp [h1], fun j => ?_⟩
    cases j with
    | zero => simp [hi]
    | succ j => simpa using h2 j
/-- What is kept is frozen. -/
theorem freezeKept {α : Type} {E : El α} {w0 w : World} {z0 z : Z} {B0 B L : Bl} {e : Nat} {sl : Value} {xs : List α} {ks : List Nat} {us : List Value} (hE : E.size = 1) (hS : Res w0 z0 B0 w z (B ++ L)) (ho : OwnSl e 1 B sl ks.length us) (hk : KeptR E z xs ks us) (hb : ks.length ≤ big) :
    ∃ z', Le z z' ∧ Res w0 z0 B0 w z' L ∧ SlR E z' sl (pickK xs ks) := by
  have hin : ∀ i ∈ ks, i < xs.length := fun i hi => by
    obtain ⟨j, hj⟩ := List.mem_iff_getElem?.1 hi
    obtain ⟨u, x, _, g2, _⟩ := hk.at_ j i hj
    exact (List.getElem?_eq_some_iff.1 g2).1
  obtain ⟨p1, p2⟩ := pickK_get hin
  rcases ho.2 with ⟨rfl, rfl, h0⟩ | ⟨b, cap, sp, rfl, rfl, h1, h2, h3⟩
  · have : pickK xs ks = [] := List.eq_nil_of_length_eq_zero (by rw [p1]; exact h0)
    rw [this]
    exact ⟨z, Le.refl _, hS, SlR.nil⟩
  · refine ⟨_, Res.freeze_le hS, Res.freeze hS, some ⟨b, 0, none⟩, cap, by rw [p1], by rw [p1]; exact h1, by rw [p1]; exact hb, fun _ => ⟨b, 0, rfl, fun j x hx => ?_⟩⟩
    rw [p2] at hx
    cases hks : ks[j]? with
    | none => rw [hks] at hx; cases hx
    | some i =>
      rw [hks] at hx
      obtain ⟨u, x', g1, g2, g3⟩ := hk.at_ j i hks
      have hxx : x' = x := by rw [show (some i).bind (fun i => xs[i]?) = xs[i]? from rfl, g2] at hx; exact Option.some.inj hx
      subst hxx
      refine ⟨[u], E.mono g3 (Res.freeze_le hS), _, _, _, if_pos rfl, fun q v hv => ?_⟩
      have hq : q = 0 := by have := (List.getElem?_eq_some_iff.1 hv).1; simpa using this
      subst hq
      simp only [List.getElem?_cons_zero, Option.some.injEq] at hv
      subst hv
      rw [hE]
      simp only [Nat.zero_add, Nat.mul_one, Nat.add_zero, List.getElem?_toArray]
      rw [List.getElem?_append_left (List.getElem?_eq_some_iff.1 g1).1]
      exact g1
theorem trimC {R : Value → World → Prop} {z : Z} {w : World} {c : CodeM} {bc b2 b8 b9 : Nat} {x vat v1 v2 v3 v6 : Value} {rs : List Nat} {B2 B3 : Bl} {us2 us3 : List Value} {a1 a2 a3 a4 a5 a6 : Option Addr} {k1 k2 k3 k4 k5 k6 : Nat}
    (hS : Res w z ((b9, .cells [v1, v2, v3, nilS, nilS, v6].toArray 28 (0, 0)) :: (b2, .cells [nilS, nilS, nilS, nilS, nilS, nilS].toArray 28 (0, 0)) :: (B2 ++ (B3 ++ markB rs))) w z ((b9, .cells [v1, v2, v3, nilS, nilS, v6].toArray 28 (0, 0)) :: (b2, .cells [nilS, nilS, nilS, nilS, nilS, nilS].toArray 28 (0, 0)) :: (B2 ++ (B3 ++ markB rs))))
    (hR : ∀ z' w' L' r, Res w z ((b9, .cells [v1, v2, v3, nilS, nilS, v6].toArray 28 (0, 0)) :: (b2, .cells [nilS, nilS, nilS, nilS, nilS, nilS].toArray 28 (0, 0)) :: (B2 ++ (B3 ++ markB rs))) w' z' L' → TrimR z' r c → R r w') (hmx : marks x = rs) (hck : (checkM c).1 = 0)
    (hatc : At z bc 0 (codeVs a1 a2 a3 a4 a5 a6 k1 k2 k3 k4 k5 k6 c)) (h2 : SlR (El.sl El.part) z (.slice a2 c.tmpls.length k2) c.tmpls) (h3 : SlR (El.sl El.item) z (.slice a3 c.lists.length k3) c.lists) (hl2 : ∀ l ∈ c.tmpls, l.length ≤ 1000000) (hl3 : ∀ l ∈ c.lists, l.length ≤ 1000000)
    (h4 : SlR El.spot z (.slice a4 c.labels.length k4) c.labels) (h5 : SlR El.str z (.slice a5 c.slots.length k5) c.slots)
    (hat8 : At z b8 0 [vat]) (hvat : SlR El.int z vat (atM c)) (g1 : SlR El.str z v1 (trimOk c).consts)
    (o2 : OwnSl 93 1 B2 v2 (keptI (usesM c).s2 c.tmpls.length).length us2) (q2 : KeptR (El.sl El.part) z c.tmpls (keptI (usesM c).s2 c.tmpls.length) us2) (o3 : OwnSl 96 1 B3 v3 (keptI (usesM c).s3 c.lists.length).length us3) (q3 : KeptR (El.sl El.item) z c.lists (keptI (usesM c).s3 c.lists.length) us3)
    (g6 : SlR El.ins z v6 (trimOk c).ins) :
    vcTc R w (.pointer (some ⟨bc, 0, none⟩)) (.pointer (some ⟨b2, 0, none⟩)) (.pointer (some ⟨b8, 0, none⟩)) (.pointer (some ⟨b9, 0, none⟩)) x := by
  obtain ⟨e0, hli, hpa, hri, _, _⟩ := check_ok hck
  have hbd := limits_bd hli
  have hn2 := @keptI_len (usesM c).s2 c.tmpls.length
  have hn3 := @keptI_len (usesM c).s3 c.lists.length
  obtain ⟨_, av1, cv1, rfl, _, _⟩ := g1.form
  obtain ⟨av2, cv2, rfl, _⟩ := o2.form
  obtain ⟨av3, cv3, rfl, _⟩ := o3.form
  obtain ⟨_, av6, cv6, rfl, _, _⟩ := g6.form
  generalize hks2 : keptI (usesM c).s2 c.tmpls.length = ks2 at *
  generalize hks3 : keptI (usesM c).s3 c.lists.length = ks3 at *
  unfold vcTc
  generalize hLL : (b9, Obj.cells [Value.slice av1 (trimOk c).consts.length cv1, .slice av2 ks2.length cv2, .slice av3 ks3.length cv3, nilS, nilS, .slice av6 (trimOk c).ins.length cv6].toArray 28 (0, 0)) :: (b2, .cells [nilS, nilS, nilS, nilS, nilS, nilS].toArray 28 (0, 0)) :: (B2 ++ (B3 ++ markB rs)) = LL at hR
  have hS0 : Res w z LL w z ((b9, Obj.cells [Value.slice av1 (trimOk c).consts.length cv1, .slice av2 ks2.length cv2, .slice av3 ks3.length cv3, nilS, nilS, .slice av6 (trimOk c).ins.length cv6].toArray 28 (0, 0)) :: (b2, .cells [nilS, nilS, nilS, nilS, nilS, nilS].toArray 28 (0, 0)) :: (B2 ++ (B3 ++ markB rs))) := by rw [← hLL]; exact hS
  clear hS hLL
  (repeat (first | refine V_run ?_ | refine iV_ld1 ?_))
  refine LoopG1 (fun (k : Nat) y w' => y = .int .i64 k ∧ k ≤ ks2.length ∧ ∃ B us z', Le z z' ∧ OwnSl 93 1 B (.slice av2 ks2.length cv2) ks2.length us ∧ KeptR (El.sl El.part) z' c.tmpls ks2 us ∧ Res w z LL w' z' ((b9, Obj.cells [Value.slice av1 (trimOk c).consts.length cv1, .slice av2 ks2.length cv2, .slice av3 ks3.length cv3, nilS, nilS, .slice av6 (trimOk c).ins.length cv6].toArray 28 (0, 0)) :: (b2, .cells [nilS, nilS, nilS, nilS, nilS, nilS].toArray 28 (0, 0)) :: (B ++ (B3 ++ markB rs)))) (fun k => ks2.length - k) 0 ⟨rfl, by omega, B2, us2, z, Le.refl _, o2, q2, hS0⟩ ?_
  rintro I M k y w1 m ⟨rfl, hk, B, us, z1, hz1, ho, hq, hS1⟩ back
  clear hS0
  (repeat (refine V_run ?_))
  refine Cond_d (fun h => ?_) (fun h => ?_)
  · have hlt : k < ks2.length := by omega
    obtain ⟨b, cap, C, hv, rfl, hkC, hCk, hset⟩ := ho.el hlt
    cases hv
    have hki := List.getElem?_eq_getElem hlt
    obtain ⟨u, l, hu, hl, v, hvv, hsl⟩ := hq.at_ k _ hki
    cases hvv
    obtain ⟨_, au, cu, rfl, _, _⟩ := hsl.form
    haveI : InR (k : Int) (ks2.length : Nat) := ⟨by omega, by omega⟩
    haveI : InI ((k : Int) + 1) := ⟨by omega⟩
    have e1 : (k : Int).toNat * 1 = k := by omega
    haveI : Get C ((k : Int).toNat * 1) (.slice au l.length cu) := ⟨by rw [e1, hCk]; exact hu⟩
    simp only [List.cons_append, List.nil_append] at hS1
    (repeat (first | (refine iDr ?_; intro _ _) | refine PV_run ?_ | refine iHV_1 ?_))
    rename_i w2 hS2
    refine CV_1 (cloneParts hsl (hl2 _ (List.mem_of_getElem? hl))) ?_
    rintro z3 w3 v3 hz3 hS3 hv3
    obtain ⟨_, a3', c3', rfl, _, _⟩ := hv3.form
    haveI : SetN C ((k : Int).toNat * 1) [.slice a3' l.length c3'] (C.set k (.slice a3' l.length c3')) := by rw [e1]; exact SetN.at_ hkC
    clear hS2 hS1
    (repeat (first | refine V_run ?_ | refine PV_run ?_ | (refine iU_st ?_; intro _ _) | refine iRI_1 ?_))
    rename_i w4 hS4
    exact back (k + 1) _ _ ⟨by simp, by omega, _, _, z3, hz1.trans hz3, hset _, (hq.mono hz3).set hki hl ⟨_, rfl, hv3⟩ rfl, hS4⟩ (by omega)
  clear back
  obtain ⟨z2, hz2, hS2, hv2⟩ := freezeKept (E := El.sl El.part) rfl (hS1.bring B) ho hq (by simp only [big]; omega)
  clear hS1
  have hzz := hz1.trans hz2
  (repeat (first | refine V_run ?_ | refine iV_ld1 ?_))
  refine LoopG1 (fun (k : Nat) y w' => y = .int .i64 k ∧ k ≤ ks3.length ∧ ∃ B us z', Le z2 z' ∧ OwnSl 96 1 B (.slice av3 ks3.length cv3) ks3.length us ∧ KeptR (El.sl El.item) z' c.lists ks3 us ∧ Res w z LL w' z' ((b9, Obj.cells [Value.slice av1 (trimOk c).consts.length cv1, .slice av2 ks2.length cv2, .slice av3 ks3.length cv3, nilS, nilS, .slice av6 (trimOk c).ins.length cv6].toArray 28 (0, 0)) :: (b2, .cells [nilS, nilS, nilS, nilS, nilS, nilS].toArray 28 (0, 0)) :: (B ++ markB rs))) (fun k => ks3.length - k) 0 ⟨rfl, by omega, B3, us3, z2, Le.refl _, o3, q3.mono hzz, hS2⟩ ?_
  rintro I M k y w1 m ⟨rfl, hk, B, us, z3, hz3, ho, hq, hS1⟩ back
  clear hS2
  (repeat (refine V_run ?_))
  refine Cond_d (fun h => ?_) (fun h => ?_)
  · have hlt : k < ks3.length := by omega
    obtain ⟨b, cap, C, hv, rfl, hkC, hCk, hset⟩ := ho.el hlt
    cases hv
    have hki := List.getElem?_eq_getElem hlt
    obtain ⟨u, l, hu, hl, v, hvv, hsl⟩ := hq.at_ k _ hki
    cases hvv
    obtain ⟨_, au, cu, rfl, _, _⟩ := hsl.form
    haveI : InR (k : Int) (ks3.length : Nat) := ⟨by omega, by omega⟩
    haveI : InI ((k : Int) + 1) := ⟨by omega⟩
    have e1 : (k : Int).toNat * 1 = k := by omega
    haveI : Get C ((k : Int).toNat * 1) (.slice au l.length cu) := ⟨by rw [e1, hCk]; exact hu⟩
    simp only [List.cons_append, List.nil_append] at hS1
    (repeat (first | (refine iDr ?_; intro _ _) | refine PV_run ?_ | refine iHV_1 ?_))
    rename_i w2 hS2
    refine CV_1 (cloneItems hsl (hl3 _ (List.mem_of_getElem? hl))) ?_
    rintro z4 w3 v3 hz4 hS3 hv3
    obtain ⟨_, a3', c3', rfl, _, _⟩ := hv3.form
    haveI : SetN C ((k : Int).toNat * 1) [.slice a3' l.length c3'] (C.set k (.slice a3' l.length c3')) := by rw [e1]; exact SetN.at_ hkC
    clear hS2 hS1
    (repeat (first | refine V_run ?_ | refine PV_run ?_ | (refine iU_st ?_; intro _ _) | refine iRI_1 ?_))
    rename_i w4 hS4
    exact back (k + 1) _ _ ⟨by simp, by omega, _, _, z4, hz3.trans hz4, hset _, (hq.mono hz4).set hki hl ⟨_, rfl, hv3⟩ rfl, hS4⟩ (by omega)
  obtain ⟨z4, hz4, hS4, hv3⟩ := freezeKept (E := El.sl El.item) rfl (hS1.bring B) ho hq (by simp only [big]; omega)
  have hz24 := hz3.trans hz4
  have hz04 := hzz.trans hz24
  have p2 : (pickK c.tmpls ks2).length = ks2.length := (pickK_get (fun i hi => by
    obtain ⟨j, hj⟩ := List.mem_iff_getElem?.1 hi
    obtain ⟨u, x, _, g2, _⟩ := q2.at_ j i hj
    exact (List.getElem?_eq_some_iff.1 g2).1)).1
  have t2 : (trimOk c).tmpls = pickK c.tmpls ks2 := by rw [trimOk, hks2]
  have t3 : (trimOk c).lists = pickK c.lists ks3 := by rw [trimOk, hks3]
  exact trimD hS4.self (fun z' w' L' r k hd => hR z' w' L' r (hS4.comp k) hd) hmx hck (hatc.mono hz04) (h4.mono hz04) (h5.mono hz04) (hat8.mono hz04) (hvat.mono hz04) (g1.mono hz04) (by rw [t2]; exact hv2.mono hz24) (by rw [t3]; exact hv3) (g6.mono hz04)
end Go.Proofs.YtbeelfopmkbllaaGreatDoor
end

section
/- Trim: what is used is kept, the operands are renewed. -/
set_option linter.unusedVariables false
set_option linter.unusedSimpArgs false
set_option maxRecDepth 20000
set_option synthInstance.maxHeartbeats 4000000
set_option synthInstance.maxSize 20000
set_option maxHeartbeats 1000000
namespace Go.Proofs.YtbeelfopmkbllaaGreatDoor
open Go Q Go.RowKit

theorem zV_lkP {w0 w : World} {z0 z : Z} {B0 L : Bl} {K : Value → World → Prop} [hS : Res w0 z0 B0 w z L] {m k : Nat} {S : List Int} {l : List (Int × Value)} {n : Int} {zm : Z} (hm : zm m = some (mK (Value.int .i64) l)) (hl : ∀ n, getK l n = posK S k n) (hz : Le zm z) (hk : K (.int .i64 (posM S k n)) w) : V (lk 124 (.map (some m)) (.int .i64 n) false) w K := by
  refine ⟨_, w, run_lkK (k := 3) (e := 3) (mk := Value.int .i64) (zv := .int .i64 0) (hS.sub _ _ (hz _ _ hm)) (fun _ => by kernel_rfl) false, ?_⟩
  rw [if_neg (by simp), hl, posK_get]
  exact hk
/-- What the renewal of operands reads. -/
structure RenewZ (z : Z) (c : CodeM) (b8 b10 b16 b17 b18 : Nat) : Prop where
  h : ∃ vat m1 m2 m3 p1 p2 p3 l1 l2 l3, At z b8 0 [vat] ∧ SlR El.int z vat (atM c) ∧ At z b10 0 [.map (some m1), .map (some m2), .map (some m3)] ∧
    At z b16 0 [.map (some p1)] ∧ At z b17 0 [.map (some p2)] ∧ At z b18 0 [.map (some p3)] ∧ z p1 = some (mK (Value.int .i64) l1) ∧ z p2 = some (mK (Value.int .i64) l2) ∧ z p3 = some (mK (Value.int .i64) l3) ∧
    (∀ n, getK l1 n = posK (usesM c).s1 c.consts.length n) ∧ (∀ n, getK l2 n = posK (usesM c).s2 c.tmpls.length n) ∧ (∀ n, getK l3 n = posK (usesM c).s3 c.lists.length n)
theorem RenewZ.mono {z z' : Z} {c : CodeM} {b8 b10 b16 b17 b18 : Nat} (h : RenewZ z c b8 b10 b16 b17 b18) (hz : Le z z') : RenewZ z' c b8 b10 b16 b17 b18 := by
  obtain ⟨vat, m1, m2, m3, p1, p2, p3, l1, l2, l3, h1, h2, h3, h4, h5, h6, h7, h8, h9, h10⟩ := h.h
  exact ⟨vat, m1, m2, m3, p1, p2, p3, l1, l2, l3, h1.mono hz, h2.mono hz, h3.mono hz, h4.mono hz, h5.mono hz, h6.mono hz, hz _ _ h7, hz _ _ h8, hz _ _ h9, h10⟩
theorem renew_of {z : Z} {w : World} {c : CodeM} {b8 b10 b16 b17 b18 : Nat} {kind n : Int} (h : RenewZ z c b8 b10 b16 b17 b18) (hk : kind = 13 → 0 ≤ n ∧ n < c.ins.length) :
    Va1 (.func (.func 66) #[] #[.pointer (some ⟨b8, 0, none⟩), .pointer (some ⟨b17, 0, none⟩), .pointer (some ⟨b18, 0, none⟩), .pointer (some ⟨b10, 0, none⟩), .pointer (some ⟨b16, 0, none⟩)]) #[.int .i64 kind, .int .i64 n] z w fun _ r => r = .int .i64 (renewM c kind n) :=
  Fn1.va (args' := #[.int .i64 kind, .int .i64 n, .pointer (some ⟨b8, 0, none⟩), .pointer (some ⟨b17, 0, none⟩), .pointer (some ⟨b18, 0, none⟩), .pointer (some ⟨b10, 0, none⟩), .pointer (some ⟨b16, 0, none⟩)]) (fnA en66 (by
    intro hS R hR
    unfold vc66
    obtain ⟨vat, m1, m2, m3, p1, p2, p3, l1, l2, l3, h1, h2, h3, h4, h5, h6, h7, h8, h9, q1, q2, q3⟩ := h.h
    obtain ⟨_, at_, ct, rfl, _, hel⟩ := h2.form
    haveI : Fz z b8 0 [.slice at_ (atM c).length ct] := ⟨h1⟩
    haveI : Fz z b10 0 [.map (some m1), .map (some m2), .map (some m3)] := ⟨h3⟩
    haveI : Fz z b16 0 [.map (some p1)] := ⟨h4⟩
    haveI : Fz z b17 0 [.map (some p2)] := ⟨h5⟩
    haveI : Fz z b18 0 [.map (some p3)] := ⟨h6⟩
    have hatl : (atM c).length = c.ins.length := by simp [atM]
    (repeat (refine V_run ?_))
    refine Cond_d (fun e1 => ?_) (fun e1 => ?_)
    · have hin := hk e1
      have hlt : n.toNat < (atM c).length := by omega
      haveI : InR n ((atM c).length : Nat) := ⟨by omega, by omega⟩
      obtain ⟨b, off, cs, rfl, rfl, hat⟩ := hel _ _ (List.getElem?_eq_getElem hlt)
      haveI : Fz z b (off + n.toNat * 1) [.int .i64 (atM c)[n.toNat]] := ⟨hat⟩
      (repeat (first | refine V_run ?_ | refine fV_ld1 ?_))
      exact finW hR (by rw [renewM, if_pos e1, List.getD_eq_getElem?_getD, List.getElem?_eq_getElem hlt]; rfl)
    (repeat (refine V_run ?_))
    refine Cond_d (fun e2 => ?_) (fun e2 => ?_)
    · (repeat (refine fV_ld1 ?_))
      refine zV_lkP h8 q2 (Le.refl _) ?_
      exact finW hR (by rw [renewM, if_neg e1, if_pos e2])
    (repeat (refine JB ?_))
    refine Cond_b (fun e3 => ?_) (fun e3 => ?_)
    · have e3' : kind = 11 ∨ kind = 12 := by by_cases e : kind = 11 <;> simp [e] at e3 ⊢; exact e3
      (repeat (refine fV_ld1 ?_))
      refine zV_lkP h9 q3 (Le.refl _) ?_
      exact finW hR (by rw [renewM, if_neg e1, if_neg e2, if_pos e3'])
    · have e3' : ¬ (kind = 11 ∨ kind = 12) := by by_cases e : kind = 11 <;> simp [e] at e3 ⊢; exact e3
      (repeat (first | refine V_run ?_ | (refine CV_pu ?_; intro _ _ _ _) | refine fV_ldN ?_))
      rename_i z5 w5 hz5 hS5
      have hof : (ofR kind m1 m2 m3).isSome = decide (clsM kind = 1) := by
        unfold ofR clsM
        rw [if_neg e2, if_neg e3']
        split <;> simp
      rw [hof]
      refine Cond_d (fun e4 => ?_) (fun e4 => ?_)
      · (repeat (refine fV_ld1 ?_))
        refine zV_lkP h7 q1 hz5 ?_
        exact finW hR (by rw [renewM, if_neg e1, if_neg e2, if_neg e3', if_pos e4])
      · exact finW hR (by rw [renewM, if_neg e1, if_neg e2, if_neg e3', if_neg e4]))) (by simp)
/-- An own slice of instructions. -/
def OwnIns (B : Bl) (v : Value) (l : List InsM) : Prop := OwnSl 38 4 B v l.length (l.flatMap InsM.cells)
theorem insLen (l : List InsM) : (l.flatMap InsM.cells).length = l.length * 4 := flat_len (f := InsM.cells) (fun _ => rfl) l
theorem OwnIns.el {B : Bl} {v : Value} {l : List InsM} {k : Nat} (h : OwnIns B v l) (hk : k < l.length) : ∃ (b cap : Nat) (C : List Value), v = .slice (some ⟨b, 0, none⟩) l.length cap ∧ B = [(b, .cells C.toArray 38 (0, 0))] ∧ GetN C (k * 4) 4 l[k].cells ∧
    ∀ i : InsM, ∃ C', SetN C (k * 4) i.cells C' ∧ OwnIns [(b, .cells C'.toArray 38 (0, 0))] v (l.set k i) := by
  rcases h.2 with ⟨_, _, h0⟩ | ⟨b, cap, sp, rfl, rfl, h1, h2, h3⟩
  · omega
  · have hs : l = l.take k ++ l[k] :: l.drop (k + 1) := by rw [← List.drop_eq_getElem_cons hk, List.take_append_drop]
    have hl : ((l.take k).flatMap InsM.cells).length = k * 4 := by rw [insLen, List.length_take]; omega
    have hf : l.flatMap InsM.cells ++ sp = (l.take k).flatMap InsM.cells ++ (l[k].cells ++ ((l.drop (k + 1)).flatMap InsM.cells ++ sp)) := by
      conv => lhs; rw [hs]
      simp only [List.flatMap_append, List.flatMap_cons, List.append_assoc]
    refine ⟨b, cap, _, rfl, rfl, ?_, fun i => ⟨(l.take k).flatMap InsM.cells ++ (i.cells ++ ((l.drop (k + 1)).flatMap InsM.cells ++ sp)), ?_, ?_⟩⟩
    · rw [hf, ← hl]
      exact (inferInstance : GetN ((l.take k).flatMap InsM.cells ++ (Value.int .i64 l[k].op :: .int .i64 l[k].a :: .int .i64 l[k].b :: .int .i64 l[k].c :: ((l.drop (k + 1)).flatMap InsM.cells ++ sp))) ((l.take k).flatMap InsM.cells).length 4 [Value.int .i64 l[k].op, .int .i64 l[k].a, .int .i64 l[k].b, .int .i64 l[k].c])
    · rw [hf, ← hl]
      exact (inferInstance : SetN ((l.take k).flatMap InsM.cells ++ (Value.int .i64 l[k].op :: .int .i64 l[k].a :: .int .i64 l[k].b :: .int .i64 l[k].c :: ((l.drop (k + 1)).flatMap InsM.cells ++ sp))) ((l.take k).flatMap InsM.cells).length [Value.int .i64 i.op, .int .i64 i.a, .int .i64 i.b, .int .i64 i.c] ((l.take k).flatMap InsM.cells ++ (Value.int .i64 i.op :: .int .i64 i.a :: .int .i64 i.b :: .int .i64 i.c :: ((l.drop (k + 1)).flatMap InsM.cells ++ sp))))
    · have hset : l.set k i = l.take k ++ i :: l.drop (k + 1) := List.set_eq_take_append_cons_drop.trans (if_pos hk)
      unfold OwnIns
      have hfl : (l.set k i).flatMap InsM.cells = (l.take k).flatMap InsM.cells ++ (i.cells ++ (l.drop (k + 1)).flatMap InsM.cells) := by rw [hset]; simp only [List.flatMap_append, List.flatMap_cons]
      refine ⟨insLen _, .inr ⟨b, cap, sp, ?_, by rw [List.length_set], by rw [List.length_set]; exact h1, h2, ?_⟩⟩
      · rw [hfl]; simp only [List.append_assoc]
      · rw [List.length_append, insLen, List.length_set]; rw [List.length_append, insLen] at h3; exact h3
end Go.Proofs.YtbeelfopmkbllaaGreatDoor
end

section
/- Trim: behind the first loop. -/
set_option linter.unusedVariables false
set_option linter.unusedSimpArgs false
set_option maxRecDepth 20000
set_option synthInstance.maxHeartbeats 4000000
set_option synthInstance.maxSize 20000
set_option maxHeartbeats 1000000
namespace Go.Proofs.YtbeelfopmkbllaaGreatDoor
open Go Q Go.RowKit

theorem setFld_op {i : InsM} {k n : Int} : (setFld i k n).op = i.op := by unfold setFld; split <;> (try split) <;> rfl
theorem renewK_op {c : CodeM} {i : InsM} : ∀ {k : Nat}, (renewK c i k).op = i.op
  | 0 => rfl
  | k + 1 => by rw [renewK_succ, setFld_op, renewK_op]
theorem renewK_fld {c : CodeM} {i : InsM} {k j : Nat} (h : k ≤ j) (hj : j < 3) : fldM (renewK c i k) j = fldM i j := by
  induction k with
  | zero => rfl
  | succ k ih =>
    rw [renewK_succ]
    have : fldM (setFld (renewK c i k) k (renewM c (kindM (renewK c i k) k) (fldM (renewK c i k) k))) j = fldM (renewK c i k) j := by
      unfold fldM setFld
      have : k = 0 ∧ j = 1 ∨ k = 0 ∧ j = 2 ∨ k = 1 ∧ j = 2 := by omega
      rcases this with ⟨rfl, rfl⟩ | ⟨rfl, rfl⟩ | ⟨rfl, rfl⟩ <;> rfl
    rw [this, ih (by omega)]
theorem fld_cell {i : InsM} {k : Int} (h : k = 0 ∨ k = 1 ∨ k = 2) : Get i.cells (k.toNat + 1) (.int .i64 (fldM i k)) := ⟨by rcases h with rfl | rfl | rfl <;> rfl⟩
theorem fld_set {i : InsM} {k n : Int} (h : k = 0 ∨ k = 1 ∨ k = 2) : SetN i.cells (k.toNat + 1) [.int .i64 n] (setFld i k n).cells := by
  rcases h with rfl | rfl | rfl
  · exact (inferInstance : SetN [Value.int .i64 i.op, .int .i64 i.a, .int .i64 i.b, .int .i64 i.c] 1 [.int .i64 n] [Value.int .i64 i.op, .int .i64 n, .int .i64 i.b, .int .i64 i.c])
  · exact (inferInstance : SetN [Value.int .i64 i.op, .int .i64 i.a, .int .i64 i.b, .int .i64 i.c] 2 [.int .i64 n] [Value.int .i64 i.op, .int .i64 i.a, .int .i64 n, .int .i64 i.c])
  · exact (inferInstance : SetN [Value.int .i64 i.op, .int .i64 i.a, .int .i64 i.b, .int .i64 i.c] 3 [.int .i64 n] [Value.int .i64 i.op, .int .i64 i.a, .int .i64 i.b, .int .i64 n])
theorem Res.frzO {w0 w : World} {z0 z : Z} {B0 L R : Bl} (b : Nat) {o : Obj} (h : Res w0 z0 B0 w z L) [g : BringB L b o R] : ∃ z', Le z z' ∧ Res w0 z0 B0 w z' R ∧ z' b = some o :=
  ⟨_, (h.bringB b).freeze_le, (h.bringB b).freeze, if_pos rfl⟩
def renK (c : CodeM) (l : List InsM) (k : Nat) : List InsM := (l.take k).map (newIns c) ++ l.drop k
theorem renK_len {c : CodeM} {l : List InsM} {k : Nat} (h : k ≤ l.length) : (renK c l k).length = l.length := by simp [renK]; omega
theorem renK_get {c : CodeM} {l : List InsM} {k : Nat} (h : k < l.length) (h2 : k < (renK c l k).length) : (renK c l k)[k] = l[k] := by
  have : (renK c l k)[k]? = some l[k] := by
    unfold renK
    rw [List.getElem?_append_right (by simp; omega)]
    simp [Nat.min_eq_left (Nat.le_of_lt h), List.getElem?_eq_getElem h]
  exact (List.getElem?_eq_some_iff.1 this).2
theorem renK_set {c : CodeM} {l : List InsM} {k : Nat} (h : k < l.length) : (renK c l k).set k (newIns c l[k]) = renK c l (k + 1) := by
  unfold renK
  have hl : ((l.take k).map (newIns c)).length = k := by simp; omega
  rw [List.set_append_right _ _ (by omega), hl, Nat.sub_self, List.drop_eq_getElem_cons h, List.set_cons_zero, ← List.take_append_getElem h, List.map_append, List.append_assoc]
  rfl
theorem trimB {R : Value → World → Prop} {z : Z} {w : World} {c : CodeM} {bc b2 b8 b9 b10 m1 m2 m3 : Nat} {x vat vi : Value} {rs : List Nat} {Bi : Bl} {a1 a2 a3 a4 a5 a6 : Option Addr} {k1 k2 k3 k4 k5 k6 : Nat}
    (hS : Res w z ((b9, .cells [nilS, nilS, nilS, nilS, nilS, vi].toArray 28 (0, 0)) :: (b2, .cells [nilS, nilS, nilS, nilS, nilS, nilS].toArray 28 (0, 0)) :: (Bi ++ markB rs)) w z ((b9, .cells [nilS, nilS, nilS, nilS, nilS, vi].toArray 28 (0, 0)) :: (b2, .cells [nilS, nilS, nilS, nilS, nilS, nilS].toArray 28 (0, 0)) :: (Bi ++ markB rs)))
    (hR : ∀ z' w' L' r, Res w z ((b9, .cells [nilS, nilS, nilS, nilS, nilS, vi].toArray 28 (0, 0)) :: (b2, .cells [nilS, nilS, nilS, nilS, nilS, nilS].toArray 28 (0, 0)) :: (Bi ++ markB rs)) w' z' L' → TrimR z' r c → R r w') (hmx : marks x = rs) (hck : (checkM c).1 = 0)
    (hatc : At z bc 0 (codeVs a1 a2 a3 a4 a5 a6 k1 k2 k3 k4 k5 k6 c)) (h1 : SlR El.str z (.slice a1 c.consts.length k1) c.consts) (h2 : SlR (El.sl El.part) z (.slice a2 c.tmpls.length k2) c.tmpls) (h3 : SlR (El.sl El.item) z (.slice a3 c.lists.length k3) c.lists) (hl2 : ∀ l ∈ c.tmpls, l.length ≤ 1000000) (hl3 : ∀ l ∈ c.lists, l.length ≤ 1000000)
    (h4 : SlR El.spot z (.slice a4 c.labels.length k4) c.labels) (h5 : SlR El.str z (.slice a5 c.slots.length k5) c.slots)
    (hat8 : At z b8 0 [vat]) (hvat : SlR El.int z vat (atM c)) (hat10 : At z b10 0 [.map (some m1), .map (some m2), .map (some m3)])
    (hm1 : z m1 = some (mK (Value.int .i64) (setK (usesM c).s1))) (hm2 : z m2 = some (mK (Value.int .i64) (setK (usesM c).s2))) (hm3 : z m3 = some (mK (Value.int .i64) (setK (usesM c).s3)))
    (oi : OwnIns Bi vi ((rK c c.ins.length).map (insAt c))) :
    vcTb R w (.pointer (some ⟨bc, 0, none⟩)) (.pointer (some ⟨b2, 0, none⟩)) (.pointer (some ⟨b8, 0, none⟩)) (.pointer (some ⟨b9, 0, none⟩)) (.pointer (some ⟨b10, 0, none⟩)) x := by
  obtain ⟨e0, hli, hpa, hri, _, _⟩ := check_ok hck
  have hbd := limits_bd hli
  generalize hLL : (b9, Obj.cells [nilS, nilS, nilS, nilS, nilS, vi].toArray 28 (0, 0)) :: (b2, .cells [nilS, nilS, nilS, nilS, nilS, nilS].toArray 28 (0, 0)) :: (Bi ++ markB rs) = LL at hR
  have hS0 : Res w z LL w z ((b9, Obj.cells [nilS, nilS, nilS, nilS, nilS, vi].toArray 28 (0, 0)) :: (b2, .cells [nilS, nilS, nilS, nilS, nilS, nilS].toArray 28 (0, 0)) :: (Bi ++ markB rs)) := by rw [← hLL]; exact hS
  clear hS hLL
  obtain ⟨avi, cvi, rfl, _⟩ := oi.form
  have hrl : (List.map (insAt c) (rK c c.ins.length)).length = (rK c c.ins.length).length := List.length_map _
  have hrk := @rK_len c c.ins.length
  haveI : Fz z bc 0 [.slice a1 c.consts.length k1] := ⟨hatc.fld (i := 0) rfl rfl⟩
  haveI : Fz z bc 1 [.slice a2 c.tmpls.length k2] := ⟨hatc.fld (i := 1) rfl rfl⟩
  haveI : Fz z bc 2 [.slice a3 c.lists.length k3] := ⟨hatc.fld (i := 2) rfl rfl⟩
  haveI : Fz z b10 0 [.map (some m1)] := ⟨hat10.fld (i := 0) rfl rfl⟩
  haveI : Fz z b10 1 [.map (some m2)] := ⟨hat10.fld (i := 1) rfl rfl⟩
  haveI : Fz z b10 2 [.map (some m3)] := ⟨hat10.fld (i := 2) rfl rfl⟩
  unfold vcTb
  refine iV_al ?_
  intro b16 w1 hb16 hS1
  refine iV_al ?_
  intro b17 w2 hb17 hS2
  refine iV_al ?_
  intro b18 w3 hb18 hS3
  clear hS0 hS1 hS2
  (repeat (first | refine V_run ?_ | refine fV_ld1 ?_))
  refine CV_fn0 (fun hle => siftStrs (h1.mono hle) (hle _ _ hm1) (by omega)) ?_
  rintro z4 B4 w4 v4 hz4 hS4 ⟨sl1, p1, Bs1, l1, us1, rfl, rfl, o1, q1, hp1⟩
  obtain ⟨as1, cs1, rfl, _⟩ := o1.form
  clear hS3
  simp only [List.append_assoc, List.cons_append, List.nil_append] at hS4
  (repeat (first | refine V_run ?_ | (refine iU_st ?_; intro _ _) | refine fV_ld1 ?_))
  refine CV_fn0 (fun hle => siftTmpls (h2.mono hle) (hle _ _ hm2) (by omega)) ?_
  rintro z5 B5 w5 v5 hz5 hS5 ⟨sl2, p2, Bs2, l2, us2, rfl, rfl, o2, q2, hp2⟩
  obtain ⟨as2, cs2, rfl, _⟩ := o2.form
  clear hS4
  simp only [List.append_assoc, List.cons_append, List.nil_append] at hS5
  (repeat (first | refine V_run ?_ | (refine iU_st ?_; intro _ _) | refine fV_ld1 ?_))
  refine CV_fn0 (fun hle => siftLists (h3.mono hle) (hle _ _ hm3) (by omega)) ?_
  rintro z6 B6 w6 v6 hz6 hS6 ⟨sl3, p3, Bs3, l3, us3, rfl, rfl, o3, q3, hp3⟩
  obtain ⟨as3, cs3, rfl, _⟩ := o3.form
  clear hS5
  simp only [List.append_assoc, List.cons_append, List.nil_append] at hS6
  (repeat (first | refine V_run ?_ | (refine iU_st ?_; intro _ _)))
  refine iV_al ?_
  intro b19 w7 hb19 hS7
  clear hS6
  (repeat (first | refine V_run ?_ | refine iV_ld1 ?_ | (refine iU_st ?_; intro _ _)))
  rename_i w8 hS8
  clear hS7
  have hz46 : Le z z6 := by (repeat (exact Res.zle (by assumption)))
  obtain ⟨z9, hz9, hS9, g19⟩ := hS8.frz b19
  obtain ⟨z10, hz10, hS10, g18⟩ := hS9.frz b18
  obtain ⟨z11, hz11, hS11, g17⟩ := hS10.frz b17
  obtain ⟨z12, hz12, hS12, g16⟩ := hS11.frz b16
  obtain ⟨z13, hz13, hS13, f1⟩ := hS12.frzO p1
  obtain ⟨z14, hz14, hS14, f2⟩ := hS13.frzO p2
  obtain ⟨z15, hz15, hS15, f3⟩ := hS14.frzO p3
  clear hS8 hS9 hS10 hS11 hS12 hS13 hS14
  have y15 := hz15
  have y14 := hz14.trans y15
  have y13 := hz13.trans y14
  have y12 := hz12.trans y13
  have y11 := hz11.trans y12
  have y10 := hz10.trans y11
  have y9 := hz9.trans y10
  have y0 := hz46.trans y9
  have hren : RenewZ z15 c b8 b10 b16 b17 b18 := ⟨_, m1, m2, m3, p1, p2, p3, l1, l2, l3, hat8.mono y0, hvat.mono y0, hat10.mono y0, g16.mono y13, g17.mono y12, g18.mono y11, y14 _ _ f1, y15 _ _ f2, f3, hp1, hp2, hp3⟩
  have g19' := g19.mono y10
  have n1 := @keptI_len (usesM c).s1 c.consts.length
  obtain ⟨z16, hz16, hS16, hv1⟩ := freezeKept (E := El.str) rfl (hS15.bring Bs1) o1 (q1.mono ((hz5.trans hz6).trans y9)) (by simp only [big]; omega)
  have t1 : (trimOk c).consts = pickK c.consts (keptI (usesM c).s1 c.consts.length) := rfl
  have p1l : (trimOk c).consts.length = (keptI (usesM c).s1 c.consts.length).length := by
    rw [t1]
    exact (pickK_get (fun i hi => by
      obtain ⟨j, hj⟩ := List.mem_iff_getElem?.1 hi
      obtain ⟨u, x, _, g2, _⟩ := q1.at_ j i hj
      exact (List.getElem?_eq_some_iff.1 g2).1)).1
  have hS17 := hS16.keep [.at b9, .at b2, .bl Bi, .bl Bs2, .bl Bs3, .bl (markB rs)]
  rw [List.append_nil] at hS17
  clear hS15 hS16
  have y16 := y0.trans hz16
  have q2' := q2.mono ((hz6.trans y9).trans hz16)
  have q3' := q3.mono (y9.trans hz16)
  generalize hl0 : List.map (insAt c) (rK c c.ins.length) = l0 at *
  have hr0 : ∀ i ∈ l0, rightM c i = true := by
    intro i hi
    rw [← hl0] at hi
    obtain ⟨j, hj, rfl⟩ := List.mem_map.1 hi
    have hjl : j < c.ins.length := List.mem_range.1 (List.mem_filter.1 hj).1
    refine hri _ (List.mem_of_getElem? (i := j) ?_)
    rw [insAt, List.getD_eq_getElem?_getD, List.getElem?_eq_getElem hjl]; rfl
  refine LoopG2 (fun (p : Nat × List Nat) y1 y2 w' => marks y1 = p.2 ∧ y2 = .int .i64 p.1 ∧ p.1 ≤ l0.length ∧ ∃ Bi' z', Le z16 z' ∧ OwnIns Bi' (.slice avi l0.length cvi) (renK c l0 p.1) ∧ Res w z LL w' z' ((b9, .cells [.slice as1 (keptI (usesM c).s1 c.consts.length).length cs1, .slice as2 (keptI (usesM c).s2 c.tmpls.length).length cs2, .slice as3 (keptI (usesM c).s3 c.lists.length).length cs3, nilS, nilS, .slice avi l0.length cvi].toArray 28 (0, 0)) :: (b2, .cells [nilS, nilS, nilS, nilS, nilS, nilS].toArray 28 (0, 0)) :: (Bi' ++ (Bs2 ++ (Bs3 ++ markB p.2))))) (fun p => l0.length - p.1) (0, rs) ⟨hmx, rfl, by simp, Bi, z16, Le.refl _, by simpa [renK] using oi, hS17⟩ ?_
  rintro I M ⟨k, rs'⟩ x1 y1 w17 m ⟨hmx1, rfl, hk, Bi', z17, hz17, oi', hS18⟩ back
  simp only at hmx1 hk oi' hS18
  clear hS17 hmx
  (repeat (refine V_run ?_))
  refine Cond_d (fun h => ?_) (fun h => ?_)
  · have hlt : k < l0.length := by omega
    have hlt2 : k < (renK c l0 k).length := by rw [renK_len hk]; exact hlt
    obtain ⟨b, cap, C, hv, rfl, hget, hset⟩ := oi'.el hlt2
    rw [renK_get hlt hlt2] at hget
    obtain ⟨C', hC', hoi''⟩ := hset (newIns c l0[k])
    rw [renK_set hlt] at hoi''
    rw [renK_len hk] at hv
    cases hv
    have hri0 := hr0 _ (List.getElem_mem hlt)
    generalize hi0 : l0[k] = i at *
    haveI : InR (k : Int) (l0.length : Nat) := ⟨by omega, by omega⟩
    haveI : InI ((k : Int) + 1) := ⟨by omega⟩
    have e1 : (k : Int).toNat * 4 = k * 4 := by omega
    haveI : GetN C ((k : Int).toNat * 4) 4 i.cells := by rw [e1]; exact hget
    haveI : SetN C ((k : Int).toNat * 4) (newIns c i).cells C' := by rw [e1]; exact hC'
    simp only [List.cons_append, List.nil_append] at hS18
    (repeat (first | refine V_run ?_ | refine iV_ld1 ?_ | refine iV_ldN ?_))
    refine iV_al ?_
    intro b21 w19 hb21 hS19
    (repeat (refine iU_st ?_; intro _ _))
    rename_i w20 hS20
    refine CV_1 operands_of ?_
    rintro z21 w21 v21 hz21 hS21 ⟨bo, rfl, hbo⟩
    clear hS18 hS19 hS20
    intro lp r0 l1' w22 hnew hyp
    have hS22 := hS21.rf hnew
    clear hS21 hnew
    have hS23 := hS22.bringB b21
    have hO := hS23.self
    have y21 := hz17.trans hz21
    haveI : Fz z21 b19 0 [.func (.func 66) #[] #[.pointer (some ⟨b8, 0, none⟩), .pointer (some ⟨b17, 0, none⟩), .pointer (some ⟨b18, 0, none⟩), .pointer (some ⟨b10, 0, none⟩), .pointer (some ⟨b16, 0, none⟩)]] := ⟨g19'.mono (hz16.trans y21)⟩
    refine operands_gen (i := i) hO hbo (fun kk i' z' L' => ∃ j : Nat, kk = j ∧ j ≤ 3 ∧ i' = renewK c i j ∧ L' = (l1', lobj lp .ready none) :: (r0, .deferred (some [])) :: (b9, .cells [.slice as1 (keptI (usesM c).s1 c.consts.length).length cs1, .slice as2 (keptI (usesM c).s2 c.tmpls.length).length cs2, .slice as3 (keptI (usesM c).s3 c.lists.length).length cs3, nilS, nilS, .slice (some ⟨b, 0, none⟩) l0.length cvi].toArray 28 (0, 0)) :: (b2, .cells [nilS, nilS, nilS, nilS, nilS, nilS].toArray 28 (0, 0)) :: (b, .cells C.toArray 38 (0, 0)) :: (Bs2 ++ (Bs3 ++ markB rs')))
      (fun _ _ _ _ _ _ h => h) ⟨0, rfl, by omega, rfl, rfl⟩ ?_ ?_
    · rintro kk hk0 hk3 i' z24 w24 G L' K' hop hz24 hS24 ⟨j, rfl, hj, rfl, rfl⟩ next
      have hj3 : j < 3 := by omega
      have h3 : (j : Int) = 0 ∨ (j : Int) = 1 ∨ (j : Int) = 2 := by omega
      have hfld : fldM (renewK c i j) j = fldM i j := renewK_fld (Nat.le_refl _) hj3
      refine hyp _ _ _ _ ?_ (Res.at_ (b := l1') hS24)
      refine iBegin ?_
      intro w25 hS25
      clear hS24
      haveI := fld_cell (i := renewK c i j) h3
      (repeat (first | (refine iDr ?_; intro _ _) | refine iHV_1 ?_ | refine fHV_ld1 ?_))
      rename_i w26 hS26
      refine CV_va1 hS26 (renew_of (kind := kindM (renewK c i j) j) (hren.mono (hz16.trans (y21.trans hz24))) (fun hk13 => by
        rw [hfld]
        exact place_in hri0 hop h3 hk13)) ?_
      rintro z27 w27 v27 hz27 hS27 rfl
      clear hS25 hS26
      haveI := fld_set (i := renewK c i j) (n := renewM c (kindM (renewK c i j) j) (fldM (renewK c i j) j)) h3
      (repeat (refine iU_st ?_; intro _ _))
      refine iEnd (st := .busy) (pend := none) ?_
      intro w28 hS28
      refine next _ _ _ _ ?_ hz27 hS28 ⟨j + 1, by omega, by omega, renewK_succ.symm, rfl⟩
      rw [setFld_op]; exact hop
    · rintro i' z24 w24 L' hop hz24 hS24 ⟨j, hj, hj3, rfl, rfl⟩
      have : j = 3 := by omega
      subst this
      refine iRfEnd (st := .ready) (by intro h; cases h) ?_
      intro w25 hS25
      clear hS24
      rw [show renewK c i 3 = newIns c i from rfl] at hS25
      (repeat (first | refine V_run ?_ | refine iV_ld1 ?_ | refine iV_ldN ?_ | (refine iU_st ?_; intro _ _)))
      rename_i w26 hS26
      have hS27 := (hS23.comp hS26).keep [.at b9, .at b2, .at b, .bl Bs2, .bl Bs3, .at r0, .bl (markB rs')]
      rw [List.append_nil] at hS27
      exact back (k + 1, r0 :: rs') _ _ _ ⟨by rw [marks_iface, hmx1], by simp, by simp only; omega, _, z24, y21.trans hz24, hoi'', hS27⟩ (by simp only; omega)
  · have hk2 : k = l0.length := by omega
    subst hk2
    have hrn : renK c l0 l0.length = (trimOk c).ins := by
      rw [renK, List.take_of_length_le (Nat.le_refl _), List.drop_of_length_le (Nat.le_refl _), List.append_nil, ← hl0, List.map_map]; rfl
    have hoi2 := oi'
    rw [hrn] at hoi2
    have hil : (trimOk c).ins.length = l0.length := by rw [← hrn, renK_len (Nat.le_refl _)]
    have hS19 := hS18.bring Bi'
    obtain ⟨z18, hz18, hS20, hv6⟩ := Res.freezeSl (E := El.ins) (e := 38) (xs := (trimOk c).ins) (f := InsM.cells) hS19 hoi2 (by simp only [big]; omega) (fun _ => rfl) (fun _ _ _ => rfl)
    have y18 := hz17.trans hz18
    have y00 := y16.trans y18
    clear hS18 hS19
    exact trimC hS20.self (fun z' w' L' r kk hd => hR z' w' L' r (hS20.comp kk) hd) hmx1 hck (hatc.mono y00) (h2.mono y00) (h3.mono y00) hl2 hl3 (h4.mono y00) (h5.mono y00) (hat8.mono y00) (hvat.mono y00) (hv1.mono y18) o2 (q2'.mono y18) o3 (q3'.mono y18) hv6
end Go.Proofs.YtbeelfopmkbllaaGreatDoor
end

section
/- Trim. -/
set_option linter.unusedVariables false
set_option linter.unusedSimpArgs false
set_option maxRecDepth 20000
set_option synthInstance.maxHeartbeats 4000000
set_option synthInstance.maxSize 20000
set_option maxHeartbeats 1000000
namespace Go.Proofs.YtbeelfopmkbllaaGreatDoor
open Go Q Go.RowKit

abbrev usB (u : UsM) (m1 m2 m3 : Nat) : Bl := [(m1, mK (Value.int .i64) (setK u.s1)), (m2, mK (Value.int .i64) (setK u.s2)), (m3, mK (Value.int .i64) (setK u.s3))]
theorem noCodeR {z : Z} : CodeR z (.agg [nilS, nilS, nilS, nilS, nilS, nilS].toArray) noCode := ⟨_, _, _, _, _, _, rfl, SlR.nil, SlR.nil, SlR.nil, SlR.nil, SlR.nil, SlR.nil⟩
theorem trim_of {z : Z} {w : World} {v : Value} {c : CodeM} (hc : CodeR z v c) : Fn1 20 #[v] z w fun z' r => TrimR z' r c := Fn1.intro fun hS => en20 (by
  unfold vc20
  obtain ⟨a1, a2, a3, a4, a5, a6, k1, k2, k3, k4, k5, k6, rfl, h1, h2, h3, h4, h5, h6⟩ := hc.form
  refine iV_bx ?_
  intro bc w1 hbc hS1
  obtain ⟨zc, hzc, hS2, hatc⟩ := hS1.frz bc
  generalize hRR : (fun (v : Value) (w' : World) => ∃ z' L', Res w z [] w' z' L' ∧ TrimR z' v c) = RR
  have hR : ∀ z' w' L' r, Res w1 zc [] w' z' L' → TrimR z' r c → RR r w' := fun z' w' L' r k hd => by rw [← hRR]; exact ⟨z', L', hS2.comp k, hd⟩
  clear hRR
  have hS3 := hS2.self
  clear hS hS1 hS2
  haveI : CodeZ zc (.agg (codeVs a1 a2 a3 a4 a5 a6 k1 k2 k3 k4 k5 k6 c).toArray) c := ⟨hc.mono hzc⟩
  haveI : Fz zc bc 0 (codeVs a1 a2 a3 a4 a5 a6 k1 k2 k3 k4 k5 k6 c) := ⟨hatc⟩
  haveI : Fz zc bc 5 [.slice a6 c.ins.length k6] := ⟨hatc.fld (i := 5) rfl rfl⟩
  refine iV_al ?_
  intro b2 w2 hb2 hS4
  clear hS3
  (repeat (first | refine V_run ?_ | (refine CV_puz ?_; intro _ _ _ _) | refine fV_ldN ?_))
  rename_i z5 w5 hz5 hS5
  clear hS4
  refine Cond_nd (fun e1 => ?_) (fun e1 => ?_)
  · (repeat (first | refine V_run ?_ | (refine iU_st ?_; intro _ _) | refine iHV_N ?_))
    rename_i w6 hS6
    exact hR _ _ _ _ hS6 ⟨_, _, rfl, by rw [trimM, if_neg e1]; exact noCodeR, by rw [trimAt, if_neg e1]; exact SlR.nil⟩
  obtain ⟨e0, hli, hpa, hri, _, _⟩ := check_ok e1
  have hbd := limits_bd hli
  have hrl := reachM_len (reachBad_ok hli hpa)
  (repeat (refine fV_ldN ?_))
  refine CV_1 (reach_of ((hc.mono hzc).mono hz5)) ?_
  rintro z6 w6 v6 hz6 hS6 hvr
  clear hS5
  obtain ⟨_, ar, kr, rfl, _, helr⟩ := hvr.form
  rw [hrl]
  (repeat (first | refine V_run ?_ | refine fV_ld1 ?_))
  refine iV_ms (by omega) (by omega) ?_
  intro bat w7 hbat hS7
  rw [zeros_eq] at hS7
  clear hS6
  refine iV_al ?_
  intro b8 w8 hb8 hS8
  refine iU_st ?_
  intro w9 hS9
  refine iV_al ?_
  intro b9 w10 hb9 hS10
  refine kV_mm (mk := Value.int .i64) ?_
  intro m1 w11 hm1 hS11
  refine kV_mm (mk := Value.int .i64) ?_
  intro m2 w12 hm2 hS12
  refine kV_mm (mk := Value.int .i64) ?_
  intro m3 w13 hm3 hS13
  clear hS7 hS8 hS9 hS10 hS11 hS12
  refine V_run ?_
  refine iV_al ?_
  intro b10 w14 hb10 hS14
  clear hS13
  (repeat (first | refine V_run ?_ | (refine iU_st ?_; intro _ _) | refine fV_ld1 ?_))
  rename_i w15 hS15
  clear hS14
  have hS16 := hS15.keep [.at b9, .at b8, .at b10, .at m1, .at m2, .at m3, .at bat, .at b2]
  clear hS15
  have hz6' := hz5.trans hz6
  refine LoopG2 (fun (p : Nat × List Nat) y1 y2 w' => marks y1 = p.2 ∧ y2 = .int .i64 p.1 ∧ p.1 ≤ c.ins.length ∧ ∃ Bi vi z', Le z6 z' ∧ OwnIns Bi vi ((rK c p.1).map (insAt c)) ∧ Res w1 zc [] w' z' ((b9, .cells [nilS, nilS, nilS, nilS, nilS, vi].toArray 28 (0, 0)) :: (b8, .cells [.slice (some ⟨bat, 0, none⟩) c.ins.length c.ins.length].toArray 45 (0, 0)) :: (b10, .cells [.map (some m1), .map (some m2), .map (some m3)].toArray 117 (0, 0)) :: (m1, mK (Value.int .i64) (setK (usesK c p.1).s1)) :: (m2, mK (Value.int .i64) (setK (usesK c p.1).s2)) :: (m3, mK (Value.int .i64) (setK (usesK c p.1).s3)) :: (bat, .cells (atV c p.1).toArray 3 (0, 0)) :: (b2, .cells [nilS, nilS, nilS, nilS, nilS, nilS].toArray 28 (0, 0)) :: (Bi ++ markB p.2))) (fun p => c.ins.length - p.1) (0, []) ⟨rfl, rfl, by simp, [], nilS, z6, Le.refl _, OwnSl.nil, ?_⟩ ?_
  · have : atV c 0 = List.replicate c.ins.length (.int .i64 0) := by simp [atV]
    simp only [this]
    exact hS16
  rintro I M ⟨k, rs⟩ x1 y1 w17 m ⟨hmx, rfl, hk, Bi, vi, z17, hz17, oi, hS17⟩ back
  simp only at hmx hk oi hS17
  clear hS16
  obtain ⟨avi, cvi, rfl, _⟩ := oi.form
  obtain ⟨_, ai, ki, he, _, heli⟩ := h6.form
  cases he
  have hrk := @rK_len c k
  have hml : ((rK c k).map (insAt c)).length = (rK c k).length := List.length_map _
  (repeat (refine V_run ?_))
  refine Cond_d (fun h => ?_) (fun h => ?_)
  · have hlt : k < c.ins.length := by omega
    have hi2 : c.ins[k]? = some (insAt c k) := by rw [insAt, List.getD_eq_getElem?_getD, List.getElem?_eq_getElem hlt]; rfl
    obtain ⟨be, offe, cse, rfl, rfl, hate⟩ := heli _ _ hi2
    obtain ⟨br, offr, csr, rfl, rfl, hatr⟩ := helr k (rcAt c k) (by rw [rcAt, List.getD_eq_getElem?_getD, List.getElem?_eq_getElem (by omega)]; rfl)
    haveI : InR (k : Int) (c.ins.length : Nat) := ⟨by omega, by omega⟩
    haveI : InI ((k : Int) + 1) := ⟨by omega⟩
    have ek : (k : Int).toNat * 1 = k := by omega
    haveI : Fz zc be (offe + (k : Int).toNat * 4) (insAt c k).cells := ⟨hate.mono hzc⟩
    haveI : SetN (atV c k) ((k : Int).toNat * 1) [.int .i64 (-1)] ((atV c k).set k (.int .i64 (-1))) := by rw [ek]; exact SetN.at_ (by rw [atV_len hk]; exact hlt)
    have hset2 : SetN ((atV c k).set k (.int .i64 (-1))) ((k : Int).toNat * 1) [.int .i64 ((rK c k).length : Int)] ((atV c k).set k (.int .i64 ((rK c k).length : Int))) := by
      have h9 := SetN.at_ (l := (atV c k).set k (.int .i64 (-1))) (k := k) (u := .int .i64 ((rK c k).length : Int)) (by rw [List.length_set, atV_len hk]; exact hlt)
      rw [List.set_set] at h9; rw [ek]; exact h9
    have hat1 := atV_set (c := c) hlt
    intro K hK
    (repeat (first | refine V_run ?_ | refine fV_ldN ?_))
    refine iV_al ?_
    intro b12 w18 hb12 hS18
    (repeat (first | refine V_run ?_ | refine iV_ld1 ?_ | (refine iU_st ?_; intro _ _)))
    rename_i w19 hS19
    clear hS17 hS18
    refine zV_ld1 (v := .bool (rcAt c k)) (hatr.mono hz17) ?_
    refine V_run ?_
    refine Cond_n (fun e => ?_) (fun e => ?_)
    · have hnew : newAt c k = -1 := by rw [newAt, if_neg (by rw [e]; simp)]
      rw [hnew] at hat1
      rw [hat1] at hS19
      have hr1 : rK c (k + 1) = rK c k := by rw [rK_succ, if_neg (by rw [e]; simp), List.append_nil]
      have hu1 : usesK c (k + 1) = usesK c k := by rw [usesK_succ, if_neg (by rw [e]; simp)]
      refine hK _ _ fun _ => ?_
      (repeat (refine V_run ?_))
      refine back (k + 1, rs) _ _ _ ⟨hmx, by simp, by simp only; omega, Bi, _, z17, hz17, by simp only [hr1]; exact oi, ?_⟩ (by simp only; omega)
      simp only [hu1]
      exact hS19.sublist (List.sublist_cons_self _ _)
    have hnew : newAt c k = ((rK c k).length : Int) := by rw [newAt, if_pos e]
    rw [hnew] at hat1
    rw [hat1] at hset2
    have hr1 : rK c (k + 1) = rK c k ++ [k] := by rw [rK_succ, if_pos e]
    have hu1 : usesK c (k + 1) = markK (insAt c k) 3 (usesK c k) := by rw [usesK_succ, if_pos e]
    have hset2' : SetN ((atV c k).set k (.int .i64 (-1))) ((k : Int).toNat * 1) [.int .i64 ((((rK c k).map (insAt c)).length : Nat) : Int)] (atV c (k + 1)) := by rw [hml]; exact hset2
    (repeat (first | refine V_run ?_ | refine iV_ld1 ?_ | (refine iU_st ?_; intro _ _)))
    rename_i w20 hS20
    clear hS19
    refine CV_1 operands_of ?_
    rintro z21 w21 v21 hz21 hS21 ⟨bo, rfl, hbo⟩
    clear hS20
    intro lp r0 l1' w22 hnew hyp
    have hS22 := hS21.rf hnew
    clear hS21 hnew
    have hS23 := hS22.bringB b12
    have hO := hS23.self
    generalize hii : insAt c k = i at *
    generalize huu : usesK c k = u0 at *
    refine operands_gen (i := i) hO hbo (fun kk i' z' L' => ∃ j : Nat, kk = j ∧ j ≤ 3 ∧ i' = i ∧ L' = (l1', lobj lp .ready none) :: (r0, .deferred (some [])) :: (b9, .cells [nilS, nilS, nilS, nilS, nilS, .slice avi ((rK c k).map (insAt c)).length cvi].toArray 28 (0, 0)) :: (b8, .cells [.slice (some ⟨bat, 0, none⟩) c.ins.length c.ins.length].toArray 45 (0, 0)) :: (b10, .cells [.map (some m1), .map (some m2), .map (some m3)].toArray 117 (0, 0)) :: (m1, mK (Value.int .i64) (setK (markK i j u0).s1)) :: (m2, mK (Value.int .i64) (setK (markK i j u0).s2)) :: (m3, mK (Value.int .i64) (setK (markK i j u0).s3)) :: (bat, .cells (atV c (k + 1)).toArray 3 (0, 0)) :: (b2, .cells [nilS, nilS, nilS, nilS, nilS, nilS].toArray 28 (0, 0)) :: (Bi ++ markB rs))
      (fun _ _ _ _ _ _ h => h) ⟨0, rfl, by omega, rfl, rfl⟩ ?_ ?_
    · rintro kk hk0 hk3 i' z24 w24 G L' K' hop hz24 hS24 ⟨j, rfl, hj, rfl, rfl⟩ next
      have hj3 : j < 3 := by omega
      have h3 : (j : Int) = 0 ∨ (j : Int) = 1 ∨ (j : Int) = 2 := by omega
      refine hyp _ _ _ _ ?_ (Res.at_ (b := l1') hS24)
      refine iBegin ?_
      intro w25 hS25
      clear hS24
      haveI := fld_cell (i := i') h3
      have hmk := markK_succ (i := i') (k := j) (u := u0)
      generalize hmu : markK i' j u0 = mu0 at *
      generalize hkd : kindM i' j = kd at *
      generalize hfd : fldM i' j = fd at *
      (repeat (first | refine V_run ?_ | refine iV_ldN ?_ | (refine CV_pu ?_; intro _ _ _ _)))
      rename_i z26 w26 hz26 hS26
      clear hS25
      have hcl : clsM kd = 1 ∨ clsM kd = 2 ∨ clsM kd = 3 ∨ (clsM kd ≠ 1 ∧ clsM kd ≠ 2 ∧ clsM kd ≠ 3) := by omega
      rcases hcl with e1 | e1 | e1 | ⟨e1, e2, e3⟩
      · have ho : ofR kd m1 m2 m3 = some m1 := by rw [ofR, if_pos e1]
        rw [ho]
        refine Cond_is rfl ?_
        (repeat (refine iV_ld1 ?_))
        refine kU_mu (mk := Value.int .i64) ?_
        intro w27 hS27
        rw [up_set] at hS27
        refine iEnd (st := .busy) (pend := none) ?_
        intro w28 hS28
        refine next _ _ _ _ rfl hz26 hS28 ⟨j + 1, by omega, by omega, rfl, ?_⟩
        rw [hmk, markU, if_pos e1]; rfl
      · have ho : ofR kd m1 m2 m3 = some m2 := by rw [ofR, if_neg (by omega), if_pos e1]
        rw [ho]
        refine Cond_is rfl ?_
        (repeat (refine iV_ld1 ?_))
        refine kU_mu (mk := Value.int .i64) ?_
        intro w27 hS27
        rw [up_set] at hS27
        refine iEnd (st := .busy) (pend := none) ?_
        intro w28 hS28
        refine next _ _ _ _ rfl hz26 hS28 ⟨j + 1, by omega, by omega, rfl, ?_⟩
        rw [hmk, show markU mu0 kd fd = ⟨mu0.s1, insK mu0.s2 fd, mu0.s3⟩ by unfold markU; rw [if_neg (show ¬ clsM kd = 1 by omega), if_pos e1]]; rfl
      · have ho : ofR kd m1 m2 m3 = some m3 := by rw [ofR, if_neg (by omega), if_neg (by omega), if_pos e1]
        rw [ho]
        refine Cond_is rfl ?_
        (repeat (refine iV_ld1 ?_))
        refine kU_mu (mk := Value.int .i64) ?_
        intro w27 hS27
        rw [up_set] at hS27
        refine iEnd (st := .busy) (pend := none) ?_
        intro w28 hS28
        refine next _ _ _ _ rfl hz26 hS28 ⟨j + 1, by omega, by omega, rfl, ?_⟩
        rw [hmk, show markU mu0 kd fd = ⟨mu0.s1, mu0.s2, insK mu0.s3 fd⟩ by unfold markU; rw [if_neg (show ¬ clsM kd = 1 by omega), if_neg (show ¬ clsM kd = 2 by omega), if_pos e1]]; rfl
      · have ho : ofR kd m1 m2 m3 = none := by rw [ofR, if_neg e1, if_neg e2, if_neg e3]
        rw [ho]
        refine Cond_not rfl ?_
        refine iEnd (st := .busy) (pend := none) ?_
        intro w28 hS28
        refine next _ _ _ _ rfl hz26 hS28 ⟨j + 1, by omega, by omega, rfl, ?_⟩
        rw [hmk, markU, if_neg e1, if_neg e2, if_neg e3]; rfl
    · rintro i' z24 w24 L' hop hz24 hS24 ⟨j, hj, hj3, rfl, rfl⟩
      have : j = 3 := by omega
      subst this
      refine iRfEnd (st := .ready) (by intro h; cases h) ?_
      intro w25 hS25
      clear hS24
      (repeat (first | refine V_run ?_ | refine iV_ld1 ?_ | refine iV_ldN ?_))
      refine V_push hS25 oi (by simp only [room]; omega) (by simp only [room]; omega) (by decide) ?_
      intro B26 v26 w26 ho26 hS26
      obtain ⟨a26, c26, rfl, _⟩ := ho26.form
      clear hS25
      (repeat (first | refine V_run ?_ | (refine iU_st ?_; intro _ _)))
      rename_i w27 hS27
      have hS28 := (hS23.comp hS27).keep [.at b9, .at b8, .at b10, .at m1, .at m2, .at m3, .at bat, .at b2, .bl B26, .at r0, .bl (markB rs)]
      rw [List.append_nil] at hS28
      refine hK _ _ fun _ => ?_
      (repeat (refine V_run ?_))
      have hoi' : OwnIns B26 (.slice a26 (((rK c k).map (insAt c)).length + 1) c26) ((rK c (k + 1)).map (insAt c)) := by
        unfold OwnIns
        rw [hr1, List.map_append, List.map_cons, List.map_nil, hii, List.length_append, List.flatMap_append]
        simpa using ho26
      refine back (k + 1, r0 :: rs) _ _ _ ⟨by rw [marks_iface, hmx], by simp, by simp only; omega, B26, .slice a26 (((rK c k).map (insAt c)).length + 1) c26, z24, hz17.trans (hz21.trans hz24), hoi', ?_⟩ (by simp only; omega)
      simp only [hu1]
      exact hS28
  · have hk2 : k = c.ins.length := by omega
    subst hk2
    rw [atV_end] at hS17
    obtain ⟨z18, hz18, hS18, g8⟩ := hS17.frz b8
    obtain ⟨z19, hz19, hS19, g10⟩ := hS18.frz b10
    obtain ⟨z20, hz20, hS20, f1⟩ := hS19.frzO m1
    obtain ⟨z21, hz21, hS21, f2⟩ := hS20.frzO m2
    obtain ⟨z22, hz22, hS22, f3⟩ := hS21.frzO m3
    have hatl : (atM c).length = c.ins.length := by simp [atM]
    obtain ⟨z23, hz23, hS23, hvat⟩ := Res.freezeSl (E := El.int) (e := 3) (B := [(bat, _)]) (v := .slice (some ⟨bat, 0, none⟩) (atM c).length c.ins.length) (xs := atM c) (f := fun x => [Value.int .i64 x]) (hS22.bringB bat) ⟨by rw [← atV_end, atV_len (Nat.le_refl _), hatl]; exact (Nat.mul_one _).symm, .inr ⟨bat, c.ins.length, [], by rw [List.append_nil], rfl, by omega, by simp only [maxLen]; omega, by rw [List.append_nil, ← atV_end, atV_len (Nat.le_refl _)]; exact (Nat.mul_one _).symm⟩⟩ (by simp only [big]; omega) (fun _ => rfl) (fun z x _ => rfl)
    rw [hatl] at hvat
    have hS24 := hS23.keep [.at b9, .at b2, .bl Bi, .bl (markB rs)]
    rw [List.append_nil] at hS24
    have y22 := hz22.trans hz23
    have y21 := hz21.trans y22
    have y20 := hz20.trans y21
    have y19 := hz19.trans y20
    have y17 := hz18.trans y19
    have yz : Le z z23 := hzc.trans (hz6'.trans (hz17.trans y17))
    have ylc : Le zc z23 := hz6'.trans (hz17.trans y17)
    clear hS17 hS18 hS19 hS20 hS21 hS22 hS23
    have hl2 : ∀ l ∈ c.tmpls, l.length ≤ 1000000 := fun l hl => by
      have := hli; unfold limitsM at this; simp only [Bool.and_eq_true, List.all_eq_true] at this
      have := this.2.1 l hl; unfold lim2 at this; simp only [Bool.and_eq_true, decide_eq_true_eq] at this; omega
    have hl3 : ∀ l ∈ c.lists, l.length ≤ 1000000 := fun l hl => by
      have := hli; unfold limitsM at this; simp only [Bool.and_eq_true, List.all_eq_true] at this
      have := this.2.2.2.1 l hl; unfold lim3 at this; simp only [decide_eq_true_eq] at this; omega
    exact trimB hS24.self (fun z' w' L' r kk hd => hR _ _ _ _ (hS24.comp kk) hd) hmx e1 (hatc.mono ylc) (h1.mono yz) (h2.mono yz) (h3.mono yz) hl2 hl3 (h4.mono yz) (h5.mono yz) (g8.mono y19) hvat (g10.mono y20) (y21 _ _ f1) (y22 _ _ f2) (hz23 _ _ f3) oi)
end Go.Proofs.YtbeelfopmkbllaaGreatDoor
end
