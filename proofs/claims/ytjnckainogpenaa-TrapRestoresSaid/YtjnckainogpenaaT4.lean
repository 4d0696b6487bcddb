/- The reference's predicates of strings. -/
import Derived.Test.YtjnckainogpenaaT3
set_option linter.unusedVariables false
set_option maxRecDepth 20000
namespace Go.Proofs.Ytjnckainogpenaa
open Go Q Go.RowKit

/-- A string that memory can hold. -/
class Sm (s : ByteArray) : Prop where
  h : s.size ≤ big
theorem bt_get {s : ByteArray} {i : Nat} {y : UInt8} (h : (bytes s)[i]? = some y) : bt s i = y.toNat := by
  unfold bt
  rw [Int.toNat_natCast, getD_get h]
theorem all_of {s : ByteArray} {p : UInt8 → Bool} (h : ∀ j y, j < s.size → (bytes s)[j]? = some y → p y = true) : (bytes s).all p = true := by
  rw [List.all_eq_true]
  intro x hx
  obtain ⟨j, hj⟩ := List.mem_iff_getElem?.1 hx
  have := (List.getElem?_eq_some_iff.1 hj).1
  exact h j x (by simpa using this) hj
theorem not_all {s : ByteArray} {p : UInt8 → Bool} {j : Nat} {y : UInt8} (h : (bytes s)[j]? = some y) (hp : p y = false) : (bytes s).all p = false := by
  rw [List.all_eq_false]
  exact ⟨y, List.mem_of_getElem? h, by simp [hp]⟩
theorem get_of_lt {s : ByteArray} {i : Nat} (h : i < s.size) : ∃ y, (bytes s)[i]? = some y := ⟨_, get_at h⟩
instance {s : ByteArray} [hs : Sm s] : Pu 62 #[.string s] (.bool (descB s)) := ⟨fun z w => Fn1.intro fun hS => en62 (by
  unfold vc62
  have hbig := hs.h
  refine LoopG1 (fun (i : Nat) x w' => x = .int .i64 i ∧ i ≤ s.size ∧ (∀ j y, j < i → (bytes s)[j]? = some y → plain y.toNat = true) ∧ Res w z [] w' z []) (fun i => s.size - i) 0 ⟨rfl, by omega, fun j y h => absurd h (by omega), hS⟩ ?_
  rintro I M i x w2 m ⟨rfl, h1, h2, hS2⟩ back
  (repeat (first | (refine iDr ?_; intro _ _) | refine V_run ?_ | refine PV_run ?_ | refine HV_run ?_ | refine iV_ld1 ?_ | refine iV_ldN ?_ | (refine iV_bx ?_; intro _ _ _ _) | (refine iV_al ?_; intro _ _ _ _) | (refine iV_mm ?_; intro _ _ _ _) | (refine iU_st ?_; intro _ _) | refine iHV_1 ?_ | refine iHV_N ?_ | refine iRI_1 ?_ | refine iRI_N ?_ | refine Cond_t ?_ | refine Cond_f ?_ | refine JB ?_ | (refine JC ?_; intro _ _ _ _) | (refine J1 ?_; intro _ _) | (refine J0 ?_; intro _ _) | (refine J2 ?_; intro _ _) | (refine J3 ?_; intro _ _) | (refine J4 ?_; intro _ _) | refine K1 ?_ | refine K0 ?_ | refine K2 ?_ | refine K3 ?_ | refine K4 ?_ | (refine CV_pu ?_; intro _ _ _ _) | refine fV_ldN ?_ | refine fV_ld1 ?_ | refine fHV_ldN ?_ | refine fHV_ld1 ?_ | refine NilW_some ?_ | refine iCW_1 ?_ | refine iCW_N ?_ | refine Pk_b ?_))
  refine Cond_d (fun h => ?_) (fun h => ?_)
  · have hlt : i < s.size := by omega
    haveI : InStr s i := ⟨by omega, by omega⟩
    haveI : InI ((i : Int) + 1) := ⟨by simp only [big] at hbig; omega⟩
    obtain ⟨y, hy⟩ := get_of_lt hlt
    (repeat (first | (refine iDr ?_; intro _ _) | refine V_run ?_ | refine PV_run ?_ | refine HV_run ?_ | refine iV_ld1 ?_ | refine iV_ldN ?_ | (refine iV_bx ?_; intro _ _ _ _) | (refine iV_al ?_; intro _ _ _ _) | (refine iV_mm ?_; intro _ _ _ _) | (refine iU_st ?_; intro _ _) | refine iHV_1 ?_ | refine iHV_N ?_ | refine iRI_1 ?_ | refine iRI_N ?_ | refine Cond_t ?_ | refine Cond_f ?_ | refine JB ?_ | (refine JC ?_; intro _ _ _ _) | (refine J1 ?_; intro _ _) | (refine J0 ?_; intro _ _) | (refine J2 ?_; intro _ _) | (refine J3 ?_; intro _ _) | (refine J4 ?_; intro _ _) | refine K1 ?_ | refine K0 ?_ | refine K2 ?_ | refine K3 ?_ | refine K4 ?_ | (refine CV_pu ?_; intro _ _ _ _) | refine fV_ldN ?_ | refine fV_ld1 ?_ | refine fHV_ldN ?_ | refine fHV_ld1 ?_ | refine NilW_some ?_ | refine iCW_1 ?_ | refine iCW_N ?_ | refine Pk_b ?_))
    rw [bt_get hy]
    refine Cond_b (fun h' => ?_) (fun h' => ?_)
    · refine ⟨_, _, hS2, ?_⟩
      rw [descB, not_all hy]
      · simp
      · simp only [cond_eq_ite] at h'
        simp only [plain]
        revert h'
        cases decide ((y.toNat : Int) < 32) <;> simp
    · (repeat (first | (refine iDr ?_; intro _ _) | refine V_run ?_ | refine PV_run ?_ | refine HV_run ?_ | refine iV_ld1 ?_ | refine iV_ldN ?_ | (refine iV_bx ?_; intro _ _ _ _) | (refine iV_al ?_; intro _ _ _ _) | (refine iV_mm ?_; intro _ _ _ _) | (refine iU_st ?_; intro _ _) | refine iHV_1 ?_ | refine iHV_N ?_ | refine iRI_1 ?_ | refine iRI_N ?_ | refine Cond_t ?_ | refine Cond_f ?_ | refine JB ?_ | (refine JC ?_; intro _ _ _ _) | (refine J1 ?_; intro _ _) | (refine J0 ?_; intro _ _) | (refine J2 ?_; intro _ _) | (refine J3 ?_; intro _ _) | (refine J4 ?_; intro _ _) | refine K1 ?_ | refine K0 ?_ | refine K2 ?_ | refine K3 ?_ | refine K4 ?_ | (refine CV_pu ?_; intro _ _ _ _) | refine fV_ldN ?_ | refine fV_ld1 ?_ | refine fHV_ldN ?_ | refine fHV_ld1 ?_ | refine NilW_some ?_ | refine iCW_1 ?_ | refine iCW_N ?_ | refine Pk_b ?_))
      refine back (i + 1) _ _ ⟨by simp, by omega, fun j y' hj hjy => ?_, hS2⟩ (by omega)
      by_cases hji : j = i
      · subst hji; rw [hy] at hjy; cases hjy
        simp only [cond_eq_ite] at h'
        simp only [plain]
        revert h'
        cases decide ((y.toNat : Int) < 32) <;> simp
      · exact h2 j y' (by omega) hjy
  · (repeat (first | (refine iDr ?_; intro _ _) | refine V_run ?_ | refine PV_run ?_ | refine HV_run ?_ | refine iV_ld1 ?_ | refine iV_ldN ?_ | (refine iV_bx ?_; intro _ _ _ _) | (refine iV_al ?_; intro _ _ _ _) | (refine iV_mm ?_; intro _ _ _ _) | (refine iU_st ?_; intro _ _) | refine iHV_1 ?_ | refine iHV_N ?_ | refine iRI_1 ?_ | refine iRI_N ?_ | refine Cond_t ?_ | refine Cond_f ?_ | refine JB ?_ | (refine JC ?_; intro _ _ _ _) | (refine J1 ?_; intro _ _) | (refine J0 ?_; intro _ _) | (refine J2 ?_; intro _ _) | (refine J3 ?_; intro _ _) | (refine J4 ?_; intro _ _) | refine K1 ?_ | refine K0 ?_ | refine K2 ?_ | refine K3 ?_ | refine K4 ?_ | (refine CV_pu ?_; intro _ _ _ _) | refine fV_ldN ?_ | refine fV_ld1 ?_ | refine fHV_ldN ?_ | refine fHV_ld1 ?_ | refine NilW_some ?_ | refine iCW_1 ?_ | refine iCW_N ?_ | refine Pk_b ?_))
    refine ⟨_, _, hS2, ?_⟩
    rw [descB, all_of fun j y hj hy => h2 j y (by omega) hy]
    simp
    omega)⟩
def digB (c : Int) : Bool := (decide (48 ≤ c) && decide (c ≤ 57)) || decide (c = 46)
def letB (c : Int) : Bool := (decide (65 ≤ c) && decide (c ≤ 90)) || decide (c = 95) || decide (c = 33) || decide (c = 63)
def symB (s : ByteArray) : Bool := ((bytes s).all fun c => digB c.toNat || letB c.toNat) && !(decide (0 < s.size) && digB (bt s 0)) && decide (0 < s.size) && decide (s.size ≤ 40)
theorem symC (c : Int) (i : Nat) : (bif
          bif
              !bif bif decide (c ≥ 48) then decide (c ≤ 57) else false then true
                else decide (c = 46) then
            !bif
                  bif
                      bif bif decide (c ≥ 65) then decide (c ≤ 90) else false then true
                      else decide (c = 95) then
                    true
                  else decide (c = 33) then
                true
              else decide (c = 63)
          else false then
        true
      else
        bif decide ((i : Int) = 0) then
          bif bif decide (c ≥ 48) then decide (c ≤ 57) else false then true else decide (c = 46)
        else false) = (!(digB c || letB c) || (decide ((i : Int) = 0) && digB c)) := by
  simp only [digB, letB, ge_iff_le]
  generalize decide (48 ≤ c) = a1
  generalize decide (c ≤ 57) = a2
  generalize decide (c = 46) = a3
  generalize decide (65 ≤ c) = a4
  generalize decide (c ≤ 90) = a5
  generalize decide (c = 95) = a6
  generalize decide (c = 33) = a7
  generalize decide (c = 63) = a8
  generalize decide ((i : Int) = 0) = a9
  revert a1 a2 a3 a4 a5 a6 a7 a8 a9
  decide
instance {s : ByteArray} [hs : Sm s] : Pu 94 #[.string s] (.bool (symB s)) := ⟨fun z w => Fn1.intro fun hS => en94 (by
  unfold vc94
  have hbig := hs.h
  refine LoopG1 (fun (i : Nat) x w' => x = .int .i64 i ∧ i ≤ s.size ∧ (∀ j y, j < i → (bytes s)[j]? = some y → (digB y.toNat || letB y.toNat) = true) ∧ (0 < i → digB (bt s 0) = false) ∧ Res w z [] w' z []) (fun i => s.size - i) 0 ⟨rfl, by omega, fun j y h => absurd h (by omega), fun h => absurd h (by omega), hS⟩ ?_
  rintro I M i x w2 m ⟨rfl, h1, h2, h3, hS2⟩ back
  (repeat (first | (refine iDr ?_; intro _ _) | refine V_run ?_ | refine PV_run ?_ | refine HV_run ?_ | refine iV_ld1 ?_ | refine iV_ldN ?_ | (refine iV_bx ?_; intro _ _ _ _) | (refine iV_al ?_; intro _ _ _ _) | (refine iV_mm ?_; intro _ _ _ _) | (refine iU_st ?_; intro _ _) | refine iHV_1 ?_ | refine iHV_N ?_ | refine iRI_1 ?_ | refine iRI_N ?_ | refine Cond_t ?_ | refine Cond_f ?_ | refine JB ?_ | (refine JC ?_; intro _ _ _ _) | (refine J1 ?_; intro _ _) | (refine J0 ?_; intro _ _) | (refine J2 ?_; intro _ _) | (refine J3 ?_; intro _ _) | (refine J4 ?_; intro _ _) | refine K1 ?_ | refine K0 ?_ | refine K2 ?_ | refine K3 ?_ | refine K4 ?_ | (refine CV_pu ?_; intro _ _ _ _) | refine fV_ldN ?_ | refine fV_ld1 ?_ | refine fHV_ldN ?_ | refine fHV_ld1 ?_ | refine NilW_some ?_ | refine iCW_1 ?_ | refine iCW_N ?_ | refine Pk_b ?_))
  refine Cond_d (fun h => ?_) (fun h => ?_)
  · have hlt : i < s.size := by omega
    haveI : InStr s i := ⟨by omega, by omega⟩
    haveI : InI ((i : Int) + 1) := ⟨by simp only [big] at hbig; omega⟩
    obtain ⟨y, hy⟩ := get_of_lt hlt
    (repeat (first | (refine iDr ?_; intro _ _) | refine V_run ?_ | refine PV_run ?_ | refine HV_run ?_ | refine iV_ld1 ?_ | refine iV_ldN ?_ | (refine iV_bx ?_; intro _ _ _ _) | (refine iV_al ?_; intro _ _ _ _) | (refine iV_mm ?_; intro _ _ _ _) | (refine iU_st ?_; intro _ _) | refine iHV_1 ?_ | refine iHV_N ?_ | refine iRI_1 ?_ | refine iRI_N ?_ | refine Cond_t ?_ | refine Cond_f ?_ | refine JB ?_ | (refine JC ?_; intro _ _ _ _) | (refine J1 ?_; intro _ _) | (refine J0 ?_; intro _ _) | (refine J2 ?_; intro _ _) | (refine J3 ?_; intro _ _) | (refine J4 ?_; intro _ _) | refine K1 ?_ | refine K0 ?_ | refine K2 ?_ | refine K3 ?_ | refine K4 ?_ | (refine CV_pu ?_; intro _ _ _ _) | refine fV_ldN ?_ | refine fV_ld1 ?_ | refine fHV_ldN ?_ | refine fHV_ld1 ?_ | refine NilW_some ?_ | refine iCW_1 ?_ | refine iCW_N ?_ | refine Pk_b ?_))
    rw [symC, bt_get hy]
    refine Cond_b (fun h' => ?_) (fun h' => ?_)
    · refine ⟨_, _, hS2, ?_⟩
      simp only [Bool.or_eq_true, Bool.not_eq_true', Bool.and_eq_true, decide_eq_true_eq] at h'
      rcases h' with h' | ⟨h', h''⟩
      · rw [symB, not_all hy h']; rfl
      · have : i = 0 := by omega
        subst this
        have e := bt_get hy
        rw [symB, show bt s 0 = y.toNat from e, h'', decide_eq_true hlt]
        simp
    · simp only [Bool.or_eq_false_iff, Bool.not_eq_false', Bool.and_eq_false_iff, decide_eq_false_iff_not] at h'
      (repeat (first | (refine iDr ?_; intro _ _) | refine V_run ?_ | refine PV_run ?_ | refine HV_run ?_ | refine iV_ld1 ?_ | refine iV_ldN ?_ | (refine iV_bx ?_; intro _ _ _ _) | (refine iV_al ?_; intro _ _ _ _) | (refine iV_mm ?_; intro _ _ _ _) | (refine iU_st ?_; intro _ _) | refine iHV_1 ?_ | refine iHV_N ?_ | refine iRI_1 ?_ | refine iRI_N ?_ | refine Cond_t ?_ | refine Cond_f ?_ | refine JB ?_ | (refine JC ?_; intro _ _ _ _) | (refine J1 ?_; intro _ _) | (refine J0 ?_; intro _ _) | (refine J2 ?_; intro _ _) | (refine J3 ?_; intro _ _) | (refine J4 ?_; intro _ _) | refine K1 ?_ | refine K0 ?_ | refine K2 ?_ | refine K3 ?_ | refine K4 ?_ | (refine CV_pu ?_; intro _ _ _ _) | refine fV_ldN ?_ | refine fV_ld1 ?_ | refine fHV_ldN ?_ | refine fHV_ld1 ?_ | refine NilW_some ?_ | refine iCW_1 ?_ | refine iCW_N ?_ | refine Pk_b ?_))
      refine back (i + 1) _ _ ⟨by simp, by omega, fun j y' hj hjy => ?_, fun _ => ?_, hS2⟩ (by omega)
      · by_cases hji : j = i
        · subst hji; rw [hy] at hjy; cases hjy; exact h'.1
        · exact h2 j y' (by omega) hjy
      · by_cases hi0 : i = 0
        · subst hi0
          rcases h'.2 with h'' | h''
          · exact absurd rfl h''
          · rw [← h'']; exact congrArg digB (bt_get hy)
        · exact h3 (by omega)
  · (repeat (first | (refine iDr ?_; intro _ _) | refine V_run ?_ | refine PV_run ?_ | refine HV_run ?_ | refine iV_ld1 ?_ | refine iV_ldN ?_ | (refine iV_bx ?_; intro _ _ _ _) | (refine iV_al ?_; intro _ _ _ _) | (refine iV_mm ?_; intro _ _ _ _) | (refine iU_st ?_; intro _ _) | refine iHV_1 ?_ | refine iHV_N ?_ | refine iRI_1 ?_ | refine iRI_N ?_ | refine Cond_t ?_ | refine Cond_f ?_ | refine JB ?_ | (refine JC ?_; intro _ _ _ _) | (refine J1 ?_; intro _ _) | (refine J0 ?_; intro _ _) | (refine J2 ?_; intro _ _) | (refine J3 ?_; intro _ _) | (refine J4 ?_; intro _ _) | refine K1 ?_ | refine K0 ?_ | refine K2 ?_ | refine K3 ?_ | refine K4 ?_ | (refine CV_pu ?_; intro _ _ _ _) | refine fV_ldN ?_ | refine fV_ld1 ?_ | refine fHV_ldN ?_ | refine fHV_ld1 ?_ | refine NilW_some ?_ | refine iCW_1 ?_ | refine iCW_N ?_ | refine Pk_b ?_))
    refine ⟨_, _, hS2, ?_⟩
    rw [symB, all_of fun j y hj hy => h2 j y (by omega) hy]
    by_cases h0 : 0 < s.size
    · have := h3 (by omega)
      simp [h0, this]
      omega
    · simp [h0])⟩
instance {s : ByteArray} [hs : Sm s] : Pu 61 #[.string s] (.bool (labB s)) := ⟨fun z w => Fn1.intro fun hS => en61 (by
  unfold vc61
  have hbig := hs.h
  refine LoopG1 (fun (i : Nat) x w' => x = .int .i64 i ∧ i ≤ s.size ∧ (∀ j y, j < i → (bytes s)[j]? = some y → decide ((y.toNat : Int) ≠ 46) = true) ∧ Res w z [] w' z []) (fun i => s.size - i) 0 ⟨rfl, by omega, fun j y h => absurd h (by omega), hS⟩ ?_
  rintro I M i x w2 m ⟨rfl, h1, h2, hS2⟩ back
  (repeat (first | (refine iDr ?_; intro _ _) | refine V_run ?_ | refine PV_run ?_ | refine HV_run ?_ | refine iV_ld1 ?_ | refine iV_ldN ?_ | (refine iV_bx ?_; intro _ _ _ _) | (refine iV_al ?_; intro _ _ _ _) | (refine iV_mm ?_; intro _ _ _ _) | (refine iU_st ?_; intro _ _) | refine iHV_1 ?_ | refine iHV_N ?_ | refine iRI_1 ?_ | refine iRI_N ?_ | refine Cond_t ?_ | refine Cond_f ?_ | refine JB ?_ | (refine JC ?_; intro _ _ _ _) | (refine J1 ?_; intro _ _) | (refine J0 ?_; intro _ _) | (refine J2 ?_; intro _ _) | (refine J3 ?_; intro _ _) | (refine J4 ?_; intro _ _) | refine K1 ?_ | refine K0 ?_ | refine K2 ?_ | refine K3 ?_ | refine K4 ?_ | (refine CV_pu ?_; intro _ _ _ _) | refine fV_ldN ?_ | refine fV_ld1 ?_ | refine fHV_ldN ?_ | refine fHV_ld1 ?_ | refine NilW_some ?_ | refine iCW_1 ?_ | refine iCW_N ?_ | refine Pk_b ?_))
  refine Cond_d (fun h => ?_) (fun h => ?_)
  · have hlt : i < s.size := by omega
    haveI : InStr s i := ⟨by omega, by omega⟩
    haveI : InI ((i : Int) + 1) := ⟨by simp only [big] at hbig; omega⟩
    obtain ⟨y, hy⟩ := get_of_lt hlt
    (repeat (first | (refine iDr ?_; intro _ _) | refine V_run ?_ | refine PV_run ?_ | refine HV_run ?_ | refine iV_ld1 ?_ | refine iV_ldN ?_ | (refine iV_bx ?_; intro _ _ _ _) | (refine iV_al ?_; intro _ _ _ _) | (refine iV_mm ?_; intro _ _ _ _) | (refine iU_st ?_; intro _ _) | refine iHV_1 ?_ | refine iHV_N ?_ | refine iRI_1 ?_ | refine iRI_N ?_ | refine Cond_t ?_ | refine Cond_f ?_ | refine JB ?_ | (refine JC ?_; intro _ _ _ _) | (refine J1 ?_; intro _ _) | (refine J0 ?_; intro _ _) | (refine J2 ?_; intro _ _) | (refine J3 ?_; intro _ _) | (refine J4 ?_; intro _ _) | refine K1 ?_ | refine K0 ?_ | refine K2 ?_ | refine K3 ?_ | refine K4 ?_ | (refine CV_pu ?_; intro _ _ _ _) | refine fV_ldN ?_ | refine fV_ld1 ?_ | refine fHV_ldN ?_ | refine fHV_ld1 ?_ | refine NilW_some ?_ | refine iCW_1 ?_ | refine iCW_N ?_ | refine Pk_b ?_))
    rw [bt_get hy]
    refine Cond_d (fun h' => ?_) (fun h' => ?_)
    · refine ⟨_, _, hS2, ?_⟩
      rw [labB, not_all hy]
      · simp
      · simp [oddB, in3, h']
    · (repeat (first | (refine iDr ?_; intro _ _) | refine V_run ?_ | refine PV_run ?_ | refine HV_run ?_ | refine iV_ld1 ?_ | refine iV_ldN ?_ | (refine iV_bx ?_; intro _ _ _ _) | (refine iV_al ?_; intro _ _ _ _) | (refine iV_mm ?_; intro _ _ _ _) | (refine iU_st ?_; intro _ _) | refine iHV_1 ?_ | refine iHV_N ?_ | refine iRI_1 ?_ | refine iRI_N ?_ | refine Cond_t ?_ | refine Cond_f ?_ | refine JB ?_ | (refine JC ?_; intro _ _ _ _) | (refine J1 ?_; intro _ _) | (refine J0 ?_; intro _ _) | (refine J2 ?_; intro _ _) | (refine J3 ?_; intro _ _) | (refine J4 ?_; intro _ _) | refine K1 ?_ | refine K0 ?_ | refine K2 ?_ | refine K3 ?_ | refine K4 ?_ | (refine CV_pu ?_; intro _ _ _ _) | refine fV_ldN ?_ | refine fV_ld1 ?_ | refine fHV_ldN ?_ | refine fHV_ld1 ?_ | refine NilW_some ?_ | refine iCW_1 ?_ | refine iCW_N ?_ | refine Pk_b ?_))
      refine back (i + 1) _ _ ⟨by simp, by omega, fun j y' hj hjy => ?_, hS2⟩ (by omega)
      by_cases hji : j = i
      · subst hji; rw [hy] at hjy; cases hjy; simpa using h'
      · exact h2 j y' (by omega) hjy
  · (repeat (first | (refine iDr ?_; intro _ _) | refine V_run ?_ | refine PV_run ?_ | refine HV_run ?_ | refine iV_ld1 ?_ | refine iV_ldN ?_ | (refine iV_bx ?_; intro _ _ _ _) | (refine iV_al ?_; intro _ _ _ _) | (refine iV_mm ?_; intro _ _ _ _) | (refine iU_st ?_; intro _ _) | refine iHV_1 ?_ | refine iHV_N ?_ | refine iRI_1 ?_ | refine iRI_N ?_ | refine Cond_t ?_ | refine Cond_f ?_ | refine JB ?_ | (refine JC ?_; intro _ _ _ _) | (refine J1 ?_; intro _ _) | (refine J0 ?_; intro _ _) | (refine J2 ?_; intro _ _) | (refine J3 ?_; intro _ _) | (refine J4 ?_; intro _ _) | refine K1 ?_ | refine K0 ?_ | refine K2 ?_ | refine K3 ?_ | refine K4 ?_ | (refine CV_pu ?_; intro _ _ _ _) | refine fV_ldN ?_ | refine fV_ld1 ?_ | refine fHV_ldN ?_ | refine fHV_ld1 ?_ | refine NilW_some ?_ | refine iCW_1 ?_ | refine iCW_N ?_ | refine Pk_b ?_))
    refine ⟨_, _, ‹_›, ?_⟩
    have hall := all_of fun j y hj hy => h2 j y (by omega) hy
    congr 1
    simp only [symB, labB]
    have e1 : ((bytes s).all fun c => digB c.toNat || letB c.toNat) = (bytes s).all fun c => !oddB c.toNat := by
      rw [Bool.eq_iff_iff]
      simp only [List.all_eq_true] at hall ⊢
      constructor
      · intro hh x hx
        have a := hh x hx
        have b := hall x hx
        simp only [digB, letB, oddB, in3] at a b ⊢
        simp at a b ⊢
        omega
      · intro hh x hx
        have a := hh x hx
        simp only [digB, letB, oddB, in3] at a ⊢
        simp at a ⊢
        omega
    rw [e1]
    by_cases h0 : 0 < s.size
    · obtain ⟨y, hy⟩ := get_of_lt h0
      have e2 := bt_get hy
      have hne : s ≠ ⟨#[]⟩ := by intro e; rw [e] at h0; exact absurd h0 (by decide)
      have hb := h2 0 y (by omega) hy
      simp only [Int.natCast_zero] at e2
      rw [show bt s 0 = y.toNat from e2, decide_eq_true h0, decide_eq_false hne]
      have : (!(digB y.toNat)) = (decide ((y.toNat : Int) < 48) || decide ((y.toNat : Int) > 57)) := by
        simp only [digB]
        simp at hb ⊢
        rw [Bool.eq_iff_iff]
        simp
        omega
      rw [Bool.true_and, this]
      simp only [Bool.not_false, Bool.true_and, Bool.and_true]
      cases ((bytes s).all fun c => !oddB c.toNat) <;> cases (decide (s.size ≤ 40)) <;> simp
    · have h00 : s.size = 0 := by omega
      have : s = ⟨#[]⟩ := by obtain ⟨d⟩ := s; exact congrArg ByteArray.mk (Array.eq_empty_of_size_eq_zero h00)
      rw [decide_eq_true this, decide_eq_false h0]
      simp)⟩
end Go.Proofs.Ytjnckainogpenaa
