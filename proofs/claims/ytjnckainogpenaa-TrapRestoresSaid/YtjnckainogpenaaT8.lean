/- Equality of states, as the program and the reference have it. -/
import Derived.Test.YtjnckainogpenaaT7
set_option linter.unusedVariables false
set_option maxRecDepth 20000
set_option synthInstance.maxHeartbeats 400000
set_option synthInstance.maxSize 4000
namespace Go.Proofs.Ytjnckainogpenaa
open Go Q Go.RowKit

def FrM.eqb (f g : FrM) : Bool := listEq TrM.eqb f.traps g.traps && listEq RaM.eqb f.pend g.pend && f.info.eqb g.info
theorem FrM.eqb_iff {a b : FrM} : a.eqb b = true ↔ a = b := by
  obtain ⟨x1, x2, x3⟩ := a; obtain ⟨y1, y2, y3⟩ := b
  simp only [FrM.eqb, Bool.and_eq_true, listEq_iff (fun x y => TrM.eqb_iff), listEq_iff (fun x y => RaM.eqb_iff), InM.eqb_iff, FrM.mk.injEq, and_assoc]
def same (s t : StM) : Bool := listEq FrM.eqb s t
theorem same_iff {s t : StM} : same s t = true ↔ s = t := listEq_iff fun x y => FrM.eqb_iff
theorem same1 {v v' : Value} {f g : FrM} {z : Z} {w : World} (hf : FrR z v f) (hg : FrR z v' g) : Fn1 78 #[v, v'] z w fun _ r => r = .bool (f.eqb g) := Fn1.intro fun hS => en78 (by
  unfold vc78
  obtain ⟨cs, rfl, v1, v2, rfl, hv1, hv2, hd⟩ := hf
  obtain ⟨cs', rfl, v1', v2', rfl, hv1', hv2', hd'⟩ := hg
  obtain ⟨hb1, a1, cap1, rfl, hc1, hel1⟩ := hv1.form
  obtain ⟨hb2, a2, cap2, rfl, hc2, hel2⟩ := hv2.form
  obtain ⟨hb1', a1', cap1', rfl, hc1', hel1'⟩ := hv1'.form
  obtain ⟨hb2', a2', cap2', rfl, hc2', hel2'⟩ := hv2'.form
  dsimp only [InM.cells]
  (repeat (first | (refine iDr ?_; intro _ _) | refine V_run ?_ | refine PV_run ?_ | refine HV_run ?_ | refine iV_ld1 ?_ | refine iV_ldN ?_ | (refine iV_bx ?_; intro _ _ _ _) | (refine iV_al ?_; intro _ _ _ _) | (refine iV_mm ?_; intro _ _ _ _) | (refine iU_st ?_; intro _ _) | refine iHV_1 ?_ | refine iHV_N ?_ | refine iRI_1 ?_ | refine iRI_N ?_ | refine Cond_t ?_ | refine Cond_f ?_ | refine JB ?_ | (refine JC ?_; intro _ _ _ _) | (refine J1 ?_; intro _ _) | (refine J0 ?_; intro _ _) | (refine J2 ?_; intro _ _) | (refine J3 ?_; intro _ _) | (refine J4 ?_; intro _ _) | refine K1 ?_ | refine K0 ?_ | refine K2 ?_ | refine K3 ?_ | refine K4 ?_ | (refine CV_pu ?_; intro _ _ _ _) | refine fV_ldN ?_ | refine fV_ld1 ?_ | refine fHV_ldN ?_ | refine fHV_ld1 ?_ | refine NilW_some ?_ | refine iCW_1 ?_ | refine iCW_N ?_ | refine Pk_b ?_))
  refine CV_1z (fun hz => equalTraps (hv1.mono hz) (hv1'.mono hz)) ?_
  rintro z9 w9 v9 hle9 hS9 rfl
  (repeat (first | (refine iDr ?_; intro _ _) | refine V_run ?_ | refine PV_run ?_ | refine HV_run ?_ | refine iV_ld1 ?_ | refine iV_ldN ?_ | (refine iV_bx ?_; intro _ _ _ _) | (refine iV_al ?_; intro _ _ _ _) | (refine iV_mm ?_; intro _ _ _ _) | (refine iU_st ?_; intro _ _) | refine iHV_1 ?_ | refine iHV_N ?_ | refine iRI_1 ?_ | refine iRI_N ?_ | refine Cond_t ?_ | refine Cond_f ?_ | refine JB ?_ | (refine JC ?_; intro _ _ _ _) | (refine J1 ?_; intro _ _) | (refine J0 ?_; intro _ _) | (refine J2 ?_; intro _ _) | (refine J3 ?_; intro _ _) | (refine J4 ?_; intro _ _) | refine K1 ?_ | refine K0 ?_ | refine K2 ?_ | refine K3 ?_ | refine K4 ?_ | (refine CV_pu ?_; intro _ _ _ _) | refine fV_ldN ?_ | refine fV_ld1 ?_ | refine fHV_ldN ?_ | refine fHV_ld1 ?_ | refine NilW_some ?_ | refine iCW_1 ?_ | refine iCW_N ?_ | refine Pk_b ?_))
  refine Cond_b (fun h1 => ?_) (fun h1 => ?_)
  · (repeat (first | (refine iDr ?_; intro _ _) | refine V_run ?_ | refine PV_run ?_ | refine HV_run ?_ | refine iV_ld1 ?_ | refine iV_ldN ?_ | (refine iV_bx ?_; intro _ _ _ _) | (refine iV_al ?_; intro _ _ _ _) | (refine iV_mm ?_; intro _ _ _ _) | (refine iU_st ?_; intro _ _) | refine iHV_1 ?_ | refine iHV_N ?_ | refine iRI_1 ?_ | refine iRI_N ?_ | refine Cond_t ?_ | refine Cond_f ?_ | refine JB ?_ | (refine JC ?_; intro _ _ _ _) | (refine J1 ?_; intro _ _) | (refine J0 ?_; intro _ _) | (refine J2 ?_; intro _ _) | (refine J3 ?_; intro _ _) | (refine J4 ?_; intro _ _) | refine K1 ?_ | refine K0 ?_ | refine K2 ?_ | refine K3 ?_ | refine K4 ?_ | (refine CV_pu ?_; intro _ _ _ _) | refine fV_ldN ?_ | refine fV_ld1 ?_ | refine fHV_ldN ?_ | refine fHV_ld1 ?_ | refine NilW_some ?_ | refine iCW_1 ?_ | refine iCW_N ?_ | refine Pk_b ?_))
    refine CV_1z (fun hz => equalPend (hv2.mono hz) (hv2'.mono hz)) ?_
    rintro z8 w8 v8 hle8 hS8 rfl
    (repeat (first | (refine iDr ?_; intro _ _) | refine V_run ?_ | refine PV_run ?_ | refine HV_run ?_ | refine iV_ld1 ?_ | refine iV_ldN ?_ | (refine iV_bx ?_; intro _ _ _ _) | (refine iV_al ?_; intro _ _ _ _) | (refine iV_mm ?_; intro _ _ _ _) | (refine iU_st ?_; intro _ _) | refine iHV_1 ?_ | refine iHV_N ?_ | refine iRI_1 ?_ | refine iRI_N ?_ | refine Cond_t ?_ | refine Cond_f ?_ | refine JB ?_ | (refine JC ?_; intro _ _ _ _) | (refine J1 ?_; intro _ _) | (refine J0 ?_; intro _ _) | (refine J2 ?_; intro _ _) | (refine J3 ?_; intro _ _) | (refine J4 ?_; intro _ _) | refine K1 ?_ | refine K0 ?_ | refine K2 ?_ | refine K3 ?_ | refine K4 ?_ | (refine CV_pu ?_; intro _ _ _ _) | refine fV_ldN ?_ | refine fV_ld1 ?_ | refine fHV_ldN ?_ | refine fHV_ld1 ?_ | refine NilW_some ?_ | refine iCW_1 ?_ | refine iCW_N ?_ | refine Pk_b ?_))
    refine ⟨_, _, ‹_›, ?_⟩
    rw [FrM.eqb, h1]
    cases listEq RaM.eqb f.pend g.pend <;> rfl
  · (repeat (first | (refine iDr ?_; intro _ _) | refine V_run ?_ | refine PV_run ?_ | refine HV_run ?_ | refine iV_ld1 ?_ | refine iV_ldN ?_ | (refine iV_bx ?_; intro _ _ _ _) | (refine iV_al ?_; intro _ _ _ _) | (refine iV_mm ?_; intro _ _ _ _) | (refine iU_st ?_; intro _ _) | refine iHV_1 ?_ | refine iHV_N ?_ | refine iRI_1 ?_ | refine iRI_N ?_ | refine Cond_t ?_ | refine Cond_f ?_ | refine JB ?_ | (refine JC ?_; intro _ _ _ _) | (refine J1 ?_; intro _ _) | (refine J0 ?_; intro _ _) | (refine J2 ?_; intro _ _) | (refine J3 ?_; intro _ _) | (refine J4 ?_; intro _ _) | refine K1 ?_ | refine K0 ?_ | refine K2 ?_ | refine K3 ?_ | refine K4 ?_ | (refine CV_pu ?_; intro _ _ _ _) | refine fV_ldN ?_ | refine fV_ld1 ?_ | refine fHV_ldN ?_ | refine fHV_ld1 ?_ | refine NilW_some ?_ | refine iCW_1 ?_ | refine iCW_N ?_ | refine Pk_b ?_))
    exact ⟨_, _, ‹_›, by rw [FrM.eqb, h1]; rfl⟩)
theorem equalFrames {v v' fv : Value} {s t : StM} {z : Z} {w : World} (hu : SlR El.frame z v s) (hu' : SlR El.frame z v' t) (hf : ∀ z' w' v v' x y, FrR z' v x → FrR z' v' y → Va1 fv #[v, v'] z' w' fun _ r => r = .bool (x.eqb y)) :
    Fn1 77 #[v, v', fv] z w fun _ r => r = .bool (same s t) := Fn1.intro fun hS => en77 (by
  unfold vc77
  obtain ⟨hb, a, cap, rfl, hc, hel⟩ := hu.form
  obtain ⟨hb', a', cap', rfl, hc', hel'⟩ := hu'.form
  (repeat (first | (refine iDr ?_; intro _ _) | refine V_run ?_ | refine PV_run ?_ | refine HV_run ?_ | refine iV_ld1 ?_ | refine iV_ldN ?_ | (refine iV_bx ?_; intro _ _ _ _) | (refine iV_al ?_; intro _ _ _ _) | (refine iV_mm ?_; intro _ _ _ _) | (refine iU_st ?_; intro _ _) | refine iHV_1 ?_ | refine iHV_N ?_ | refine iRI_1 ?_ | refine iRI_N ?_ | refine Cond_t ?_ | refine Cond_f ?_ | refine JB ?_ | (refine JC ?_; intro _ _ _ _) | (refine J1 ?_; intro _ _) | (refine J0 ?_; intro _ _) | (refine J2 ?_; intro _ _) | (refine J3 ?_; intro _ _) | (refine J4 ?_; intro _ _) | refine K1 ?_ | refine K0 ?_ | refine K2 ?_ | refine K3 ?_ | refine K4 ?_ | (refine CV_pu ?_; intro _ _ _ _) | refine fV_ldN ?_ | refine fV_ld1 ?_ | refine fHV_ldN ?_ | refine fHV_ld1 ?_ | refine NilW_some ?_ | refine iCW_1 ?_ | refine iCW_N ?_ | refine Pk_b ?_))
  refine Cond_nd (fun h => ?_) (fun h => ?_)
  · exact ⟨_, _, ‹_›, by rw [same, listEq_ne (by omega)]⟩
  · (repeat (first | (refine iDr ?_; intro _ _) | refine V_run ?_ | refine PV_run ?_ | refine HV_run ?_ | refine iV_ld1 ?_ | refine iV_ldN ?_ | (refine iV_bx ?_; intro _ _ _ _) | (refine iV_al ?_; intro _ _ _ _) | (refine iV_mm ?_; intro _ _ _ _) | (refine iU_st ?_; intro _ _) | refine iHV_1 ?_ | refine iHV_N ?_ | refine iRI_1 ?_ | refine iRI_N ?_ | refine Cond_t ?_ | refine Cond_f ?_ | refine JB ?_ | (refine JC ?_; intro _ _ _ _) | (refine J1 ?_; intro _ _) | (refine J0 ?_; intro _ _) | (refine J2 ?_; intro _ _) | (refine J3 ?_; intro _ _) | (refine J4 ?_; intro _ _) | refine K1 ?_ | refine K0 ?_ | refine K2 ?_ | refine K3 ?_ | refine K4 ?_ | (refine CV_pu ?_; intro _ _ _ _) | refine fV_ldN ?_ | refine fV_ld1 ?_ | refine fHV_ldN ?_ | refine fHV_ld1 ?_ | refine NilW_some ?_ | refine iCW_1 ?_ | refine iCW_N ?_ | refine Pk_b ?_))
    refine LoopG1 (fun (i : Nat) x w' => x = .int .i64 i ∧ i ≤ s.length ∧ listEq FrM.eqb s t = listEq FrM.eqb (s.drop i) (t.drop i) ∧ ∃ z', Res w z [] w' z' []) (fun i => s.length - i) 0 ⟨rfl, by omega, rfl, _, hS⟩ ?_
    rintro I M i x w2 m ⟨rfl, h1, h2, z2, hS2⟩ back
    (repeat (first | (refine iDr ?_; intro _ _) | refine V_run ?_ | refine PV_run ?_ | refine HV_run ?_ | refine iV_ld1 ?_ | refine iV_ldN ?_ | (refine iV_bx ?_; intro _ _ _ _) | (refine iV_al ?_; intro _ _ _ _) | (refine iV_mm ?_; intro _ _ _ _) | (refine iU_st ?_; intro _ _) | refine iHV_1 ?_ | refine iHV_N ?_ | refine iRI_1 ?_ | refine iRI_N ?_ | refine Cond_t ?_ | refine Cond_f ?_ | refine JB ?_ | (refine JC ?_; intro _ _ _ _) | (refine J1 ?_; intro _ _) | (refine J0 ?_; intro _ _) | (refine J2 ?_; intro _ _) | (refine J3 ?_; intro _ _) | (refine J4 ?_; intro _ _) | refine K1 ?_ | refine K0 ?_ | refine K2 ?_ | refine K3 ?_ | refine K4 ?_ | (refine CV_pu ?_; intro _ _ _ _) | refine fV_ldN ?_ | refine fV_ld1 ?_ | refine fHV_ldN ?_ | refine fHV_ld1 ?_ | refine NilW_some ?_ | refine iCW_1 ?_ | refine iCW_N ?_ | refine Pk_b ?_))
    refine Cond_d (fun hh => ?_) (fun hh => ?_)
    · have hlt : i < s.length := by omega
      have hlt' : i < t.length := by omega
      obtain ⟨b, off, cs, rfl, hr, hat⟩ := hel i _ (List.getElem?_eq_getElem hlt)
      obtain ⟨b', off', cs', rfl, hr', hat'⟩ := hel' i _ (List.getElem?_eq_getElem hlt')
      haveI : InR (i : Int) s.length := ⟨by omega, by omega⟩
      haveI : InR (i : Int) t.length := ⟨by omega, by omega⟩
      haveI : InI ((i : Int) + 1) := ⟨by simp only [big] at hb; omega⟩
      obtain ⟨u1, u2, rfl, hu1, hu2, hd⟩ := hr
      obtain ⟨u1', u2', rfl, hu1', hu2', hd'⟩ := hr'
      haveI : One u1 := by obtain ⟨_, a1, cap1, rfl, _⟩ := hu1.form; exact inferInstance
      haveI : One u2 := by obtain ⟨_, a1, cap1, rfl, _⟩ := hu2.form; exact inferInstance
      haveI : One u1' := by obtain ⟨_, a1, cap1, rfl, _⟩ := hu1'.form; exact inferInstance
      haveI : One u2' := by obtain ⟨_, a1, cap1, rfl, _⟩ := hu2'.form; exact inferInstance
      haveI : Fz z b (off + (i : Int).toNat * 5) (u1 :: u2 :: s[i].info.cells) := ⟨by rw [Int.toNat_natCast]; exact hat⟩
      haveI : Fz z b' (off' + (i : Int).toNat * 5) (u1' :: u2' :: t[i].info.cells) := ⟨by rw [Int.toNat_natCast]; exact hat'⟩
      rw [listEq_drop hlt hlt'] at h2
      dsimp only [InM.cells] at *
      (repeat (first | (refine iDr ?_; intro _ _) | refine V_run ?_ | refine PV_run ?_ | refine HV_run ?_ | refine iV_ld1 ?_ | refine iV_ldN ?_ | (refine iV_bx ?_; intro _ _ _ _) | (refine iV_al ?_; intro _ _ _ _) | (refine iV_mm ?_; intro _ _ _ _) | (refine iU_st ?_; intro _ _) | refine iHV_1 ?_ | refine iHV_N ?_ | refine iRI_1 ?_ | refine iRI_N ?_ | refine Cond_t ?_ | refine Cond_f ?_ | refine JB ?_ | (refine JC ?_; intro _ _ _ _) | (refine J1 ?_; intro _ _) | (refine J0 ?_; intro _ _) | (refine J2 ?_; intro _ _) | (refine J3 ?_; intro _ _) | (refine J4 ?_; intro _ _) | refine K1 ?_ | refine K0 ?_ | refine K2 ?_ | refine K3 ?_ | refine K4 ?_ | (refine CV_pu ?_; intro _ _ _ _) | refine fV_ldN ?_ | refine fV_ld1 ?_ | refine fHV_ldN ?_ | refine fHV_ld1 ?_ | refine NilW_some ?_ | refine iCW_1 ?_ | refine iCW_N ?_ | refine Pk_b ?_))
      rename_i hSn
      have hz := hSn.zle
      refine CV_va1 hSn (hf _ _ _ _ s[i] t[i] ⟨_, rfl, u1, u2, rfl, hu1.mono hz, hu2.mono hz, hd⟩ ⟨_, rfl, u1', u2', rfl, hu1'.mono hz, hu2'.mono hz, hd'⟩) ?_
      rintro z9 w9 v9 hle9 hS9 rfl
      (repeat (first | (refine iDr ?_; intro _ _) | refine V_run ?_ | refine PV_run ?_ | refine HV_run ?_ | refine iV_ld1 ?_ | refine iV_ldN ?_ | (refine iV_bx ?_; intro _ _ _ _) | (refine iV_al ?_; intro _ _ _ _) | (refine iV_mm ?_; intro _ _ _ _) | (refine iU_st ?_; intro _ _) | refine iHV_1 ?_ | refine iHV_N ?_ | refine iRI_1 ?_ | refine iRI_N ?_ | refine Cond_t ?_ | refine Cond_f ?_ | refine JB ?_ | (refine JC ?_; intro _ _ _ _) | (refine J1 ?_; intro _ _) | (refine J0 ?_; intro _ _) | (refine J2 ?_; intro _ _) | (refine J3 ?_; intro _ _) | (refine J4 ?_; intro _ _) | refine K1 ?_ | refine K0 ?_ | refine K2 ?_ | refine K3 ?_ | refine K4 ?_ | (refine CV_pu ?_; intro _ _ _ _) | refine fV_ldN ?_ | refine fV_ld1 ?_ | refine fHV_ldN ?_ | refine fHV_ld1 ?_ | refine NilW_some ?_ | refine iCW_1 ?_ | refine iCW_N ?_ | refine Pk_b ?_))
      refine Cond_n (fun h' => ?_) (fun h' => ?_)
      · exact ⟨_, _, ‹_›, by rw [same, h2, h']; rfl⟩
      · (repeat (first | (refine iDr ?_; intro _ _) | refine V_run ?_ | refine PV_run ?_ | refine HV_run ?_ | refine iV_ld1 ?_ | refine iV_ldN ?_ | (refine iV_bx ?_; intro _ _ _ _) | (refine iV_al ?_; intro _ _ _ _) | (refine iV_mm ?_; intro _ _ _ _) | (refine iU_st ?_; intro _ _) | refine iHV_1 ?_ | refine iHV_N ?_ | refine iRI_1 ?_ | refine iRI_N ?_ | refine Cond_t ?_ | refine Cond_f ?_ | refine JB ?_ | (refine JC ?_; intro _ _ _ _) | (refine J1 ?_; intro _ _) | (refine J0 ?_; intro _ _) | (refine J2 ?_; intro _ _) | (refine J3 ?_; intro _ _) | (refine J4 ?_; intro _ _) | refine K1 ?_ | refine K0 ?_ | refine K2 ?_ | refine K3 ?_ | refine K4 ?_ | (refine CV_pu ?_; intro _ _ _ _) | refine fV_ldN ?_ | refine fV_ld1 ?_ | refine fHV_ldN ?_ | refine fHV_ld1 ?_ | refine NilW_some ?_ | refine iCW_1 ?_ | refine iCW_N ?_ | refine Pk_b ?_))
        exact back (i + 1) _ _ ⟨by simp, by omega, by rw [h2, h']; rfl, _, Res.tl (Res.tl ‹_›)⟩ (by omega)
    · exact ⟨_, _, ‹_›, by rw [same, h2, listEq_end (by omega) (by omega)]⟩)
theorem sameP {v v' : Value} {s t : StM} {z : Z} {w : World} (hs : StR z v s) (ht : StR z v' t) : Fn1 35 #[v, v'] z w fun _ r => r = .bool (same s t) := Fn1.intro fun hS => en35 (by
  unfold vc35
  obtain ⟨u, rfl, hu⟩ := hs
  obtain ⟨u', rfl, hu'⟩ := ht
  obtain ⟨hb, a, cap, rfl, hc, hel⟩ := hu.form
  obtain ⟨hb', a', cap', rfl, hc', hel'⟩ := hu'.form
  (repeat (first | (refine iDr ?_; intro _ _) | refine V_run ?_ | refine PV_run ?_ | refine HV_run ?_ | refine iV_ld1 ?_ | refine iV_ldN ?_ | (refine iV_bx ?_; intro _ _ _ _) | (refine iV_al ?_; intro _ _ _ _) | (refine iV_mm ?_; intro _ _ _ _) | (refine iU_st ?_; intro _ _) | refine iHV_1 ?_ | refine iHV_N ?_ | refine iRI_1 ?_ | refine iRI_N ?_ | refine Cond_t ?_ | refine Cond_f ?_ | refine JB ?_ | (refine JC ?_; intro _ _ _ _) | (refine J1 ?_; intro _ _) | (refine J0 ?_; intro _ _) | (refine J2 ?_; intro _ _) | (refine J3 ?_; intro _ _) | (refine J4 ?_; intro _ _) | refine K1 ?_ | refine K0 ?_ | refine K2 ?_ | refine K3 ?_ | refine K4 ?_ | (refine CV_pu ?_; intro _ _ _ _) | refine fV_ldN ?_ | refine fV_ld1 ?_ | refine fHV_ldN ?_ | refine fHV_ld1 ?_ | refine NilW_some ?_ | refine iCW_1 ?_ | refine iCW_N ?_ | refine Pk_b ?_))
  refine CV_1z (fun hz => equalFrames (hu.mono hz) (hu'.mono hz) fun z' w' v v' x y hx hy => (same1 hx hy).va (by simp)) ?_
  rintro z9 w9 v9 hle9 hS9 rfl
  (repeat (first | (refine iDr ?_; intro _ _) | refine V_run ?_ | refine PV_run ?_ | refine HV_run ?_ | refine iV_ld1 ?_ | refine iV_ldN ?_ | (refine iV_bx ?_; intro _ _ _ _) | (refine iV_al ?_; intro _ _ _ _) | (refine iV_mm ?_; intro _ _ _ _) | (refine iU_st ?_; intro _ _) | refine iHV_1 ?_ | refine iHV_N ?_ | refine iRI_1 ?_ | refine iRI_N ?_ | refine Cond_t ?_ | refine Cond_f ?_ | refine JB ?_ | (refine JC ?_; intro _ _ _ _) | (refine J1 ?_; intro _ _) | (refine J0 ?_; intro _ _) | (refine J2 ?_; intro _ _) | (refine J3 ?_; intro _ _) | (refine J4 ?_; intro _ _) | refine K1 ?_ | refine K0 ?_ | refine K2 ?_ | refine K3 ?_ | refine K4 ?_ | (refine CV_pu ?_; intro _ _ _ _) | refine fV_ldN ?_ | refine fV_ld1 ?_ | refine fHV_ldN ?_ | refine fHV_ld1 ?_ | refine NilW_some ?_ | refine iCW_1 ?_ | refine iCW_N ?_ | refine Pk_b ?_))
  exact ⟨_, _, ‹_›, rfl⟩)
theorem refSame {v v' : Value} {s t : StM} {z : Z} {w : World} (hs : StR z v s) (ht : StR z v' t) : Fn1 15 #[v, v'] z w fun _ r => r = .bool (same s t) := Fn1.intro fun hS => en15 (by
  unfold vc15
  obtain ⟨u, rfl, hu⟩ := hs
  obtain ⟨u', rfl, hu'⟩ := ht
  obtain ⟨hb, a, cap, rfl, hc, hel⟩ := hu.form
  obtain ⟨hb', a', cap', rfl, hc', hel'⟩ := hu'.form
  refine iV_bx ?_
  intro b0 w0' hb0 hS0
  refine iV_bx ?_
  intro b1 w1' hb1 hS1
  (repeat (first | (refine iDr ?_; intro _ _) | refine V_run ?_ | refine PV_run ?_ | refine HV_run ?_ | refine iV_ld1 ?_ | refine iV_ldN ?_ | (refine iV_bx ?_; intro _ _ _ _) | (refine iV_al ?_; intro _ _ _ _) | (refine iV_mm ?_; intro _ _ _ _) | (refine iU_st ?_; intro _ _) | refine iHV_1 ?_ | refine iHV_N ?_ | refine iRI_1 ?_ | refine iRI_N ?_ | refine Cond_t ?_ | refine Cond_f ?_ | refine JB ?_ | (refine JC ?_; intro _ _ _ _) | (refine J1 ?_; intro _ _) | (refine J0 ?_; intro _ _) | (refine J2 ?_; intro _ _) | (refine J3 ?_; intro _ _) | (refine J4 ?_; intro _ _) | refine K1 ?_ | refine K0 ?_ | refine K2 ?_ | refine K3 ?_ | refine K4 ?_ | (refine CV_pu ?_; intro _ _ _ _) | refine fV_ldN ?_ | refine fV_ld1 ?_ | refine fHV_ldN ?_ | refine fHV_ld1 ?_ | refine NilW_some ?_ | refine iCW_1 ?_ | refine iCW_N ?_ | refine Pk_b ?_))
  refine Cond_nd (fun h => ?_) (fun h => ?_)
  · exact ⟨_, _, ‹_›, by rw [same, listEq_ne (by omega)]⟩
  · refine LoopG1 (fun (i : Nat) x w' => x = .int .i64 i ∧ i ≤ s.length ∧ listEq FrM.eqb s t = listEq FrM.eqb (s.drop i) (t.drop i) ∧ ∃ z', Res w z [] w' z' [(b1, .cells [.slice a' t.length cap'].toArray 28 (0, 0)), (b0, .cells [.slice a s.length cap].toArray 28 (0, 0))]) (fun i => s.length - i) 0 ⟨rfl, by omega, rfl, _, ‹_›⟩ ?_
    rintro I M i x w2 m ⟨rfl, h1, h2, z2, hS2⟩ back
    (repeat (first | (refine iDr ?_; intro _ _) | refine V_run ?_ | refine PV_run ?_ | refine HV_run ?_ | refine iV_ld1 ?_ | refine iV_ldN ?_ | (refine iV_bx ?_; intro _ _ _ _) | (refine iV_al ?_; intro _ _ _ _) | (refine iV_mm ?_; intro _ _ _ _) | (refine iU_st ?_; intro _ _) | refine iHV_1 ?_ | refine iHV_N ?_ | refine iRI_1 ?_ | refine iRI_N ?_ | refine Cond_t ?_ | refine Cond_f ?_ | refine JB ?_ | (refine JC ?_; intro _ _ _ _) | (refine J1 ?_; intro _ _) | (refine J0 ?_; intro _ _) | (refine J2 ?_; intro _ _) | (refine J3 ?_; intro _ _) | (refine J4 ?_; intro _ _) | refine K1 ?_ | refine K0 ?_ | refine K2 ?_ | refine K3 ?_ | refine K4 ?_ | (refine CV_pu ?_; intro _ _ _ _) | refine fV_ldN ?_ | refine fV_ld1 ?_ | refine fHV_ldN ?_ | refine fHV_ld1 ?_ | refine NilW_some ?_ | refine iCW_1 ?_ | refine iCW_N ?_ | refine Pk_b ?_))
    refine Cond_d (fun hh => ?_) (fun hh => ?_)
    · have hlt : i < s.length := by omega
      have hlt' : i < t.length := by omega
      obtain ⟨b, off, cs, rfl, hr, hat⟩ := hel i _ (List.getElem?_eq_getElem hlt)
      obtain ⟨b', off', cs', rfl, hr', hat'⟩ := hel' i _ (List.getElem?_eq_getElem hlt')
      haveI : InR (i : Int) s.length := ⟨by omega, by omega⟩
      haveI : InR (i : Int) t.length := ⟨by omega, by omega⟩
      haveI : InI ((i : Int) + 1) := ⟨by simp only [big] at hb; omega⟩
      obtain ⟨u1, u2, rfl, hu1, hu2, hd⟩ := hr
      obtain ⟨u1', u2', rfl, hu1', hu2', hd'⟩ := hr'
      obtain ⟨hb3, a3, cap3, rfl, hc3, hel3⟩ := hu1.form
      obtain ⟨hb4, a4, cap4, rfl, hc4, hel4⟩ := hu2.form
      obtain ⟨hb3', a3', cap3', rfl, hc3', hel3'⟩ := hu1'.form
      obtain ⟨hb4', a4', cap4', rfl, hc4', hel4'⟩ := hu2'.form
      haveI : Fz z b (off + (i : Int).toNat * 5) (.slice a3 s[i].traps.length cap3 :: .slice a4 s[i].pend.length cap4 :: s[i].info.cells) := ⟨by rw [Int.toNat_natCast]; exact hat⟩
      haveI : Fz z b' (off' + (i : Int).toNat * 5) (.slice a3' t[i].traps.length cap3' :: .slice a4' t[i].pend.length cap4' :: t[i].info.cells) := ⟨by rw [Int.toNat_natCast]; exact hat'⟩
      rw [listEq_drop hlt hlt'] at h2
      dsimp only [InM.cells] at *
      (repeat (first | (refine iDr ?_; intro _ _) | refine V_run ?_ | refine PV_run ?_ | refine HV_run ?_ | refine iV_ld1 ?_ | refine iV_ldN ?_ | (refine iV_bx ?_; intro _ _ _ _) | (refine iV_al ?_; intro _ _ _ _) | (refine iV_mm ?_; intro _ _ _ _) | (refine iU_st ?_; intro _ _) | refine iHV_1 ?_ | refine iHV_N ?_ | refine iRI_1 ?_ | refine iRI_N ?_ | refine Cond_t ?_ | refine Cond_f ?_ | refine JB ?_ | (refine JC ?_; intro _ _ _ _) | (refine J1 ?_; intro _ _) | (refine J0 ?_; intro _ _) | (refine J2 ?_; intro _ _) | (refine J3 ?_; intro _ _) | (refine J4 ?_; intro _ _) | refine K1 ?_ | refine K0 ?_ | refine K2 ?_ | refine K3 ?_ | refine K4 ?_ | (refine CV_pu ?_; intro _ _ _ _) | refine fV_ldN ?_ | refine fV_ld1 ?_ | refine fHV_ldN ?_ | refine fHV_ld1 ?_ | refine NilW_some ?_ | refine iCW_1 ?_ | refine iCW_N ?_ | refine Pk_b ?_))
      rename_i bx _ _ _ _ _ by_ _ _ _ _ _ _ _ _ _ _ _ _ hSn
      refine Cond_b (fun hq => ?_) (fun hq => ?_)
      · refine ⟨_, _, hSn, ?_⟩
        have : s[i].eqb t[i] = false := by
          cases hx : s[i].eqb t[i] with
          | false => rfl
          | true =>
            rw [FrM.eqb_iff] at hx
            rw [hx] at hq
            simp at hq
        rw [same, h2, this]; rfl
      · have hq' : s[i].info.eqb t[i].info = true ∧ s[i].traps.length = t[i].traps.length ∧ s[i].pend.length = t[i].pend.length := by
          simp only [cond_eq_ite] at hq
          simp only [InM.eqb]
          revert hq
          by_cases e1 : s[i].info.cond = t[i].info.cond <;> by_cases e2 : s[i].info.mode = t[i].info.mode <;> by_cases e3 : s[i].info.desc = t[i].info.desc <;> by_cases e4 : s[i].traps.length = t[i].traps.length <;> simp [e1, e2, e3, e4] <;> omega
        obtain ⟨q1, q2, q3⟩ := hq'
        refine LoopG1 (fun (k : Nat) x w' => x = .int .i64 k ∧ k ≤ s[i].traps.length ∧ listEq TrM.eqb s[i].traps t[i].traps = listEq TrM.eqb (s[i].traps.drop k) (t[i].traps.drop k) ∧ ∃ z', Res w z [] w' z' [(by_, .cells [.slice a3' t[i].traps.length cap3', .slice a4' t[i].pend.length cap4', .int .i64 t[i].info.cond, .int .i64 t[i].info.mode, .string t[i].info.desc].toArray 63 (0, 0)), (bx, .cells [.slice a3 s[i].traps.length cap3, .slice a4 s[i].pend.length cap4, .int .i64 s[i].info.cond, .int .i64 s[i].info.mode, .string s[i].info.desc].toArray 63 (0, 0)), (b1, .cells [.slice (some ⟨b', off', none⟩) t.length cap'].toArray 28 (0, 0)), (b0, .cells [.slice (some ⟨b, off, none⟩) s.length cap].toArray 28 (0, 0))]) (fun k => s[i].traps.length - k) 0 ⟨rfl, by omega, rfl, _, hSn⟩ ?_
        rintro I1 M1 k x w3 m1 ⟨rfl, g1, g2, z3, hS3⟩ back1
        (repeat (first | (refine iDr ?_; intro _ _) | refine V_run ?_ | refine PV_run ?_ | refine HV_run ?_ | refine iV_ld1 ?_ | refine iV_ldN ?_ | (refine iV_bx ?_; intro _ _ _ _) | (refine iV_al ?_; intro _ _ _ _) | (refine iV_mm ?_; intro _ _ _ _) | (refine iU_st ?_; intro _ _) | refine iHV_1 ?_ | refine iHV_N ?_ | refine iRI_1 ?_ | refine iRI_N ?_ | refine Cond_t ?_ | refine Cond_f ?_ | refine JB ?_ | (refine JC ?_; intro _ _ _ _) | (refine J1 ?_; intro _ _) | (refine J0 ?_; intro _ _) | (refine J2 ?_; intro _ _) | (refine J3 ?_; intro _ _) | (refine J4 ?_; intro _ _) | refine K1 ?_ | refine K0 ?_ | refine K2 ?_ | refine K3 ?_ | refine K4 ?_ | (refine CV_pu ?_; intro _ _ _ _) | refine fV_ldN ?_ | refine fV_ld1 ?_ | refine fHV_ldN ?_ | refine fHV_ld1 ?_ | refine NilW_some ?_ | refine iCW_1 ?_ | refine iCW_N ?_ | refine Pk_b ?_))
        refine Cond_d (fun hh => ?_) (fun hh => ?_)
        · have klt : k < s[i].traps.length := by omega
          have klt' : k < t[i].traps.length := by omega
          obtain ⟨c, offc, cs, rfl, ⟨rfl, hr⟩, hat⟩ := hel3 k _ (List.getElem?_eq_getElem klt)
          obtain ⟨c', offc', cs', rfl, ⟨rfl, hr'⟩, hat'⟩ := hel3' k _ (List.getElem?_eq_getElem klt')
          haveI : InR (k : Int) s[i].traps.length := ⟨by omega, by omega⟩
          haveI : InR (k : Int) t[i].traps.length := ⟨by omega, by omega⟩
          haveI : InI ((k : Int) + 1) := ⟨by simp only [big] at hb3; omega⟩
          haveI : Fz z c (offc + (k : Int).toNat * 3) s[i].traps[k].cells := ⟨by rw [Int.toNat_natCast]; exact hat⟩
          haveI : Fz z c' (offc' + (k : Int).toNat * 3) t[i].traps[k].cells := ⟨by rw [Int.toNat_natCast]; exact hat'⟩
          rw [listEq_drop klt klt'] at g2
          (repeat (first | (refine iDr ?_; intro _ _) | refine V_run ?_ | refine PV_run ?_ | refine HV_run ?_ | refine iV_ld1 ?_ | refine iV_ldN ?_ | (refine iV_bx ?_; intro _ _ _ _) | (refine iV_al ?_; intro _ _ _ _) | (refine iV_mm ?_; intro _ _ _ _) | (refine iU_st ?_; intro _ _) | refine iHV_1 ?_ | refine iHV_N ?_ | refine iRI_1 ?_ | refine iRI_N ?_ | refine Cond_t ?_ | refine Cond_f ?_ | refine JB ?_ | (refine JC ?_; intro _ _ _ _) | (refine J1 ?_; intro _ _) | (refine J0 ?_; intro _ _) | (refine J2 ?_; intro _ _) | (refine J3 ?_; intro _ _) | (refine J4 ?_; intro _ _) | refine K1 ?_ | refine K0 ?_ | refine K2 ?_ | refine K3 ?_ | refine K4 ?_ | (refine CV_pu ?_; intro _ _ _ _) | refine fV_ldN ?_ | refine fV_ld1 ?_ | refine fHV_ldN ?_ | refine fHV_ld1 ?_ | refine NilW_some ?_ | refine iCW_1 ?_ | refine iCW_N ?_ | refine Pk_b ?_))
          refine Cond_n (fun h' => ?_) (fun h' => ?_)
          · exact ⟨_, _, ‹_›, by rw [same, h2, FrM.eqb, g2, show TrM.eqb s[i].traps[k] t[i].traps[k] = false from h']; rfl⟩
          · (repeat (first | (refine iDr ?_; intro _ _) | refine V_run ?_ | refine PV_run ?_ | refine HV_run ?_ | refine iV_ld1 ?_ | refine iV_ldN ?_ | (refine iV_bx ?_; intro _ _ _ _) | (refine iV_al ?_; intro _ _ _ _) | (refine iV_mm ?_; intro _ _ _ _) | (refine iU_st ?_; intro _ _) | refine iHV_1 ?_ | refine iHV_N ?_ | refine iRI_1 ?_ | refine iRI_N ?_ | refine Cond_t ?_ | refine Cond_f ?_ | refine JB ?_ | (refine JC ?_; intro _ _ _ _) | (refine J1 ?_; intro _ _) | (refine J0 ?_; intro _ _) | (refine J2 ?_; intro _ _) | (refine J3 ?_; intro _ _) | (refine J4 ?_; intro _ _) | refine K1 ?_ | refine K0 ?_ | refine K2 ?_ | refine K3 ?_ | refine K4 ?_ | (refine CV_pu ?_; intro _ _ _ _) | refine fV_ldN ?_ | refine fV_ld1 ?_ | refine fHV_ldN ?_ | refine fHV_ld1 ?_ | refine NilW_some ?_ | refine iCW_1 ?_ | refine iCW_N ?_ | refine Pk_b ?_))
            exact back1 (k + 1) _ _ ⟨by simp, by omega, by rw [g2, show TrM.eqb s[i].traps[k] t[i].traps[k] = true from h']; rfl, _, ‹_›⟩ (by omega)
        · rw [listEq_end (by omega) (by omega)] at g2
          refine LoopG1 (fun (k : Nat) x w' => x = .int .i64 k ∧ k ≤ s[i].pend.length ∧ listEq RaM.eqb s[i].pend t[i].pend = listEq RaM.eqb (s[i].pend.drop k) (t[i].pend.drop k) ∧ ∃ z', Res w z [] w' z' [(by_, .cells [.slice a3' t[i].traps.length cap3', .slice a4' t[i].pend.length cap4', .int .i64 t[i].info.cond, .int .i64 t[i].info.mode, .string t[i].info.desc].toArray 63 (0, 0)), (bx, .cells [.slice a3 s[i].traps.length cap3, .slice a4 s[i].pend.length cap4, .int .i64 s[i].info.cond, .int .i64 s[i].info.mode, .string s[i].info.desc].toArray 63 (0, 0)), (b1, .cells [.slice (some ⟨b', off', none⟩) t.length cap'].toArray 28 (0, 0)), (b0, .cells [.slice (some ⟨b, off, none⟩) s.length cap].toArray 28 (0, 0))]) (fun k => s[i].pend.length - k) 0 ⟨rfl, by omega, rfl, _, hS3⟩ ?_
          rintro I2 M2 k2 x w4 m2 ⟨rfl, g1', g2', z4, hS4⟩ back2
          (repeat (first | (refine iDr ?_; intro _ _) | refine V_run ?_ | refine PV_run ?_ | refine HV_run ?_ | refine iV_ld1 ?_ | refine iV_ldN ?_ | (refine iV_bx ?_; intro _ _ _ _) | (refine iV_al ?_; intro _ _ _ _) | (refine iV_mm ?_; intro _ _ _ _) | (refine iU_st ?_; intro _ _) | refine iHV_1 ?_ | refine iHV_N ?_ | refine iRI_1 ?_ | refine iRI_N ?_ | refine Cond_t ?_ | refine Cond_f ?_ | refine JB ?_ | (refine JC ?_; intro _ _ _ _) | (refine J1 ?_; intro _ _) | (refine J0 ?_; intro _ _) | (refine J2 ?_; intro _ _) | (refine J3 ?_; intro _ _) | (refine J4 ?_; intro _ _) | refine K1 ?_ | refine K0 ?_ | refine K2 ?_ | refine K3 ?_ | refine K4 ?_ | (refine CV_pu ?_; intro _ _ _ _) | refine fV_ldN ?_ | refine fV_ld1 ?_ | refine fHV_ldN ?_ | refine fHV_ld1 ?_ | refine NilW_some ?_ | refine iCW_1 ?_ | refine iCW_N ?_ | refine Pk_b ?_))
          refine Cond_d (fun hh => ?_) (fun hh => ?_)
          · have klt : k2 < s[i].pend.length := by omega
            have klt' : k2 < t[i].pend.length := by omega
            obtain ⟨c, offc, cs, rfl, ⟨rfl, hr⟩, hat⟩ := hel4 k2 _ (List.getElem?_eq_getElem klt)
            obtain ⟨c', offc', cs', rfl, ⟨rfl, hr'⟩, hat'⟩ := hel4' k2 _ (List.getElem?_eq_getElem klt')
            haveI : InR (k2 : Int) s[i].pend.length := ⟨by omega, by omega⟩
            haveI : InR (k2 : Int) t[i].pend.length := ⟨by omega, by omega⟩
            haveI : InI ((k2 : Int) + 1) := ⟨by simp only [big] at hb4; omega⟩
            haveI : Fz z c (offc + (k2 : Int).toNat * 2) s[i].pend[k2].cells := ⟨by rw [Int.toNat_natCast]; exact hat⟩
            haveI : Fz z c' (offc' + (k2 : Int).toNat * 2) t[i].pend[k2].cells := ⟨by rw [Int.toNat_natCast]; exact hat'⟩
            rw [listEq_drop klt klt'] at g2'
            (repeat (first | (refine iDr ?_; intro _ _) | refine V_run ?_ | refine PV_run ?_ | refine HV_run ?_ | refine iV_ld1 ?_ | refine iV_ldN ?_ | (refine iV_bx ?_; intro _ _ _ _) | (refine iV_al ?_; intro _ _ _ _) | (refine iV_mm ?_; intro _ _ _ _) | (refine iU_st ?_; intro _ _) | refine iHV_1 ?_ | refine iHV_N ?_ | refine iRI_1 ?_ | refine iRI_N ?_ | refine Cond_t ?_ | refine Cond_f ?_ | refine JB ?_ | (refine JC ?_; intro _ _ _ _) | (refine J1 ?_; intro _ _) | (refine J0 ?_; intro _ _) | (refine J2 ?_; intro _ _) | (refine J3 ?_; intro _ _) | (refine J4 ?_; intro _ _) | refine K1 ?_ | refine K0 ?_ | refine K2 ?_ | refine K3 ?_ | refine K4 ?_ | (refine CV_pu ?_; intro _ _ _ _) | refine fV_ldN ?_ | refine fV_ld1 ?_ | refine fHV_ldN ?_ | refine fHV_ld1 ?_ | refine NilW_some ?_ | refine iCW_1 ?_ | refine iCW_N ?_ | refine Pk_b ?_))
            refine Cond_n (fun h' => ?_) (fun h' => ?_)
            · exact ⟨_, _, ‹_›, by rw [same, h2, FrM.eqb, g2, g2', show RaM.eqb s[i].pend[k2] t[i].pend[k2] = false from h']; rfl⟩
            · (repeat (first | (refine iDr ?_; intro _ _) | refine V_run ?_ | refine PV_run ?_ | refine HV_run ?_ | refine iV_ld1 ?_ | refine iV_ldN ?_ | (refine iV_bx ?_; intro _ _ _ _) | (refine iV_al ?_; intro _ _ _ _) | (refine iV_mm ?_; intro _ _ _ _) | (refine iU_st ?_; intro _ _) | refine iHV_1 ?_ | refine iHV_N ?_ | refine iRI_1 ?_ | refine iRI_N ?_ | refine Cond_t ?_ | refine Cond_f ?_ | refine JB ?_ | (refine JC ?_; intro _ _ _ _) | (refine J1 ?_; intro _ _) | (refine J0 ?_; intro _ _) | (refine J2 ?_; intro _ _) | (refine J3 ?_; intro _ _) | (refine J4 ?_; intro _ _) | refine K1 ?_ | refine K0 ?_ | refine K2 ?_ | refine K3 ?_ | refine K4 ?_ | (refine CV_pu ?_; intro _ _ _ _) | refine fV_ldN ?_ | refine fV_ld1 ?_ | refine fHV_ldN ?_ | refine fHV_ld1 ?_ | refine NilW_some ?_ | refine iCW_1 ?_ | refine iCW_N ?_ | refine Pk_b ?_))
              exact back2 (k2 + 1) _ _ ⟨by simp, by omega, by rw [g2', show RaM.eqb s[i].pend[k2] t[i].pend[k2] = true from h']; rfl, _, ‹_›⟩ (by omega)
          · rw [listEq_end (by omega) (by omega)] at g2'
            (repeat (first | (refine iDr ?_; intro _ _) | refine V_run ?_ | refine PV_run ?_ | refine HV_run ?_ | refine iV_ld1 ?_ | refine iV_ldN ?_ | (refine iV_bx ?_; intro _ _ _ _) | (refine iV_al ?_; intro _ _ _ _) | (refine iV_mm ?_; intro _ _ _ _) | (refine iU_st ?_; intro _ _) | refine iHV_1 ?_ | refine iHV_N ?_ | refine iRI_1 ?_ | refine iRI_N ?_ | refine Cond_t ?_ | refine Cond_f ?_ | refine JB ?_ | (refine JC ?_; intro _ _ _ _) | (refine J1 ?_; intro _ _) | (refine J0 ?_; intro _ _) | (refine J2 ?_; intro _ _) | (refine J3 ?_; intro _ _) | (refine J4 ?_; intro _ _) | refine K1 ?_ | refine K0 ?_ | refine K2 ?_ | refine K3 ?_ | refine K4 ?_ | (refine CV_pu ?_; intro _ _ _ _) | refine fV_ldN ?_ | refine fV_ld1 ?_ | refine fHV_ldN ?_ | refine fHV_ld1 ?_ | refine NilW_some ?_ | refine iCW_1 ?_ | refine iCW_N ?_ | refine Pk_b ?_))
            exact back (i + 1) _ _ ⟨by simp, by omega, by rw [h2, FrM.eqb, q1, g2, g2']; rfl, _, Res.tl (Res.tl ‹_›)⟩ (by omega)
    · exact ⟨_, _, ‹_›, by rw [same, h2, listEq_end (by omega) (by omega)]⟩)
end Go.Proofs.Ytjnckainogpenaa
