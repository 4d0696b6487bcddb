/- Copies. -/
import Derived.Test.YtjnckainogpenaaT8
import Derived.Test.YtjnckainogpenaaQ15
set_option linter.unusedVariables false
set_option maxRecDepth 20000
set_option synthInstance.maxHeartbeats 400000
set_option synthInstance.maxSize 4000
namespace Go.Proofs.Ytjnckainogpenaa
open Go Q Go.RowKit

def freeC (had : List RaM) : Nat := ([0, 1, 2, 4] : List Int).countP fun c => !had.any fun x => x.cond == c
theorem raOk_mem {had : List RaM} {r : RaM} (h : raOk had r = true) : (r.cond = 0 ∨ r.cond = 1 ∨ r.cond = 2 ∨ r.cond = 4) ∧ (had.any fun x => x.cond == r.cond) = false := by
  simp only [raOk, Bool.and_eq_true, cond, immediate, Bool.not_eq_true', decide_eq_true_eq, Bool.or_eq_false_iff, decide_eq_false_iff_not] at h
  exact ⟨by omega, h.1.2⟩
theorem freeC_step {had : List RaM} {r : RaM} (h : raOk had r = true) : freeC (had ++ [r]) + 1 ≤ freeC had := by
  obtain ⟨h1, h2⟩ := raOk_mem h
  unfold freeC
  simp only [List.countP_cons, List.countP_nil, List.any_append, List.any_cons, List.any_nil, Bool.or_false]
  rcases h1 with h1 | h1 | h1 | h1 <;> simp only [h1] at h2 ⊢ <;> simp [h2] <;> omega
theorem pend_len : ∀ {l had : List RaM}, pendFrom had l = true → l.length ≤ freeC had
  | [], _, _ => Nat.zero_le _
  | r :: l, had, h => by
    simp only [pendFrom, Bool.and_eq_true] at h
    have := pend_len h.2
    have := freeC_step h.1
    simp only [List.length_cons]
    omega
theorem pend_le4 {l : List RaM} (h : pendFrom [] l = true) : l.length ≤ 4 := pend_len h
theorem cloneTraps {v : Value} {xs : List TrM} {z : Z} {w : World} (hx : SlR El.trap z v xs) (hb : xs.length ≤ 1000000) : Fn 31 #[v] z [] w fun z' B' r => OwnSl 73 3 B' r xs.length (xs.flatMap TrM.cells) := Fn.intro fun hS => en31 (by
  unfold vc31
  have hx' := hx
  obtain ⟨a, cap, rfl, hc, hbig, hel⟩ := hx
  refine V_run ?_
  cases a with
  | none =>
    have : xs = [] := by
      by_cases hn : xs = []
      · exact hn
      · obtain ⟨b, off, h, _⟩ := hel hn; cases h
    subst this
    (repeat (first | (refine iDr ?_; intro _ _) | refine V_run ?_ | refine PV_run ?_ | refine HV_run ?_ | refine iV_ld1 ?_ | refine iV_ldN ?_ | (refine iV_bx ?_; intro _ _ _ _) | (refine iV_al ?_; intro _ _ _ _) | (refine iV_mm ?_; intro _ _ _ _) | (refine iU_st ?_; intro _ _) | refine iHV_1 ?_ | refine iHV_N ?_ | refine iRI_1 ?_ | refine iRI_N ?_ | refine Cond_t ?_ | refine Cond_f ?_ | refine JB ?_ | (refine JC ?_; intro _ _ _ _) | (refine J1 ?_; intro _ _) | (refine J0 ?_; intro _ _) | (refine J2 ?_; intro _ _) | (refine J3 ?_; intro _ _) | (refine J4 ?_; intro _ _) | refine K1 ?_ | refine K0 ?_ | refine K2 ?_ | refine K3 ?_ | refine K4 ?_ | (refine CV_pu ?_; intro _ _ _ _) | refine fV_ldN ?_ | refine fV_ld1 ?_ | refine fHV_ldN ?_ | refine fHV_ld1 ?_ | refine NilW_some ?_ | refine iCW_1 ?_ | refine iCW_N ?_ | refine Pk_b ?_))
    exact ⟨_, _, hS, OwnSl.nil⟩
  | some a =>
    (repeat (first | (refine iDr ?_; intro _ _) | refine V_run ?_ | refine PV_run ?_ | refine HV_run ?_ | refine iV_ld1 ?_ | refine iV_ldN ?_ | (refine iV_bx ?_; intro _ _ _ _) | (refine iV_al ?_; intro _ _ _ _) | (refine iV_mm ?_; intro _ _ _ _) | (refine iU_st ?_; intro _ _) | refine iHV_1 ?_ | refine iHV_N ?_ | refine iRI_1 ?_ | refine iRI_N ?_ | refine Cond_t ?_ | refine Cond_f ?_ | refine JB ?_ | (refine JC ?_; intro _ _ _ _) | (refine J1 ?_; intro _ _) | (refine J0 ?_; intro _ _) | (refine J2 ?_; intro _ _) | (refine J3 ?_; intro _ _) | (refine J4 ?_; intro _ _) | refine K1 ?_ | refine K0 ?_ | refine K2 ?_ | refine K3 ?_ | refine K4 ?_ | (refine CV_pu ?_; intro _ _ _ _) | refine fV_ldN ?_ | refine fV_ld1 ?_ | refine fHV_ldN ?_ | refine fHV_ld1 ?_ | refine NilW_some ?_ | refine iCW_1 ?_ | refine iCW_N ?_ | refine Pk_b ?_))
    refine V_bs rfl (by omega) ?_
    intro b w1 hb1 hS1
    by_cases hn : xs = []
    · subst hn
      refine V_app0 (xs := []) (sp := []) hS1 (by simp) (by simp) (by omega) ?_
      exact ⟨_, _, hS1, by simp, .inr ⟨b, 0, [], rfl, rfl, by simp, by simp [maxLen], by simp⟩⟩
    · obtain ⟨b', off, cap', hv, _, hat⟩ := hx'.all TrM.cells (fun z cs x h => h.1) hn
      cases hv
      have hpos : 0 < xs.length := List.length_pos_iff.2 hn
      refine V_app (B := [(b, .cells [].toArray 73 (0, 0))]) (L := []) (n := 0) (xs := []) (news := xs.flatMap TrM.cells) hS1 ⟨by simp, .inr ⟨b, 0, [], rfl, rfl, by omega, by simp [maxLen], by simp⟩⟩ (hat.world hS1.sub) (flat_len (f := TrM.cells) (n := 3) (fun _ => rfl) xs) ?_ hpos (by simp only [room]; omega) (by simp only [room]; omega) ?_
      · intro u hu
        obtain ⟨x, _, hx⟩ := List.mem_flatMap.1 hu
        simp only [TrM.cells, List.mem_cons, List.not_mem_nil, or_false] at hx
        rcases hx with rfl | rfl | rfl <;> rfl
      · intro B' v' w2 ho hS2
        rw [List.append_nil] at hS2
        exact ⟨_, _, hS2, by simpa using ho⟩)
theorem clonePend {v : Value} {xs : List RaM} {z : Z} {w : World} (hx : SlR El.raised z v xs) (hb : xs.length ≤ 1000000) : Fn 113 #[v] z [] w fun z' B' r => OwnSl 70 2 B' r xs.length (xs.flatMap RaM.cells) := Fn.intro fun hS => en113 (by
  unfold vc113
  have hx' := hx
  obtain ⟨a, cap, rfl, hc, hbig, hel⟩ := hx
  refine V_run ?_
  cases a with
  | none =>
    have : xs = [] := by
      by_cases hn : xs = []
      · exact hn
      · obtain ⟨b, off, h, _⟩ := hel hn; cases h
    subst this
    (repeat (first | (refine iDr ?_; intro _ _) | refine V_run ?_ | refine PV_run ?_ | refine HV_run ?_ | refine iV_ld1 ?_ | refine iV_ldN ?_ | (refine iV_bx ?_; intro _ _ _ _) | (refine iV_al ?_; intro _ _ _ _) | (refine iV_mm ?_; intro _ _ _ _) | (refine iU_st ?_; intro _ _) | refine iHV_1 ?_ | refine iHV_N ?_ | refine iRI_1 ?_ | refine iRI_N ?_ | refine Cond_t ?_ | refine Cond_f ?_ | refine JB ?_ | (refine JC ?_; intro _ _ _ _) | (refine J1 ?_; intro _ _) | (refine J0 ?_; intro _ _) | (refine J2 ?_; intro _ _) | (refine J3 ?_; intro _ _) | (refine J4 ?_; intro _ _) | refine K1 ?_ | refine K0 ?_ | refine K2 ?_ | refine K3 ?_ | refine K4 ?_ | (refine CV_pu ?_; intro _ _ _ _) | refine fV_ldN ?_ | refine fV_ld1 ?_ | refine fHV_ldN ?_ | refine fHV_ld1 ?_ | refine NilW_some ?_ | refine iCW_1 ?_ | refine iCW_N ?_ | refine Pk_b ?_))
    exact ⟨_, _, hS, OwnSl.nil⟩
  | some a =>
    (repeat (first | (refine iDr ?_; intro _ _) | refine V_run ?_ | refine PV_run ?_ | refine HV_run ?_ | refine iV_ld1 ?_ | refine iV_ldN ?_ | (refine iV_bx ?_; intro _ _ _ _) | (refine iV_al ?_; intro _ _ _ _) | (refine iV_mm ?_; intro _ _ _ _) | (refine iU_st ?_; intro _ _) | refine iHV_1 ?_ | refine iHV_N ?_ | refine iRI_1 ?_ | refine iRI_N ?_ | refine Cond_t ?_ | refine Cond_f ?_ | refine JB ?_ | (refine JC ?_; intro _ _ _ _) | (refine J1 ?_; intro _ _) | (refine J0 ?_; intro _ _) | (refine J2 ?_; intro _ _) | (refine J3 ?_; intro _ _) | (refine J4 ?_; intro _ _) | refine K1 ?_ | refine K0 ?_ | refine K2 ?_ | refine K3 ?_ | refine K4 ?_ | (refine CV_pu ?_; intro _ _ _ _) | refine fV_ldN ?_ | refine fV_ld1 ?_ | refine fHV_ldN ?_ | refine fHV_ld1 ?_ | refine NilW_some ?_ | refine iCW_1 ?_ | refine iCW_N ?_ | refine Pk_b ?_))
    refine V_bs rfl (by omega) ?_
    intro b w1 hb1 hS1
    by_cases hn : xs = []
    · subst hn
      refine V_app0 (xs := []) (sp := []) hS1 (by simp) (by simp) (by omega) ?_
      exact ⟨_, _, hS1, by simp, .inr ⟨b, 0, [], rfl, rfl, by simp, by simp [maxLen], by simp⟩⟩
    · obtain ⟨b', off, cap', hv, _, hat⟩ := hx'.all RaM.cells (fun z cs x h => h.1) hn
      cases hv
      have hpos : 0 < xs.length := List.length_pos_iff.2 hn
      refine V_app (B := [(b, .cells [].toArray 70 (0, 0))]) (L := []) (n := 0) (xs := []) (news := xs.flatMap RaM.cells) hS1 ⟨by simp, .inr ⟨b, 0, [], rfl, rfl, by omega, by simp [maxLen], by simp⟩⟩ (hat.world hS1.sub) (flat_len (f := RaM.cells) (n := 2) (fun _ => rfl) xs) ?_ hpos (by simp only [room]; omega) (by simp only [room]; omega) ?_
      · intro u hu
        obtain ⟨x, _, hx⟩ := List.mem_flatMap.1 hu
        simp only [RaM.cells, List.mem_cons, List.not_mem_nil, or_false] at hx
        rcases hx with rfl | rfl <;> rfl
      · intro B' v' w2 ho hS2
        rw [List.append_nil] at hS2
        exact ⟨_, _, hS2, by simpa using ho⟩)
/-- A frame of the call's own. -/
def FrOwn (B : Bl) (cs : List Value) (f : FrM) : Prop := ∃ B1 B2 v1 v2, B = B1 ++ B2 ∧ cs = v1 :: v2 :: f.info.cells ∧ OwnSl 73 3 B1 v1 f.traps.length (f.traps.flatMap TrM.cells) ∧ OwnSl 70 2 B2 v2 f.pend.length (f.pend.flatMap RaM.cells)
/-- What memory can hold. -/
def FrSm (f : FrM) : Prop := f.traps.length ≤ 1000000 ∧ f.pend.length ≤ 1000000 ∧ (∀ t ∈ f.traps, t.label.size ≤ big) ∧ (∀ r ∈ f.pend, r.desc.size ≤ big) ∧ f.info.desc.size ≤ big
theorem SlR.mem {α : Type} {E : El α} {z : Z} {v : Value} {xs : List α} (h : SlR E z v xs) {x : α} (hx : x ∈ xs) : ∃ cs, E.rel z cs x := by
  obtain ⟨i, hi⟩ := List.mem_iff_getElem?.1 hx
  obtain ⟨_, a, cap, _, _, hel⟩ := h.form
  obtain ⟨_, _, cs, _, hr, _⟩ := hel i x hi
  exact ⟨cs, hr⟩
theorem frame {v : Value} {f : FrM} {z : Z} {w : World} (hf : FrR z v f) (h1 : f.traps.length ≤ 1000000) (h2 : f.pend.length ≤ 1000000) : Fn 99 #[v] z [] w fun z' B' r => ∃ cs, r = .agg cs.toArray ∧ FrOwn B' cs f ∧ FrSm f := Fn.intro fun hS => en99 (by
  unfold vc99
  obtain ⟨cs, rfl, v1, v2, rfl, hv1, hv2, hd⟩ := hf
  obtain ⟨hb1, a1, cap1, rfl, hc1, hel1⟩ := hv1.form
  obtain ⟨hb2, a2, cap2, rfl, hc2, hel2⟩ := hv2.form
  dsimp only [InM.cells]
  refine iV_bx ?_
  intro b0 w0' hb0 hS0
  refine iV_al ?_
  intro b1 w1' hb1 hS1
  (repeat (first | (refine iDr ?_; intro _ _) | refine V_run ?_ | refine PV_run ?_ | refine HV_run ?_ | refine iV_ld1 ?_ | refine iV_ldN ?_ | (refine iV_bx ?_; intro _ _ _ _) | (refine iV_al ?_; intro _ _ _ _) | (refine iV_mm ?_; intro _ _ _ _) | (refine iU_st ?_; intro _ _) | refine iHV_1 ?_ | refine iHV_N ?_ | refine iRI_1 ?_ | refine iRI_N ?_ | refine Cond_t ?_ | refine Cond_f ?_ | refine JB ?_ | (refine JC ?_; intro _ _ _ _) | (refine J1 ?_; intro _ _) | (refine J0 ?_; intro _ _) | (refine J2 ?_; intro _ _) | (refine J3 ?_; intro _ _) | (refine J4 ?_; intro _ _) | refine K1 ?_ | refine K0 ?_ | refine K2 ?_ | refine K3 ?_ | refine K4 ?_ | (refine CV_pu ?_; intro _ _ _ _) | refine fV_ldN ?_ | refine fV_ld1 ?_ | refine fHV_ldN ?_ | refine fHV_ld1 ?_ | refine NilW_some ?_ | refine iCW_1 ?_ | refine iCW_N ?_ | refine Pk_b ?_))
  refine CV_fn0 (fun hz => cloneTraps (hv1.mono hz) h1) ?_
  rintro z3 B1 w3 v3 hle3 hS3 ho1
  (repeat (first | (refine iDr ?_; intro _ _) | refine V_run ?_ | refine PV_run ?_ | refine HV_run ?_ | refine iV_ld1 ?_ | refine iV_ldN ?_ | (refine iV_bx ?_; intro _ _ _ _) | (refine iV_al ?_; intro _ _ _ _) | (refine iV_mm ?_; intro _ _ _ _) | (refine iU_st ?_; intro _ _) | refine iHV_1 ?_ | refine iHV_N ?_ | refine iRI_1 ?_ | refine iRI_N ?_ | refine Cond_t ?_ | refine Cond_f ?_ | refine JB ?_ | (refine JC ?_; intro _ _ _ _) | (refine J1 ?_; intro _ _) | (refine J0 ?_; intro _ _) | (refine J2 ?_; intro _ _) | (refine J3 ?_; intro _ _) | (refine J4 ?_; intro _ _) | refine K1 ?_ | refine K0 ?_ | refine K2 ?_ | refine K3 ?_ | refine K4 ?_ | (refine CV_pu ?_; intro _ _ _ _) | refine fV_ldN ?_ | refine fV_ld1 ?_ | refine fHV_ldN ?_ | refine fHV_ld1 ?_ | refine NilW_some ?_ | refine iCW_1 ?_ | refine iCW_N ?_ | refine Pk_b ?_))
  refine CV_fn0 (fun hz => clonePend (hv2.mono hz) h2) ?_
  rintro z4 B2 w4 v4 hle4 hS4 ho2
  obtain ⟨a3, cap3, rfl, hc3⟩ := ho1.form
  obtain ⟨a4, cap4, rfl, hc4⟩ := ho2.form
  (repeat (first | (refine iDr ?_; intro _ _) | refine V_run ?_ | refine PV_run ?_ | refine HV_run ?_ | refine iV_ld1 ?_ | refine iV_ldN ?_ | (refine iV_bx ?_; intro _ _ _ _) | (refine iV_al ?_; intro _ _ _ _) | (refine iV_mm ?_; intro _ _ _ _) | (refine iU_st ?_; intro _ _) | refine iHV_1 ?_ | refine iHV_N ?_ | refine iRI_1 ?_ | refine iRI_N ?_ | refine Cond_t ?_ | refine Cond_f ?_ | refine JB ?_ | (refine JC ?_; intro _ _ _ _) | (refine J1 ?_; intro _ _) | (refine J0 ?_; intro _ _) | (refine J2 ?_; intro _ _) | (refine J3 ?_; intro _ _) | (refine J4 ?_; intro _ _) | refine K1 ?_ | refine K0 ?_ | refine K2 ?_ | refine K3 ?_ | refine K4 ?_ | (refine CV_pu ?_; intro _ _ _ _) | refine fV_ldN ?_ | refine fV_ld1 ?_ | refine fHV_ldN ?_ | refine fHV_ld1 ?_ | refine NilW_some ?_ | refine iCW_1 ?_ | refine iCW_N ?_ | refine Pk_b ?_))
  rename_i hSe
  have hSe' : Res w z [] _ z4 (B1 ++ B2) := (hSe.sublist (L' := B2 ++ B1) ((List.Sublist.refl _).append (List.sublist_append_left _ _))).perm List.perm_append_comm
  refine ⟨_, B1 ++ B2, hSe', _, rfl, ⟨B1, B2, _, _, rfl, rfl, ho1, ho2⟩, h1, h2, fun t ht => ?_, fun t ht => ?_, hd⟩
  · obtain ⟨cs, hr⟩ := hv1.mem ht
    exact hr.2
  · obtain ⟨cs, hr⟩ := hv2.mem ht
    exact hr.2)
end Go.Proofs.Ytjnckainogpenaa
