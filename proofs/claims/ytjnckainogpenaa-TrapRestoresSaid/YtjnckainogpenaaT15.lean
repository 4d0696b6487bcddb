/- Machines at work: activations. -/
import Derived.Test.YtjnckainogpenaaT14
set_option linter.unusedVariables false
set_option linter.unusedSimpArgs false
set_option maxRecDepth 20000
set_option synthInstance.maxHeartbeats 400000
set_option synthInstance.maxSize 4000
namespace Go.Proofs.Ytjnckainogpenaa
open Go Q Go.RowKit

theorem RI_at {w : World} {b off n : Nat} {t : Nat} {vs : List Value} {A : Prop} [g : TyAgg t n] [gs : TySize t n] (h : At (hp w) b off vs) (hl : vs.length = n) (ha : A) : RunIs (ld t (.pointer (some ⟨b, off, none⟩))) w (.agg vs.toArray) ∧ A := ⟨run_ldN h hl, ha⟩
theorem At.part {h : Nat → Option Obj} {b off : Nat} {ps vs qs : List Value} (ha : At h b 0 (ps ++ (vs ++ qs))) (ho : off = ps.length) : At h b off vs := by
  obtain ⟨c, ty, fr, h1, h2⟩ := ha
  refine ⟨c, ty, fr, h1, fun j v hv => ?_⟩
  have := h2 (ps.length + j) v (by
    rw [List.getElem?_append_right (by omega), Nat.add_sub_cancel_left, List.getElem?_append_left (List.getElem?_eq_some_iff.1 hv).1]
    exact hv)
  rw [ho]
  simpa using this
/-- The top frame is frozen. -/
theorem topFreeze {w0 w : World} {z0 z : Z} {B0 L B2 : Bl} {mb fb tb cap tcap : Nat} {pre : StM} {ps sp ts : List Value} {f : FrM} {v2 : Value} (hx : MachX z mb fb tb pre ps sp ts cap tcap f) (hpo : PendOwn B2 v2 f) (h : Res w0 z0 B0 w z ((tb, .cells (f.traps.flatMap TrM.cells ++ ts).toArray 73 (0, 0)) :: (B2 ++ L))) :
    ∃ z', Le z z' ∧ Res w0 z0 B0 w z' L ∧ FrsR z' ps pre ∧ SlR El.trap z' (.slice (some ⟨tb, 0, none⟩) 6 tcap) f.traps ∧ SlR El.raised z' v2 f.pend := by
  obtain ⟨q1, q2, q3, q4, q5⟩ := hx.sm
  have hfl : (f.traps.flatMap TrM.cells).length = 18 := by rw [flat_len (f := TrM.cells) (n := 3) (fun _ => rfl), hx.six]
  obtain ⟨z1, hz1, hS1, hv1⟩ := Res.freezeSl (E := El.trap) (B := [(tb, _)]) (v := .slice (some ⟨tb, 0, none⟩) 6 tcap) (xs := f.traps) (f := TrM.cells) (e := 73) h ⟨by rw [hfl, hx.six]; rfl, .inr ⟨tb, tcap, ts, rfl, by rw [hx.six], by rw [hx.six]; exact hx.tcap.1, hx.tcap.2.1, by rw [List.length_append, hfl]; exact hx.tcap.2.2⟩⟩ (by simp only [big]; omega) (fun _ => rfl) (fun z x hx => ⟨rfl, q3 x hx⟩)
  obtain ⟨z2, hz2, hS2, hv2⟩ := Res.freezeSl (E := El.raised) hS1 hpo (by simp only [big]; omega) (fun _ => rfl) (fun z x hx => ⟨rfl, q4 x hx⟩)
  exact ⟨z2, hz1.trans hz2, hS2, FrsR.mono (hz1.trans hz2) hx.fr, hv1.mono hz2, hv2⟩
theorem permX {a b c d : Nat × Obj} {B3 : Bl} : (a :: (B3 ++ [b, c, d])).Perm ([d] ++ (a :: (B3 ++ [b, c]))) := by
  rw [show B3 ++ [b, c, d] = (B3 ++ [b, c]) ++ [d] by simp]
  exact List.perm_append_comm (l₁ := a :: (B3 ++ [b, c])) (l₂ := [d])
theorem Res.endY {w0 w : World} {z0 z : Z} {B0 : Bl} {a b m : Nat × Obj} {B3 B5 : Bl} (h : Res w0 z0 B0 w z (B5 ++ (a :: (B3 ++ [b, m])))) : Res w0 z0 B0 w z (m :: (B5 ++ B3)) := by
  have h1 : Res w0 z0 B0 w z (B5 ++ (B3 ++ [m])) := h.sublist ((List.Sublist.refl _).append (((List.Sublist.refl _).append (List.sublist_cons_self _ _)).cons _))
  refine h1.perm ?_
  rw [← List.append_assoc]
  exact List.perm_append_comm (l₁ := B5 ++ B3) (l₂ := [m])
def pushF (f : FrM) : FrM := { f with pend := [] }
theorem callP {z : Z} {w : World} {B : Bl} {mb : Nat} {pre : StM} {f : FrM} {v1 v2 v3 : Value} (hm : Mach z B mb (pre ++ [f])) (h6 : f.traps.length = 6) (hpre : pre.length ≤ 100) :
    Fn 86 #[.pointer (some ⟨mb, 0, none⟩), v1, v2, v3] z B w fun z' B' r => if pre.length + 1 = 30 then r = .tuple #[noAct.v, .int .i64 14] else r = .tuple #[noAct.v, .int .i64 0] ∧ Mach z' B' mb ((pre ++ [f]) ++ [pushF f]) := Fn.intro fun hS => en86 (by
  unfold vc86
  obtain ⟨fb, tb, ps, sp, ts, cap, tcap, B2, w2, hB, hx, hpo⟩ := hm.x h6
  have hpo' := hpo
  obtain ⟨a2, cap2, rfl, hc2⟩ := hpo.form
  have hS' : Res w z B w z _ := Eq.subst (motive := fun X => Res w z B w z X) hB hS
  clear hS
  have hlen := hx.fr.len
  simp only [mxB] at hS'
  obtain ⟨z1, hz1, hS1, hfr, hv1, hv2⟩ := topFreeze (L := [(mb, _), (fb, _)]) hx hpo' (hS'.perm (List.perm_append_comm (l₁ := [(mb, _), (fb, _)]) (l₂ := (tb, _) :: B2)))
  clear hS'
  (repeat (first | (refine iDr ?_; intro _ _) | refine V_run ?_ | refine PV_run ?_ | refine HV_run ?_ | refine iV_ld1 ?_ | refine iV_ldN ?_ | (refine iV_bx ?_; intro _ _ _ _) | (refine iV_al ?_; intro _ _ _ _) | (refine iV_mm ?_; intro _ _ _ _) | (refine iU_st ?_; intro _ _) | refine iHV_1 ?_ | refine iHV_N ?_ | refine iRI_1 ?_ | refine iRI_N ?_ | refine Cond_t ?_ | refine Cond_f ?_ | refine JB ?_ | (refine JC ?_; intro _ _ _ _) | (refine J1 ?_; intro _ _) | (refine J0 ?_; intro _ _) | (refine J2 ?_; intro _ _) | (refine J3 ?_; intro _ _) | (refine J4 ?_; intro _ _) | refine K1 ?_ | refine K0 ?_ | refine K2 ?_ | refine K3 ?_ | refine K4 ?_ | (refine CV_pu ?_; intro _ _ _ _) | refine fV_ldN ?_ | refine fV_ld1 ?_ | refine fHV_ldN ?_ | refine fHV_ld1 ?_ | refine NilW_some ?_ | refine iCW_1 ?_ | refine iCW_N ?_ | refine Pk_b ?_))
  refine Cond_d (fun h30 => ?_) (fun h30 => ?_)
  · (repeat (first | (refine iDr ?_; intro _ _) | refine V_run ?_ | refine PV_run ?_ | refine HV_run ?_ | refine iV_ld1 ?_ | refine iV_ldN ?_ | (refine iV_bx ?_; intro _ _ _ _) | (refine iV_al ?_; intro _ _ _ _) | (refine iV_mm ?_; intro _ _ _ _) | (refine iU_st ?_; intro _ _) | refine iHV_1 ?_ | refine iHV_N ?_ | refine iRI_1 ?_ | refine iRI_N ?_ | refine Cond_t ?_ | refine Cond_f ?_ | refine JB ?_ | (refine JC ?_; intro _ _ _ _) | (refine J1 ?_; intro _ _) | (refine J0 ?_; intro _ _) | (refine J2 ?_; intro _ _) | (refine J3 ?_; intro _ _) | (refine J4 ?_; intro _ _) | refine K1 ?_ | refine K0 ?_ | refine K2 ?_ | refine K3 ?_ | refine K4 ?_ | (refine CV_pu ?_; intro _ _ _ _) | refine fV_ldN ?_ | refine fV_ld1 ?_ | refine fHV_ldN ?_ | refine fHV_ld1 ?_ | refine NilW_some ?_ | refine iCW_1 ?_ | refine iCW_N ?_ | refine Pk_b ?_))
    exact ⟨_, _, ‹_›, by rw [if_pos (by omega)]; rfl⟩
  refine CV_now (n := pre.length) (o := ps.length) hlen.symm (by simp only [big]; omega) ?_
  intro w9 hS9
  (repeat (first | (refine iDr ?_; intro _ _) | refine V_run ?_ | refine PV_run ?_ | refine HV_run ?_ | refine iV_ld1 ?_ | refine iV_ldN ?_ | (refine iV_bx ?_; intro _ _ _ _) | (refine iV_al ?_; intro _ _ _ _) | (refine iV_mm ?_; intro _ _ _ _) | (refine iU_st ?_; intro _ _) | refine iHV_1 ?_ | refine iHV_N ?_ | refine iRI_1 ?_ | refine iRI_N ?_ | refine Cond_t ?_ | refine Cond_f ?_ | refine JB ?_ | (refine JC ?_; intro _ _ _ _) | (refine J1 ?_; intro _ _) | (refine J0 ?_; intro _ _) | (refine J2 ?_; intro _ _) | (refine J3 ?_; intro _ _) | (refine J4 ?_; intro _ _) | refine K1 ?_ | refine K0 ?_ | refine K2 ?_ | refine K3 ?_ | refine K4 ?_ | (refine CV_pu ?_; intro _ _ _ _) | refine fV_ldN ?_ | refine fV_ld1 ?_ | refine fHV_ldN ?_ | refine fHV_ld1 ?_ | refine NilW_some ?_ | refine iCW_1 ?_ | refine iCW_N ?_ | refine Pk_b ?_))
  refine CV_fn0 (fun hz => cloneTraps (SlR.mono hv1 (Le.refl _)) (by omega)) ?_
  rintro z3 B3 w3 v3' hle3 hS3 ho3
  obtain ⟨a3, cap3, rfl, hc3⟩ := ho3.form
  (repeat (first | (refine iDr ?_; intro _ _) | refine V_run ?_ | refine PV_run ?_ | refine HV_run ?_ | refine iV_ld1 ?_ | refine iV_ldN ?_ | (refine iV_bx ?_; intro _ _ _ _) | (refine iV_al ?_; intro _ _ _ _) | (refine iV_mm ?_; intro _ _ _ _) | (refine iU_st ?_; intro _ _) | refine iHV_1 ?_ | refine iHV_N ?_ | refine iRI_1 ?_ | refine iRI_N ?_ | refine Cond_t ?_ | refine Cond_f ?_ | refine JB ?_ | (refine JC ?_; intro _ _ _ _) | (refine J1 ?_; intro _ _) | (refine J0 ?_; intro _ _) | (refine J2 ?_; intro _ _) | (refine J3 ?_; intro _ _) | (refine J4 ?_; intro _ _) | refine K1 ?_ | refine K0 ?_ | refine K2 ?_ | refine K3 ?_ | refine K4 ?_ | (refine CV_pu ?_; intro _ _ _ _) | refine fV_ldN ?_ | refine fV_ld1 ?_ | refine fHV_ldN ?_ | refine fHV_ld1 ?_ | refine NilW_some ?_ | refine iCW_1 ?_ | refine iCW_N ?_ | refine Pk_b ?_))
  refine V_bs (parts := [(0, _)]) rfl (by omega) ?_
  intro b4 w4 hb4 hS4
  (repeat (first | (refine iDr ?_; intro _ _) | refine V_run ?_ | refine PV_run ?_ | refine HV_run ?_ | refine iV_ld1 ?_ | refine iV_ldN ?_ | (refine iV_bx ?_; intro _ _ _ _) | (refine iV_al ?_; intro _ _ _ _) | (refine iV_mm ?_; intro _ _ _ _) | (refine iU_st ?_; intro _ _) | refine iHV_1 ?_ | refine iHV_N ?_ | refine iRI_1 ?_ | refine iRI_N ?_ | refine Cond_t ?_ | refine Cond_f ?_ | refine JB ?_ | (refine JC ?_; intro _ _ _ _) | (refine J1 ?_; intro _ _) | (refine J0 ?_; intro _ _) | (refine J2 ?_; intro _ _) | (refine J3 ?_; intro _ _) | (refine J4 ?_; intro _ _) | refine K1 ?_ | refine K0 ?_ | refine K2 ?_ | refine K3 ?_ | refine K4 ?_ | (refine CV_pu ?_; intro _ _ _ _) | refine fV_ldN ?_ | refine fV_ld1 ?_ | refine fHV_ldN ?_ | refine fHV_ld1 ?_ | refine NilW_some ?_ | refine iCW_1 ?_ | refine iCW_N ?_ | refine Pk_b ?_))
  have hps := hx.cap.2.2
  refine V_appX (B := [(fb, _)]) (m := 1) (n := pre.length + 1) (xs := ps ++ ([.slice (some ⟨tb, 0, none⟩) 6 tcap, .slice a2 f.pend.length cap2] ++ (f.info.cells ++ []))) (news := [.slice a3 f.traps.length cap3, .slice none 0 0, .int .i64 f.info.cond, .int .i64 f.info.mode, .string f.info.desc]) (hS4.perm permX) ⟨by simp; omega, .inr ⟨fb, cap, sp, by simp, rfl, hx.cap.1, hx.cap.2.1, by simp; omega⟩⟩ ⟨_, _, _, (hS4.mem _ List.mem_cons_self).1, fun j v hv => by simpa using hv⟩ rfl (fun u hu => by simp at hu; rcases hu with rfl | rfl | rfl | rfl | rfl <;> rfl) (by omega) (by simp only [room]; omega) (by simp only [room]; omega) ?_
  intro B5 v5 w5 ho5 hS5 hat5
  obtain ⟨a5, cap5, rfl, hc5⟩ := ho5.form
  have hat5' : At (hp w5) fb (ps.length + 2) f.info.cells := by
    have := hat5 fb cap rfl
    rw [← List.append_assoc] at this
    exact At.part this (by simp)
  refine RI_at hat5' rfl ?_
  (repeat (first | (refine iDr ?_; intro _ _) | refine V_run ?_ | refine PV_run ?_ | refine HV_run ?_ | refine iV_ld1 ?_ | refine iV_ldN ?_ | (refine iV_bx ?_; intro _ _ _ _) | (refine iV_al ?_; intro _ _ _ _) | (refine iV_mm ?_; intro _ _ _ _) | (refine iU_st ?_; intro _ _) | refine iHV_1 ?_ | refine iHV_N ?_ | refine iRI_1 ?_ | refine iRI_N ?_ | refine Cond_t ?_ | refine Cond_f ?_ | refine JB ?_ | (refine JC ?_; intro _ _ _ _) | (refine J1 ?_; intro _ _) | (refine J0 ?_; intro _ _) | (refine J2 ?_; intro _ _) | (refine J3 ?_; intro _ _) | (refine J4 ?_; intro _ _) | refine K1 ?_ | refine K0 ?_ | refine K2 ?_ | refine K3 ?_ | refine K4 ?_ | (refine CV_pu ?_; intro _ _ _ _) | refine fV_ldN ?_ | refine fV_ld1 ?_ | refine fHV_ldN ?_ | refine fHV_ld1 ?_ | refine NilW_some ?_ | refine iCW_1 ?_ | refine iCW_N ?_ | refine Pk_b ?_))
  rename_i hSe
  refine ⟨_, _, hSe.endY, by
    rw [if_neg (by omega)]
    refine ⟨rfl, B5, B3, _, _, rfl, ?_, .inr ⟨pre ++ [f], pushF f, _, _, rfl, rfl, FrsR.snoc (f := f) ⟨_, _, rfl, hv1.mono hle3, hv2.mono hle3, hx.sm.2.2.2.2⟩ (FrsR.mono hle3 hfr), ⟨B3, [], _, _, by simp, rfl, ho3, OwnSl.nil⟩, hx.sm.1, by simp [pushF], hx.sm.2.2.1, by simp [pushF], hx.sm.2.2.2.2⟩⟩
    simp only [List.length_append, List.length_singleton, List.append_assoc, List.cons_append, List.nil_append, pushF, InM.cells, List.append_nil] at ho5 ⊢
    exact ho5⟩)
def backP_dummy : Unit := ()
end Go.Proofs.Ytjnckainogpenaa
