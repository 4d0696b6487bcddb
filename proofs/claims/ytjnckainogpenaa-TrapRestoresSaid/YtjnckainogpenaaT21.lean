/- Catches; names. -/
import Derived.Test.YtjnckainogpenaaT20
set_option linter.unusedVariables false
set_option maxRecDepth 20000
set_option synthInstance.maxHeartbeats 400000
set_option synthInstance.maxSize 4000
namespace Go.Proofs.Ytjnckainogpenaa
open Go Q Go.RowKit

instance {c : Int} : Pu 36 #[.int .i64 c] (if cond c then .tuple #[.string (nameOf c), .int .i64 0] else .tuple #[.string ⟨#[]⟩, .int .i64 1]) := ⟨fun z w => Fn1.intro fun hS => en36 (by
  unfold vc36
  (repeat (first | (refine iDr ?_; intro _ _) | refine V_run ?_ | refine PV_run ?_ | refine HV_run ?_ | refine iV_ld1 ?_ | refine iV_ldN ?_ | (refine iV_bx ?_; intro _ _ _ _) | (refine iV_al ?_; intro _ _ _ _) | (refine iV_mm ?_; intro _ _ _ _) | (refine iU_st ?_; intro _ _) | refine iHV_1 ?_ | refine iHV_N ?_ | refine iRI_1 ?_ | refine iRI_N ?_ | refine Cond_t ?_ | refine Cond_f ?_ | refine JB ?_ | (refine JC ?_; intro _ _ _ _) | (refine J1 ?_; intro _ _) | (refine J0 ?_; intro _ _) | (refine J2 ?_; intro _ _) | (refine J3 ?_; intro _ _) | (refine J4 ?_; intro _ _) | refine K1 ?_ | refine K0 ?_ | refine K2 ?_ | refine K3 ?_ | refine K4 ?_ | (refine CV_pu ?_; intro _ _ _ _) | refine fV_ldN ?_ | refine fV_ld1 ?_ | refine fHV_ldN ?_ | refine fHV_ld1 ?_ | refine NilW_some ?_ | refine iCW_1 ?_ | refine iCW_N ?_ | refine Pk_b ?_))
  refine Cond_n (fun h => ?_) (fun h => ?_)
  · exact ⟨_, _, ‹_›, by rw [h]; rfl⟩
  · haveI : InR c 6 := by simp only [cond, Bool.and_eq_true, decide_eq_true_eq] at h; exact ⟨h.1, h.2⟩
    (repeat (first | (refine iDr ?_; intro _ _) | refine V_run ?_ | refine PV_run ?_ | refine HV_run ?_ | refine iV_ld1 ?_ | refine iV_ldN ?_ | (refine iV_bx ?_; intro _ _ _ _) | (refine iV_al ?_; intro _ _ _ _) | (refine iV_mm ?_; intro _ _ _ _) | (refine iU_st ?_; intro _ _) | refine iHV_1 ?_ | refine iHV_N ?_ | refine iRI_1 ?_ | refine iRI_N ?_ | refine Cond_t ?_ | refine Cond_f ?_ | refine JB ?_ | (refine JC ?_; intro _ _ _ _) | (refine J1 ?_; intro _ _) | (refine J0 ?_; intro _ _) | (refine J2 ?_; intro _ _) | (refine J3 ?_; intro _ _) | (refine J4 ?_; intro _ _) | refine K1 ?_ | refine K0 ?_ | refine K2 ?_ | refine K3 ?_ | refine K4 ?_ | (refine CV_pu ?_; intro _ _ _ _) | refine fV_ldN ?_ | refine fV_ld1 ?_ | refine fHV_ldN ?_ | refine fHV_ld1 ?_ | refine NilW_some ?_ | refine iCW_1 ?_ | refine iCW_N ?_ | refine Pk_b ?_))
    exact ⟨_, _, ‹_›, by rw [h]; rfl⟩)⟩
theorem lastSplit {s : StM} (h : checkB s = true) : ∃ pre f, s = pre ++ [f] ∧ f.traps.length = 6 ∧ f.pend.length ≤ 4 ∧ pre.length ≤ 29 ∧ framedB f = true ∧ lastF s = f ∧ s.dropLast = pre := by
  obtain ⟨h30, hfr⟩ := checkB_fr h
  have hne : s ≠ [] := by intro e; subst e; simp [checkB] at h
  obtain ⟨pre, f, rfl⟩ : ∃ pre f, s = pre ++ [f] := ⟨s.dropLast, s.getLast hne, (List.dropLast_concat_getLast hne).symm⟩
  have hfd : framedB f = true := by
    simp only [checkB, Bool.and_eq_true, List.all_eq_true] at h
    exact h.2 f (by simp)
  exact ⟨pre, f, rfl, (hfr f (by simp)).1, (hfr f (by simp)).2, by simp at h30; omega, hfd, by simp [lastF], by simp⟩
/-- What raising a condition leads to. -/
def catchM (s : StM) (c : Int) : AcM × Int :=
  if openE s [c] ≠ 0 then (noAct, openE s [c])
  else
    let f : FrM := { lastF s with pend := [] }
    if (raiseA f c ⟨#[]⟩).kind ≠ 0 then (raiseA f c ⟨#[]⟩, 0)
    else
      let g := raiseF f c ⟨#[]⟩
      ((endM s.length g g.pend).a, (endM s.length g g.pend).e)
theorem raiseF_six {f : FrM} {c : Int} {d : ByteArray} (h6 : f.traps.length = 6) : (raiseF f c d).traps.length = 6 := by
  unfold raiseF
  repeat' split
  all_goals simp [sigF, h6]
theorem raiseF_pend {f : FrM} {c : Int} {d : ByteArray} (hp : f.pend = []) (h0 : 0 ≤ c) (h1 : c < 6) : ∀ r ∈ (raiseF f c d).pend, 0 ≤ r.cond ∧ r.cond < 6 := by
  unfold raiseF
  have hrc : 0 ≤ raiseC f c ∧ raiseC f c < 6 := by unfold raiseC; split <;> omega
  repeat' split
  all_goals intro r hr
  all_goals simp only [sigF, hp, List.nil_append, List.mem_singleton, List.not_mem_nil] at hr
  all_goals subst hr
  exact hrc
theorem endM_err {n : Nat} {f : FrM} : ∀ {l : List RaM}, (endM n f l).e ≠ 0 → (endM n f l).a = noAct
  | [], h => absurd rfl h
  | r :: l, h => by
    simp only [endM] at h ⊢
    split at h
    · rename_i h1; rw [if_pos h1]; exact endM_err h
    · rename_i h1
      rw [if_neg h1]
      split at h
      · exact absurd rfl h
      · rename_i h2
        rw [if_neg h2]
        split at h
        · rename_i h3; rw [if_pos h3]
        · exact absurd rfl h
theorem OpR.r {mb : Nat} {e : Int} {a : AcM} {s : StM} {z : Z} {B : Bl} {r : Value} (hea : e ≠ 0 → a = noAct) (h : OpR mb e a s z B r) : r = .tuple #[a.v, .int .i64 e] := by
  rw [OpR] at h
  by_cases he : e = 0
  · rw [if_pos he] at h; rw [he]; exact h.1
  · rw [if_neg he] at h; rw [hea he]; exact h
theorem CatchesP {v : Value} {s : StM} {c : Int} {z : Z} {w : World} (hs : StR z v s) : Fn1 30 #[v, .int .i64 c] z w fun _ r => r = .tuple #[(catchM s c).1.v, .int .i64 (catchM s c).2] := Fn1.intro fun hS => en30 (by
  unfold vc30
  obtain ⟨u, rfl, hu⟩ := hs
  obtain ⟨hb, a, cap, rfl, hcap, hel⟩ := hu.form
  refine iV_bx ?_
  intro b2 w2 hb2 hS2
  refine iV_al ?_
  intro b4 w4 hb4 hS4
  (repeat (first | (refine iDr ?_; intro _ _) | refine V_run ?_ | refine PV_run ?_ | refine HV_run ?_ | refine iV_ld1 ?_ | refine iV_ldN ?_ | (refine iV_bx ?_; intro _ _ _ _) | (refine iV_al ?_; intro _ _ _ _) | (refine iV_mm ?_; intro _ _ _ _) | (refine iU_st ?_; intro _ _) | refine iHV_1 ?_ | refine iHV_N ?_ | refine iRI_1 ?_ | refine iRI_N ?_ | refine Cond_t ?_ | refine Cond_f ?_ | refine JB ?_ | (refine JC ?_; intro _ _ _ _) | (refine J1 ?_; intro _ _) | (refine J0 ?_; intro _ _) | (refine J2 ?_; intro _ _) | (refine J3 ?_; intro _ _) | (refine J4 ?_; intro _ _) | refine K1 ?_ | refine K0 ?_ | refine K2 ?_ | refine K3 ?_ | refine K4 ?_ | (refine CV_pu ?_; intro _ _ _ _) | refine fV_ldN ?_ | refine fV_ld1 ?_ | refine fHV_ldN ?_ | refine fHV_ld1 ?_ | refine NilW_some ?_ | refine iCW_1 ?_ | refine iCW_N ?_ | refine Pk_b ?_))
  refine V_bs (parts := [(0, _)]) rfl (by omega) ?_
  intro b3 w3 hb3 hS3
  obtain ⟨z4, hz4, hS5, hfr⟩ := Res.freezeSl (E := El.int) (B := [(b3, _)]) (f := fun x => [.int .i64 x]) (xs := [c]) (v := .slice (some ⟨b3, 0, none⟩) 1 1) (e := 3) hS3 ⟨rfl, .inr ⟨b3, 1, [], by rfl, rfl, by simp, by simp [maxLen], rfl⟩⟩ (by simp [big]) (fun _ => rfl) (fun _ _ _ => rfl)
  clear hS3 hS4 hS2
  refine CV_fn0 (fun hz => openP (conds := [c]) ⟨_, rfl, hu.mono hz⟩ hfr) ?_
  rintro z8 B8 w8 v8 hle8 hS8 hop
  by_cases he : openE s [c] = 0
  · rw [if_pos he] at hop
    obtain ⟨mb, rfl, hm⟩ := hop
    have hck : checkB s = true := by
      simp only [openE] at he
      cases hh : checkB s with
      | true => rfl
      | false => simp [hh] at he
    have hcc : 0 ≤ c ∧ c < 6 := by
      simp only [openE, hck, if_true, List.all_cons, List.all_nil, Bool.and_true] at he
      cases hcd : cond c with
      | false => simp [hcd] at he
      | true => simpa [cond] using hcd
    obtain ⟨pre, f, rfl, h6, hp4, hpre, hfd, hlast, hdl⟩ := lastSplit hck
    have hlen1 : (pre ++ [f]).length = pre.length + 1 := by simp
    simp only [catchM, he, hlast, hlen1, ne_eq, not_true_eq_false, if_false]
    obtain ⟨fb, tb, ps, sp, ts, cap, tcap, B2, w2', rfl, hx, hpo⟩ := hm.x h6
    obtain ⟨a2, cap2, rfl, hc2⟩ := hpo.form
    have hlen := hx.fr.len
    simp only [mxB, List.cons_append] at hS8
    (repeat (first | (refine iDr ?_; intro _ _) | refine V_run ?_ | refine PV_run ?_ | refine HV_run ?_ | refine iV_ld1 ?_ | refine iV_ldN ?_ | (refine iV_bx ?_; intro _ _ _ _) | (refine iV_al ?_; intro _ _ _ _) | (refine iV_mm ?_; intro _ _ _ _) | (refine iU_st ?_; intro _ _) | refine iHV_1 ?_ | refine iHV_N ?_ | refine iRI_1 ?_ | refine iRI_N ?_ | refine Cond_t ?_ | refine Cond_f ?_ | refine JB ?_ | (refine JC ?_; intro _ _ _ _) | (refine J1 ?_; intro _ _) | (refine J0 ?_; intro _ _) | (refine J2 ?_; intro _ _) | (refine J3 ?_; intro _ _) | (refine J4 ?_; intro _ _) | refine K1 ?_ | refine K0 ?_ | refine K2 ?_ | refine K3 ?_ | refine K4 ?_ | (refine CV_pu ?_; intro _ _ _ _) | refine fV_ldN ?_ | refine fV_ld1 ?_ | refine fHV_ldN ?_ | refine fHV_ld1 ?_ | refine NilW_some ?_ | refine iCW_1 ?_ | refine iCW_N ?_ | refine Pk_b ?_))
    refine CV_now (n := pre.length) (o := ps.length) hlen.symm (by simp only [big]; omega) ?_
    intro w9 hS9
    (repeat (first | (refine iDr ?_; intro _ _) | refine V_run ?_ | refine PV_run ?_ | refine HV_run ?_ | refine iV_ld1 ?_ | refine iV_ldN ?_ | (refine iV_bx ?_; intro _ _ _ _) | (refine iV_al ?_; intro _ _ _ _) | (refine iV_mm ?_; intro _ _ _ _) | (refine iU_st ?_; intro _ _) | refine iHV_1 ?_ | refine iHV_N ?_ | refine iRI_1 ?_ | refine iRI_N ?_ | refine Cond_t ?_ | refine Cond_f ?_ | refine JB ?_ | (refine JC ?_; intro _ _ _ _) | (refine J1 ?_; intro _ _) | (refine J0 ?_; intro _ _) | (refine J2 ?_; intro _ _) | (refine J3 ?_; intro _ _) | (refine J4 ?_; intro _ _) | refine K1 ?_ | refine K0 ?_ | refine K2 ?_ | refine K3 ?_ | refine K4 ?_ | (refine CV_pu ?_; intro _ _ _ _) | refine fV_ldN ?_ | refine fV_ld1 ?_ | refine fHV_ldN ?_ | refine fHV_ld1 ?_ | refine NilW_some ?_ | refine iCW_1 ?_ | refine iCW_N ?_ | refine Pk_b ?_))
    rename_i hSe
    obtain ⟨q1, q2, q3, q4, q5⟩ := hx.sm
    have hx' : MachX z8 mb fb tb pre ps sp ts cap tcap { f with pend := [] } := ⟨hx.fr, hx.cap, hx.tcap, hx.six, q1, by simp, q3, by simp, q5⟩
    have hm' : Mach z8 _ mb (pre ++ [{ f with pend := [] }]) := hx'.mach (B2 := []) (v2 := .slice none 0 0) OwnSl.nil
    refine CV_fn (B := mxB mb fb tb (pre.length + 1) ps sp ts cap tcap { f with pend := [] } [] (.slice none 0 0)) (F := [(b4, _), (b2, _)]) (hSe.sublist ((((List.sublist_append_right B2 _).cons_cons _).cons_cons _).cons_cons _)) (raiseP (m := 0) hm' h6 hcc.1 hcc.2 (by omega) emptySm (by simp)) (by simp) ?_
    rintro z10 B10 w10 v10 hle10 hS10 hop
    rw [if_pos (by decide)] at hop
    obtain ⟨rfl, hm10⟩ := hop
    dsimp only [AcM.v, AcM.cells] at *
    (repeat (first | (refine iDr ?_; intro _ _) | refine V_run ?_ | refine PV_run ?_ | refine HV_run ?_ | refine iV_ld1 ?_ | refine iV_ldN ?_ | (refine iV_bx ?_; intro _ _ _ _) | (refine iV_al ?_; intro _ _ _ _) | (refine iV_mm ?_; intro _ _ _ _) | (refine iU_st ?_; intro _ _) | refine iHV_1 ?_ | refine iHV_N ?_ | refine iRI_1 ?_ | refine iRI_N ?_ | refine Cond_t ?_ | refine Cond_f ?_ | refine JB ?_ | (refine JC ?_; intro _ _ _ _) | (refine J1 ?_; intro _ _) | (refine J0 ?_; intro _ _) | (refine J2 ?_; intro _ _) | (refine J3 ?_; intro _ _) | (refine J4 ?_; intro _ _) | refine K1 ?_ | refine K0 ?_ | refine K2 ?_ | refine K3 ?_ | refine K4 ?_ | (refine CV_pu ?_; intro _ _ _ _) | refine fV_ldN ?_ | refine fV_ld1 ?_ | refine fHV_ldN ?_ | refine fHV_ld1 ?_ | refine NilW_some ?_ | refine iCW_1 ?_ | refine iCW_N ?_ | refine Pk_b ?_))
    refine Cond_nd (fun hkn => ?_) (fun hk0 => ?_)
    · (repeat (first | (refine iDr ?_; intro _ _) | refine V_run ?_ | refine PV_run ?_ | refine HV_run ?_ | refine iV_ld1 ?_ | refine iV_ldN ?_ | (refine iV_bx ?_; intro _ _ _ _) | (refine iV_al ?_; intro _ _ _ _) | (refine iV_mm ?_; intro _ _ _ _) | (refine iU_st ?_; intro _ _) | refine iHV_1 ?_ | refine iHV_N ?_ | refine iRI_1 ?_ | refine iRI_N ?_ | refine Cond_t ?_ | refine Cond_f ?_ | refine JB ?_ | (refine JC ?_; intro _ _ _ _) | (refine J1 ?_; intro _ _) | (refine J0 ?_; intro _ _) | (refine J2 ?_; intro _ _) | (refine J3 ?_; intro _ _) | (refine J4 ?_; intro _ _) | refine K1 ?_ | refine K0 ?_ | refine K2 ?_ | refine K3 ?_ | refine K4 ?_ | (refine CV_pu ?_; intro _ _ _ _) | refine fV_ldN ?_ | refine fV_ld1 ?_ | refine fHV_ldN ?_ | refine fHV_ld1 ?_ | refine NilW_some ?_ | refine iCW_1 ?_ | refine iCW_N ?_ | refine Pk_b ?_))
      exact ⟨_, _, ‹_›, by rw [if_pos hkn]⟩
    · (repeat (first | (refine iDr ?_; intro _ _) | refine V_run ?_ | refine PV_run ?_ | refine HV_run ?_ | refine iV_ld1 ?_ | refine iV_ldN ?_ | (refine iV_bx ?_; intro _ _ _ _) | (refine iV_al ?_; intro _ _ _ _) | (refine iV_mm ?_; intro _ _ _ _) | (refine iU_st ?_; intro _ _) | refine iHV_1 ?_ | refine iHV_N ?_ | refine iRI_1 ?_ | refine iRI_N ?_ | refine Cond_t ?_ | refine Cond_f ?_ | refine JB ?_ | (refine JC ?_; intro _ _ _ _) | (refine J1 ?_; intro _ _) | (refine J0 ?_; intro _ _) | (refine J2 ?_; intro _ _) | (refine J3 ?_; intro _ _) | (refine J4 ?_; intro _ _) | refine K1 ?_ | refine K0 ?_ | refine K2 ?_ | refine K3 ?_ | refine K4 ?_ | (refine CV_pu ?_; intro _ _ _ _) | refine fV_ldN ?_ | refine fV_ld1 ?_ | refine fHV_ldN ?_ | refine fHV_ld1 ?_ | refine NilW_some ?_ | refine iCW_1 ?_ | refine iCW_N ?_ | refine Pk_b ?_))
      rename_i hSe2
      refine CV_fn (B := B10) (F := (_, _) :: [_, _]) (hSe2.perm List.perm_middle.symm) (endP (v1 := .int .i64 0) (v2 := .int .i64 0) (v3 := .string ⟨#[]⟩) (hm10.z (by first | exact Le.refl _ | assumption)) (raiseF_six h6) (by omega) (raiseF_pend rfl hcc.1 hcc.2)) (by simp) ?_
      rintro z11 B11 w11 v11 hle11 hS11 hop
      have hop' := OpR.r endM_err hop
      clear hop
      subst hop'
      dsimp only [AcM.v, AcM.cells] at *
      (repeat (first | (refine iDr ?_; intro _ _) | refine V_run ?_ | refine PV_run ?_ | refine HV_run ?_ | refine iV_ld1 ?_ | refine iV_ldN ?_ | (refine iV_bx ?_; intro _ _ _ _) | (refine iV_al ?_; intro _ _ _ _) | (refine iV_mm ?_; intro _ _ _ _) | (refine iU_st ?_; intro _ _) | refine iHV_1 ?_ | refine iHV_N ?_ | refine iRI_1 ?_ | refine iRI_N ?_ | refine Cond_t ?_ | refine Cond_f ?_ | refine JB ?_ | (refine JC ?_; intro _ _ _ _) | (refine J1 ?_; intro _ _) | (refine J0 ?_; intro _ _) | (refine J2 ?_; intro _ _) | (refine J3 ?_; intro _ _) | (refine J4 ?_; intro _ _) | refine K1 ?_ | refine K0 ?_ | refine K2 ?_ | refine K3 ?_ | refine K4 ?_ | (refine CV_pu ?_; intro _ _ _ _) | refine fV_ldN ?_ | refine fV_ld1 ?_ | refine fHV_ldN ?_ | refine fHV_ld1 ?_ | refine NilW_some ?_ | refine iCW_1 ?_ | refine iCW_N ?_ | refine Pk_b ?_))
      exact ⟨_, _, ‹_›, by
        rw [if_neg (by simpa using hk0)]⟩
  · rw [if_neg he] at hop
    obtain ⟨rfl, rfl⟩ := hop
    simp only [List.nil_append] at hS8
    (repeat (first | (refine iDr ?_; intro _ _) | refine V_run ?_ | refine PV_run ?_ | refine HV_run ?_ | refine iV_ld1 ?_ | refine iV_ldN ?_ | (refine iV_bx ?_; intro _ _ _ _) | (refine iV_al ?_; intro _ _ _ _) | (refine iV_mm ?_; intro _ _ _ _) | (refine iU_st ?_; intro _ _) | refine iHV_1 ?_ | refine iHV_N ?_ | refine iRI_1 ?_ | refine iRI_N ?_ | refine Cond_t ?_ | refine Cond_f ?_ | refine JB ?_ | (refine JC ?_; intro _ _ _ _) | (refine J1 ?_; intro _ _) | (refine J0 ?_; intro _ _) | (refine J2 ?_; intro _ _) | (refine J3 ?_; intro _ _) | (refine J4 ?_; intro _ _) | refine K1 ?_ | refine K0 ?_ | refine K2 ?_ | refine K3 ?_ | refine K4 ?_ | (refine CV_pu ?_; intro _ _ _ _) | refine fV_ldN ?_ | refine fV_ld1 ?_ | refine fHV_ldN ?_ | refine fHV_ld1 ?_ | refine NilW_some ?_ | refine iCW_1 ?_ | refine iCW_N ?_ | refine Pk_b ?_))
    refine Cond_nd (fun _ => ?_) (fun h => absurd h he)
    (repeat (first | (refine iDr ?_; intro _ _) | refine V_run ?_ | refine PV_run ?_ | refine HV_run ?_ | refine iV_ld1 ?_ | refine iV_ldN ?_ | (refine iV_bx ?_; intro _ _ _ _) | (refine iV_al ?_; intro _ _ _ _) | (refine iV_mm ?_; intro _ _ _ _) | (refine iU_st ?_; intro _ _) | refine iHV_1 ?_ | refine iHV_N ?_ | refine iRI_1 ?_ | refine iRI_N ?_ | refine Cond_t ?_ | refine Cond_f ?_ | refine JB ?_ | (refine JC ?_; intro _ _ _ _) | (refine J1 ?_; intro _ _) | (refine J0 ?_; intro _ _) | (refine J2 ?_; intro _ _) | (refine J3 ?_; intro _ _) | (refine J4 ?_; intro _ _) | refine K1 ?_ | refine K0 ?_ | refine K2 ?_ | refine K3 ?_ | refine K4 ?_ | (refine CV_pu ?_; intro _ _ _ _) | refine fV_ldN ?_ | refine fV_ld1 ?_ | refine fHV_ldN ?_ | refine fHV_ld1 ?_ | refine NilW_some ?_ | refine iCW_1 ?_ | refine iCW_N ?_ | refine Pk_b ?_))
    exact ⟨_, _, ‹_›, by rw [catchM, if_pos he]; rfl⟩)
end Go.Proofs.Ytjnckainogpenaa
