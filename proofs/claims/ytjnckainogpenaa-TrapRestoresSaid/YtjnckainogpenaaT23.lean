/- Playing operations. -/
import Derived.Test.YtjnckainogpenaaT22
set_option linter.unusedVariables false
set_option maxRecDepth 20000
set_option synthInstance.maxHeartbeats 400000
set_option synthInstance.maxSize 4000
namespace Go.Proofs.Ytjnckainogpenaa
open Go Q Go.RowKit

def condsOf (o : OpM) : List Int := if o.kind = 1 ∨ o.kind = 2 then [o.cond] else []
def playStep (s : StM) (o : OpM) : StepM := if 1 ≤ o.kind ∧ o.kind ≤ 5 then doneM s o (condsOf o) else ⟨1, noAct, []⟩
def playFrom (s : StM) : List OpM → StM × List AcM × List Int
  | [] => (s, [], [])
  | o :: l =>
    let r := playFrom (if (playStep s o).e = 0 then (playStep s o).s else s) l
    (r.1, (playStep s o).a :: r.2.1, (playStep s o).e :: r.2.2)
/-- The result of Play, as values. -/
def PlayR (z : Z) (r : Value) (l : List OpM) : Prop :=
  if 1000 < l.length then ∃ v, r = .tuple #[v, .slice none 0 0, .slice none 0 0, .int .i64 3] ∧ StR z v []
  else ∃ v va ve, r = .tuple #[v, va, ve, .int .i64 0] ∧ StR z v (playFrom newM l).1 ∧ SlR El.act z va (playFrom newM l).2.1 ∧ SlR El.int z ve (playFrom newM l).2.2
theorem perm4 {a b c d : Nat × Obj} {B R : Bl} : (a :: b :: c :: d :: (B ++ R)).Perm (B ++ (a :: b :: c :: d :: R)) := by
  simpa using (List.perm_append_comm (l₁ := [a, b, c, d]) (l₂ := B)).append_right R
theorem perm5 {a : Nat × Obj} {A B R : Bl} : (a :: (A ++ (B ++ R))).Perm (B ++ (a :: (A ++ R))) := by
  rw [show a :: (A ++ (B ++ R)) = ((a :: A) ++ B) ++ R by simp, show B ++ (a :: (A ++ R)) = (B ++ (a :: A)) ++ R by simp]
  exact List.perm_append_comm.append_right R
theorem perm6 {A B R : Bl} : (B ++ (A ++ R)).Perm (A ++ (B ++ R)) := by
  rw [← List.append_assoc, ← List.append_assoc]
  exact List.perm_append_comm.append_right R
theorem PlayP {v : Value} {l : List OpM} {z : Z} {w : World} (hl : SlR El.op z v l) : Fn1 13 #[v] z w fun z' r => PlayR z' r l := Fn1.intro fun hS => en13 (by
  unfold vc13
  obtain ⟨hb, a, cap, rfl, hcap, hel⟩ := hl.form
  refine iV_al ?_
  intro b2 w2 hb2 hS2
  (repeat (first | (refine iDr ?_; intro _ _) | refine V_run ?_ | refine PV_run ?_ | refine HV_run ?_ | refine iV_ld1 ?_ | refine iV_ldN ?_ | (refine iV_bx ?_; intro _ _ _ _) | (refine iV_al ?_; intro _ _ _ _) | (refine iV_mm ?_; intro _ _ _ _) | (refine iU_st ?_; intro _ _) | refine iHV_1 ?_ | refine iHV_N ?_ | refine iRI_1 ?_ | refine iRI_N ?_ | refine Cond_t ?_ | refine Cond_f ?_ | refine JB ?_ | (refine JC ?_; intro _ _ _ _) | (refine J1 ?_; intro _ _) | (refine J0 ?_; intro _ _) | (refine J2 ?_; intro _ _) | (refine J3 ?_; intro _ _) | (refine J4 ?_; intro _ _) | refine K1 ?_ | refine K0 ?_ | refine K2 ?_ | refine K3 ?_ | refine K4 ?_ | (refine CV_pu ?_; intro _ _ _ _) | refine fV_ldN ?_ | refine fV_ld1 ?_ | refine fHV_ldN ?_ | refine fHV_ld1 ?_ | refine NilW_some ?_ | refine iCW_1 ?_ | refine iCW_N ?_ | refine Pk_b ?_))
  refine Cond_d (fun hlen => ?_) (fun hlen => ?_)
  · (repeat (first | (refine iDr ?_; intro _ _) | refine V_run ?_ | refine PV_run ?_ | refine HV_run ?_ | refine iV_ld1 ?_ | refine iV_ldN ?_ | (refine iV_bx ?_; intro _ _ _ _) | (refine iV_al ?_; intro _ _ _ _) | (refine iV_mm ?_; intro _ _ _ _) | (refine iU_st ?_; intro _ _) | refine iHV_1 ?_ | refine iHV_N ?_ | refine iRI_1 ?_ | refine iRI_N ?_ | refine Cond_t ?_ | refine Cond_f ?_ | refine JB ?_ | (refine JC ?_; intro _ _ _ _) | (refine J1 ?_; intro _ _) | (refine J0 ?_; intro _ _) | (refine J2 ?_; intro _ _) | (refine J3 ?_; intro _ _) | (refine J4 ?_; intro _ _) | refine K1 ?_ | refine K0 ?_ | refine K2 ?_ | refine K3 ?_ | refine K4 ?_ | (refine CV_pu ?_; intro _ _ _ _) | refine fV_ldN ?_ | refine fV_ld1 ?_ | refine fHV_ldN ?_ | refine fHV_ld1 ?_ | refine NilW_some ?_ | refine iCW_1 ?_ | refine iCW_N ?_ | refine Pk_b ?_))
    exact ⟨_, _, ‹_›, by rw [PlayR, if_pos (by omega)]; exact ⟨_, rfl, _, rfl, SlR.nil⟩⟩
  have hlen' : ¬ 1000 < l.length := by omega
  simp only [PlayR, hlen', if_false]
  refine CV_1 NewP ?_
  rintro z3 w3 v3 hle3 hS3 ⟨u3, rfl, hu3⟩
  obtain ⟨_, a3, cap3, rfl, _, _⟩ := hu3.form
  refine iV_al ?_
  intro b6 w6 hb6 hS6
  (repeat (first | (refine iDr ?_; intro _ _) | refine V_run ?_ | refine PV_run ?_ | refine HV_run ?_ | refine iV_ld1 ?_ | refine iV_ldN ?_ | (refine iV_bx ?_; intro _ _ _ _) | (refine iV_al ?_; intro _ _ _ _) | (refine iV_mm ?_; intro _ _ _ _) | (refine iU_st ?_; intro _ _) | refine iHV_1 ?_ | refine iHV_N ?_ | refine iRI_1 ?_ | refine iRI_N ?_ | refine Cond_t ?_ | refine Cond_f ?_ | refine JB ?_ | (refine JC ?_; intro _ _ _ _) | (refine J1 ?_; intro _ _) | (refine J0 ?_; intro _ _) | (refine J2 ?_; intro _ _) | (refine J3 ?_; intro _ _) | (refine J4 ?_; intro _ _) | refine K1 ?_ | refine K0 ?_ | refine K2 ?_ | refine K3 ?_ | refine K4 ?_ | (refine CV_pu ?_; intro _ _ _ _) | refine fV_ldN ?_ | refine fV_ld1 ?_ | refine fHV_ldN ?_ | refine fHV_ld1 ?_ | refine NilW_some ?_ | refine iCW_1 ?_ | refine iCW_N ?_ | refine Pk_b ?_))
  rename_i hS7
  refine LoopG3 (fun (g : Nat × StM × List AcM × List Int) x y u w' => u = .int .i64 g.1 ∧ g.1 ≤ l.length ∧ playFrom newM l = ((playFrom g.2.1 (l.drop g.1)).1, g.2.2.1 ++ (playFrom g.2.1 (l.drop g.1)).2.1, g.2.2.2 ++ (playFrom g.2.1 (l.drop g.1)).2.2) ∧ g.2.2.1.length = g.1 ∧ g.2.2.2.length = g.1 ∧
    ∃ z' Ba Be a6 n6 cap6, SlR El.frame z' (.slice a6 n6 cap6) g.2.1 ∧ OwnSl 39 4 Ba x g.1 (g.2.2.1.flatMap AcM.cells) ∧ OwnSl 31 1 Be y g.1 (g.2.2.2.flatMap fun e => [.int .i64 e]) ∧ Res w z [] w' z' (Ba ++ (Be ++ [(b6, .cells [.slice a6 n6 cap6].toArray 28 (0, 0)), (b2, .cells [.slice none 0 0].toArray 28 (0, 0))]))) (fun g => l.length - g.1) (0, newM, [], []) ⟨rfl, by simp, rfl, rfl, rfl, z3, [], [], _, _, _, hu3, OwnSl.nil, OwnSl.nil, hS7⟩ ?_
  rintro I M ⟨i, s, A, E⟩ x y u w8 m ⟨rfl, h1, h2, hA, hE, z8, Ba, Be, a6, n6, cap6, hs8, hoa, hoe, hS8⟩ back
  simp only at h1 h2 hA hE hs8 hoa hoe hS8 back
  (repeat (first | (refine iDr ?_; intro _ _) | refine V_run ?_ | refine PV_run ?_ | refine HV_run ?_ | refine iV_ld1 ?_ | refine iV_ldN ?_ | (refine iV_bx ?_; intro _ _ _ _) | (refine iV_al ?_; intro _ _ _ _) | (refine iV_mm ?_; intro _ _ _ _) | (refine iU_st ?_; intro _ _) | refine iHV_1 ?_ | refine iHV_N ?_ | refine iRI_1 ?_ | refine iRI_N ?_ | refine Cond_t ?_ | refine Cond_f ?_ | refine JB ?_ | (refine JC ?_; intro _ _ _ _) | (refine J1 ?_; intro _ _) | (refine J0 ?_; intro _ _) | (refine J2 ?_; intro _ _) | (refine J3 ?_; intro _ _) | (refine J4 ?_; intro _ _) | refine K1 ?_ | refine K0 ?_ | refine K2 ?_ | refine K3 ?_ | refine K4 ?_ | (refine CV_pu ?_; intro _ _ _ _) | refine fV_ldN ?_ | refine fV_ld1 ?_ | refine fHV_ldN ?_ | refine fHV_ld1 ?_ | refine NilW_some ?_ | refine iCW_1 ?_ | refine iCW_N ?_ | refine Pk_b ?_))
  refine Cond_d (fun hh => ?_) (fun hh => ?_)
  · have hlt : i < l.length := by omega
    obtain ⟨b, off, cs, rfl, ⟨rfl, hr⟩, hat⟩ := hel i _ (List.getElem?_eq_getElem hlt)
    haveI : InR (i : Int) l.length := ⟨by omega, by omega⟩
    haveI : InI ((i : Int) + 1) := ⟨by omega⟩
    haveI : Fz z b (off + (i : Int).toNat * 4) l[i].cells := ⟨by rw [Int.toNat_natCast]; exact hat⟩
    rw [List.drop_eq_getElem_cons hlt] at h2
    simp only [playFrom] at h2
    generalize l[i] = o at *
    dsimp only [OpM.cells] at *
    refine V_run ?_
    refine fV_ldN ?_
    refine iV_al ?_
    intro b10 w10 hb10 hS10
    refine iU_st ?_
    intro w10' hS10'
    refine V_run ?_
    refine V_run ?_
    refine iV_al ?_
    intro b11 w11 hb11 hS11
    refine iV_al ?_
    intro b12 w12 hb12 hS12
    refine iU_st ?_
    intro w13 hS13
    refine iU_st ?_
    intro w14 hS14
    clear hS13 hS12 hS11 hS10' hS10 hS8
    refine J1cut (fun x w' => ∃ a11 n11 cap11 z', x = .int .i64 (playStep s o).e ∧ SlR El.frame z' (.slice a11 n11 cap11) (playStep s o).s ∧ Le z8 z' ∧ Res w z [] w' z' ((b12, .cells (playStep s o).a.cells.toArray 39 (0, 0)) :: (b11, .cells [.slice a11 n11 cap11].toArray 28 (0, 0)) :: (b10, .cells [.int .i64 o.kind, .int .i64 o.cond, .int .i64 o.mode, .string o.text].toArray 25 (0, 0)) :: (Ba ++ (Be ++ [(b6, .cells [.slice a6 n6 cap6].toArray 28 (0, 0)), (b2, .cells [.slice none 0 0].toArray 28 (0, 0))])))) ?_ ?_
    rotate_left
    · intro KJ hJ
      (repeat (first | (refine iDr ?_; intro _ _) | refine V_run ?_ | refine PV_run ?_ | refine HV_run ?_ | refine iV_ld1 ?_ | refine iV_ldN ?_ | (refine iV_bx ?_; intro _ _ _ _) | (refine iV_al ?_; intro _ _ _ _) | (refine iV_mm ?_; intro _ _ _ _) | (refine iU_st ?_; intro _ _) | refine iHV_1 ?_ | refine iHV_N ?_ | refine iRI_1 ?_ | refine iRI_N ?_ | refine Cond_t ?_ | refine Cond_f ?_ | refine JB ?_ | (refine JC ?_; intro _ _ _ _) | (refine J1 ?_; intro _ _) | (refine J0 ?_; intro _ _) | (refine J2 ?_; intro _ _) | (refine J3 ?_; intro _ _) | (refine J4 ?_; intro _ _) | refine K1 ?_ | refine K0 ?_ | refine K2 ?_ | refine K3 ?_ | refine K4 ?_ | (refine CV_pu ?_; intro _ _ _ _) | refine fV_ldN ?_ | refine fV_ld1 ?_ | refine fHV_ldN ?_ | refine fHV_ld1 ?_ | refine NilW_some ?_ | refine iCW_1 ?_ | refine iCW_N ?_ | refine Pk_b ?_))
      refine CV_fn0 (fun _ => operations) ?_
      rintro z15 B15 w15 v15 hle15 hS15 ⟨bm, rfl, rfl⟩
      simp only [List.cons_append, List.nil_append] at hS15
      (repeat (first | (refine iDr ?_; intro _ _) | refine V_run ?_ | refine PV_run ?_ | refine HV_run ?_ | refine iV_ld1 ?_ | refine iV_ldN ?_ | (refine iV_bx ?_; intro _ _ _ _) | (refine iV_al ?_; intro _ _ _ _) | (refine iV_mm ?_; intro _ _ _ _) | (refine iU_st ?_; intro _ _) | refine iHV_1 ?_ | refine iHV_N ?_ | refine iRI_1 ?_ | refine iRI_N ?_ | refine Cond_t ?_ | refine Cond_f ?_ | refine JB ?_ | (refine JC ?_; intro _ _ _ _) | (refine J1 ?_; intro _ _) | (refine J0 ?_; intro _ _) | (refine J2 ?_; intro _ _) | (refine J3 ?_; intro _ _) | (refine J4 ?_; intro _ _) | refine K1 ?_ | refine K0 ?_ | refine K2 ?_ | refine K3 ?_ | refine K4 ?_ | (refine CV_pu ?_; intro _ _ _ _) | refine fV_ldN ?_ | refine fV_ld1 ?_ | refine fHV_ldN ?_ | refine fHV_ld1 ?_ | refine NilW_some ?_ | refine iCW_1 ?_ | refine iCW_N ?_ | refine Pk_b ?_))
      refine iHV_lk (zv := .nilFunc) (ZeroV.h (e := 98)) ?_
      simp only [if_true]
      by_cases hk : 1 ≤ o.kind ∧ o.kind ≤ 5
      · simp only [ops_lk, if_pos hk]
        have hps : playStep s o = doneM s o (condsOf o) := by rw [playStep, if_pos hk]
        (repeat (first | (refine iDr ?_; intro _ _) | refine V_run ?_ | refine PV_run ?_ | refine HV_run ?_ | refine iV_ld1 ?_ | refine iV_ldN ?_ | (refine iV_bx ?_; intro _ _ _ _) | (refine iV_al ?_; intro _ _ _ _) | (refine iV_mm ?_; intro _ _ _ _) | (refine iU_st ?_; intro _ _) | refine iHV_1 ?_ | refine iHV_N ?_ | refine iRI_1 ?_ | refine iRI_N ?_ | refine Cond_t ?_ | refine Cond_f ?_ | refine JB ?_ | (refine JC ?_; intro _ _ _ _) | (refine J1 ?_; intro _ _) | (refine J0 ?_; intro _ _) | (refine J2 ?_; intro _ _) | (refine J3 ?_; intro _ _) | (refine J4 ?_; intro _ _) | refine K1 ?_ | refine K0 ?_ | refine K2 ?_ | refine K3 ?_ | refine K4 ?_ | (refine CV_pu ?_; intro _ _ _ _) | refine fV_ldN ?_ | refine fV_ld1 ?_ | refine fHV_ldN ?_ | refine fHV_ld1 ?_ | refine NilW_some ?_ | refine iCW_1 ?_ | refine iCW_N ?_ | refine Pk_b ?_))
        have hle16 := hle15.trans ‹Le z15 _›
        refine Cond_b (fun h12 => ?_) (fun h12 => ?_)
        · have h12' : o.kind = 1 ∨ o.kind = 2 := by
            simp only [cond_eq_ite] at h12
            by_cases e : o.kind = 1 <;> simp [e] at h12 ⊢
            exact h12
          (repeat (first | (refine iDr ?_; intro _ _) | refine V_run ?_ | refine PV_run ?_ | refine HV_run ?_ | refine iV_ld1 ?_ | refine iV_ldN ?_ | (refine iV_bx ?_; intro _ _ _ _) | (refine iV_al ?_; intro _ _ _ _) | (refine iV_mm ?_; intro _ _ _ _) | (refine iU_st ?_; intro _ _) | refine iHV_1 ?_ | refine iHV_N ?_ | refine iRI_1 ?_ | refine iRI_N ?_ | refine Cond_t ?_ | refine Cond_f ?_ | refine JB ?_ | (refine JC ?_; intro _ _ _ _) | (refine J1 ?_; intro _ _) | (refine J0 ?_; intro _ _) | (refine J2 ?_; intro _ _) | (refine J3 ?_; intro _ _) | (refine J4 ?_; intro _ _) | refine K1 ?_ | refine K0 ?_ | refine K2 ?_ | refine K3 ?_ | refine K4 ?_ | (refine CV_pu ?_; intro _ _ _ _) | refine fV_ldN ?_ | refine fV_ld1 ?_ | refine fHV_ldN ?_ | refine fHV_ld1 ?_ | refine NilW_some ?_ | refine iCW_1 ?_ | refine iCW_N ?_ | refine Pk_b ?_))
          refine V_bs (parts := [(0, _)]) rfl (by omega) ?_
          intro b19 w19 hb19 hS19
          refine V_app (B := []) (m := 1) (n := 0) (xs := []) (news := [.int .i64 o.cond]) hS19 OwnSl.nil ⟨_, _, _, (hS19.mem _ List.mem_cons_self).1, fun j v hv => by simpa using hv⟩ rfl (fun u hu => by simp at hu; subst hu; rfl) (by omega) (by simp [room]) (by simp [room]) ?_
          intro B20 v20 w20 ho20 hS20
          obtain ⟨z20, hz20, hS20', hv20⟩ := Res.freezeSl (E := El.int) (f := fun x => [.int .i64 x]) (xs := [o.cond]) hS20 ho20 (by simp [big]) (fun _ => rfl) (fun _ _ _ => rfl)
          clear hS20 hS19
          have hcs : SlR El.int z20 v20 (condsOf o) := by rw [condsOf, if_pos h12']; exact hv20
          have hle20 := hle16.trans hz20
          (repeat (first | (refine iDr ?_; intro _ _) | refine V_run ?_ | refine PV_run ?_ | refine HV_run ?_ | refine iV_ld1 ?_ | refine iV_ldN ?_ | (refine iV_bx ?_; intro _ _ _ _) | (refine iV_al ?_; intro _ _ _ _) | (refine iV_mm ?_; intro _ _ _ _) | (refine iU_st ?_; intro _ _) | refine iHV_1 ?_ | refine iHV_N ?_ | refine iRI_1 ?_ | refine iRI_N ?_ | refine Cond_t ?_ | refine Cond_f ?_ | refine JB ?_ | (refine JC ?_; intro _ _ _ _) | (refine J1 ?_; intro _ _) | (refine J0 ?_; intro _ _) | (refine J2 ?_; intro _ _) | (refine J3 ?_; intro _ _) | (refine J4 ?_; intro _ _) | refine K1 ?_ | refine K0 ?_ | refine K2 ?_ | refine K3 ?_ | refine K4 ?_ | (refine CV_pu ?_; intro _ _ _ _) | refine fV_ldN ?_ | refine fV_ld1 ?_ | refine fHV_ldN ?_ | refine fHV_ld1 ?_ | refine NilW_some ?_ | refine iCW_1 ?_ | refine iCW_N ?_ | refine Pk_b ?_))
          refine CV_1 (doneP (o := o) (conds := condsOf o) ⟨_, rfl, hs8.mono hle20⟩ hcs hk (fun h => by rw [condsOf, if_pos h]) hr) ?_
          rintro z21 w21 v21 hle21 hS21 ⟨v', rfl, hv'⟩
          rw [← hps] at hv'
          obtain ⟨u', rfl, hu'⟩ := hv'
          obtain ⟨_, a', cap', rfl, _, _⟩ := hu'.form
          dsimp only [AcM.v] at *
          (repeat (first | (refine iDr ?_; intro _ _) | refine V_run ?_ | refine PV_run ?_ | refine HV_run ?_ | refine iV_ld1 ?_ | refine iV_ldN ?_ | (refine iV_bx ?_; intro _ _ _ _) | (refine iV_al ?_; intro _ _ _ _) | (refine iV_mm ?_; intro _ _ _ _) | (refine iU_st ?_; intro _ _) | refine iHV_1 ?_ | refine iHV_N ?_ | refine iRI_1 ?_ | refine iRI_N ?_ | refine Cond_t ?_ | refine Cond_f ?_ | refine JB ?_ | (refine JC ?_; intro _ _ _ _) | (refine J1 ?_; intro _ _) | (refine J0 ?_; intro _ _) | (refine J2 ?_; intro _ _) | (refine J3 ?_; intro _ _) | (refine J4 ?_; intro _ _) | refine K1 ?_ | refine K0 ?_ | refine K2 ?_ | refine K3 ?_ | refine K4 ?_ | (refine CV_pu ?_; intro _ _ _ _) | refine fV_ldN ?_ | refine fV_ld1 ?_ | refine fHV_ldN ?_ | refine fHV_ld1 ?_ | refine NilW_some ?_ | refine iCW_1 ?_ | refine iCW_N ?_ | refine Pk_b ?_))
          rename_i hSe
          rw [← hps] at hSe
          exact ⟨_, _, _, z21, by rw [hps], hu', (hle20).trans hle21, hSe.tl.tl⟩
        · have h12' : ¬ (o.kind = 1 ∨ o.kind = 2) := by
            simp only [cond_eq_ite] at h12
            by_cases e : o.kind = 1 <;> simp [e] at h12 ⊢
            exact h12
          (repeat (first | (refine iDr ?_; intro _ _) | refine V_run ?_ | refine PV_run ?_ | refine HV_run ?_ | refine iV_ld1 ?_ | refine iV_ldN ?_ | (refine iV_bx ?_; intro _ _ _ _) | (refine iV_al ?_; intro _ _ _ _) | (refine iV_mm ?_; intro _ _ _ _) | (refine iU_st ?_; intro _ _) | refine iHV_1 ?_ | refine iHV_N ?_ | refine iRI_1 ?_ | refine iRI_N ?_ | refine Cond_t ?_ | refine Cond_f ?_ | refine JB ?_ | (refine JC ?_; intro _ _ _ _) | (refine J1 ?_; intro _ _) | (refine J0 ?_; intro _ _) | (refine J2 ?_; intro _ _) | (refine J3 ?_; intro _ _) | (refine J4 ?_; intro _ _) | refine K1 ?_ | refine K0 ?_ | refine K2 ?_ | refine K3 ?_ | refine K4 ?_ | (refine CV_pu ?_; intro _ _ _ _) | refine fV_ldN ?_ | refine fV_ld1 ?_ | refine fHV_ldN ?_ | refine fHV_ld1 ?_ | refine NilW_some ?_ | refine iCW_1 ?_ | refine iCW_N ?_ | refine Pk_b ?_))
          refine CV_1 (doneP (o := o) (conds := condsOf o) ⟨_, rfl, hs8.mono hle16⟩ (by rw [condsOf, if_neg h12']; exact SlR.nil) hk (fun h => by rw [condsOf, if_pos h]) hr) ?_
          rintro z21 w21 v21 hle21 hS21 ⟨v', rfl, hv'⟩
          rw [← hps] at hv'
          obtain ⟨u', rfl, hu'⟩ := hv'
          obtain ⟨_, a', cap', rfl, _, _⟩ := hu'.form
          dsimp only [AcM.v] at *
          (repeat (first | (refine iDr ?_; intro _ _) | refine V_run ?_ | refine PV_run ?_ | refine HV_run ?_ | refine iV_ld1 ?_ | refine iV_ldN ?_ | (refine iV_bx ?_; intro _ _ _ _) | (refine iV_al ?_; intro _ _ _ _) | (refine iV_mm ?_; intro _ _ _ _) | (refine iU_st ?_; intro _ _) | refine iHV_1 ?_ | refine iHV_N ?_ | refine iRI_1 ?_ | refine iRI_N ?_ | refine Cond_t ?_ | refine Cond_f ?_ | refine JB ?_ | (refine JC ?_; intro _ _ _ _) | (refine J1 ?_; intro _ _) | (refine J0 ?_; intro _ _) | (refine J2 ?_; intro _ _) | (refine J3 ?_; intro _ _) | (refine J4 ?_; intro _ _) | refine K1 ?_ | refine K0 ?_ | refine K2 ?_ | refine K3 ?_ | refine K4 ?_ | (refine CV_pu ?_; intro _ _ _ _) | refine fV_ldN ?_ | refine fV_ld1 ?_ | refine fHV_ldN ?_ | refine fHV_ld1 ?_ | refine NilW_some ?_ | refine iCW_1 ?_ | refine iCW_N ?_ | refine Pk_b ?_))
          rename_i hSe
          rw [← hps] at hSe
          exact ⟨_, _, _, z21, by rw [hps], hu', (hle16).trans hle21, hSe.tl⟩
      · simp only [ops_lk, if_neg hk]
        have hps : playStep s o = ⟨1, noAct, []⟩ := by rw [playStep, if_neg hk]
        rw [hps] at hJ
        (repeat (first | (refine iDr ?_; intro _ _) | refine V_run ?_ | refine PV_run ?_ | refine HV_run ?_ | refine iV_ld1 ?_ | refine iV_ldN ?_ | (refine iV_bx ?_; intro _ _ _ _) | (refine iV_al ?_; intro _ _ _ _) | (refine iV_mm ?_; intro _ _ _ _) | (refine iU_st ?_; intro _ _) | refine iHV_1 ?_ | refine iHV_N ?_ | refine iRI_1 ?_ | refine iRI_N ?_ | refine Cond_t ?_ | refine Cond_f ?_ | refine JB ?_ | (refine JC ?_; intro _ _ _ _) | (refine J1 ?_; intro _ _) | (refine J0 ?_; intro _ _) | (refine J2 ?_; intro _ _) | (refine J3 ?_; intro _ _) | (refine J4 ?_; intro _ _) | refine K1 ?_ | refine K0 ?_ | refine K2 ?_ | refine K3 ?_ | refine K4 ?_ | (refine CV_pu ?_; intro _ _ _ _) | refine fV_ldN ?_ | refine fV_ld1 ?_ | refine fHV_ldN ?_ | refine fHV_ld1 ?_ | refine NilW_some ?_ | refine iCW_1 ?_ | refine iCW_N ?_ | refine Pk_b ?_))
        exact ⟨none, 0, 0, z15, rfl, SlR.nil, hle15, hS15.tl⟩
    · rintro _ w16 ⟨a11, n11, cap11, z16, rfl, hs16, hle16, hS16⟩
      dsimp only [AcM.cells] at hS16
      generalize playStep s o = st at *
      refine J0cut (fun w' => ∃ z' a7 n7 cap7, SlR El.frame z' (.slice a7 n7 cap7) (if st.e = 0 then st.s else s) ∧ Res w z [] w' z' ((b12, .cells [.int .i64 st.a.kind, .string st.a.label, .int .i64 st.a.cond, .string st.a.desc].toArray 39 (0, 0)) :: (b11, .cells [.slice a11 n11 cap11].toArray 28 (0, 0)) :: (b10, .cells [.int .i64 o.kind, .int .i64 o.cond, .int .i64 o.mode, .string o.text].toArray 25 (0, 0)) :: (Ba ++ (Be ++ [(b6, .cells [.slice a7 n7 cap7].toArray 28 (0, 0)), (b2, .cells [.slice none 0 0].toArray 28 (0, 0))])))) ?_ ?_
      rotate_left
      · intro KJ hJ
        (repeat (first | (refine iDr ?_; intro _ _) | refine V_run ?_ | refine PV_run ?_ | refine HV_run ?_ | refine iV_ld1 ?_ | refine iV_ldN ?_ | (refine iV_bx ?_; intro _ _ _ _) | (refine iV_al ?_; intro _ _ _ _) | (refine iV_mm ?_; intro _ _ _ _) | (refine iU_st ?_; intro _ _) | refine iHV_1 ?_ | refine iHV_N ?_ | refine iRI_1 ?_ | refine iRI_N ?_ | refine Cond_t ?_ | refine Cond_f ?_ | refine JB ?_ | (refine JC ?_; intro _ _ _ _) | (refine J1 ?_; intro _ _) | (refine J0 ?_; intro _ _) | (refine J2 ?_; intro _ _) | (refine J3 ?_; intro _ _) | (refine J4 ?_; intro _ _) | refine K1 ?_ | refine K0 ?_ | refine K2 ?_ | refine K3 ?_ | refine K4 ?_ | (refine CV_pu ?_; intro _ _ _ _) | refine fV_ldN ?_ | refine fV_ld1 ?_ | refine fHV_ldN ?_ | refine fHV_ld1 ?_ | refine NilW_some ?_ | refine iCW_1 ?_ | refine iCW_N ?_ | refine Pk_b ?_))
        refine Cond_d (fun he => ?_) (fun he => ?_)
        · (repeat (first | (refine iDr ?_; intro _ _) | refine V_run ?_ | refine PV_run ?_ | refine HV_run ?_ | refine iV_ld1 ?_ | refine iV_ldN ?_ | (refine iV_bx ?_; intro _ _ _ _) | (refine iV_al ?_; intro _ _ _ _) | (refine iV_mm ?_; intro _ _ _ _) | (refine iU_st ?_; intro _ _) | refine iHV_1 ?_ | refine iHV_N ?_ | refine iRI_1 ?_ | refine iRI_N ?_ | refine Cond_t ?_ | refine Cond_f ?_ | refine JB ?_ | (refine JC ?_; intro _ _ _ _) | (refine J1 ?_; intro _ _) | (refine J0 ?_; intro _ _) | (refine J2 ?_; intro _ _) | (refine J3 ?_; intro _ _) | (refine J4 ?_; intro _ _) | refine K1 ?_ | refine K0 ?_ | refine K2 ?_ | refine K3 ?_ | refine K4 ?_ | (refine CV_pu ?_; intro _ _ _ _) | refine fV_ldN ?_ | refine fV_ld1 ?_ | refine fHV_ldN ?_ | refine fHV_ld1 ?_ | refine NilW_some ?_ | refine iCW_1 ?_ | refine iCW_N ?_ | refine Pk_b ?_))
          exact ⟨z16, _, _, _, by rw [if_pos he]; exact hs16, ‹_›⟩
        · (repeat (first | (refine iDr ?_; intro _ _) | refine V_run ?_ | refine PV_run ?_ | refine HV_run ?_ | refine iV_ld1 ?_ | refine iV_ldN ?_ | (refine iV_bx ?_; intro _ _ _ _) | (refine iV_al ?_; intro _ _ _ _) | (refine iV_mm ?_; intro _ _ _ _) | (refine iU_st ?_; intro _ _) | refine iHV_1 ?_ | refine iHV_N ?_ | refine iRI_1 ?_ | refine iRI_N ?_ | refine Cond_t ?_ | refine Cond_f ?_ | refine JB ?_ | (refine JC ?_; intro _ _ _ _) | (refine J1 ?_; intro _ _) | (refine J0 ?_; intro _ _) | (refine J2 ?_; intro _ _) | (refine J3 ?_; intro _ _) | (refine J4 ?_; intro _ _) | refine K1 ?_ | refine K0 ?_ | refine K2 ?_ | refine K3 ?_ | refine K4 ?_ | (refine CV_pu ?_; intro _ _ _ _) | refine fV_ldN ?_ | refine fV_ld1 ?_ | refine fHV_ldN ?_ | refine fHV_ld1 ?_ | refine NilW_some ?_ | refine iCW_1 ?_ | refine iCW_N ?_ | refine Pk_b ?_))
          exact ⟨z16, _, _, _, by rw [if_neg he]; exact hs8.mono hle16, ‹_›⟩
      · rintro w17 ⟨z17, a7, n7, cap7, hs17, hS17⟩
        clear hS16
        (repeat (first | (refine iDr ?_; intro _ _) | refine V_run ?_ | refine PV_run ?_ | refine HV_run ?_ | refine iV_ld1 ?_ | refine iV_ldN ?_ | (refine iV_bx ?_; intro _ _ _ _) | (refine iV_al ?_; intro _ _ _ _) | (refine iV_mm ?_; intro _ _ _ _) | (refine iU_st ?_; intro _ _) | refine iHV_1 ?_ | refine iHV_N ?_ | refine iRI_1 ?_ | refine iRI_N ?_ | refine Cond_t ?_ | refine Cond_f ?_ | refine JB ?_ | (refine JC ?_; intro _ _ _ _) | (refine J1 ?_; intro _ _) | (refine J0 ?_; intro _ _) | (refine J2 ?_; intro _ _) | (refine J3 ?_; intro _ _) | (refine J4 ?_; intro _ _) | refine K1 ?_ | refine K0 ?_ | refine K2 ?_ | refine K3 ?_ | refine K4 ?_ | (refine CV_pu ?_; intro _ _ _ _) | refine fV_ldN ?_ | refine fV_ld1 ?_ | refine fHV_ldN ?_ | refine fHV_ld1 ?_ | refine NilW_some ?_ | refine iCW_1 ?_ | refine iCW_N ?_ | refine Pk_b ?_))
        refine V_bs (parts := [(0, _)]) rfl (by omega) ?_
        intro b30 w30 hb30 hS30
        refine V_app (B := Ba) (m := 1) (n := i) (xs := A.flatMap AcM.cells) (news := st.a.cells) (hS30.perm perm4) hoa ⟨_, _, _, (hS30.mem _ List.mem_cons_self).1, fun j v hv => by simpa using hv⟩ rfl (fun u hu => by simp at hu; rcases hu with rfl | rfl | rfl | rfl <;> rfl) (by omega) (by simp only [room]; omega) (by simp only [room]; omega) ?_
        intro Ba' va' w31 hoa' hS31
        have hS32 := hS31.sublist (L' := Ba' ++ (Be ++ [_, _])) ((List.Sublist.refl _).append ((((List.sublist_cons_self _ _).trans (List.sublist_cons_self _ _)).trans (List.sublist_cons_self _ _)).trans (List.sublist_cons_self _ _)))
        clear hS30 hS31
        refine V_bs (parts := [(0, _)]) rfl (by omega) ?_
        intro b33 w33 hb33 hS33
        refine V_app (B := Be) (m := 1) (n := i) (xs := E.flatMap fun e => [.int .i64 e]) (news := [.int .i64 st.e]) (hS33.perm perm5) hoe ⟨_, _, _, (hS33.mem _ List.mem_cons_self).1, fun j v hv => by simpa using hv⟩ rfl (fun u hu => by simp at hu; subst hu; rfl) (by omega) (by simp only [room]; omega) (by simp only [room]; omega) ?_
        intro Be' ve' w34 hoe' hS34
        have hS35 := (hS34.sublist (L' := Be' ++ (Ba' ++ [_, _])) ((List.Sublist.refl _).append (List.sublist_cons_self _ _))).perm perm6
        (repeat (first | (refine iDr ?_; intro _ _) | refine V_run ?_ | refine PV_run ?_ | refine HV_run ?_ | refine iV_ld1 ?_ | refine iV_ldN ?_ | (refine iV_bx ?_; intro _ _ _ _) | (refine iV_al ?_; intro _ _ _ _) | (refine iV_mm ?_; intro _ _ _ _) | (refine iU_st ?_; intro _ _) | refine iHV_1 ?_ | refine iHV_N ?_ | refine iRI_1 ?_ | refine iRI_N ?_ | refine Cond_t ?_ | refine Cond_f ?_ | refine JB ?_ | (refine JC ?_; intro _ _ _ _) | (refine J1 ?_; intro _ _) | (refine J0 ?_; intro _ _) | (refine J2 ?_; intro _ _) | (refine J3 ?_; intro _ _) | (refine J4 ?_; intro _ _) | refine K1 ?_ | refine K0 ?_ | refine K2 ?_ | refine K3 ?_ | refine K4 ?_ | (refine CV_pu ?_; intro _ _ _ _) | refine fV_ldN ?_ | refine fV_ld1 ?_ | refine fHV_ldN ?_ | refine fHV_ld1 ?_ | refine NilW_some ?_ | refine iCW_1 ?_ | refine iCW_N ?_ | refine Pk_b ?_))
        refine back (i + 1, (if st.e = 0 then st.s else s), A ++ [st.a], E ++ [st.e]) _ _ _ _ ⟨by simp, by simp; omega, ?_, by simp [hA], by simp [hE], z17, Ba', Be', a7, n7, cap7, hs17, ?_, ?_, hS35⟩ (by simp; omega)
        · rw [h2]; simp
        · simpa using hoa'
        · simpa using hoe'
  · have h0 : l.drop i = [] := List.drop_of_length_le (by omega)
    rw [h0] at h2
    simp only [playFrom, List.append_nil] at h2
    obtain ⟨aa, capa, rfl, hca⟩ := hoa.form
    obtain ⟨ae, cape, rfl, hce⟩ := hoe.form
    (repeat (first | (refine iDr ?_; intro _ _) | refine V_run ?_ | refine PV_run ?_ | refine HV_run ?_ | refine iV_ld1 ?_ | refine iV_ldN ?_ | (refine iV_bx ?_; intro _ _ _ _) | (refine iV_al ?_; intro _ _ _ _) | (refine iV_mm ?_; intro _ _ _ _) | (refine iU_st ?_; intro _ _) | refine iHV_1 ?_ | refine iHV_N ?_ | refine iRI_1 ?_ | refine iRI_N ?_ | refine Cond_t ?_ | refine Cond_f ?_ | refine JB ?_ | (refine JC ?_; intro _ _ _ _) | (refine J1 ?_; intro _ _) | (refine J0 ?_; intro _ _) | (refine J2 ?_; intro _ _) | (refine J3 ?_; intro _ _) | (refine J4 ?_; intro _ _) | refine K1 ?_ | refine K0 ?_ | refine K2 ?_ | refine K3 ?_ | refine K4 ?_ | (refine CV_pu ?_; intro _ _ _ _) | refine fV_ldN ?_ | refine fV_ld1 ?_ | refine fHV_ldN ?_ | refine fHV_ld1 ?_ | refine NilW_some ?_ | refine iCW_1 ?_ | refine iCW_N ?_ | refine Pk_b ?_))
    rename_i hSe
    rw [← hA] at hoa
    obtain ⟨z9, hz9, hS9, hva⟩ := Res.freezeSl (E := El.act) hSe hoa (by simp only [big]; omega) (fun _ => rfl) (fun _ _ _ => rfl)
    have hoe' : OwnSl 31 El.int.size Be (.slice ae i cape) E.length (E.flatMap fun e => [.int .i64 e]) := by rw [hE]; exact hoe
    obtain ⟨z10, hz10, hS10, hve⟩ := Res.freezeSl (E := El.int) hS9 hoe' (by simp only [big]; omega) (fun _ => rfl) (fun _ _ _ => rfl)
    refine ⟨z10, _, hS10, _, _, _, rfl, ?_, ?_, ?_⟩
    · rw [h2]; exact ⟨_, rfl, hs8.mono (hz9.trans hz10)⟩
    · rw [h2, ← hA]; exact hva.mono hz10
    · rw [h2]; exact hve)
end Go.Proofs.Ytjnckainogpenaa
