/- An operation on a state, as the program does it. -/
import Derived.Test.YtjnckainogpenaaT18
set_option linter.unusedVariables false
set_option maxRecDepth 20000
set_option synthInstance.maxHeartbeats 400000
set_option synthInstance.maxSize 4000
namespace Go.Proofs.Ytjnckainogpenaa
open Go Q Go.RowKit

theorem J2cut {body : (List Value → World → Prop) → Prop} {rest : Value → Value → World → Prop} (Po : Value → Value → World → Prop) (h1 : ∀ a b w, Po a b w → rest a b w) (h : ∀ K, JK2 K Po → body K) : ∀ K : List Value → World → Prop, (∀ a b w, (∀ _ : Env, rest a b w) → K [a, b] w) → body K := fun K hK => h K ⟨fun a b w r => hK a b w fun _ => h1 a b w r⟩
theorem iHV_lkv {w0 w : World} {z0 z : Z} {B0 L : Bl} {C : Obj → Bl} {b : Nat} {K : Value → Prop} [hS : Res w0 z0 B0 w z L] {t k e : Nat} {kd : IntKind} {zv v : Value} [g : TyMap t k e] [gk : TyInt k kd] [gz : ZeroV e zv] {n : Int} {l : List (Int × Value)} [gb : Blk L b (mO kd l) C] [gv : LkV l n zv v]
    (hk : K v) : HV (lk t (.map (some b)) (.int kd n) false) w K := ⟨_, run_lk (gb := gb) gz.h false, by rw [← gv.h] at hk; exact hk⟩
theorem iRI_lkv {w0 w : World} {z0 z : Z} {B0 L : Bl} {C : Obj → Bl} {b : Nat} {A : Prop} [hS : Res w0 z0 B0 w z L] {t k e : Nat} {kd : IntKind} {zv v : Value} [g : TyMap t k e] [gk : TyInt k kd] [gz : ZeroV e zv] {n : Int} {l : List (Int × Value)} [gb : Blk L b (mO kd l) C] [gv : LkV l n zv v]
    (hk : A) : RunIs (lk t (.map (some b)) (.int kd n) false) w v ∧ A := ⟨by have := run_lk (gb := gb) (hS := hS) (t := t) (k := k) (e := e) (n := n) gz.h false; rw [← gv.h]; exact this, hk⟩
instance {k : Int} : Enters (opF k) := by
  unfold opF
  repeat' split
  all_goals infer_instance
theorem OpR.val {mb : Nat} {e : Int} {a : AcM} {s : StM} {z : Z} {B : Bl} {r : Value} (h : OpR mb e a s z B r) : ∃ act : AcM, r = .tuple #[act.v, .int .i64 e] ∧ (e = 0 → act = a ∧ MachR z B mb s) := by
  rw [OpR] at h
  by_cases he : e = 0
  · rw [if_pos he] at h
    exact ⟨a, by rw [he]; exact h.1, fun _ => ⟨rfl, h.2⟩⟩
  · rw [if_neg he] at h
    exact ⟨noAct, h, fun hh => absurd hh he⟩
theorem perm2 {a b : Nat × Obj} {B R : Bl} : (a :: b :: (B ++ R)).Perm (B ++ (a :: b :: R)) := by
  simpa using (List.perm_append_comm (l₁ := [a, b]) (l₂ := B)).append_right R
theorem Mach.z {z z' : Z} {B : Bl} {mb : Nat} {s : StM} (hm : Mach z B mb s) (hz : Le z z') : Mach z' B mb s := by
  obtain ⟨Bf, Bl, xs, v, h1, h2, h3⟩ := hm
  refine ⟨Bf, Bl, xs, v, h1, h2, ?_⟩
  rcases h3 with h | ⟨pre, f, ps, cs, q1, q2, q3, q4, q5⟩
  · exact .inl h
  · exact .inr ⟨pre, f, ps, cs, q1, q2, FrsR.mono hz q3, q4, q5⟩
def doneM (s : StM) (o : OpM) (conds : List Int) : StepM :=
  if openE s conds ≠ 0 then ⟨openE s conds, noAct, []⟩ else if (opM s o).e ≠ 0 then ⟨(opM s o).e, noAct, []⟩ else opM s o
/-- The result of a step, as values. -/
def StepR (z : Z) (r : Value) (m : StepM) : Prop := ∃ v, r = .tuple #[v, m.a.v, .int .i64 m.e] ∧ StR z v m.s
theorem endM_len {n : Nat} {f : FrM} : ∀ l, (endM n f l).top.length ≤ 2
  | [] => by simp [endM]
  | r :: l => by
    simp only [endM]
    split
    · exact endM_len l
    · split
      · simp
      · split
        · simp
        · simp [callF]
theorem opM_len {s : StM} {o : OpM} : (opM s o).s.length ≤ s.length + 2 := by
  have h := endM_len (n := s.length) (f := lastF s) (lastF s).pend
  have hd : s.dropLast.length ≤ s.length := by simp
  simp only [opM]
  repeat' split
  all_goals simp only [List.length_append, List.length_cons, List.length_nil]
  all_goals omega
theorem doneP {v vc : Value} {s : StM} {o : OpM} {conds : List Int} {z : Z} {w : World} (hs : StR z v s) (hcs : SlR El.int z vc conds) (hk : 1 ≤ o.kind ∧ o.kind ≤ 5) (hc : o.kind = 1 ∨ o.kind = 2 → conds = [o.cond]) (ht : o.text.size ≤ big) :
    Fn1 51 #[v, o.v, vc] z w fun z' r => StepR z' r (doneM s o conds) := Fn1.intro fun hS => en51 (by
  unfold vc51
  obtain ⟨u, rfl, hu⟩ := hs
  have hu' := hu
  obtain ⟨hb, a, cap, rfl, hcap, hel⟩ := hu.form
  dsimp only [OpM.v, OpM.cells]
  refine iV_bx ?_
  intro b3 w3 hb3 hS3
  refine iV_bx ?_
  intro b4 w4 hb4 hS4
  refine iV_al ?_
  intro b6 w6 hb6 hS6
  refine iV_al ?_
  intro b7 w7 hb7 hS7
  (repeat (first | (refine iDr ?_; intro _ _) | refine V_run ?_ | refine PV_run ?_ | refine HV_run ?_ | refine iV_ld1 ?_ | refine iV_ldN ?_ | (refine iV_bx ?_; intro _ _ _ _) | (refine iV_al ?_; intro _ _ _ _) | (refine iV_mm ?_; intro _ _ _ _) | (refine iU_st ?_; intro _ _) | refine iHV_1 ?_ | refine iHV_N ?_ | refine iRI_1 ?_ | refine iRI_N ?_ | refine Cond_t ?_ | refine Cond_f ?_ | refine JB ?_ | (refine JC ?_; intro _ _ _ _) | (refine J1 ?_; intro _ _) | (refine J0 ?_; intro _ _) | (refine J2 ?_; intro _ _) | (refine J3 ?_; intro _ _) | (refine J4 ?_; intro _ _) | refine K1 ?_ | refine K0 ?_ | refine K2 ?_ | refine K3 ?_ | refine K4 ?_ | (refine CV_pu ?_; intro _ _ _ _) | refine fV_ldN ?_ | refine fV_ld1 ?_ | refine fHV_ldN ?_ | refine fHV_ld1 ?_ | refine NilW_some ?_ | refine iCW_1 ?_ | refine iCW_N ?_ | refine Pk_b ?_))
  refine CV_fn0 (fun hz => openP ⟨_, rfl, hu'.mono hz⟩ (hcs.mono hz)) ?_
  rintro z8 B8 w8 v8 hle8 hS8 hop
  by_cases he : openE s conds = 0
  · rw [if_pos he] at hop
    obtain ⟨mb, rfl, hm⟩ := hop
    have hck : checkB s = true := by
      simp only [openE] at he
      cases hh : checkB s with
      | true => rfl
      | false => simp [hh] at he
    have hcc : o.kind = 1 ∨ o.kind = 2 → 0 ≤ o.cond ∧ o.cond < 6 := fun h => by
      rw [hc h] at he
      simp only [openE, hck, if_true, List.all_cons, List.all_nil, Bool.and_true] at he
      cases hcd : cond o.cond with
      | false => simp [hcd] at he
      | true => simpa [cond] using hcd
    have hdone : doneM s o conds = if (opM s o).e ≠ 0 then ⟨(opM s o).e, noAct, []⟩ else opM s o := by rw [doneM, if_neg (by simp [he])]
    rw [hdone]
    refine V_run ?_
    refine V_run ?_
    refine V_run ?_
    refine Cond_f ?_
    refine J2cut (fun a b w' => ∃ b11 act z' B', a = .pointer (some ⟨b11, 0, none⟩) ∧ b = .int .i64 (opM s o).e ∧ ((opM s o).e = 0 → act = (opM s o).a ∧ MachR z' B' mb (opM s o).s) ∧ Res w z [] w' z' ((b11, .cells act.cells.toArray 39 (0, 0)) :: (B' ++ [(b7, .cells [.int .i64 0, .string ⟨#[]⟩, .int .i64 0, .string ⟨#[]⟩].toArray 39 (0, 0)), (b6, .cells [.slice none 0 0].toArray 28 (0, 0))])) ) ?_ ?_
    rotate_left
    · intro KJ hJ
      haveI : LkV opsL o.kind .nilFunc (.func (.func (opF o.kind)) #[] #[]) := ⟨by rw [ops_lk, if_pos hk]⟩
      (repeat (first | (refine iDr ?_; intro _ _) | refine V_run ?_ | refine PV_run ?_ | refine HV_run ?_ | refine iV_ld1 ?_ | refine iV_ldN ?_ | (refine iV_bx ?_; intro _ _ _ _) | (refine iV_al ?_; intro _ _ _ _) | (refine iV_mm ?_; intro _ _ _ _) | (refine iU_st ?_; intro _ _) | refine iHV_1 ?_ | refine iHV_N ?_ | refine iRI_1 ?_ | refine iRI_N ?_ | refine Cond_t ?_ | refine Cond_f ?_ | refine JB ?_ | (refine JC ?_; intro _ _ _ _) | (refine J1 ?_; intro _ _) | (refine J0 ?_; intro _ _) | (refine J2 ?_; intro _ _) | (refine J3 ?_; intro _ _) | (refine J4 ?_; intro _ _) | refine K1 ?_ | refine K0 ?_ | refine K2 ?_ | refine K3 ?_ | refine K4 ?_ | (refine CV_pu ?_; intro _ _ _ _) | refine fV_ldN ?_ | refine fV_ld1 ?_ | refine fHV_ldN ?_ | refine fHV_ld1 ?_ | refine NilW_some ?_ | refine iCW_1 ?_ | refine iCW_N ?_ | refine Pk_b ?_))
      refine ⟨?_, ?_⟩
      · refine CV_fn0 (fun _ => operations) ?_
        rintro z9 B9 w9 v9 hle9 hS9 ⟨bm, rfl, rfl⟩
        have hm9 := hm.z hle9
        simp only [List.cons_append, List.nil_append] at hS9
        (repeat (first | (refine iDr ?_; intro _ _) | refine V_run ?_ | refine PV_run ?_ | refine HV_run ?_ | refine iV_ld1 ?_ | refine iV_ldN ?_ | (refine iV_bx ?_; intro _ _ _ _) | (refine iV_al ?_; intro _ _ _ _) | (refine iV_mm ?_; intro _ _ _ _) | (refine iU_st ?_; intro _ _) | refine iHV_1 ?_ | refine iHV_N ?_ | refine iRI_1 ?_ | refine iRI_N ?_ | refine Cond_t ?_ | refine Cond_f ?_ | refine JB ?_ | (refine JC ?_; intro _ _ _ _) | (refine J1 ?_; intro _ _) | (refine J0 ?_; intro _ _) | (refine J2 ?_; intro _ _) | (refine J3 ?_; intro _ _) | (refine J4 ?_; intro _ _) | refine K1 ?_ | refine K0 ?_ | refine K2 ?_ | refine K3 ?_ | refine K4 ?_ | (refine CV_pu ?_; intro _ _ _ _) | refine fV_ldN ?_ | refine fV_ld1 ?_ | refine fHV_ldN ?_ | refine fHV_ld1 ?_ | refine NilW_some ?_ | refine iCW_1 ?_ | refine iCW_N ?_ | refine Pk_b ?_))
        refine iHV_lkv ?_
        refine ⟨?_, ?_⟩
        · refine CV_fn (B := B8) (F := (bm, _) :: [_, _, _, _]) (hS9.perm List.perm_middle.symm) (opP hm9 hck hk hcc ht) (by simp) ?_
          rintro z10 B10 w10 v10 hle10 hS10 hop
          obtain ⟨act, rfl, hact⟩ := hop.val
          dsimp only [AcM.v] at *
          (repeat (first | (refine iDr ?_; intro _ _) | refine V_run ?_ | refine PV_run ?_ | refine HV_run ?_ | refine iV_ld1 ?_ | refine iV_ldN ?_ | (refine iV_bx ?_; intro _ _ _ _) | (refine iV_al ?_; intro _ _ _ _) | (refine iV_mm ?_; intro _ _ _ _) | (refine iU_st ?_; intro _ _) | refine iHV_1 ?_ | refine iHV_N ?_ | refine iRI_1 ?_ | refine iRI_N ?_ | refine Cond_t ?_ | refine Cond_f ?_ | refine JB ?_ | (refine JC ?_; intro _ _ _ _) | (refine J1 ?_; intro _ _) | (refine J0 ?_; intro _ _) | (refine J2 ?_; intro _ _) | (refine J3 ?_; intro _ _) | (refine J4 ?_; intro _ _) | refine K1 ?_ | refine K0 ?_ | refine K2 ?_ | refine K3 ?_ | refine K4 ?_ | (refine CV_pu ?_; intro _ _ _ _) | refine fV_ldN ?_ | refine fV_ld1 ?_ | refine fHV_ldN ?_ | refine fHV_ld1 ?_ | refine NilW_some ?_ | refine iCW_1 ?_ | refine iCW_N ?_ | refine Pk_b ?_))
          rename_i hSe
          exact ⟨_, act, _, B10, rfl, rfl, hact, hSe.sublist ((List.Sublist.append (List.Sublist.refl _) (by repeat (first | exact List.Sublist.refl _ | apply List.Sublist.cons_cons | apply List.Sublist.cons | exact List.nil_sublist _))).cons_cons _)⟩
        · (repeat (first | (refine iDr ?_; intro _ _) | refine V_run ?_ | refine PV_run ?_ | refine HV_run ?_ | refine iV_ld1 ?_ | refine iV_ldN ?_ | (refine iV_bx ?_; intro _ _ _ _) | (refine iV_al ?_; intro _ _ _ _) | (refine iV_mm ?_; intro _ _ _ _) | (refine iU_st ?_; intro _ _) | refine iHV_1 ?_ | refine iHV_N ?_ | refine iRI_1 ?_ | refine iRI_N ?_ | refine Cond_t ?_ | refine Cond_f ?_ | refine JB ?_ | (refine JC ?_; intro _ _ _ _) | (refine J1 ?_; intro _ _) | (refine J0 ?_; intro _ _) | (refine J2 ?_; intro _ _) | (refine J3 ?_; intro _ _) | (refine J4 ?_; intro _ _) | refine K1 ?_ | refine K0 ?_ | refine K2 ?_ | refine K3 ?_ | refine K4 ?_ | (refine CV_pu ?_; intro _ _ _ _) | refine fV_ldN ?_ | refine fV_ld1 ?_ | refine fHV_ldN ?_ | refine fHV_ld1 ?_ | refine NilW_some ?_ | refine iCW_1 ?_ | refine iCW_N ?_ | refine Pk_b ?_))
          refine iRI_lkv ?_
          (repeat (first | (refine iDr ?_; intro _ _) | refine V_run ?_ | refine PV_run ?_ | refine HV_run ?_ | refine iV_ld1 ?_ | refine iV_ldN ?_ | (refine iV_bx ?_; intro _ _ _ _) | (refine iV_al ?_; intro _ _ _ _) | (refine iV_mm ?_; intro _ _ _ _) | (refine iU_st ?_; intro _ _) | refine iHV_1 ?_ | refine iHV_N ?_ | refine iRI_1 ?_ | refine iRI_N ?_ | refine Cond_t ?_ | refine Cond_f ?_ | refine JB ?_ | (refine JC ?_; intro _ _ _ _) | (refine J1 ?_; intro _ _) | (refine J0 ?_; intro _ _) | (refine J2 ?_; intro _ _) | (refine J3 ?_; intro _ _) | (refine J4 ?_; intro _ _) | refine K1 ?_ | refine K0 ?_ | refine K2 ?_ | refine K3 ?_ | refine K4 ?_ | (refine CV_pu ?_; intro _ _ _ _) | refine fV_ldN ?_ | refine fV_ld1 ?_ | refine fHV_ldN ?_ | refine fHV_ld1 ?_ | refine NilW_some ?_ | refine iCW_1 ?_ | refine iCW_N ?_ | refine Pk_b ?_))
          rename_i hSe
          refine CV_fn (B := B8) (F := (_, _) :: (bm, _) :: [_, _, _, _]) (hSe.perm perm2) (opP hm9 hck hk hcc ht) (by simp) ?_
          rintro z10 B10 w10 v10 hle10 hS10 hop
          obtain ⟨act, rfl, hact⟩ := hop.val
          dsimp only [AcM.v] at *
          (repeat (first | (refine iDr ?_; intro _ _) | refine V_run ?_ | refine PV_run ?_ | refine HV_run ?_ | refine iV_ld1 ?_ | refine iV_ldN ?_ | (refine iV_bx ?_; intro _ _ _ _) | (refine iV_al ?_; intro _ _ _ _) | (refine iV_mm ?_; intro _ _ _ _) | (refine iU_st ?_; intro _ _) | refine iHV_1 ?_ | refine iHV_N ?_ | refine iRI_1 ?_ | refine iRI_N ?_ | refine Cond_t ?_ | refine Cond_f ?_ | refine JB ?_ | (refine JC ?_; intro _ _ _ _) | (refine J1 ?_; intro _ _) | (refine J0 ?_; intro _ _) | (refine J2 ?_; intro _ _) | (refine J3 ?_; intro _ _) | (refine J4 ?_; intro _ _) | refine K1 ?_ | refine K0 ?_ | refine K2 ?_ | refine K3 ?_ | refine K4 ?_ | (refine CV_pu ?_; intro _ _ _ _) | refine fV_ldN ?_ | refine fV_ld1 ?_ | refine fHV_ldN ?_ | refine fHV_ld1 ?_ | refine NilW_some ?_ | refine iCW_1 ?_ | refine iCW_N ?_ | refine Pk_b ?_))
          rename_i hSe2
          exact ⟨_, act, _, B10, rfl, rfl, hact, (hSe2.perm List.perm_middle).sublist ((List.Sublist.append (List.Sublist.refl _) (by repeat (first | exact List.Sublist.refl _ | apply List.Sublist.cons_cons | apply List.Sublist.cons | exact List.nil_sublist _))).cons_cons _)⟩
      · (repeat (first | (refine iDr ?_; intro _ _) | refine V_run ?_ | refine PV_run ?_ | refine HV_run ?_ | refine iV_ld1 ?_ | refine iV_ldN ?_ | (refine iV_bx ?_; intro _ _ _ _) | (refine iV_al ?_; intro _ _ _ _) | (refine iV_mm ?_; intro _ _ _ _) | (refine iU_st ?_; intro _ _) | refine iHV_1 ?_ | refine iHV_N ?_ | refine iRI_1 ?_ | refine iRI_N ?_ | refine Cond_t ?_ | refine Cond_f ?_ | refine JB ?_ | (refine JC ?_; intro _ _ _ _) | (refine J1 ?_; intro _ _) | (refine J0 ?_; intro _ _) | (refine J2 ?_; intro _ _) | (refine J3 ?_; intro _ _) | (refine J4 ?_; intro _ _) | refine K1 ?_ | refine K0 ?_ | refine K2 ?_ | refine K3 ?_ | refine K4 ?_ | (refine CV_pu ?_; intro _ _ _ _) | refine fV_ldN ?_ | refine fV_ld1 ?_ | refine fHV_ldN ?_ | refine fHV_ld1 ?_ | refine NilW_some ?_ | refine iCW_1 ?_ | refine iCW_N ?_ | refine Pk_b ?_))
        refine CV_fn0 (fun _ => operations) ?_
        rintro z9 B9 w9 v9 hle9 hS9 ⟨bm, rfl, rfl⟩
        simp only [List.cons_append, List.nil_append] at hS9
        (repeat (first | (refine iDr ?_; intro _ _) | refine V_run ?_ | refine PV_run ?_ | refine HV_run ?_ | refine iV_ld1 ?_ | refine iV_ldN ?_ | (refine iV_bx ?_; intro _ _ _ _) | (refine iV_al ?_; intro _ _ _ _) | (refine iV_mm ?_; intro _ _ _ _) | (refine iU_st ?_; intro _ _) | refine iHV_1 ?_ | refine iHV_N ?_ | refine iRI_1 ?_ | refine iRI_N ?_ | refine Cond_t ?_ | refine Cond_f ?_ | refine JB ?_ | (refine JC ?_; intro _ _ _ _) | (refine J1 ?_; intro _ _) | (refine J0 ?_; intro _ _) | (refine J2 ?_; intro _ _) | (refine J3 ?_; intro _ _) | (refine J4 ?_; intro _ _) | refine K1 ?_ | refine K0 ?_ | refine K2 ?_ | refine K3 ?_ | refine K4 ?_ | (refine CV_pu ?_; intro _ _ _ _) | refine fV_ldN ?_ | refine fV_ld1 ?_ | refine fHV_ldN ?_ | refine fHV_ld1 ?_ | refine NilW_some ?_ | refine iCW_1 ?_ | refine iCW_N ?_ | refine Pk_b ?_))
        refine iHV_lkv ?_
        refine CV_fn (B := B8) (F := (bm, _) :: (_, _) :: [_, _, _, _]) (hS9.perm perm2) (opP (hm.z hle9) hck hk hcc ht) (by simp) ?_
        rintro z10 B10 w10 v10 hle10 hS10 hop
        obtain ⟨act, rfl, hact⟩ := hop.val
        dsimp only [AcM.v] at *
        (repeat (first | (refine iDr ?_; intro _ _) | refine V_run ?_ | refine PV_run ?_ | refine HV_run ?_ | refine iV_ld1 ?_ | refine iV_ldN ?_ | (refine iV_bx ?_; intro _ _ _ _) | (refine iV_al ?_; intro _ _ _ _) | (refine iV_mm ?_; intro _ _ _ _) | (refine iU_st ?_; intro _ _) | refine iHV_1 ?_ | refine iHV_N ?_ | refine iRI_1 ?_ | refine iRI_N ?_ | refine Cond_t ?_ | refine Cond_f ?_ | refine JB ?_ | (refine JC ?_; intro _ _ _ _) | (refine J1 ?_; intro _ _) | (refine J0 ?_; intro _ _) | (refine J2 ?_; intro _ _) | (refine J3 ?_; intro _ _) | (refine J4 ?_; intro _ _) | refine K1 ?_ | refine K0 ?_ | refine K2 ?_ | refine K3 ?_ | refine K4 ?_ | (refine CV_pu ?_; intro _ _ _ _) | refine fV_ldN ?_ | refine fV_ld1 ?_ | refine fHV_ldN ?_ | refine fHV_ld1 ?_ | refine NilW_some ?_ | refine iCW_1 ?_ | refine iCW_N ?_ | refine Pk_b ?_))
        rename_i hSe2
        exact ⟨_, act, _, B10, rfl, rfl, hact, (hSe2.sublist ((List.Sublist.refl _).append (List.sublist_cons_self _ _)) |>.perm List.perm_middle).sublist ((List.Sublist.append (List.Sublist.refl _) (by repeat (first | exact List.Sublist.refl _ | apply List.Sublist.cons_cons | apply List.Sublist.cons | exact List.nil_sublist _))).cons_cons _)⟩
    · rintro _ _ w9 ⟨b11, act, z9, B9, rfl, rfl, hact, hS9⟩
      dsimp only [AcM.cells] at hS9
      (repeat (first | (refine iDr ?_; intro _ _) | refine V_run ?_ | refine PV_run ?_ | refine HV_run ?_ | refine iV_ld1 ?_ | refine iV_ldN ?_ | (refine iV_bx ?_; intro _ _ _ _) | (refine iV_al ?_; intro _ _ _ _) | (refine iV_mm ?_; intro _ _ _ _) | (refine iU_st ?_; intro _ _) | refine iHV_1 ?_ | refine iHV_N ?_ | refine iRI_1 ?_ | refine iRI_N ?_ | refine Cond_t ?_ | refine Cond_f ?_ | refine JB ?_ | (refine JC ?_; intro _ _ _ _) | (refine J1 ?_; intro _ _) | (refine J0 ?_; intro _ _) | (refine J2 ?_; intro _ _) | (refine J3 ?_; intro _ _) | (refine J4 ?_; intro _ _) | refine K1 ?_ | refine K0 ?_ | refine K2 ?_ | refine K3 ?_ | refine K4 ?_ | (refine CV_pu ?_; intro _ _ _ _) | refine fV_ldN ?_ | refine fV_ld1 ?_ | refine fHV_ldN ?_ | refine fHV_ld1 ?_ | refine NilW_some ?_ | refine iCW_1 ?_ | refine iCW_N ?_ | refine Pk_b ?_))
      refine Cond_nd (fun hne => ?_) (fun h0 => ?_)
      · (repeat (first | (refine iDr ?_; intro _ _) | refine V_run ?_ | refine PV_run ?_ | refine HV_run ?_ | refine iV_ld1 ?_ | refine iV_ldN ?_ | (refine iV_bx ?_; intro _ _ _ _) | (refine iV_al ?_; intro _ _ _ _) | (refine iV_mm ?_; intro _ _ _ _) | (refine iU_st ?_; intro _ _) | refine iHV_1 ?_ | refine iHV_N ?_ | refine iRI_1 ?_ | refine iRI_N ?_ | refine Cond_t ?_ | refine Cond_f ?_ | refine JB ?_ | (refine JC ?_; intro _ _ _ _) | (refine J1 ?_; intro _ _) | (refine J0 ?_; intro _ _) | (refine J2 ?_; intro _ _) | (refine J3 ?_; intro _ _) | (refine J4 ?_; intro _ _) | refine K1 ?_ | refine K0 ?_ | refine K2 ?_ | refine K3 ?_ | refine K4 ?_ | (refine CV_pu ?_; intro _ _ _ _) | refine fV_ldN ?_ | refine fV_ld1 ?_ | refine fHV_ldN ?_ | refine fHV_ld1 ?_ | refine NilW_some ?_ | refine iCW_1 ?_ | refine iCW_N ?_ | refine Pk_b ?_))
        exact ⟨_, _, ‹_›, by rw [if_pos hne]; exact ⟨_, rfl, _, rfl, SlR.nil⟩⟩
      · obtain ⟨rfl, Bf, xs, v, rfl, ho, hfr⟩ := hact h0
        obtain ⟨af, capf, rfl, hcf⟩ := ho.form
        simp only [List.cons_append] at hS9
        (repeat (first | (refine iDr ?_; intro _ _) | refine V_run ?_ | refine PV_run ?_ | refine HV_run ?_ | refine iV_ld1 ?_ | refine iV_ldN ?_ | (refine iV_bx ?_; intro _ _ _ _) | (refine iV_al ?_; intro _ _ _ _) | (refine iV_mm ?_; intro _ _ _ _) | (refine iU_st ?_; intro _ _) | refine iHV_1 ?_ | refine iHV_N ?_ | refine iRI_1 ?_ | refine iRI_N ?_ | refine Cond_t ?_ | refine Cond_f ?_ | refine JB ?_ | (refine JC ?_; intro _ _ _ _) | (refine J1 ?_; intro _ _) | (refine J0 ?_; intro _ _) | (refine J2 ?_; intro _ _) | (refine J3 ?_; intro _ _) | (refine J4 ?_; intro _ _) | refine K1 ?_ | refine K0 ?_ | refine K2 ?_ | refine K3 ?_ | refine K4 ?_ | (refine CV_pu ?_; intro _ _ _ _) | refine fV_ldN ?_ | refine fV_ld1 ?_ | refine fHV_ldN ?_ | refine fHV_ld1 ?_ | refine NilW_some ?_ | refine iCW_1 ?_ | refine iCW_N ?_ | refine Pk_b ?_))
        rename_i hSe
        have hlen : (opM s o).s.length ≤ big := by
          have := opM_len (s := s) (o := o)
          have := (checkB_fr hck).1
          simp only [big]; omega
        obtain ⟨z10, hz10, hS10, hsl⟩ := MachR.st (L := []) (hSe.sublist (L' := Bf ++ []) ((((List.Sublist.refl _).append (List.nil_sublist _)).cons _).cons _)) ho hfr hlen
        refine ⟨z10, [], hS10, ?_⟩
        rw [if_neg (by simp [h0])]
        exact ⟨_, by rw [h0], _, rfl, hsl⟩
  · rw [if_neg he] at hop
    obtain ⟨rfl, rfl⟩ := hop
    have hdone : doneM s o conds = ⟨openE s conds, noAct, []⟩ := by rw [doneM, if_pos he]
    rw [hdone]
    simp only [List.nil_append] at hS8
    (repeat (first | (refine iDr ?_; intro _ _) | refine V_run ?_ | refine PV_run ?_ | refine HV_run ?_ | refine iV_ld1 ?_ | refine iV_ldN ?_ | (refine iV_bx ?_; intro _ _ _ _) | (refine iV_al ?_; intro _ _ _ _) | (refine iV_mm ?_; intro _ _ _ _) | (refine iU_st ?_; intro _ _) | refine iHV_1 ?_ | refine iHV_N ?_ | refine iRI_1 ?_ | refine iRI_N ?_ | refine Cond_t ?_ | refine Cond_f ?_ | refine JB ?_ | (refine JC ?_; intro _ _ _ _) | (refine J1 ?_; intro _ _) | (refine J0 ?_; intro _ _) | (refine J2 ?_; intro _ _) | (refine J3 ?_; intro _ _) | (refine J4 ?_; intro _ _) | refine K1 ?_ | refine K0 ?_ | refine K2 ?_ | refine K3 ?_ | refine K4 ?_ | (refine CV_pu ?_; intro _ _ _ _) | refine fV_ldN ?_ | refine fV_ld1 ?_ | refine fHV_ldN ?_ | refine fHV_ld1 ?_ | refine NilW_some ?_ | refine iCW_1 ?_ | refine iCW_N ?_ | refine Pk_b ?_))
    refine Cond_nd (fun _ => ?_) (fun h => absurd h he)
    (repeat (first | (refine iDr ?_; intro _ _) | refine V_run ?_ | refine PV_run ?_ | refine HV_run ?_ | refine iV_ld1 ?_ | refine iV_ldN ?_ | (refine iV_bx ?_; intro _ _ _ _) | (refine iV_al ?_; intro _ _ _ _) | (refine iV_mm ?_; intro _ _ _ _) | (refine iU_st ?_; intro _ _) | refine iHV_1 ?_ | refine iHV_N ?_ | refine iRI_1 ?_ | refine iRI_N ?_ | refine Cond_t ?_ | refine Cond_f ?_ | refine JB ?_ | (refine JC ?_; intro _ _ _ _) | (refine J1 ?_; intro _ _) | (refine J0 ?_; intro _ _) | (refine J2 ?_; intro _ _) | (refine J3 ?_; intro _ _) | (refine J4 ?_; intro _ _) | refine K1 ?_ | refine K0 ?_ | refine K2 ?_ | refine K3 ?_ | refine K4 ?_ | (refine CV_pu ?_; intro _ _ _ _) | refine fV_ldN ?_ | refine fV_ld1 ?_ | refine fHV_ldN ?_ | refine fHV_ld1 ?_ | refine NilW_some ?_ | refine iCW_1 ?_ | refine iCW_N ?_ | refine Pk_b ?_))
    exact ⟨_, _, ‹_›, _, rfl, _, rfl, SlR.nil⟩)
end Go.Proofs.Ytjnckainogpenaa
