/- Machines at work: returning; what an operation leaves. -/
import Derived.Test.YtjnckainogpenaaT15
set_option linter.unusedVariables false
set_option maxRecDepth 20000
set_option synthInstance.maxHeartbeats 400000
set_option synthInstance.maxSize 4000
namespace Go.Proofs.Ytjnckainogpenaa
open Go Q Go.RowKit

/-- What an operation leaves: a machine that reads as s. -/
def MachR (z : Z) (B : Bl) (mb : Nat) (s : StM) : Prop := ∃ Bf xs v, B = (mb, .cells [v].toArray 134 (0, 0)) :: Bf ∧ OwnSl 63 5 Bf v s.length xs ∧ FrsR z xs s
theorem Mach.toR {w0 w : World} {z0 z : Z} {B0 B : Bl} {mb : Nat} {s : StM} (h : Res w0 z0 B0 w z B) (hm : Mach z B mb s) : ∃ z' B', Res w0 z0 B0 w z' B' ∧ MachR z' B' mb s := by
  obtain ⟨Bf, Bl, xs, v, rfl, ho, hm⟩ := hm
  obtain ⟨z', hz, hS, hf⟩ := hm.freeze (L := (mb, _) :: Bf) (h.perm (List.perm_append_comm (l₁ := (mb, _) :: Bf) (l₂ := Bl)))
  exact ⟨z', _, hS, Bf, xs, v, rfl, ho, hf⟩
/-- The frames of what an operation leaves, frozen. -/
theorem MachR.st {w0 w : World} {z0 z : Z} {B0 L Bf : Bl} {s : StM} {xs : List Value} {v : Value} (h : Res w0 z0 B0 w z (Bf ++ L)) (ho : OwnSl 63 5 Bf v s.length xs) (hf : FrsR z xs s) (hb : s.length ≤ big) : ∃ z', Le z z' ∧ Res w0 z0 B0 w z' L ∧ SlR El.frame z' v s := by
  rcases ho.2 with ⟨rfl, rfl, h0⟩ | ⟨b, cap, sp, rfl, rfl, h1, h2, h3⟩
  · have : s = [] := List.eq_nil_of_length_eq_zero h0
    subst this
    exact ⟨z, Le.refl _, h, SlR.nil⟩
  · refine ⟨_, Res.freeze_le h, Res.freeze h, some ⟨b, 0, none⟩, cap, rfl, h1, hb, fun _ => ⟨b, 0, rfl, fun i x hx => ?_⟩⟩
    obtain ⟨cs, hr, hg⟩ := hf.get hx
    refine ⟨cs, El.frame.mono hr (Res.freeze_le h), _, _, _, if_pos rfl, fun j v hv => ?_⟩
    have := hg j v hv
    have hlt := (List.getElem?_eq_some_iff.1 this).1
    show (xs ++ sp).toArray[0 + i * 5 + j]? = some v
    simp only [Nat.zero_add, List.getElem?_toArray]
    rw [List.getElem?_append_left hlt]
    exact this
/-- What an operation does: an action, or an error. -/
def OpR (mb : Nat) (e : Int) (a : AcM) (s : StM) : Z → Bl → Value → Prop := fun z B r => if e = 0 then r = .tuple #[a.v, .int .i64 0] ∧ MachR z B mb s else r = .tuple #[noAct.v, .int .i64 e]
theorem FrsR.split {z : Z} : ∀ {pre s : StM} {xs : List Value}, FrsR z xs (pre ++ s) → ∃ ps qs, xs = ps ++ qs ∧ FrsR z ps pre ∧ FrsR z qs s
  | [], s, xs, h => ⟨[], xs, rfl, rfl, h⟩
  | f :: pre, s, xs, ⟨cs, rest, h1, h2, h3⟩ => by
    obtain ⟨ps, qs, h4, h5, h6⟩ := FrsR.split h3
    exact ⟨cs ++ ps, qs, by rw [h1, h4, List.append_assoc], ⟨cs, ps, rfl, h2, h5⟩, h6⟩
theorem backP {z : Z} {w : World} {B : Bl} {mb : Nat} {pre : StM} {f : FrM} {v1 v2 v3 : Value} (hm : Mach z B mb (pre ++ [f])) (h6 : f.traps.length = 6) (hpre : pre.length ≤ 100) :
    Fn 87 #[.pointer (some ⟨mb, 0, none⟩), v1, v2, v3] z B w (OpR mb (if pre.length = 0 then 12 else 0) noAct pre) := Fn.intro fun hS => en87 (by
  unfold vc87
  obtain ⟨fb, tb, ps, sp, ts, cap, tcap, B2, w2, hB, hx, hpo⟩ := hm.x h6
  have hS' : Res w z B w z _ := Eq.subst (motive := fun X => Res w z B w z X) hB hS
  clear hS
  simp only [mxB] at hS'
  haveI : InI (((pre.length + 1 : Nat) : Int) - 1) := ⟨by omega⟩
  have hcap := hx.cap
  haveI : InR (((pre.length + 1 : Nat) : Int) - 1) (cap + 1) := ⟨by omega, by omega⟩
  (repeat (first | (refine iDr ?_; intro _ _) | refine V_run ?_ | refine PV_run ?_ | refine HV_run ?_ | refine iV_ld1 ?_ | refine iV_ldN ?_ | (refine iV_bx ?_; intro _ _ _ _) | (refine iV_al ?_; intro _ _ _ _) | (refine iV_mm ?_; intro _ _ _ _) | (refine iU_st ?_; intro _ _) | refine iHV_1 ?_ | refine iHV_N ?_ | refine iRI_1 ?_ | refine iRI_N ?_ | refine Cond_t ?_ | refine Cond_f ?_ | refine JB ?_ | (refine JC ?_; intro _ _ _ _) | (refine J1 ?_; intro _ _) | (refine J0 ?_; intro _ _) | (refine J2 ?_; intro _ _) | (refine J3 ?_; intro _ _) | (refine J4 ?_; intro _ _) | refine K1 ?_ | refine K0 ?_ | refine K2 ?_ | refine K3 ?_ | refine K4 ?_ | (refine CV_pu ?_; intro _ _ _ _) | refine fV_ldN ?_ | refine fV_ld1 ?_ | refine fHV_ldN ?_ | refine fHV_ld1 ?_ | refine NilW_some ?_ | refine iCW_1 ?_ | refine iCW_N ?_ | refine Pk_b ?_))
  have hk : (((pre.length + 1 : Nat) : Int) - 1).toNat = pre.length := by omega
  refine Cond_d (fun h30 => ?_) (fun h30 => ?_)
  · (repeat (first | (refine iDr ?_; intro _ _) | refine V_run ?_ | refine PV_run ?_ | refine HV_run ?_ | refine iV_ld1 ?_ | refine iV_ldN ?_ | (refine iV_bx ?_; intro _ _ _ _) | (refine iV_al ?_; intro _ _ _ _) | (refine iV_mm ?_; intro _ _ _ _) | (refine iU_st ?_; intro _ _) | refine iHV_1 ?_ | refine iHV_N ?_ | refine iRI_1 ?_ | refine iRI_N ?_ | refine Cond_t ?_ | refine Cond_f ?_ | refine JB ?_ | (refine JC ?_; intro _ _ _ _) | (refine J1 ?_; intro _ _) | (refine J0 ?_; intro _ _) | (refine J2 ?_; intro _ _) | (refine J3 ?_; intro _ _) | (refine J4 ?_; intro _ _) | refine K1 ?_ | refine K0 ?_ | refine K2 ?_ | refine K3 ?_ | refine K4 ?_ | (refine CV_pu ?_; intro _ _ _ _) | refine fV_ldN ?_ | refine fV_ld1 ?_ | refine fHV_ldN ?_ | refine fHV_ld1 ?_ | refine NilW_some ?_ | refine iCW_1 ?_ | refine iCW_N ?_ | refine Pk_b ?_))
    exact ⟨_, _, ‹_›, by rw [OpR, if_neg (by rw [if_pos (by omega)]; decide), if_pos (by omega)]; rfl⟩
  · (repeat (first | (refine iDr ?_; intro _ _) | refine V_run ?_ | refine PV_run ?_ | refine HV_run ?_ | refine iV_ld1 ?_ | refine iV_ldN ?_ | (refine iV_bx ?_; intro _ _ _ _) | (refine iV_al ?_; intro _ _ _ _) | (refine iV_mm ?_; intro _ _ _ _) | (refine iU_st ?_; intro _ _) | refine iHV_1 ?_ | refine iHV_N ?_ | refine iRI_1 ?_ | refine iRI_N ?_ | refine Cond_t ?_ | refine Cond_f ?_ | refine JB ?_ | (refine JC ?_; intro _ _ _ _) | (refine J1 ?_; intro _ _) | (refine J0 ?_; intro _ _) | (refine J2 ?_; intro _ _) | (refine J3 ?_; intro _ _) | (refine J4 ?_; intro _ _) | refine K1 ?_ | refine K0 ?_ | refine K2 ?_ | refine K3 ?_ | refine K4 ?_ | (refine CV_pu ?_; intro _ _ _ _) | refine fV_ldN ?_ | refine fV_ld1 ?_ | refine fHV_ldN ?_ | refine fHV_ld1 ?_ | refine NilW_some ?_ | refine iCW_1 ?_ | refine iCW_N ?_ | refine Pk_b ?_))
    rename_i hSe
    rw [hk] at hSe
    have hSe' := hSe.sublist (L' := [(mb, _), (fb, _)]) ((((List.nil_sublist _).cons_cons _).cons_cons _).cons _)
    refine ⟨_, _, hSe', ?_⟩
    rw [OpR, if_pos (by rw [if_neg (by omega)])]
    refine ⟨rfl, [(fb, _)], ps, _, rfl, ⟨hx.fr.len, .inr ⟨fb, cap, _, rfl, rfl, by omega, hcap.2.1, ?_⟩⟩, FrsR.mono hSe.zle hx.fr⟩
    simp only [List.length_append, List.length_cons]
    omega)
end Go.Proofs.Ytjnckainogpenaa
