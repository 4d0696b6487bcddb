/- What CONDITION tells. -/
import Derived.Test.YtjnckainogpenaaT21
set_option linter.unusedVariables false
set_option maxRecDepth 20000
set_option synthInstance.maxHeartbeats 400000
set_option synthInstance.maxSize 4000
namespace Go.Proofs.Ytjnckainogpenaa
open Go Q Go.RowKit

def wOff : ByteArray := ⟨#[79, 70, 70]⟩
def wOn : ByteArray := ⟨#[79, 78]⟩
def wDelay : ByteArray := ⟨#[68, 69, 76, 65, 89]⟩
def wSignal : ByteArray := ⟨#[83, 73, 71, 78, 65, 76]⟩
def wCall : ByteArray := ⟨#[67, 65, 76, 76]⟩
def stateM (t : TrM) : ByteArray := if t.mode = 0 then wOff else if t.delayed then wDelay else wOn
def tellM (f : FrM) (o : Int) : ByteArray :=
  if o = 67 then nameOf f.info.cond else if o = 68 then f.info.desc else if o = 73 then (if f.info.mode = 1 then wSignal else wCall) else stateM (f.tr f.info.cond)
def condM (s : StM) (o : Int) : ByteArray × Int :=
  if checkB s = false then (⟨#[]⟩, 2)
  else if ¬ (o = 67 ∨ o = 68 ∨ o = 73 ∨ o = 83) then (⟨#[]⟩, 1)
  else if (lastF s).info.mode = 0 then (⟨#[]⟩, 0)
  else (tellM (lastF s) o, 0)
theorem words {z : Z} {w : World} : Fn 105 #[] z [] w fun z' B' r => ∃ b, r = .slice (some ⟨b, 0, none⟩) 3 3 ∧ B' = [(b, .cells [.string wOff, .string wOn, .string wDelay].toArray 9 (0, 0))] := Fn.intro fun hS => en105 (by
  unfold vc105
  refine V_bs (parts := [(0, _), (1, _), (2, _)]) rfl (by omega) ?_
  intro b w1 hb hS1
  exact ⟨z, _, hS1, b, rfl, rfl⟩)
instance {t : TrM} : Pu 76 #[t.v] (.string (stateM t)) := ⟨fun z w => Fn1.intro fun hS => en76 (by
  unfold vc76
  dsimp only [TrM.v, TrM.cells]
  haveI : InR 0 (3 : Nat) := ⟨by decide, by decide⟩
  haveI : InR 1 (3 : Nat) := ⟨by decide, by decide⟩
  haveI : InR 2 (3 : Nat) := ⟨by decide, by decide⟩
  (repeat (first | (refine iDr ?_; intro _ _) | refine V_run ?_ | refine PV_run ?_ | refine HV_run ?_ | refine iV_ld1 ?_ | refine iV_ldN ?_ | (refine iV_bx ?_; intro _ _ _ _) | (refine iV_al ?_; intro _ _ _ _) | (refine iV_mm ?_; intro _ _ _ _) | (refine iU_st ?_; intro _ _) | refine iHV_1 ?_ | refine iHV_N ?_ | refine iRI_1 ?_ | refine iRI_N ?_ | refine Cond_t ?_ | refine Cond_f ?_ | refine JB ?_ | (refine JC ?_; intro _ _ _ _) | (refine J1 ?_; intro _ _) | (refine J0 ?_; intro _ _) | (refine J2 ?_; intro _ _) | (refine J3 ?_; intro _ _) | (refine J4 ?_; intro _ _) | refine K1 ?_ | refine K0 ?_ | refine K2 ?_ | refine K3 ?_ | refine K4 ?_ | (refine CV_pu ?_; intro _ _ _ _) | refine fV_ldN ?_ | refine fV_ld1 ?_ | refine fHV_ldN ?_ | refine fHV_ld1 ?_ | refine NilW_some ?_ | refine iCW_1 ?_ | refine iCW_N ?_ | refine Pk_b ?_))
  refine Cond_d (fun h => ?_) (fun h => ?_)
  · refine CV_fn0 (fun _ => words) ?_
    rintro z1 B1 w1 v1 hle1 hS1 ⟨b, rfl, rfl⟩
    simp only [List.cons_append, List.nil_append] at hS1
    (repeat (first | (refine iDr ?_; intro _ _) | refine V_run ?_ | refine PV_run ?_ | refine HV_run ?_ | refine iV_ld1 ?_ | refine iV_ldN ?_ | (refine iV_bx ?_; intro _ _ _ _) | (refine iV_al ?_; intro _ _ _ _) | (refine iV_mm ?_; intro _ _ _ _) | (refine iU_st ?_; intro _ _) | refine iHV_1 ?_ | refine iHV_N ?_ | refine iRI_1 ?_ | refine iRI_N ?_ | refine Cond_t ?_ | refine Cond_f ?_ | refine JB ?_ | (refine JC ?_; intro _ _ _ _) | (refine J1 ?_; intro _ _) | (refine J0 ?_; intro _ _) | (refine J2 ?_; intro _ _) | (refine J3 ?_; intro _ _) | (refine J4 ?_; intro _ _) | refine K1 ?_ | refine K0 ?_ | refine K2 ?_ | refine K3 ?_ | refine K4 ?_ | (refine CV_pu ?_; intro _ _ _ _) | refine fV_ldN ?_ | refine fV_ld1 ?_ | refine fHV_ldN ?_ | refine fHV_ld1 ?_ | refine NilW_some ?_ | refine iCW_1 ?_ | refine iCW_N ?_ | refine Pk_b ?_))
    rw [show Int.toNat 0 * 1 = 0 from rfl]
    (repeat (first | (refine iDr ?_; intro _ _) | refine V_run ?_ | refine PV_run ?_ | refine HV_run ?_ | refine iV_ld1 ?_ | refine iV_ldN ?_ | (refine iV_bx ?_; intro _ _ _ _) | (refine iV_al ?_; intro _ _ _ _) | (refine iV_mm ?_; intro _ _ _ _) | (refine iU_st ?_; intro _ _) | refine iHV_1 ?_ | refine iHV_N ?_ | refine iRI_1 ?_ | refine iRI_N ?_ | refine Cond_t ?_ | refine Cond_f ?_ | refine JB ?_ | (refine JC ?_; intro _ _ _ _) | (refine J1 ?_; intro _ _) | (refine J0 ?_; intro _ _) | (refine J2 ?_; intro _ _) | (refine J3 ?_; intro _ _) | (refine J4 ?_; intro _ _) | refine K1 ?_ | refine K0 ?_ | refine K2 ?_ | refine K3 ?_ | refine K4 ?_ | (refine CV_pu ?_; intro _ _ _ _) | refine fV_ldN ?_ | refine fV_ld1 ?_ | refine fHV_ldN ?_ | refine fHV_ld1 ?_ | refine NilW_some ?_ | refine iCW_1 ?_ | refine iCW_N ?_ | refine Pk_b ?_))
    exact ⟨_, _, ‹_›, by rw [stateM, if_pos h]⟩
  · (repeat (first | (refine iDr ?_; intro _ _) | refine V_run ?_ | refine PV_run ?_ | refine HV_run ?_ | refine iV_ld1 ?_ | refine iV_ldN ?_ | (refine iV_bx ?_; intro _ _ _ _) | (refine iV_al ?_; intro _ _ _ _) | (refine iV_mm ?_; intro _ _ _ _) | (refine iU_st ?_; intro _ _) | refine iHV_1 ?_ | refine iHV_N ?_ | refine iRI_1 ?_ | refine iRI_N ?_ | refine Cond_t ?_ | refine Cond_f ?_ | refine JB ?_ | (refine JC ?_; intro _ _ _ _) | (refine J1 ?_; intro _ _) | (refine J0 ?_; intro _ _) | (refine J2 ?_; intro _ _) | (refine J3 ?_; intro _ _) | (refine J4 ?_; intro _ _) | refine K1 ?_ | refine K0 ?_ | refine K2 ?_ | refine K3 ?_ | refine K4 ?_ | (refine CV_pu ?_; intro _ _ _ _) | refine fV_ldN ?_ | refine fV_ld1 ?_ | refine fHV_ldN ?_ | refine fHV_ld1 ?_ | refine NilW_some ?_ | refine iCW_1 ?_ | refine iCW_N ?_ | refine Pk_b ?_))
    refine Cond_b (fun h2 => ?_) (fun h2 => ?_)
    · refine CV_fn0 (fun _ => words) ?_
      rintro z1 B1 w1 v1 hle1 hS1 ⟨b, rfl, rfl⟩
      simp only [List.cons_append, List.nil_append] at hS1
      (repeat (first | (refine iDr ?_; intro _ _) | refine V_run ?_ | refine PV_run ?_ | refine HV_run ?_ | refine iV_ld1 ?_ | refine iV_ldN ?_ | (refine iV_bx ?_; intro _ _ _ _) | (refine iV_al ?_; intro _ _ _ _) | (refine iV_mm ?_; intro _ _ _ _) | (refine iU_st ?_; intro _ _) | refine iHV_1 ?_ | refine iHV_N ?_ | refine iRI_1 ?_ | refine iRI_N ?_ | refine Cond_t ?_ | refine Cond_f ?_ | refine JB ?_ | (refine JC ?_; intro _ _ _ _) | (refine J1 ?_; intro _ _) | (refine J0 ?_; intro _ _) | (refine J2 ?_; intro _ _) | (refine J3 ?_; intro _ _) | (refine J4 ?_; intro _ _) | refine K1 ?_ | refine K0 ?_ | refine K2 ?_ | refine K3 ?_ | refine K4 ?_ | (refine CV_pu ?_; intro _ _ _ _) | refine fV_ldN ?_ | refine fV_ld1 ?_ | refine fHV_ldN ?_ | refine fHV_ld1 ?_ | refine NilW_some ?_ | refine iCW_1 ?_ | refine iCW_N ?_ | refine Pk_b ?_))
      rw [show Int.toNat 2 * 1 = 2 from rfl]
      (repeat (first | (refine iDr ?_; intro _ _) | refine V_run ?_ | refine PV_run ?_ | refine HV_run ?_ | refine iV_ld1 ?_ | refine iV_ldN ?_ | (refine iV_bx ?_; intro _ _ _ _) | (refine iV_al ?_; intro _ _ _ _) | (refine iV_mm ?_; intro _ _ _ _) | (refine iU_st ?_; intro _ _) | refine iHV_1 ?_ | refine iHV_N ?_ | refine iRI_1 ?_ | refine iRI_N ?_ | refine Cond_t ?_ | refine Cond_f ?_ | refine JB ?_ | (refine JC ?_; intro _ _ _ _) | (refine J1 ?_; intro _ _) | (refine J0 ?_; intro _ _) | (refine J2 ?_; intro _ _) | (refine J3 ?_; intro _ _) | (refine J4 ?_; intro _ _) | refine K1 ?_ | refine K0 ?_ | refine K2 ?_ | refine K3 ?_ | refine K4 ?_ | (refine CV_pu ?_; intro _ _ _ _) | refine fV_ldN ?_ | refine fV_ld1 ?_ | refine fHV_ldN ?_ | refine fHV_ld1 ?_ | refine NilW_some ?_ | refine iCW_1 ?_ | refine iCW_N ?_ | refine Pk_b ?_))
      exact ⟨_, _, ‹_›, by rw [stateM, if_neg h, if_pos h2]⟩
    · refine CV_fn0 (fun _ => words) ?_
      rintro z1 B1 w1 v1 hle1 hS1 ⟨b, rfl, rfl⟩
      simp only [List.cons_append, List.nil_append] at hS1
      (repeat (first | (refine iDr ?_; intro _ _) | refine V_run ?_ | refine PV_run ?_ | refine HV_run ?_ | refine iV_ld1 ?_ | refine iV_ldN ?_ | (refine iV_bx ?_; intro _ _ _ _) | (refine iV_al ?_; intro _ _ _ _) | (refine iV_mm ?_; intro _ _ _ _) | (refine iU_st ?_; intro _ _) | refine iHV_1 ?_ | refine iHV_N ?_ | refine iRI_1 ?_ | refine iRI_N ?_ | refine Cond_t ?_ | refine Cond_f ?_ | refine JB ?_ | (refine JC ?_; intro _ _ _ _) | (refine J1 ?_; intro _ _) | (refine J0 ?_; intro _ _) | (refine J2 ?_; intro _ _) | (refine J3 ?_; intro _ _) | (refine J4 ?_; intro _ _) | refine K1 ?_ | refine K0 ?_ | refine K2 ?_ | refine K3 ?_ | refine K4 ?_ | (refine CV_pu ?_; intro _ _ _ _) | refine fV_ldN ?_ | refine fV_ld1 ?_ | refine fHV_ldN ?_ | refine fHV_ld1 ?_ | refine NilW_some ?_ | refine iCW_1 ?_ | refine iCW_N ?_ | refine Pk_b ?_))
      rw [show Int.toNat 1 * 1 = 1 from rfl]
      (repeat (first | (refine iDr ?_; intro _ _) | refine V_run ?_ | refine PV_run ?_ | refine HV_run ?_ | refine iV_ld1 ?_ | refine iV_ldN ?_ | (refine iV_bx ?_; intro _ _ _ _) | (refine iV_al ?_; intro _ _ _ _) | (refine iV_mm ?_; intro _ _ _ _) | (refine iU_st ?_; intro _ _) | refine iHV_1 ?_ | refine iHV_N ?_ | refine iRI_1 ?_ | refine iRI_N ?_ | refine Cond_t ?_ | refine Cond_f ?_ | refine JB ?_ | (refine JC ?_; intro _ _ _ _) | (refine J1 ?_; intro _ _) | (refine J0 ?_; intro _ _) | (refine J2 ?_; intro _ _) | (refine J3 ?_; intro _ _) | (refine J4 ?_; intro _ _) | refine K1 ?_ | refine K0 ?_ | refine K2 ?_ | refine K3 ?_ | refine K4 ?_ | (refine CV_pu ?_; intro _ _ _ _) | refine fV_ldN ?_ | refine fV_ld1 ?_ | refine fHV_ldN ?_ | refine fHV_ld1 ?_ | refine NilW_some ?_ | refine iCW_1 ?_ | refine iCW_N ?_ | refine Pk_b ?_))
      exact ⟨_, _, ‹_›, by rw [stateM, if_neg h, if_neg (by simp [h2])]⟩)⟩

/-- The closures of Condition, where the frame lies in the machine's own memory. -/
theorem CV_tell {w0 w : World} {z0 z : Z} {B0 L : Bl} {C C' C'' : Obj → Bl} {K : Value → World → Prop} [hS : Res w0 z0 B0 w z L] {f : FrM} {bb fb tb tcap : Nat} {ps sp ts : List Value} {v2 : Value} {k : Int} {fid : FuncId}
    [gb : Blk L bb (.cells [.pointer (some ⟨fb, ps.length, none⟩)].toArray 116 (0, 0)) C] [gf : Blk L fb (.cells (ps ++ (.slice (some ⟨tb, 0, none⟩) 6 tcap :: v2 :: .int .i64 f.info.cond :: .int .i64 f.info.mode :: .string f.info.desc :: sp)).toArray 63 (0, 0)) C'] [gt : Blk L tb (.cells (f.traps.flatMap TrM.cells ++ ts).toArray 73 (0, 0)) C'']
    (h6 : f.traps.length = 6) (hc : 0 ≤ f.info.cond ∧ f.info.cond < 6) (hmo : f.info.mode = 1 ∨ f.info.mode = 2) (hk : (k = 67 ∧ fid = 71) ∨ (k = 68 ∧ fid = 73) ∨ (k = 73 ∧ fid = 74) ∨ (k = 83 ∧ fid = 75))
    (hK : ∀ z' w' L', Le z z' → Res w0 z0 B0 w' z' L' → L.Sublist L' → K (.string (tellM f k)) w') : CV (.func (.func fid) #[] #[.pointer (some ⟨bb, 0, none⟩)]) #[] w K := by
  haveI : InR f.info.cond 6 := ⟨hc.1, hc.2⟩
  haveI : InR f.info.cond (6 : Nat) := ⟨hc.1, by have := hc.2; omega⟩
  rcases hk with ⟨rfl, rfl⟩ | ⟨rfl, rfl⟩ | ⟨rfl, rfl⟩ | ⟨rfl, rfl⟩
  · refine CV_enter (args' := #[.pointer (some ⟨bb, 0, none⟩)]) (by simp) (en71 ?_)
    unfold vc71
    (repeat (first | (refine iDr ?_; intro _ _) | refine V_run ?_ | refine PV_run ?_ | refine HV_run ?_ | refine iV_ld1 ?_ | refine iV_ldN ?_ | (refine iV_bx ?_; intro _ _ _ _) | (refine iV_al ?_; intro _ _ _ _) | (refine iV_mm ?_; intro _ _ _ _) | (refine iU_st ?_; intro _ _) | refine iHV_1 ?_ | refine iHV_N ?_ | refine iRI_1 ?_ | refine iRI_N ?_ | refine Cond_t ?_ | refine Cond_f ?_ | refine JB ?_ | (refine JC ?_; intro _ _ _ _) | (refine J1 ?_; intro _ _) | (refine J0 ?_; intro _ _) | (refine J2 ?_; intro _ _) | (refine J3 ?_; intro _ _) | (refine J4 ?_; intro _ _) | refine K1 ?_ | refine K0 ?_ | refine K2 ?_ | refine K3 ?_ | refine K4 ?_ | (refine CV_pu ?_; intro _ _ _ _) | refine fV_ldN ?_ | refine fV_ld1 ?_ | refine fHV_ldN ?_ | refine fHV_ld1 ?_ | refine NilW_some ?_ | refine iCW_1 ?_ | refine iCW_N ?_ | refine Pk_b ?_))
    exact hK _ _ _ ‹Le z _› ‹_› (List.Sublist.refl _)
  · refine CV_enter (args' := #[.pointer (some ⟨bb, 0, none⟩)]) (by simp) (en73 ?_)
    unfold vc73
    (repeat (first | (refine iDr ?_; intro _ _) | refine V_run ?_ | refine PV_run ?_ | refine HV_run ?_ | refine iV_ld1 ?_ | refine iV_ldN ?_ | (refine iV_bx ?_; intro _ _ _ _) | (refine iV_al ?_; intro _ _ _ _) | (refine iV_mm ?_; intro _ _ _ _) | (refine iU_st ?_; intro _ _) | refine iHV_1 ?_ | refine iHV_N ?_ | refine iRI_1 ?_ | refine iRI_N ?_ | refine Cond_t ?_ | refine Cond_f ?_ | refine JB ?_ | (refine JC ?_; intro _ _ _ _) | (refine J1 ?_; intro _ _) | (refine J0 ?_; intro _ _) | (refine J2 ?_; intro _ _) | (refine J3 ?_; intro _ _) | (refine J4 ?_; intro _ _) | refine K1 ?_ | refine K0 ?_ | refine K2 ?_ | refine K3 ?_ | refine K4 ?_ | (refine CV_pu ?_; intro _ _ _ _) | refine fV_ldN ?_ | refine fV_ld1 ?_ | refine fHV_ldN ?_ | refine fHV_ld1 ?_ | refine NilW_some ?_ | refine iCW_1 ?_ | refine iCW_N ?_ | refine Pk_b ?_))
    exact hK _ _ _ (Le.refl _) ‹_› (List.Sublist.refl _)
  · refine CV_enter (args' := #[.pointer (some ⟨bb, 0, none⟩)]) (by simp) (en74 ?_)
    unfold vc74
    refine iV_mm ?_
    intro b w1 hb hS1
    refine iU_mu (by simp) ?_
    intro w2 hS2
    refine iU_mu (by simp) ?_
    intro w3 hS3
    haveI : LkV ([] ++ [((1 : Int), Value.string wSignal)] ++ [((2 : Int), Value.string wCall)]) f.info.mode (.string ⟨#[]⟩) (.string (if f.info.mode = 1 then wSignal else wCall)) := ⟨by
      rcases hmo with h | h <;> rw [h] <;> rfl⟩
    (repeat (first | (refine iDr ?_; intro _ _) | refine V_run ?_ | refine PV_run ?_ | refine HV_run ?_ | refine iV_ld1 ?_ | refine iV_ldN ?_ | (refine iV_bx ?_; intro _ _ _ _) | (refine iV_al ?_; intro _ _ _ _) | (refine iV_mm ?_; intro _ _ _ _) | (refine iU_st ?_; intro _ _) | refine iHV_1 ?_ | refine iHV_N ?_ | refine iRI_1 ?_ | refine iRI_N ?_ | refine Cond_t ?_ | refine Cond_f ?_ | refine JB ?_ | (refine JC ?_; intro _ _ _ _) | (refine J1 ?_; intro _ _) | (refine J0 ?_; intro _ _) | (refine J2 ?_; intro _ _) | (refine J3 ?_; intro _ _) | (refine J4 ?_; intro _ _) | refine K1 ?_ | refine K0 ?_ | refine K2 ?_ | refine K3 ?_ | refine K4 ?_ | (refine CV_pu ?_; intro _ _ _ _) | refine fV_ldN ?_ | refine fV_ld1 ?_ | refine fHV_ldN ?_ | refine fHV_ld1 ?_ | refine NilW_some ?_ | refine iCW_1 ?_ | refine iCW_N ?_ | refine Pk_b ?_))
    refine iV_lkv (l := [] ++ [((1 : Int), Value.string wSignal)] ++ [((2 : Int), Value.string wCall)]) ?_
    exact hK _ _ _ (Le.refl _) hS3 (List.sublist_cons_self _ _)
  · refine CV_enter (args' := #[.pointer (some ⟨bb, 0, none⟩)]) (by simp) (en75 ?_)
    unfold vc75
    have gN := tgetN h6 hc.1 hc.2 ts
    (repeat (first | (refine iDr ?_; intro _ _) | refine V_run ?_ | refine PV_run ?_ | refine HV_run ?_ | refine iV_ld1 ?_ | refine iV_ldN ?_ | (refine iV_bx ?_; intro _ _ _ _) | (refine iV_al ?_; intro _ _ _ _) | (refine iV_mm ?_; intro _ _ _ _) | (refine iU_st ?_; intro _ _) | refine iHV_1 ?_ | refine iHV_N ?_ | refine iRI_1 ?_ | refine iRI_N ?_ | refine Cond_t ?_ | refine Cond_f ?_ | refine JB ?_ | (refine JC ?_; intro _ _ _ _) | (refine J1 ?_; intro _ _) | (refine J0 ?_; intro _ _) | (refine J2 ?_; intro _ _) | (refine J3 ?_; intro _ _) | (refine J4 ?_; intro _ _) | refine K1 ?_ | refine K0 ?_ | refine K2 ?_ | refine K3 ?_ | refine K4 ?_ | (refine CV_pu ?_; intro _ _ _ _) | refine fV_ldN ?_ | refine fV_ld1 ?_ | refine fHV_ldN ?_ | refine fHV_ld1 ?_ | refine NilW_some ?_ | refine iCW_1 ?_ | refine iCW_N ?_ | refine Pk_b ?_))
    exact hK _ _ _ ‹Le z _› ‹_› (List.Sublist.refl _)
abbrev tellsL (b : Nat) : List (Int × Value) := [] ++ [((67 : Int), Value.func (Fn.func 71) #[] #[.pointer (some ⟨b, 0, none⟩)])] ++ [((68 : Int), Value.func (Fn.func 73) #[] #[.pointer (some ⟨b, 0, none⟩)])] ++ [((73 : Int), Value.func (Fn.func 74) #[] #[.pointer (some ⟨b, 0, none⟩)])] ++ [((83 : Int), Value.func (Fn.func 75) #[] #[.pointer (some ⟨b, 0, none⟩)])]
theorem tells_no {b : Nat} {o : Int} (h : ¬ (o = 67 ∨ o = 68 ∨ o = 73 ∨ o = 83)) : lkF (tellsL b) o .nilFunc = (.nilFunc, false) := by
  have : ∀ a : Int, a ≠ o → (a == o) = false := fun a h => by simpa using h
  simp only [lkF, tellsL, List.nil_append, List.cons_append, List.find?, this 67 (by omega), this 68 (by omega), this 73 (by omega), this 83 (by omega)]
theorem tells_is {b : Nat} {o : Int} (h : o = 67 ∨ o = 68 ∨ o = 73 ∨ o = 83) : ∃ fid, lkF (tellsL b) o .nilFunc = (.func (.func fid) #[] #[.pointer (some ⟨b, 0, none⟩)], true) ∧ ((o = 67 ∧ fid = 71) ∨ (o = 68 ∧ fid = 73) ∨ (o = 73 ∧ fid = 74) ∨ (o = 83 ∧ fid = 75)) := by
  rcases h with rfl | rfl | rfl | rfl
  · exact ⟨_, rfl, .inl ⟨rfl, rfl⟩⟩
  · exact ⟨_, rfl, .inr (.inl ⟨rfl, rfl⟩)⟩
  · exact ⟨_, rfl, .inr (.inr (.inl ⟨rfl, rfl⟩))⟩
  · exact ⟨_, rfl, .inr (.inr (.inr ⟨rfl, rfl⟩))⟩
theorem ConditionP {v : Value} {s : StM} {o : Int} {z : Z} {w : World} (hs : StR z v s) : Fn1 34 #[v, .int .u8 o] z w fun _ r => r = .tuple #[.string (condM s o).1, .int .i64 (condM s o).2] := Fn1.intro fun hS => en34 (by
  unfold vc34
  obtain ⟨u, rfl, hu⟩ := hs
  obtain ⟨hb, a, cap, rfl, hcap, hel⟩ := hu.form
  refine iV_bx ?_
  intro b2 w2 hb2 hS2
  (repeat (first | (refine iDr ?_; intro _ _) | refine V_run ?_ | refine PV_run ?_ | refine HV_run ?_ | refine iV_ld1 ?_ | refine iV_ldN ?_ | (refine iV_bx ?_; intro _ _ _ _) | (refine iV_al ?_; intro _ _ _ _) | (refine iV_mm ?_; intro _ _ _ _) | (refine iU_st ?_; intro _ _) | refine iHV_1 ?_ | refine iHV_N ?_ | refine iRI_1 ?_ | refine iRI_N ?_ | refine Cond_t ?_ | refine Cond_f ?_ | refine JB ?_ | (refine JC ?_; intro _ _ _ _) | (refine J1 ?_; intro _ _) | (refine J0 ?_; intro _ _) | (refine J2 ?_; intro _ _) | (refine J3 ?_; intro _ _) | (refine J4 ?_; intro _ _) | refine K1 ?_ | refine K0 ?_ | refine K2 ?_ | refine K3 ?_ | refine K4 ?_ | (refine CV_pu ?_; intro _ _ _ _) | refine fV_ldN ?_ | refine fV_ld1 ?_ | refine fHV_ldN ?_ | refine fHV_ld1 ?_ | refine NilW_some ?_ | refine iCW_1 ?_ | refine iCW_N ?_ | refine Pk_b ?_))
  refine CV_fn0 (fun hz => openP (conds := []) ⟨_, rfl, hu.mono hz⟩ SlR.nil) ?_
  rintro z8 B8 w8 v8 hle8 hS8 hop
  by_cases hck : checkB s = true
  · have he : openE s [] = 0 := by simp [openE, hck]
    rw [if_pos he] at hop
    obtain ⟨mb, rfl, hm⟩ := hop
    obtain ⟨pre, f, rfl, h6, hp4, hpre, hfd, hlast, hdl⟩ := lastSplit hck
    obtain ⟨fb, tb, ps, sp, ts, cap, tcap, B2, w2', rfl, hx, hpo⟩ := hm.x h6
    obtain ⟨a2, cap2, rfl, hc2⟩ := hpo.form
    have hlen := hx.fr.len
    simp only [mxB, List.cons_append] at hS8
    simp only [condM, hck, hlast, Bool.true_eq_false, if_false]
    (repeat (first | (refine iDr ?_; intro _ _) | refine V_run ?_ | refine PV_run ?_ | refine HV_run ?_ | refine iV_ld1 ?_ | refine iV_ldN ?_ | (refine iV_bx ?_; intro _ _ _ _) | (refine iV_al ?_; intro _ _ _ _) | (refine iV_mm ?_; intro _ _ _ _) | (refine iU_st ?_; intro _ _) | refine iHV_1 ?_ | refine iHV_N ?_ | refine iRI_1 ?_ | refine iRI_N ?_ | refine Cond_t ?_ | refine Cond_f ?_ | refine JB ?_ | (refine JC ?_; intro _ _ _ _) | (refine J1 ?_; intro _ _) | (refine J0 ?_; intro _ _) | (refine J2 ?_; intro _ _) | (refine J3 ?_; intro _ _) | (refine J4 ?_; intro _ _) | refine K1 ?_ | refine K0 ?_ | refine K2 ?_ | refine K3 ?_ | refine K4 ?_ | (refine CV_pu ?_; intro _ _ _ _) | refine fV_ldN ?_ | refine fV_ld1 ?_ | refine fHV_ldN ?_ | refine fHV_ld1 ?_ | refine NilW_some ?_ | refine iCW_1 ?_ | refine iCW_N ?_ | refine Pk_b ?_))
    refine CV_now (n := pre.length) (o := ps.length) hlen.symm (by simp only [big]; omega) ?_
    intro w9 hS9
    refine iV_al ?_
    intro b10 w10 hb10 hS10
    refine iU_st ?_
    intro w10' hS10'
    refine iV_mm ?_
    intro bm w11' hbm hS11'
    refine iU_mu (by simp) ?_
    intro w11 hS11
    refine iU_mu (by simp) ?_
    intro w12 hS12
    refine iU_mu (by simp) ?_
    intro w13 hS13
    refine iU_mu (by simp) ?_
    intro w14 hS14
    refine iV_lk (zv := .nilFunc) (ZeroV.h (e := 122)) ?_
    simp only [if_true]
    clear hS13 hS12 hS11 hS11' hS10' hS10 hS9 hS8
    by_cases ho : o = 67 ∨ o = 68 ∨ o = 73 ∨ o = 83
    · obtain ⟨fid, hf1, hf2⟩ := tells_is (b := b10) ho
      simp only [hf1, ho, not_true_eq_false, if_false]
      (repeat (first | (refine iDr ?_; intro _ _) | refine V_run ?_ | refine PV_run ?_ | refine HV_run ?_ | refine iV_ld1 ?_ | refine iV_ldN ?_ | (refine iV_bx ?_; intro _ _ _ _) | (refine iV_al ?_; intro _ _ _ _) | (refine iV_mm ?_; intro _ _ _ _) | (refine iU_st ?_; intro _ _) | refine iHV_1 ?_ | refine iHV_N ?_ | refine iRI_1 ?_ | refine iRI_N ?_ | refine Cond_t ?_ | refine Cond_f ?_ | refine JB ?_ | (refine JC ?_; intro _ _ _ _) | (refine J1 ?_; intro _ _) | (refine J0 ?_; intro _ _) | (refine J2 ?_; intro _ _) | (refine J3 ?_; intro _ _) | (refine J4 ?_; intro _ _) | refine K1 ?_ | refine K0 ?_ | refine K2 ?_ | refine K3 ?_ | refine K4 ?_ | (refine CV_pu ?_; intro _ _ _ _) | refine fV_ldN ?_ | refine fV_ld1 ?_ | refine fHV_ldN ?_ | refine fHV_ld1 ?_ | refine NilW_some ?_ | refine iCW_1 ?_ | refine iCW_N ?_ | refine Pk_b ?_))
      refine Cond_d (fun hm0 => ?_) (fun hm0 => ?_)
      · exact ⟨_, _, ‹_›, by rw [if_pos hm0]⟩
      · have hinf : infoB f.info = true := by
          simp only [framedB, Bool.and_eq_true] at hfd; exact hfd.2
        rw [infoB, if_neg hm0] at hinf
        simp only [Bool.and_eq_true, Bool.or_eq_true, decide_eq_true_eq, cond] at hinf
        refine CV_tell (f := f) (ps := ps) (sp := sp) (ts := ts) (tcap := tcap) (v2 := .slice a2 f.pend.length cap2) h6 hinf.1.2 hinf.1.1 hf2 ?_
        intro z15 w15 L15 hz15 hS15 hsub
        exact ⟨_, _, hS15, by rw [if_neg hm0]⟩
    · simp only [tells_no (b := b10) ho, ho, not_false_eq_true, if_true]
      (repeat (first | (refine iDr ?_; intro _ _) | refine V_run ?_ | refine PV_run ?_ | refine HV_run ?_ | refine iV_ld1 ?_ | refine iV_ldN ?_ | (refine iV_bx ?_; intro _ _ _ _) | (refine iV_al ?_; intro _ _ _ _) | (refine iV_mm ?_; intro _ _ _ _) | (refine iU_st ?_; intro _ _) | refine iHV_1 ?_ | refine iHV_N ?_ | refine iRI_1 ?_ | refine iRI_N ?_ | refine Cond_t ?_ | refine Cond_f ?_ | refine JB ?_ | (refine JC ?_; intro _ _ _ _) | (refine J1 ?_; intro _ _) | (refine J0 ?_; intro _ _) | (refine J2 ?_; intro _ _) | (refine J3 ?_; intro _ _) | (refine J4 ?_; intro _ _) | refine K1 ?_ | refine K0 ?_ | refine K2 ?_ | refine K3 ?_ | refine K4 ?_ | (refine CV_pu ?_; intro _ _ _ _) | refine fV_ldN ?_ | refine fV_ld1 ?_ | refine fHV_ldN ?_ | refine fHV_ld1 ?_ | refine NilW_some ?_ | refine iCW_1 ?_ | refine iCW_N ?_ | refine Pk_b ?_))
      exact ⟨_, _, ‹_›, by first | trivial | rfl⟩
  · have he : openE s [] = 2 := by simp [openE, hck]
    rw [if_neg (by rw [he]; decide)] at hop
    obtain ⟨rfl, rfl⟩ := hop
    simp only [List.nil_append] at hS8
    rw [he]
    (repeat (first | (refine iDr ?_; intro _ _) | refine V_run ?_ | refine PV_run ?_ | refine HV_run ?_ | refine iV_ld1 ?_ | refine iV_ldN ?_ | (refine iV_bx ?_; intro _ _ _ _) | (refine iV_al ?_; intro _ _ _ _) | (refine iV_mm ?_; intro _ _ _ _) | (refine iU_st ?_; intro _ _) | refine iHV_1 ?_ | refine iHV_N ?_ | refine iRI_1 ?_ | refine iRI_N ?_ | refine Cond_t ?_ | refine Cond_f ?_ | refine JB ?_ | (refine JC ?_; intro _ _ _ _) | (refine J1 ?_; intro _ _) | (refine J0 ?_; intro _ _) | (refine J2 ?_; intro _ _) | (refine J3 ?_; intro _ _) | (refine J4 ?_; intro _ _) | refine K1 ?_ | refine K0 ?_ | refine K2 ?_ | refine K3 ?_ | refine K4 ?_ | (refine CV_pu ?_; intro _ _ _ _) | refine fV_ldN ?_ | refine fV_ld1 ?_ | refine fHV_ldN ?_ | refine fHV_ld1 ?_ | refine NilW_some ?_ | refine iCW_1 ?_ | refine iCW_N ?_ | refine Pk_b ?_))
    exact ⟨_, _, ‹_›, by rw [condM, if_pos (by simpa using hck)]⟩)
end Go.Proofs.Ytjnckainogpenaa
