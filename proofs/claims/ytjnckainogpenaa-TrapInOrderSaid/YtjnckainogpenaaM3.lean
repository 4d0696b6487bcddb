/- Texts joined: T5, T6, T7, T8, Q15, T9, T10, T11, T12, T13. -/
import Derived.Test.YtjnckainogpenaaM2
section
/- The data of package trap, and how they lie in memory. -/
set_option linter.unusedVariables false
set_option maxRecDepth 20000
namespace Go.Proofs.Ytjnckainogpenaa
open Go Q Go.RowKit

structure TrM where
  mode : Int
  label : ByteArray
  delayed : Bool
structure RaM where
  cond : Int
  desc : ByteArray
structure InM where
  cond : Int
  mode : Int
  desc : ByteArray
structure FrM where
  traps : List TrM
  pend : List RaM
  info : InM
structure AcM where
  kind : Int
  label : ByteArray
  cond : Int
  desc : ByteArray
structure OpM where
  kind : Int
  cond : Int
  mode : Int
  text : ByteArray
abbrev StM := List FrM
abbrev TrM.cells (t : TrM) : List Value := [.int .i64 t.mode, .string t.label, .bool t.delayed]
abbrev RaM.cells (t : RaM) : List Value := [.int .i64 t.cond, .string t.desc]
abbrev InM.cells (t : InM) : List Value := [.int .i64 t.cond, .int .i64 t.mode, .string t.desc]
abbrev AcM.cells (t : AcM) : List Value := [.int .i64 t.kind, .string t.label, .int .i64 t.cond, .string t.desc]
abbrev OpM.cells (t : OpM) : List Value := [.int .i64 t.kind, .int .i64 t.cond, .int .i64 t.mode, .string t.text]
abbrev TrM.v (t : TrM) : Value := .agg t.cells.toArray
abbrev RaM.v (t : RaM) : Value := .agg t.cells.toArray
abbrev InM.v (t : InM) : Value := .agg t.cells.toArray
abbrev AcM.v (t : AcM) : Value := .agg t.cells.toArray
abbrev OpM.v (t : OpM) : Value := .agg t.cells.toArray
def El.trap : El TrM where
  size := 3
  rel := fun _ cs x => cs = x.cells ∧ x.label.size ≤ big
  mono := fun h _ => h
  len := fun h => by rw [h.1]; rfl
  pos := by decide
def El.raised : El RaM where
  size := 2
  rel := fun _ cs x => cs = x.cells ∧ x.desc.size ≤ big
  mono := fun h _ => h
  len := fun h => by rw [h.1]; rfl
  pos := by decide
def El.act : El AcM where
  size := 4
  rel := fun _ cs x => cs = x.cells
  mono := fun h _ => h
  len := fun h => by rw [h]; rfl
  pos := by decide
def El.op : El OpM where
  size := 4
  rel := fun _ cs x => cs = x.cells ∧ x.text.size ≤ big
  mono := fun h _ => h
  len := fun h => by rw [h.1]; rfl
  pos := by decide
def El.errno : El Int := El.int
def El.frame : El FrM where
  size := 5
  rel := fun z cs f => ∃ v1 v2, cs = v1 :: v2 :: f.info.cells ∧ SlR El.trap z v1 f.traps ∧ SlR El.raised z v2 f.pend ∧ f.info.desc.size ≤ big
  mono := fun ⟨v1, v2, h1, h2, h3, h4⟩ hz => ⟨v1, v2, h1, h2.mono hz, h3.mono hz, h4⟩
  len := fun ⟨v1, v2, h1, _⟩ => by rw [h1]; rfl
  pos := by decide
/-- A state as a value. -/
def StR (z : Z) (v : Value) (s : StM) : Prop := ∃ u, v = .agg #[u] ∧ SlR El.frame z u s
theorem StR.mono {z z' : Z} {v : Value} {s : StM} (h : StR z v s) (hz : Le z z') : StR z' v s := let ⟨u, h1, h2⟩ := h; ⟨u, h1, h2.mono hz⟩
/-- A frame as a value. -/
def FrR (z : Z) (v : Value) (f : FrM) : Prop := ∃ cs, v = .agg cs.toArray ∧ El.frame.rel z cs f
theorem FrR.mono {z z' : Z} {v : Value} {s : FrM} (h : FrR z v s) (hz : Le z z') : FrR z' v s := let ⟨u, h1, h2⟩ := h; ⟨u, h1, El.frame.mono h2 hz⟩

def TrM.eqb (a b : TrM) : Bool := decide (a.mode = b.mode) && (decide (a.label = b.label) && ((a.delayed == b.delayed) && true))
def RaM.eqb (a b : RaM) : Bool := decide (a.cond = b.cond) && (decide (a.desc = b.desc) && true)
def InM.eqb (a b : InM) : Bool := decide (a.cond = b.cond) && (decide (a.mode = b.mode) && (decide (a.desc = b.desc) && true))
def AcM.eqb (a b : AcM) : Bool := decide (a.kind = b.kind) && (decide (a.label = b.label) && (decide (a.cond = b.cond) && (decide (a.desc = b.desc) && true)))
theorem TrM.eqb_iff {a b : TrM} : a.eqb b = true ↔ a = b := by
  obtain ⟨x1, x2, x3⟩ := a; obtain ⟨y1, y2, y3⟩ := b
  simp [TrM.eqb]
theorem RaM.eqb_iff {a b : RaM} : a.eqb b = true ↔ a = b := by
  obtain ⟨x1, x2⟩ := a; obtain ⟨y1, y2⟩ := b
  simp [RaM.eqb]
theorem InM.eqb_iff {a b : InM} : a.eqb b = true ↔ a = b := by
  obtain ⟨x1, x2, x3⟩ := a; obtain ⟨y1, y2, y3⟩ := b
  simp [InM.eqb]
theorem AcM.eqb_iff {a b : AcM} : a.eqb b = true ↔ a = b := by
  obtain ⟨x1, x2, x3, x4⟩ := a; obtain ⟨y1, y2, y3, y4⟩ := b
  simp [AcM.eqb]
def noTrap : TrM := ⟨0, ⟨#[]⟩, false⟩
def noInfo : InM := ⟨0, 0, ⟨#[]⟩⟩
def noAct : AcM := ⟨0, ⟨#[]⟩, 0, ⟨#[]⟩⟩

/-! ### The checks -/
def trapOk (i : Int) (t : TrM) : Bool := if t.mode = 0 then t.eqb noTrap else moded i t.mode && labB t.label && (!t.delayed || decide (t.mode = 2))
instance {i : Int} {t : TrM} : Pu 90 #[.int .i64 i, t.v] (.bool (trapOk i t)) := ⟨fun z w => Fn1.intro fun hS => en90 (by
  unfold vc90
  dsimp only [TrM.v, TrM.cells]
  (repeat (first | (refine iDr ?_; intro _ _) | refine V_run ?_ | refine PV_run ?_ | refine HV_run ?_ | refine iV_ld1 ?_ | refine iV_ldN ?_ | (refine iV_bx ?_; intro _ _ _ _) | (refine iV_al ?_; intro _ _ _ _) | (refine iV_mm ?_; intro _ _ _ _) | (refine iU_st ?_; intro _ _) | refine iHV_1 ?_ | refine iHV_N ?_ | refine iRI_1 ?_ | refine iRI_N ?_ | refine Cond_t ?_ | refine Cond_f ?_ | refine JB ?_ | (refine JC ?_; intro _ _ _ _) | (refine J1 ?_; intro _ _) | (refine J0 ?_; intro _ _) | (refine J2 ?_; intro _ _) | (refine J3 ?_; intro _ _) | (refine J4 ?_; intro _ _) | refine K1 ?_ | refine K0 ?_ | refine K2 ?_ | refine K3 ?_ | refine K4 ?_ | (refine CV_pu ?_; intro _ _ _ _) | refine fV_ldN ?_ | refine fV_ld1 ?_ | refine fHV_ldN ?_ | refine fHV_ld1 ?_ | refine NilW_some ?_ | refine iCW_1 ?_ | refine iCW_N ?_ | refine Pk_b ?_))
  refine Cond_d (fun h => ?_) (fun h => ?_)
  · (repeat (first | (refine iDr ?_; intro _ _) | refine V_run ?_ | refine PV_run ?_ | refine HV_run ?_ | refine iV_ld1 ?_ | refine iV_ldN ?_ | (refine iV_bx ?_; intro _ _ _ _) | (refine iV_al ?_; intro _ _ _ _) | (refine iV_mm ?_; intro _ _ _ _) | (refine iU_st ?_; intro _ _) | refine iHV_1 ?_ | refine iHV_N ?_ | refine iRI_1 ?_ | refine iRI_N ?_ | refine Cond_t ?_ | refine Cond_f ?_ | refine JB ?_ | (refine JC ?_; intro _ _ _ _) | (refine J1 ?_; intro _ _) | (refine J0 ?_; intro _ _) | (refine J2 ?_; intro _ _) | (refine J3 ?_; intro _ _) | (refine J4 ?_; intro _ _) | refine K1 ?_ | refine K0 ?_ | refine K2 ?_ | refine K3 ?_ | refine K4 ?_ | (refine CV_pu ?_; intro _ _ _ _) | refine fV_ldN ?_ | refine fV_ld1 ?_ | refine fHV_ldN ?_ | refine fHV_ld1 ?_ | refine NilW_some ?_ | refine iCW_1 ?_ | refine iCW_N ?_ | refine Pk_b ?_))
    exact ret_eq (by rw [trapOk, if_pos h]; rfl)
  · (repeat (first | (refine iDr ?_; intro _ _) | refine V_run ?_ | refine PV_run ?_ | refine HV_run ?_ | refine iV_ld1 ?_ | refine iV_ldN ?_ | (refine iV_bx ?_; intro _ _ _ _) | (refine iV_al ?_; intro _ _ _ _) | (refine iV_mm ?_; intro _ _ _ _) | (refine iU_st ?_; intro _ _) | refine iHV_1 ?_ | refine iHV_N ?_ | refine iRI_1 ?_ | refine iRI_N ?_ | refine Cond_t ?_ | refine Cond_f ?_ | refine JB ?_ | (refine JC ?_; intro _ _ _ _) | (refine J1 ?_; intro _ _) | (refine J0 ?_; intro _ _) | (refine J2 ?_; intro _ _) | (refine J3 ?_; intro _ _) | (refine J4 ?_; intro _ _) | refine K1 ?_ | refine K0 ?_ | refine K2 ?_ | refine K3 ?_ | refine K4 ?_ | (refine CV_pu ?_; intro _ _ _ _) | refine fV_ldN ?_ | refine fV_ld1 ?_ | refine fHV_ldN ?_ | refine fHV_ld1 ?_ | refine NilW_some ?_ | refine iCW_1 ?_ | refine iCW_N ?_ | refine Pk_b ?_))
    exact ⟨_, _, ‹_›, by
      rw [trapOk, if_neg h]
      cases moded i t.mode <;> cases labB t.label <;> cases t.delayed <;> simp⟩)⟩
theorem At.head {h : Nat → Option Obj} {b off : Nat} {v : Value} {vs : List Value} (ha : At h b off (v :: vs)) : At h b off [v] := let ⟨c, ty, fr, h1, h2⟩ := ha; ⟨c, ty, fr, h1, fun j u hu => by cases j with | zero => exact h2 0 u (by simpa using hu) | succ j => simp at hu⟩
theorem Res.tl {w0 w : World} {z0 z : Z} {B0 L : Bl} {p : Nat × Obj} (h : Res w0 z0 B0 w z (p :: L)) : Res w0 z0 B0 w z L := h.sublist (List.sublist_cons_self _ _)
def trapsFrom (i : Int) : List TrM → Bool
  | [] => true
  | t :: l => trapOk i t && trapsFrom (i + 1) l
def raOk (had : List RaM) (r : RaM) : Bool := cond r.cond && !immediate r.cond && !(had.any fun x => x.cond == r.cond) && descB r.desc
def pendFrom (had : List RaM) : List RaM → Bool
  | [] => true
  | r :: l => raOk had r && pendFrom (had ++ [r]) l
def infoB (i : InM) : Bool := if i.mode = 0 then i.eqb noInfo else (decide (i.mode = 1) || decide (i.mode = 2)) && cond i.cond && descB i.desc
def framedB (f : FrM) : Bool := decide (f.traps.length = 6) && trapsFrom 0 f.traps && pendFrom [] f.pend && infoB f.info
abbrev hadO (l : List RaM) : Obj := mO .i64 (l.map fun r => (r.cond, .bool true))
theorem lkF_had (l : List RaM) (n : Int) : (lkF (l.map fun r => (r.cond, Value.bool true)) n (.bool false)).1 = .bool (l.any fun x => x.cond == n) := by
  induction l with
  | nil => rfl
  | cons r l ih =>
    unfold lkF at ih ⊢
    simp only [List.map_cons, List.find?_cons, List.any_cons]
    cases h : r.cond == n with
    | true => simp
    | false => simp only [Bool.false_or]; exact ih
instance {l : List RaM} {n : Int} : LkV (l.map fun r => (r.cond, Value.bool true)) n (.bool false) (.bool (l.any fun x => x.cond == n)) := ⟨lkF_had l n⟩
theorem framed {v : Value} {f : FrM} {z : Z} {w : World} (hf : FrR z v f) : Fn1 58 #[v] z w fun _ r => r = .bool (framedB f) := Fn1.intro fun hS => en58 (by
  unfold vc58
  obtain ⟨cs, rfl, v1, v2, rfl, hv1, hv2, hd⟩ := hf
  obtain ⟨hb1, a1, cap1, rfl, hc1, hel1⟩ := hv1.form
  obtain ⟨hb2, a2, cap2, rfl, hc2, hel2⟩ := hv2.form
  dsimp only [InM.cells]
  refine iV_bx ?_
  intro b0 w1 hb0 hS1
  (repeat (first | (refine iDr ?_; intro _ _) | refine V_run ?_ | refine PV_run ?_ | refine HV_run ?_ | refine iV_ld1 ?_ | refine iV_ldN ?_ | (refine iV_bx ?_; intro _ _ _ _) | (refine iV_al ?_; intro _ _ _ _) | (refine iV_mm ?_; intro _ _ _ _) | (refine iU_st ?_; intro _ _) | refine iHV_1 ?_ | refine iHV_N ?_ | refine iRI_1 ?_ | refine iRI_N ?_ | refine Cond_t ?_ | refine Cond_f ?_ | refine JB ?_ | (refine JC ?_; intro _ _ _ _) | (refine J1 ?_; intro _ _) | (refine J0 ?_; intro _ _) | (refine J2 ?_; intro _ _) | (refine J3 ?_; intro _ _) | (refine J4 ?_; intro _ _) | refine K1 ?_ | refine K0 ?_ | refine K2 ?_ | refine K3 ?_ | refine K4 ?_ | (refine CV_pu ?_; intro _ _ _ _) | refine fV_ldN ?_ | refine fV_ld1 ?_ | refine fHV_ldN ?_ | refine fHV_ld1 ?_ | refine NilW_some ?_ | refine iCW_1 ?_ | refine iCW_N ?_ | refine Pk_b ?_))
  refine Cond_nd (fun h6 => ?_) (fun h6 => ?_)
  · exact ⟨_, _, hS1, by simp [framedB]; omega⟩
  (repeat (first | (refine iDr ?_; intro _ _) | refine V_run ?_ | refine PV_run ?_ | refine HV_run ?_ | refine iV_ld1 ?_ | refine iV_ldN ?_ | (refine iV_bx ?_; intro _ _ _ _) | (refine iV_al ?_; intro _ _ _ _) | (refine iV_mm ?_; intro _ _ _ _) | (refine iU_st ?_; intro _ _) | refine iHV_1 ?_ | refine iHV_N ?_ | refine iRI_1 ?_ | refine iRI_N ?_ | refine Cond_t ?_ | refine Cond_f ?_ | refine JB ?_ | (refine JC ?_; intro _ _ _ _) | (refine J1 ?_; intro _ _) | (refine J0 ?_; intro _ _) | (refine J2 ?_; intro _ _) | (refine J3 ?_; intro _ _) | (refine J4 ?_; intro _ _) | refine K1 ?_ | refine K0 ?_ | refine K2 ?_ | refine K3 ?_ | refine K4 ?_ | (refine CV_pu ?_; intro _ _ _ _) | refine fV_ldN ?_ | refine fV_ld1 ?_ | refine fHV_ldN ?_ | refine fHV_ld1 ?_ | refine NilW_some ?_ | refine iCW_1 ?_ | refine iCW_N ?_ | refine Pk_b ?_))
  refine LoopG1 (fun (i : Nat) x w' => x = .int .i64 i ∧ i ≤ f.traps.length ∧ trapsFrom 0 f.traps = trapsFrom i (f.traps.drop i) ∧ ∃ z', Le z z' ∧ Res w z [] w' z' [(b0, .cells [.slice a1 f.traps.length cap1, .slice a2 f.pend.length cap2, .int .i64 f.info.cond, .int .i64 f.info.mode, .string f.info.desc].toArray 63 (0, 0))]) (fun i => f.traps.length - i) 0 ⟨rfl, by omega, rfl, z, Le.refl _, hS1⟩ ?_
  rintro I M i x w2 m ⟨rfl, h1, h2, z2, hz2, hS2⟩ back
  (repeat (first | (refine iDr ?_; intro _ _) | refine V_run ?_ | refine PV_run ?_ | refine HV_run ?_ | refine iV_ld1 ?_ | refine iV_ldN ?_ | (refine iV_bx ?_; intro _ _ _ _) | (refine iV_al ?_; intro _ _ _ _) | (refine iV_mm ?_; intro _ _ _ _) | (refine iU_st ?_; intro _ _) | refine iHV_1 ?_ | refine iHV_N ?_ | refine iRI_1 ?_ | refine iRI_N ?_ | refine Cond_t ?_ | refine Cond_f ?_ | refine JB ?_ | (refine JC ?_; intro _ _ _ _) | (refine J1 ?_; intro _ _) | (refine J0 ?_; intro _ _) | (refine J2 ?_; intro _ _) | (refine J3 ?_; intro _ _) | (refine J4 ?_; intro _ _) | refine K1 ?_ | refine K0 ?_ | refine K2 ?_ | refine K3 ?_ | refine K4 ?_ | (refine CV_pu ?_; intro _ _ _ _) | refine fV_ldN ?_ | refine fV_ld1 ?_ | refine fHV_ldN ?_ | refine fHV_ld1 ?_ | refine NilW_some ?_ | refine iCW_1 ?_ | refine iCW_N ?_ | refine Pk_b ?_))
  refine Cond_d (fun h => ?_) (fun h => ?_)
  · have hlt : i < f.traps.length := by omega
    obtain ⟨b, off, cs, rfl, hr, hat⟩ := hel1 i _ (List.getElem?_eq_getElem hlt)
    haveI : InR (i : Int) f.traps.length := ⟨by omega, by omega⟩
    haveI : InI ((i : Int) + 1) := ⟨by simp only [big] at hb1; omega⟩
    (repeat (first | (refine iDr ?_; intro _ _) | refine V_run ?_ | refine PV_run ?_ | refine HV_run ?_ | refine iV_ld1 ?_ | refine iV_ldN ?_ | (refine iV_bx ?_; intro _ _ _ _) | (refine iV_al ?_; intro _ _ _ _) | (refine iV_mm ?_; intro _ _ _ _) | (refine iU_st ?_; intro _ _) | refine iHV_1 ?_ | refine iHV_N ?_ | refine iRI_1 ?_ | refine iRI_N ?_ | refine Cond_t ?_ | refine Cond_f ?_ | refine JB ?_ | (refine JC ?_; intro _ _ _ _) | (refine J1 ?_; intro _ _) | (refine J0 ?_; intro _ _) | (refine J2 ?_; intro _ _) | (refine J3 ?_; intro _ _) | (refine J4 ?_; intro _ _) | refine K1 ?_ | refine K0 ?_ | refine K2 ?_ | refine K3 ?_ | refine K4 ?_ | (refine CV_pu ?_; intro _ _ _ _) | refine fV_ldN ?_ | refine fV_ld1 ?_ | refine fHV_ldN ?_ | refine fHV_ld1 ?_ | refine NilW_some ?_ | refine iCW_1 ?_ | refine iCW_N ?_ | refine Pk_b ?_))
    simp only [Int.toNat_natCast]
    obtain ⟨rfl, hr2⟩ := hr
    refine zV_ldN (hat.mono hz2) rfl ?_
    dsimp only [TrM.cells]
    (repeat (first | (refine iDr ?_; intro _ _) | refine V_run ?_ | refine PV_run ?_ | refine HV_run ?_ | refine iV_ld1 ?_ | refine iV_ldN ?_ | (refine iV_bx ?_; intro _ _ _ _) | (refine iV_al ?_; intro _ _ _ _) | (refine iV_mm ?_; intro _ _ _ _) | (refine iU_st ?_; intro _ _) | refine iHV_1 ?_ | refine iHV_N ?_ | refine iRI_1 ?_ | refine iRI_N ?_ | refine Cond_t ?_ | refine Cond_f ?_ | refine JB ?_ | (refine JC ?_; intro _ _ _ _) | (refine J1 ?_; intro _ _) | (refine J0 ?_; intro _ _) | (refine J2 ?_; intro _ _) | (refine J3 ?_; intro _ _) | (refine J4 ?_; intro _ _) | refine K1 ?_ | refine K0 ?_ | refine K2 ?_ | refine K3 ?_ | refine K4 ?_ | (refine CV_pu ?_; intro _ _ _ _) | refine fV_ldN ?_ | refine fV_ld1 ?_ | refine fHV_ldN ?_ | refine fHV_ld1 ?_ | refine NilW_some ?_ | refine iCW_1 ?_ | refine iCW_N ?_ | refine Pk_b ?_))
    rw [List.drop_eq_getElem_cons hlt] at h2
    refine Cond_n (fun h' => ?_) (fun h' => ?_)
    · refine ⟨_, _, ‹_›, ?_⟩
      rw [framedB, h2]
      simp only [trapsFrom]
      rw [show trapOk (i : Int) (f.traps[i]) = false from h']
      simp
    · (repeat (first | (refine iDr ?_; intro _ _) | refine V_run ?_ | refine PV_run ?_ | refine HV_run ?_ | refine iV_ld1 ?_ | refine iV_ldN ?_ | (refine iV_bx ?_; intro _ _ _ _) | (refine iV_al ?_; intro _ _ _ _) | (refine iV_mm ?_; intro _ _ _ _) | (refine iU_st ?_; intro _ _) | refine iHV_1 ?_ | refine iHV_N ?_ | refine iRI_1 ?_ | refine iRI_N ?_ | refine Cond_t ?_ | refine Cond_f ?_ | refine JB ?_ | (refine JC ?_; intro _ _ _ _) | (refine J1 ?_; intro _ _) | (refine J0 ?_; intro _ _) | (refine J2 ?_; intro _ _) | (refine J3 ?_; intro _ _) | (refine J4 ?_; intro _ _) | refine K1 ?_ | refine K0 ?_ | refine K2 ?_ | refine K3 ?_ | refine K4 ?_ | (refine CV_pu ?_; intro _ _ _ _) | refine fV_ldN ?_ | refine fV_ld1 ?_ | refine fHV_ldN ?_ | refine fHV_ld1 ?_ | refine NilW_some ?_ | refine iCW_1 ?_ | refine iCW_N ?_ | refine Pk_b ?_))
      refine back (i + 1) _ _ ⟨by simp, by omega, ?_, _, hz2.trans ‹_›, Res.tl ‹_›⟩ (by omega)
      rw [h2]
      simp only [trapsFrom]
      rw [show trapOk (i : Int) (f.traps[i]) = true from h']
      simp
  · (repeat (first | (refine iDr ?_; intro _ _) | refine V_run ?_ | refine PV_run ?_ | refine HV_run ?_ | refine iV_ld1 ?_ | refine iV_ldN ?_ | (refine iV_bx ?_; intro _ _ _ _) | (refine iV_al ?_; intro _ _ _ _) | (refine iV_mm ?_; intro _ _ _ _) | (refine iU_st ?_; intro _ _) | refine iHV_1 ?_ | refine iHV_N ?_ | refine iRI_1 ?_ | refine iRI_N ?_ | refine Cond_t ?_ | refine Cond_f ?_ | refine JB ?_ | (refine JC ?_; intro _ _ _ _) | (refine J1 ?_; intro _ _) | (refine J0 ?_; intro _ _) | (refine J2 ?_; intro _ _) | (refine J3 ?_; intro _ _) | (refine J4 ?_; intro _ _) | refine K1 ?_ | refine K0 ?_ | refine K2 ?_ | refine K3 ?_ | refine K4 ?_ | (refine CV_pu ?_; intro _ _ _ _) | refine fV_ldN ?_ | refine fV_ld1 ?_ | refine fHV_ldN ?_ | refine fHV_ld1 ?_ | refine NilW_some ?_ | refine iCW_1 ?_ | refine iCW_N ?_ | refine Pk_b ?_))
    have hdone : f.traps.drop i = [] := List.drop_of_length_le (by omega)
    rw [hdone] at h2
    have h6' : f.traps.length = 6 := by omega
    rename_i b3 w3 hb3 hS3
    refine LoopG1 (fun (i : Nat) x w' => x = .int .i64 i ∧ i ≤ f.pend.length ∧ pendFrom [] f.pend = pendFrom (f.pend.take i) (f.pend.drop i) ∧ ∃ z', Le z z' ∧ Res w z [] w' z' [(b3, hadO (f.pend.take i)), (b0, .cells [.slice a1 f.traps.length cap1, .slice a2 f.pend.length cap2, .int .i64 f.info.cond, .int .i64 f.info.mode, .string f.info.desc].toArray 63 (0, 0))]) (fun i => f.pend.length - i) 0 ⟨rfl, by omega, rfl, z2, hz2, hS3⟩ ?_
    rintro I M i x w4 m ⟨rfl, h1', h2', z4, hz4, hS4⟩ back
    (repeat (first | (refine iDr ?_; intro _ _) | refine V_run ?_ | refine PV_run ?_ | refine HV_run ?_ | refine iV_ld1 ?_ | refine iV_ldN ?_ | (refine iV_bx ?_; intro _ _ _ _) | (refine iV_al ?_; intro _ _ _ _) | (refine iV_mm ?_; intro _ _ _ _) | (refine iU_st ?_; intro _ _) | refine iHV_1 ?_ | refine iHV_N ?_ | refine iRI_1 ?_ | refine iRI_N ?_ | refine Cond_t ?_ | refine Cond_f ?_ | refine JB ?_ | (refine JC ?_; intro _ _ _ _) | (refine J1 ?_; intro _ _) | (refine J0 ?_; intro _ _) | (refine J2 ?_; intro _ _) | (refine J3 ?_; intro _ _) | (refine J4 ?_; intro _ _) | refine K1 ?_ | refine K0 ?_ | refine K2 ?_ | refine K3 ?_ | refine K4 ?_ | (refine CV_pu ?_; intro _ _ _ _) | refine fV_ldN ?_ | refine fV_ld1 ?_ | refine fHV_ldN ?_ | refine fHV_ld1 ?_ | refine NilW_some ?_ | refine iCW_1 ?_ | refine iCW_N ?_ | refine Pk_b ?_))
    refine Cond_d (fun h => ?_) (fun h => ?_)
    · have hlt : i < f.pend.length := by omega
      obtain ⟨b, off, cs, rfl, hr, hat⟩ := hel2 i _ (List.getElem?_eq_getElem hlt)
      haveI : InR (i : Int) f.pend.length := ⟨by omega, by omega⟩
      haveI : InI ((i : Int) + 1) := ⟨by simp only [big] at hb2; omega⟩
      (repeat (first | (refine iDr ?_; intro _ _) | refine V_run ?_ | refine PV_run ?_ | refine HV_run ?_ | refine iV_ld1 ?_ | refine iV_ldN ?_ | (refine iV_bx ?_; intro _ _ _ _) | (refine iV_al ?_; intro _ _ _ _) | (refine iV_mm ?_; intro _ _ _ _) | (refine iU_st ?_; intro _ _) | refine iHV_1 ?_ | refine iHV_N ?_ | refine iRI_1 ?_ | refine iRI_N ?_ | refine Cond_t ?_ | refine Cond_f ?_ | refine JB ?_ | (refine JC ?_; intro _ _ _ _) | (refine J1 ?_; intro _ _) | (refine J0 ?_; intro _ _) | (refine J2 ?_; intro _ _) | (refine J3 ?_; intro _ _) | (refine J4 ?_; intro _ _) | refine K1 ?_ | refine K0 ?_ | refine K2 ?_ | refine K3 ?_ | refine K4 ?_ | (refine CV_pu ?_; intro _ _ _ _) | refine fV_ldN ?_ | refine fV_ld1 ?_ | refine fHV_ldN ?_ | refine fHV_ld1 ?_ | refine NilW_some ?_ | refine iCW_1 ?_ | refine iCW_N ?_ | refine Pk_b ?_))
      simp only [Int.toNat_natCast]
      obtain ⟨rfl, hr2⟩ := hr
      refine zV_ldN (hat.mono hz4) rfl ?_
      dsimp only [RaM.cells]
      (repeat (first | (refine iDr ?_; intro _ _) | refine V_run ?_ | refine PV_run ?_ | refine HV_run ?_ | refine iV_ld1 ?_ | refine iV_ldN ?_ | (refine iV_bx ?_; intro _ _ _ _) | (refine iV_al ?_; intro _ _ _ _) | (refine iV_mm ?_; intro _ _ _ _) | (refine iU_st ?_; intro _ _) | refine iHV_1 ?_ | refine iHV_N ?_ | refine iRI_1 ?_ | refine iRI_N ?_ | refine Cond_t ?_ | refine Cond_f ?_ | refine JB ?_ | (refine JC ?_; intro _ _ _ _) | (refine J1 ?_; intro _ _) | (refine J0 ?_; intro _ _) | (refine J2 ?_; intro _ _) | (refine J3 ?_; intro _ _) | (refine J4 ?_; intro _ _) | refine K1 ?_ | refine K0 ?_ | refine K2 ?_ | refine K3 ?_ | refine K4 ?_ | (refine CV_pu ?_; intro _ _ _ _) | refine fV_ldN ?_ | refine fV_ld1 ?_ | refine fHV_ldN ?_ | refine fHV_ld1 ?_ | refine NilW_some ?_ | refine iCW_1 ?_ | refine iCW_N ?_ | refine Pk_b ?_))
      rw [List.drop_eq_getElem_cons hlt] at h2'
      simp only [pendFrom] at h2'
      refine Cond_b (fun h' => ?_) (fun h' => ?_)
      · refine ⟨_, _, ‹_›, ?_⟩
        have : raOk (f.pend.take i) f.pend[i] = false := by
          simp only [raOk]
          revert h'
          cases cond f.pend[i].cond <;> cases immediate f.pend[i].cond <;> cases ((f.pend.take i).any fun x => x.cond == f.pend[i].cond) <;> cases descB f.pend[i].desc <;> simp
        simp [framedB, h2', this]
      · have : raOk (f.pend.take i) f.pend[i] = true ∧ ((f.pend.take i).any fun x => x.cond == f.pend[i].cond) = false := by
          simp only [raOk]
          revert h'
          cases cond f.pend[i].cond <;> cases immediate f.pend[i].cond <;> cases ((f.pend.take i).any fun x => x.cond == f.pend[i].cond) <;> cases descB f.pend[i].desc <;> simp
        (repeat (first | (refine iDr ?_; intro _ _) | refine V_run ?_ | refine PV_run ?_ | refine HV_run ?_ | refine iV_ld1 ?_ | refine iV_ldN ?_ | (refine iV_bx ?_; intro _ _ _ _) | (refine iV_al ?_; intro _ _ _ _) | (refine iV_mm ?_; intro _ _ _ _) | (refine iU_st ?_; intro _ _) | refine iHV_1 ?_ | refine iHV_N ?_ | refine iRI_1 ?_ | refine iRI_N ?_ | refine Cond_t ?_ | refine Cond_f ?_ | refine JB ?_ | (refine JC ?_; intro _ _ _ _) | (refine J1 ?_; intro _ _) | (refine J0 ?_; intro _ _) | (refine J2 ?_; intro _ _) | (refine J3 ?_; intro _ _) | (refine J4 ?_; intro _ _) | refine K1 ?_ | refine K0 ?_ | refine K2 ?_ | refine K3 ?_ | refine K4 ?_ | (refine CV_pu ?_; intro _ _ _ _) | refine fV_ldN ?_ | refine fV_ld1 ?_ | refine fHV_ldN ?_ | refine fHV_ld1 ?_ | refine NilW_some ?_ | refine iCW_1 ?_ | refine iCW_N ?_ | refine Pk_b ?_))
        refine iU_mu (fun p hp => ?_) ?_
        · obtain ⟨r, hr1, rfl⟩ := List.mem_map.1 hp
          have := List.any_eq_false.1 this.2 r hr1
          simpa using this
        intro w9 hS9
        (repeat (first | (refine iDr ?_; intro _ _) | refine V_run ?_ | refine PV_run ?_ | refine HV_run ?_ | refine iV_ld1 ?_ | refine iV_ldN ?_ | (refine iV_bx ?_; intro _ _ _ _) | (refine iV_al ?_; intro _ _ _ _) | (refine iV_mm ?_; intro _ _ _ _) | (refine iU_st ?_; intro _ _) | refine iHV_1 ?_ | refine iHV_N ?_ | refine iRI_1 ?_ | refine iRI_N ?_ | refine Cond_t ?_ | refine Cond_f ?_ | refine JB ?_ | (refine JC ?_; intro _ _ _ _) | (refine J1 ?_; intro _ _) | (refine J0 ?_; intro _ _) | (refine J2 ?_; intro _ _) | (refine J3 ?_; intro _ _) | (refine J4 ?_; intro _ _) | refine K1 ?_ | refine K0 ?_ | refine K2 ?_ | refine K3 ?_ | refine K4 ?_ | (refine CV_pu ?_; intro _ _ _ _) | refine fV_ldN ?_ | refine fV_ld1 ?_ | refine fHV_ldN ?_ | refine fHV_ld1 ?_ | refine NilW_some ?_ | refine iCW_1 ?_ | refine iCW_N ?_ | refine Pk_b ?_))
        refine back (i + 1) _ _ ⟨by simp, by omega, ?_, _, hS9.zle, ?_⟩ (by omega)
        rotate_left
        · have e : f.pend.take (i + 1) = f.pend.take i ++ [f.pend[i]] := (List.take_append_getElem hlt).symm
          rw [e, hadO, List.map_append]
          exact Res.tl hS9
        · rw [h2', this.1, List.take_append_getElem hlt]; rfl
    · have hpd : f.pend.drop i = [] := List.drop_of_length_le (by omega)
      rw [hpd] at h2'
      (repeat (first | (refine iDr ?_; intro _ _) | refine V_run ?_ | refine PV_run ?_ | refine HV_run ?_ | refine iV_ld1 ?_ | refine iV_ldN ?_ | (refine iV_bx ?_; intro _ _ _ _) | (refine iV_al ?_; intro _ _ _ _) | (refine iV_mm ?_; intro _ _ _ _) | (refine iU_st ?_; intro _ _) | refine iHV_1 ?_ | refine iHV_N ?_ | refine iRI_1 ?_ | refine iRI_N ?_ | refine Cond_t ?_ | refine Cond_f ?_ | refine JB ?_ | (refine JC ?_; intro _ _ _ _) | (refine J1 ?_; intro _ _) | (refine J0 ?_; intro _ _) | (refine J2 ?_; intro _ _) | (refine J3 ?_; intro _ _) | (refine J4 ?_; intro _ _) | refine K1 ?_ | refine K0 ?_ | refine K2 ?_ | refine K3 ?_ | refine K4 ?_ | (refine CV_pu ?_; intro _ _ _ _) | refine fV_ldN ?_ | refine fV_ld1 ?_ | refine fHV_ldN ?_ | refine fHV_ld1 ?_ | refine NilW_some ?_ | refine iCW_1 ?_ | refine iCW_N ?_ | refine Pk_b ?_))
      refine Cond_d (fun h' => ?_) (fun h' => ?_)
      · (repeat (first | (refine iDr ?_; intro _ _) | refine V_run ?_ | refine PV_run ?_ | refine HV_run ?_ | refine iV_ld1 ?_ | refine iV_ldN ?_ | (refine iV_bx ?_; intro _ _ _ _) | (refine iV_al ?_; intro _ _ _ _) | (refine iV_mm ?_; intro _ _ _ _) | (refine iU_st ?_; intro _ _) | refine iHV_1 ?_ | refine iHV_N ?_ | refine iRI_1 ?_ | refine iRI_N ?_ | refine Cond_t ?_ | refine Cond_f ?_ | refine JB ?_ | (refine JC ?_; intro _ _ _ _) | (refine J1 ?_; intro _ _) | (refine J0 ?_; intro _ _) | (refine J2 ?_; intro _ _) | (refine J3 ?_; intro _ _) | (refine J4 ?_; intro _ _) | refine K1 ?_ | refine K0 ?_ | refine K2 ?_ | refine K3 ?_ | refine K4 ?_ | (refine CV_pu ?_; intro _ _ _ _) | refine fV_ldN ?_ | refine fV_ld1 ?_ | refine fHV_ldN ?_ | refine fHV_ld1 ?_ | refine NilW_some ?_ | refine iCW_1 ?_ | refine iCW_N ?_ | refine Pk_b ?_))
        exact ⟨_, _, ‹_›, by simp only [framedB, h6', h2, h2', trapsFrom, pendFrom, infoB, if_pos h', decide_true, Bool.true_and]; rfl⟩
      · (repeat (first | (refine iDr ?_; intro _ _) | refine V_run ?_ | refine PV_run ?_ | refine HV_run ?_ | refine iV_ld1 ?_ | refine iV_ldN ?_ | (refine iV_bx ?_; intro _ _ _ _) | (refine iV_al ?_; intro _ _ _ _) | (refine iV_mm ?_; intro _ _ _ _) | (refine iU_st ?_; intro _ _) | refine iHV_1 ?_ | refine iHV_N ?_ | refine iRI_1 ?_ | refine iRI_N ?_ | refine Cond_t ?_ | refine Cond_f ?_ | refine JB ?_ | (refine JC ?_; intro _ _ _ _) | (refine J1 ?_; intro _ _) | (refine J0 ?_; intro _ _) | (refine J2 ?_; intro _ _) | (refine J3 ?_; intro _ _) | (refine J4 ?_; intro _ _) | refine K1 ?_ | refine K0 ?_ | refine K2 ?_ | refine K3 ?_ | refine K4 ?_ | (refine CV_pu ?_; intro _ _ _ _) | refine fV_ldN ?_ | refine fV_ld1 ?_ | refine fHV_ldN ?_ | refine fHV_ld1 ?_ | refine NilW_some ?_ | refine iCW_1 ?_ | refine iCW_N ?_ | refine Pk_b ?_))
        exact ⟨_, _, ‹_›, by
          simp only [framedB, h6', h2, h2', trapsFrom, pendFrom, infoB, if_neg h']
          cases decide (f.info.mode = 1) <;> cases decide (f.info.mode = 2) <;> cases cond f.info.cond <;> simp⟩)
theorem idxFrame {p : FrM → Bool} {fv v : Value} {z : Z} {w : World} {xs : StM} (hx : SlR El.frame z v xs)
    (hf : ∀ z' w' v x, x ∈ xs → Le z z' → FrR z' v x → Va1 fv #[v] z' w' fun _ r => r = .bool (p x)) : Fn1 89 #[v, fv] z w fun _ r => r = .int .i64 (fidx p xs) := Fn1.intro fun hS => en89 (by
  unfold vc89
  obtain ⟨hb, a, cap, rfl, hc, hel⟩ := hx.form
  (repeat (first | (refine iDr ?_; intro _ _) | refine V_run ?_ | refine PV_run ?_ | refine HV_run ?_ | refine iV_ld1 ?_ | refine iV_ldN ?_ | (refine iV_bx ?_; intro _ _ _ _) | (refine iV_al ?_; intro _ _ _ _) | (refine iV_mm ?_; intro _ _ _ _) | (refine iU_st ?_; intro _ _) | refine iHV_1 ?_ | refine iHV_N ?_ | refine iRI_1 ?_ | refine iRI_N ?_ | refine Cond_t ?_ | refine Cond_f ?_ | refine JB ?_ | (refine JC ?_; intro _ _ _ _) | (refine J1 ?_; intro _ _) | (refine J0 ?_; intro _ _) | (refine J2 ?_; intro _ _) | (refine J3 ?_; intro _ _) | (refine J4 ?_; intro _ _) | refine K1 ?_ | refine K0 ?_ | refine K2 ?_ | refine K3 ?_ | refine K4 ?_ | (refine CV_pu ?_; intro _ _ _ _) | refine fV_ldN ?_ | refine fV_ld1 ?_ | refine fHV_ldN ?_ | refine fHV_ld1 ?_ | refine NilW_some ?_ | refine iCW_1 ?_ | refine iCW_N ?_ | refine Pk_b ?_))
  refine LoopG1 (fun (i : Nat) x w' => x = .int .i64 i ∧ i ≤ xs.length ∧ (∀ j y, j < i → xs[j]? = some y → p y = false) ∧ ∃ z', Le z z' ∧ Res w z [] w' z' []) (fun i => xs.length - i) 0 ⟨rfl, by omega, fun j y h => absurd h (by omega), z, Le.refl _, hS⟩ ?_
  rintro I M i x w2 m ⟨rfl, h1, h2, z2, hz2, hS2⟩ back
  (repeat (first | (refine iDr ?_; intro _ _) | refine V_run ?_ | refine PV_run ?_ | refine HV_run ?_ | refine iV_ld1 ?_ | refine iV_ldN ?_ | (refine iV_bx ?_; intro _ _ _ _) | (refine iV_al ?_; intro _ _ _ _) | (refine iV_mm ?_; intro _ _ _ _) | (refine iU_st ?_; intro _ _) | refine iHV_1 ?_ | refine iHV_N ?_ | refine iRI_1 ?_ | refine iRI_N ?_ | refine Cond_t ?_ | refine Cond_f ?_ | refine JB ?_ | (refine JC ?_; intro _ _ _ _) | (refine J1 ?_; intro _ _) | (refine J0 ?_; intro _ _) | (refine J2 ?_; intro _ _) | (refine J3 ?_; intro _ _) | (refine J4 ?_; intro _ _) | refine K1 ?_ | refine K0 ?_ | refine K2 ?_ | refine K3 ?_ | refine K4 ?_ | (refine CV_pu ?_; intro _ _ _ _) | refine fV_ldN ?_ | refine fV_ld1 ?_ | refine fHV_ldN ?_ | refine fHV_ld1 ?_ | refine NilW_some ?_ | refine iCW_1 ?_ | refine iCW_N ?_ | refine Pk_b ?_))
  refine Cond_d (fun h => ?_) (fun h => ?_)
  · have hlt : i < xs.length := by omega
    obtain ⟨b, off, cs, rfl, hr, hat⟩ := hel i _ (List.getElem?_eq_getElem hlt)
    haveI : InR (i : Int) xs.length := ⟨by omega, by omega⟩
    haveI : InI ((i : Int) + 1) := ⟨by simp only [big] at hb; omega⟩
    (repeat (first | (refine iDr ?_; intro _ _) | refine V_run ?_ | refine PV_run ?_ | refine HV_run ?_ | refine iV_ld1 ?_ | refine iV_ldN ?_ | (refine iV_bx ?_; intro _ _ _ _) | (refine iV_al ?_; intro _ _ _ _) | (refine iV_mm ?_; intro _ _ _ _) | (refine iU_st ?_; intro _ _) | refine iHV_1 ?_ | refine iHV_N ?_ | refine iRI_1 ?_ | refine iRI_N ?_ | refine Cond_t ?_ | refine Cond_f ?_ | refine JB ?_ | (refine JC ?_; intro _ _ _ _) | (refine J1 ?_; intro _ _) | (refine J0 ?_; intro _ _) | (refine J2 ?_; intro _ _) | (refine J3 ?_; intro _ _) | (refine J4 ?_; intro _ _) | refine K1 ?_ | refine K0 ?_ | refine K2 ?_ | refine K3 ?_ | refine K4 ?_ | (refine CV_pu ?_; intro _ _ _ _) | refine fV_ldN ?_ | refine fV_ld1 ?_ | refine fHV_ldN ?_ | refine fHV_ld1 ?_ | refine NilW_some ?_ | refine iCW_1 ?_ | refine iCW_N ?_ | refine Pk_b ?_))
    simp only [Int.toNat_natCast]
    refine zV_ldN (hat.mono hz2) (El.frame.len hr) ?_
    refine CV_va1 hS2 (hf _ _ _ _ (List.getElem_mem hlt) hz2 ⟨cs, rfl, El.frame.mono hr hz2⟩) ?_
    rintro z4 w4 v4 hle hS4 rfl
    refine Cond_b (fun h' => ?_) (fun h' => ?_)
    · exact ⟨_, _, hS4, by rw [fidx_some h2 (List.getElem?_eq_getElem hlt) h']⟩
    · (repeat (first | (refine iDr ?_; intro _ _) | refine V_run ?_ | refine PV_run ?_ | refine HV_run ?_ | refine iV_ld1 ?_ | refine iV_ldN ?_ | (refine iV_bx ?_; intro _ _ _ _) | (refine iV_al ?_; intro _ _ _ _) | (refine iV_mm ?_; intro _ _ _ _) | (refine iU_st ?_; intro _ _) | refine iHV_1 ?_ | refine iHV_N ?_ | refine iRI_1 ?_ | refine iRI_N ?_ | refine Cond_t ?_ | refine Cond_f ?_ | refine JB ?_ | (refine JC ?_; intro _ _ _ _) | (refine J1 ?_; intro _ _) | (refine J0 ?_; intro _ _) | (refine J2 ?_; intro _ _) | (refine J3 ?_; intro _ _) | (refine J4 ?_; intro _ _) | refine K1 ?_ | refine K0 ?_ | refine K2 ?_ | refine K3 ?_ | refine K4 ?_ | (refine CV_pu ?_; intro _ _ _ _) | refine fV_ldN ?_ | refine fV_ld1 ?_ | refine fHV_ldN ?_ | refine fHV_ld1 ?_ | refine NilW_some ?_ | refine iCW_1 ?_ | refine iCW_N ?_ | refine Pk_b ?_))
      refine back (i + 1) _ _ ⟨by simp, by omega, fun j y' hj hjy => ?_, z4, hz2.trans hle, hS4⟩ (by omega)
      by_cases hji : j = i
      · subst hji; rw [List.getElem?_eq_getElem hlt] at hjy; cases hjy; exact h'
      · exact h2 j y' (by omega) hjy
  · (repeat (first | (refine iDr ?_; intro _ _) | refine V_run ?_ | refine PV_run ?_ | refine HV_run ?_ | refine iV_ld1 ?_ | refine iV_ldN ?_ | (refine iV_bx ?_; intro _ _ _ _) | (refine iV_al ?_; intro _ _ _ _) | (refine iV_mm ?_; intro _ _ _ _) | (refine iU_st ?_; intro _ _) | refine iHV_1 ?_ | refine iHV_N ?_ | refine iRI_1 ?_ | refine iRI_N ?_ | refine Cond_t ?_ | refine Cond_f ?_ | refine JB ?_ | (refine JC ?_; intro _ _ _ _) | (refine J1 ?_; intro _ _) | (refine J0 ?_; intro _ _) | (refine J2 ?_; intro _ _) | (refine J3 ?_; intro _ _) | (refine J4 ?_; intro _ _) | refine K1 ?_ | refine K0 ?_ | refine K2 ?_ | refine K3 ?_ | refine K4 ?_ | (refine CV_pu ?_; intro _ _ _ _) | refine fV_ldN ?_ | refine fV_ld1 ?_ | refine fHV_ldN ?_ | refine fHV_ld1 ?_ | refine NilW_some ?_ | refine iCW_1 ?_ | refine iCW_N ?_ | refine Pk_b ?_))
    exact ⟨_, _, hS2, by rw [fidx_none fun j y hy => h2 j y (by have := (List.getElem?_eq_some_iff.1 hy).1; omega) hy]⟩)
end Go.Proofs.Ytjnckainogpenaa
end

section
/- Checks: the program's, and the reference's. -/
set_option linter.unusedVariables false
set_option maxRecDepth 20000
set_option synthInstance.maxHeartbeats 400000
set_option synthInstance.maxSize 4000
namespace Go.Proofs.Ytjnckainogpenaa
open Go Q Go.RowKit

def checkB (s : StM) : Bool := decide (1 ≤ s.length) && decide (s.length ≤ 30) && s.all framedB
abbrev errOf (b : Bool) (e : Int) : Int := if b then 0 else e
theorem check1 {v : Value} {f : FrM} {z : Z} {w : World} (hf : FrR z v f) : Fn1 57 #[v] z w fun _ r => r = .bool (!framedB f) := Fn1.intro fun hS => en57 (by
  unfold vc57
  have hf' := hf
  obtain ⟨cs, rfl, v1, v2, rfl, hv1, hv2, hd⟩ := hf
  dsimp only [InM.cells]
  haveI : One v1 := by obtain ⟨_, a1, cap1, rfl, _⟩ := hv1.form; exact inferInstance
  haveI : One v2 := by obtain ⟨_, a1, cap1, rfl, _⟩ := hv2.form; exact inferInstance
  (repeat (first | (refine iDr ?_; intro _ _) | refine V_run ?_ | refine PV_run ?_ | refine HV_run ?_ | refine iV_ld1 ?_ | refine iV_ldN ?_ | (refine iV_bx ?_; intro _ _ _ _) | (refine iV_al ?_; intro _ _ _ _) | (refine iV_mm ?_; intro _ _ _ _) | (refine iU_st ?_; intro _ _) | refine iHV_1 ?_ | refine iHV_N ?_ | refine iRI_1 ?_ | refine iRI_N ?_ | refine Cond_t ?_ | refine Cond_f ?_ | refine JB ?_ | (refine JC ?_; intro _ _ _ _) | (refine J1 ?_; intro _ _) | (refine J0 ?_; intro _ _) | (refine J2 ?_; intro _ _) | (refine J3 ?_; intro _ _) | (refine J4 ?_; intro _ _) | refine K1 ?_ | refine K0 ?_ | refine K2 ?_ | refine K3 ?_ | refine K4 ?_ | (refine CV_pu ?_; intro _ _ _ _) | refine fV_ldN ?_ | refine fV_ld1 ?_ | refine fHV_ldN ?_ | refine fHV_ld1 ?_ | refine NilW_some ?_ | refine iCW_1 ?_ | refine iCW_N ?_ | refine Pk_b ?_))
  refine CV_1 (framed (f := f) ⟨_, rfl, v1, v2, rfl, SlR.mono hv1 ?_, SlR.mono hv2 ?_, hd⟩) ?_
  · exact Le.refl _
  · exact Le.refl _
  rintro z' w' v hle hS' rfl
  (repeat (first | (refine iDr ?_; intro _ _) | refine V_run ?_ | refine PV_run ?_ | refine HV_run ?_ | refine iV_ld1 ?_ | refine iV_ldN ?_ | (refine iV_bx ?_; intro _ _ _ _) | (refine iV_al ?_; intro _ _ _ _) | (refine iV_mm ?_; intro _ _ _ _) | (refine iU_st ?_; intro _ _) | refine iHV_1 ?_ | refine iHV_N ?_ | refine iRI_1 ?_ | refine iRI_N ?_ | refine Cond_t ?_ | refine Cond_f ?_ | refine JB ?_ | (refine JC ?_; intro _ _ _ _) | (refine J1 ?_; intro _ _) | (refine J0 ?_; intro _ _) | (refine J2 ?_; intro _ _) | (refine J3 ?_; intro _ _) | (refine J4 ?_; intro _ _) | refine K1 ?_ | refine K0 ?_ | refine K2 ?_ | refine K3 ?_ | refine K4 ?_ | (refine CV_pu ?_; intro _ _ _ _) | refine fV_ldN ?_ | refine fV_ld1 ?_ | refine fHV_ldN ?_ | refine fHV_ld1 ?_ | refine NilW_some ?_ | refine iCW_1 ?_ | refine iCW_N ?_ | refine Pk_b ?_))
  exact ⟨_, _, ‹_›, rfl⟩)
theorem containsFrame {p : FrM → Bool} {fv v : Value} {z : Z} {w : World} {xs : StM} (hx : SlR El.frame z v xs)
    (hf : ∀ z' w' v x, x ∈ xs → Le z z' → FrR z' v x → Va1 fv #[v] z' w' fun _ r => r = .bool (p x)) : Fn1 56 #[v, fv] z w fun _ r => r = .bool (xs.any p) := Fn1.intro fun hS => en56 (by
  unfold vc56
  refine CV_1 (idxFrame hx hf) ?_
  rintro z' w' v hle hS' rfl
  (repeat (first | (refine iDr ?_; intro _ _) | refine V_run ?_ | refine PV_run ?_ | refine HV_run ?_ | refine iV_ld1 ?_ | refine iV_ldN ?_ | (refine iV_bx ?_; intro _ _ _ _) | (refine iV_al ?_; intro _ _ _ _) | (refine iV_mm ?_; intro _ _ _ _) | (refine iU_st ?_; intro _ _) | refine iHV_1 ?_ | refine iHV_N ?_ | refine iRI_1 ?_ | refine iRI_N ?_ | refine Cond_t ?_ | refine Cond_f ?_ | refine JB ?_ | (refine JC ?_; intro _ _ _ _) | (refine J1 ?_; intro _ _) | (refine J0 ?_; intro _ _) | (refine J2 ?_; intro _ _) | (refine J3 ?_; intro _ _) | (refine J4 ?_; intro _ _) | refine K1 ?_ | refine K0 ?_ | refine K2 ?_ | refine K3 ?_ | refine K4 ?_ | (refine CV_pu ?_; intro _ _ _ _) | refine fV_ldN ?_ | refine fV_ld1 ?_ | refine fHV_ldN ?_ | refine fHV_ld1 ?_ | refine NilW_some ?_ | refine iCW_1 ?_ | refine iCW_N ?_ | refine Pk_b ?_))
  exact ⟨_, _, ‹_›, by rw [fidx_ge]⟩)
theorem check {v : Value} {s : StM} {z : Z} {w : World} (hs : StR z v s) : Fn1 17 #[v] z w fun _ r => r = .int .i64 (errOf (checkB s) 2) := Fn1.intro fun hS => en17 (by
  unfold vc17
  obtain ⟨u, rfl, hu⟩ := hs
  have hu' := hu
  obtain ⟨hb, a, cap, rfl, hc, hel⟩ := hu.form
  (repeat (first | (refine iDr ?_; intro _ _) | refine V_run ?_ | refine PV_run ?_ | refine HV_run ?_ | refine iV_ld1 ?_ | refine iV_ldN ?_ | (refine iV_bx ?_; intro _ _ _ _) | (refine iV_al ?_; intro _ _ _ _) | (refine iV_mm ?_; intro _ _ _ _) | (refine iU_st ?_; intro _ _) | refine iHV_1 ?_ | refine iHV_N ?_ | refine iRI_1 ?_ | refine iRI_N ?_ | refine Cond_t ?_ | refine Cond_f ?_ | refine JB ?_ | (refine JC ?_; intro _ _ _ _) | (refine J1 ?_; intro _ _) | (refine J0 ?_; intro _ _) | (refine J2 ?_; intro _ _) | (refine J3 ?_; intro _ _) | (refine J4 ?_; intro _ _) | refine K1 ?_ | refine K0 ?_ | refine K2 ?_ | refine K3 ?_ | refine K4 ?_ | (refine CV_pu ?_; intro _ _ _ _) | refine fV_ldN ?_ | refine fV_ld1 ?_ | refine fHV_ldN ?_ | refine fHV_ld1 ?_ | refine NilW_some ?_ | refine iCW_1 ?_ | refine iCW_N ?_ | refine Pk_b ?_))
  have hall : (!s.any fun f => !framedB f) = s.all framedB := any_not _ _
  refine Cond_b (fun h => ?_) (fun h => ?_)
  · have h : 1 ≤ s.length ∧ s.length ≤ 30 := by
      simp only [cond_eq_ite] at h
      by_cases h1 : 1 ≤ (s.length : Int) <;> simp [h1] at h <;> omega
    (repeat (first | (refine iDr ?_; intro _ _) | refine V_run ?_ | refine PV_run ?_ | refine HV_run ?_ | refine iV_ld1 ?_ | refine iV_ldN ?_ | (refine iV_bx ?_; intro _ _ _ _) | (refine iV_al ?_; intro _ _ _ _) | (refine iV_mm ?_; intro _ _ _ _) | (refine iU_st ?_; intro _ _) | refine iHV_1 ?_ | refine iHV_N ?_ | refine iRI_1 ?_ | refine iRI_N ?_ | refine Cond_t ?_ | refine Cond_f ?_ | refine JB ?_ | (refine JC ?_; intro _ _ _ _) | (refine J1 ?_; intro _ _) | (refine J0 ?_; intro _ _) | (refine J2 ?_; intro _ _) | (refine J3 ?_; intro _ _) | (refine J4 ?_; intro _ _) | refine K1 ?_ | refine K0 ?_ | refine K2 ?_ | refine K3 ?_ | refine K4 ?_ | (refine CV_pu ?_; intro _ _ _ _) | refine fV_ldN ?_ | refine fV_ld1 ?_ | refine fHV_ldN ?_ | refine fHV_ld1 ?_ | refine NilW_some ?_ | refine iCW_1 ?_ | refine iCW_N ?_ | refine Pk_b ?_))
    refine CV_1 (containsFrame hu' fun z' w' v x _ _ hx => (check1 hx).va (by simp)) ?_
    rintro z' w' v hle hS' rfl
    (repeat (first | (refine iDr ?_; intro _ _) | refine V_run ?_ | refine PV_run ?_ | refine HV_run ?_ | refine iV_ld1 ?_ | refine iV_ldN ?_ | (refine iV_bx ?_; intro _ _ _ _) | (refine iV_al ?_; intro _ _ _ _) | (refine iV_mm ?_; intro _ _ _ _) | (refine iU_st ?_; intro _ _) | refine iHV_1 ?_ | refine iHV_N ?_ | refine iRI_1 ?_ | refine iRI_N ?_ | refine Cond_t ?_ | refine Cond_f ?_ | refine JB ?_ | (refine JC ?_; intro _ _ _ _) | (refine J1 ?_; intro _ _) | (refine J0 ?_; intro _ _) | (refine J2 ?_; intro _ _) | (refine J3 ?_; intro _ _) | (refine J4 ?_; intro _ _) | refine K1 ?_ | refine K0 ?_ | refine K2 ?_ | refine K3 ?_ | refine K4 ?_ | (refine CV_pu ?_; intro _ _ _ _) | refine fV_ldN ?_ | refine fV_ld1 ?_ | refine fHV_ldN ?_ | refine fHV_ld1 ?_ | refine NilW_some ?_ | refine iCW_1 ?_ | refine iCW_N ?_ | refine Pk_b ?_))
    exact ⟨_, _, ‹_›, by simp only [errOf, checkB, hall, h, decide_true, Bool.true_and]⟩
  · (repeat (first | (refine iDr ?_; intro _ _) | refine V_run ?_ | refine PV_run ?_ | refine HV_run ?_ | refine iV_ld1 ?_ | refine iV_ldN ?_ | (refine iV_bx ?_; intro _ _ _ _) | (refine iV_al ?_; intro _ _ _ _) | (refine iV_mm ?_; intro _ _ _ _) | (refine iU_st ?_; intro _ _) | refine iHV_1 ?_ | refine iHV_N ?_ | refine iRI_1 ?_ | refine iRI_N ?_ | refine Cond_t ?_ | refine Cond_f ?_ | refine JB ?_ | (refine JC ?_; intro _ _ _ _) | (refine J1 ?_; intro _ _) | (refine J0 ?_; intro _ _) | (refine J2 ?_; intro _ _) | (refine J3 ?_; intro _ _) | (refine J4 ?_; intro _ _) | refine K1 ?_ | refine K0 ?_ | refine K2 ?_ | refine K3 ?_ | refine K4 ?_ | (refine CV_pu ?_; intro _ _ _ _) | refine fV_ldN ?_ | refine fV_ld1 ?_ | refine fHV_ldN ?_ | refine fHV_ld1 ?_ | refine NilW_some ?_ | refine iCW_1 ?_ | refine iCW_N ?_ | refine Pk_b ?_))
    refine ⟨_, _, ‹_›, ?_⟩
    have : (decide (1 ≤ s.length) && decide (s.length ≤ 30)) = false := by
      simp only [cond_eq_ite] at h
      by_cases h1 : 1 ≤ (s.length : Int) <;> simp [h1] at h <;> simp <;> omega
    simp only [errOf, checkB, this, Bool.false_and])

/-! ### The reference -/
instance {i : InM} [hs : Sm i.desc] : Pu 106 #[i.v] (.bool (infoB i)) := ⟨fun z w => Fn1.intro fun hS => en106 (by
  unfold vc106
  dsimp only [InM.v, InM.cells]
  (repeat (first | (refine iDr ?_; intro _ _) | refine V_run ?_ | refine PV_run ?_ | refine HV_run ?_ | refine iV_ld1 ?_ | refine iV_ldN ?_ | (refine iV_bx ?_; intro _ _ _ _) | (refine iV_al ?_; intro _ _ _ _) | (refine iV_mm ?_; intro _ _ _ _) | (refine iU_st ?_; intro _ _) | refine iHV_1 ?_ | refine iHV_N ?_ | refine iRI_1 ?_ | refine iRI_N ?_ | refine Cond_t ?_ | refine Cond_f ?_ | refine JB ?_ | (refine JC ?_; intro _ _ _ _) | (refine J1 ?_; intro _ _) | (refine J0 ?_; intro _ _) | (refine J2 ?_; intro _ _) | (refine J3 ?_; intro _ _) | (refine J4 ?_; intro _ _) | refine K1 ?_ | refine K0 ?_ | refine K2 ?_ | refine K3 ?_ | refine K4 ?_ | (refine CV_pu ?_; intro _ _ _ _) | refine fV_ldN ?_ | refine fV_ld1 ?_ | refine fHV_ldN ?_ | refine fHV_ld1 ?_ | refine NilW_some ?_ | refine iCW_1 ?_ | refine iCW_N ?_ | refine Pk_b ?_))
  refine Cond_d (fun h => ?_) (fun h => ?_)
  · (repeat (first | (refine iDr ?_; intro _ _) | refine V_run ?_ | refine PV_run ?_ | refine HV_run ?_ | refine iV_ld1 ?_ | refine iV_ldN ?_ | (refine iV_bx ?_; intro _ _ _ _) | (refine iV_al ?_; intro _ _ _ _) | (refine iV_mm ?_; intro _ _ _ _) | (refine iU_st ?_; intro _ _) | refine iHV_1 ?_ | refine iHV_N ?_ | refine iRI_1 ?_ | refine iRI_N ?_ | refine Cond_t ?_ | refine Cond_f ?_ | refine JB ?_ | (refine JC ?_; intro _ _ _ _) | (refine J1 ?_; intro _ _) | (refine J0 ?_; intro _ _) | (refine J2 ?_; intro _ _) | (refine J3 ?_; intro _ _) | (refine J4 ?_; intro _ _) | refine K1 ?_ | refine K0 ?_ | refine K2 ?_ | refine K3 ?_ | refine K4 ?_ | (refine CV_pu ?_; intro _ _ _ _) | refine fV_ldN ?_ | refine fV_ld1 ?_ | refine fHV_ldN ?_ | refine fHV_ld1 ?_ | refine NilW_some ?_ | refine iCW_1 ?_ | refine iCW_N ?_ | refine Pk_b ?_))
    exact ret_eq (by rw [infoB, if_pos h]; rfl)
  · (repeat (first | (refine iDr ?_; intro _ _) | refine V_run ?_ | refine PV_run ?_ | refine HV_run ?_ | refine iV_ld1 ?_ | refine iV_ldN ?_ | (refine iV_bx ?_; intro _ _ _ _) | (refine iV_al ?_; intro _ _ _ _) | (refine iV_mm ?_; intro _ _ _ _) | (refine iU_st ?_; intro _ _) | refine iHV_1 ?_ | refine iHV_N ?_ | refine iRI_1 ?_ | refine iRI_N ?_ | refine Cond_t ?_ | refine Cond_f ?_ | refine JB ?_ | (refine JC ?_; intro _ _ _ _) | (refine J1 ?_; intro _ _) | (refine J0 ?_; intro _ _) | (refine J2 ?_; intro _ _) | (refine J3 ?_; intro _ _) | (refine J4 ?_; intro _ _) | refine K1 ?_ | refine K0 ?_ | refine K2 ?_ | refine K3 ?_ | refine K4 ?_ | (refine CV_pu ?_; intro _ _ _ _) | refine fV_ldN ?_ | refine fV_ld1 ?_ | refine fHV_ldN ?_ | refine fHV_ld1 ?_ | refine NilW_some ?_ | refine iCW_1 ?_ | refine iCW_N ?_ | refine Pk_b ?_))
    exact ⟨_, _, ‹_›, by
      rw [infoB, if_neg h]
      cases decide (i.mode = 1) <;> cases decide (i.mode = 2) <;> cases cond i.cond <;> cases descB i.desc <;> rfl⟩)⟩
instance {i : Int} {t : TrM} [hs : Sm t.label] [hi : InR i 6] : Pu 107 #[t.v, .int .i64 i] (.bool (trapOk i t)) := ⟨fun z w => Fn1.intro fun hS => en107 (by
  unfold vc107
  dsimp only [TrM.v, TrM.cells]
  (repeat (first | (refine iDr ?_; intro _ _) | refine V_run ?_ | refine PV_run ?_ | refine HV_run ?_ | refine iV_ld1 ?_ | refine iV_ldN ?_ | (refine iV_bx ?_; intro _ _ _ _) | (refine iV_al ?_; intro _ _ _ _) | (refine iV_mm ?_; intro _ _ _ _) | (refine iU_st ?_; intro _ _) | refine iHV_1 ?_ | refine iHV_N ?_ | refine iRI_1 ?_ | refine iRI_N ?_ | refine Cond_t ?_ | refine Cond_f ?_ | refine JB ?_ | (refine JC ?_; intro _ _ _ _) | (refine J1 ?_; intro _ _) | (refine J0 ?_; intro _ _) | (refine J2 ?_; intro _ _) | (refine J3 ?_; intro _ _) | (refine J4 ?_; intro _ _) | refine K1 ?_ | refine K0 ?_ | refine K2 ?_ | refine K3 ?_ | refine K4 ?_ | (refine CV_pu ?_; intro _ _ _ _) | refine fV_ldN ?_ | refine fV_ld1 ?_ | refine fHV_ldN ?_ | refine fHV_ld1 ?_ | refine NilW_some ?_ | refine iCW_1 ?_ | refine iCW_N ?_ | refine Pk_b ?_))
  refine Cond_d (fun h => ?_) (fun h => ?_)
  · (repeat (first | (refine iDr ?_; intro _ _) | refine V_run ?_ | refine PV_run ?_ | refine HV_run ?_ | refine iV_ld1 ?_ | refine iV_ldN ?_ | (refine iV_bx ?_; intro _ _ _ _) | (refine iV_al ?_; intro _ _ _ _) | (refine iV_mm ?_; intro _ _ _ _) | (refine iU_st ?_; intro _ _) | refine iHV_1 ?_ | refine iHV_N ?_ | refine iRI_1 ?_ | refine iRI_N ?_ | refine Cond_t ?_ | refine Cond_f ?_ | refine JB ?_ | (refine JC ?_; intro _ _ _ _) | (refine J1 ?_; intro _ _) | (refine J0 ?_; intro _ _) | (refine J2 ?_; intro _ _) | (refine J3 ?_; intro _ _) | (refine J4 ?_; intro _ _) | refine K1 ?_ | refine K0 ?_ | refine K2 ?_ | refine K3 ?_ | refine K4 ?_ | (refine CV_pu ?_; intro _ _ _ _) | refine fV_ldN ?_ | refine fV_ld1 ?_ | refine fHV_ldN ?_ | refine fHV_ld1 ?_ | refine NilW_some ?_ | refine iCW_1 ?_ | refine iCW_N ?_ | refine Pk_b ?_))
    exact ret_eq (by rw [trapOk, if_pos h]; rfl)
  · (repeat (first | (refine iDr ?_; intro _ _) | refine V_run ?_ | refine PV_run ?_ | refine HV_run ?_ | refine iV_ld1 ?_ | refine iV_ldN ?_ | (refine iV_bx ?_; intro _ _ _ _) | (refine iV_al ?_; intro _ _ _ _) | (refine iV_mm ?_; intro _ _ _ _) | (refine iU_st ?_; intro _ _) | refine iHV_1 ?_ | refine iHV_N ?_ | refine iRI_1 ?_ | refine iRI_N ?_ | refine Cond_t ?_ | refine Cond_f ?_ | refine JB ?_ | (refine JC ?_; intro _ _ _ _) | (refine J1 ?_; intro _ _) | (refine J0 ?_; intro _ _) | (refine J2 ?_; intro _ _) | (refine J3 ?_; intro _ _) | (refine J4 ?_; intro _ _) | refine K1 ?_ | refine K0 ?_ | refine K2 ?_ | refine K3 ?_ | refine K4 ?_ | (refine CV_pu ?_; intro _ _ _ _) | refine fV_ldN ?_ | refine fV_ld1 ?_ | refine fHV_ldN ?_ | refine fHV_ld1 ?_ | refine NilW_some ?_ | refine iCW_1 ?_ | refine iCW_N ?_ | refine Pk_b ?_))
    exact ⟨_, _, ‹_›, by
      rw [trapOk, if_neg h]
      have hdi : deferred i = !immediate i := by
        have h0 := hi.h0; have h1 := hi.h1
        have : i = 0 ∨ i = 1 ∨ i = 2 ∨ i = 3 ∨ i = 4 ∨ i = 5 := by omega
        rcases this with rfl | rfl | rfl | rfl | rfl | rfl <;> rfl
      simp only [moded, hdi, decide_eq_false h]
      by_cases h1 : t.mode = 1
      · simp only [h1]; cases t.delayed <;> cases labB t.label <;> simp
      · simp only [decide_eq_false h1]
        cases t.delayed <;> cases labB t.label <;> cases decide (t.mode = 2) <;> cases immediate i <;> rfl⟩)⟩
def pendIdx (l : List RaM) (n : Int) : Int := fidx (fun x => decide (x.cond = n)) l
theorem pending {v : Value} {l : List RaM} {n : Int} {z : Z} {w : World} (hl : SlR El.raised z v l) : Fn1 64 #[v, .int .i64 n] z w fun _ r => r = .int .i64 (pendIdx l n) := Fn1.intro fun hS => en64 (by
  unfold vc64
  obtain ⟨hb, a, cap, rfl, hc, hel⟩ := hl.form
  refine LoopG1 (fun (i : Nat) x w' => x = .int .i64 i ∧ i ≤ l.length ∧ (∀ j y, j < i → l[j]? = some y → decide (y.cond = n) = false) ∧ Res w z [] w' z []) (fun i => l.length - i) 0 ⟨rfl, by omega, fun j y h => absurd h (by omega), hS⟩ ?_
  rintro I M i x w2 m ⟨rfl, h1, h2, hS2⟩ back
  (repeat (first | (refine iDr ?_; intro _ _) | refine V_run ?_ | refine PV_run ?_ | refine HV_run ?_ | refine iV_ld1 ?_ | refine iV_ldN ?_ | (refine iV_bx ?_; intro _ _ _ _) | (refine iV_al ?_; intro _ _ _ _) | (refine iV_mm ?_; intro _ _ _ _) | (refine iU_st ?_; intro _ _) | refine iHV_1 ?_ | refine iHV_N ?_ | refine iRI_1 ?_ | refine iRI_N ?_ | refine Cond_t ?_ | refine Cond_f ?_ | refine JB ?_ | (refine JC ?_; intro _ _ _ _) | (refine J1 ?_; intro _ _) | (refine J0 ?_; intro _ _) | (refine J2 ?_; intro _ _) | (refine J3 ?_; intro _ _) | (refine J4 ?_; intro _ _) | refine K1 ?_ | refine K0 ?_ | refine K2 ?_ | refine K3 ?_ | refine K4 ?_ | (refine CV_pu ?_; intro _ _ _ _) | refine fV_ldN ?_ | refine fV_ld1 ?_ | refine fHV_ldN ?_ | refine fHV_ld1 ?_ | refine NilW_some ?_ | refine iCW_1 ?_ | refine iCW_N ?_ | refine Pk_b ?_))
  refine Cond_d (fun h => ?_) (fun h => ?_)
  · have hlt : i < l.length := by omega
    obtain ⟨b, off, cs, rfl, ⟨rfl, hr⟩, hat⟩ := hel i _ (List.getElem?_eq_getElem hlt)
    haveI : InR (i : Int) l.length := ⟨by omega, by omega⟩
    haveI : InI ((i : Int) + 1) := ⟨by simp only [big] at hb; omega⟩
    (repeat (first | (refine iDr ?_; intro _ _) | refine V_run ?_ | refine PV_run ?_ | refine HV_run ?_ | refine iV_ld1 ?_ | refine iV_ldN ?_ | (refine iV_bx ?_; intro _ _ _ _) | (refine iV_al ?_; intro _ _ _ _) | (refine iV_mm ?_; intro _ _ _ _) | (refine iU_st ?_; intro _ _) | refine iHV_1 ?_ | refine iHV_N ?_ | refine iRI_1 ?_ | refine iRI_N ?_ | refine Cond_t ?_ | refine Cond_f ?_ | refine JB ?_ | (refine JC ?_; intro _ _ _ _) | (refine J1 ?_; intro _ _) | (refine J0 ?_; intro _ _) | (refine J2 ?_; intro _ _) | (refine J3 ?_; intro _ _) | (refine J4 ?_; intro _ _) | refine K1 ?_ | refine K0 ?_ | refine K2 ?_ | refine K3 ?_ | refine K4 ?_ | (refine CV_pu ?_; intro _ _ _ _) | refine fV_ldN ?_ | refine fV_ld1 ?_ | refine fHV_ldN ?_ | refine fHV_ld1 ?_ | refine NilW_some ?_ | refine iCW_1 ?_ | refine iCW_N ?_ | refine Pk_b ?_))
    simp only [Int.toNat_natCast]
    refine zV_ld1 (v := .int .i64 l[i].cond) (At.head hat) ?_
    (repeat (first | (refine iDr ?_; intro _ _) | refine V_run ?_ | refine PV_run ?_ | refine HV_run ?_ | refine iV_ld1 ?_ | refine iV_ldN ?_ | (refine iV_bx ?_; intro _ _ _ _) | (refine iV_al ?_; intro _ _ _ _) | (refine iV_mm ?_; intro _ _ _ _) | (refine iU_st ?_; intro _ _) | refine iHV_1 ?_ | refine iHV_N ?_ | refine iRI_1 ?_ | refine iRI_N ?_ | refine Cond_t ?_ | refine Cond_f ?_ | refine JB ?_ | (refine JC ?_; intro _ _ _ _) | (refine J1 ?_; intro _ _) | (refine J0 ?_; intro _ _) | (refine J2 ?_; intro _ _) | (refine J3 ?_; intro _ _) | (refine J4 ?_; intro _ _) | refine K1 ?_ | refine K0 ?_ | refine K2 ?_ | refine K3 ?_ | refine K4 ?_ | (refine CV_pu ?_; intro _ _ _ _) | refine fV_ldN ?_ | refine fV_ld1 ?_ | refine fHV_ldN ?_ | refine fHV_ld1 ?_ | refine NilW_some ?_ | refine iCW_1 ?_ | refine iCW_N ?_ | refine Pk_b ?_))
    refine Cond_d (fun h' => ?_) (fun h' => ?_)
    · exact ⟨_, _, hS2, by rw [pendIdx, fidx_some h2 (List.getElem?_eq_getElem hlt) (by simpa using h')]⟩
    · (repeat (first | (refine iDr ?_; intro _ _) | refine V_run ?_ | refine PV_run ?_ | refine HV_run ?_ | refine iV_ld1 ?_ | refine iV_ldN ?_ | (refine iV_bx ?_; intro _ _ _ _) | (refine iV_al ?_; intro _ _ _ _) | (refine iV_mm ?_; intro _ _ _ _) | (refine iU_st ?_; intro _ _) | refine iHV_1 ?_ | refine iHV_N ?_ | refine iRI_1 ?_ | refine iRI_N ?_ | refine Cond_t ?_ | refine Cond_f ?_ | refine JB ?_ | (refine JC ?_; intro _ _ _ _) | (refine J1 ?_; intro _ _) | (refine J0 ?_; intro _ _) | (refine J2 ?_; intro _ _) | (refine J3 ?_; intro _ _) | (refine J4 ?_; intro _ _) | refine K1 ?_ | refine K0 ?_ | refine K2 ?_ | refine K3 ?_ | refine K4 ?_ | (refine CV_pu ?_; intro _ _ _ _) | refine fV_ldN ?_ | refine fV_ld1 ?_ | refine fHV_ldN ?_ | refine fHV_ld1 ?_ | refine NilW_some ?_ | refine iCW_1 ?_ | refine iCW_N ?_ | refine Pk_b ?_))
      refine back (i + 1) _ _ ⟨by simp, by omega, fun j y' hj hjy => ?_, hS2⟩ (by omega)
      by_cases hji : j = i
      · subst hji; rw [List.getElem?_eq_getElem hlt] at hjy; cases hjy; simpa using h'
      · exact h2 j y' (by omega) hjy
  · exact ⟨_, _, hS2, by rw [pendIdx, fidx_none fun j y hy => h2 j y (by have := (List.getElem?_eq_some_iff.1 hy).1; omega) hy]⟩)
theorem SlR.take {α : Type} {E : El α} {z : Z} {a : Option Addr} {n cap k : Nat} {xs : List α} (h : SlR E z (.slice a n cap) xs) (hk : k ≤ xs.length) : SlR E z (.slice a k cap) (xs.take k) := by
  obtain ⟨a', cap', h1, h2, h3, h4⟩ := h
  cases h1
  refine ⟨a, cap, by rw [List.length_take, Nat.min_eq_left hk], by rw [List.length_take]; omega, by rw [List.length_take]; omega, fun hn => ?_⟩
  obtain ⟨b, off, h5, h6⟩ := h4 (by intro e; subst e; simp at hn)
  refine ⟨b, off, h5, fun i x hx => h6 i x ?_⟩
  rw [List.getElem?_take] at hx
  split at hx
  · exact hx
  · cases hx
end Go.Proofs.Ytjnckainogpenaa
end

section
/- The reference's check; equality of states. -/
set_option linter.unusedVariables false
set_option maxRecDepth 20000
set_option synthInstance.maxHeartbeats 400000
set_option synthInstance.maxSize 4000
namespace Go.Proofs.Ytjnckainogpenaa
open Go Q Go.RowKit

theorem deferred_eq (n : Int) : deferred n = (cond n && !immediate n) := by
  simp only [deferred, cond, immediate]
  rw [Bool.eq_iff_iff]
  simp
  omega
theorem rightFrame {v : Value} {f : FrM} {z : Z} {w : World} (hf : FrR z v f) : Fn1 84 #[v] z w fun _ r => r = .bool (framedB f) := Fn1.intro fun hS => en84 (by
  unfold vc84
  obtain ⟨cs, rfl, v1, v2, rfl, hv1, hv2, hd⟩ := hf
  obtain ⟨hb1, a1, cap1, rfl, hc1, hel1⟩ := hv1.form
  obtain ⟨hb2, a2, cap2, rfl, hc2, hel2⟩ := hv2.form
  haveI : Sm f.info.desc := ⟨hd⟩
  dsimp only [InM.cells]
  refine iV_bx ?_
  intro b0 w1 hb0 hS1
  (repeat (first | (refine iDr ?_; intro _ _) | refine V_run ?_ | refine PV_run ?_ | refine HV_run ?_ | refine iV_ld1 ?_ | refine iV_ldN ?_ | (refine iV_bx ?_; intro _ _ _ _) | (refine iV_al ?_; intro _ _ _ _) | (refine iV_mm ?_; intro _ _ _ _) | (refine iU_st ?_; intro _ _) | refine iHV_1 ?_ | refine iHV_N ?_ | refine iRI_1 ?_ | refine iRI_N ?_ | refine Cond_t ?_ | refine Cond_f ?_ | refine JB ?_ | (refine JC ?_; intro _ _ _ _) | (refine J1 ?_; intro _ _) | (refine J0 ?_; intro _ _) | (refine J2 ?_; intro _ _) | (refine J3 ?_; intro _ _) | (refine J4 ?_; intro _ _) | refine K1 ?_ | refine K0 ?_ | refine K2 ?_ | refine K3 ?_ | refine K4 ?_ | (refine CV_pu ?_; intro _ _ _ _) | refine fV_ldN ?_ | refine fV_ld1 ?_ | refine fHV_ldN ?_ | refine fHV_ld1 ?_ | refine NilW_some ?_ | refine iCW_1 ?_ | refine iCW_N ?_ | refine Pk_b ?_))
  rename_i z1 w1' hz1 hS1'
  refine Cond_b (fun h => ?_) (fun h => ?_)
  · refine ⟨_, _, hS1', ?_⟩
    congr 1
    simp only [cond_eq_ite] at h
    rw [framedB]
    by_cases h6 : f.traps.length = 6
    · simp [h6] at h; simp [h]
    · simp [h6]
  · have h6 : f.traps.length = 6 ∧ infoB f.info = true := by
      simp only [cond_eq_ite] at h
      by_cases h6 : f.traps.length = 6
      · simp [h6] at h; exact ⟨h6, h⟩
      · exfalso
        revert h
        have : ¬ ((f.traps.length : Int) = 6) := by omega
        simp [this]
    refine LoopG1 (fun (i : Nat) x w' => x = .int .i64 i ∧ i ≤ f.traps.length ∧ trapsFrom 0 f.traps = trapsFrom i (f.traps.drop i) ∧ ∃ z', Res w z [] w' z' [(b0, .cells [.slice a1 f.traps.length cap1, .slice a2 f.pend.length cap2, .int .i64 f.info.cond, .int .i64 f.info.mode, .string f.info.desc].toArray 63 (0, 0))]) (fun i => f.traps.length - i) 0 ⟨rfl, by omega, rfl, _, hS1'⟩ ?_
    rintro I M i x w2 m ⟨rfl, h1, h2, z2, hS2⟩ back
    (repeat (first | (refine iDr ?_; intro _ _) | refine V_run ?_ | refine PV_run ?_ | refine HV_run ?_ | refine iV_ld1 ?_ | refine iV_ldN ?_ | (refine iV_bx ?_; intro _ _ _ _) | (refine iV_al ?_; intro _ _ _ _) | (refine iV_mm ?_; intro _ _ _ _) | (refine iU_st ?_; intro _ _) | refine iHV_1 ?_ | refine iHV_N ?_ | refine iRI_1 ?_ | refine iRI_N ?_ | refine Cond_t ?_ | refine Cond_f ?_ | refine JB ?_ | (refine JC ?_; intro _ _ _ _) | (refine J1 ?_; intro _ _) | (refine J0 ?_; intro _ _) | (refine J2 ?_; intro _ _) | (refine J3 ?_; intro _ _) | (refine J4 ?_; intro _ _) | refine K1 ?_ | refine K0 ?_ | refine K2 ?_ | refine K3 ?_ | refine K4 ?_ | (refine CV_pu ?_; intro _ _ _ _) | refine fV_ldN ?_ | refine fV_ld1 ?_ | refine fHV_ldN ?_ | refine fHV_ld1 ?_ | refine NilW_some ?_ | refine iCW_1 ?_ | refine iCW_N ?_ | refine Pk_b ?_))
    refine Cond_d (fun h => ?_) (fun h => ?_)
    · have hlt : i < f.traps.length := by omega
      obtain ⟨b, off, cs, rfl, ⟨rfl, hr⟩, hat⟩ := hel1 i _ (List.getElem?_eq_getElem hlt)
      haveI : InR (i : Int) f.traps.length := ⟨by omega, by omega⟩
      haveI : InR (i : Int) 6 := ⟨by omega, by omega⟩
      haveI : Sm (f.traps[i]).label := ⟨hr⟩
      haveI : InI ((i : Int) + 1) := ⟨by omega⟩
      (repeat (first | (refine iDr ?_; intro _ _) | refine V_run ?_ | refine PV_run ?_ | refine HV_run ?_ | refine iV_ld1 ?_ | refine iV_ldN ?_ | (refine iV_bx ?_; intro _ _ _ _) | (refine iV_al ?_; intro _ _ _ _) | (refine iV_mm ?_; intro _ _ _ _) | (refine iU_st ?_; intro _ _) | refine iHV_1 ?_ | refine iHV_N ?_ | refine iRI_1 ?_ | refine iRI_N ?_ | refine Cond_t ?_ | refine Cond_f ?_ | refine JB ?_ | (refine JC ?_; intro _ _ _ _) | (refine J1 ?_; intro _ _) | (refine J0 ?_; intro _ _) | (refine J2 ?_; intro _ _) | (refine J3 ?_; intro _ _) | (refine J4 ?_; intro _ _) | refine K1 ?_ | refine K0 ?_ | refine K2 ?_ | refine K3 ?_ | refine K4 ?_ | (refine CV_pu ?_; intro _ _ _ _) | refine fV_ldN ?_ | refine fV_ld1 ?_ | refine fHV_ldN ?_ | refine fHV_ld1 ?_ | refine NilW_some ?_ | refine iCW_1 ?_ | refine iCW_N ?_ | refine Pk_b ?_))
      simp only [Int.toNat_natCast]
      refine zV_ldN (hat.mono hS2.zle) rfl ?_
      dsimp only [TrM.cells]
      (repeat (first | (refine iDr ?_; intro _ _) | refine V_run ?_ | refine PV_run ?_ | refine HV_run ?_ | refine iV_ld1 ?_ | refine iV_ldN ?_ | (refine iV_bx ?_; intro _ _ _ _) | (refine iV_al ?_; intro _ _ _ _) | (refine iV_mm ?_; intro _ _ _ _) | (refine iU_st ?_; intro _ _) | refine iHV_1 ?_ | refine iHV_N ?_ | refine iRI_1 ?_ | refine iRI_N ?_ | refine Cond_t ?_ | refine Cond_f ?_ | refine JB ?_ | (refine JC ?_; intro _ _ _ _) | (refine J1 ?_; intro _ _) | (refine J0 ?_; intro _ _) | (refine J2 ?_; intro _ _) | (refine J3 ?_; intro _ _) | (refine J4 ?_; intro _ _) | refine K1 ?_ | refine K0 ?_ | refine K2 ?_ | refine K3 ?_ | refine K4 ?_ | (refine CV_pu ?_; intro _ _ _ _) | refine fV_ldN ?_ | refine fV_ld1 ?_ | refine fHV_ldN ?_ | refine fHV_ld1 ?_ | refine NilW_some ?_ | refine iCW_1 ?_ | refine iCW_N ?_ | refine Pk_b ?_))
      rw [List.drop_eq_getElem_cons hlt] at h2
      simp only [trapsFrom] at h2
      refine Cond_n (fun h' => ?_) (fun h' => ?_)
      · exact ⟨_, _, ‹_›, by rw [framedB, h2, show trapOk (i : Int) (f.traps[i]) = false from h']; simp⟩
      · (repeat (first | (refine iDr ?_; intro _ _) | refine V_run ?_ | refine PV_run ?_ | refine HV_run ?_ | refine iV_ld1 ?_ | refine iV_ldN ?_ | (refine iV_bx ?_; intro _ _ _ _) | (refine iV_al ?_; intro _ _ _ _) | (refine iV_mm ?_; intro _ _ _ _) | (refine iU_st ?_; intro _ _) | refine iHV_1 ?_ | refine iHV_N ?_ | refine iRI_1 ?_ | refine iRI_N ?_ | refine Cond_t ?_ | refine Cond_f ?_ | refine JB ?_ | (refine JC ?_; intro _ _ _ _) | (refine J1 ?_; intro _ _) | (refine J0 ?_; intro _ _) | (refine J2 ?_; intro _ _) | (refine J3 ?_; intro _ _) | (refine J4 ?_; intro _ _) | refine K1 ?_ | refine K0 ?_ | refine K2 ?_ | refine K3 ?_ | refine K4 ?_ | (refine CV_pu ?_; intro _ _ _ _) | refine fV_ldN ?_ | refine fV_ld1 ?_ | refine fHV_ldN ?_ | refine fHV_ld1 ?_ | refine NilW_some ?_ | refine iCW_1 ?_ | refine iCW_N ?_ | refine Pk_b ?_))
        exact back (i + 1) _ _ ⟨by simp, by omega, by rw [h2, show trapOk (i : Int) (f.traps[i]) = true from h']; simp, _, ‹_›⟩ (by omega)
    · have hdone : f.traps.drop i = [] := List.drop_of_length_le (by omega)
      rw [hdone] at h2
      refine LoopG1 (fun (i : Nat) x w' => x = .int .i64 i ∧ i ≤ f.pend.length ∧ pendFrom [] f.pend = pendFrom (f.pend.take i) (f.pend.drop i) ∧ ∃ z', Res w z [] w' z' [(b0, .cells [.slice a1 f.traps.length cap1, .slice a2 f.pend.length cap2, .int .i64 f.info.cond, .int .i64 f.info.mode, .string f.info.desc].toArray 63 (0, 0))]) (fun i => f.pend.length - i) 0 ⟨rfl, by omega, rfl, z2, hS2⟩ ?_
      rintro I M i x w4 m ⟨rfl, h1', h2', z4, hS4⟩ back
      (repeat (first | (refine iDr ?_; intro _ _) | refine V_run ?_ | refine PV_run ?_ | refine HV_run ?_ | refine iV_ld1 ?_ | refine iV_ldN ?_ | (refine iV_bx ?_; intro _ _ _ _) | (refine iV_al ?_; intro _ _ _ _) | (refine iV_mm ?_; intro _ _ _ _) | (refine iU_st ?_; intro _ _) | refine iHV_1 ?_ | refine iHV_N ?_ | refine iRI_1 ?_ | refine iRI_N ?_ | refine Cond_t ?_ | refine Cond_f ?_ | refine JB ?_ | (refine JC ?_; intro _ _ _ _) | (refine J1 ?_; intro _ _) | (refine J0 ?_; intro _ _) | (refine J2 ?_; intro _ _) | (refine J3 ?_; intro _ _) | (refine J4 ?_; intro _ _) | refine K1 ?_ | refine K0 ?_ | refine K2 ?_ | refine K3 ?_ | refine K4 ?_ | (refine CV_pu ?_; intro _ _ _ _) | refine fV_ldN ?_ | refine fV_ld1 ?_ | refine fHV_ldN ?_ | refine fHV_ld1 ?_ | refine NilW_some ?_ | refine iCW_1 ?_ | refine iCW_N ?_ | refine Pk_b ?_))
      refine Cond_d (fun h => ?_) (fun h => ?_)
      · have hlt : i < f.pend.length := by omega
        obtain ⟨b, off, cs, rfl, ⟨rfl, hr⟩, hat⟩ := hel2 i _ (List.getElem?_eq_getElem hlt)
        haveI : InR (i : Int) f.pend.length := ⟨by omega, by omega⟩
        haveI : InR (i : Int) (cap2 + 1) := ⟨by omega, by omega⟩
        haveI : Sm (f.pend[i]).desc := ⟨hr⟩
        haveI : InI ((i : Int) + 1) := ⟨by simp only [big] at hb2; omega⟩
        (repeat (first | (refine iDr ?_; intro _ _) | refine V_run ?_ | refine PV_run ?_ | refine HV_run ?_ | refine iV_ld1 ?_ | refine iV_ldN ?_ | (refine iV_bx ?_; intro _ _ _ _) | (refine iV_al ?_; intro _ _ _ _) | (refine iV_mm ?_; intro _ _ _ _) | (refine iU_st ?_; intro _ _) | refine iHV_1 ?_ | refine iHV_N ?_ | refine iRI_1 ?_ | refine iRI_N ?_ | refine Cond_t ?_ | refine Cond_f ?_ | refine JB ?_ | (refine JC ?_; intro _ _ _ _) | (refine J1 ?_; intro _ _) | (refine J0 ?_; intro _ _) | (refine J2 ?_; intro _ _) | (refine J3 ?_; intro _ _) | (refine J4 ?_; intro _ _) | refine K1 ?_ | refine K0 ?_ | refine K2 ?_ | refine K3 ?_ | refine K4 ?_ | (refine CV_pu ?_; intro _ _ _ _) | refine fV_ldN ?_ | refine fV_ld1 ?_ | refine fHV_ldN ?_ | refine fHV_ld1 ?_ | refine NilW_some ?_ | refine iCW_1 ?_ | refine iCW_N ?_ | refine Pk_b ?_))
        simp only [Int.toNat_natCast]
        refine zV_ldN (hat.mono hS4.zle) rfl ?_
        dsimp only [RaM.cells]
        rw [List.drop_eq_getElem_cons hlt] at h2'
        simp only [pendFrom] at h2'
        have hra : raOk (f.pend.take i) f.pend[i] = (deferred f.pend[i].cond && descB f.pend[i].desc && !decide (pendIdx (f.pend.take i) f.pend[i].cond ≥ 0)) := by
          rw [pendIdx, fidx_ge, raOk, ← deferred_eq]
          have : ((f.pend.take i).any fun x => x.cond == f.pend[i].cond) = ((f.pend.take i).any fun x => decide (x.cond = f.pend[i].cond)) := by
            congr 1
          rw [this]
          cases deferred f.pend[i].cond <;> cases descB f.pend[i].desc <;> simp
        (repeat (first | (refine iDr ?_; intro _ _) | refine V_run ?_ | refine PV_run ?_ | refine HV_run ?_ | refine iV_ld1 ?_ | refine iV_ldN ?_ | (refine iV_bx ?_; intro _ _ _ _) | (refine iV_al ?_; intro _ _ _ _) | (refine iV_mm ?_; intro _ _ _ _) | (refine iU_st ?_; intro _ _) | refine iHV_1 ?_ | refine iHV_N ?_ | refine iRI_1 ?_ | refine iRI_N ?_ | refine Cond_t ?_ | refine Cond_f ?_ | refine JB ?_ | (refine JC ?_; intro _ _ _ _) | (refine J1 ?_; intro _ _) | (refine J0 ?_; intro _ _) | (refine J2 ?_; intro _ _) | (refine J3 ?_; intro _ _) | (refine J4 ?_; intro _ _) | refine K1 ?_ | refine K0 ?_ | refine K2 ?_ | refine K3 ?_ | refine K4 ?_ | (refine CV_pu ?_; intro _ _ _ _) | refine fV_ldN ?_ | refine fV_ld1 ?_ | refine fHV_ldN ?_ | refine fHV_ld1 ?_ | refine NilW_some ?_ | refine iCW_1 ?_ | refine iCW_N ?_ | refine Pk_b ?_))
        refine Cond_n (fun h' => ?_) (fun h' => ?_)
        · (repeat (first | (refine iDr ?_; intro _ _) | refine V_run ?_ | refine PV_run ?_ | refine HV_run ?_ | refine iV_ld1 ?_ | refine iV_ldN ?_ | (refine iV_bx ?_; intro _ _ _ _) | (refine iV_al ?_; intro _ _ _ _) | (refine iV_mm ?_; intro _ _ _ _) | (refine iU_st ?_; intro _ _) | refine iHV_1 ?_ | refine iHV_N ?_ | refine iRI_1 ?_ | refine iRI_N ?_ | refine Cond_t ?_ | refine Cond_f ?_ | refine JB ?_ | (refine JC ?_; intro _ _ _ _) | (refine J1 ?_; intro _ _) | (refine J0 ?_; intro _ _) | (refine J2 ?_; intro _ _) | (refine J3 ?_; intro _ _) | (refine J4 ?_; intro _ _) | refine K1 ?_ | refine K0 ?_ | refine K2 ?_ | refine K3 ?_ | refine K4 ?_ | (refine CV_pu ?_; intro _ _ _ _) | refine fV_ldN ?_ | refine fV_ld1 ?_ | refine fHV_ldN ?_ | refine fHV_ld1 ?_ | refine NilW_some ?_ | refine iCW_1 ?_ | refine iCW_N ?_ | refine Pk_b ?_))
          exact ⟨_, _, ‹_›, by rw [framedB, h2', hra, h']; simp⟩
        · (repeat (first | (refine iDr ?_; intro _ _) | refine V_run ?_ | refine PV_run ?_ | refine HV_run ?_ | refine iV_ld1 ?_ | refine iV_ldN ?_ | (refine iV_bx ?_; intro _ _ _ _) | (refine iV_al ?_; intro _ _ _ _) | (refine iV_mm ?_; intro _ _ _ _) | (refine iU_st ?_; intro _ _) | refine iHV_1 ?_ | refine iHV_N ?_ | refine iRI_1 ?_ | refine iRI_N ?_ | refine Cond_t ?_ | refine Cond_f ?_ | refine JB ?_ | (refine JC ?_; intro _ _ _ _) | (refine J1 ?_; intro _ _) | (refine J0 ?_; intro _ _) | (refine J2 ?_; intro _ _) | (refine J3 ?_; intro _ _) | (refine J4 ?_; intro _ _) | refine K1 ?_ | refine K0 ?_ | refine K2 ?_ | refine K3 ?_ | refine K4 ?_ | (refine CV_pu ?_; intro _ _ _ _) | refine fV_ldN ?_ | refine fV_ld1 ?_ | refine fHV_ldN ?_ | refine fHV_ld1 ?_ | refine NilW_some ?_ | refine iCW_1 ?_ | refine iCW_N ?_ | refine Pk_b ?_))
          refine Cond_n (fun h'' => ?_) (fun h'' => ?_)
          · (repeat (first | (refine iDr ?_; intro _ _) | refine V_run ?_ | refine PV_run ?_ | refine HV_run ?_ | refine iV_ld1 ?_ | refine iV_ldN ?_ | (refine iV_bx ?_; intro _ _ _ _) | (refine iV_al ?_; intro _ _ _ _) | (refine iV_mm ?_; intro _ _ _ _) | (refine iU_st ?_; intro _ _) | refine iHV_1 ?_ | refine iHV_N ?_ | refine iRI_1 ?_ | refine iRI_N ?_ | refine Cond_t ?_ | refine Cond_f ?_ | refine JB ?_ | (refine JC ?_; intro _ _ _ _) | (refine J1 ?_; intro _ _) | (refine J0 ?_; intro _ _) | (refine J2 ?_; intro _ _) | (refine J3 ?_; intro _ _) | (refine J4 ?_; intro _ _) | refine K1 ?_ | refine K0 ?_ | refine K2 ?_ | refine K3 ?_ | refine K4 ?_ | (refine CV_pu ?_; intro _ _ _ _) | refine fV_ldN ?_ | refine fV_ld1 ?_ | refine fHV_ldN ?_ | refine fHV_ld1 ?_ | refine NilW_some ?_ | refine iCW_1 ?_ | refine iCW_N ?_ | refine Pk_b ?_))
            exact ⟨_, _, ‹_›, by rw [framedB, h2', hra, h', h'']; simp⟩
          · (repeat (first | (refine iDr ?_; intro _ _) | refine V_run ?_ | refine PV_run ?_ | refine HV_run ?_ | refine iV_ld1 ?_ | refine iV_ldN ?_ | (refine iV_bx ?_; intro _ _ _ _) | (refine iV_al ?_; intro _ _ _ _) | (refine iV_mm ?_; intro _ _ _ _) | (refine iU_st ?_; intro _ _) | refine iHV_1 ?_ | refine iHV_N ?_ | refine iRI_1 ?_ | refine iRI_N ?_ | refine Cond_t ?_ | refine Cond_f ?_ | refine JB ?_ | (refine JC ?_; intro _ _ _ _) | (refine J1 ?_; intro _ _) | (refine J0 ?_; intro _ _) | (refine J2 ?_; intro _ _) | (refine J3 ?_; intro _ _) | (refine J4 ?_; intro _ _) | refine K1 ?_ | refine K0 ?_ | refine K2 ?_ | refine K3 ?_ | refine K4 ?_ | (refine CV_pu ?_; intro _ _ _ _) | refine fV_ldN ?_ | refine fV_ld1 ?_ | refine fHV_ldN ?_ | refine fHV_ld1 ?_ | refine NilW_some ?_ | refine iCW_1 ?_ | refine iCW_N ?_ | refine Pk_b ?_))
            refine CV_1z (fun hz => pending ((hv2.take (k := i) (by omega)).mono hz)) ?_
            rintro z9 w9 v9 hle9 hS9 rfl
            (repeat (first | (refine iDr ?_; intro _ _) | refine V_run ?_ | refine PV_run ?_ | refine HV_run ?_ | refine iV_ld1 ?_ | refine iV_ldN ?_ | (refine iV_bx ?_; intro _ _ _ _) | (refine iV_al ?_; intro _ _ _ _) | (refine iV_mm ?_; intro _ _ _ _) | (refine iU_st ?_; intro _ _) | refine iHV_1 ?_ | refine iHV_N ?_ | refine iRI_1 ?_ | refine iRI_N ?_ | refine Cond_t ?_ | refine Cond_f ?_ | refine JB ?_ | (refine JC ?_; intro _ _ _ _) | (refine J1 ?_; intro _ _) | (refine J0 ?_; intro _ _) | (refine J2 ?_; intro _ _) | (refine J3 ?_; intro _ _) | (refine J4 ?_; intro _ _) | refine K1 ?_ | refine K0 ?_ | refine K2 ?_ | refine K3 ?_ | refine K4 ?_ | (refine CV_pu ?_; intro _ _ _ _) | refine fV_ldN ?_ | refine fV_ld1 ?_ | refine fHV_ldN ?_ | refine fHV_ld1 ?_ | refine NilW_some ?_ | refine iCW_1 ?_ | refine iCW_N ?_ | refine Pk_b ?_))
            refine Cond_d (fun h3 => ?_) (fun h3 => ?_)
            · exact ⟨_, _, ‹_›, by rw [framedB, h2', hra, decide_eq_true h3]; simp⟩
            · (repeat (first | (refine iDr ?_; intro _ _) | refine V_run ?_ | refine PV_run ?_ | refine HV_run ?_ | refine iV_ld1 ?_ | refine iV_ldN ?_ | (refine iV_bx ?_; intro _ _ _ _) | (refine iV_al ?_; intro _ _ _ _) | (refine iV_mm ?_; intro _ _ _ _) | (refine iU_st ?_; intro _ _) | refine iHV_1 ?_ | refine iHV_N ?_ | refine iRI_1 ?_ | refine iRI_N ?_ | refine Cond_t ?_ | refine Cond_f ?_ | refine JB ?_ | (refine JC ?_; intro _ _ _ _) | (refine J1 ?_; intro _ _) | (refine J0 ?_; intro _ _) | (refine J2 ?_; intro _ _) | (refine J3 ?_; intro _ _) | (refine J4 ?_; intro _ _) | refine K1 ?_ | refine K0 ?_ | refine K2 ?_ | refine K3 ?_ | refine K4 ?_ | (refine CV_pu ?_; intro _ _ _ _) | refine fV_ldN ?_ | refine fV_ld1 ?_ | refine fHV_ldN ?_ | refine fHV_ld1 ?_ | refine NilW_some ?_ | refine iCW_1 ?_ | refine iCW_N ?_ | refine Pk_b ?_))
              refine back (i + 1) _ _ ⟨by simp, by omega, ?_, _, Res.tl ‹_›⟩ (by omega)
              rw [h2', hra, h', h'', decide_eq_false h3, List.take_append_getElem hlt]; rfl
      · have hpd : f.pend.drop i = [] := List.drop_of_length_le (by omega)
        rw [hpd] at h2'
        exact ⟨_, _, ‹_›, by simp [framedB, h6, h2, h2', trapsFrom, pendFrom]⟩)
theorem refCheck {v : Value} {s : StM} {z : Z} {w : World} (hs : StR z v s) : Fn1 44 #[v] z w fun _ r => r = .int .i64 (errOf (checkB s) 2) := Fn1.intro fun hS => en44 (by
  unfold vc44
  obtain ⟨u, rfl, hu⟩ := hs
  obtain ⟨hb, a, cap, rfl, hc, hel⟩ := hu.form
  refine iV_bx ?_
  intro b0 w1 hb0 hS1
  (repeat (first | (refine iDr ?_; intro _ _) | refine V_run ?_ | refine PV_run ?_ | refine HV_run ?_ | refine iV_ld1 ?_ | refine iV_ldN ?_ | (refine iV_bx ?_; intro _ _ _ _) | (refine iV_al ?_; intro _ _ _ _) | (refine iV_mm ?_; intro _ _ _ _) | (refine iU_st ?_; intro _ _) | refine iHV_1 ?_ | refine iHV_N ?_ | refine iRI_1 ?_ | refine iRI_N ?_ | refine Cond_t ?_ | refine Cond_f ?_ | refine JB ?_ | (refine JC ?_; intro _ _ _ _) | (refine J1 ?_; intro _ _) | (refine J0 ?_; intro _ _) | (refine J2 ?_; intro _ _) | (refine J3 ?_; intro _ _) | (refine J4 ?_; intro _ _) | refine K1 ?_ | refine K0 ?_ | refine K2 ?_ | refine K3 ?_ | refine K4 ?_ | (refine CV_pu ?_; intro _ _ _ _) | refine fV_ldN ?_ | refine fV_ld1 ?_ | refine fHV_ldN ?_ | refine fHV_ld1 ?_ | refine NilW_some ?_ | refine iCW_1 ?_ | refine iCW_N ?_ | refine Pk_b ?_))
  refine Cond_b (fun h => ?_) (fun h => ?_)
  · refine ⟨_, _, ‹_›, ?_⟩
    have : (decide (1 ≤ s.length) && decide (s.length ≤ 30)) = false := by
      simp only [cond_eq_ite] at h
      by_cases h1 : (s.length : Int) < 1 <;> simp [h1] at h <;> simp <;> omega
    simp only [errOf, checkB, this, Bool.false_and]
    rfl
  · have h : 1 ≤ s.length ∧ s.length ≤ 30 := by
      simp only [cond_eq_ite] at h
      by_cases h1 : (s.length : Int) < 1 <;> simp [h1] at h <;> omega
    refine LoopG1 (fun (i : Nat) x w' => x = .int .i64 i ∧ i ≤ s.length ∧ s.all framedB = (s.drop i).all framedB ∧ ∃ z', Res w z [] w' z' [(b0, .cells [.slice a s.length cap].toArray 28 (0, 0))]) (fun i => s.length - i) 0 ⟨rfl, by omega, rfl, _, ‹_›⟩ ?_
    rintro I M i x w2 m ⟨rfl, h1, h2, z2, hS2⟩ back
    (repeat (first | (refine iDr ?_; intro _ _) | refine V_run ?_ | refine PV_run ?_ | refine HV_run ?_ | refine iV_ld1 ?_ | refine iV_ldN ?_ | (refine iV_bx ?_; intro _ _ _ _) | (refine iV_al ?_; intro _ _ _ _) | (refine iV_mm ?_; intro _ _ _ _) | (refine iU_st ?_; intro _ _) | refine iHV_1 ?_ | refine iHV_N ?_ | refine iRI_1 ?_ | refine iRI_N ?_ | refine Cond_t ?_ | refine Cond_f ?_ | refine JB ?_ | (refine JC ?_; intro _ _ _ _) | (refine J1 ?_; intro _ _) | (refine J0 ?_; intro _ _) | (refine J2 ?_; intro _ _) | (refine J3 ?_; intro _ _) | (refine J4 ?_; intro _ _) | refine K1 ?_ | refine K0 ?_ | refine K2 ?_ | refine K3 ?_ | refine K4 ?_ | (refine CV_pu ?_; intro _ _ _ _) | refine fV_ldN ?_ | refine fV_ld1 ?_ | refine fHV_ldN ?_ | refine fHV_ld1 ?_ | refine NilW_some ?_ | refine iCW_1 ?_ | refine iCW_N ?_ | refine Pk_b ?_))
    refine Cond_d (fun hh => ?_) (fun hh => ?_)
    · have hlt : i < s.length := by omega
      obtain ⟨b, off, cs, rfl, hr, hat⟩ := hel i _ (List.getElem?_eq_getElem hlt)
      haveI : InR (i : Int) s.length := ⟨by omega, by omega⟩
      haveI : InI ((i : Int) + 1) := ⟨by omega⟩
      haveI : Fz z b (off + (i : Int).toNat * 5) cs := ⟨by rw [Int.toNat_natCast]; exact hat⟩
      haveI : LenIs cs 5 := ⟨El.frame.len hr⟩
      (repeat (first | (refine iDr ?_; intro _ _) | refine V_run ?_ | refine PV_run ?_ | refine HV_run ?_ | refine iV_ld1 ?_ | refine iV_ldN ?_ | (refine iV_bx ?_; intro _ _ _ _) | (refine iV_al ?_; intro _ _ _ _) | (refine iV_mm ?_; intro _ _ _ _) | (refine iU_st ?_; intro _ _) | refine iHV_1 ?_ | refine iHV_N ?_ | refine iRI_1 ?_ | refine iRI_N ?_ | refine Cond_t ?_ | refine Cond_f ?_ | refine JB ?_ | (refine JC ?_; intro _ _ _ _) | (refine J1 ?_; intro _ _) | (refine J0 ?_; intro _ _) | (refine J2 ?_; intro _ _) | (refine J3 ?_; intro _ _) | (refine J4 ?_; intro _ _) | refine K1 ?_ | refine K0 ?_ | refine K2 ?_ | refine K3 ?_ | refine K4 ?_ | (refine CV_pu ?_; intro _ _ _ _) | refine fV_ldN ?_ | refine fV_ld1 ?_ | refine fHV_ldN ?_ | refine fHV_ld1 ?_ | refine NilW_some ?_ | refine iCW_1 ?_ | refine iCW_N ?_ | refine Pk_b ?_))
      refine CV_1z (fun hz => rightFrame ⟨cs, rfl, El.frame.mono hr hz⟩) ?_
      rintro z9 w9 v9 hle9 hS9 rfl
      (repeat (first | (refine iDr ?_; intro _ _) | refine V_run ?_ | refine PV_run ?_ | refine HV_run ?_ | refine iV_ld1 ?_ | refine iV_ldN ?_ | (refine iV_bx ?_; intro _ _ _ _) | (refine iV_al ?_; intro _ _ _ _) | (refine iV_mm ?_; intro _ _ _ _) | (refine iU_st ?_; intro _ _) | refine iHV_1 ?_ | refine iHV_N ?_ | refine iRI_1 ?_ | refine iRI_N ?_ | refine Cond_t ?_ | refine Cond_f ?_ | refine JB ?_ | (refine JC ?_; intro _ _ _ _) | (refine J1 ?_; intro _ _) | (refine J0 ?_; intro _ _) | (refine J2 ?_; intro _ _) | (refine J3 ?_; intro _ _) | (refine J4 ?_; intro _ _) | refine K1 ?_ | refine K0 ?_ | refine K2 ?_ | refine K3 ?_ | refine K4 ?_ | (refine CV_pu ?_; intro _ _ _ _) | refine fV_ldN ?_ | refine fV_ld1 ?_ | refine fHV_ldN ?_ | refine fHV_ld1 ?_ | refine NilW_some ?_ | refine iCW_1 ?_ | refine iCW_N ?_ | refine Pk_b ?_))
      rw [List.drop_eq_getElem_cons hlt] at h2
      simp only [List.all_cons] at h2
      refine Cond_n (fun h' => ?_) (fun h' => ?_)
      · exact ⟨_, _, ‹_›, by simp only [errOf, checkB, h2, h', Bool.false_and, Bool.and_false]; rfl⟩
      · (repeat (first | (refine iDr ?_; intro _ _) | refine V_run ?_ | refine PV_run ?_ | refine HV_run ?_ | refine iV_ld1 ?_ | refine iV_ldN ?_ | (refine iV_bx ?_; intro _ _ _ _) | (refine iV_al ?_; intro _ _ _ _) | (refine iV_mm ?_; intro _ _ _ _) | (refine iU_st ?_; intro _ _) | refine iHV_1 ?_ | refine iHV_N ?_ | refine iRI_1 ?_ | refine iRI_N ?_ | refine Cond_t ?_ | refine Cond_f ?_ | refine JB ?_ | (refine JC ?_; intro _ _ _ _) | (refine J1 ?_; intro _ _) | (refine J0 ?_; intro _ _) | (refine J2 ?_; intro _ _) | (refine J3 ?_; intro _ _) | (refine J4 ?_; intro _ _) | refine K1 ?_ | refine K0 ?_ | refine K2 ?_ | refine K3 ?_ | refine K4 ?_ | (refine CV_pu ?_; intro _ _ _ _) | refine fV_ldN ?_ | refine fV_ld1 ?_ | refine fHV_ldN ?_ | refine fHV_ld1 ?_ | refine NilW_some ?_ | refine iCW_1 ?_ | refine iCW_N ?_ | refine Pk_b ?_))
        exact back (i + 1) _ _ ⟨by simp, by omega, by rw [h2, h']; simp, _, ‹_›⟩ (by omega)
    · have hdone : s.drop i = [] := List.drop_of_length_le (by omega)
      rw [hdone] at h2
      exact ⟨_, _, ‹_›, by simp [errOf, checkB, h2, h]⟩)

/-! ### Equality -/
def listEq {α : Type} (q : α → α → Bool) : List α → List α → Bool
  | [], [] => true
  | x :: xs, y :: ys => q x y && listEq q xs ys
  | _, _ => false
theorem listEq_len {α : Type} {q : α → α → Bool} : ∀ {xs ys : List α}, listEq q xs ys = true → xs.length = ys.length
  | [], [], _ => rfl
  | x :: xs, y :: ys, h => by
    simp only [listEq, Bool.and_eq_true] at h
    simp [listEq_len h.2]
  | [], _ :: _, h => by simp [listEq] at h
  | _ :: _, [], h => by simp [listEq] at h
theorem listEq_iff {α : Type} {q : α → α → Bool} (hq : ∀ x y, q x y = true ↔ x = y) : ∀ {xs ys : List α}, listEq q xs ys = true ↔ xs = ys
  | [], [] => by simp [listEq]
  | x :: xs, y :: ys => by simp only [listEq, Bool.and_eq_true, hq, listEq_iff hq, List.cons.injEq]
  | [], _ :: _ => by simp [listEq]
  | _ :: _, [] => by simp [listEq]
theorem listEq_drop {α : Type} {q : α → α → Bool} {xs ys : List α} {i : Nat} (hx : i < xs.length) (hy : i < ys.length) : listEq q (xs.drop i) (ys.drop i) = (q xs[i] ys[i] && listEq q (xs.drop (i + 1)) (ys.drop (i + 1))) := by
  rw [List.drop_eq_getElem_cons hx, List.drop_eq_getElem_cons hy]
  rfl
theorem listEq_end {α : Type} {q : α → α → Bool} {xs ys : List α} {i : Nat} (hx : xs.length ≤ i) (hy : ys.length ≤ i) : listEq q (xs.drop i) (ys.drop i) = true := by
  rw [List.drop_of_length_le hx, List.drop_of_length_le hy]
  rfl
theorem listEq_ne {α : Type} {q : α → α → Bool} {xs ys : List α} (h : xs.length ≠ ys.length) : listEq q xs ys = false := by
  cases hh : listEq q xs ys with
  | false => rfl
  | true => exact absurd (listEq_len hh) h
theorem equalTraps {v v' : Value} {xs ys : List TrM} {z : Z} {w : World} (hx : SlR El.trap z v xs) (hy : SlR El.trap z v' ys) : Fn1 33 #[v, v'] z w fun _ r => r = .bool (listEq TrM.eqb xs ys) := Fn1.intro fun hS => en33 (by
  unfold vc33
  obtain ⟨hb, a, cap, rfl, hc, hel⟩ := hx.form
  obtain ⟨hb', a', cap', rfl, hc', hel'⟩ := hy.form
  (repeat (first | (refine iDr ?_; intro _ _) | refine V_run ?_ | refine PV_run ?_ | refine HV_run ?_ | refine iV_ld1 ?_ | refine iV_ldN ?_ | (refine iV_bx ?_; intro _ _ _ _) | (refine iV_al ?_; intro _ _ _ _) | (refine iV_mm ?_; intro _ _ _ _) | (refine iU_st ?_; intro _ _) | refine iHV_1 ?_ | refine iHV_N ?_ | refine iRI_1 ?_ | refine iRI_N ?_ | refine Cond_t ?_ | refine Cond_f ?_ | refine JB ?_ | (refine JC ?_; intro _ _ _ _) | (refine J1 ?_; intro _ _) | (refine J0 ?_; intro _ _) | (refine J2 ?_; intro _ _) | (refine J3 ?_; intro _ _) | (refine J4 ?_; intro _ _) | refine K1 ?_ | refine K0 ?_ | refine K2 ?_ | refine K3 ?_ | refine K4 ?_ | (refine CV_pu ?_; intro _ _ _ _) | refine fV_ldN ?_ | refine fV_ld1 ?_ | refine fHV_ldN ?_ | refine fHV_ld1 ?_ | refine NilW_some ?_ | refine iCW_1 ?_ | refine iCW_N ?_ | refine Pk_b ?_))
  refine Cond_nd (fun h => ?_) (fun h => ?_)
  · exact ⟨_, _, ‹_›, by rw [listEq_ne (by omega)]⟩
  · (repeat (first | (refine iDr ?_; intro _ _) | refine V_run ?_ | refine PV_run ?_ | refine HV_run ?_ | refine iV_ld1 ?_ | refine iV_ldN ?_ | (refine iV_bx ?_; intro _ _ _ _) | (refine iV_al ?_; intro _ _ _ _) | (refine iV_mm ?_; intro _ _ _ _) | (refine iU_st ?_; intro _ _) | refine iHV_1 ?_ | refine iHV_N ?_ | refine iRI_1 ?_ | refine iRI_N ?_ | refine Cond_t ?_ | refine Cond_f ?_ | refine JB ?_ | (refine JC ?_; intro _ _ _ _) | (refine J1 ?_; intro _ _) | (refine J0 ?_; intro _ _) | (refine J2 ?_; intro _ _) | (refine J3 ?_; intro _ _) | (refine J4 ?_; intro _ _) | refine K1 ?_ | refine K0 ?_ | refine K2 ?_ | refine K3 ?_ | refine K4 ?_ | (refine CV_pu ?_; intro _ _ _ _) | refine fV_ldN ?_ | refine fV_ld1 ?_ | refine fHV_ldN ?_ | refine fHV_ld1 ?_ | refine NilW_some ?_ | refine iCW_1 ?_ | refine iCW_N ?_ | refine Pk_b ?_))
    refine LoopG1 (fun (i : Nat) x w' => x = .int .i64 i ∧ i ≤ xs.length ∧ listEq TrM.eqb xs ys = listEq TrM.eqb (xs.drop i) (ys.drop i) ∧ Res w z [] w' z []) (fun i => xs.length - i) 0 ⟨rfl, by omega, rfl, hS⟩ ?_
    rintro I M i x w2 m ⟨rfl, h1, h2, hS2⟩ back
    (repeat (first | (refine iDr ?_; intro _ _) | refine V_run ?_ | refine PV_run ?_ | refine HV_run ?_ | refine iV_ld1 ?_ | refine iV_ldN ?_ | (refine iV_bx ?_; intro _ _ _ _) | (refine iV_al ?_; intro _ _ _ _) | (refine iV_mm ?_; intro _ _ _ _) | (refine iU_st ?_; intro _ _) | refine iHV_1 ?_ | refine iHV_N ?_ | refine iRI_1 ?_ | refine iRI_N ?_ | refine Cond_t ?_ | refine Cond_f ?_ | refine JB ?_ | (refine JC ?_; intro _ _ _ _) | (refine J1 ?_; intro _ _) | (refine J0 ?_; intro _ _) | (refine J2 ?_; intro _ _) | (refine J3 ?_; intro _ _) | (refine J4 ?_; intro _ _) | refine K1 ?_ | refine K0 ?_ | refine K2 ?_ | refine K3 ?_ | refine K4 ?_ | (refine CV_pu ?_; intro _ _ _ _) | refine fV_ldN ?_ | refine fV_ld1 ?_ | refine fHV_ldN ?_ | refine fHV_ld1 ?_ | refine NilW_some ?_ | refine iCW_1 ?_ | refine iCW_N ?_ | refine Pk_b ?_))
    refine Cond_d (fun hh => ?_) (fun hh => ?_)
    · have hlt : i < xs.length := by omega
      have hlt' : i < ys.length := by omega
      obtain ⟨b, off, cs, rfl, ⟨rfl, hr⟩, hat⟩ := hel i _ (List.getElem?_eq_getElem hlt)
      obtain ⟨b', off', cs', rfl, ⟨rfl, hr'⟩, hat'⟩ := hel' i _ (List.getElem?_eq_getElem hlt')
      haveI : InR (i : Int) xs.length := ⟨by omega, by omega⟩
      haveI : InR (i : Int) ys.length := ⟨by omega, by omega⟩
      haveI : InI ((i : Int) + 1) := ⟨by simp only [big] at hb; omega⟩
      haveI : Fz z b (off + (i : Int).toNat * 3) xs[i].cells := ⟨by rw [Int.toNat_natCast]; exact hat⟩
      haveI : Fz z b' (off' + (i : Int).toNat * 3) ys[i].cells := ⟨by rw [Int.toNat_natCast]; exact hat'⟩
      rw [listEq_drop hlt hlt'] at h2
      (repeat (first | (refine iDr ?_; intro _ _) | refine V_run ?_ | refine PV_run ?_ | refine HV_run ?_ | refine iV_ld1 ?_ | refine iV_ldN ?_ | (refine iV_bx ?_; intro _ _ _ _) | (refine iV_al ?_; intro _ _ _ _) | (refine iV_mm ?_; intro _ _ _ _) | (refine iU_st ?_; intro _ _) | refine iHV_1 ?_ | refine iHV_N ?_ | refine iRI_1 ?_ | refine iRI_N ?_ | refine Cond_t ?_ | refine Cond_f ?_ | refine JB ?_ | (refine JC ?_; intro _ _ _ _) | (refine J1 ?_; intro _ _) | (refine J0 ?_; intro _ _) | (refine J2 ?_; intro _ _) | (refine J3 ?_; intro _ _) | (refine J4 ?_; intro _ _) | refine K1 ?_ | refine K0 ?_ | refine K2 ?_ | refine K3 ?_ | refine K4 ?_ | (refine CV_pu ?_; intro _ _ _ _) | refine fV_ldN ?_ | refine fV_ld1 ?_ | refine fHV_ldN ?_ | refine fHV_ld1 ?_ | refine NilW_some ?_ | refine iCW_1 ?_ | refine iCW_N ?_ | refine Pk_b ?_))
      refine Cond_n (fun h' => ?_) (fun h' => ?_)
      · exact ⟨_, _, ‹_›, by rw [h2, show TrM.eqb xs[i] ys[i] = false from h']; rfl⟩
      · (repeat (first | (refine iDr ?_; intro _ _) | refine V_run ?_ | refine PV_run ?_ | refine HV_run ?_ | refine iV_ld1 ?_ | refine iV_ldN ?_ | (refine iV_bx ?_; intro _ _ _ _) | (refine iV_al ?_; intro _ _ _ _) | (refine iV_mm ?_; intro _ _ _ _) | (refine iU_st ?_; intro _ _) | refine iHV_1 ?_ | refine iHV_N ?_ | refine iRI_1 ?_ | refine iRI_N ?_ | refine Cond_t ?_ | refine Cond_f ?_ | refine JB ?_ | (refine JC ?_; intro _ _ _ _) | (refine J1 ?_; intro _ _) | (refine J0 ?_; intro _ _) | (refine J2 ?_; intro _ _) | (refine J3 ?_; intro _ _) | (refine J4 ?_; intro _ _) | refine K1 ?_ | refine K0 ?_ | refine K2 ?_ | refine K3 ?_ | refine K4 ?_ | (refine CV_pu ?_; intro _ _ _ _) | refine fV_ldN ?_ | refine fV_ld1 ?_ | refine fHV_ldN ?_ | refine fHV_ld1 ?_ | refine NilW_some ?_ | refine iCW_1 ?_ | refine iCW_N ?_ | refine Pk_b ?_))
        exact back (i + 1) _ _ ⟨by simp, by omega, by rw [h2, show TrM.eqb xs[i] ys[i] = true from h']; rfl, ‹_›⟩ (by omega)
    · exact ⟨_, _, ‹_›, by rw [h2, listEq_end (by omega) (by omega)]⟩)
theorem equalPend {v v' : Value} {xs ys : List RaM} {z : Z} {w : World} (hx : SlR El.raised z v xs) (hy : SlR El.raised z v' ys) : Fn1 79 #[v, v'] z w fun _ r => r = .bool (listEq RaM.eqb xs ys) := Fn1.intro fun hS => en79 (by
  unfold vc79
  obtain ⟨hb, a, cap, rfl, hc, hel⟩ := hx.form
  obtain ⟨hb', a', cap', rfl, hc', hel'⟩ := hy.form
  (repeat (first | (refine iDr ?_; intro _ _) | refine V_run ?_ | refine PV_run ?_ | refine HV_run ?_ | refine iV_ld1 ?_ | refine iV_ldN ?_ | (refine iV_bx ?_; intro _ _ _ _) | (refine iV_al ?_; intro _ _ _ _) | (refine iV_mm ?_; intro _ _ _ _) | (refine iU_st ?_; intro _ _) | refine iHV_1 ?_ | refine iHV_N ?_ | refine iRI_1 ?_ | refine iRI_N ?_ | refine Cond_t ?_ | refine Cond_f ?_ | refine JB ?_ | (refine JC ?_; intro _ _ _ _) | (refine J1 ?_; intro _ _) | (refine J0 ?_; intro _ _) | (refine J2 ?_; intro _ _) | (refine J3 ?_; intro _ _) | (refine J4 ?_; intro _ _) | refine K1 ?_ | refine K0 ?_ | refine K2 ?_ | refine K3 ?_ | refine K4 ?_ | (refine CV_pu ?_; intro _ _ _ _) | refine fV_ldN ?_ | refine fV_ld1 ?_ | refine fHV_ldN ?_ | refine fHV_ld1 ?_ | refine NilW_some ?_ | refine iCW_1 ?_ | refine iCW_N ?_ | refine Pk_b ?_))
  refine Cond_nd (fun h => ?_) (fun h => ?_)
  · exact ⟨_, _, ‹_›, by rw [listEq_ne (by omega)]⟩
  · (repeat (first | (refine iDr ?_; intro _ _) | refine V_run ?_ | refine PV_run ?_ | refine HV_run ?_ | refine iV_ld1 ?_ | refine iV_ldN ?_ | (refine iV_bx ?_; intro _ _ _ _) | (refine iV_al ?_; intro _ _ _ _) | (refine iV_mm ?_; intro _ _ _ _) | (refine iU_st ?_; intro _ _) | refine iHV_1 ?_ | refine iHV_N ?_ | refine iRI_1 ?_ | refine iRI_N ?_ | refine Cond_t ?_ | refine Cond_f ?_ | refine JB ?_ | (refine JC ?_; intro _ _ _ _) | (refine J1 ?_; intro _ _) | (refine J0 ?_; intro _ _) | (refine J2 ?_; intro _ _) | (refine J3 ?_; intro _ _) | (refine J4 ?_; intro _ _) | refine K1 ?_ | refine K0 ?_ | refine K2 ?_ | refine K3 ?_ | refine K4 ?_ | (refine CV_pu ?_; intro _ _ _ _) | refine fV_ldN ?_ | refine fV_ld1 ?_ | refine fHV_ldN ?_ | refine fHV_ld1 ?_ | refine NilW_some ?_ | refine iCW_1 ?_ | refine iCW_N ?_ | refine Pk_b ?_))
    refine LoopG1 (fun (i : Nat) x w' => x = .int .i64 i ∧ i ≤ xs.length ∧ listEq RaM.eqb xs ys = listEq RaM.eqb (xs.drop i) (ys.drop i) ∧ Res w z [] w' z []) (fun i => xs.length - i) 0 ⟨rfl, by omega, rfl, hS⟩ ?_
    rintro I M i x w2 m ⟨rfl, h1, h2, hS2⟩ back
    (repeat (first | (refine iDr ?_; intro _ _) | refine V_run ?_ | refine PV_run ?_ | refine HV_run ?_ | refine iV_ld1 ?_ | refine iV_ldN ?_ | (refine iV_bx ?_; intro _ _ _ _) | (refine iV_al ?_; intro _ _ _ _) | (refine iV_mm ?_; intro _ _ _ _) | (refine iU_st ?_; intro _ _) | refine iHV_1 ?_ | refine iHV_N ?_ | refine iRI_1 ?_ | refine iRI_N ?_ | refine Cond_t ?_ | refine Cond_f ?_ | refine JB ?_ | (refine JC ?_; intro _ _ _ _) | (refine J1 ?_; intro _ _) | (refine J0 ?_; intro _ _) | (refine J2 ?_; intro _ _) | (refine J3 ?_; intro _ _) | (refine J4 ?_; intro _ _) | refine K1 ?_ | refine K0 ?_ | refine K2 ?_ | refine K3 ?_ | refine K4 ?_ | (refine CV_pu ?_; intro _ _ _ _) | refine fV_ldN ?_ | refine fV_ld1 ?_ | refine fHV_ldN ?_ | refine fHV_ld1 ?_ | refine NilW_some ?_ | refine iCW_1 ?_ | refine iCW_N ?_ | refine Pk_b ?_))
    refine Cond_d (fun hh => ?_) (fun hh => ?_)
    · have hlt : i < xs.length := by omega
      have hlt' : i < ys.length := by omega
      obtain ⟨b, off, cs, rfl, ⟨rfl, hr⟩, hat⟩ := hel i _ (List.getElem?_eq_getElem hlt)
      obtain ⟨b', off', cs', rfl, ⟨rfl, hr'⟩, hat'⟩ := hel' i _ (List.getElem?_eq_getElem hlt')
      haveI : InR (i : Int) xs.length := ⟨by omega, by omega⟩
      haveI : InR (i : Int) ys.length := ⟨by omega, by omega⟩
      haveI : InI ((i : Int) + 1) := ⟨by simp only [big] at hb; omega⟩
      haveI : Fz z b (off + (i : Int).toNat * 2) xs[i].cells := ⟨by rw [Int.toNat_natCast]; exact hat⟩
      haveI : Fz z b' (off' + (i : Int).toNat * 2) ys[i].cells := ⟨by rw [Int.toNat_natCast]; exact hat'⟩
      rw [listEq_drop hlt hlt'] at h2
      (repeat (first | (refine iDr ?_; intro _ _) | refine V_run ?_ | refine PV_run ?_ | refine HV_run ?_ | refine iV_ld1 ?_ | refine iV_ldN ?_ | (refine iV_bx ?_; intro _ _ _ _) | (refine iV_al ?_; intro _ _ _ _) | (refine iV_mm ?_; intro _ _ _ _) | (refine iU_st ?_; intro _ _) | refine iHV_1 ?_ | refine iHV_N ?_ | refine iRI_1 ?_ | refine iRI_N ?_ | refine Cond_t ?_ | refine Cond_f ?_ | refine JB ?_ | (refine JC ?_; intro _ _ _ _) | (refine J1 ?_; intro _ _) | (refine J0 ?_; intro _ _) | (refine J2 ?_; intro _ _) | (refine J3 ?_; intro _ _) | (refine J4 ?_; intro _ _) | refine K1 ?_ | refine K0 ?_ | refine K2 ?_ | refine K3 ?_ | refine K4 ?_ | (refine CV_pu ?_; intro _ _ _ _) | refine fV_ldN ?_ | refine fV_ld1 ?_ | refine fHV_ldN ?_ | refine fHV_ld1 ?_ | refine NilW_some ?_ | refine iCW_1 ?_ | refine iCW_N ?_ | refine Pk_b ?_))
      refine Cond_n (fun h' => ?_) (fun h' => ?_)
      · exact ⟨_, _, ‹_›, by rw [h2, show RaM.eqb xs[i] ys[i] = false from h']; rfl⟩
      · (repeat (first | (refine iDr ?_; intro _ _) | refine V_run ?_ | refine PV_run ?_ | refine HV_run ?_ | refine iV_ld1 ?_ | refine iV_ldN ?_ | (refine iV_bx ?_; intro _ _ _ _) | (refine iV_al ?_; intro _ _ _ _) | (refine iV_mm ?_; intro _ _ _ _) | (refine iU_st ?_; intro _ _) | refine iHV_1 ?_ | refine iHV_N ?_ | refine iRI_1 ?_ | refine iRI_N ?_ | refine Cond_t ?_ | refine Cond_f ?_ | refine JB ?_ | (refine JC ?_; intro _ _ _ _) | (refine J1 ?_; intro _ _) | (refine J0 ?_; intro _ _) | (refine J2 ?_; intro _ _) | (refine J3 ?_; intro _ _) | (refine J4 ?_; intro _ _) | refine K1 ?_ | refine K0 ?_ | refine K2 ?_ | refine K3 ?_ | refine K4 ?_ | (refine CV_pu ?_; intro _ _ _ _) | refine fV_ldN ?_ | refine fV_ld1 ?_ | refine fHV_ldN ?_ | refine fHV_ld1 ?_ | refine NilW_some ?_ | refine iCW_1 ?_ | refine iCW_N ?_ | refine Pk_b ?_))
        exact back (i + 1) _ _ ⟨by simp, by omega, by rw [h2, show RaM.eqb xs[i] ys[i] = true from h']; rfl, ‹_›⟩ (by omega)
    · exact ⟨_, _, ‹_›, by rw [h2, listEq_end (by omega) (by omega)]⟩)
end Go.Proofs.Ytjnckainogpenaa
end

section
/- Equality of states, as the program and the reference have it. -/
set_option linter.unusedVariables false
set_option maxRecDepth 20000
set_option synthInstance.maxHeartbeats 400000
set_option synthInstance.maxSize 4000
namespace Go.Proofs.Ytjnckainogpenaa
open Go Q Go.RowKit

def FrM.eqb (f g : FrM) : Bool := listEq TrM.eqb f.traps g.traps && listEq RaM.eqb f.pend g.pend && f.info.eqb g.info
theorem FrM.eqb_iff {a b : FrM} : a.eqb b = true ↔ a = b := by
  obtain ⟨x1, x2, x3⟩ := a; obtain ⟨y1, y2, y3⟩ := b
  simp only [FrM.eqb, Bool.and_eq_true, listEq_iff (fun x y => TrM.eqb_iff), listEq_iff (fun x y => RaM.eqb_iff), InM.eqb_iff, FrM.mk.injEq, and_assoc]
def same (s t : StM) : Bool := listEq FrM.eqb s t
theorem same_iff {s t : StM} : same s t = true ↔ s = t := listEq_iff fun x y => FrM.eqb_iff
theorem same1 {v v' : Value} {f g : FrM} {z : Z} {w : World} (hf : FrR z v f) (hg : FrR z v' g) : Fn1 78 #[v, v'] z w fun _ r => r = .bool (f.eqb g) := Fn1.intro fun hS => en78 (by
  unfold vc78
  obtain ⟨cs, rfl, v1, v2, rfl, hv1, hv2, hd⟩ := hf
  obtain ⟨cs', rfl, v1', v2', rfl, hv1', hv2', hd'⟩ := hg
  obtain ⟨hb1, a1, cap1, rfl, hc1, hel1⟩ := hv1.form
  obtain ⟨hb2, a2, cap2, rfl, hc2, hel2⟩ := hv2.form
  obtain ⟨hb1', a1', cap1', rfl, hc1', hel1'⟩ := hv1'.form
  obtain ⟨hb2', a2', cap2', rfl, hc2', hel2'⟩ := hv2'.form
  dsimp only [InM.cells]
  (repeat (first | (refine iDr ?_; intro _ _) | refine V_run ?_ | refine PV_run ?_ | refine HV_run ?_ | refine iV_ld1 ?_ | refine iV_ldN ?_ | (refine iV_bx ?_; intro _ _ _ _) | (refine iV_al ?_; intro _ _ _ _) | (refine iV_mm ?_; intro _ _ _ _) | (refine iU_st ?_; intro _ _) | refine iHV_1 ?_ | refine iHV_N ?_ | refine iRI_1 ?_ | refine iRI_N ?_ | refine Cond_t ?_ | refine Cond_f ?_ | refine JB ?_ | (refine JC ?_; intro _ _ _ _) | (refine J1 ?_; intro _ _) | (refine J0 ?_; intro _ _) | (refine J2 ?_; intro _ _) | (refine J3 ?_; intro _ _) | (refine J4 ?_; intro _ _) | refine K1 ?_ | refine K0 ?_ | refine K2 ?_ | refine K3 ?_ | refine K4 ?_ | (refine CV_pu ?_; intro _ _ _ _) | refine fV_ldN ?_ | refine fV_ld1 ?_ | refine fHV_ldN ?_ | refine fHV_ld1 ?_ | refine NilW_some ?_ | refine iCW_1 ?_ | refine iCW_N ?_ | refine Pk_b ?_))
  refine CV_1z (fun hz => equalTraps (hv1.mono hz) (hv1'.mono hz)) ?_
  rintro z9 w9 v9 hle9 hS9 rfl
  (repeat (first | (refine iDr ?_; intro _ _) | refine V_run ?_ | refine PV_run ?_ | refine HV_run ?_ | refine iV_ld1 ?_ | refine iV_ldN ?_ | (refine iV_bx ?_; intro _ _ _ _) | (refine iV_al ?_; intro _ _ _ _) | (refine iV_mm ?_; intro _ _ _ _) | (refine iU_st ?_; intro _ _) | refine iHV_1 ?_ | refine iHV_N ?_ | refine iRI_1 ?_ | refine iRI_N ?_ | refine Cond_t ?_ | refine Cond_f ?_ | refine JB ?_ | (refine JC ?_; intro _ _ _ _) | (refine J1 ?_; intro _ _) | (refine J0 ?_; intro _ _) | (refine J2 ?_; intro _ _) | (refine J3 ?_; intro _ _) | (refine J4 ?_; intro _ _) | refine K1 ?_ | refine K0 ?_ | refine K2 ?_ | refine K3 ?_ | refine K4 ?_ | (refine CV_pu ?_; intro _ _ _ _) | refine fV_ldN ?_ | refine fV_ld1 ?_ | refine fHV_ldN ?_ | refine fHV_ld1 ?_ | refine NilW_some ?_ | refine iCW_1 ?_ | refine iCW_N ?_ | refine Pk_b ?_))
  refine Cond_b (fun h1 => ?_) (fun h1 => ?_)
  · (repeat (first | (refine iDr ?_; intro _ _) | refine V_run ?_ | refine PV_run ?_ | refine HV_run ?_ | refine iV_ld1 ?_ | refine iV_ldN ?_ | (refine iV_bx ?_; intro _ _ _ _) | (refine iV_al ?_; intro _ _ _ _) | (refine iV_mm ?_; intro _ _ _ _) | (refine iU_st ?_; intro _ _) | refine iHV_1 ?_ | refine iHV_N ?_ | refine iRI_1 ?_ | refine iRI_N ?_ | refine Cond_t ?_ | refine Cond_f ?_ | refine JB ?_ | (refine JC ?_; intro _ _ _ _) | (refine J1 ?_; intro _ _) | (refine J0 ?_; intro _ _) | (refine J2 ?_; intro _ _) | (refine J3 ?_; intro _ _) | (refine J4 ?_; intro _ _) | refine K1 ?_ | refine K0 ?_ | refine K2 ?_ | refine K3 ?_ | refine K4 ?_ | (refine CV_pu ?_; intro _ _ _ _) | refine fV_ldN ?_ | refine fV_ld1 ?_ | refine fHV_ldN ?_ | refine fHV_ld1 ?_ | refine NilW_some ?_ | refine iCW_1 ?_ | refine iCW_N ?_ | refine Pk_b ?_))
    refine CV_1z (fun hz => equalPend (hv2.mono hz) (hv2'.mono hz)) ?_
    rintro z8 w8 v8 hle8 hS8 rfl
    (repeat (first | (refine iDr ?_; intro _ _) | refine V_run ?_ | refine PV_run ?_ | refine HV_run ?_ | refine iV_ld1 ?_ | refine iV_ldN ?_ | (refine iV_bx ?_; intro _ _ _ _) | (refine iV_al ?_; intro _ _ _ _) | (refine iV_mm ?_; intro _ _ _ _) | (refine iU_st ?_; intro _ _) | refine iHV_1 ?_ | refine iHV_N ?_ | refine iRI_1 ?_ | refine iRI_N ?_ | refine Cond_t ?_ | refine Cond_f ?_ | refine JB ?_ | (refine JC ?_; intro _ _ _ _) | (refine J1 ?_; intro _ _) | (refine J0 ?_; intro _ _) | (refine J2 ?_; intro _ _) | (refine J3 ?_; intro _ _) | (refine J4 ?_; intro _ _) | refine K1 ?_ | refine K0 ?_ | refine K2 ?_ | refine K3 ?_ | refine K4 ?_ | (refine CV_pu ?_; intro _ _ _ _) | refine fV_ldN ?_ | refine fV_ld1 ?_ | refine fHV_ldN ?_ | refine fHV_ld1 ?_ | refine NilW_some ?_ | refine iCW_1 ?_ | refine iCW_N ?_ | refine Pk_b ?_))
    refine ⟨_, _, ‹_›, ?_⟩
    rw [FrM.eqb, h1]
    cases listEq RaM.eqb f.pend g.pend <;> rfl
  · (repeat (first | (refine iDr ?_; intro _ _) | refine V_run ?_ | refine PV_run ?_ | refine HV_run ?_ | refine iV_ld1 ?_ | refine iV_ldN ?_ | (refine iV_bx ?_; intro _ _ _ _) | (refine iV_al ?_; intro _ _ _ _) | (refine iV_mm ?_; intro _ _ _ _) | (refine iU_st ?_; intro _ _) | refine iHV_1 ?_ | refine iHV_N ?_ | refine iRI_1 ?_ | refine iRI_N ?_ | refine Cond_t ?_ | refine Cond_f ?_ | refine JB ?_ | (refine JC ?_; intro _ _ _ _) | (refine J1 ?_; intro _ _) | (refine J0 ?_; intro _ _) | (refine J2 ?_; intro _ _) | (refine J3 ?_; intro _ _) | (refine J4 ?_; intro _ _) | refine K1 ?_ | refine K0 ?_ | refine K2 ?_ | refine K3 ?_ | refine K4 ?_ | (refine CV_pu ?_; intro _ _ _ _) | refine fV_ldN ?_ | refine fV_ld1 ?_ | refine fHV_ldN ?_ | refine fHV_ld1 ?_ | refine NilW_some ?_ | refine iCW_1 ?_ | refine iCW_N ?_ | refine Pk_b ?_))
    exact ⟨_, _, ‹_›, by rw [FrM.eqb, h1]; rfl⟩)
theorem equalFrames {v v' fv : Value} {s t : StM} {z : Z} {w : World} (hu : SlR El.frame z v s) (hu' : SlR El.frame z v' t) (hf : ∀ z' w' v v' x y, FrR z' v x → FrR z' v' y → Va1 fv #[v, v'] z' w' fun _ r => r = .bool (x.eqb y)) :
    Fn1 77 #[v, v', fv] z w fun _ r => r = .bool (same s t) := Fn1.intro fun hS => en77 (by
  unfold vc77
  obtain ⟨hb, a, cap, rfl, hc, hel⟩ := hu.form
  obtain ⟨hb', a', cap', rfl, hc', hel'⟩ := hu'.form
  (repeat (first | (refine iDr ?_; intro _ _) | refine V_run ?_ | refine PV_run ?_ | refine HV_run ?_ | refine iV_ld1 ?_ | refine iV_ldN ?_ | (refine iV_bx ?_; intro _ _ _ _) | (refine iV_al ?_; intro _ _ _ _) | (refine iV_mm ?_; intro _ _ _ _) | (refine iU_st ?_; intro _ _) | refine iHV_1 ?_ | refine iHV_N ?_ | refine iRI_1 ?_ | refine iRI_N ?_ | refine Cond_t ?_ | refine Cond_f ?_ | refine JB ?_ | (refine JC ?_; intro _ _ _ _) | (refine J1 ?_; intro _ _) | (refine J0 ?_; intro _ _) | (refine J2 ?_; intro _ _) | (refine J3 ?_; intro _ _) | (refine J4 ?_; intro _ _) | refine K1 ?_ | refine K0 ?_ | refine K2 ?_ | refine K3 ?_ | refine K4 ?_ | (refine CV_pu ?_; intro _ _ _ _) | refine fV_ldN ?_ | refine fV_ld1 ?_ | refine fHV_ldN ?_ | refine fHV_ld1 ?_ | refine NilW_some ?_ | refine iCW_1 ?_ | refine iCW_N ?_ | refine Pk_b ?_))
  refine Cond_nd (fun h => ?_) (fun h => ?_)
  · exact ⟨_, _, ‹_›, by rw [same, listEq_ne (by omega)]⟩
  · (repeat (first | (refine iDr ?_; intro _ _) | refine V_run ?_ | refine PV_run ?_ | refine HV_run ?_ | refine iV_ld1 ?_ | refine iV_ldN ?_ | (refine iV_bx ?_; intro _ _ _ _) | (refine iV_al ?_; intro _ _ _ _) | (refine iV_mm ?_; intro _ _ _ _) | (refine iU_st ?_; intro _ _) | refine iHV_1 ?_ | refine iHV_N ?_ | refine iRI_1 ?_ | refine iRI_N ?_ | refine Cond_t ?_ | refine Cond_f ?_ | refine JB ?_ | (refine JC ?_; intro _ _ _ _) | (refine J1 ?_; intro _ _) | (refine J0 ?_; intro _ _) | (refine J2 ?_; intro _ _) | (refine J3 ?_; intro _ _) | (refine J4 ?_; intro _ _) | refine K1 ?_ | refine K0 ?_ | refine K2 ?_ | refine K3 ?_ | refine K4 ?_ | (refine CV_pu ?_; intro _ _ _ _) | refine fV_ldN ?_ | refine fV_ld1 ?_ | refine fHV_ldN ?_ | refine fHV_ld1 ?_ | refine NilW_some ?_ | refine iCW_1 ?_ | refine iCW_N ?_ | refine Pk_b ?_))
    refine LoopG1 (fun (i : Nat) x w' => x = .int .i64 i ∧ i ≤ s.length ∧ listEq FrM.eqb s t = listEq FrM.eqb (s.drop i) (t.drop i) ∧ ∃ z', Res w z [] w' z' []) (fun i => s.length - i) 0 ⟨rfl, by omega, rfl, _, hS⟩ ?_
    rintro I M i x w2 m ⟨rfl, h1, h2, z2, hS2⟩ back
    (repeat (first | (refine iDr ?_; intro _ _) | refine V_run ?_ | refine PV_run ?_ | refine HV_run ?_ | refine iV_ld1 ?_ | refine iV_ldN ?_ | (refine iV_bx ?_; intro _ _ _ _) | (refine iV_al ?_; intro _ _ _ _) | (refine iV_mm ?_; intro _ _ _ _) | (refine iU_st ?_; intro _ _) | refine iHV_1 ?_ | refine iHV_N ?_ | refine iRI_1 ?_ | refine iRI_N ?_ | refine Cond_t ?_ | refine Cond_f ?_ | refine JB ?_ | (refine JC ?_; intro _ _ _ _) | (refine J1 ?_; intro _ _) | (refine J0 ?_; intro _ _) | (refine J2 ?_; intro _ _) | (refine J3 ?_; intro _ _) | (refine J4 ?_; intro _ _) | refine K1 ?_ | refine K0 ?_ | refine K2 ?_ | refine K3 ?_ | refine K4 ?_ | (refine CV_pu ?_; intro _ _ _ _) | refine fV_ldN ?_ | refine fV_ld1 ?_ | refine fHV_ldN ?_ | refine fHV_ld1 ?_ | refine NilW_some ?_ | refine iCW_1 ?_ | refine iCW_N ?_ | refine Pk_b ?_))
    refine Cond_d (fun hh => ?_) (fun hh => ?_)
    · have hlt : i < s.length := by omega
      have hlt' : i < t.length := by omega
      obtain ⟨b, off, cs, rfl, hr, hat⟩ := hel i _ (List.getElem?_eq_getElem hlt)
      obtain ⟨b', off', cs', rfl, hr', hat'⟩ := hel' i _ (List.getElem?_eq_getElem hlt')
      haveI : InR (i : Int) s.length := ⟨by omega, by omega⟩
      haveI : InR (i : Int) t.length := ⟨by omega, by omega⟩
      haveI : InI ((i : Int) + 1) := ⟨by simp only [big] at hb; omega⟩
      obtain ⟨u1, u2, rfl, hu1, hu2, hd⟩ := hr
      obtain ⟨u1', u2', rfl, hu1', hu2', hd'⟩ := hr'
      haveI : One u1 := by obtain ⟨_, a1, cap1, rfl, _⟩ := hu1.form; exact inferInstance
      haveI : One u2 := by obtain ⟨_, a1, cap1, rfl, _⟩ := hu2.form; exact inferInstance
      haveI : One u1' := by obtain ⟨_, a1, cap1, rfl, _⟩ := hu1'.form; exact inferInstance
      haveI : One u2' := by obtain ⟨_, a1, cap1, rfl, _⟩ := hu2'.form; exact inferInstance
      haveI : Fz z b (off + (i : Int).toNat * 5) (u1 :: u2 :: s[i].info.cells) := ⟨by rw [Int.toNat_natCast]; exact hat⟩
      haveI : Fz z b' (off' + (i : Int).toNat * 5) (u1' :: u2' :: t[i].info.cells) := ⟨by rw [Int.toNat_natCast]; exact hat'⟩
      rw [listEq_drop hlt hlt'] at h2
      dsimp only [InM.cells] at *
      (repeat (first | (refine iDr ?_; intro _ _) | refine V_run ?_ | refine PV_run ?_ | refine HV_run ?_ | refine iV_ld1 ?_ | refine iV_ldN ?_ | (refine iV_bx ?_; intro _ _ _ _) | (refine iV_al ?_; intro _ _ _ _) | (refine iV_mm ?_; intro _ _ _ _) | (refine iU_st ?_; intro _ _) | refine iHV_1 ?_ | refine iHV_N ?_ | refine iRI_1 ?_ | refine iRI_N ?_ | refine Cond_t ?_ | refine Cond_f ?_ | refine JB ?_ | (refine JC ?_; intro _ _ _ _) | (refine J1 ?_; intro _ _) | (refine J0 ?_; intro _ _) | (refine J2 ?_; intro _ _) | (refine J3 ?_; intro _ _) | (refine J4 ?_; intro _ _) | refine K1 ?_ | refine K0 ?_ | refine K2 ?_ | refine K3 ?_ | refine K4 ?_ | (refine CV_pu ?_; intro _ _ _ _) | refine fV_ldN ?_ | refine fV_ld1 ?_ | refine fHV_ldN ?_ | refine fHV_ld1 ?_ | refine NilW_some ?_ | refine iCW_1 ?_ | refine iCW_N ?_ | refine Pk_b ?_))
      rename_i hSn
      have hz := hSn.zle
      refine CV_va1 hSn (hf _ _ _ _ s[i] t[i] ⟨_, rfl, u1, u2, rfl, hu1.mono hz, hu2.mono hz, hd⟩ ⟨_, rfl, u1', u2', rfl, hu1'.mono hz, hu2'.mono hz, hd'⟩) ?_
      rintro z9 w9 v9 hle9 hS9 rfl
      (repeat (first | (refine iDr ?_; intro _ _) | refine V_run ?_ | refine PV_run ?_ | refine HV_run ?_ | refine iV_ld1 ?_ | refine iV_ldN ?_ | (refine iV_bx ?_; intro _ _ _ _) | (refine iV_al ?_; intro _ _ _ _) | (refine iV_mm ?_; intro _ _ _ _) | (refine iU_st ?_; intro _ _) | refine iHV_1 ?_ | refine iHV_N ?_ | refine iRI_1 ?_ | refine iRI_N ?_ | refine Cond_t ?_ | refine Cond_f ?_ | refine JB ?_ | (refine JC ?_; intro _ _ _ _) | (refine J1 ?_; intro _ _) | (refine J0 ?_; intro _ _) | (refine J2 ?_; intro _ _) | (refine J3 ?_; intro _ _) | (refine J4 ?_; intro _ _) | refine K1 ?_ | refine K0 ?_ | refine K2 ?_ | refine K3 ?_ | refine K4 ?_ | (refine CV_pu ?_; intro _ _ _ _) | refine fV_ldN ?_ | refine fV_ld1 ?_ | refine fHV_ldN ?_ | refine fHV_ld1 ?_ | refine NilW_some ?_ | refine iCW_1 ?_ | refine iCW_N ?_ | refine Pk_b ?_))
      refine Cond_n (fun h' => ?_) (fun h' => ?_)
      · exact ⟨_, _, ‹_›, by rw [same, h2, h']; rfl⟩
      · (repeat (first | (refine iDr ?_; intro _ _) | refine V_run ?_ | refine PV_run ?_ | refine HV_run ?_ | refine iV_ld1 ?_ | refine iV_ldN ?_ | (refine iV_bx ?_; intro _ _ _ _) | (refine iV_al ?_; intro _ _ _ _) | (refine iV_mm ?_; intro _ _ _ _) | (refine iU_st ?_; intro _ _) | refine iHV_1 ?_ | refine iHV_N ?_ | refine iRI_1 ?_ | refine iRI_N ?_ | refine Cond_t ?_ | refine Cond_f ?_ | refine JB ?_ | (refine JC ?_; intro _ _ _ _) | (refine J1 ?_; intro _ _) | (refine J0 ?_; intro _ _) | (refine J2 ?_; intro _ _) | (refine J3 ?_; intro _ _) | (refine J4 ?_; intro _ _) | refine K1 ?_ | refine K0 ?_ | refine K2 ?_ | refine K3 ?_ | refine K4 ?_ | (refine CV_pu ?_; intro _ _ _ _) | refine fV_ldN ?_ | refine fV_ld1 ?_ | refine fHV_ldN ?_ | refine fHV_ld1 ?_ | refine NilW_some ?_ | refine iCW_1 ?_ | refine iCW_N ?_ | refine Pk_b ?_))
        exact back (i + 1) _ _ ⟨by simp, by omega, by rw [h2, h']; rfl, _, Res.tl (Res.tl ‹_›)⟩ (by omega)
    · exact ⟨_, _, ‹_›, by rw [same, h2, listEq_end (by omega) (by omega)]⟩)
theorem sameP {v v' : Value} {s t : StM} {z : Z} {w : World} (hs : StR z v s) (ht : StR z v' t) : Fn1 35 #[v, v'] z w fun _ r => r = .bool (same s t) := Fn1.intro fun hS => en35 (by
  unfold vc35
  obtain ⟨u, rfl, hu⟩ := hs
  obtain ⟨u', rfl, hu'⟩ := ht
  obtain ⟨hb, a, cap, rfl, hc, hel⟩ := hu.form
  obtain ⟨hb', a', cap', rfl, hc', hel'⟩ := hu'.form
  (repeat (first | (refine iDr ?_; intro _ _) | refine V_run ?_ | refine PV_run ?_ | refine HV_run ?_ | refine iV_ld1 ?_ | refine iV_ldN ?_ | (refine iV_bx ?_; intro _ _ _ _) | (refine iV_al ?_; intro _ _ _ _) | (refine iV_mm ?_; intro _ _ _ _) | (refine iU_st ?_; intro _ _) | refine iHV_1 ?_ | refine iHV_N ?_ | refine iRI_1 ?_ | refine iRI_N ?_ | refine Cond_t ?_ | refine Cond_f ?_ | refine JB ?_ | (refine JC ?_; intro _ _ _ _) | (refine J1 ?_; intro _ _) | (refine J0 ?_; intro _ _) | (refine J2 ?_; intro _ _) | (refine J3 ?_; intro _ _) | (refine J4 ?_; intro _ _) | refine K1 ?_ | refine K0 ?_ | refine K2 ?_ | refine K3 ?_ | refine K4 ?_ | (refine CV_pu ?_; intro _ _ _ _) | refine fV_ldN ?_ | refine fV_ld1 ?_ | refine fHV_ldN ?_ | refine fHV_ld1 ?_ | refine NilW_some ?_ | refine iCW_1 ?_ | refine iCW_N ?_ | refine Pk_b ?_))
  refine CV_1z (fun hz => equalFrames (hu.mono hz) (hu'.mono hz) fun z' w' v v' x y hx hy => (same1 hx hy).va (by simp)) ?_
  rintro z9 w9 v9 hle9 hS9 rfl
  (repeat (first | (refine iDr ?_; intro _ _) | refine V_run ?_ | refine PV_run ?_ | refine HV_run ?_ | refine iV_ld1 ?_ | refine iV_ldN ?_ | (refine iV_bx ?_; intro _ _ _ _) | (refine iV_al ?_; intro _ _ _ _) | (refine iV_mm ?_; intro _ _ _ _) | (refine iU_st ?_; intro _ _) | refine iHV_1 ?_ | refine iHV_N ?_ | refine iRI_1 ?_ | refine iRI_N ?_ | refine Cond_t ?_ | refine Cond_f ?_ | refine JB ?_ | (refine JC ?_; intro _ _ _ _) | (refine J1 ?_; intro _ _) | (refine J0 ?_; intro _ _) | (refine J2 ?_; intro _ _) | (refine J3 ?_; intro _ _) | (refine J4 ?_; intro _ _) | refine K1 ?_ | refine K0 ?_ | refine K2 ?_ | refine K3 ?_ | refine K4 ?_ | (refine CV_pu ?_; intro _ _ _ _) | refine fV_ldN ?_ | refine fV_ld1 ?_ | refine fHV_ldN ?_ | refine fHV_ld1 ?_ | refine NilW_some ?_ | refine iCW_1 ?_ | refine iCW_N ?_ | refine Pk_b ?_))
  exact ⟨_, _, ‹_›, rfl⟩)
theorem refSame {v v' : Value} {s t : StM} {z : Z} {w : World} (hs : StR z v s) (ht : StR z v' t) : Fn1 15 #[v, v'] z w fun _ r => r = .bool (same s t) := Fn1.intro fun hS => en15 (by
  unfold vc15
  obtain ⟨u, rfl, hu⟩ := hs
  obtain ⟨u', rfl, hu'⟩ := ht
  obtain ⟨hb, a, cap, rfl, hc, hel⟩ := hu.form
  obtain ⟨hb', a', cap', rfl, hc', hel'⟩ := hu'.form
  refine iV_bx ?_
  intro b0 w0' hb0 hS0
  refine iV_bx ?_
  intro b1 w1' hb1 hS1
  (repeat (first | (refine iDr ?_; intro _ _) | refine V_run ?_ | refine PV_run ?_ | refine HV_run ?_ | refine iV_ld1 ?_ | refine iV_ldN ?_ | (refine iV_bx ?_; intro _ _ _ _) | (refine iV_al ?_; intro _ _ _ _) | (refine iV_mm ?_; intro _ _ _ _) | (refine iU_st ?_; intro _ _) | refine iHV_1 ?_ | refine iHV_N ?_ | refine iRI_1 ?_ | refine iRI_N ?_ | refine Cond_t ?_ | refine Cond_f ?_ | refine JB ?_ | (refine JC ?_; intro _ _ _ _) | (refine J1 ?_; intro _ _) | (refine J0 ?_; intro _ _) | (refine J2 ?_; intro _ _) | (refine J3 ?_; intro _ _) | (refine J4 ?_; intro _ _) | refine K1 ?_ | refine K0 ?_ | refine K2 ?_ | refine K3 ?_ | refine K4 ?_ | (refine CV_pu ?_; intro _ _ _ _) | refine fV_ldN ?_ | refine fV_ld1 ?_ | refine fHV_ldN ?_ | refine fHV_ld1 ?_ | refine NilW_some ?_ | refine iCW_1 ?_ | refine iCW_N ?_ | refine Pk_b ?_))
  refine Cond_nd (fun h => ?_) (fun h => ?_)
  · exact ⟨_, _, ‹_›, by rw [same, listEq_ne (by omega)]⟩
  · refine LoopG1 (fun (i : Nat) x w' => x = .int .i64 i ∧ i ≤ s.length ∧ listEq FrM.eqb s t = listEq FrM.eqb (s.drop i) (t.drop i) ∧ ∃ z', Res w z [] w' z' [(b1, .cells [.slice a' t.length cap'].toArray 28 (0, 0)), (b0, .cells [.slice a s.length cap].toArray 28 (0, 0))]) (fun i => s.length - i) 0 ⟨rfl, by omega, rfl, _, ‹_›⟩ ?_
    rintro I M i x w2 m ⟨rfl, h1, h2, z2, hS2⟩ back
    (repeat (first | (refine iDr ?_; intro _ _) | refine V_run ?_ | refine PV_run ?_ | refine HV_run ?_ | refine iV_ld1 ?_ | refine iV_ldN ?_ | (refine iV_bx ?_; intro _ _ _ _) | (refine iV_al ?_; intro _ _ _ _) | (refine iV_mm ?_; intro _ _ _ _) | (refine iU_st ?_; intro _ _) | refine iHV_1 ?_ | refine iHV_N ?_ | refine iRI_1 ?_ | refine iRI_N ?_ | refine Cond_t ?_ | refine Cond_f ?_ | refine JB ?_ | (refine JC ?_; intro _ _ _ _) | (refine J1 ?_; intro _ _) | (refine J0 ?_; intro _ _) | (refine J2 ?_; intro _ _) | (refine J3 ?_; intro _ _) | (refine J4 ?_; intro _ _) | refine K1 ?_ | refine K0 ?_ | refine K2 ?_ | refine K3 ?_ | refine K4 ?_ | (refine CV_pu ?_; intro _ _ _ _) | refine fV_ldN ?_ | refine fV_ld1 ?_ | refine fHV_ldN ?_ | refine fHV_ld1 ?_ | refine NilW_some ?_ | refine iCW_1 ?_ | refine iCW_N ?_ | refine Pk_b ?_))
    refine Cond_d (fun hh => ?_) (fun hh => ?_)
    · have hlt : i < s.length := by omega
      have hlt' : i < t.length := by omega
      obtain ⟨b, off, cs, rfl, hr, hat⟩ := hel i _ (List.getElem?_eq_getElem hlt)
      obtain ⟨b', off', cs', rfl, hr', hat'⟩ := hel' i _ (List.getElem?_eq_getElem hlt')
      haveI : InR (i : Int) s.length := ⟨by omega, by omega⟩
      haveI : InR (i : Int) t.length := ⟨by omega, by omega⟩
      haveI : InI ((i : Int) + 1) := ⟨by simp only [big] at hb; omega⟩
      obtain ⟨u1, u2, rfl, hu1, hu2, hd⟩ := hr
      obtain ⟨u1', u2', rfl, hu1', hu2', hd'⟩ := hr'
      obtain ⟨hb3, a3, cap3, rfl, hc3, hel3⟩ := hu1.form
      obtain ⟨hb4, a4, cap4, rfl, hc4, hel4⟩ := hu2.form
      obtain ⟨hb3', a3', cap3', rfl, hc3', hel3'⟩ := hu1'.form
      obtain ⟨hb4', a4', cap4', rfl, hc4', hel4'⟩ := hu2'.form
      haveI : Fz z b (off + (i : Int).toNat * 5) (.slice a3 s[i].traps.length cap3 :: .slice a4 s[i].pend.length cap4 :: s[i].info.cells) := ⟨by rw [Int.toNat_natCast]; exact hat⟩
      haveI : Fz z b' (off' + (i : Int).toNat * 5) (.slice a3' t[i].traps.length cap3' :: .slice a4' t[i].pend.length cap4' :: t[i].info.cells) := ⟨by rw [Int.toNat_natCast]; exact hat'⟩
      rw [listEq_drop hlt hlt'] at h2
      dsimp only [InM.cells] at *
      (repeat (first | (refine iDr ?_; intro _ _) | refine V_run ?_ | refine PV_run ?_ | refine HV_run ?_ | refine iV_ld1 ?_ | refine iV_ldN ?_ | (refine iV_bx ?_; intro _ _ _ _) | (refine iV_al ?_; intro _ _ _ _) | (refine iV_mm ?_; intro _ _ _ _) | (refine iU_st ?_; intro _ _) | refine iHV_1 ?_ | refine iHV_N ?_ | refine iRI_1 ?_ | refine iRI_N ?_ | refine Cond_t ?_ | refine Cond_f ?_ | refine JB ?_ | (refine JC ?_; intro _ _ _ _) | (refine J1 ?_; intro _ _) | (refine J0 ?_; intro _ _) | (refine J2 ?_; intro _ _) | (refine J3 ?_; intro _ _) | (refine J4 ?_; intro _ _) | refine K1 ?_ | refine K0 ?_ | refine K2 ?_ | refine K3 ?_ | refine K4 ?_ | (refine CV_pu ?_; intro _ _ _ _) | refine fV_ldN ?_ | refine fV_ld1 ?_ | refine fHV_ldN ?_ | refine fHV_ld1 ?_ | refine NilW_some ?_ | refine iCW_1 ?_ | refine iCW_N ?_ | refine Pk_b ?_))
      rename_i bx _ _ _ _ _ by_ _ _ _ _ _ _ _ _ _ _ _ _ hSn
      refine Cond_b (fun hq => ?_) (fun hq => ?_)
      · refine ⟨_, _, hSn, ?_⟩
        have : s[i].eqb t[i] = false := by
          cases hx : s[i].eqb t[i] with
          | false => rfl
          | true =>
            rw [FrM.eqb_iff] at hx
            rw [hx] at hq
            simp at hq
        rw [same, h2, this]; rfl
      · have hq' : s[i].info.eqb t[i].info = true ∧ s[i].traps.length = t[i].traps.length ∧ s[i].pend.length = t[i].pend.length := by
          simp only [cond_eq_ite] at hq
          simp only [InM.eqb]
          revert hq
          by_cases e1 : s[i].info.cond = t[i].info.cond <;> by_cases e2 : s[i].info.mode = t[i].info.mode <;> by_cases e3 : s[i].info.desc = t[i].info.desc <;> by_cases e4 : s[i].traps.length = t[i].traps.length <;> simp [e1, e2, e3, e4] <;> omega
        obtain ⟨q1, q2, q3⟩ := hq'
        refine LoopG1 (fun (k : Nat) x w' => x = .int .i64 k ∧ k ≤ s[i].traps.length ∧ listEq TrM.eqb s[i].traps t[i].traps = listEq TrM.eqb (s[i].traps.drop k) (t[i].traps.drop k) ∧ ∃ z', Res w z [] w' z' [(by_, .cells [.slice a3' t[i].traps.length cap3', .slice a4' t[i].pend.length cap4', .int .i64 t[i].info.cond, .int .i64 t[i].info.mode, .string t[i].info.desc].toArray 63 (0, 0)), (bx, .cells [.slice a3 s[i].traps.length cap3, .slice a4 s[i].pend.length cap4, .int .i64 s[i].info.cond, .int .i64 s[i].info.mode, .string s[i].info.desc].toArray 63 (0, 0)), (b1, .cells [.slice (some ⟨b', off', none⟩) t.length cap'].toArray 28 (0, 0)), (b0, .cells [.slice (some ⟨b, off, none⟩) s.length cap].toArray 28 (0, 0))]) (fun k => s[i].traps.length - k) 0 ⟨rfl, by omega, rfl, _, hSn⟩ ?_
        rintro I1 M1 k x w3 m1 ⟨rfl, g1, g2, z3, hS3⟩ back1
        (repeat (first | (refine iDr ?_; intro _ _) | refine V_run ?_ | refine PV_run ?_ | refine HV_run ?_ | refine iV_ld1 ?_ | refine iV_ldN ?_ | (refine iV_bx ?_; intro _ _ _ _) | (refine iV_al ?_; intro _ _ _ _) | (refine iV_mm ?_; intro _ _ _ _) | (refine iU_st ?_; intro _ _) | refine iHV_1 ?_ | refine iHV_N ?_ | refine iRI_1 ?_ | refine iRI_N ?_ | refine Cond_t ?_ | refine Cond_f ?_ | refine JB ?_ | (refine JC ?_; intro _ _ _ _) | (refine J1 ?_; intro _ _) | (refine J0 ?_; intro _ _) | (refine J2 ?_; intro _ _) | (refine J3 ?_; intro _ _) | (refine J4 ?_; intro _ _) | refine K1 ?_ | refine K0 ?_ | refine K2 ?_ | refine K3 ?_ | refine K4 ?_ | (refine CV_pu ?_; intro _ _ _ _) | refine fV_ldN ?_ | refine fV_ld1 ?_ | refine fHV_ldN ?_ | refine fHV_ld1 ?_ | refine NilW_some ?_ | refine iCW_1 ?_ | refine iCW_N ?_ | refine Pk_b ?_))
        refine Cond_d (fun hh => ?_) (fun hh => ?_)
        · have klt : k < s[i].traps.length := by omega
          have klt' : k < t[i].traps.length := by omega
          obtain ⟨c, offc, cs, rfl, ⟨rfl, hr⟩, hat⟩ := hel3 k _ (List.getElem?_eq_getElem klt)
          obtain ⟨c', offc', cs', rfl, ⟨rfl, hr'⟩, hat'⟩ := hel3' k _ (List.getElem?_eq_getElem klt')
          haveI : InR (k : Int) s[i].traps.length := ⟨by omega, by omega⟩
          haveI : InR (k : Int) t[i].traps.length := ⟨by omega, by omega⟩
          haveI : InI ((k : Int) + 1) := ⟨by simp only [big] at hb3; omega⟩
          haveI : Fz z c (offc + (k : Int).toNat * 3) s[i].traps[k].cells := ⟨by rw [Int.toNat_natCast]; exact hat⟩
          haveI : Fz z c' (offc' + (k : Int).toNat * 3) t[i].traps[k].cells := ⟨by rw [Int.toNat_natCast]; exact hat'⟩
          rw [listEq_drop klt klt'] at g2
          (repeat (first | (refine iDr ?_; intro _ _) | refine V_run ?_ | refine PV_run ?_ | refine HV_run ?_ | refine iV_ld1 ?_ | refine iV_ldN ?_ | (refine iV_bx ?_; intro _ _ _ _) | (refine iV_al ?_; intro _ _ _ _) | (refine iV_mm ?_; intro _ _ _ _) | (refine iU_st ?_; intro _ _) | refine iHV_1 ?_ | refine iHV_N ?_ | refine iRI_1 ?_ | refine iRI_N ?_ | refine Cond_t ?_ | refine Cond_f ?_ | refine JB ?_ | (refine JC ?_; intro _ _ _ _) | (refine J1 ?_; intro _ _) | (refine J0 ?_; intro _ _) | (refine J2 ?_; intro _ _) | (refine J3 ?_; intro _ _) | (refine J4 ?_; intro _ _) | refine K1 ?_ | refine K0 ?_ | refine K2 ?_ | refine K3 ?_ | refine K4 ?_ | (refine CV_pu ?_; intro _ _ _ _) | refine fV_ldN ?_ | refine fV_ld1 ?_ | refine fHV_ldN ?_ | refine fHV_ld1 ?_ | refine NilW_some ?_ | refine iCW_1 ?_ | refine iCW_N ?_ | refine Pk_b ?_))
          refine Cond_n (fun h' => ?_) (fun h' => ?_)
          · exact ⟨_, _, ‹_›, by rw [same, h2, FrM.eqb, g2, show TrM.eqb s[i].traps[k] t[i].traps[k] = false from h']; rfl⟩
          · (repeat (first | (refine iDr ?_; intro _ _) | refine V_run ?_ | refine PV_run ?_ | refine HV_run ?_ | refine iV_ld1 ?_ | refine iV_ldN ?_ | (refine iV_bx ?_; intro _ _ _ _) | (refine iV_al ?_; intro _ _ _ _) | (refine iV_mm ?_; intro _ _ _ _) | (refine iU_st ?_; intro _ _) | refine iHV_1 ?_ | refine iHV_N ?_ | refine iRI_1 ?_ | refine iRI_N ?_ | refine Cond_t ?_ | refine Cond_f ?_ | refine JB ?_ | (refine JC ?_; intro _ _ _ _) | (refine J1 ?_; intro _ _) | (refine J0 ?_; intro _ _) | (refine J2 ?_; intro _ _) | (refine J3 ?_; intro _ _) | (refine J4 ?_; intro _ _) | refine K1 ?_ | refine K0 ?_ | refine K2 ?_ | refine K3 ?_ | refine K4 ?_ | (refine CV_pu ?_; intro _ _ _ _) | refine fV_ldN ?_ | refine fV_ld1 ?_ | refine fHV_ldN ?_ | refine fHV_ld1 ?_ | refine NilW_some ?_ | refine iCW_1 ?_ | refine iCW_N ?_ | refine Pk_b ?_))
            exact back1 (k + 1) _ _ ⟨by simp, by omega, by rw [g2, show TrM.eqb s[i].traps[k] t[i].traps[k] = true from h']; rfl, _, ‹_›⟩ (by omega)
        · rw [listEq_end (by omega) (by omega)] at g2
          refine LoopG1 (fun (k : Nat) x w' => x = .int .i64 k ∧ k ≤ s[i].pend.length ∧ listEq RaM.eqb s[i].pend t[i].pend = listEq RaM.eqb (s[i].pend.drop k) (t[i].pend.drop k) ∧ ∃ z', Res w z [] w' z' [(by_, .cells [.slice a3' t[i].traps.length cap3', .slice a4' t[i].pend.length cap4', .int .i64 t[i].info.cond, .int .i64 t[i].info.mode, .string t[i].info.desc].toArray 63 (0, 0)), (bx, .cells [.slice a3 s[i].traps.length cap3, .slice a4 s[i].pend.length cap4, .int .i64 s[i].info.cond, .int .i64 s[i].info.mode, .string s[i].info.desc].toArray 63 (0, 0)), (b1, .cells [.slice (some ⟨b', off', none⟩) t.length cap'].toArray 28 (0, 0)), (b0, .cells [.slice (some ⟨b, off, none⟩) s.length cap].toArray 28 (0, 0))]) (fun k => s[i].pend.length - k) 0 ⟨rfl, by omega, rfl, _, hS3⟩ ?_
          rintro I2 M2 k2 x w4 m2 ⟨rfl, g1', g2', z4, hS4⟩ back2
          (repeat (first | (refine iDr ?_; intro _ _) | refine V_run ?_ | refine PV_run ?_ | refine HV_run ?_ | refine iV_ld1 ?_ | refine iV_ldN ?_ | (refine iV_bx ?_; intro _ _ _ _) | (refine iV_al ?_; intro _ _ _ _) | (refine iV_mm ?_; intro _ _ _ _) | (refine iU_st ?_; intro _ _) | refine iHV_1 ?_ | refine iHV_N ?_ | refine iRI_1 ?_ | refine iRI_N ?_ | refine Cond_t ?_ | refine Cond_f ?_ | refine JB ?_ | (refine JC ?_; intro _ _ _ _) | (refine J1 ?_; intro _ _) | (refine J0 ?_; intro _ _) | (refine J2 ?_; intro _ _) | (refine J3 ?_; intro _ _) | (refine J4 ?_; intro _ _) | refine K1 ?_ | refine K0 ?_ | refine K2 ?_ | refine K3 ?_ | refine K4 ?_ | (refine CV_pu ?_; intro _ _ _ _) | refine fV_ldN ?_ | refine fV_ld1 ?_ | refine fHV_ldN ?_ | refine fHV_ld1 ?_ | refine NilW_some ?_ | refine iCW_1 ?_ | refine iCW_N ?_ | refine Pk_b ?_))
          refine Cond_d (fun hh => ?_) (fun hh => ?_)
          · have klt : k2 < s[i].pend.length := by omega
            have klt' : k2 < t[i].pend.length := by omega
            obtain ⟨c, offc, cs, rfl, ⟨rfl, hr⟩, hat⟩ := hel4 k2 _ (List.getElem?_eq_getElem klt)
            obtain ⟨c', offc', cs', rfl, ⟨rfl, hr'⟩, hat'⟩ := hel4' k2 _ (List.getElem?_eq_getElem klt')
            haveI : InR (k2 : Int) s[i].pend.length := ⟨by omega, by omega⟩
            haveI : InR (k2 : Int) t[i].pend.length := ⟨by omega, by omega⟩
            haveI : InI ((k2 : Int) + 1) := ⟨by simp only [big] at hb4; omega⟩
            haveI : Fz z c (offc + (k2 : Int).toNat * 2) s[i].pend[k2].cells := ⟨by rw [Int.toNat_natCast]; exact hat⟩
            haveI : Fz z c' (offc' + (k2 : Int).toNat * 2) t[i].pend[k2].cells := ⟨by rw [Int.toNat_natCast]; exact hat'⟩
            rw [listEq_drop klt klt'] at g2'
            (repeat (first | (refine iDr ?_; intro _ _) | refine V_run ?_ | refine PV_run ?_ | refine HV_run ?_ | refine iV_ld1 ?_ | refine iV_ldN ?_ | (refine iV_bx ?_; intro _ _ _ _) | (refine iV_al ?_; intro _ _ _ _) | (refine iV_mm ?_; intro _ _ _ _) | (refine iU_st ?_; intro _ _) | refine iHV_1 ?_ | refine iHV_N ?_ | refine iRI_1 ?_ | refine iRI_N ?_ | refine Cond_t ?_ | refine Cond_f ?_ | refine JB ?_ | (refine JC ?_; intro _ _ _ _) | (refine J1 ?_; intro _ _) | (refine J0 ?_; intro _ _) | (refine J2 ?_; intro _ _) | (refine J3 ?_; intro _ _) | (refine J4 ?_; intro _ _) | refine K1 ?_ | refine K0 ?_ | refine K2 ?_ | refine K3 ?_ | refine K4 ?_ | (refine CV_pu ?_; intro _ _ _ _) | refine fV_ldN ?_ | refine fV_ld1 ?_ | refine fHV_ldN ?_ | refine fHV_ld1 ?_ | refine NilW_some ?_ | refine iCW_1 ?_ | refine iCW_N ?_ | refine Pk_b ?_))
            refine Cond_n (fun h' => ?_) (fun h' => ?_)
            · exact ⟨_, _, ‹_›, by rw [same, h2, FrM.eqb, g2, g2', show RaM.eqb s[i].pend[k2] t[i].pend[k2] = false from h']; rfl⟩
            · (repeat (first | (refine iDr ?_; intro _ _) | refine V_run ?_ | refine PV_run ?_ | refine HV_run ?_ | refine iV_ld1 ?_ | refine iV_ldN ?_ | (refine iV_bx ?_; intro _ _ _ _) | (refine iV_al ?_; intro _ _ _ _) | (refine iV_mm ?_; intro _ _ _ _) | (refine iU_st ?_; intro _ _) | refine iHV_1 ?_ | refine iHV_N ?_ | refine iRI_1 ?_ | refine iRI_N ?_ | refine Cond_t ?_ | refine Cond_f ?_ | refine JB ?_ | (refine JC ?_; intro _ _ _ _) | (refine J1 ?_; intro _ _) | (refine J0 ?_; intro _ _) | (refine J2 ?_; intro _ _) | (refine J3 ?_; intro _ _) | (refine J4 ?_; intro _ _) | refine K1 ?_ | refine K0 ?_ | refine K2 ?_ | refine K3 ?_ | refine K4 ?_ | (refine CV_pu ?_; intro _ _ _ _) | refine fV_ldN ?_ | refine fV_ld1 ?_ | refine fHV_ldN ?_ | refine fHV_ld1 ?_ | refine NilW_some ?_ | refine iCW_1 ?_ | refine iCW_N ?_ | refine Pk_b ?_))
              exact back2 (k2 + 1) _ _ ⟨by simp, by omega, by rw [g2', show RaM.eqb s[i].pend[k2] t[i].pend[k2] = true from h']; rfl, _, ‹_›⟩ (by omega)
          · rw [listEq_end (by omega) (by omega)] at g2'
            (repeat (first | (refine iDr ?_; intro _ _) | refine V_run ?_ | refine PV_run ?_ | refine HV_run ?_ | refine iV_ld1 ?_ | refine iV_ldN ?_ | (refine iV_bx ?_; intro _ _ _ _) | (refine iV_al ?_; intro _ _ _ _) | (refine iV_mm ?_; intro _ _ _ _) | (refine iU_st ?_; intro _ _) | refine iHV_1 ?_ | refine iHV_N ?_ | refine iRI_1 ?_ | refine iRI_N ?_ | refine Cond_t ?_ | refine Cond_f ?_ | refine JB ?_ | (refine JC ?_; intro _ _ _ _) | (refine J1 ?_; intro _ _) | (refine J0 ?_; intro _ _) | (refine J2 ?_; intro _ _) | (refine J3 ?_; intro _ _) | (refine J4 ?_; intro _ _) | refine K1 ?_ | refine K0 ?_ | refine K2 ?_ | refine K3 ?_ | refine K4 ?_ | (refine CV_pu ?_; intro _ _ _ _) | refine fV_ldN ?_ | refine fV_ld1 ?_ | refine fHV_ldN ?_ | refine fHV_ld1 ?_ | refine NilW_some ?_ | refine iCW_1 ?_ | refine iCW_N ?_ | refine Pk_b ?_))
            exact back (i + 1) _ _ ⟨by simp, by omega, by rw [h2, FrM.eqb, q1, g2, g2']; rfl, _, Res.tl (Res.tl ‹_›)⟩ (by omega)
    · exact ⟨_, _, ‹_›, by rw [same, h2, listEq_end (by omega) (by omega)]⟩)
end Go.Proofs.Ytjnckainogpenaa
end

section
/- Appending nothing; slices read as a whole; freezing an own slice; cells behind a part of a list. -/
set_option linter.unusedVariables false
set_option linter.unusedSimpArgs false
set_option maxRecDepth 20000
namespace Go.Proofs.Ytjnckainogpenaa
open Go Q Go.RowKit
section
variable {w0 w w' : World} {z0 z z' : Z} {B0 B B' L F : Bl} {b : Nat} {o : Obj} {C : Obj → Bl} {K : Value → World → Prop}
/-- **append(v, nothing...)**, to a slice that is not nil. -/
theorem V_app0 {t ty e size bytes : Nat} [g : TyApp t e size bytes] {b n cap c : Nat} {a : Option Addr} {xs sp : List Value} (hS : Res w0 z0 B0 w z ((b, .cells (xs ++ sp).toArray e (0, 0)) :: L)) (hl : (xs ++ sp).length = cap * size) (hx : xs.length = n * size) (hc : n ≤ cap)
    (hk : K (.slice (some ⟨b, 0, none⟩) n cap) w) : V (Builtin.append_ #[t, t] ty #[.slice (some ⟨b, 0, none⟩) n cap, .slice a 0 c]) w K := by
  obtain ⟨zv, hinfo, hzs⟩ := g.info
  obtain ⟨i, hi, hz⟩ := Option.map_eq_some_iff.1 hinfo
  simp only [Prod.mk.injEq] at hz
  obtain ⟨hz0, hz1, hz2⟩ := hz
  have hat := hS.mem (b, .cells (xs ++ sp).toArray e (0, 0)) (by simp)
  have hfit : n * i.size + 0 ≤ (xs ++ sp).toArray.size := by rw [hz1, Nat.add_zero]; simp only [List.size_toArray, hl]; exact Nat.mul_le_mul_right _ hc
  cases a with
  | some a =>
    have hr := run_append_room (P := Try.prog) w t ty e i g.und hi b n cap (xs ++ sp).toArray hat.1 a 0 c [] (by simp) (by simp) (by simp) (by omega) hfit
    refine ⟨_, _, hr, ?_⟩
    rw [setRow_eq hat.1]
    have : ((xs ++ sp).toArray.toList.take (n * i.size) ++ [] ++ (xs ++ sp).toArray.toList.drop (n * i.size + ([] : List Value).length)).toArray = (xs ++ sp).toArray := by simp
    rw [this, heap_set_self hat.1]
    exact hk
  | none =>
    have h0 : Builtin.lenOf (.slice none 0 c) = pure 0 := rfl
    have hu : ∀ w, (underlying t).run Try.prog w = .ok (.slice e) w := fun w => run_underlying g.und w
    refine ⟨.slice (some ⟨b, 0, none⟩) n cap, w, ?_, hk⟩
    have hs0 : ∀ (a : Addr) w, (storeCells a [] 0).run Try.prog w = .ok () w := fun a w => rfl
    simp [Builtin.append_, run_underlying g.und, sizeOf, typeInfo, hi, Builtin.lenOf, hc, Builtin.firstCells, Sem.run_bind, program, Sem.run, hs0]
/-- All cells of a slice. -/
theorem SlR.all {α : Type} {E : El α} {v : Value} {xs : List α} (f : α → List Value) (h : SlR E z v xs) (hf : ∀ z cs x, E.rel z cs x → cs = f x) (hn : xs ≠ []) : ∃ b off cap, v = .slice (some ⟨b, off, none⟩) xs.length cap ∧ xs.length ≤ big ∧ At z b off (xs.flatMap f) := by
  obtain ⟨a, cap, rfl, h2, h3, h4⟩ := h
  obtain ⟨b, off, rfl, h6⟩ := h4 hn
  refine ⟨b, off, cap, rfl, h3, ?_⟩
  have hobj : ∃ c ty fr, z b = some (.cells c ty fr) := by
    cases xs with
    | nil => exact absurd rfl hn
    | cons x xs =>
      obtain ⟨cs, _, c, ty, fr, h7, _⟩ := h6 0 x rfl
      exact ⟨c, ty, fr, h7⟩
  obtain ⟨c, ty, fr, hc⟩ := hobj
  refine ⟨c, ty, fr, hc, ?_⟩
  have key : ∀ (l : List α) (k : Nat), (∀ i x, l[i]? = some x → (f x).length = E.size ∧ ∀ j v, (f x)[j]? = some v → c[off + (k + i) * E.size + j]? = some v) → ∀ j v, (l.flatMap f)[j]? = some v → c[off + k * E.size + j]? = some v := by
    intro l
    induction l with
    | nil => intro k _ j v hv; simp at hv
    | cons x l ih =>
      intro k hl j v hv
      rw [List.flatMap_cons] at hv
      obtain ⟨h8, h9⟩ := hl 0 x rfl
      by_cases hj : j < (f x).length
      · rw [List.getElem?_append_left hj] at hv
        simpa using h9 j v hv
      · rw [List.getElem?_append_right (by omega)] at hv
        have := ih (k + 1) (fun i y hy => by
          have := hl (i + 1) y (by simpa using hy)
          rw [show k + 1 + i = k + (i + 1) by omega]
          exact this) (j - (f x).length) v hv
        rw [h8, Nat.add_mul] at this
        rw [← this]
        congr 1
        omega
  intro j v hv
  have := key xs 0 (fun i x hx => by
    obtain ⟨cs, h7, c', ty', fr', h8, h9⟩ := h6 i x hx
    rw [hc] at h8
    cases h8
    have hl := E.len h7
    rw [hf _ _ _ h7] at h9 hl
    exact ⟨hl, fun j v hv => by rw [Nat.zero_add]; exact h9 j v hv⟩) j v hv
  simpa using this
theorem flat_len {α : Type} {f : α → List Value} {n : Nat} (hf : ∀ x, (f x).length = n) (xs : List α) : (xs.flatMap f).length = xs.length * n := by
  induction xs with
  | nil => simp
  | cons x xs ih => rw [List.flatMap_cons, List.length_append, ih, hf, List.length_cons, Nat.add_mul]; omega
theorem flat_get {α : Type} {f : α → List Value} {n : Nat} (hf : ∀ x, (f x).length = n) {xs : List α} {i : Nat} {x : α} (hx : xs[i]? = some x) (j : Nat) (v : Value) (hv : (f x)[j]? = some v) : (xs.flatMap f)[i * n + j]? = some v := by
  induction xs generalizing i with
  | nil => simp at hx
  | cons y xs ih =>
    rw [List.flatMap_cons]
    have hj := (List.getElem?_eq_some_iff.1 hv).1
    cases i with
    | zero =>
      simp at hx; subst hx
      rw [Nat.zero_mul, Nat.zero_add, List.getElem?_append_left hj]
      exact hv
    | succ i =>
      rw [List.getElem?_append_right (by rw [hf, Nat.add_mul]; omega), hf, show (i + 1) * n + j - n = i * n + j by rw [Nat.add_mul]; omega]
      exact ih (by simpa using hx)
/-- An own slice is frozen, and reads as it did. -/
theorem Res.freezeSl {α : Type} {E : El α} {e : Nat} {v : Value} {xs : List α} {f : α → List Value} (h : Res w0 z0 B0 w z (B ++ L)) (ho : OwnSl e E.size B v xs.length (xs.flatMap f)) (hb : xs.length ≤ big) (hf : ∀ x, (f x).length = E.size) (hr : ∀ z x, x ∈ xs → E.rel z (f x) x) :
    ∃ z', Le z z' ∧ Res w0 z0 B0 w z' L ∧ SlR E z' v xs := by
  rcases ho.2 with ⟨rfl, rfl, h0⟩ | ⟨b, cap, sp, rfl, rfl, h1, h2, h3⟩
  · have : xs = [] := List.eq_nil_of_length_eq_zero h0
    subst this
    exact ⟨z, Le.refl _, h, SlR.nil⟩
  · refine ⟨_, Res.freeze_le h, Res.freeze h, some ⟨b, 0, none⟩, cap, rfl, h1, hb, fun _ => ⟨b, 0, rfl, fun i x hx => ⟨f x, hr _ _ (List.mem_of_getElem? hx), _, _, _, if_pos rfl, fun j v hv => ?_⟩⟩⟩
    have := flat_get hf hx j v hv
    have hlt := (List.getElem?_eq_some_iff.1 this).1
    simp only [Nat.zero_add, List.getElem?_toArray]
    rw [List.getElem?_append_left hlt]
    exact this
/-- A call that is handed nothing and leaves blocks of its own. -/
theorem CV_fn0 [hS : Res w0 z0 B0 w z L] {f : FuncId} [Enters f] {args : Array Value} {R : Z → Bl → Value → Prop} (h : Le z0 z → Fn f args z [] w R) (hk : ∀ z' B' w' v, Le z z' → Res w0 z0 B0 w' z' (B' ++ L) → R z' B' v → K v w') :
    CV (.func (.func f) #[] #[]) args w K := CV_fn (B := []) hS (h hS.zle) (by simp) hk
theorem Va.call0 [hS : Res w0 z0 B0 w z L] {f : Value} {args : Array Value} {R : Z → Bl → Value → Prop} (h : Le z0 z → Va f args z [] w R) (hk : ∀ z' B' w' v, Le z z' → Res w0 z0 B0 w' z' (B' ++ L) → R z' B' v → K v w') :
    CV f args w K := CV_va (B := []) hS (h hS.zle) hk
/-! ### Cells behind a part of a list -/
instance (priority := 550) {a i j : Nat} : AddN (a + i) j (a + (i + j)) := ⟨Nat.add_assoc a i j⟩
instance {ps l : List Value} {i : Nat} {v : Value} [g : Get l i v] : Get (ps ++ l) (ps.length + i) v := ⟨by rw [List.getElem?_append_right (by omega), Nat.add_sub_cancel_left]; exact g.h⟩
instance {ps l : List Value} {v : Value} [g : Get l 0 v] : Get (ps ++ l) ps.length v := ⟨by rw [List.getElem?_append_right (Nat.le_refl _), Nat.sub_self]; exact g.h⟩
instance {ps l vs : List Value} {i n : Nat} [g : GetN l i n vs] : GetN (ps ++ l) (ps.length + i) n vs := ⟨g.len, fun j v h => by rw [List.getElem?_append_right (by omega), show ps.length + i + j - ps.length = i + j by omega]; exact g.h j v h⟩
instance {ps l vs : List Value} {n : Nat} [g : GetN l 0 n vs] : GetN (ps ++ l) ps.length n vs := ⟨g.len, fun j v h => by
  have := g.h j v h
  rw [Nat.zero_add] at this
  rw [List.getElem?_append_right (by omega), Nat.add_sub_cancel_left]; exact this⟩
theorem SetN.behind {ps l vs l' : List Value} {i : Nat} (g : SetN l i vs l') : SetN (ps ++ l) (ps.length + i) vs (ps ++ l') where
  len := by simp [g.len]
  bound := by have := g.bound; simp; omega
  inn := fun j v h => by rw [List.getElem?_append_right (by omega), show ps.length + i + j - ps.length = i + j by omega]; exact g.inn j v h
  out := fun k hk => by
    by_cases hp : k < ps.length
    · rw [List.getElem?_append_left hp, List.getElem?_append_left hp]
    · rw [List.getElem?_append_right (by omega), List.getElem?_append_right (by omega)]
      exact g.out _ (by omega)
instance {ps l vs l' : List Value} {i : Nat} [g : SetN l i vs l'] : SetN (ps ++ l) (ps.length + i) vs (ps ++ l') := g.behind
instance {ps l vs l' : List Value} [g : SetN l 0 vs l'] : SetN (ps ++ l) ps.length vs (ps ++ l') := g.behind
/-! ### An array's literal -/
instance {t n e : Nat} {zs out : List Value} {parts : List (Nat × Value)} [g : TyArr t n e 1] [gz : TyZero t zs] [gl : LenIs zs n] [gf : FillS 1 0 parts out n] : Run (bd t parts.toArray) (.agg out.toArray) := ⟨fun w => by
  obtain ⟨v, h1, h2⟩ := gz.h
  obtain ⟨k1, k2, k3⟩ := gf.h
  have hl := gl.h
  have hf := k3 [] zs (by simp) (by rw [hl, k1]; simp)
  simp only [List.nil_append] at hf
  simp only [bd, Instr.build, Sem.run_bind, h2, Result.andThen_ok, g.und, g.size, h1, hf]
  rfl⟩
/-- **append(v, news...)**; what v held is still there. -/
theorem V_appX {t ty e size bytes : Nat} [g : TyApp t e size bytes] {v : Value} {n m c b' off' : Nat} {xs news : List Value} (hS : Res w0 z0 B0 w z (B ++ L)) (ho : OwnSl e size B v n xs)
    (hn : At (hp w) b' off' news) (hl : news.length = m * size) (h1 : ∀ u ∈ news, isOne u = true) (hm : 0 < m) (hb : (n + m) * bytes ≤ room) (hb2 : n + m ≤ room)
    (hk : ∀ B' v' w', OwnSl e size B' v' (n + m) (xs ++ news) → Res w0 z0 B0 w' z (B' ++ L) → (∀ b cap, v = .slice (some ⟨b, 0, none⟩) n cap → At (hp w') b 0 xs) → K v' w') : V (Builtin.append_ #[t, t] ty #[v, .slice (some ⟨b', off', none⟩) m c]) w K := by
  obtain ⟨zv, hinfo, hzs⟩ := g.info
  obtain ⟨i, hi, hz⟩ := Option.map_eq_some_iff.1 hinfo
  simp only [Prod.mk.injEq] at hz
  obtain ⟨hz0, hz1, hz2⟩ := hz
  have hnews : ∀ j u, news[j]? = some u → w.cell? ((⟨b', off', none⟩ : Addr).add j) = some u := fun j u hu => by rw [add_addr]; exact hn.cell hu
  have hlen : (xs ++ news).length = (n + m) * size := by rw [List.length_append, ho.1, hl, Nat.add_mul]
  simp only [room] at hb hb2
  have hmax : n + m ≤ maxLen := by simp only [maxLen]; omega
  have h63 : ((n + m : Nat) : Int) ≤ 9223372036854775807 := by simp only [maxLen] at hmax; omega
  have grown : ∀ (old : Nat) (w1 : World), w1 = w.drew.alloc (.cells (xs.toArray ++ news.toArray ++ Builtin.zeroCells zv.cells (grownCap w (n + m) old e - (n + m))) e) →
      Res w0 z0 B0 w1 z ((w.heap.size, .cells (xs ++ news ++ (Builtin.zeroCells zv.cells (grownCap w (n + m) old e - (n + m))).toList).toArray e (0, 0)) :: (B ++ L)) := fun old w1 hw1 => by
    subst hw1
    have := Res.new (Res.drew hS) (.cells (xs ++ news ++ (Builtin.zeroCells zv.cells (grownCap w (n + m) old e - (n + m))).toList).toArray e (0, 0))
    have he : (xs.toArray ++ news.toArray ++ Builtin.zeroCells zv.cells (grownCap w (n + m) old e - (n + m))) = (xs ++ news ++ (Builtin.zeroCells zv.cells (grownCap w (n + m) old e - (n + m))).toList).toArray := by
      apply Array.toList_inj.1; simp
    rw [he]
    exact this
  have own' : ∀ (old : Nat), OwnSl e size [(w.heap.size, .cells (xs ++ news ++ (Builtin.zeroCells zv.cells (grownCap w (n + m) old e - (n + m))).toList).toArray e (0, 0))] (.slice (some ⟨w.heap.size, 0, none⟩) (n + m) (grownCap w (n + m) old e)) (n + m) (xs ++ news) := fun old => by
    have hge := grownCap_ge w (n + m) old e
    refine ⟨hlen, .inr ⟨_, _, _, rfl, rfl, hge, grownCap_le_maxLen w (n + m) old e hmax, ?_⟩⟩
    rw [List.length_append, hlen, Array.length_toList, size_zeroCells, hzs, ← Nat.add_mul]
    congr 1
    omega
  rcases ho.2 with ⟨rfl, rfl, rfl⟩ | ⟨b, cap, sp, rfl, rfl, hcap, hcm, hsz⟩
  · have hx0 : xs = [] := List.eq_nil_of_length_eq_zero (by have := ho.1; simpa using this)
    subst hx0
    have hr := run_append_nil (P := Try.prog) w t ty e i zv g.und hi hz0 ⟨b', off', none⟩ m c news (by rw [hz1]; exact hl) hnews hm (by simpa using h63) (by rw [hz2]; simp only [Nat.zero_add] at hb; omega)
    refine ⟨_, _, hr, ?_⟩
    have h5 := grown 0 _ rfl
    have h6 := own' 0
    simp only [Nat.zero_add] at h5 h6
    exact hk _ _ _ (by simpa using h6) (by simpa using h5) (fun _ _ hv => by cases hv)
  · by_cases hroom : n + m ≤ cap
    · have hat := hS.mem (b, .cells (xs ++ sp).toArray e (0, 0)) (by simp)
      have hfit : n * i.size + news.length ≤ (xs ++ sp).toArray.size := by
        rw [hz1, hl, ← Nat.add_mul]; simp only [List.size_toArray, hsz]; exact Nat.mul_le_mul_right _ hroom
      have hr := run_append_room (P := Try.prog) w t ty e i g.und hi b n cap (xs ++ sp).toArray hat.1 ⟨b', off', none⟩ m c news (by rw [hz1]; exact hl) hnews (fun u hu => oneCell'_of (h1 u hu)) hroom hfit
      refine ⟨_, _, hr, ?_⟩
      rw [setRow_eq hat.1]
      have e1 : (xs ++ sp).take (n * i.size) = xs := by rw [hz1, ← ho.1]; exact List.take_left
      have hnew : ((xs ++ sp).toArray.toList.take (n * i.size) ++ news ++ (xs ++ sp).toArray.toList.drop (n * i.size + news.length)) = xs ++ news ++ sp.drop news.length := by
        simp only [e1]
        rw [hz1, ← ho.1, List.drop_append, List.drop_of_length_le (by omega)]
        simp
      rw [hnew]
      refine hk [(b, .cells (xs ++ news ++ sp.drop news.length).toArray e (0, 0))] _ _ ⟨hlen, .inr ⟨b, cap, sp.drop news.length, rfl, rfl, hroom, hcm, ?_⟩⟩ (Res.put hS _ rfl) (fun b1 cap1 hv => ?_)
      rotate_left
      · cases hv
        refine ⟨_, _, _, ((Res.put hS _ rfl).mem _ List.mem_cons_self).1, fun j u hu => ?_⟩
        simp only [Nat.zero_add, List.getElem?_toArray, List.append_assoc]
        rw [List.getElem?_append_left (List.getElem?_eq_some_iff.1 hu).1]
        exact hu
      rw [List.length_append, hlen, List.length_drop]
      have : sp.length = cap * size - n * size := by rw [← hsz, List.length_append, ho.1]; omega
      rw [this, hl, Nat.add_mul]
      have : (n + m) * size ≤ cap * size := Nat.mul_le_mul_right _ hroom
      rw [Nat.add_mul] at this
      omega
    · have hat := hS.mem (b, .cells (xs ++ sp).toArray e (0, 0)) (by simp)
      have holds : ∀ j u, xs[j]? = some u → w.cell? ((⟨b, 0, none⟩ : Addr).add j) = some u := fun j u hu => by
        rw [add_addr]
        refine At.cell (vs := xs) ⟨_, _, _, hat.1, fun j u hu => ?_⟩ hu
        simp only [Nat.zero_add, List.getElem?_toArray]
        rw [List.getElem?_append_left (List.getElem?_eq_some_iff.1 hu).1]
        exact hu
      have hr := run_append_grow (P := Try.prog) w t ty e i zv g.und hi hz0 ⟨b, 0, none⟩ n cap xs (by rw [hz1]; exact ho.1) holds ⟨b', off', none⟩ m c news (by rw [hz1]; exact hl) hnews (by omega) h63 (growslice_fits (by omega) (by rw [hz2]; exact hb))
      refine ⟨_, _, hr, hk _ _ _ (own' cap) ((grown cap _ rfl).sublist ?_) (fun b1 cap1 hv => ?_)⟩
      · simp
      · cases hv
        have h9 := ((grown cap _ rfl).mem (b, .cells (xs ++ sp).toArray e (0, 0)) (by simp)).1
        refine ⟨_, _, _, h9, fun j u hu => ?_⟩
        simp only [Nat.zero_add, List.getElem?_toArray]
        rw [List.getElem?_append_left (List.getElem?_eq_some_iff.1 hu).1]
        exact hu
end
end Go.Proofs.Ytjnckainogpenaa
end

section
/- Copies. -/
set_option linter.unusedVariables false
set_option maxRecDepth 20000
set_option synthInstance.maxHeartbeats 400000
set_option synthInstance.maxSize 4000
namespace Go.Proofs.Ytjnckainogpenaa
open Go Q Go.RowKit

def freeC (had : List RaM) : Nat := ([0, 1, 2, 4] : List Int).countP fun c => !had.any fun x => x.cond == c
theorem raOk_mem {had : List RaM} {r : RaM} (h : raOk had r = true) : (r.cond = 0 ∨ r.cond = 1 ∨ r.cond = 2 ∨ r.cond = 4) ∧ (had.any fun x => x.cond == r.cond) = false := by
  simp only [raOk, Bool.and_eq_true, cond, immediate, Bool.not_eq_true', decide_eq_true_eq, Bool.or_eq_false_iff, decide_eq_false_iff_not] at h
  exact ⟨by omega, h.1.2⟩
theorem freeC_step {had : List RaM} {r : RaM} (h : raOk had r = true) : freeC (had ++ [r]) + 1 ≤ freeC had := by
  obtain ⟨h1, h2⟩ := raOk_mem h
  unfold freeC
  simp only [List.countP_cons, List.countP_nil, List.any_append, List.any_cons, List.any_nil, Bool.or_false]
  rcases h1 with h1 | h1 | h1 | h1 <;> simp only [h1] at h2 ⊢ <;> simp [h2] <;> omega
theorem pend_len : ∀ {l had : List RaM}, pendFrom had l = true → l.length ≤ freeC had
  | [], _, _ => Nat.zero_le _
  | r :: l, had, h => by
    simp only [pendFrom, Bool.and_eq_true] at h
    have := pend_len h.2
    have := freeC_step h.1
    simp only [List.length_cons]
    omega
theorem pend_le4 {l : List RaM} (h : pendFrom [] l = true) : l.length ≤ 4 := pend_len h
theorem cloneTraps {v : Value} {xs : List TrM} {z : Z} {w : World} (hx : SlR El.trap z v xs) (hb : xs.length ≤ 1000000) : Fn 31 #[v] z [] w fun z' B' r => OwnSl 73 3 B' r xs.length (xs.flatMap TrM.cells) := Fn.intro fun hS => en31 (by
  unfold vc31
  have hx' := hx
  obtain ⟨a, cap, rfl, hc, hbig, hel⟩ := hx
  refine V_run ?_
  cases a with
  | none =>
    have : xs = [] := by
      by_cases hn : xs = []
      · exact hn
      · obtain ⟨b, off, h, _⟩ := hel hn; cases h
    subst this
    (repeat (first | (refine iDr ?_; intro _ _) | refine V_run ?_ | refine PV_run ?_ | refine HV_run ?_ | refine iV_ld1 ?_ | refine iV_ldN ?_ | (refine iV_bx ?_; intro _ _ _ _) | (refine iV_al ?_; intro _ _ _ _) | (refine iV_mm ?_; intro _ _ _ _) | (refine iU_st ?_; intro _ _) | refine iHV_1 ?_ | refine iHV_N ?_ | refine iRI_1 ?_ | refine iRI_N ?_ | refine Cond_t ?_ | refine Cond_f ?_ | refine JB ?_ | (refine JC ?_; intro _ _ _ _) | (refine J1 ?_; intro _ _) | (refine J0 ?_; intro _ _) | (refine J2 ?_; intro _ _) | (refine J3 ?_; intro _ _) | (refine J4 ?_; intro _ _) | refine K1 ?_ | refine K0 ?_ | refine K2 ?_ | refine K3 ?_ | refine K4 ?_ | (refine CV_pu ?_; intro _ _ _ _) | refine fV_ldN ?_ | refine fV_ld1 ?_ | refine fHV_ldN ?_ | refine fHV_ld1 ?_ | refine NilW_some ?_ | refine iCW_1 ?_ | refine iCW_N ?_ | refine Pk_b ?_))
    exact ⟨_, _, hS, OwnSl.nil⟩
  | some a =>
    (repeat (first | (refine iDr ?_; intro _ _) | refine V_run ?_ | refine PV_run ?_ | refine HV_run ?_ | refine iV_ld1 ?_ | refine iV_ldN ?_ | (refine iV_bx ?_; intro _ _ _ _) | (refine iV_al ?_; intro _ _ _ _) | (refine iV_mm ?_; intro _ _ _ _) | (refine iU_st ?_; intro _ _) | refine iHV_1 ?_ | refine iHV_N ?_ | refine iRI_1 ?_ | refine iRI_N ?_ | refine Cond_t ?_ | refine Cond_f ?_ | refine JB ?_ | (refine JC ?_; intro _ _ _ _) | (refine J1 ?_; intro _ _) | (refine J0 ?_; intro _ _) | (refine J2 ?_; intro _ _) | (refine J3 ?_; intro _ _) | (refine J4 ?_; intro _ _) | refine K1 ?_ | refine K0 ?_ | refine K2 ?_ | refine K3 ?_ | refine K4 ?_ | (refine CV_pu ?_; intro _ _ _ _) | refine fV_ldN ?_ | refine fV_ld1 ?_ | refine fHV_ldN ?_ | refine fHV_ld1 ?_ | refine NilW_some ?_ | refine iCW_1 ?_ | refine iCW_N ?_ | refine Pk_b ?_))
    refine V_bs rfl (by omega) ?_
    intro b w1 hb1 hS1
    by_cases hn : xs = []
    · subst hn
      refine V_app0 (xs := []) (sp := []) hS1 (by simp) (by simp) (by omega) ?_
      exact ⟨_, _, hS1, by simp, .inr ⟨b, 0, [], rfl, rfl, by simp, by simp [maxLen], by simp⟩⟩
    · obtain ⟨b', off, cap', hv, _, hat⟩ := hx'.all TrM.cells (fun z cs x h => h.1) hn
      cases hv
      have hpos : 0 < xs.length := List.length_pos_iff.2 hn
      refine V_app (B := [(b, .cells [].toArray 73 (0, 0))]) (L := []) (n := 0) (xs := []) (news := xs.flatMap TrM.cells) hS1 ⟨by simp, .inr ⟨b, 0, [], rfl, rfl, by omega, by simp [maxLen], by simp⟩⟩ (hat.world hS1.sub) (flat_len (f := TrM.cells) (n := 3) (fun _ => rfl) xs) ?_ hpos (by simp only [room]; omega) (by simp only [room]; omega) ?_
      · intro u hu
        obtain ⟨x, _, hx⟩ := List.mem_flatMap.1 hu
        simp only [TrM.cells, List.mem_cons, List.not_mem_nil, or_false] at hx
        rcases hx with rfl | rfl | rfl <;> rfl
      · intro B' v' w2 ho hS2
        rw [List.append_nil] at hS2
        exact ⟨_, _, hS2, by simpa using ho⟩)
theorem clonePend {v : Value} {xs : List RaM} {z : Z} {w : World} (hx : SlR El.raised z v xs) (hb : xs.length ≤ 1000000) : Fn 113 #[v] z [] w fun z' B' r => OwnSl 70 2 B' r xs.length (xs.flatMap RaM.cells) := Fn.intro fun hS => en113 (by
  unfold vc113
  have hx' := hx
  obtain ⟨a, cap, rfl, hc, hbig, hel⟩ := hx
  refine V_run ?_
  cases a with
  | none =>
    have : xs = [] := by
      by_cases hn : xs = []
      · exact hn
      · obtain ⟨b, off, h, _⟩ := hel hn; cases h
    subst this
    (repeat (first | (refine iDr ?_; intro _ _) | refine V_run ?_ | refine PV_run ?_ | refine HV_run ?_ | refine iV_ld1 ?_ | refine iV_ldN ?_ | (refine iV_bx ?_; intro _ _ _ _) | (refine iV_al ?_; intro _ _ _ _) | (refine iV_mm ?_; intro _ _ _ _) | (refine iU_st ?_; intro _ _) | refine iHV_1 ?_ | refine iHV_N ?_ | refine iRI_1 ?_ | refine iRI_N ?_ | refine Cond_t ?_ | refine Cond_f ?_ | refine JB ?_ | (refine JC ?_; intro _ _ _ _) | (refine J1 ?_; intro _ _) | (refine J0 ?_; intro _ _) | (refine J2 ?_; intro _ _) | (refine J3 ?_; intro _ _) | (refine J4 ?_; intro _ _) | refine K1 ?_ | refine K0 ?_ | refine K2 ?_ | refine K3 ?_ | refine K4 ?_ | (refine CV_pu ?_; intro _ _ _ _) | refine fV_ldN ?_ | refine fV_ld1 ?_ | refine fHV_ldN ?_ | refine fHV_ld1 ?_ | refine NilW_some ?_ | refine iCW_1 ?_ | refine iCW_N ?_ | refine Pk_b ?_))
    exact ⟨_, _, hS, OwnSl.nil⟩
  | some a =>
    (repeat (first | (refine iDr ?_; intro _ _) | refine V_run ?_ | refine PV_run ?_ | refine HV_run ?_ | refine iV_ld1 ?_ | refine iV_ldN ?_ | (refine iV_bx ?_; intro _ _ _ _) | (refine iV_al ?_; intro _ _ _ _) | (refine iV_mm ?_; intro _ _ _ _) | (refine iU_st ?_; intro _ _) | refine iHV_1 ?_ | refine iHV_N ?_ | refine iRI_1 ?_ | refine iRI_N ?_ | refine Cond_t ?_ | refine Cond_f ?_ | refine JB ?_ | (refine JC ?_; intro _ _ _ _) | (refine J1 ?_; intro _ _) | (refine J0 ?_; intro _ _) | (refine J2 ?_; intro _ _) | (refine J3 ?_; intro _ _) | (refine J4 ?_; intro _ _) | refine K1 ?_ | refine K0 ?_ | refine K2 ?_ | refine K3 ?_ | refine K4 ?_ | (refine CV_pu ?_; intro _ _ _ _) | refine fV_ldN ?_ | refine fV_ld1 ?_ | refine fHV_ldN ?_ | refine fHV_ld1 ?_ | refine NilW_some ?_ | refine iCW_1 ?_ | refine iCW_N ?_ | refine Pk_b ?_))
    refine V_bs rfl (by omega) ?_
    intro b w1 hb1 hS1
    by_cases hn : xs = []
    · subst hn
      refine V_app0 (xs := []) (sp := []) hS1 (by simp) (by simp) (by omega) ?_
      exact ⟨_, _, hS1, by simp, .inr ⟨b, 0, [], rfl, rfl, by simp, by simp [maxLen], by simp⟩⟩
    · obtain ⟨b', off, cap', hv, _, hat⟩ := hx'.all RaM.cells (fun z cs x h => h.1) hn
      cases hv
      have hpos : 0 < xs.length := List.length_pos_iff.2 hn
      refine V_app (B := [(b, .cells [].toArray 70 (0, 0))]) (L := []) (n := 0) (xs := []) (news := xs.flatMap RaM.cells) hS1 ⟨by simp, .inr ⟨b, 0, [], rfl, rfl, by omega, by simp [maxLen], by simp⟩⟩ (hat.world hS1.sub) (flat_len (f := RaM.cells) (n := 2) (fun _ => rfl) xs) ?_ hpos (by simp only [room]; omega) (by simp only [room]; omega) ?_
      · intro u hu
        obtain ⟨x, _, hx⟩ := List.mem_flatMap.1 hu
        simp only [RaM.cells, List.mem_cons, List.not_mem_nil, or_false] at hx
        rcases hx with rfl | rfl <;> rfl
      · intro B' v' w2 ho hS2
        rw [List.append_nil] at hS2
        exact ⟨_, _, hS2, by simpa using ho⟩)
/-- A frame of the call's own. -/
def FrOwn (B : Bl) (cs : List Value) (f : FrM) : Prop := ∃ B1 B2 v1 v2, B = B1 ++ B2 ∧ cs = v1 :: v2 :: f.info.cells ∧ OwnSl 73 3 B1 v1 f.traps.length (f.traps.flatMap TrM.cells) ∧ OwnSl 70 2 B2 v2 f.pend.length (f.pend.flatMap RaM.cells)
/-- What memory can hold. -/
def FrSm (f : FrM) : Prop := f.traps.length ≤ 1000000 ∧ f.pend.length ≤ 1000000 ∧ (∀ t ∈ f.traps, t.label.size ≤ big) ∧ (∀ r ∈ f.pend, r.desc.size ≤ big) ∧ f.info.desc.size ≤ big
theorem SlR.mem {α : Type} {E : El α} {z : Z} {v : Value} {xs : List α} (h : SlR E z v xs) {x : α} (hx : x ∈ xs) : ∃ cs, E.rel z cs x := by
  obtain ⟨i, hi⟩ := List.mem_iff_getElem?.1 hx
  obtain ⟨_, a, cap, _, _, hel⟩ := h.form
  obtain ⟨_, _, cs, _, hr, _⟩ := hel i x hi
  exact ⟨cs, hr⟩
theorem frame {v : Value} {f : FrM} {z : Z} {w : World} (hf : FrR z v f) (h1 : f.traps.length ≤ 1000000) (h2 : f.pend.length ≤ 1000000) : Fn 99 #[v] z [] w fun z' B' r => ∃ cs, r = .agg cs.toArray ∧ FrOwn B' cs f ∧ FrSm f := Fn.intro fun hS => en99 (by
  unfold vc99
  obtain ⟨cs, rfl, v1, v2, rfl, hv1, hv2, hd⟩ := hf
  obtain ⟨hb1, a1, cap1, rfl, hc1, hel1⟩ := hv1.form
  obtain ⟨hb2, a2, cap2, rfl, hc2, hel2⟩ := hv2.form
  dsimp only [InM.cells]
  refine iV_bx ?_
  intro b0 w0' hb0 hS0
  refine iV_al ?_
  intro b1 w1' hb1 hS1
  (repeat (first | (refine iDr ?_; intro _ _) | refine V_run ?_ | refine PV_run ?_ | refine HV_run ?_ | refine iV_ld1 ?_ | refine iV_ldN ?_ | (refine iV_bx ?_; intro _ _ _ _) | (refine iV_al ?_; intro _ _ _ _) | (refine iV_mm ?_; intro _ _ _ _) | (refine iU_st ?_; intro _ _) | refine iHV_1 ?_ | refine iHV_N ?_ | refine iRI_1 ?_ | refine iRI_N ?_ | refine Cond_t ?_ | refine Cond_f ?_ | refine JB ?_ | (refine JC ?_; intro _ _ _ _) | (refine J1 ?_; intro _ _) | (refine J0 ?_; intro _ _) | (refine J2 ?_; intro _ _) | (refine J3 ?_; intro _ _) | (refine J4 ?_; intro _ _) | refine K1 ?_ | refine K0 ?_ | refine K2 ?_ | refine K3 ?_ | refine K4 ?_ | (refine CV_pu ?_; intro _ _ _ _) | refine fV_ldN ?_ | refine fV_ld1 ?_ | refine fHV_ldN ?_ | refine fHV_ld1 ?_ | refine NilW_some ?_ | refine iCW_1 ?_ | refine iCW_N ?_ | refine Pk_b ?_))
  refine CV_fn0 (fun hz => cloneTraps (hv1.mono hz) h1) ?_
  rintro z3 B1 w3 v3 hle3 hS3 ho1
  (repeat (first | (refine iDr ?_; intro _ _) | refine V_run ?_ | refine PV_run ?_ | refine HV_run ?_ | refine iV_ld1 ?_ | refine iV_ldN ?_ | (refine iV_bx ?_; intro _ _ _ _) | (refine iV_al ?_; intro _ _ _ _) | (refine iV_mm ?_; intro _ _ _ _) | (refine iU_st ?_; intro _ _) | refine iHV_1 ?_ | refine iHV_N ?_ | refine iRI_1 ?_ | refine iRI_N ?_ | refine Cond_t ?_ | refine Cond_f ?_ | refine JB ?_ | (refine JC ?_; intro _ _ _ _) | (refine J1 ?_; intro _ _) | (refine J0 ?_; intro _ _) | (refine J2 ?_; intro _ _) | (refine J3 ?_; intro _ _) | (refine J4 ?_; intro _ _) | refine K1 ?_ | refine K0 ?_ | refine K2 ?_ | refine K3 ?_ | refine K4 ?_ | (refine CV_pu ?_; intro _ _ _ _) | refine fV_ldN ?_ | refine fV_ld1 ?_ | refine fHV_ldN ?_ | refine fHV_ld1 ?_ | refine NilW_some ?_ | refine iCW_1 ?_ | refine iCW_N ?_ | refine Pk_b ?_))
  refine CV_fn0 (fun hz => clonePend (hv2.mono hz) h2) ?_
  rintro z4 B2 w4 v4 hle4 hS4 ho2
  obtain ⟨a3, cap3, rfl, hc3⟩ := ho1.form
  obtain ⟨a4, cap4, rfl, hc4⟩ := ho2.form
  (repeat (first | (refine iDr ?_; intro _ _) | refine V_run ?_ | refine PV_run ?_ | refine HV_run ?_ | refine iV_ld1 ?_ | refine iV_ldN ?_ | (refine iV_bx ?_; intro _ _ _ _) | (refine iV_al ?_; intro _ _ _ _) | (refine iV_mm ?_; intro _ _ _ _) | (refine iU_st ?_; intro _ _) | refine iHV_1 ?_ | refine iHV_N ?_ | refine iRI_1 ?_ | refine iRI_N ?_ | refine Cond_t ?_ | refine Cond_f ?_ | refine JB ?_ | (refine JC ?_; intro _ _ _ _) | (refine J1 ?_; intro _ _) | (refine J0 ?_; intro _ _) | (refine J2 ?_; intro _ _) | (refine J3 ?_; intro _ _) | (refine J4 ?_; intro _ _) | refine K1 ?_ | refine K0 ?_ | refine K2 ?_ | refine K3 ?_ | refine K4 ?_ | (refine CV_pu ?_; intro _ _ _ _) | refine fV_ldN ?_ | refine fV_ld1 ?_ | refine fHV_ldN ?_ | refine fHV_ld1 ?_ | refine NilW_some ?_ | refine iCW_1 ?_ | refine iCW_N ?_ | refine Pk_b ?_))
  rename_i hSe
  have hSe' : Res w z [] _ z4 (B1 ++ B2) := (hSe.sublist (L' := B2 ++ B1) ((List.Sublist.refl _).append (List.sublist_append_left _ _))).perm List.perm_append_comm
  refine ⟨_, B1 ++ B2, hSe', _, rfl, ⟨B1, B2, _, _, rfl, rfl, ho1, ho2⟩, h1, h2, fun t ht => ?_, fun t ht => ?_, hd⟩
  · obtain ⟨cs, hr⟩ := hv1.mem ht
    exact hr.2
  · obtain ⟨cs, hr⟩ := hv2.mem ht
    exact hr.2)
end Go.Proofs.Ytjnckainogpenaa
end

section
/- Copies of states; machines. -/
set_option linter.unusedVariables false
set_option maxRecDepth 20000
set_option synthInstance.maxHeartbeats 400000
set_option synthInstance.maxSize 4000
namespace Go.Proofs.Ytjnckainogpenaa
open Go Q Go.RowKit

def FrsR (z : Z) : List Value → StM → Prop
  | ps, [] => ps = []
  | ps, f :: fs => ∃ cs rest, ps = cs ++ rest ∧ El.frame.rel z cs f ∧ FrsR z rest fs
theorem FrsR.mono {z z' : Z} (hz : Le z z') : ∀ {ps : List Value} {s : StM}, FrsR z ps s → FrsR z' ps s
  | _, [], h => h
  | _, f :: fs, ⟨cs, rest, h1, h2, h3⟩ => ⟨cs, rest, h1, El.frame.mono h2 hz, FrsR.mono hz h3⟩
theorem FrsR.snoc {z : Z} {cs : List Value} {f : FrM} (hr : El.frame.rel z cs f) : ∀ {ps : List Value} {s : StM}, FrsR z ps s → FrsR z (ps ++ cs) (s ++ [f])
  | _, [], h => ⟨cs, [], by rw [show _ = ([] : List Value) from h]; simp, hr, rfl⟩
  | _, g :: fs, ⟨cs', rest, h1, h2, h3⟩ => ⟨cs', rest ++ cs, by rw [h1, List.append_assoc], h2, FrsR.snoc hr h3⟩
theorem FrsR.len {z : Z} : ∀ {ps : List Value} {s : StM}, FrsR z ps s → ps.length = s.length * 5
  | _, [], h => by rw [show _ = ([] : List Value) from h]; simp
  | _, g :: fs, ⟨cs', rest, h1, h2, h3⟩ => by
    rw [h1, List.length_append, FrsR.len h3, El.frame.len h2, List.length_cons, Nat.add_mul]
    show 5 + _ = _
    omega
theorem FrsR.get {z : Z} : ∀ {ps : List Value} {s : StM} {i : Nat} {f : FrM}, FrsR z ps s → s[i]? = some f → ∃ cs, El.frame.rel z cs f ∧ ∀ j v, cs[j]? = some v → ps[i * 5 + j]? = some v
  | _, [], _, _, h, hi => by simp at hi
  | _, g :: fs, 0, f, ⟨cs', rest, h1, h2, h3⟩, hi => by
    simp at hi; subst hi
    exact ⟨cs', h2, fun j v hv => by rw [h1, Nat.zero_mul, Nat.zero_add, List.getElem?_append_left (List.getElem?_eq_some_iff.1 hv).1]; exact hv⟩
  | _, g :: fs, i + 1, f, ⟨cs', rest, h1, h2, h3⟩, hi => by
    obtain ⟨cs, h4, h5⟩ := FrsR.get h3 (by simpa using hi)
    refine ⟨cs, h4, fun j v hv => ?_⟩
    have hl : cs'.length = 5 := El.frame.len h2
    rw [h1, List.getElem?_append_right (by rw [hl]; omega), hl, show (i + 1) * 5 + j - 5 = i * 5 + j by omega]
    exact h5 j v hv
/-- The frames of a machine: the last is its own. -/
def MF (z : Z) (B : Bl) (xs : List Value) (s : StM) : Prop := (s = [] ∧ xs = [] ∧ B = []) ∨ ∃ pre f ps cs, s = pre ++ [f] ∧ xs = ps ++ cs ∧ FrsR z ps pre ∧ FrOwn B cs f ∧ FrSm f
theorem FrOwn.freeze {w0 w : World} {z0 z : Z} {B0 B L : Bl} {cs : List Value} {f : FrM} (h : Res w0 z0 B0 w z (B ++ L)) (ho : FrOwn B cs f) (hs : FrSm f) : ∃ z', Le z z' ∧ Res w0 z0 B0 w z' L ∧ El.frame.rel z' cs f := by
  obtain ⟨B1, B2, v1, v2, rfl, rfl, ho1, ho2⟩ := ho
  obtain ⟨h1, h2, h3, h4, h5⟩ := hs
  rw [List.append_assoc] at h
  obtain ⟨z1, hz1, hS1, hv1⟩ := Res.freezeSl (E := El.trap) h ho1 (by simp only [big]; omega) (fun _ => rfl) (fun z x hx => ⟨rfl, h3 x hx⟩)
  obtain ⟨z2, hz2, hS2, hv2⟩ := Res.freezeSl (E := El.raised) hS1 ho2 (by simp only [big]; omega) (fun _ => rfl) (fun z x hx => ⟨rfl, h4 x hx⟩)
  exact ⟨z2, hz1.trans hz2, hS2, v1, v2, rfl, hv1.mono hz2, hv2, h5⟩
theorem MF.freeze {w0 w : World} {z0 z : Z} {B0 B L : Bl} {xs : List Value} {s : StM} (h : Res w0 z0 B0 w z (B ++ L)) (hm : MF z B xs s) : ∃ z', Le z z' ∧ Res w0 z0 B0 w z' L ∧ FrsR z' xs s := by
  rcases hm with ⟨rfl, rfl, rfl⟩ | ⟨pre, f, ps, cs, rfl, rfl, h1, h2, h3⟩
  · exact ⟨z, Le.refl _, h, rfl⟩
  · obtain ⟨z', hz, hS, hr⟩ := FrOwn.freeze h h2 h3
    exact ⟨z', hz, hS, FrsR.snoc hr (FrsR.mono hz h1)⟩
theorem FrOwn.len {B : Bl} {cs : List Value} {f : FrM} (h : FrOwn B cs f) : cs.length = 5 := by
  obtain ⟨_, _, _, _, _, rfl, _⟩ := h; rfl
theorem FrOwn.ones {B : Bl} {cs : List Value} {f : FrM} (h : FrOwn B cs f) : ∀ u ∈ cs, isOne u = true := by
  obtain ⟨_, _, v1, v2, _, rfl, h1, h2⟩ := h
  obtain ⟨a3, cap3, rfl, hc3⟩ := h1.form
  obtain ⟨a4, cap4, rfl, hc4⟩ := h2.form
  intro u hu
  simp only [InM.cells, List.mem_cons, List.not_mem_nil, or_false] at hu
  rcases hu with rfl | rfl | rfl | rfl | rfl <;> rfl
theorem copied {v : Value} {s : StM} {z : Z} {w : World} (hs : SlR El.frame z v s) (hn : s.length ≤ 1000) (hf : ∀ f ∈ s, f.traps.length ≤ 1000000 ∧ f.pend.length ≤ 1000000) :
    Fn 98 #[v, .func (.func 99) #[] #[]] z [] w fun z' B' r => ∃ Bf Bl xs, B' = Bf ++ Bl ∧ OwnSl 63 5 Bf r s.length xs ∧ MF z' Bl xs s := Fn.intro fun hS => en98 (by
  unfold vc98
  obtain ⟨hb, a, cap, rfl, hc, hel⟩ := hs.form
  (repeat (first | (refine iDr ?_; intro _ _) | refine V_run ?_ | refine PV_run ?_ | refine HV_run ?_ | refine iV_ld1 ?_ | refine iV_ldN ?_ | (refine iV_bx ?_; intro _ _ _ _) | (refine iV_al ?_; intro _ _ _ _) | (refine iV_mm ?_; intro _ _ _ _) | (refine iU_st ?_; intro _ _) | refine iHV_1 ?_ | refine iHV_N ?_ | refine iRI_1 ?_ | refine iRI_N ?_ | refine Cond_t ?_ | refine Cond_f ?_ | refine JB ?_ | (refine JC ?_; intro _ _ _ _) | (refine J1 ?_; intro _ _) | (refine J0 ?_; intro _ _) | (refine J2 ?_; intro _ _) | (refine J3 ?_; intro _ _) | (refine J4 ?_; intro _ _) | refine K1 ?_ | refine K0 ?_ | refine K2 ?_ | refine K3 ?_ | refine K4 ?_ | (refine CV_pu ?_; intro _ _ _ _) | refine fV_ldN ?_ | refine fV_ld1 ?_ | refine fHV_ldN ?_ | refine fHV_ld1 ?_ | refine NilW_some ?_ | refine iCW_1 ?_ | refine iCW_N ?_ | refine Pk_b ?_))
  refine LoopG2 (fun (i : Nat) x y w' => y = .int .i64 i ∧ i ≤ s.length ∧ ∃ z' Bf Bl xs, Res w z [] w' z' (Bf ++ Bl) ∧ OwnSl 63 5 Bf x i xs ∧ MF z' Bl xs (s.take i)) (fun i => s.length - i) 0 ⟨rfl, by omega, z, [], [], [], hS, OwnSl.nil, .inl ⟨rfl, rfl, rfl⟩⟩ ?_
  rintro I M i x y w2 m ⟨rfl, h1, z2, Bf, Bl, xs, hS2, ho, hm⟩ back
  (repeat (first | (refine iDr ?_; intro _ _) | refine V_run ?_ | refine PV_run ?_ | refine HV_run ?_ | refine iV_ld1 ?_ | refine iV_ldN ?_ | (refine iV_bx ?_; intro _ _ _ _) | (refine iV_al ?_; intro _ _ _ _) | (refine iV_mm ?_; intro _ _ _ _) | (refine iU_st ?_; intro _ _) | refine iHV_1 ?_ | refine iHV_N ?_ | refine iRI_1 ?_ | refine iRI_N ?_ | refine Cond_t ?_ | refine Cond_f ?_ | refine JB ?_ | (refine JC ?_; intro _ _ _ _) | (refine J1 ?_; intro _ _) | (refine J0 ?_; intro _ _) | (refine J2 ?_; intro _ _) | (refine J3 ?_; intro _ _) | (refine J4 ?_; intro _ _) | refine K1 ?_ | refine K0 ?_ | refine K2 ?_ | refine K3 ?_ | refine K4 ?_ | (refine CV_pu ?_; intro _ _ _ _) | refine fV_ldN ?_ | refine fV_ld1 ?_ | refine fHV_ldN ?_ | refine fHV_ld1 ?_ | refine NilW_some ?_ | refine iCW_1 ?_ | refine iCW_N ?_ | refine Pk_b ?_))
  refine Cond_d (fun hh => ?_) (fun hh => ?_)
  · have hlt : i < s.length := by omega
    obtain ⟨b, off, cs, rfl, hr, hat⟩ := hel i _ (List.getElem?_eq_getElem hlt)
    haveI : InR (i : Int) s.length := ⟨by omega, by omega⟩
    haveI : InI ((i : Int) + 1) := ⟨by omega⟩
    obtain ⟨u1, u2, rfl, hu1, hu2, hd⟩ := hr
    haveI : One u1 := by obtain ⟨_, a1, cap1, rfl, _⟩ := hu1.form; exact inferInstance
    haveI : One u2 := by obtain ⟨_, a1, cap1, rfl, _⟩ := hu2.form; exact inferInstance
    haveI : Fz z b (off + (i : Int).toNat * 5) (u1 :: u2 :: s[i].info.cells) := ⟨by rw [Int.toNat_natCast]; exact hat⟩
    dsimp only [InM.cells] at *
    (repeat (first | (refine iDr ?_; intro _ _) | refine V_run ?_ | refine PV_run ?_ | refine HV_run ?_ | refine iV_ld1 ?_ | refine iV_ldN ?_ | (refine iV_bx ?_; intro _ _ _ _) | (refine iV_al ?_; intro _ _ _ _) | (refine iV_mm ?_; intro _ _ _ _) | (refine iU_st ?_; intro _ _) | refine iHV_1 ?_ | refine iHV_N ?_ | refine iRI_1 ?_ | refine iRI_N ?_ | refine Cond_t ?_ | refine Cond_f ?_ | refine JB ?_ | (refine JC ?_; intro _ _ _ _) | (refine J1 ?_; intro _ _) | (refine J0 ?_; intro _ _) | (refine J2 ?_; intro _ _) | (refine J3 ?_; intro _ _) | (refine J4 ?_; intro _ _) | refine K1 ?_ | refine K0 ?_ | refine K2 ?_ | refine K3 ?_ | refine K4 ?_ | (refine CV_pu ?_; intro _ _ _ _) | refine fV_ldN ?_ | refine fV_ld1 ?_ | refine fHV_ldN ?_ | refine fHV_ld1 ?_ | refine NilW_some ?_ | refine iCW_1 ?_ | refine iCW_N ?_ | refine Pk_b ?_))
    refine CV_fn0 (fun hz => frame ⟨_, rfl, u1, u2, rfl, hu1.mono hz, hu2.mono hz, hd⟩ (hf _ (List.getElem_mem hlt)).1 (hf _ (List.getElem_mem hlt)).2) ?_
    rintro z3 B3 w3 v3 hle3 hS3 ⟨cs, rfl, hco, hsm⟩
    have hcl := hco.len
    have hco1 := hco.ones
    haveI : LenIs cs 5 := ⟨hcl⟩
    refine V_bs (parts := [(0, .agg cs.toArray)]) rfl (by omega) ?_
    intro b4 w4 hb4 hS4
    have hat4 : At (hp w4) b4 0 cs := ⟨_, _, _, (hS4.mem _ List.mem_cons_self).1, fun j v hv => by simpa using hv⟩
    have hS5 := (hS4.tl.sublist (L' := B3 ++ (Bf ++ Bl)) ((List.Sublist.refl _).append (List.sublist_cons_self _ _)))
    have hS6 : Res w z [] w4 z3 (Bf ++ (B3 ++ Bl)) := hS5.perm (by
      rw [← List.append_assoc, ← List.append_assoc]
      exact List.perm_append_comm.append_right _)
    refine V_app (m := 1) (news := cs) hS6 ho hat4 (by rw [hcl]) hco1 (by omega) (by simp only [room]; omega) (by simp only [room]; omega) ?_
    intro B7 v7 w7 ho7 hS7
    have hS8 : Res w z [] w7 z3 (Bl ++ (B7 ++ B3)) := hS7.perm (by
      rw [← List.append_assoc]
      exact List.perm_append_comm)
    have hm3 : MF z3 Bl xs (s.take i) := by
      rcases hm with h | ⟨pre, f, ps, cs, q1, q2, q3, q4, q5⟩
      · exact .inl h
      · exact .inr ⟨pre, f, ps, cs, q1, q2, FrsR.mono hle3 q3, q4, q5⟩
    obtain ⟨z8, hz8, hS9, hfr⟩ := hm3.freeze hS8
    (repeat (first | (refine iDr ?_; intro _ _) | refine V_run ?_ | refine PV_run ?_ | refine HV_run ?_ | refine iV_ld1 ?_ | refine iV_ldN ?_ | (refine iV_bx ?_; intro _ _ _ _) | (refine iV_al ?_; intro _ _ _ _) | (refine iV_mm ?_; intro _ _ _ _) | (refine iU_st ?_; intro _ _) | refine iHV_1 ?_ | refine iHV_N ?_ | refine iRI_1 ?_ | refine iRI_N ?_ | refine Cond_t ?_ | refine Cond_f ?_ | refine JB ?_ | (refine JC ?_; intro _ _ _ _) | (refine J1 ?_; intro _ _) | (refine J0 ?_; intro _ _) | (refine J2 ?_; intro _ _) | (refine J3 ?_; intro _ _) | (refine J4 ?_; intro _ _) | refine K1 ?_ | refine K0 ?_ | refine K2 ?_ | refine K3 ?_ | refine K4 ?_ | (refine CV_pu ?_; intro _ _ _ _) | refine fV_ldN ?_ | refine fV_ld1 ?_ | refine fHV_ldN ?_ | refine fHV_ld1 ?_ | refine NilW_some ?_ | refine iCW_1 ?_ | refine iCW_N ?_ | refine Pk_b ?_))
    refine back (i + 1) _ _ _ ⟨by simp, by omega, z8, B7, B3, _, hS9, ho7, .inr ⟨s.take i, s[i], xs, cs, ?_, rfl, hfr, hco, hsm⟩⟩ (by omega)
    exact (List.take_append_getElem hlt).symm
  · have : i = s.length := by omega
    subst this
    rw [List.take_length] at hm
    exact ⟨_, _, hS2, Bf, Bl, xs, rfl, ho, hm⟩)
end Go.Proofs.Ytjnckainogpenaa
end

section
/- Opening a machine. -/
set_option linter.unusedVariables false
set_option maxRecDepth 20000
set_option synthInstance.maxHeartbeats 400000
set_option synthInstance.maxSize 4000
namespace Go.Proofs.Ytjnckainogpenaa
open Go Q Go.RowKit

theorem idxInt {p : Int → Bool} {fv v : Value} {z : Z} {w : World} {xs : List Int} (hx : SlR El.int z v xs) (hf : ∀ x, PuV fv #[.int .i64 x] (.bool (p x))) : Fn1 112 #[v, fv] z w fun _ r => r = .int .i64 (fidx p xs) := Fn1.intro fun hS => en112 (by
  unfold vc112
  obtain ⟨hb, a, cap, rfl, hc, hel⟩ := hx.form
  (repeat (first | (refine iDr ?_; intro _ _) | refine V_run ?_ | refine PV_run ?_ | refine HV_run ?_ | refine iV_ld1 ?_ | refine iV_ldN ?_ | (refine iV_bx ?_; intro _ _ _ _) | (refine iV_al ?_; intro _ _ _ _) | (refine iV_mm ?_; intro _ _ _ _) | (refine iU_st ?_; intro _ _) | refine iHV_1 ?_ | refine iHV_N ?_ | refine iRI_1 ?_ | refine iRI_N ?_ | refine Cond_t ?_ | refine Cond_f ?_ | refine JB ?_ | (refine JC ?_; intro _ _ _ _) | (refine J1 ?_; intro _ _) | (refine J0 ?_; intro _ _) | (refine J2 ?_; intro _ _) | (refine J3 ?_; intro _ _) | (refine J4 ?_; intro _ _) | refine K1 ?_ | refine K0 ?_ | refine K2 ?_ | refine K3 ?_ | refine K4 ?_ | (refine CV_pu ?_; intro _ _ _ _) | refine fV_ldN ?_ | refine fV_ld1 ?_ | refine fHV_ldN ?_ | refine fHV_ld1 ?_ | refine NilW_some ?_ | refine iCW_1 ?_ | refine iCW_N ?_ | refine Pk_b ?_))
  refine LoopG1 (fun (i : Nat) x w' => x = .int .i64 i ∧ i ≤ xs.length ∧ (∀ j y, j < i → xs[j]? = some y → p y = false) ∧ ∃ z', Res w z [] w' z' []) (fun i => xs.length - i) 0 ⟨rfl, by omega, fun j y h => absurd h (by omega), z, hS⟩ ?_
  rintro I M i x w2 m ⟨rfl, h1, h2, z2, hS2⟩ back
  (repeat (first | (refine iDr ?_; intro _ _) | refine V_run ?_ | refine PV_run ?_ | refine HV_run ?_ | refine iV_ld1 ?_ | refine iV_ldN ?_ | (refine iV_bx ?_; intro _ _ _ _) | (refine iV_al ?_; intro _ _ _ _) | (refine iV_mm ?_; intro _ _ _ _) | (refine iU_st ?_; intro _ _) | refine iHV_1 ?_ | refine iHV_N ?_ | refine iRI_1 ?_ | refine iRI_N ?_ | refine Cond_t ?_ | refine Cond_f ?_ | refine JB ?_ | (refine JC ?_; intro _ _ _ _) | (refine J1 ?_; intro _ _) | (refine J0 ?_; intro _ _) | (refine J2 ?_; intro _ _) | (refine J3 ?_; intro _ _) | (refine J4 ?_; intro _ _) | refine K1 ?_ | refine K0 ?_ | refine K2 ?_ | refine K3 ?_ | refine K4 ?_ | (refine CV_pu ?_; intro _ _ _ _) | refine fV_ldN ?_ | refine fV_ld1 ?_ | refine fHV_ldN ?_ | refine fHV_ld1 ?_ | refine NilW_some ?_ | refine iCW_1 ?_ | refine iCW_N ?_ | refine Pk_b ?_))
  refine Cond_d (fun h => ?_) (fun h => ?_)
  · have hlt : i < xs.length := by omega
    obtain ⟨b, off, cs, rfl, rfl, hat⟩ := hel i _ (List.getElem?_eq_getElem hlt)
    haveI : InR (i : Int) xs.length := ⟨by omega, by omega⟩
    haveI : InI ((i : Int) + 1) := ⟨by simp only [big] at hb; omega⟩
    haveI : Fz z b (off + (i : Int).toNat * 1) [.int .i64 xs[i]] := ⟨by rw [Int.toNat_natCast]; exact hat⟩
    (repeat (first | (refine iDr ?_; intro _ _) | refine V_run ?_ | refine PV_run ?_ | refine HV_run ?_ | refine iV_ld1 ?_ | refine iV_ldN ?_ | (refine iV_bx ?_; intro _ _ _ _) | (refine iV_al ?_; intro _ _ _ _) | (refine iV_mm ?_; intro _ _ _ _) | (refine iU_st ?_; intro _ _) | refine iHV_1 ?_ | refine iHV_N ?_ | refine iRI_1 ?_ | refine iRI_N ?_ | refine Cond_t ?_ | refine Cond_f ?_ | refine JB ?_ | (refine JC ?_; intro _ _ _ _) | (refine J1 ?_; intro _ _) | (refine J0 ?_; intro _ _) | (refine J2 ?_; intro _ _) | (refine J3 ?_; intro _ _) | (refine J4 ?_; intro _ _) | refine K1 ?_ | refine K0 ?_ | refine K2 ?_ | refine K3 ?_ | refine K4 ?_ | (refine CV_pu ?_; intro _ _ _ _) | refine fV_ldN ?_ | refine fV_ld1 ?_ | refine fHV_ldN ?_ | refine fHV_ld1 ?_ | refine NilW_some ?_ | refine iCW_1 ?_ | refine iCW_N ?_ | refine Pk_b ?_))
    refine CV_va1 hS2 ((hf _).h _ _) ?_
    rintro z4 w4 v4 hle hS4 rfl
    refine Cond_b (fun h' => ?_) (fun h' => ?_)
    · exact ⟨_, _, hS4, by rw [fidx_some h2 (List.getElem?_eq_getElem hlt) h']⟩
    · (repeat (first | (refine iDr ?_; intro _ _) | refine V_run ?_ | refine PV_run ?_ | refine HV_run ?_ | refine iV_ld1 ?_ | refine iV_ldN ?_ | (refine iV_bx ?_; intro _ _ _ _) | (refine iV_al ?_; intro _ _ _ _) | (refine iV_mm ?_; intro _ _ _ _) | (refine iU_st ?_; intro _ _) | refine iHV_1 ?_ | refine iHV_N ?_ | refine iRI_1 ?_ | refine iRI_N ?_ | refine Cond_t ?_ | refine Cond_f ?_ | refine JB ?_ | (refine JC ?_; intro _ _ _ _) | (refine J1 ?_; intro _ _) | (refine J0 ?_; intro _ _) | (refine J2 ?_; intro _ _) | (refine J3 ?_; intro _ _) | (refine J4 ?_; intro _ _) | refine K1 ?_ | refine K0 ?_ | refine K2 ?_ | refine K3 ?_ | refine K4 ?_ | (refine CV_pu ?_; intro _ _ _ _) | refine fV_ldN ?_ | refine fV_ld1 ?_ | refine fHV_ldN ?_ | refine fHV_ld1 ?_ | refine NilW_some ?_ | refine iCW_1 ?_ | refine iCW_N ?_ | refine Pk_b ?_))
      refine back (i + 1) _ _ ⟨by simp, by omega, fun j y' hj hjy => ?_, z4, hS4⟩ (by omega)
      by_cases hji : j = i
      · subst hji; rw [List.getElem?_eq_getElem hlt] at hjy; cases hjy; exact h'
      · exact h2 j y' (by omega) hjy
  · (repeat (first | (refine iDr ?_; intro _ _) | refine V_run ?_ | refine PV_run ?_ | refine HV_run ?_ | refine iV_ld1 ?_ | refine iV_ldN ?_ | (refine iV_bx ?_; intro _ _ _ _) | (refine iV_al ?_; intro _ _ _ _) | (refine iV_mm ?_; intro _ _ _ _) | (refine iU_st ?_; intro _ _) | refine iHV_1 ?_ | refine iHV_N ?_ | refine iRI_1 ?_ | refine iRI_N ?_ | refine Cond_t ?_ | refine Cond_f ?_ | refine JB ?_ | (refine JC ?_; intro _ _ _ _) | (refine J1 ?_; intro _ _) | (refine J0 ?_; intro _ _) | (refine J2 ?_; intro _ _) | (refine J3 ?_; intro _ _) | (refine J4 ?_; intro _ _) | refine K1 ?_ | refine K0 ?_ | refine K2 ?_ | refine K3 ?_ | refine K4 ?_ | (refine CV_pu ?_; intro _ _ _ _) | refine fV_ldN ?_ | refine fV_ld1 ?_ | refine fHV_ldN ?_ | refine fHV_ld1 ?_ | refine NilW_some ?_ | refine iCW_1 ?_ | refine iCW_N ?_ | refine Pk_b ?_))
    exact ⟨_, _, hS2, by rw [fidx_none fun j y hy => h2 j y (by have := (List.getElem?_eq_some_iff.1 hy).1; omega) hy]⟩)
theorem containsInt {p : Int → Bool} {fv v : Value} {z : Z} {w : World} {xs : List Int} (hx : SlR El.int z v xs) (hf : ∀ x, PuV fv #[.int .i64 x] (.bool (p x))) : Fn1 96 #[v, fv] z w fun _ r => r = .bool (xs.any p) := Fn1.intro fun hS => en96 (by
  unfold vc96
  refine CV_1 (idxInt hx hf) ?_
  rintro z' w' v hle hS' rfl
  (repeat (first | (refine iDr ?_; intro _ _) | refine V_run ?_ | refine PV_run ?_ | refine HV_run ?_ | refine iV_ld1 ?_ | refine iV_ldN ?_ | (refine iV_bx ?_; intro _ _ _ _) | (refine iV_al ?_; intro _ _ _ _) | (refine iV_mm ?_; intro _ _ _ _) | (refine iU_st ?_; intro _ _) | refine iHV_1 ?_ | refine iHV_N ?_ | refine iRI_1 ?_ | refine iRI_N ?_ | refine Cond_t ?_ | refine Cond_f ?_ | refine JB ?_ | (refine JC ?_; intro _ _ _ _) | (refine J1 ?_; intro _ _) | (refine J0 ?_; intro _ _) | (refine J2 ?_; intro _ _) | (refine J3 ?_; intro _ _) | (refine J4 ?_; intro _ _) | refine K1 ?_ | refine K0 ?_ | refine K2 ?_ | refine K3 ?_ | refine K4 ?_ | (refine CV_pu ?_; intro _ _ _ _) | refine fV_ldN ?_ | refine fV_ld1 ?_ | refine fHV_ldN ?_ | refine fHV_ld1 ?_ | refine NilW_some ?_ | refine iCW_1 ?_ | refine iCW_N ?_ | refine Pk_b ?_))
  exact ⟨_, _, ‹_›, by rw [fidx_ge]⟩)
instance {n : Int} : Pu 97 #[.int .i64 n] (.bool (!cond n)) := ⟨fun z w => Fn1.intro fun hS => en97 (by
  unfold vc97
  (repeat (first | (refine iDr ?_; intro _ _) | refine V_run ?_ | refine PV_run ?_ | refine HV_run ?_ | refine iV_ld1 ?_ | refine iV_ldN ?_ | (refine iV_bx ?_; intro _ _ _ _) | (refine iV_al ?_; intro _ _ _ _) | (refine iV_mm ?_; intro _ _ _ _) | (refine iU_st ?_; intro _ _) | refine iHV_1 ?_ | refine iHV_N ?_ | refine iRI_1 ?_ | refine iRI_N ?_ | refine Cond_t ?_ | refine Cond_f ?_ | refine JB ?_ | (refine JC ?_; intro _ _ _ _) | (refine J1 ?_; intro _ _) | (refine J0 ?_; intro _ _) | (refine J2 ?_; intro _ _) | (refine J3 ?_; intro _ _) | (refine J4 ?_; intro _ _) | refine K1 ?_ | refine K0 ?_ | refine K2 ?_ | refine K3 ?_ | refine K4 ?_ | (refine CV_pu ?_; intro _ _ _ _) | refine fV_ldN ?_ | refine fV_ld1 ?_ | refine fHV_ldN ?_ | refine fHV_ld1 ?_ | refine NilW_some ?_ | refine iCW_1 ?_ | refine iCW_N ?_ | refine Pk_b ?_))
  exact ret_eq rfl)⟩
def firstE : List Int → Int
  | [] => 0
  | e :: l => if e = 0 then firstE l else e
theorem first {v : Value} {z : Z} {w : World} {xs : List Int} (hx : SlR El.int z v xs) : Fn1 95 #[v] z w fun _ r => r = .int .i64 (firstE xs) := Fn1.intro fun hS => en95 (by
  unfold vc95
  obtain ⟨hb, a, cap, rfl, hc, hel⟩ := hx.form
  (repeat (first | (refine iDr ?_; intro _ _) | refine V_run ?_ | refine PV_run ?_ | refine HV_run ?_ | refine iV_ld1 ?_ | refine iV_ldN ?_ | (refine iV_bx ?_; intro _ _ _ _) | (refine iV_al ?_; intro _ _ _ _) | (refine iV_mm ?_; intro _ _ _ _) | (refine iU_st ?_; intro _ _) | refine iHV_1 ?_ | refine iHV_N ?_ | refine iRI_1 ?_ | refine iRI_N ?_ | refine Cond_t ?_ | refine Cond_f ?_ | refine JB ?_ | (refine JC ?_; intro _ _ _ _) | (refine J1 ?_; intro _ _) | (refine J0 ?_; intro _ _) | (refine J2 ?_; intro _ _) | (refine J3 ?_; intro _ _) | (refine J4 ?_; intro _ _) | refine K1 ?_ | refine K0 ?_ | refine K2 ?_ | refine K3 ?_ | refine K4 ?_ | (refine CV_pu ?_; intro _ _ _ _) | refine fV_ldN ?_ | refine fV_ld1 ?_ | refine fHV_ldN ?_ | refine fHV_ld1 ?_ | refine NilW_some ?_ | refine iCW_1 ?_ | refine iCW_N ?_ | refine Pk_b ?_))
  refine LoopG1 (fun (i : Nat) x w' => x = .int .i64 i ∧ i ≤ xs.length ∧ firstE xs = firstE (xs.drop i) ∧ ∃ z', Res w z [] w' z' []) (fun i => xs.length - i) 0 ⟨rfl, by omega, rfl, z, hS⟩ ?_
  rintro I M i x w2 m ⟨rfl, h1, h2, z2, hS2⟩ back
  (repeat (first | (refine iDr ?_; intro _ _) | refine V_run ?_ | refine PV_run ?_ | refine HV_run ?_ | refine iV_ld1 ?_ | refine iV_ldN ?_ | (refine iV_bx ?_; intro _ _ _ _) | (refine iV_al ?_; intro _ _ _ _) | (refine iV_mm ?_; intro _ _ _ _) | (refine iU_st ?_; intro _ _) | refine iHV_1 ?_ | refine iHV_N ?_ | refine iRI_1 ?_ | refine iRI_N ?_ | refine Cond_t ?_ | refine Cond_f ?_ | refine JB ?_ | (refine JC ?_; intro _ _ _ _) | (refine J1 ?_; intro _ _) | (refine J0 ?_; intro _ _) | (refine J2 ?_; intro _ _) | (refine J3 ?_; intro _ _) | (refine J4 ?_; intro _ _) | refine K1 ?_ | refine K0 ?_ | refine K2 ?_ | refine K3 ?_ | refine K4 ?_ | (refine CV_pu ?_; intro _ _ _ _) | refine fV_ldN ?_ | refine fV_ld1 ?_ | refine fHV_ldN ?_ | refine fHV_ld1 ?_ | refine NilW_some ?_ | refine iCW_1 ?_ | refine iCW_N ?_ | refine Pk_b ?_))
  refine Cond_d (fun h => ?_) (fun h => ?_)
  · have hlt : i < xs.length := by omega
    obtain ⟨b, off, cs, rfl, rfl, hat⟩ := hel i _ (List.getElem?_eq_getElem hlt)
    haveI : InR (i : Int) xs.length := ⟨by omega, by omega⟩
    haveI : InI ((i : Int) + 1) := ⟨by simp only [big] at hb; omega⟩
    haveI : Fz z b (off + (i : Int).toNat * 1) [.int .i64 xs[i]] := ⟨by rw [Int.toNat_natCast]; exact hat⟩
    rw [List.drop_eq_getElem_cons hlt] at h2
    simp only [firstE] at h2
    (repeat (first | (refine iDr ?_; intro _ _) | refine V_run ?_ | refine PV_run ?_ | refine HV_run ?_ | refine iV_ld1 ?_ | refine iV_ldN ?_ | (refine iV_bx ?_; intro _ _ _ _) | (refine iV_al ?_; intro _ _ _ _) | (refine iV_mm ?_; intro _ _ _ _) | (refine iU_st ?_; intro _ _) | refine iHV_1 ?_ | refine iHV_N ?_ | refine iRI_1 ?_ | refine iRI_N ?_ | refine Cond_t ?_ | refine Cond_f ?_ | refine JB ?_ | (refine JC ?_; intro _ _ _ _) | (refine J1 ?_; intro _ _) | (refine J0 ?_; intro _ _) | (refine J2 ?_; intro _ _) | (refine J3 ?_; intro _ _) | (refine J4 ?_; intro _ _) | refine K1 ?_ | refine K0 ?_ | refine K2 ?_ | refine K3 ?_ | refine K4 ?_ | (refine CV_pu ?_; intro _ _ _ _) | refine fV_ldN ?_ | refine fV_ld1 ?_ | refine fHV_ldN ?_ | refine fHV_ld1 ?_ | refine NilW_some ?_ | refine iCW_1 ?_ | refine iCW_N ?_ | refine Pk_b ?_))
    refine Cond_nd (fun h' => ?_) (fun h' => ?_)
    · exact ⟨_, _, hS2, by rw [h2, if_neg h']⟩
    · (repeat (first | (refine iDr ?_; intro _ _) | refine V_run ?_ | refine PV_run ?_ | refine HV_run ?_ | refine iV_ld1 ?_ | refine iV_ldN ?_ | (refine iV_bx ?_; intro _ _ _ _) | (refine iV_al ?_; intro _ _ _ _) | (refine iV_mm ?_; intro _ _ _ _) | (refine iU_st ?_; intro _ _) | refine iHV_1 ?_ | refine iHV_N ?_ | refine iRI_1 ?_ | refine iRI_N ?_ | refine Cond_t ?_ | refine Cond_f ?_ | refine JB ?_ | (refine JC ?_; intro _ _ _ _) | (refine J1 ?_; intro _ _) | (refine J0 ?_; intro _ _) | (refine J2 ?_; intro _ _) | (refine J3 ?_; intro _ _) | (refine J4 ?_; intro _ _) | refine K1 ?_ | refine K0 ?_ | refine K2 ?_ | refine K3 ?_ | refine K4 ?_ | (refine CV_pu ?_; intro _ _ _ _) | refine fV_ldN ?_ | refine fV_ld1 ?_ | refine fHV_ldN ?_ | refine fHV_ld1 ?_ | refine NilW_some ?_ | refine iCW_1 ?_ | refine iCW_N ?_ | refine Pk_b ?_))
      exact back (i + 1) _ _ ⟨by simp, by omega, by rw [h2, if_pos h'], z2, hS2⟩ (by omega)
  · exact ⟨_, _, hS2, by rw [h2, List.drop_of_length_le (by omega)]; rfl⟩)
/-- A machine. -/
def Mach (z : Z) (B : Bl) (mb : Nat) (s : StM) : Prop := ∃ Bf Bl xs v, B = (mb, .cells [v].toArray 134 (0, 0)) :: (Bf ++ Bl) ∧ OwnSl 63 5 Bf v s.length xs ∧ MF z Bl xs s
def openE (s : StM) (conds : List Int) : Int := if checkB s then (if conds.all cond then 0 else 1) else 2
theorem checkB_fr {s : StM} (h : checkB s = true) : s.length ≤ 30 ∧ ∀ f ∈ s, f.traps.length = 6 ∧ f.pend.length ≤ 4 := by
  simp only [checkB, Bool.and_eq_true, decide_eq_true_eq, List.all_eq_true] at h
  refine ⟨h.1.2, fun f hf => ?_⟩
  have := h.2 f hf
  simp only [framedB, Bool.and_eq_true, decide_eq_true_eq] at this
  exact ⟨this.1.1.1, pend_le4 this.1.2⟩
theorem openP {v v' : Value} {s : StM} {conds : List Int} {z : Z} {w : World} (hs : StR z v s) (hc : SlR El.int z v' conds) : Fn 66 #[v, v'] z [] w fun z' B' r => if openE s conds = 0 then ∃ mb, r = .tuple #[.pointer (some ⟨mb, 0, none⟩), .int .i64 0] ∧ Mach z' B' mb s else B' = [] ∧ r = .tuple #[.pointer none, .int .i64 (openE s conds)] := Fn.intro fun hS => en66 (by
  unfold vc66
  obtain ⟨u, rfl, hu⟩ := hs
  have hu' := hu
  obtain ⟨hb, a, cap, rfl, hcap, hel⟩ := hu.form
  refine iV_bx ?_
  intro b0 w0' hb0 hS0
  (repeat (first | (refine iDr ?_; intro _ _) | refine V_run ?_ | refine PV_run ?_ | refine HV_run ?_ | refine iV_ld1 ?_ | refine iV_ldN ?_ | (refine iV_bx ?_; intro _ _ _ _) | (refine iV_al ?_; intro _ _ _ _) | (refine iV_mm ?_; intro _ _ _ _) | (refine iU_st ?_; intro _ _) | refine iHV_1 ?_ | refine iHV_N ?_ | refine iRI_1 ?_ | refine iRI_N ?_ | refine Cond_t ?_ | refine Cond_f ?_ | refine JB ?_ | (refine JC ?_; intro _ _ _ _) | (refine J1 ?_; intro _ _) | (refine J0 ?_; intro _ _) | (refine J2 ?_; intro _ _) | (refine J3 ?_; intro _ _) | (refine J4 ?_; intro _ _) | refine K1 ?_ | refine K0 ?_ | refine K2 ?_ | refine K3 ?_ | refine K4 ?_ | (refine CV_pu ?_; intro _ _ _ _) | refine fV_ldN ?_ | refine fV_ld1 ?_ | refine fHV_ldN ?_ | refine fHV_ld1 ?_ | refine NilW_some ?_ | refine iCW_1 ?_ | refine iCW_N ?_ | refine Pk_b ?_))
  refine CV_1z (fun hz => check ⟨_, rfl, hu'.mono hz⟩) ?_
  rintro z1 w1 v1 hle1 hS1 rfl
  refine CV_1z (fun hz => containsInt (p := fun x => !cond x) (hc.mono hz) fun x => inferInstance) ?_
  rintro z2 w2 v2 hle2 hS2 rfl
  (repeat (first | (refine iDr ?_; intro _ _) | refine V_run ?_ | refine PV_run ?_ | refine HV_run ?_ | refine iV_ld1 ?_ | refine iV_ldN ?_ | (refine iV_bx ?_; intro _ _ _ _) | (refine iV_al ?_; intro _ _ _ _) | (refine iV_mm ?_; intro _ _ _ _) | (refine iU_st ?_; intro _ _) | refine iHV_1 ?_ | refine iHV_N ?_ | refine iRI_1 ?_ | refine iRI_N ?_ | refine Cond_t ?_ | refine Cond_f ?_ | refine JB ?_ | (refine JC ?_; intro _ _ _ _) | (refine J1 ?_; intro _ _) | (refine J0 ?_; intro _ _) | (refine J2 ?_; intro _ _) | (refine J3 ?_; intro _ _) | (refine J4 ?_; intro _ _) | refine K1 ?_ | refine K0 ?_ | refine K2 ?_ | refine K3 ?_ | refine K4 ?_ | (refine CV_pu ?_; intro _ _ _ _) | refine fV_ldN ?_ | refine fV_ld1 ?_ | refine fHV_ldN ?_ | refine fHV_ld1 ?_ | refine NilW_some ?_ | refine iCW_1 ?_ | refine iCW_N ?_ | refine Pk_b ?_))
  refine V_bs (parts := [(0, _), (1, _)]) rfl (by omega) ?_
  intro b3 w3 hb3 hS3
  obtain ⟨z4, hz4, hS4, hfr⟩ := Res.freezeSl (E := El.int) (B := [(b3, _)]) (f := fun x => [.int .i64 x]) (xs := [errOf (checkB s) 2, if (!conds.any fun x => !cond x) then 0 else 1]) (v := .slice (some ⟨b3, 0, none⟩) 2 2) (e := 31) hS3 ⟨rfl, .inr ⟨b3, 2, [], by rfl, rfl, by simp, by simp [maxLen], rfl⟩⟩ (by simp [big]) (fun _ => rfl) (fun _ _ _ => rfl)
  refine CV_1 (first hfr) ?_
  rintro z5 w5 v5 hle5 hS5 rfl
  have he : firstE [errOf (checkB s) 2, if (!conds.any fun x => !cond x) then 0 else 1] = openE s conds := by
    rw [any_not]
    simp only [firstE, openE, errOf]
    cases checkB s <;> cases conds.all cond <;> simp
  rw [he]
  (repeat (first | (refine iDr ?_; intro _ _) | refine V_run ?_ | refine PV_run ?_ | refine HV_run ?_ | refine iV_ld1 ?_ | refine iV_ldN ?_ | (refine iV_bx ?_; intro _ _ _ _) | (refine iV_al ?_; intro _ _ _ _) | (refine iV_mm ?_; intro _ _ _ _) | (refine iU_st ?_; intro _ _) | refine iHV_1 ?_ | refine iHV_N ?_ | refine iRI_1 ?_ | refine iRI_N ?_ | refine Cond_t ?_ | refine Cond_f ?_ | refine JB ?_ | (refine JC ?_; intro _ _ _ _) | (refine J1 ?_; intro _ _) | (refine J0 ?_; intro _ _) | (refine J2 ?_; intro _ _) | (refine J3 ?_; intro _ _) | (refine J4 ?_; intro _ _) | refine K1 ?_ | refine K0 ?_ | refine K2 ?_ | refine K3 ?_ | refine K4 ?_ | (refine CV_pu ?_; intro _ _ _ _) | refine fV_ldN ?_ | refine fV_ld1 ?_ | refine fHV_ldN ?_ | refine fHV_ld1 ?_ | refine NilW_some ?_ | refine iCW_1 ?_ | refine iCW_N ?_ | refine Pk_b ?_))
  refine Cond_nd (fun h => ?_) (fun h => ?_)
  · exact ⟨_, [], hS5.drop, by rw [if_neg h]; exact ⟨rfl, rfl⟩⟩
  · have hck : checkB s = true := by
      simp only [openE] at h
      cases hh : checkB s with
      | true => rfl
      | false => simp [hh] at h
    obtain ⟨h30, hfr⟩ := checkB_fr hck
    (repeat (first | (refine iDr ?_; intro _ _) | refine V_run ?_ | refine PV_run ?_ | refine HV_run ?_ | refine iV_ld1 ?_ | refine iV_ldN ?_ | (refine iV_bx ?_; intro _ _ _ _) | (refine iV_al ?_; intro _ _ _ _) | (refine iV_mm ?_; intro _ _ _ _) | (refine iU_st ?_; intro _ _) | refine iHV_1 ?_ | refine iHV_N ?_ | refine iRI_1 ?_ | refine iRI_N ?_ | refine Cond_t ?_ | refine Cond_f ?_ | refine JB ?_ | (refine JC ?_; intro _ _ _ _) | (refine J1 ?_; intro _ _) | (refine J0 ?_; intro _ _) | (refine J2 ?_; intro _ _) | (refine J3 ?_; intro _ _) | (refine J4 ?_; intro _ _) | refine K1 ?_ | refine K0 ?_ | refine K2 ?_ | refine K3 ?_ | refine K4 ?_ | (refine CV_pu ?_; intro _ _ _ _) | refine fV_ldN ?_ | refine fV_ld1 ?_ | refine fHV_ldN ?_ | refine fHV_ld1 ?_ | refine NilW_some ?_ | refine iCW_1 ?_ | refine iCW_N ?_ | refine Pk_b ?_))
    refine CV_fn0 (fun hz => copied (hu'.mono hz) (by omega) fun f hf => by have := hfr f hf; omega) ?_
    rintro z6 B6 w6 v6 hle6 hS6 ⟨Bf, Bl, xs, rfl, ho, hm⟩
    obtain ⟨a7, cap7, rfl, hc7⟩ := ho.form
    (repeat (first | (refine iDr ?_; intro _ _) | refine V_run ?_ | refine PV_run ?_ | refine HV_run ?_ | refine iV_ld1 ?_ | refine iV_ldN ?_ | (refine iV_bx ?_; intro _ _ _ _) | (refine iV_al ?_; intro _ _ _ _) | (refine iV_mm ?_; intro _ _ _ _) | (refine iU_st ?_; intro _ _) | refine iHV_1 ?_ | refine iHV_N ?_ | refine iRI_1 ?_ | refine iRI_N ?_ | refine Cond_t ?_ | refine Cond_f ?_ | refine JB ?_ | (refine JC ?_; intro _ _ _ _) | (refine J1 ?_; intro _ _) | (refine J0 ?_; intro _ _) | (refine J2 ?_; intro _ _) | (refine J3 ?_; intro _ _) | (refine J4 ?_; intro _ _) | refine K1 ?_ | refine K0 ?_ | refine K2 ?_ | refine K3 ?_ | refine K4 ?_ | (refine CV_pu ?_; intro _ _ _ _) | refine fV_ldN ?_ | refine fV_ld1 ?_ | refine fHV_ldN ?_ | refine fHV_ld1 ?_ | refine NilW_some ?_ | refine iCW_1 ?_ | refine iCW_N ?_ | refine Pk_b ?_))
    rename_i b8 w8 hb8 hS8
    exact ⟨_, _, hS8.sublist (L' := (b8, _) :: (Bf ++ Bl)) ((List.sublist_append_left _ _).cons_cons _), by rw [if_pos h]; exact ⟨b8, rfl, Bf, Bl, xs, _, rfl, ho, hm⟩⟩)
end Go.Proofs.Ytjnckainogpenaa
end

section
/- Machines at work: setting a trap. -/
set_option linter.unusedVariables false
set_option maxRecDepth 20000
set_option synthInstance.maxHeartbeats 400000
set_option synthInstance.maxSize 4000
namespace Go.Proofs.Ytjnckainogpenaa
open Go Q Go.RowKit

/-- The blocks of a machine, one by one. -/
def mxB (mb fb tb : Nat) (n : Nat) (ps sp ts : List Value) (cap tcap : Nat) (f : FrM) (B2 : Bl) (v2 : Value) : Bl :=
  (mb, .cells [.slice (some ⟨fb, 0, none⟩) n cap].toArray 134 (0, 0)) :: (fb, .cells (ps ++ (.slice (some ⟨tb, 0, none⟩) 6 tcap :: v2 :: .int .i64 f.info.cond :: .int .i64 f.info.mode :: .string f.info.desc :: sp)).toArray 63 (0, 0)) :: (tb, .cells (f.traps.flatMap TrM.cells ++ ts).toArray 73 (0, 0)) :: B2
structure MachX (z : Z) (mb fb tb : Nat) (pre : StM) (ps sp ts : List Value) (cap tcap : Nat) (f : FrM) : Prop where
  fr : FrsR z ps pre
  cap : pre.length + 1 ≤ cap ∧ cap ≤ maxLen ∧ ps.length + 5 + sp.length = cap * 5
  tcap : 6 ≤ tcap ∧ tcap ≤ maxLen ∧ 18 + ts.length = tcap * 3
  six : f.traps.length = 6
  sm : FrSm f
def PendOwn (B2 : Bl) (v2 : Value) (f : FrM) : Prop := OwnSl 70 2 B2 v2 f.pend.length (f.pend.flatMap RaM.cells)
theorem Mach.x {z : Z} {B : Bl} {mb : Nat} {pre : StM} {f : FrM} (h : Mach z B mb (pre ++ [f])) (h6 : f.traps.length = 6) :
    ∃ fb tb ps sp ts cap tcap B2 v2, B = mxB mb fb tb (pre.length + 1) ps sp ts cap tcap f B2 v2 ∧ MachX z mb fb tb pre ps sp ts cap tcap f ∧ PendOwn B2 v2 f := by
  obtain ⟨Bf, Bl, xs, v, rfl, ho, hm⟩ := h
  rcases hm with ⟨h0, _, _⟩ | ⟨pre', f', ps, cs, hs, rfl, h1, ⟨B1, B2, v1, v2, rfl, rfl, ho1, ho2⟩, h3⟩
  · simp at h0
  obtain ⟨rfl, hf⟩ := List.append_inj' hs rfl
  cases hf
  rcases ho.2 with ⟨_, _, h0⟩ | ⟨fb, cap, sp, rfl, rfl, k1, k2, k3⟩
  · simp at h0
  rcases ho1.2 with ⟨_, _, h0⟩ | ⟨tb, tcap, ts, rfl, rfl, l1, l2, l3⟩
  · omega
  have hlen := ho1.1
  refine ⟨fb, tb, ps, sp, ts, cap, tcap, B2, v2, ?_, ⟨h1, ⟨by simpa using k1, k2, ?_⟩, ⟨by omega, l2, ?_⟩, h6, h3⟩, ho2⟩
  · simp only [mxB, h6, List.length_append, List.length_singleton, List.append_assoc, List.cons_append, List.nil_append]
  · rw [← k3]; simp [InM.cells]; omega
  · rw [← l3, List.length_append, hlen, h6]
theorem MachX.mach {z : Z} {mb fb tb : Nat} {pre : StM} {ps sp ts : List Value} {cap tcap : Nat} {f : FrM} {B2 : Bl} {v2 : Value} (h : MachX z mb fb tb pre ps sp ts cap tcap f) (hp : PendOwn B2 v2 f) : Mach z (mxB mb fb tb (pre.length + 1) ps sp ts cap tcap f B2 v2) mb (pre ++ [f]) := by
  have hl := FrsR.len h.fr
  have hfl : (f.traps.flatMap TrM.cells).length = 18 := by rw [flat_len (f := TrM.cells) (n := 3) (fun _ => rfl), h.six]
  refine ⟨[(fb, _)], [(tb, _)] ++ B2, ps ++ (.slice (some ⟨tb, 0, none⟩) 6 tcap :: v2 :: f.info.cells), .slice (some ⟨fb, 0, none⟩) (pre.length + 1) cap, rfl, ⟨by simp [hl]; omega, .inr ⟨fb, cap, sp, by simp, by simp, by simpa using h.cap.1, h.cap.2.1, by simp; have := h.cap.2.2; omega⟩⟩, .inr ⟨pre, f, ps, _, rfl, rfl, h.fr, ⟨[(tb, _)], B2, _, v2, rfl, rfl, ⟨by rw [hfl, h.six], .inr ⟨tb, tcap, ts, rfl, by rw [h.six], by rw [h.six]; exact h.tcap.1, h.tcap.2.1, by rw [List.length_append, hfl]; exact h.tcap.2.2⟩⟩, hp⟩, h.sm⟩⟩
theorem CV_now {w0 w : World} {z0 z : Z} {B0 L : Bl} {C : Obj → Bl} {K : Value → World → Prop} [hS : Res w0 z0 B0 w z L] {mb fb n cap o : Nat} [gb : Blk L mb (.cells [.slice (some ⟨fb, 0, none⟩) (n + 1) cap].toArray 134 (0, 0)) C] (ho : n * 5 = o) (hn : n + 1 ≤ big) (hk : ∀ w', Res w0 z0 B0 w' z L → K (.pointer (some ⟨fb, o, none⟩)) w') :
    CV (.func (.func 67) #[] #[]) #[.pointer (some ⟨mb, 0, none⟩)] w K := CV_enter (args' := #[.pointer (some ⟨mb, 0, none⟩)]) (by simp) (en67 (by
  unfold vc67
  simp only [big] at hn
  haveI : InI (((n + 1 : Nat) : Int) - 1) := ⟨by omega⟩
  haveI : InR (((n + 1 : Nat) : Int) - 1) (n + 1 : Nat) := ⟨by omega, by omega⟩
  (repeat (first | (refine iDr ?_; intro _ _) | refine V_run ?_ | refine PV_run ?_ | refine HV_run ?_ | refine iV_ld1 ?_ | refine iV_ldN ?_ | (refine iV_bx ?_; intro _ _ _ _) | (refine iV_al ?_; intro _ _ _ _) | (refine iV_mm ?_; intro _ _ _ _) | (refine iU_st ?_; intro _ _) | refine iHV_1 ?_ | refine iHV_N ?_ | refine iRI_1 ?_ | refine iRI_N ?_ | refine Cond_t ?_ | refine Cond_f ?_ | refine JB ?_ | (refine JC ?_; intro _ _ _ _) | (refine J1 ?_; intro _ _) | (refine J0 ?_; intro _ _) | (refine J2 ?_; intro _ _) | (refine J3 ?_; intro _ _) | (refine J4 ?_; intro _ _) | refine K1 ?_ | refine K0 ?_ | refine K2 ?_ | refine K3 ?_ | refine K4 ?_ | (refine CV_pu ?_; intro _ _ _ _) | refine fV_ldN ?_ | refine fV_ld1 ?_ | refine fHV_ldN ?_ | refine fHV_ld1 ?_ | refine NilW_some ?_ | refine iCW_1 ?_ | refine iCW_N ?_ | refine Pk_b ?_))
  have : (((n + 1 : Nat) : Int) - 1).toNat * 5 = o := by omega
  rw [this]
  exact hk _ ‹_›))
/-! ### The names -/
def nmB : List ByteArray := [⟨#[69, 82, 82, 79, 82]⟩, ⟨#[70, 65, 73, 76, 85, 82, 69]⟩, ⟨#[72, 65, 76, 84]⟩, ⟨#[78, 79, 86, 65, 76, 85, 69]⟩, ⟨#[78, 79, 84, 82, 69, 65, 68, 89]⟩, ⟨#[83, 89, 78, 84, 65, 88]⟩]
def nameOf (c : Int) : ByteArray := nmB.getD c.toNat ⟨#[]⟩
abbrev nmV : List Value := [.string ⟨#[69, 82, 82, 79, 82]⟩, .string ⟨#[70, 65, 73, 76, 85, 82, 69]⟩, .string ⟨#[72, 65, 76, 84]⟩, .string ⟨#[78, 79, 86, 65, 76, 85, 69]⟩, .string ⟨#[78, 79, 84, 82, 69, 65, 68, 89]⟩, .string ⟨#[83, 89, 78, 84, 65, 88]⟩]
instance {c : Int} [h : InR c 6] : At1 nmV c (.string (nameOf c)) := ⟨h.h0, by
  have h0 := h.h0; have h1 := h.h1
  have : c = 0 ∨ c = 1 ∨ c = 2 ∨ c = 3 ∨ c = 4 ∨ c = 5 := by omega
  rcases this with rfl | rfl | rfl | rfl | rfl | rfl <;> rfl⟩
theorem nameOf_size (c : Int) : (nameOf c).size ≤ big := by
  have : ∀ n : Nat, ((nmB.getD n ⟨#[]⟩).size ≤ 100) := fun n => by
    match n with
    | 0 => decide
    | 1 => decide
    | 2 => decide
    | 3 => decide
    | 4 => decide
    | 5 => decide
    | n + 6 => exact Nat.zero_le _
  have := this c.toNat
  simp only [nameOf, big]
  omega
instance : Pu 72 #[] (.agg nmV.toArray) := ⟨fun z w => Fn1.intro fun hS => en72 (by
  unfold vc72
  (repeat (first | (refine iDr ?_; intro _ _) | refine V_run ?_ | refine PV_run ?_ | refine HV_run ?_ | refine iV_ld1 ?_ | refine iV_ldN ?_ | (refine iV_bx ?_; intro _ _ _ _) | (refine iV_al ?_; intro _ _ _ _) | (refine iV_mm ?_; intro _ _ _ _) | (refine iU_st ?_; intro _ _) | refine iHV_1 ?_ | refine iHV_N ?_ | refine iRI_1 ?_ | refine iRI_N ?_ | refine Cond_t ?_ | refine Cond_f ?_ | refine JB ?_ | (refine JC ?_; intro _ _ _ _) | (refine J1 ?_; intro _ _) | (refine J0 ?_; intro _ _) | (refine J2 ?_; intro _ _) | (refine J3 ?_; intro _ _) | (refine J4 ?_; intro _ _) | refine K1 ?_ | refine K0 ?_ | refine K2 ?_ | refine K3 ?_ | refine K4 ?_ | (refine CV_pu ?_; intro _ _ _ _) | refine fV_ldN ?_ | refine fV_ld1 ?_ | refine fHV_ldN ?_ | refine fHV_ld1 ?_ | refine NilW_some ?_ | refine iCW_1 ?_ | refine iCW_N ?_ | refine Pk_b ?_))
  simp only [List.cons_append, List.nil_append]
  (repeat (first | (refine iDr ?_; intro _ _) | refine V_run ?_ | refine PV_run ?_ | refine HV_run ?_ | refine iV_ld1 ?_ | refine iV_ldN ?_ | (refine iV_bx ?_; intro _ _ _ _) | (refine iV_al ?_; intro _ _ _ _) | (refine iV_mm ?_; intro _ _ _ _) | (refine iU_st ?_; intro _ _) | refine iHV_1 ?_ | refine iHV_N ?_ | refine iRI_1 ?_ | refine iRI_N ?_ | refine Cond_t ?_ | refine Cond_f ?_ | refine JB ?_ | (refine JC ?_; intro _ _ _ _) | (refine J1 ?_; intro _ _) | (refine J0 ?_; intro _ _) | (refine J2 ?_; intro _ _) | (refine J3 ?_; intro _ _) | (refine J4 ?_; intro _ _) | refine K1 ?_ | refine K0 ?_ | refine K2 ?_ | refine K3 ?_ | refine K4 ?_ | (refine CV_pu ?_; intro _ _ _ _) | refine fV_ldN ?_ | refine fV_ld1 ?_ | refine fHV_ldN ?_ | refine fHV_ld1 ?_ | refine NilW_some ?_ | refine iCW_1 ?_ | refine iCW_N ?_ | refine Pk_b ?_))
  exact ⟨_, _, ‹_›, rfl⟩)⟩
/-! ### Setting -/
def setOk (c mode : Int) (text : ByteArray) : Bool := moded c mode && (decide (text = ⟨#[]⟩) || labB text)
def setT (was : TrM) (c mode : Int) (text : ByteArray) : TrM := if mode = 0 then noTrap else ⟨mode, if text = ⟨#[]⟩ then nameOf c else text, decide (mode = 2) && was.delayed⟩
def FrM.tr (f : FrM) (c : Int) : TrM := f.traps.getD c.toNat noTrap
def FrM.put (f : FrM) (c : Int) (t : TrM) : FrM := { f with traps := f.traps.set c.toNat t }
theorem FrM.split {f : FrM} {c : Int} (h6 : f.traps.length = 6) (h0 : 0 ≤ c) (h1 : c < 6) : ∃ tp tq, f.traps = tp ++ f.tr c :: tq ∧ tp.length = c.toNat ∧ ∀ t, (f.put c t).traps = tp ++ t :: tq := by
  have hlt : c.toNat < f.traps.length := by omega
  refine ⟨f.traps.take c.toNat, f.traps.drop (c.toNat + 1), ?_, by rw [List.length_take]; omega, fun t => ?_⟩
  · rw [FrM.tr, List.getD_eq_getElem?_getD, List.getElem?_eq_getElem hlt, Option.getD_some, ← List.drop_eq_getElem_cons hlt, List.take_append_drop]
  · simp only [FrM.put]
    rw [List.set_eq_take_append_cons_drop, if_pos hlt]
theorem setP {z : Z} {w : World} {B : Bl} {mb : Nat} {pre : StM} {f : FrM} {c mode : Int} {text : ByteArray} (hm : Mach z B mb (pre ++ [f])) (h6 : f.traps.length = 6) (h0 : 0 ≤ c) (h1 : c < 6) (hp : pre.length ≤ 100) (ht : text.size ≤ big) :
    Fn 85 #[.pointer (some ⟨mb, 0, none⟩), .int .i64 c, .int .i64 mode, .string text] z B w fun z' B' r => if setOk c mode text then r = .tuple #[noAct.v, .int .i64 0] ∧ Mach z' B' mb (pre ++ [f.put c (setT (f.tr c) c mode text)]) else r = .tuple #[noAct.v, .int .i64 1] := Fn.intro fun hS => en85 (by
  unfold vc85
  obtain ⟨fb, tb, ps, sp, ts, cap, tcap, B2, v2, hB, hx, hpo⟩ := hm.x h6
  obtain ⟨a2, cap2, rfl, hc2⟩ := hpo.form
  obtain ⟨tp, tq, hsp, htl, hput⟩ := FrM.split h6 h0 h1
  haveI : InR c 6 := ⟨h0, h1⟩
  haveI : InR c (6 : Nat) := ⟨h0, by omega⟩
  have hS' : Res w z B w z _ := Eq.subst (motive := fun X => Res w z B w z X) hB hS
  clear hS
  simp only [mxB, hsp, List.flatMap_append, List.flatMap_cons, TrM.cells, List.append_assoc, List.cons_append, List.nil_append] at hS'
  have hoff : c.toNat * 3 = (tp.flatMap TrM.cells).length := by rw [flat_len (f := TrM.cells) (n := 3) (fun _ => rfl), htl]
  have hlen := hx.fr.len
  have fin : ∀ (w' : World) (z' : Z) (t : TrM) (b : Nat) (o : Obj), t.label.size ≤ big → Le z z' → Res w z B w' z' ((b, o) :: (mb, .cells [.slice (some ⟨fb, 0, none⟩) (pre.length + 1) cap].toArray 134 (0, 0)) :: (fb, .cells (ps ++ (.slice (some ⟨tb, 0, none⟩) 6 tcap :: .slice a2 f.pend.length cap2 :: .int .i64 f.info.cond :: .int .i64 f.info.mode :: .string f.info.desc :: sp)).toArray 63 (0, 0)) :: (tb, .cells (tp.flatMap TrM.cells ++ (.int .i64 t.mode :: .string t.label :: .bool t.delayed :: (tq.flatMap TrM.cells ++ ts))).toArray 73 (0, 0)) :: B2) →
      ∃ B', Res w z B w' z' B' ∧ Mach z' B' mb (pre ++ [f.put c t]) := fun w' z' t b o hts hz hR => by
    refine ⟨mxB mb fb tb (pre.length + 1) ps sp ts cap tcap (f.put c t) B2 (.slice a2 f.pend.length cap2), ?_, ?_⟩
    · simp only [mxB, hput, List.flatMap_append, List.flatMap_cons, TrM.cells, List.append_assoc, List.cons_append, List.nil_append]
      exact hR.tl
    · refine MachX.mach ⟨FrsR.mono hz hx.fr, hx.cap, hx.tcap, by rw [hput]; rw [hsp] at h6; simpa using h6, ?_⟩ hpo
      obtain ⟨s1, s2, s3, s4, s5⟩ := hx.sm
      refine ⟨by rw [hput]; rw [hsp] at s1; simpa using s1, s2, fun u hu => ?_, s4, s5⟩
      rw [hput] at hu
      rcases List.mem_append.1 hu with hu | hu
      · exact s3 u (by rw [hsp]; exact List.mem_append_left _ hu)
      · rcases List.mem_cons.1 hu with rfl | hu
        · exact hts
        · exact s3 u (by rw [hsp]; exact List.mem_append_right _ (List.mem_cons_of_mem _ hu))
  generalize tp.flatMap TrM.cells = tps at hS' hoff fin
  generalize f.tr c = was at hS'
  (repeat (first | (refine iDr ?_; intro _ _) | refine V_run ?_ | refine PV_run ?_ | refine HV_run ?_ | refine iV_ld1 ?_ | refine iV_ldN ?_ | (refine iV_bx ?_; intro _ _ _ _) | (refine iV_al ?_; intro _ _ _ _) | (refine iV_mm ?_; intro _ _ _ _) | (refine iU_st ?_; intro _ _) | refine iHV_1 ?_ | refine iHV_N ?_ | refine iRI_1 ?_ | refine iRI_N ?_ | refine Cond_t ?_ | refine Cond_f ?_ | refine JB ?_ | (refine JC ?_; intro _ _ _ _) | (refine J1 ?_; intro _ _) | (refine J0 ?_; intro _ _) | (refine J2 ?_; intro _ _) | (refine J3 ?_; intro _ _) | (refine J4 ?_; intro _ _) | refine K1 ?_ | refine K0 ?_ | refine K2 ?_ | refine K3 ?_ | refine K4 ?_ | (refine CV_pu ?_; intro _ _ _ _) | refine fV_ldN ?_ | refine fV_ld1 ?_ | refine fHV_ldN ?_ | refine fHV_ld1 ?_ | refine NilW_some ?_ | refine iCW_1 ?_ | refine iCW_N ?_ | refine Pk_b ?_))
  have hok : (bif !moded c mode then true else bif !decide (text = ⟨#[]⟩) then !labB text else false) = !setOk c mode text := by
    simp only [setOk]
    cases moded c mode <;> cases decide (text = ⟨#[]⟩) <;> cases labB text <;> rfl
  rw [hok]
  refine Cond_n (fun h => ?_) (fun h => ?_)
  · (repeat (first | (refine iDr ?_; intro _ _) | refine V_run ?_ | refine PV_run ?_ | refine HV_run ?_ | refine iV_ld1 ?_ | refine iV_ldN ?_ | (refine iV_bx ?_; intro _ _ _ _) | (refine iV_al ?_; intro _ _ _ _) | (refine iV_mm ?_; intro _ _ _ _) | (refine iU_st ?_; intro _ _) | refine iHV_1 ?_ | refine iHV_N ?_ | refine iRI_1 ?_ | refine iRI_N ?_ | refine Cond_t ?_ | refine Cond_f ?_ | refine JB ?_ | (refine JC ?_; intro _ _ _ _) | (refine J1 ?_; intro _ _) | (refine J0 ?_; intro _ _) | (refine J2 ?_; intro _ _) | (refine J3 ?_; intro _ _) | (refine J4 ?_; intro _ _) | refine K1 ?_ | refine K0 ?_ | refine K2 ?_ | refine K3 ?_ | refine K4 ?_ | (refine CV_pu ?_; intro _ _ _ _) | refine fV_ldN ?_ | refine fV_ld1 ?_ | refine fHV_ldN ?_ | refine fHV_ld1 ?_ | refine NilW_some ?_ | refine iCW_1 ?_ | refine iCW_N ?_ | refine Pk_b ?_))
    exact ⟨_, _, ‹_›, by rw [h]; rfl⟩
  · refine CV_now (n := pre.length) (o := ps.length) hlen.symm (by simp only [big]; omega) ?_
    intro w9 hS9
    (repeat (first | (refine iDr ?_; intro _ _) | refine V_run ?_ | refine PV_run ?_ | refine HV_run ?_ | refine iV_ld1 ?_ | refine iV_ldN ?_ | (refine iV_bx ?_; intro _ _ _ _) | (refine iV_al ?_; intro _ _ _ _) | (refine iV_mm ?_; intro _ _ _ _) | (refine iU_st ?_; intro _ _) | refine iHV_1 ?_ | refine iHV_N ?_ | refine iRI_1 ?_ | refine iRI_N ?_ | refine Cond_t ?_ | refine Cond_f ?_ | refine JB ?_ | (refine JC ?_; intro _ _ _ _) | (refine J1 ?_; intro _ _) | (refine J0 ?_; intro _ _) | (refine J2 ?_; intro _ _) | (refine J3 ?_; intro _ _) | (refine J4 ?_; intro _ _) | refine K1 ?_ | refine K0 ?_ | refine K2 ?_ | refine K3 ?_ | refine K4 ?_ | (refine CV_pu ?_; intro _ _ _ _) | refine fV_ldN ?_ | refine fV_ld1 ?_ | refine fHV_ldN ?_ | refine fHV_ld1 ?_ | refine NilW_some ?_ | refine iCW_1 ?_ | refine iCW_N ?_ | refine Pk_b ?_))
    rw [hoff]
    refine Cond_d (fun hm0 => ?_) (fun hm0 => ?_)
    · (repeat (first | (refine iDr ?_; intro _ _) | refine V_run ?_ | refine PV_run ?_ | refine HV_run ?_ | refine iV_ld1 ?_ | refine iV_ldN ?_ | (refine iV_bx ?_; intro _ _ _ _) | (refine iV_al ?_; intro _ _ _ _) | (refine iV_mm ?_; intro _ _ _ _) | (refine iU_st ?_; intro _ _) | refine iHV_1 ?_ | refine iHV_N ?_ | refine iRI_1 ?_ | refine iRI_N ?_ | refine Cond_t ?_ | refine Cond_f ?_ | refine JB ?_ | (refine JC ?_; intro _ _ _ _) | (refine J1 ?_; intro _ _) | (refine J0 ?_; intro _ _) | (refine J2 ?_; intro _ _) | (refine J3 ?_; intro _ _) | (refine J4 ?_; intro _ _) | refine K1 ?_ | refine K0 ?_ | refine K2 ?_ | refine K3 ?_ | refine K4 ?_ | (refine CV_pu ?_; intro _ _ _ _) | refine fV_ldN ?_ | refine fV_ld1 ?_ | refine fHV_ldN ?_ | refine fHV_ld1 ?_ | refine NilW_some ?_ | refine iCW_1 ?_ | refine iCW_N ?_ | refine Pk_b ?_))
      rename_i hSe
      obtain ⟨B', hR, hM⟩ := fin _ _ noTrap _ _ (by simp [noTrap, ByteArray.size]) hSe.zle hSe
      exact ⟨_, B', hR, by rw [if_pos h, setT, if_pos hm0]; exact ⟨rfl, hM⟩⟩
    · (repeat (first | (refine iDr ?_; intro _ _) | refine V_run ?_ | refine PV_run ?_ | refine HV_run ?_ | refine iV_ld1 ?_ | refine iV_ldN ?_ | (refine iV_bx ?_; intro _ _ _ _) | (refine iV_al ?_; intro _ _ _ _) | (refine iV_mm ?_; intro _ _ _ _) | (refine iU_st ?_; intro _ _) | refine iHV_1 ?_ | refine iHV_N ?_ | refine iRI_1 ?_ | refine iRI_N ?_ | refine Cond_t ?_ | refine Cond_f ?_ | refine JB ?_ | (refine JC ?_; intro _ _ _ _) | (refine J1 ?_; intro _ _) | (refine J0 ?_; intro _ _) | (refine J2 ?_; intro _ _) | (refine J3 ?_; intro _ _) | (refine J4 ?_; intro _ _) | refine K1 ?_ | refine K0 ?_ | refine K2 ?_ | refine K3 ?_ | refine K4 ?_ | (refine CV_pu ?_; intro _ _ _ _) | refine fV_ldN ?_ | refine fV_ld1 ?_ | refine fHV_ldN ?_ | refine fHV_ld1 ?_ | refine NilW_some ?_ | refine iCW_1 ?_ | refine iCW_N ?_ | refine Pk_b ?_))
      refine Cond_d (fun ht0 => ?_) (fun ht0 => ?_)
      · (repeat (first | (refine iDr ?_; intro _ _) | refine V_run ?_ | refine PV_run ?_ | refine HV_run ?_ | refine iV_ld1 ?_ | refine iV_ldN ?_ | (refine iV_bx ?_; intro _ _ _ _) | (refine iV_al ?_; intro _ _ _ _) | (refine iV_mm ?_; intro _ _ _ _) | (refine iU_st ?_; intro _ _) | refine iHV_1 ?_ | refine iHV_N ?_ | refine iRI_1 ?_ | refine iRI_N ?_ | refine Cond_t ?_ | refine Cond_f ?_ | refine JB ?_ | (refine JC ?_; intro _ _ _ _) | (refine J1 ?_; intro _ _) | (refine J0 ?_; intro _ _) | (refine J2 ?_; intro _ _) | (refine J3 ?_; intro _ _) | (refine J4 ?_; intro _ _) | refine K1 ?_ | refine K0 ?_ | refine K2 ?_ | refine K3 ?_ | refine K4 ?_ | (refine CV_pu ?_; intro _ _ _ _) | refine fV_ldN ?_ | refine fV_ld1 ?_ | refine fHV_ldN ?_ | refine fHV_ld1 ?_ | refine NilW_some ?_ | refine iCW_1 ?_ | refine iCW_N ?_ | refine Pk_b ?_))
        refine Cond_d (fun hm2 => ?_) (fun hm2 => ?_)
        · (repeat (first | (refine iDr ?_; intro _ _) | refine V_run ?_ | refine PV_run ?_ | refine HV_run ?_ | refine iV_ld1 ?_ | refine iV_ldN ?_ | (refine iV_bx ?_; intro _ _ _ _) | (refine iV_al ?_; intro _ _ _ _) | (refine iV_mm ?_; intro _ _ _ _) | (refine iU_st ?_; intro _ _) | refine iHV_1 ?_ | refine iHV_N ?_ | refine iRI_1 ?_ | refine iRI_N ?_ | refine Cond_t ?_ | refine Cond_f ?_ | refine JB ?_ | (refine JC ?_; intro _ _ _ _) | (refine J1 ?_; intro _ _) | (refine J0 ?_; intro _ _) | (refine J2 ?_; intro _ _) | (refine J3 ?_; intro _ _) | (refine J4 ?_; intro _ _) | refine K1 ?_ | refine K0 ?_ | refine K2 ?_ | refine K3 ?_ | refine K4 ?_ | (refine CV_pu ?_; intro _ _ _ _) | refine fV_ldN ?_ | refine fV_ld1 ?_ | refine fHV_ldN ?_ | refine fHV_ld1 ?_ | refine NilW_some ?_ | refine iCW_1 ?_ | refine iCW_N ?_ | refine Pk_b ?_))
          rename_i hSe
          obtain ⟨B', hR, hM⟩ := fin _ _ ⟨mode, nameOf c, was.delayed⟩ _ _ (nameOf_size c) hSe.zle hSe
          exact ⟨_, B', hR, by rw [if_pos h, setT, if_neg hm0, if_pos ht0, decide_eq_true hm2]; exact ⟨rfl, hM⟩⟩
        · (repeat (first | (refine iDr ?_; intro _ _) | refine V_run ?_ | refine PV_run ?_ | refine HV_run ?_ | refine iV_ld1 ?_ | refine iV_ldN ?_ | (refine iV_bx ?_; intro _ _ _ _) | (refine iV_al ?_; intro _ _ _ _) | (refine iV_mm ?_; intro _ _ _ _) | (refine iU_st ?_; intro _ _) | refine iHV_1 ?_ | refine iHV_N ?_ | refine iRI_1 ?_ | refine iRI_N ?_ | refine Cond_t ?_ | refine Cond_f ?_ | refine JB ?_ | (refine JC ?_; intro _ _ _ _) | (refine J1 ?_; intro _ _) | (refine J0 ?_; intro _ _) | (refine J2 ?_; intro _ _) | (refine J3 ?_; intro _ _) | (refine J4 ?_; intro _ _) | refine K1 ?_ | refine K0 ?_ | refine K2 ?_ | refine K3 ?_ | refine K4 ?_ | (refine CV_pu ?_; intro _ _ _ _) | refine fV_ldN ?_ | refine fV_ld1 ?_ | refine fHV_ldN ?_ | refine fHV_ld1 ?_ | refine NilW_some ?_ | refine iCW_1 ?_ | refine iCW_N ?_ | refine Pk_b ?_))
          rename_i hSe
          obtain ⟨B', hR, hM⟩ := fin _ _ ⟨mode, nameOf c, false⟩ _ _ (nameOf_size c) hSe.zle hSe
          exact ⟨_, B', hR, by rw [if_pos h, setT, if_neg hm0, if_pos ht0, decide_eq_false hm2]; exact ⟨rfl, hM⟩⟩
      · (repeat (first | (refine iDr ?_; intro _ _) | refine V_run ?_ | refine PV_run ?_ | refine HV_run ?_ | refine iV_ld1 ?_ | refine iV_ldN ?_ | (refine iV_bx ?_; intro _ _ _ _) | (refine iV_al ?_; intro _ _ _ _) | (refine iV_mm ?_; intro _ _ _ _) | (refine iU_st ?_; intro _ _) | refine iHV_1 ?_ | refine iHV_N ?_ | refine iRI_1 ?_ | refine iRI_N ?_ | refine Cond_t ?_ | refine Cond_f ?_ | refine JB ?_ | (refine JC ?_; intro _ _ _ _) | (refine J1 ?_; intro _ _) | (refine J0 ?_; intro _ _) | (refine J2 ?_; intro _ _) | (refine J3 ?_; intro _ _) | (refine J4 ?_; intro _ _) | refine K1 ?_ | refine K0 ?_ | refine K2 ?_ | refine K3 ?_ | refine K4 ?_ | (refine CV_pu ?_; intro _ _ _ _) | refine fV_ldN ?_ | refine fV_ld1 ?_ | refine fHV_ldN ?_ | refine fHV_ld1 ?_ | refine NilW_some ?_ | refine iCW_1 ?_ | refine iCW_N ?_ | refine Pk_b ?_))
        refine Cond_d (fun hm2 => ?_) (fun hm2 => ?_)
        · (repeat (first | (refine iDr ?_; intro _ _) | refine V_run ?_ | refine PV_run ?_ | refine HV_run ?_ | refine iV_ld1 ?_ | refine iV_ldN ?_ | (refine iV_bx ?_; intro _ _ _ _) | (refine iV_al ?_; intro _ _ _ _) | (refine iV_mm ?_; intro _ _ _ _) | (refine iU_st ?_; intro _ _) | refine iHV_1 ?_ | refine iHV_N ?_ | refine iRI_1 ?_ | refine iRI_N ?_ | refine Cond_t ?_ | refine Cond_f ?_ | refine JB ?_ | (refine JC ?_; intro _ _ _ _) | (refine J1 ?_; intro _ _) | (refine J0 ?_; intro _ _) | (refine J2 ?_; intro _ _) | (refine J3 ?_; intro _ _) | (refine J4 ?_; intro _ _) | refine K1 ?_ | refine K0 ?_ | refine K2 ?_ | refine K3 ?_ | refine K4 ?_ | (refine CV_pu ?_; intro _ _ _ _) | refine fV_ldN ?_ | refine fV_ld1 ?_ | refine fHV_ldN ?_ | refine fHV_ld1 ?_ | refine NilW_some ?_ | refine iCW_1 ?_ | refine iCW_N ?_ | refine Pk_b ?_))
          rename_i hSe
          obtain ⟨B', hR, hM⟩ := fin _ _ ⟨mode, text, was.delayed⟩ _ _ ht hSe.zle hSe
          exact ⟨_, B', hR, by rw [if_pos h, setT, if_neg hm0, if_neg ht0, decide_eq_true hm2]; exact ⟨rfl, hM⟩⟩
        · (repeat (first | (refine iDr ?_; intro _ _) | refine V_run ?_ | refine PV_run ?_ | refine HV_run ?_ | refine iV_ld1 ?_ | refine iV_ldN ?_ | (refine iV_bx ?_; intro _ _ _ _) | (refine iV_al ?_; intro _ _ _ _) | (refine iV_mm ?_; intro _ _ _ _) | (refine iU_st ?_; intro _ _) | refine iHV_1 ?_ | refine iHV_N ?_ | refine iRI_1 ?_ | refine iRI_N ?_ | refine Cond_t ?_ | refine Cond_f ?_ | refine JB ?_ | (refine JC ?_; intro _ _ _ _) | (refine J1 ?_; intro _ _) | (refine J0 ?_; intro _ _) | (refine J2 ?_; intro _ _) | (refine J3 ?_; intro _ _) | (refine J4 ?_; intro _ _) | refine K1 ?_ | refine K0 ?_ | refine K2 ?_ | refine K3 ?_ | refine K4 ?_ | (refine CV_pu ?_; intro _ _ _ _) | refine fV_ldN ?_ | refine fV_ld1 ?_ | refine fHV_ldN ?_ | refine fHV_ld1 ?_ | refine NilW_some ?_ | refine iCW_1 ?_ | refine iCW_N ?_ | refine Pk_b ?_))
          rename_i hSe
          obtain ⟨B', hR, hM⟩ := fin _ _ ⟨mode, text, false⟩ _ _ ht hSe.zle hSe
          exact ⟨_, B', hR, by rw [if_pos h, setT, if_neg hm0, if_neg ht0, decide_eq_false hm2]; exact ⟨rfl, hM⟩⟩)
end Go.Proofs.Ytjnckainogpenaa
end

section
/- Machines at work: signalling, raising. -/
set_option linter.unusedVariables false
set_option maxRecDepth 20000
set_option synthInstance.maxHeartbeats 400000
set_option synthInstance.maxSize 4000
namespace Go.Proofs.Ytjnckainogpenaa
open Go Q Go.RowKit

def sigF (f : FrM) (c : Int) (desc : ByteArray) : FrM := { traps := f.traps.set c.toNat noTrap, pend := [], info := ⟨c, 1, desc⟩ }
def sigA (f : FrM) (c : Int) (desc : ByteArray) : AcM := ⟨1, (f.tr c).label, c, desc⟩
theorem signalP {z : Z} {w : World} {B : Bl} {mb fb tb cap tcap : Nat} {pre : StM} {ps sp ts : List Value} {f : FrM} {B2 : Bl} {v2 : Value} [One v2] {c : Int} {desc : ByteArray} (hB : B = mxB mb fb tb (pre.length + 1) ps sp ts cap tcap f B2 v2) (hx : MachX z mb fb tb pre ps sp ts cap tcap f) (h0 : 0 ≤ c) (h1 : c < 6) (hp : pre.length ≤ 100) (hd : desc.size ≤ big) :
    Fn 101 #[.pointer (some ⟨mb, 0, none⟩), .int .i64 c, .string desc] z B w fun z' B' r => r = (sigA f c desc).v ∧ Mach z' B' mb (pre ++ [sigF f c desc]) := Fn.intro fun hS => en101 (by
  unfold vc101
  have h6 := hx.six
  obtain ⟨tp, tq, hsp, htl, hput⟩ := FrM.split h6 h0 h1
  haveI : InR c (6 : Nat) := ⟨h0, by omega⟩
  have hS' : Res w z B w z _ := Eq.subst (motive := fun X => Res w z B w z X) hB hS
  clear hS
  simp only [mxB, hsp, List.flatMap_append, List.flatMap_cons, TrM.cells, List.append_assoc, List.cons_append, List.nil_append] at hS'
  have hoff : c.toNat * 3 = (tp.flatMap TrM.cells).length := by rw [flat_len (f := TrM.cells) (n := 3) (fun _ => rfl), htl]
  have hlen := hx.fr.len
  have hset : (sigF f c desc).traps = tp ++ noTrap :: tq := hput noTrap
  have fin : ∀ (w' : World) (z' : Z) (b b' : Nat) (o o' : Obj), Le z z' → Res w z B w' z' ((b, o) :: (b', o') :: (mb, .cells [.slice (some ⟨fb, 0, none⟩) (pre.length + 1) cap].toArray 134 (0, 0)) :: (fb, .cells (ps ++ (.slice (some ⟨tb, 0, none⟩) 6 tcap :: .slice none 0 0 :: .int .i64 c :: .int .i64 1 :: .string desc :: sp)).toArray 63 (0, 0)) :: (tb, .cells (tp.flatMap TrM.cells ++ (.int .i64 0 :: .string ⟨#[]⟩ :: .bool false :: (tq.flatMap TrM.cells ++ ts))).toArray 73 (0, 0)) :: B2) →
      ∃ B', Res w z B w' z' B' ∧ Mach z' B' mb (pre ++ [sigF f c desc]) := fun w' z' b b' o o' hz hR => by
    refine ⟨mxB mb fb tb (pre.length + 1) ps sp ts cap tcap (sigF f c desc) [] (.slice none 0 0), ?_, ?_⟩
    · simp only [mxB, hset, List.flatMap_append, List.flatMap_cons, TrM.cells, List.append_assoc, List.cons_append, List.nil_append]
      exact hR.tl.tl.sublist (((List.nil_sublist B2).cons_cons _).cons_cons _ |>.cons_cons _)
    · refine MachX.mach ⟨FrsR.mono hz hx.fr, hx.cap, hx.tcap, by rw [hset]; rw [hsp] at h6; simpa using h6, ?_⟩ OwnSl.nil
      obtain ⟨s1, s2, s3, s4, s5⟩ := hx.sm
      refine ⟨by rw [hset]; rw [hsp] at s1; simpa using s1, by simp [sigF], fun u hu => ?_, fun u hu => by simp [sigF] at hu, hd⟩
      rw [hset] at hu
      rcases List.mem_append.1 hu with hu | hu
      · exact s3 u (by rw [hsp]; exact List.mem_append_left _ hu)
      · rcases List.mem_cons.1 hu with rfl | hu
        · simp [noTrap, ByteArray.size]
        · exact s3 u (by rw [hsp]; exact List.mem_append_right _ (List.mem_cons_of_mem _ hu))
  generalize tp.flatMap TrM.cells = tps at hS' hoff fin
  have hlab : (sigA f c desc).v = .agg [.int .i64 1, .string (f.tr c).label, .int .i64 c, .string desc].toArray := rfl
  rw [hlab]
  generalize f.tr c = was at hS'
  (repeat (first | (refine iDr ?_; intro _ _) | refine V_run ?_ | refine PV_run ?_ | refine HV_run ?_ | refine iV_ld1 ?_ | refine iV_ldN ?_ | (refine iV_bx ?_; intro _ _ _ _) | (refine iV_al ?_; intro _ _ _ _) | (refine iV_mm ?_; intro _ _ _ _) | (refine iU_st ?_; intro _ _) | refine iHV_1 ?_ | refine iHV_N ?_ | refine iRI_1 ?_ | refine iRI_N ?_ | refine Cond_t ?_ | refine Cond_f ?_ | refine JB ?_ | (refine JC ?_; intro _ _ _ _) | (refine J1 ?_; intro _ _) | (refine J0 ?_; intro _ _) | (refine J2 ?_; intro _ _) | (refine J3 ?_; intro _ _) | (refine J4 ?_; intro _ _) | refine K1 ?_ | refine K0 ?_ | refine K2 ?_ | refine K3 ?_ | refine K4 ?_ | (refine CV_pu ?_; intro _ _ _ _) | refine fV_ldN ?_ | refine fV_ld1 ?_ | refine fHV_ldN ?_ | refine fHV_ld1 ?_ | refine NilW_some ?_ | refine iCW_1 ?_ | refine iCW_N ?_ | refine Pk_b ?_))
  refine CV_now (n := pre.length) (o := ps.length) hlen.symm (by simp only [big]; omega) ?_
  intro w9 hS9
  (repeat (first | (refine iDr ?_; intro _ _) | refine V_run ?_ | refine PV_run ?_ | refine HV_run ?_ | refine iV_ld1 ?_ | refine iV_ldN ?_ | (refine iV_bx ?_; intro _ _ _ _) | (refine iV_al ?_; intro _ _ _ _) | (refine iV_mm ?_; intro _ _ _ _) | (refine iU_st ?_; intro _ _) | refine iHV_1 ?_ | refine iHV_N ?_ | refine iRI_1 ?_ | refine iRI_N ?_ | refine Cond_t ?_ | refine Cond_f ?_ | refine JB ?_ | (refine JC ?_; intro _ _ _ _) | (refine J1 ?_; intro _ _) | (refine J0 ?_; intro _ _) | (refine J2 ?_; intro _ _) | (refine J3 ?_; intro _ _) | (refine J4 ?_; intro _ _) | refine K1 ?_ | refine K0 ?_ | refine K2 ?_ | refine K3 ?_ | refine K4 ?_ | (refine CV_pu ?_; intro _ _ _ _) | refine fV_ldN ?_ | refine fV_ld1 ?_ | refine fHV_ldN ?_ | refine fHV_ld1 ?_ | refine NilW_some ?_ | refine iCW_1 ?_ | refine iCW_N ?_ | refine Pk_b ?_))
  rw [hoff]
  (repeat (first | (refine iDr ?_; intro _ _) | refine V_run ?_ | refine PV_run ?_ | refine HV_run ?_ | refine iV_ld1 ?_ | refine iV_ldN ?_ | (refine iV_bx ?_; intro _ _ _ _) | (refine iV_al ?_; intro _ _ _ _) | (refine iV_mm ?_; intro _ _ _ _) | (refine iU_st ?_; intro _ _) | refine iHV_1 ?_ | refine iHV_N ?_ | refine iRI_1 ?_ | refine iRI_N ?_ | refine Cond_t ?_ | refine Cond_f ?_ | refine JB ?_ | (refine JC ?_; intro _ _ _ _) | (refine J1 ?_; intro _ _) | (refine J0 ?_; intro _ _) | (refine J2 ?_; intro _ _) | (refine J3 ?_; intro _ _) | (refine J4 ?_; intro _ _) | refine K1 ?_ | refine K0 ?_ | refine K2 ?_ | refine K3 ?_ | refine K4 ?_ | (refine CV_pu ?_; intro _ _ _ _) | refine fV_ldN ?_ | refine fV_ld1 ?_ | refine fHV_ldN ?_ | refine fHV_ld1 ?_ | refine NilW_some ?_ | refine iCW_1 ?_ | refine iCW_N ?_ | refine Pk_b ?_))
  rw [hoff]
  (repeat (first | (refine iDr ?_; intro _ _) | refine V_run ?_ | refine PV_run ?_ | refine HV_run ?_ | refine iV_ld1 ?_ | refine iV_ldN ?_ | (refine iV_bx ?_; intro _ _ _ _) | (refine iV_al ?_; intro _ _ _ _) | (refine iV_mm ?_; intro _ _ _ _) | (refine iU_st ?_; intro _ _) | refine iHV_1 ?_ | refine iHV_N ?_ | refine iRI_1 ?_ | refine iRI_N ?_ | refine Cond_t ?_ | refine Cond_f ?_ | refine JB ?_ | (refine JC ?_; intro _ _ _ _) | (refine J1 ?_; intro _ _) | (refine J0 ?_; intro _ _) | (refine J2 ?_; intro _ _) | (refine J3 ?_; intro _ _) | (refine J4 ?_; intro _ _) | refine K1 ?_ | refine K0 ?_ | refine K2 ?_ | refine K3 ?_ | refine K4 ?_ | (refine CV_pu ?_; intro _ _ _ _) | refine fV_ldN ?_ | refine fV_ld1 ?_ | refine fHV_ldN ?_ | refine fHV_ld1 ?_ | refine NilW_some ?_ | refine iCW_1 ?_ | refine iCW_N ?_ | refine Pk_b ?_))
  rename_i hSe
  obtain ⟨B', hR, hM⟩ := fin _ _ _ _ _ _ hSe.zle hSe
  exact ⟨_, B', hR, rfl, hM⟩)
end Go.Proofs.Ytjnckainogpenaa
end
