/- The data of package trap, and how they lie in memory. -/
import Derived.Test.YtjnckainogpenaaT4
set_option linter.unusedVariables false
set_option maxRecDepth 20000
namespace Go.Proofs.Ytjnckainogpenaa
open Go Q Go.RowKit

structure TrM where
  mode : Int
  label : ByteArray
  delayed : Bool
structure RaM where
  cond : Int
  desc : ByteArray
structure InM where
  cond : Int
  mode : Int
  desc : ByteArray
structure FrM where
  traps : List TrM
  pend : List RaM
  info : InM
structure AcM where
  kind : Int
  label : ByteArray
  cond : Int
  desc : ByteArray
structure OpM where
  kind : Int
  cond : Int
  mode : Int
  text : ByteArray
abbrev StM := List FrM
abbrev TrM.cells (t : TrM) : List Value := [.int .i64 t.mode, .string t.label, .bool t.delayed]
abbrev RaM.cells (t : RaM) : List Value := [.int .i64 t.cond, .string t.desc]
abbrev InM.cells (t : InM) : List Value := [.int .i64 t.cond, .int .i64 t.mode, .string t.desc]
abbrev AcM.cells (t : AcM) : List Value := [.int .i64 t.kind, .string t.label, .int .i64 t.cond, .string t.desc]
abbrev OpM.cells (t : OpM) : List Value := [.int .i64 t.kind, .int .i64 t.cond, .int .i64 t.mode, .string t.text]
abbrev TrM.v (t : TrM) : Value := .agg t.cells.toArray
abbrev RaM.v (t : RaM) : Value := .agg t.cells.toArray
abbrev InM.v (t : InM) : Value := .agg t.cells.toArray
abbrev AcM.v (t : AcM) : Value := .agg t.cells.toArray
abbrev OpM.v (t : OpM) : Value := .agg t.cells.toArray
def El.trap : El TrM where
  size := 3
  rel := fun _ cs x => cs = x.cells ∧ x.label.size ≤ big
  mono := fun h _ => h
  len := fun h => by rw [h.1]; rfl
  pos := by decide
def El.raised : El RaM where
  size := 2
  rel := fun _ cs x => cs = x.cells ∧ x.desc.size ≤ big
  mono := fun h _ => h
  len := fun h => by rw [h.1]; rfl
  pos := by decide
def El.act : El AcM where
  size := 4
  rel := fun _ cs x => cs = x.cells
  mono := fun h _ => h
  len := fun h => by rw [h]; rfl
  pos := by decide
def El.op : El OpM where
  size := 4
  rel := fun _ cs x => cs = x.cells ∧ x.text.size ≤ big
  mono := fun h _ => h
  len := fun h => by rw [h.1]; rfl
  pos := by decide
def El.errno : El Int := El.int
def El.frame : El FrM where
  size := 5
  rel := fun z cs f => ∃ v1 v2, cs = v1 :: v2 :: f.info.cells ∧ SlR El.trap z v1 f.traps ∧ SlR El.raised z v2 f.pend ∧ f.info.desc.size ≤ big
  mono := fun ⟨v1, v2, h1, h2, h3, h4⟩ hz => ⟨v1, v2, h1, h2.mono hz, h3.mono hz, h4⟩
  len := fun ⟨v1, v2, h1, _⟩ => by rw [h1]; rfl
  pos := by decide
/-- A state as a value. -/
def StR (z : Z) (v : Value) (s : StM) : Prop := ∃ u, v = .agg #[u] ∧ SlR El.frame z u s
theorem StR.mono {z z' : Z} {v : Value} {s : StM} (h : StR z v s) (hz : Le z z') : StR z' v s := let ⟨u, h1, h2⟩ := h; ⟨u, h1, h2.mono hz⟩
/-- A frame as a value. -/
def FrR (z : Z) (v : Value) (f : FrM) : Prop := ∃ cs, v = .agg cs.toArray ∧ El.frame.rel z cs f
theorem FrR.mono {z z' : Z} {v : Value} {s : FrM} (h : FrR z v s) (hz : Le z z') : FrR z' v s := let ⟨u, h1, h2⟩ := h; ⟨u, h1, El.frame.mono h2 hz⟩

def TrM.eqb (a b : TrM) : Bool := decide (a.mode = b.mode) && (decide (a.label = b.label) && ((a.delayed == b.delayed) && true))
def RaM.eqb (a b : RaM) : Bool := decide (a.cond = b.cond) && (decide (a.desc = b.desc) && true)
def InM.eqb (a b : InM) : Bool := decide (a.cond = b.cond) && (decide (a.mode = b.mode) && (decide (a.desc = b.desc) && true))
def AcM.eqb (a b : AcM) : Bool := decide (a.kind = b.kind) && (decide (a.label = b.label) && (decide (a.cond = b.cond) && (decide (a.desc = b.desc) && true)))
theorem TrM.eqb_iff {a b : TrM} : a.eqb b = true ↔ a = b := by
  obtain ⟨x1, x2, x3⟩ := a; obtain ⟨y1, y2, y3⟩ := b
  simp [TrM.eqb]
theorem RaM.eqb_iff {a b : RaM} : a.eqb b = true ↔ a = b := by
  obtain ⟨x1, x2⟩ := a; obtain ⟨y1, y2⟩ := b
  simp [RaM.eqb]
theorem InM.eqb_iff {a b : InM} : a.eqb b = true ↔ a = b := by
  obtain ⟨x1, x2, x3⟩ := a; obtain ⟨y1, y2, y3⟩ := b
  simp [InM.eqb]
theorem AcM.eqb_iff {a b : AcM} : a.eqb b = true ↔ a = b := by
  obtain ⟨x1, x2, x3, x4⟩ := a; obtain ⟨y1, y2, y3, y4⟩ := b
  simp [AcM.eqb]
def noTrap : TrM := ⟨0, ⟨#[]⟩, false⟩
def noInfo : InM := ⟨0, 0, ⟨#[]⟩⟩
def noAct : AcM := ⟨0, ⟨#[]⟩, 0, ⟨#[]⟩⟩

/-! ### The checks -/
def trapOk (i : Int) (t : TrM) : Bool := if t.mode = 0 then t.eqb noTrap else moded i t.mode && labB t.label && (!t.delayed || decide (t.mode = 2))
instance {i : Int} {t : TrM} : Pu 90 #[.int .i64 i, t.v] (.bool (trapOk i t)) := ⟨fun z w => Fn1.intro fun hS => en90 (by
  unfold vc90
  dsimp only [TrM.v, TrM.cells]
  (repeat (first | (refine iDr ?_; intro _ _) | refine V_run ?_ | refine PV_run ?_ | refine HV_run ?_ | refine iV_ld1 ?_ | refine iV_ldN ?_ | (refine iV_bx ?_; intro _ _ _ _) | (refine iV_al ?_; intro _ _ _ _) | (refine iV_mm ?_; intro _ _ _ _) | (refine iU_st ?_; intro _ _) | refine iHV_1 ?_ | refine iHV_N ?_ | refine iRI_1 ?_ | refine iRI_N ?_ | refine Cond_t ?_ | refine Cond_f ?_ | refine JB ?_ | (refine JC ?_; intro _ _ _ _) | (refine J1 ?_; intro _ _) | (refine J0 ?_; intro _ _) | (refine J2 ?_; intro _ _) | (refine J3 ?_; intro _ _) | (refine J4 ?_; intro _ _) | refine K1 ?_ | refine K0 ?_ | refine K2 ?_ | refine K3 ?_ | refine K4 ?_ | (refine CV_pu ?_; intro _ _ _ _) | refine fV_ldN ?_ | refine fV_ld1 ?_ | refine fHV_ldN ?_ | refine fHV_ld1 ?_ | refine NilW_some ?_ | refine iCW_1 ?_ | refine iCW_N ?_ | refine Pk_b ?_))
  refine Cond_d (fun h => ?_) (fun h => ?_)
  · (repeat (first | (refine iDr ?_; intro _ _) | refine V_run ?_ | refine PV_run ?_ | refine HV_run ?_ | refine iV_ld1 ?_ | refine iV_ldN ?_ | (refine iV_bx ?_; intro _ _ _ _) | (refine iV_al ?_; intro _ _ _ _) | (refine iV_mm ?_; intro _ _ _ _) | (refine iU_st ?_; intro _ _) | refine iHV_1 ?_ | refine iHV_N ?_ | refine iRI_1 ?_ | refine iRI_N ?_ | refine Cond_t ?_ | refine Cond_f ?_ | refine JB ?_ | (refine JC ?_; intro _ _ _ _) | (refine J1 ?_; intro _ _) | (refine J0 ?_; intro _ _) | (refine J2 ?_; intro _ _) | (refine J3 ?_; intro _ _) | (refine J4 ?_; intro _ _) | refine K1 ?_ | refine K0 ?_ | refine K2 ?_ | refine K3 ?_ | refine K4 ?_ | (refine CV_pu ?_; intro _ _ _ _) | refine fV_ldN ?_ | refine fV_ld1 ?_ | refine fHV_ldN ?_ | refine fHV_ld1 ?_ | refine NilW_some ?_ | refine iCW_1 ?_ | refine iCW_N ?_ | refine Pk_b ?_))
    exact ret_eq (by rw [trapOk, if_pos h]; rfl)
  · (repeat (first | (refine iDr ?_; intro _ _) | refine V_run ?_ | refine PV_run ?_ | refine HV_run ?_ | refine iV_ld1 ?_ | refine iV_ldN ?_ | (refine iV_bx ?_; intro _ _ _ _) | (refine iV_al ?_; intro _ _ _ _) | (refine iV_mm ?_; intro _ _ _ _) | (refine iU_st ?_; intro _ _) | refine iHV_1 ?_ | refine iHV_N ?_ | refine iRI_1 ?_ | refine iRI_N ?_ | refine Cond_t ?_ | refine Cond_f ?_ | refine JB ?_ | (refine JC ?_; intro _ _ _ _) | (refine J1 ?_; intro _ _) | (refine J0 ?_; intro _ _) | (refine J2 ?_; intro _ _) | (refine J3 ?_; intro _ _) | (refine J4 ?_; intro _ _) | refine K1 ?_ | refine K0 ?_ | refine K2 ?_ | refine K3 ?_ | refine K4 ?_ | (refine CV_pu ?_; intro _ _ _ _) | refine fV_ldN ?_ | refine fV_ld1 ?_ | refine fHV_ldN ?_ | refine fHV_ld1 ?_ | refine NilW_some ?_ | refine iCW_1 ?_ | refine iCW_N ?_ | refine Pk_b ?_))
    exact ⟨_, _, ‹_›, by
      rw [trapOk, if_neg h]
      cases moded i t.mode <;> cases labB t.label <;> cases t.delayed <;> simp⟩)⟩
theorem At.head {h : Nat → Option Obj} {b off : Nat} {v : Value} {vs : List Value} (ha : At h b off (v :: vs)) : At h b off [v] := let ⟨c, ty, fr, h1, h2⟩ := ha; ⟨c, ty, fr, h1, fun j u hu => by cases j with | zero => exact h2 0 u (by simpa using hu) | succ j => simp at hu⟩
theorem Res.tl {w0 w : World} {z0 z : Z} {B0 L : Bl} {p : Nat × Obj} (h : Res w0 z0 B0 w z (p :: L)) : Res w0 z0 B0 w z L := h.sublist (List.sublist_cons_self _ _)
def trapsFrom (i : Int) : List TrM → Bool
  | [] => true
  | t :: l => trapOk i t && trapsFrom (i + 1) l
def raOk (had : List RaM) (r : RaM) : Bool := cond r.cond && !immediate r.cond && !(had.any fun x => x.cond == r.cond) && descB r.desc
def pendFrom (had : List RaM) : List RaM → Bool
  | [] => true
  | r :: l => raOk had r && pendFrom (had ++ [r]) l
def infoB (i : InM) : Bool := if i.mode = 0 then i.eqb noInfo else (decide (i.mode = 1) || decide (i.mode = 2)) && cond i.cond && descB i.desc
def framedB (f : FrM) : Bool := decide (f.traps.length = 6) && trapsFrom 0 f.traps && pendFrom [] f.pend && infoB f.info
abbrev hadO (l : List RaM) : Obj := mO .i64 (l.map fun r => (r.cond, .bool true))
theorem lkF_had (l : List RaM) (n : Int) : (lkF (l.map fun r => (r.cond, Value.bool true)) n (.bool false)).1 = .bool (l.any fun x => x.cond == n) := by
  induction l with
  | nil => rfl
  | cons r l ih =>
    unfold lkF at ih ⊢
    simp only [List.map_cons, List.find?_cons, List.any_cons]
    cases h : r.cond == n with
    | true => simp
    | false => simp only [Bool.false_or]; exact ih
instance {l : List RaM} {n : Int} : LkV (l.map fun r => (r.cond, Value.bool true)) n (.bool false) (.bool (l.any fun x => x.cond == n)) := ⟨lkF_had l n⟩
theorem framed {v : Value} {f : FrM} {z : Z} {w : World} (hf : FrR z v f) : Fn1 58 #[v] z w fun _ r => r = .bool (framedB f) := Fn1.intro fun hS => en58 (by
  unfold vc58
  obtain ⟨cs, rfl, v1, v2, rfl, hv1, hv2, hd⟩ := hf
  obtain ⟨hb1, a1, cap1, rfl, hc1, hel1⟩ := hv1.form
  obtain ⟨hb2, a2, cap2, rfl, hc2, hel2⟩ := hv2.form
  dsimp only [InM.cells]
  refine iV_bx ?_
  intro b0 w1 hb0 hS1
  (repeat (first | (refine iDr ?_; intro _ _) | refine V_run ?_ | refine PV_run ?_ | refine HV_run ?_ | refine iV_ld1 ?_ | refine iV_ldN ?_ | (refine iV_bx ?_; intro _ _ _ _) | (refine iV_al ?_; intro _ _ _ _) | (refine iV_mm ?_; intro _ _ _ _) | (refine iU_st ?_; intro _ _) | refine iHV_1 ?_ | refine iHV_N ?_ | refine iRI_1 ?_ | refine iRI_N ?_ | refine Cond_t ?_ | refine Cond_f ?_ | refine JB ?_ | (refine JC ?_; intro _ _ _ _) | (refine J1 ?_; intro _ _) | (refine J0 ?_; intro _ _) | (refine J2 ?_; intro _ _) | (refine J3 ?_; intro _ _) | (refine J4 ?_; intro _ _) | refine K1 ?_ | refine K0 ?_ | refine K2 ?_ | refine K3 ?_ | refine K4 ?_ | (refine CV_pu ?_; intro _ _ _ _) | refine fV_ldN ?_ | refine fV_ld1 ?_ | refine fHV_ldN ?_ | refine fHV_ld1 ?_ | refine NilW_some ?_ | refine iCW_1 ?_ | refine iCW_N ?_ | refine Pk_b ?_))
  refine Cond_nd (fun h6 => ?_) (fun h6 => ?_)
  · exact ⟨_, _, hS1, by simp [framedB]; omega⟩
  (repeat (first | (refine iDr ?_; intro _ _) | refine V_run ?_ | refine PV_run ?_ | refine HV_run ?_ | refine iV_ld1 ?_ | refine iV_ldN ?_ | (refine iV_bx ?_; intro _ _ _ _) | (refine iV_al ?_; intro _ _ _ _) | (refine iV_mm ?_; intro _ _ _ _) | (refine iU_st ?_; intro _ _) | refine iHV_1 ?_ | refine iHV_N ?_ | refine iRI_1 ?_ | refine iRI_N ?_ | refine Cond_t ?_ | refine Cond_f ?_ | refine JB ?_ | (refine JC ?_; intro _ _ _ _) | (refine J1 ?_; intro _ _) | (refine J0 ?_; intro _ _) | (refine J2 ?_; intro _ _) | (refine J3 ?_; intro _ _) | (refine J4 ?_; intro _ _) | refine K1 ?_ | refine K0 ?_ | refine K2 ?_ | refine K3 ?_ | refine K4 ?_ | (refine CV_pu ?_; intro _ _ _ _) | refine fV_ldN ?_ | refine fV_ld1 ?_ | refine fHV_ldN ?_ | refine fHV_ld1 ?_ | refine NilW_some ?_ | refine iCW_1 ?_ | refine iCW_N ?_ | refine Pk_b ?_))
  refine LoopG1 (fun (i : Nat) x w' => x = .int .i64 i ∧ i ≤ f.traps.length ∧ trapsFrom 0 f.traps = trapsFrom i (f.traps.drop i) ∧ ∃ z', Le z z' ∧ Res w z [] w' z' [(b0, .cells [.slice a1 f.traps.length cap1, .slice a2 f.pend.length cap2, .int .i64 f.info.cond, .int .i64 f.info.mode, .string f.info.desc].toArray 63 (0, 0))]) (fun i => f.traps.length - i) 0 ⟨rfl, by omega, rfl, z, Le.refl _, hS1⟩ ?_
  rintro I M i x w2 m ⟨rfl, h1, h2, z2, hz2, hS2⟩ back
  (repeat (first | (refine iDr ?_; intro _ _) | refine V_run ?_ | refine PV_run ?_ | refine HV_run ?_ | refine iV_ld1 ?_ | refine iV_ldN ?_ | (refine iV_bx ?_; intro _ _ _ _) | (refine iV_al ?_; intro _ _ _ _) | (refine iV_mm ?_; intro _ _ _ _) | (refine iU_st ?_; intro _ _) | refine iHV_1 ?_ | refine iHV_N ?_ | refine iRI_1 ?_ | refine iRI_N ?_ | refine Cond_t ?_ | refine Cond_f ?_ | refine JB ?_ | (refine JC ?_; intro _ _ _ _) | (refine J1 ?_; intro _ _) | (refine J0 ?_; intro _ _) | (refine J2 ?_; intro _ _) | (refine J3 ?_; intro _ _) | (refine J4 ?_; intro _ _) | refine K1 ?_ | refine K0 ?_ | refine K2 ?_ | refine K3 ?_ | refine K4 ?_ | (refine CV_pu ?_; intro _ _ _ _) | refine fV_ldN ?_ | refine fV_ld1 ?_ | refine fHV_ldN ?_ | refine fHV_ld1 ?_ | refine NilW_some ?_ | refine iCW_1 ?_ | refine iCW_N ?_ | refine Pk_b ?_))
  refine Cond_d (fun h => ?_) (fun h => ?_)
  · have hlt : i < f.traps.length := by omega
    obtain ⟨b, off, cs, rfl, hr, hat⟩ := hel1 i _ (List.getElem?_eq_getElem hlt)
    haveI : InR (i : Int) f.traps.length := ⟨by omega, by omega⟩
    haveI : InI ((i : Int) + 1) := ⟨by simp only [big] at hb1; omega⟩
    (repeat (first | (refine iDr ?_; intro _ _) | refine V_run ?_ | refine PV_run ?_ | refine HV_run ?_ | refine iV_ld1 ?_ | refine iV_ldN ?_ | (refine iV_bx ?_; intro _ _ _ _) | (refine iV_al ?_; intro _ _ _ _) | (refine iV_mm ?_; intro _ _ _ _) | (refine iU_st ?_; intro _ _) | refine iHV_1 ?_ | refine iHV_N ?_ | refine iRI_1 ?_ | refine iRI_N ?_ | refine Cond_t ?_ | refine Cond_f ?_ | refine JB ?_ | (refine JC ?_; intro _ _ _ _) | (refine J1 ?_; intro _ _) | (refine J0 ?_; intro _ _) | (refine J2 ?_; intro _ _) | (refine J3 ?_; intro _ _) | (refine J4 ?_; intro _ _) | refine K1 ?_ | refine K0 ?_ | refine K2 ?_ | refine K3 ?_ | refine K4 ?_ | (refine CV_pu ?_; intro _ _ _ _) | refine fV_ldN ?_ | refine fV_ld1 ?_ | refine fHV_ldN ?_ | refine fHV_ld1 ?_ | refine NilW_some ?_ | refine iCW_1 ?_ | refine iCW_N ?_ | refine Pk_b ?_))
    simp only [Int.toNat_natCast]
    obtain ⟨rfl, hr2⟩ := hr
    refine zV_ldN (hat.mono hz2) rfl ?_
    dsimp only [TrM.cells]
    (repeat (first | (refine iDr ?_; intro _ _) | refine V_run ?_ | refine PV_run ?_ | refine HV_run ?_ | refine iV_ld1 ?_ | refine iV_ldN ?_ | (refine iV_bx ?_; intro _ _ _ _) | (refine iV_al ?_; intro _ _ _ _) | (refine iV_mm ?_; intro _ _ _ _) | (refine iU_st ?_; intro _ _) | refine iHV_1 ?_ | refine iHV_N ?_ | refine iRI_1 ?_ | refine iRI_N ?_ | refine Cond_t ?_ | refine Cond_f ?_ | refine JB ?_ | (refine JC ?_; intro _ _ _ _) | (refine J1 ?_; intro _ _) | (refine J0 ?_; intro _ _) | (refine J2 ?_; intro _ _) | (refine J3 ?_; intro _ _) | (refine J4 ?_; intro _ _) | refine K1 ?_ | refine K0 ?_ | refine K2 ?_ | refine K3 ?_ | refine K4 ?_ | (refine CV_pu ?_; intro _ _ _ _) | refine fV_ldN ?_ | refine fV_ld1 ?_ | refine fHV_ldN ?_ | refine fHV_ld1 ?_ | refine NilW_some ?_ | refine iCW_1 ?_ | refine iCW_N ?_ | refine Pk_b ?_))
    rw [List.drop_eq_getElem_cons hlt] at h2
    refine Cond_n (fun h' => ?_) (fun h' => ?_)
    · refine ⟨_, _, ‹_›, ?_⟩
      rw [framedB, h2]
      simp only [trapsFrom]
      rw [show trapOk (i : Int) (f.traps[i]) = false from h']
      simp
    · (repeat (first | (refine iDr ?_; intro _ _) | refine V_run ?_ | refine PV_run ?_ | refine HV_run ?_ | refine iV_ld1 ?_ | refine iV_ldN ?_ | (refine iV_bx ?_; intro _ _ _ _) | (refine iV_al ?_; intro _ _ _ _) | (refine iV_mm ?_; intro _ _ _ _) | (refine iU_st ?_; intro _ _) | refine iHV_1 ?_ | refine iHV_N ?_ | refine iRI_1 ?_ | refine iRI_N ?_ | refine Cond_t ?_ | refine Cond_f ?_ | refine JB ?_ | (refine JC ?_; intro _ _ _ _) | (refine J1 ?_; intro _ _) | (refine J0 ?_; intro _ _) | (refine J2 ?_; intro _ _) | (refine J3 ?_; intro _ _) | (refine J4 ?_; intro _ _) | refine K1 ?_ | refine K0 ?_ | refine K2 ?_ | refine K3 ?_ | refine K4 ?_ | (refine CV_pu ?_; intro _ _ _ _) | refine fV_ldN ?_ | refine fV_ld1 ?_ | refine fHV_ldN ?_ | refine fHV_ld1 ?_ | refine NilW_some ?_ | refine iCW_1 ?_ | refine iCW_N ?_ | refine Pk_b ?_))
      refine back (i + 1) _ _ ⟨by simp, by omega, ?_, _, hz2.trans ‹_›, Res.tl ‹_›⟩ (by omega)
      rw [h2]
      simp only [trapsFrom]
      rw [show trapOk (i : Int) (f.traps[i]) = true from h']
      simp
  · (repeat (first | (refine iDr ?_; intro _ _) | refine V_run ?_ | refine PV_run ?_ | refine HV_run ?_ | refine iV_ld1 ?_ | refine iV_ldN ?_ | (refine iV_bx ?_; intro _ _ _ _) | (refine iV_al ?_; intro _ _ _ _) | (refine iV_mm ?_; intro _ _ _ _) | (refine iU_st ?_; intro _ _) | refine iHV_1 ?_ | refine iHV_N ?_ | refine iRI_1 ?_ | refine iRI_N ?_ | refine Cond_t ?_ | refine Cond_f ?_ | refine JB ?_ | (refine JC ?_; intro _ _ _ _) | (refine J1 ?_; intro _ _) | (refine J0 ?_; intro _ _) | (refine J2 ?_; intro _ _) | (refine J3 ?_; intro _ _) | (refine J4 ?_; intro _ _) | refine K1 ?_ | refine K0 ?_ | refine K2 ?_ | refine K3 ?_ | refine K4 ?_ | (refine CV_pu ?_; intro _ _ _ _) | refine fV_ldN ?_ | refine fV_ld1 ?_ | refine fHV_ldN ?_ | refine fHV_ld1 ?_ | refine NilW_some ?_ | refine iCW_1 ?_ | refine iCW_N ?_ | refine Pk_b ?_))
    have hdone : f.traps.drop i = [] := List.drop_of_length_le (by omega)
    rw [hdone] at h2
    have h6' : f.traps.length = 6 := by omega
    rename_i b3 w3 hb3 hS3
    refine LoopG1 (fun (i : Nat) x w' => x = .int .i64 i ∧ i ≤ f.pend.length ∧ pendFrom [] f.pend = pendFrom (f.pend.take i) (f.pend.drop i) ∧ ∃ z', Le z z' ∧ Res w z [] w' z' [(b3, hadO (f.pend.take i)), (b0, .cells [.slice a1 f.traps.length cap1, .slice a2 f.pend.length cap2, .int .i64 f.info.cond, .int .i64 f.info.mode, .string f.info.desc].toArray 63 (0, 0))]) (fun i => f.pend.length - i) 0 ⟨rfl, by omega, rfl, z2, hz2, hS3⟩ ?_
    rintro I M i x w4 m ⟨rfl, h1', h2', z4, hz4, hS4⟩ back
    (repeat (first | (refine iDr ?_; intro _ _) | refine V_run ?_ | refine PV_run ?_ | refine HV_run ?_ | refine iV_ld1 ?_ | refine iV_ldN ?_ | (refine iV_bx ?_; intro _ _ _ _) | (refine iV_al ?_; intro _ _ _ _) | (refine iV_mm ?_; intro _ _ _ _) | (refine iU_st ?_; intro _ _) | refine iHV_1 ?_ | refine iHV_N ?_ | refine iRI_1 ?_ | refine iRI_N ?_ | refine Cond_t ?_ | refine Cond_f ?_ | refine JB ?_ | (refine JC ?_; intro _ _ _ _) | (refine J1 ?_; intro _ _) | (refine J0 ?_; intro _ _) | (refine J2 ?_; intro _ _) | (refine J3 ?_; intro _ _) | (refine J4 ?_; intro _ _) | refine K1 ?_ | refine K0 ?_ | refine K2 ?_ | refine K3 ?_ | refine K4 ?_ | (refine CV_pu ?_; intro _ _ _ _) | refine fV_ldN ?_ | refine fV_ld1 ?_ | refine fHV_ldN ?_ | refine fHV_ld1 ?_ | refine NilW_some ?_ | refine iCW_1 ?_ | refine iCW_N ?_ | refine Pk_b ?_))
    refine Cond_d (fun h => ?_) (fun h => ?_)
    · have hlt : i < f.pend.length := by omega
      obtain ⟨b, off, cs, rfl, hr, hat⟩ := hel2 i _ (List.getElem?_eq_getElem hlt)
      haveI : InR (i : Int) f.pend.length := ⟨by omega, by omega⟩
      haveI : InI ((i : Int) + 1) := ⟨by simp only [big] at hb2; omega⟩
      (repeat (first | (refine iDr ?_; intro _ _) | refine V_run ?_ | refine PV_run ?_ | refine HV_run ?_ | refine iV_ld1 ?_ | refine iV_ldN ?_ | (refine iV_bx ?_; intro _ _ _ _) | (refine iV_al ?_; intro _ _ _ _) | (refine iV_mm ?_; intro _ _ _ _) | (refine iU_st ?_; intro _ _) | refine iHV_1 ?_ | refine iHV_N ?_ | refine iRI_1 ?_ | refine iRI_N ?_ | refine Cond_t ?_ | refine Cond_f ?_ | refine JB ?_ | (refine JC ?_; intro _ _ _ _) | (refine J1 ?_; intro _ _) | (refine J0 ?_; intro _ _) | (refine J2 ?_; intro _ _) | (refine J3 ?_; intro _ _) | (refine J4 ?_; intro _ _) | refine K1 ?_ | refine K0 ?_ | refine K2 ?_ | refine K3 ?_ | refine K4 ?_ | (refine CV_pu ?_; intro _ _ _ _) | refine fV_ldN ?_ | refine fV_ld1 ?_ | refine fHV_ldN ?_ | refine fHV_ld1 ?_ | refine NilW_some ?_ | refine iCW_1 ?_ | refine iCW_N ?_ | refine Pk_b ?_))
      simp only [Int.toNat_natCast]
      obtain ⟨rfl, hr2⟩ := hr
      refine zV_ldN (hat.mono hz4) rfl ?_
      dsimp only [RaM.cells]
      (repeat (first | (refine iDr ?_; intro _ _) | refine V_run ?_ | refine PV_run ?_ | refine HV_run ?_ | refine iV_ld1 ?_ | refine iV_ldN ?_ | (refine iV_bx ?_; intro _ _ _ _) | (refine iV_al ?_; intro _ _ _ _) | (refine iV_mm ?_; intro _ _ _ _) | (refine iU_st ?_; intro _ _) | refine iHV_1 ?_ | refine iHV_N ?_ | refine iRI_1 ?_ | refine iRI_N ?_ | refine Cond_t ?_ | refine Cond_f ?_ | refine JB ?_ | (refine JC ?_; intro _ _ _ _) | (refine J1 ?_; intro _ _) | (refine J0 ?_; intro _ _) | (refine J2 ?_; intro _ _) | (refine J3 ?_; intro _ _) | (refine J4 ?_; intro _ _) | refine K1 ?_ | refine K0 ?_ | refine K2 ?_ | refine K3 ?_ | refine K4 ?_ | (refine CV_pu ?_; intro _ _ _ _) | refine fV_ldN ?_ | refine fV_ld1 ?_ | refine fHV_ldN ?_ | refine fHV_ld1 ?_ | refine NilW_some ?_ | refine iCW_1 ?_ | refine iCW_N ?_ | refine Pk_b ?_))
      rw [List.drop_eq_getElem_cons hlt] at h2'
      simp only [pendFrom] at h2'
      refine Cond_b (fun h' => ?_) (fun h' => ?_)
      · refine ⟨_, _, ‹_›, ?_⟩
        have : raOk (f.pend.take i) f.pend[i] = false := by
          simp only [raOk]
          revert h'
          cases cond f.pend[i].cond <;> cases immediate f.pend[i].cond <;> cases ((f.pend.take i).any fun x => x.cond == f.pend[i].cond) <;> cases descB f.pend[i].desc <;> simp
        simp [framedB, h2', this]
      · have : raOk (f.pend.take i) f.pend[i] = true ∧ ((f.pend.take i).any fun x => x.cond == f.pend[i].cond) = false := by
          simp only [raOk]
          revert h'
          cases cond f.pend[i].cond <;> cases immediate f.pend[i].cond <;> cases ((f.pend.take i).any fun x => x.cond == f.pend[i].cond) <;> cases descB f.pend[i].desc <;> simp
        (repeat (first | (refine iDr ?_; intro _ _) | refine V_run ?_ | refine PV_run ?_ | refine HV_run ?_ | refine iV_ld1 ?_ | refine iV_ldN ?_ | (refine iV_bx ?_; intro _ _ _ _) | (refine iV_al ?_; intro _ _ _ _) | (refine iV_mm ?_; intro _ _ _ _) | (refine iU_st ?_; intro _ _) | refine iHV_1 ?_ | refine iHV_N ?_ | refine iRI_1 ?_ | refine iRI_N ?_ | refine Cond_t ?_ | refine Cond_f ?_ | refine JB ?_ | (refine JC ?_; intro _ _ _ _) | (refine J1 ?_; intro _ _) | (refine J0 ?_; intro _ _) | (refine J2 ?_; intro _ _) | (refine J3 ?_; intro _ _) | (refine J4 ?_; intro _ _) | refine K1 ?_ | refine K0 ?_ | refine K2 ?_ | refine K3 ?_ | refine K4 ?_ | (refine CV_pu ?_; intro _ _ _ _) | refine fV_ldN ?_ | refine fV_ld1 ?_ | refine fHV_ldN ?_ | refine fHV_ld1 ?_ | refine NilW_some ?_ | refine iCW_1 ?_ | refine iCW_N ?_ | refine Pk_b ?_))
        refine iU_mu (fun p hp => ?_) ?_
        · obtain ⟨r, hr1, rfl⟩ := List.mem_map.1 hp
          have := List.any_eq_false.1 this.2 r hr1
          simpa using this
        intro w9 hS9
        (repeat (first | (refine iDr ?_; intro _ _) | refine V_run ?_ | refine PV_run ?_ | refine HV_run ?_ | refine iV_ld1 ?_ | refine iV_ldN ?_ | (refine iV_bx ?_; intro _ _ _ _) | (refine iV_al ?_; intro _ _ _ _) | (refine iV_mm ?_; intro _ _ _ _) | (refine iU_st ?_; intro _ _) | refine iHV_1 ?_ | refine iHV_N ?_ | refine iRI_1 ?_ | refine iRI_N ?_ | refine Cond_t ?_ | refine Cond_f ?_ | refine JB ?_ | (refine JC ?_; intro _ _ _ _) | (refine J1 ?_; intro _ _) | (refine J0 ?_; intro _ _) | (refine J2 ?_; intro _ _) | (refine J3 ?_; intro _ _) | (refine J4 ?_; intro _ _) | refine K1 ?_ | refine K0 ?_ | refine K2 ?_ | refine K3 ?_ | refine K4 ?_ | (refine CV_pu ?_; intro _ _ _ _) | refine fV_ldN ?_ | refine fV_ld1 ?_ | refine fHV_ldN ?_ | refine fHV_ld1 ?_ | refine NilW_some ?_ | refine iCW_1 ?_ | refine iCW_N ?_ | refine Pk_b ?_))
        refine back (i + 1) _ _ ⟨by simp, by omega, ?_, _, hS9.zle, ?_⟩ (by omega)
        rotate_left
        · have e : f.pend.take (i + 1) = f.pend.take i ++ [f.pend[i]] := (List.take_append_getElem hlt).symm
          rw [e, hadO, List.map_append]
          exact Res.tl hS9
        · rw [h2', this.1, List.take_append_getElem hlt]; rfl
    · have hpd : f.pend.drop i = [] := List.drop_of_length_le (by omega)
      rw [hpd] at h2'
      (repeat (first | (refine iDr ?_; intro _ _) | refine V_run ?_ | refine PV_run ?_ | refine HV_run ?_ | refine iV_ld1 ?_ | refine iV_ldN ?_ | (refine iV_bx ?_; intro _ _ _ _) | (refine iV_al ?_; intro _ _ _ _) | (refine iV_mm ?_; intro _ _ _ _) | (refine iU_st ?_; intro _ _) | refine iHV_1 ?_ | refine iHV_N ?_ | refine iRI_1 ?_ | refine iRI_N ?_ | refine Cond_t ?_ | refine Cond_f ?_ | refine JB ?_ | (refine JC ?_; intro _ _ _ _) | (refine J1 ?_; intro _ _) | (refine J0 ?_; intro _ _) | (refine J2 ?_; intro _ _) | (refine J3 ?_; intro _ _) | (refine J4 ?_; intro _ _) | refine K1 ?_ | refine K0 ?_ | refine K2 ?_ | refine K3 ?_ | refine K4 ?_ | (refine CV_pu ?_; intro _ _ _ _) | refine fV_ldN ?_ | refine fV_ld1 ?_ | refine fHV_ldN ?_ | refine fHV_ld1 ?_ | refine NilW_some ?_ | refine iCW_1 ?_ | refine iCW_N ?_ | refine Pk_b ?_))
      refine Cond_d (fun h' => ?_) (fun h' => ?_)
      · (repeat (first | (refine iDr ?_; intro _ _) | refine V_run ?_ | refine PV_run ?_ | refine HV_run ?_ | refine iV_ld1 ?_ | refine iV_ldN ?_ | (refine iV_bx ?_; intro _ _ _ _) | (refine iV_al ?_; intro _ _ _ _) | (refine iV_mm ?_; intro _ _ _ _) | (refine iU_st ?_; intro _ _) | refine iHV_1 ?_ | refine iHV_N ?_ | refine iRI_1 ?_ | refine iRI_N ?_ | refine Cond_t ?_ | refine Cond_f ?_ | refine JB ?_ | (refine JC ?_; intro _ _ _ _) | (refine J1 ?_; intro _ _) | (refine J0 ?_; intro _ _) | (refine J2 ?_; intro _ _) | (refine J3 ?_; intro _ _) | (refine J4 ?_; intro _ _) | refine K1 ?_ | refine K0 ?_ | refine K2 ?_ | refine K3 ?_ | refine K4 ?_ | (refine CV_pu ?_; intro _ _ _ _) | refine fV_ldN ?_ | refine fV_ld1 ?_ | refine fHV_ldN ?_ | refine fHV_ld1 ?_ | refine NilW_some ?_ | refine iCW_1 ?_ | refine iCW_N ?_ | refine Pk_b ?_))
        exact ⟨_, _, ‹_›, by simp only [framedB, h6', h2, h2', trapsFrom, pendFrom, infoB, if_pos h', decide_true, Bool.true_and]; rfl⟩
      · (repeat (first | (refine iDr ?_; intro _ _) | refine V_run ?_ | refine PV_run ?_ | refine HV_run ?_ | refine iV_ld1 ?_ | refine iV_ldN ?_ | (refine iV_bx ?_; intro _ _ _ _) | (refine iV_al ?_; intro _ _ _ _) | (refine iV_mm ?_; intro _ _ _ _) | (refine iU_st ?_; intro _ _) | refine iHV_1 ?_ | refine iHV_N ?_ | refine iRI_1 ?_ | refine iRI_N ?_ | refine Cond_t ?_ | refine Cond_f ?_ | refine JB ?_ | (refine JC ?_; intro _ _ _ _) | (refine J1 ?_; intro _ _) | (refine J0 ?_; intro _ _) | (refine J2 ?_; intro _ _) | (refine J3 ?_; intro _ _) | (refine J4 ?_; intro _ _) | refine K1 ?_ | refine K0 ?_ | refine K2 ?_ | refine K3 ?_ | refine K4 ?_ | (refine CV_pu ?_; intro _ _ _ _) | refine fV_ldN ?_ | refine fV_ld1 ?_ | refine fHV_ldN ?_ | refine fHV_ld1 ?_ | refine NilW_some ?_ | refine iCW_1 ?_ | refine iCW_N ?_ | refine Pk_b ?_))
        exact ⟨_, _, ‹_›, by
          simp only [framedB, h6', h2, h2', trapsFrom, pendFrom, infoB, if_neg h']
          cases decide (f.info.mode = 1) <;> cases decide (f.info.mode = 2) <;> cases cond f.info.cond <;> simp⟩)
theorem idxFrame {p : FrM → Bool} {fv v : Value} {z : Z} {w : World} {xs : StM} (hx : SlR El.frame z v xs)
    (hf : ∀ z' w' v x, x ∈ xs → Le z z' → FrR z' v x → Va1 fv #[v] z' w' fun _ r => r = .bool (p x)) : Fn1 89 #[v, fv] z w fun _ r => r = .int .i64 (fidx p xs) := Fn1.intro fun hS => en89 (by
  unfold vc89
  obtain ⟨hb, a, cap, rfl, hc, hel⟩ := hx.form
  (repeat (first | (refine iDr ?_; intro _ _) | refine V_run ?_ | refine PV_run ?_ | refine HV_run ?_ | refine iV_ld1 ?_ | refine iV_ldN ?_ | (refine iV_bx ?_; intro _ _ _ _) | (refine iV_al ?_; intro _ _ _ _) | (refine iV_mm ?_; intro _ _ _ _) | (refine iU_st ?_; intro _ _) | refine iHV_1 ?_ | refine iHV_N ?_ | refine iRI_1 ?_ | refine iRI_N ?_ | refine Cond_t ?_ | refine Cond_f ?_ | refine JB ?_ | (refine JC ?_; intro _ _ _ _) | (refine J1 ?_; intro _ _) | (refine J0 ?_; intro _ _) | (refine J2 ?_; intro _ _) | (refine J3 ?_; intro _ _) | (refine J4 ?_; intro _ _) | refine K1 ?_ | refine K0 ?_ | refine K2 ?_ | refine K3 ?_ | refine K4 ?_ | (refine CV_pu ?_; intro _ _ _ _) | refine fV_ldN ?_ | refine fV_ld1 ?_ | refine fHV_ldN ?_ | refine fHV_ld1 ?_ | refine NilW_some ?_ | refine iCW_1 ?_ | refine iCW_N ?_ | refine Pk_b ?_))
  refine LoopG1 (fun (i : Nat) x w' => x = .int .i64 i ∧ i ≤ xs.length ∧ (∀ j y, j < i → xs[j]? = some y → p y = false) ∧ ∃ z', Le z z' ∧ Res w z [] w' z' []) (fun i => xs.length - i) 0 ⟨rfl, by omega, fun j y h => absurd h (by omega), z, Le.refl _, hS⟩ ?_
  rintro I M i x w2 m ⟨rfl, h1, h2, z2, hz2, hS2⟩ back
  (repeat (first | (refine iDr ?_; intro _ _) | refine V_run ?_ | refine PV_run ?_ | refine HV_run ?_ | refine iV_ld1 ?_ | refine iV_ldN ?_ | (refine iV_bx ?_; intro _ _ _ _) | (refine iV_al ?_; intro _ _ _ _) | (refine iV_mm ?_; intro _ _ _ _) | (refine iU_st ?_; intro _ _) | refine iHV_1 ?_ | refine iHV_N ?_ | refine iRI_1 ?_ | refine iRI_N ?_ | refine Cond_t ?_ | refine Cond_f ?_ | refine JB ?_ | (refine JC ?_; intro _ _ _ _) | (refine J1 ?_; intro _ _) | (refine J0 ?_; intro _ _) | (refine J2 ?_; intro _ _) | (refine J3 ?_; intro _ _) | (refine J4 ?_; intro _ _) | refine K1 ?_ | refine K0 ?_ | refine K2 ?_ | refine K3 ?_ | refine K4 ?_ | (refine CV_pu ?_; intro _ _ _ _) | refine fV_ldN ?_ | refine fV_ld1 ?_ | refine fHV_ldN ?_ | refine fHV_ld1 ?_ | refine NilW_some ?_ | refine iCW_1 ?_ | refine iCW_N ?_ | refine Pk_b ?_))
  refine Cond_d (fun h => ?_) (fun h => ?_)
  · have hlt : i < xs.length := by omega
    obtain ⟨b, off, cs, rfl, hr, hat⟩ := hel i _ (List.getElem?_eq_getElem hlt)
    haveI : InR (i : Int) xs.length := ⟨by omega, by omega⟩
    haveI : InI ((i : Int) + 1) := ⟨by simp only [big] at hb; omega⟩
    (repeat (first | (refine iDr ?_; intro _ _) | refine V_run ?_ | refine PV_run ?_ | refine HV_run ?_ | refine iV_ld1 ?_ | refine iV_ldN ?_ | (refine iV_bx ?_; intro _ _ _ _) | (refine iV_al ?_; intro _ _ _ _) | (refine iV_mm ?_; intro _ _ _ _) | (refine iU_st ?_; intro _ _) | refine iHV_1 ?_ | refine iHV_N ?_ | refine iRI_1 ?_ | refine iRI_N ?_ | refine Cond_t ?_ | refine Cond_f ?_ | refine JB ?_ | (refine JC ?_; intro _ _ _ _) | (refine J1 ?_; intro _ _) | (refine J0 ?_; intro _ _) | (refine J2 ?_; intro _ _) | (refine J3 ?_; intro _ _) | (refine J4 ?_; intro _ _) | refine K1 ?_ | refine K0 ?_ | refine K2 ?_ | refine K3 ?_ | refine K4 ?_ | (refine CV_pu ?_; intro _ _ _ _) | refine fV_ldN ?_ | refine fV_ld1 ?_ | refine fHV_ldN ?_ | refine fHV_ld1 ?_ | refine NilW_some ?_ | refine iCW_1 ?_ | refine iCW_N ?_ | refine Pk_b ?_))
    simp only [Int.toNat_natCast]
    refine zV_ldN (hat.mono hz2) (El.frame.len hr) ?_
    refine CV_va1 hS2 (hf _ _ _ _ (List.getElem_mem hlt) hz2 ⟨cs, rfl, El.frame.mono hr hz2⟩) ?_
    rintro z4 w4 v4 hle hS4 rfl
    refine Cond_b (fun h' => ?_) (fun h' => ?_)
    · exact ⟨_, _, hS4, by rw [fidx_some h2 (List.getElem?_eq_getElem hlt) h']⟩
    · (repeat (first | (refine iDr ?_; intro _ _) | refine V_run ?_ | refine PV_run ?_ | refine HV_run ?_ | refine iV_ld1 ?_ | refine iV_ldN ?_ | (refine iV_bx ?_; intro _ _ _ _) | (refine iV_al ?_; intro _ _ _ _) | (refine iV_mm ?_; intro _ _ _ _) | (refine iU_st ?_; intro _ _) | refine iHV_1 ?_ | refine iHV_N ?_ | refine iRI_1 ?_ | refine iRI_N ?_ | refine Cond_t ?_ | refine Cond_f ?_ | refine JB ?_ | (refine JC ?_; intro _ _ _ _) | (refine J1 ?_; intro _ _) | (refine J0 ?_; intro _ _) | (refine J2 ?_; intro _ _) | (refine J3 ?_; intro _ _) | (refine J4 ?_; intro _ _) | refine K1 ?_ | refine K0 ?_ | refine K2 ?_ | refine K3 ?_ | refine K4 ?_ | (refine CV_pu ?_; intro _ _ _ _) | refine fV_ldN ?_ | refine fV_ld1 ?_ | refine fHV_ldN ?_ | refine fHV_ld1 ?_ | refine NilW_some ?_ | refine iCW_1 ?_ | refine iCW_N ?_ | refine Pk_b ?_))
      refine back (i + 1) _ _ ⟨by simp, by omega, fun j y' hj hjy => ?_, z4, hz2.trans hle, hS4⟩ (by omega)
      by_cases hji : j = i
      · subst hji; rw [List.getElem?_eq_getElem hlt] at hjy; cases hjy; exact h'
      · exact h2 j y' (by omega) hjy
  · (repeat (first | (refine iDr ?_; intro _ _) | refine V_run ?_ | refine PV_run ?_ | refine HV_run ?_ | refine iV_ld1 ?_ | refine iV_ldN ?_ | (refine iV_bx ?_; intro _ _ _ _) | (refine iV_al ?_; intro _ _ _ _) | (refine iV_mm ?_; intro _ _ _ _) | (refine iU_st ?_; intro _ _) | refine iHV_1 ?_ | refine iHV_N ?_ | refine iRI_1 ?_ | refine iRI_N ?_ | refine Cond_t ?_ | refine Cond_f ?_ | refine JB ?_ | (refine JC ?_; intro _ _ _ _) | (refine J1 ?_; intro _ _) | (refine J0 ?_; intro _ _) | (refine J2 ?_; intro _ _) | (refine J3 ?_; intro _ _) | (refine J4 ?_; intro _ _) | refine K1 ?_ | refine K0 ?_ | refine K2 ?_ | refine K3 ?_ | refine K4 ?_ | (refine CV_pu ?_; intro _ _ _ _) | refine fV_ldN ?_ | refine fV_ld1 ?_ | refine fHV_ldN ?_ | refine fHV_ld1 ?_ | refine NilW_some ?_ | refine iCW_1 ?_ | refine iCW_N ?_ | refine Pk_b ?_))
    exact ⟨_, _, hS2, by rw [fidx_none fun j y hy => h2 j y (by have := (List.getElem?_eq_some_iff.1 hy).1; omega) hy]⟩)
end Go.Proofs.Ytjnckainogpenaa
