/- Texts joined: T14, T15, T16, T17, T18, T19, T20, T21, T22, T23. -/
import Derived.Test.YtjnckainogpenaaM3
section
/- Machines at work: raising. -/
set_option linter.unusedVariables false
set_option maxRecDepth 20000
set_option synthInstance.maxHeartbeats 400000
set_option synthInstance.maxSize 4000
namespace Go.Proofs.Ytjnckainogpenaa
open Go Q Go.RowKit

def hasP (f : FrM) (c : Int) : Bool := f.pend.any fun x => decide (x.cond = c)
theorem CV_pend {w0 w : World} {z0 z : Z} {B0 L : Bl} {C : Obj → Bl} {K : Value → World → Prop} [hS : Res w0 z0 B0 w z L] {f : FrM} {B2 : Bl} {v2 : Value} {b5 : Nat} {n : Int} [gb : Blk L b5 (.cells [.int .i64 n].toArray 3 (0, 0)) C] (hpo : PendOwn B2 v2 f) (hin : ∀ p ∈ B2, p ∈ L) (hl : f.pend.length ≤ 1000000)
    (hk : ∀ z' w', Le z z' → Res w0 z0 B0 w' z' L → K (.bool (hasP f n)) w') : CV (.func (.func 102) #[] #[]) #[v2, .func (.func 103) #[] #[.pointer (some ⟨b5, 0, none⟩)]] w K :=
  CV_enter (args' := #[v2, .func (.func 103) #[] #[.pointer (some ⟨b5, 0, none⟩)]]) (by simp) (en102 (by
  unfold vc102
  refine CV_enter (args' := #[v2, .func (.func 103) #[] #[.pointer (some ⟨b5, 0, none⟩)]]) (by simp) (en114 ?_)
  unfold vc114
  have hform := hpo.form
  obtain ⟨a2, cap2, rfl, hc2⟩ := hform
  (repeat (first | (refine iDr ?_; intro _ _) | refine V_run ?_ | refine PV_run ?_ | refine HV_run ?_ | refine iV_ld1 ?_ | refine iV_ldN ?_ | (refine iV_bx ?_; intro _ _ _ _) | (refine iV_al ?_; intro _ _ _ _) | (refine iV_mm ?_; intro _ _ _ _) | (refine iU_st ?_; intro _ _) | refine iHV_1 ?_ | refine iHV_N ?_ | refine iRI_1 ?_ | refine iRI_N ?_ | refine Cond_t ?_ | refine Cond_f ?_ | refine JB ?_ | (refine JC ?_; intro _ _ _ _) | (refine J1 ?_; intro _ _) | (refine J0 ?_; intro _ _) | (refine J2 ?_; intro _ _) | (refine J3 ?_; intro _ _) | (refine J4 ?_; intro _ _) | refine K1 ?_ | refine K0 ?_ | refine K2 ?_ | refine K3 ?_ | refine K4 ?_ | (refine CV_pu ?_; intro _ _ _ _) | refine fV_ldN ?_ | refine fV_ld1 ?_ | refine fHV_ldN ?_ | refine fHV_ld1 ?_ | refine NilW_some ?_ | refine iCW_1 ?_ | refine iCW_N ?_ | refine Pk_b ?_))
  refine LoopG1 (fun (i : Nat) x w' => x = .int .i64 i ∧ i ≤ f.pend.length ∧ (∀ j y, j < i → f.pend[j]? = some y → decide (y.cond = n) = false) ∧ ∃ z', Le z z' ∧ Res w0 z0 B0 w' z' L) (fun i => f.pend.length - i) 0 ⟨rfl, by omega, fun j y h => absurd h (by omega), z, Le.refl _, hS⟩ ?_
  rintro I M i x w2 m ⟨rfl, h1, h2, z2, hz2, hS2⟩ back
  (repeat (first | (refine iDr ?_; intro _ _) | refine V_run ?_ | refine PV_run ?_ | refine HV_run ?_ | refine iV_ld1 ?_ | refine iV_ldN ?_ | (refine iV_bx ?_; intro _ _ _ _) | (refine iV_al ?_; intro _ _ _ _) | (refine iV_mm ?_; intro _ _ _ _) | (refine iU_st ?_; intro _ _) | refine iHV_1 ?_ | refine iHV_N ?_ | refine iRI_1 ?_ | refine iRI_N ?_ | refine Cond_t ?_ | refine Cond_f ?_ | refine JB ?_ | (refine JC ?_; intro _ _ _ _) | (refine J1 ?_; intro _ _) | (refine J0 ?_; intro _ _) | (refine J2 ?_; intro _ _) | (refine J3 ?_; intro _ _) | (refine J4 ?_; intro _ _) | refine K1 ?_ | refine K0 ?_ | refine K2 ?_ | refine K3 ?_ | refine K4 ?_ | (refine CV_pu ?_; intro _ _ _ _) | refine fV_ldN ?_ | refine fV_ld1 ?_ | refine fHV_ldN ?_ | refine fHV_ld1 ?_ | refine NilW_some ?_ | refine iCW_1 ?_ | refine iCW_N ?_ | refine Pk_b ?_))
  refine Cond_d (fun h => ?_) (fun h => ?_)
  · have hlt : i < f.pend.length := by omega
    haveI : InR (i : Int) f.pend.length := ⟨by omega, by omega⟩
    haveI : InI ((i : Int) + 1) := ⟨by omega⟩
    rcases hpo.2 with ⟨_, _, h0⟩ | ⟨b, cap, sp, rfl, hv, k1, k2, k3⟩
    · omega
    cases hv
    have hat : At (hp w2) b (i * 2) f.pend[i].cells := ⟨_, _, _, (hS2.mem _ (hin _ List.mem_cons_self)).1, fun j v hv => by
      have := flat_get (f := RaM.cells) (n := 2) (fun _ => rfl) (List.getElem?_eq_getElem hlt) j v hv
      simp only [List.getElem?_toArray]
      rw [List.getElem?_append_left (List.getElem?_eq_some_iff.1 this).1]
      exact this⟩
    refine V_run ?_
    rw [Int.toNat_natCast]
    refine V_ldN hat rfl ?_
    refine CV_enter (args' := #[.agg f.pend[i].cells.toArray, .pointer (some ⟨b5, 0, none⟩)]) (by simp) (en103 ?_)
    unfold vc103
    dsimp only [RaM.cells]
    (repeat (first | (refine iDr ?_; intro _ _) | refine V_run ?_ | refine PV_run ?_ | refine HV_run ?_ | refine iV_ld1 ?_ | refine iV_ldN ?_ | (refine iV_bx ?_; intro _ _ _ _) | (refine iV_al ?_; intro _ _ _ _) | (refine iV_mm ?_; intro _ _ _ _) | (refine iU_st ?_; intro _ _) | refine iHV_1 ?_ | refine iHV_N ?_ | refine iRI_1 ?_ | refine iRI_N ?_ | refine Cond_t ?_ | refine Cond_f ?_ | refine JB ?_ | (refine JC ?_; intro _ _ _ _) | (refine J1 ?_; intro _ _) | (refine J0 ?_; intro _ _) | (refine J2 ?_; intro _ _) | (refine J3 ?_; intro _ _) | (refine J4 ?_; intro _ _) | refine K1 ?_ | refine K0 ?_ | refine K2 ?_ | refine K3 ?_ | refine K4 ?_ | (refine CV_pu ?_; intro _ _ _ _) | refine fV_ldN ?_ | refine fV_ld1 ?_ | refine fHV_ldN ?_ | refine fHV_ld1 ?_ | refine NilW_some ?_ | refine iCW_1 ?_ | refine iCW_N ?_ | refine Pk_b ?_))
    refine Cond_d (fun h' => ?_) (fun h' => ?_)
    · have := fidx_some h2 (List.getElem?_eq_getElem hlt) (by simpa using h')
      have hh : hasP f n = true := by rw [hasP, ← fidx_ge, this]; simp
      have e : decide ((i : Int) ≥ 0) = hasP f n := by rw [hh]; simp
      refine V_run ?_
      rw [e]
      exact hk _ _ hz2 (Res.tl ‹_›)
    · (repeat (first | (refine iDr ?_; intro _ _) | refine V_run ?_ | refine PV_run ?_ | refine HV_run ?_ | refine iV_ld1 ?_ | refine iV_ldN ?_ | (refine iV_bx ?_; intro _ _ _ _) | (refine iV_al ?_; intro _ _ _ _) | (refine iV_mm ?_; intro _ _ _ _) | (refine iU_st ?_; intro _ _) | refine iHV_1 ?_ | refine iHV_N ?_ | refine iRI_1 ?_ | refine iRI_N ?_ | refine Cond_t ?_ | refine Cond_f ?_ | refine JB ?_ | (refine JC ?_; intro _ _ _ _) | (refine J1 ?_; intro _ _) | (refine J0 ?_; intro _ _) | (refine J2 ?_; intro _ _) | (refine J3 ?_; intro _ _) | (refine J4 ?_; intro _ _) | refine K1 ?_ | refine K0 ?_ | refine K2 ?_ | refine K3 ?_ | refine K4 ?_ | (refine CV_pu ?_; intro _ _ _ _) | refine fV_ldN ?_ | refine fV_ld1 ?_ | refine fHV_ldN ?_ | refine fHV_ld1 ?_ | refine NilW_some ?_ | refine iCW_1 ?_ | refine iCW_N ?_ | refine Pk_b ?_))
      refine back (i + 1) _ _ ⟨by simp, by omega, fun j y' hj hjy => ?_, z2, hz2, Res.tl ‹_›⟩ (by omega)
      by_cases hji : j = i
      · subst hji; rw [List.getElem?_eq_getElem hlt] at hjy; cases hjy; simpa using h'
      · exact h2 j y' (by omega) hjy
  · (repeat (first | (refine iDr ?_; intro _ _) | refine V_run ?_ | refine PV_run ?_ | refine HV_run ?_ | refine iV_ld1 ?_ | refine iV_ldN ?_ | (refine iV_bx ?_; intro _ _ _ _) | (refine iV_al ?_; intro _ _ _ _) | (refine iV_mm ?_; intro _ _ _ _) | (refine iU_st ?_; intro _ _) | refine iHV_1 ?_ | refine iHV_N ?_ | refine iRI_1 ?_ | refine iRI_N ?_ | refine Cond_t ?_ | refine Cond_f ?_ | refine JB ?_ | (refine JC ?_; intro _ _ _ _) | (refine J1 ?_; intro _ _) | (refine J0 ?_; intro _ _) | (refine J2 ?_; intro _ _) | (refine J3 ?_; intro _ _) | (refine J4 ?_; intro _ _) | refine K1 ?_ | refine K0 ?_ | refine K2 ?_ | refine K3 ?_ | refine K4 ?_ | (refine CV_pu ?_; intro _ _ _ _) | refine fV_ldN ?_ | refine fV_ld1 ?_ | refine fHV_ldN ?_ | refine fHV_ld1 ?_ | refine NilW_some ?_ | refine iCW_1 ?_ | refine iCW_N ?_ | refine Pk_b ?_))
    have := fidx_none (p := fun x : RaM => decide (x.cond = n)) (xs := f.pend) fun j y hy => h2 j y (by have := (List.getElem?_eq_some_iff.1 hy).1; omega) hy
    have hh : hasP f n = false := by rw [hasP, ← fidx_ge, this]; rfl
    have e : (decide ((-1 : Int) ≥ 0)) = hasP f n := by rw [hh]; rfl
    rw [e]
    exact hk _ _ hz2 hS2))
theorem tget {f : FrM} {c : Int} (h6 : f.traps.length = 6) (h0 : 0 ≤ c) (h1 : c < 6) (ts : List Value) : Get (f.traps.flatMap TrM.cells ++ ts) (c.toNat * 3) (.int .i64 (f.tr c).mode) ∧ Get (f.traps.flatMap TrM.cells ++ ts) (c.toNat * 3 + 1) (.string (f.tr c).label) ∧ Get (f.traps.flatMap TrM.cells ++ ts) (c.toNat * 3 + 2) (.bool (f.tr c).delayed) := by
  have hlt : c.toNat < f.traps.length := by omega
  have key : ∀ j v, (f.tr c).cells[j]? = some v → (f.traps.flatMap TrM.cells ++ ts)[c.toNat * 3 + j]? = some v := fun j v hv => by
    have hx : f.traps[c.toNat]? = some (f.tr c) := by rw [FrM.tr, List.getD_eq_getElem?_getD, List.getElem?_eq_getElem hlt]; rfl
    have := flat_get (f := TrM.cells) (n := 3) (fun _ => rfl) hx j v hv
    rw [List.getElem?_append_left (List.getElem?_eq_some_iff.1 this).1]
    exact this
  exact ⟨⟨key 0 _ rfl⟩, ⟨key 1 _ rfl⟩, ⟨key 2 _ rfl⟩⟩
def raiseC (f : FrM) (c : Int) : Int := if c = 1 ∧ (f.tr 1).mode = 0 then 0 else c
def raiseA (f : FrM) (c : Int) (desc : ByteArray) : AcM :=
  if (f.tr (raiseC f c)).mode = 0 then (if raiseC f c = 5 ∨ raiseC f c = 2 then ⟨3, ⟨#[]⟩, raiseC f c, desc⟩ else noAct)
  else if immediate (raiseC f c) then sigA f (raiseC f c) desc else noAct
def raiseF (f : FrM) (c : Int) (desc : ByteArray) : FrM :=
  if (f.tr (raiseC f c)).mode = 0 then f
  else if immediate (raiseC f c) then sigF f (raiseC f c) desc
  else if (f.tr (raiseC f c)).delayed || hasP f (raiseC f c) then f
  else { f with pend := f.pend ++ [⟨raiseC f c, desc⟩] }
theorem CV_is {w0 w : World} {z0 z : Z} {B0 L : Bl} {C C' C'' : Obj → Bl} {K : Value → World → Prop} [hS : Res w0 z0 B0 w z L] {f : FrM} {bb fb tb o tcap : Nat} {c : Int} {l ts : List Value} [gb : Blk L bb (.cells [.pointer (some ⟨fb, o, none⟩)].toArray 116 (0, 0)) C] [gf : Blk L fb (.cells l.toArray 63 (0, 0)) C'] [gl : Get l o (.slice (some ⟨tb, 0, none⟩) 6 tcap)] [gt : Blk L tb (.cells (f.traps.flatMap TrM.cells ++ ts).toArray 73 (0, 0)) C'']
    (h6 : f.traps.length = 6) (h0 : 0 ≤ c) (h1 : c < 6) (hk : K (.bool (!decide ((f.tr c).mode = 0))) w) : CV (.func (.func 100) #[] #[.pointer (some ⟨bb, 0, none⟩)]) #[.int .i64 c] w K :=
  CV_enter (args' := #[.int .i64 c, .pointer (some ⟨bb, 0, none⟩)]) (by simp) (en100 (by
  unfold vc100
  obtain ⟨g1, _, _⟩ := tget h6 h0 h1 ts
  haveI : InR c (6 : Nat) := ⟨h0, by omega⟩
  (repeat (first | (refine iDr ?_; intro _ _) | refine V_run ?_ | refine PV_run ?_ | refine HV_run ?_ | refine iV_ld1 ?_ | refine iV_ldN ?_ | (refine iV_bx ?_; intro _ _ _ _) | (refine iV_al ?_; intro _ _ _ _) | (refine iV_mm ?_; intro _ _ _ _) | (refine iU_st ?_; intro _ _) | refine iHV_1 ?_ | refine iHV_N ?_ | refine iRI_1 ?_ | refine iRI_N ?_ | refine Cond_t ?_ | refine Cond_f ?_ | refine JB ?_ | (refine JC ?_; intro _ _ _ _) | (refine J1 ?_; intro _ _) | (refine J0 ?_; intro _ _) | (refine J2 ?_; intro _ _) | (refine J3 ?_; intro _ _) | (refine J4 ?_; intro _ _) | refine K1 ?_ | refine K0 ?_ | refine K2 ?_ | refine K3 ?_ | refine K4 ?_ | (refine CV_pu ?_; intro _ _ _ _) | refine fV_ldN ?_ | refine fV_ld1 ?_ | refine fHV_ldN ?_ | refine fHV_ld1 ?_ | refine NilW_some ?_ | refine iCW_1 ?_ | refine iCW_N ?_ | refine Pk_b ?_))
  exact hk))
theorem raiseP {z : Z} {w : World} {B : Bl} {mb : Nat} {pre : StM} {f : FrM} {c m : Int} {desc : ByteArray} (hm : Mach z B mb (pre ++ [f])) (h6 : f.traps.length = 6) (h0 : 0 ≤ c) (h1 : c < 6) (hp : pre.length ≤ 100) (hd : desc.size ≤ big) (hpl : f.pend.length ≤ 1000) :
    Fn 68 #[.pointer (some ⟨mb, 0, none⟩), .int .i64 c, .int .i64 m, .string desc] z B w fun z' B' r => if descB desc then r = .tuple #[(raiseA f c desc).v, .int .i64 0] ∧ Mach z' B' mb (pre ++ [raiseF f c desc]) else r = .tuple #[noAct.v, .int .i64 1] := Fn.intro fun hS => en68 (by
  unfold vc68
  obtain ⟨fb, tb, ps, sp, ts, cap, tcap, B2, v2, hB, hx, hpo⟩ := hm.x h6
  obtain ⟨a2, cap2, rfl, hc2⟩ := hpo.form
  have hS' : Res w z B w z _ := Eq.subst (motive := fun X => Res w z B w z X) hB hS
  clear hS
  simp only [mxB] at hS'
  have hlen := hx.fr.len
  refine iV_bx ?_
  intro b5 w5 hb5 hS5
  refine iV_al ?_
  intro b8 w8 hb8 hS8
  (repeat (first | (refine iDr ?_; intro _ _) | refine V_run ?_ | refine PV_run ?_ | refine HV_run ?_ | refine iV_ld1 ?_ | refine iV_ldN ?_ | (refine iV_bx ?_; intro _ _ _ _) | (refine iV_al ?_; intro _ _ _ _) | (refine iV_mm ?_; intro _ _ _ _) | (refine iU_st ?_; intro _ _) | refine iHV_1 ?_ | refine iHV_N ?_ | refine iRI_1 ?_ | refine iRI_N ?_ | refine Cond_t ?_ | refine Cond_f ?_ | refine JB ?_ | (refine JC ?_; intro _ _ _ _) | (refine J1 ?_; intro _ _) | (refine J0 ?_; intro _ _) | (refine J2 ?_; intro _ _) | (refine J3 ?_; intro _ _) | (refine J4 ?_; intro _ _) | refine K1 ?_ | refine K0 ?_ | refine K2 ?_ | refine K3 ?_ | refine K4 ?_ | (refine CV_pu ?_; intro _ _ _ _) | refine fV_ldN ?_ | refine fV_ld1 ?_ | refine fHV_ldN ?_ | refine fHV_ld1 ?_ | refine NilW_some ?_ | refine iCW_1 ?_ | refine iCW_N ?_ | refine Pk_b ?_))
  refine Cond_n (fun hdb => ?_) (fun hdb => ?_)
  · (repeat (first | (refine iDr ?_; intro _ _) | refine V_run ?_ | refine PV_run ?_ | refine HV_run ?_ | refine iV_ld1 ?_ | refine iV_ldN ?_ | (refine iV_bx ?_; intro _ _ _ _) | (refine iV_al ?_; intro _ _ _ _) | (refine iV_mm ?_; intro _ _ _ _) | (refine iU_st ?_; intro _ _) | refine iHV_1 ?_ | refine iHV_N ?_ | refine iRI_1 ?_ | refine iRI_N ?_ | refine Cond_t ?_ | refine Cond_f ?_ | refine JB ?_ | (refine JC ?_; intro _ _ _ _) | (refine J1 ?_; intro _ _) | (refine J0 ?_; intro _ _) | (refine J2 ?_; intro _ _) | (refine J3 ?_; intro _ _) | (refine J4 ?_; intro _ _) | refine K1 ?_ | refine K0 ?_ | refine K2 ?_ | refine K3 ?_ | refine K4 ?_ | (refine CV_pu ?_; intro _ _ _ _) | refine fV_ldN ?_ | refine fV_ld1 ?_ | refine fHV_ldN ?_ | refine fHV_ld1 ?_ | refine NilW_some ?_ | refine iCW_1 ?_ | refine iCW_N ?_ | refine Pk_b ?_))
    exact ⟨_, _, ‹_›, by rw [hdb]; rfl⟩
  refine CV_now (n := pre.length) (o := ps.length) hlen.symm (by simp only [big]; omega) ?_
  intro w9 hS9
  refine iV_al ?_
  intro b10 w10 hb10 hS10
  refine iU_st ?_
  intro w11 hS11
  clear hS9 hS10 hS8 hS5 hS'
  have hend : ∀ (zz : Z) (ww : World) (o8 o5 o10 : Obj) (c' : Int), Le z zz → Res w z B ww zz ((b10, o10) :: (b8, o8) :: (b5, o5) :: mxB mb fb tb (pre.length + 1) ps sp ts cap tcap f B2 (.slice a2 f.pend.length cap2)) → ∃ B', Res w z B ww zz B' ∧ Mach zz B' mb (pre ++ [f]) := fun zz ww o8 o5 o10 c' hz hR =>
    ⟨_, hR.tl.tl.tl, MachX.mach ⟨FrsR.mono hz hx.fr, hx.cap, hx.tcap, hx.six, hx.sm⟩ hpo⟩
  simp only [mxB] at hend
  have hrc : 0 ≤ raiseC f c ∧ raiseC f c < 6 := by unfold raiseC; split <;> omega
  refine J0cut (fun w' => ∃ z', Res w z B w' z' ((b10, .cells [.pointer (some ⟨fb, ps.length, none⟩)].toArray 116 (0, 0)) :: (b8, .cells [.int .i64 0, .string ⟨#[]⟩, .int .i64 0, .string ⟨#[]⟩].toArray 39 (0, 0)) :: (b5, .cells [.int .i64 (raiseC f c)].toArray 3 (0, 0)) :: (mb, .cells [.slice (some ⟨fb, 0, none⟩) (pre.length + 1) cap].toArray 134 (0, 0)) :: (fb, .cells (ps ++ (.slice (some ⟨tb, 0, none⟩) 6 tcap :: .slice a2 f.pend.length cap2 :: .int .i64 f.info.cond :: .int .i64 f.info.mode :: .string f.info.desc :: sp)).toArray 63 (0, 0)) :: (tb, .cells (f.traps.flatMap TrM.cells ++ ts).toArray 73 (0, 0)) :: B2)) ?_ ?_
  rotate_left
  · intro KJ hJ
    (repeat (first | (refine iDr ?_; intro _ _) | refine V_run ?_ | refine PV_run ?_ | refine HV_run ?_ | refine iV_ld1 ?_ | refine iV_ldN ?_ | (refine iV_bx ?_; intro _ _ _ _) | (refine iV_al ?_; intro _ _ _ _) | (refine iV_mm ?_; intro _ _ _ _) | (refine iU_st ?_; intro _ _) | refine iHV_1 ?_ | refine iHV_N ?_ | refine iRI_1 ?_ | refine iRI_N ?_ | refine Cond_t ?_ | refine Cond_f ?_ | refine JB ?_ | (refine JC ?_; intro _ _ _ _) | (refine J1 ?_; intro _ _) | (refine J0 ?_; intro _ _) | (refine J2 ?_; intro _ _) | (refine J3 ?_; intro _ _) | (refine J4 ?_; intro _ _) | refine K1 ?_ | refine K0 ?_ | refine K2 ?_ | refine K3 ?_ | refine K4 ?_ | (refine CV_pu ?_; intro _ _ _ _) | refine fV_ldN ?_ | refine fV_ld1 ?_ | refine fHV_ldN ?_ | refine fHV_ld1 ?_ | refine NilW_some ?_ | refine iCW_1 ?_ | refine iCW_N ?_ | refine Pk_b ?_))
    refine Cond_d (fun hc1 => ?_) (fun hc1 => ?_)
    · subst hc1
      (repeat (first | (refine iDr ?_; intro _ _) | refine V_run ?_ | refine PV_run ?_ | refine HV_run ?_ | refine iV_ld1 ?_ | refine iV_ldN ?_ | (refine iV_bx ?_; intro _ _ _ _) | (refine iV_al ?_; intro _ _ _ _) | (refine iV_mm ?_; intro _ _ _ _) | (refine iU_st ?_; intro _ _) | refine iHV_1 ?_ | refine iHV_N ?_ | refine iRI_1 ?_ | refine iRI_N ?_ | refine Cond_t ?_ | refine Cond_f ?_ | refine JB ?_ | (refine JC ?_; intro _ _ _ _) | (refine J1 ?_; intro _ _) | (refine J0 ?_; intro _ _) | (refine J2 ?_; intro _ _) | (refine J3 ?_; intro _ _) | (refine J4 ?_; intro _ _) | refine K1 ?_ | refine K0 ?_ | refine K2 ?_ | refine K3 ?_ | refine K4 ?_ | (refine CV_pu ?_; intro _ _ _ _) | refine fV_ldN ?_ | refine fV_ld1 ?_ | refine fHV_ldN ?_ | refine fHV_ld1 ?_ | refine NilW_some ?_ | refine iCW_1 ?_ | refine iCW_N ?_ | refine Pk_b ?_))
      refine CV_is (f := f) (ts := ts) h6 (by omega) (by omega) ?_
      (repeat (first | (refine iDr ?_; intro _ _) | refine V_run ?_ | refine PV_run ?_ | refine HV_run ?_ | refine iV_ld1 ?_ | refine iV_ldN ?_ | (refine iV_bx ?_; intro _ _ _ _) | (refine iV_al ?_; intro _ _ _ _) | (refine iV_mm ?_; intro _ _ _ _) | (refine iU_st ?_; intro _ _) | refine iHV_1 ?_ | refine iHV_N ?_ | refine iRI_1 ?_ | refine iRI_N ?_ | refine Cond_t ?_ | refine Cond_f ?_ | refine JB ?_ | (refine JC ?_; intro _ _ _ _) | (refine J1 ?_; intro _ _) | (refine J0 ?_; intro _ _) | (refine J2 ?_; intro _ _) | (refine J3 ?_; intro _ _) | (refine J4 ?_; intro _ _) | refine K1 ?_ | refine K0 ?_ | refine K2 ?_ | refine K3 ?_ | refine K4 ?_ | (refine CV_pu ?_; intro _ _ _ _) | refine fV_ldN ?_ | refine fV_ld1 ?_ | refine fHV_ldN ?_ | refine fHV_ld1 ?_ | refine NilW_some ?_ | refine iCW_1 ?_ | refine iCW_N ?_ | refine Pk_b ?_))
      refine Cond_n (fun h2 => ?_) (fun h2 => ?_)
      · have h2' : (f.tr 1).mode = 0 := by simpa using h2
        have hr : raiseC f 1 = 0 := by simp [raiseC, h2']
        (repeat (first | (refine iDr ?_; intro _ _) | refine V_run ?_ | refine PV_run ?_ | refine HV_run ?_ | refine iV_ld1 ?_ | refine iV_ldN ?_ | (refine iV_bx ?_; intro _ _ _ _) | (refine iV_al ?_; intro _ _ _ _) | (refine iV_mm ?_; intro _ _ _ _) | (refine iU_st ?_; intro _ _) | refine iHV_1 ?_ | refine iHV_N ?_ | refine iRI_1 ?_ | refine iRI_N ?_ | refine Cond_t ?_ | refine Cond_f ?_ | refine JB ?_ | (refine JC ?_; intro _ _ _ _) | (refine J1 ?_; intro _ _) | (refine J0 ?_; intro _ _) | (refine J2 ?_; intro _ _) | (refine J3 ?_; intro _ _) | (refine J4 ?_; intro _ _) | refine K1 ?_ | refine K0 ?_ | refine K2 ?_ | refine K3 ?_ | refine K4 ?_ | (refine CV_pu ?_; intro _ _ _ _) | refine fV_ldN ?_ | refine fV_ld1 ?_ | refine fHV_ldN ?_ | refine fHV_ld1 ?_ | refine NilW_some ?_ | refine iCW_1 ?_ | refine iCW_N ?_ | refine Pk_b ?_))
        exact ⟨_, by rw [hr]; assumption⟩
      · have h2' : ¬ (f.tr 1).mode = 0 := by simpa using h2
        have hr : raiseC f 1 = 1 := by simp [raiseC, h2']
        (repeat (first | (refine iDr ?_; intro _ _) | refine V_run ?_ | refine PV_run ?_ | refine HV_run ?_ | refine iV_ld1 ?_ | refine iV_ldN ?_ | (refine iV_bx ?_; intro _ _ _ _) | (refine iV_al ?_; intro _ _ _ _) | (refine iV_mm ?_; intro _ _ _ _) | (refine iU_st ?_; intro _ _) | refine iHV_1 ?_ | refine iHV_N ?_ | refine iRI_1 ?_ | refine iRI_N ?_ | refine Cond_t ?_ | refine Cond_f ?_ | refine JB ?_ | (refine JC ?_; intro _ _ _ _) | (refine J1 ?_; intro _ _) | (refine J0 ?_; intro _ _) | (refine J2 ?_; intro _ _) | (refine J3 ?_; intro _ _) | (refine J4 ?_; intro _ _) | refine K1 ?_ | refine K0 ?_ | refine K2 ?_ | refine K3 ?_ | refine K4 ?_ | (refine CV_pu ?_; intro _ _ _ _) | refine fV_ldN ?_ | refine fV_ld1 ?_ | refine fHV_ldN ?_ | refine fHV_ld1 ?_ | refine NilW_some ?_ | refine iCW_1 ?_ | refine iCW_N ?_ | refine Pk_b ?_))
        exact ⟨_, by rw [hr]; assumption⟩
    · have hr : raiseC f c = c := by simp [raiseC, hc1]
      (repeat (first | (refine iDr ?_; intro _ _) | refine V_run ?_ | refine PV_run ?_ | refine HV_run ?_ | refine iV_ld1 ?_ | refine iV_ldN ?_ | (refine iV_bx ?_; intro _ _ _ _) | (refine iV_al ?_; intro _ _ _ _) | (refine iV_mm ?_; intro _ _ _ _) | (refine iU_st ?_; intro _ _) | refine iHV_1 ?_ | refine iHV_N ?_ | refine iRI_1 ?_ | refine iRI_N ?_ | refine Cond_t ?_ | refine Cond_f ?_ | refine JB ?_ | (refine JC ?_; intro _ _ _ _) | (refine J1 ?_; intro _ _) | (refine J0 ?_; intro _ _) | (refine J2 ?_; intro _ _) | (refine J3 ?_; intro _ _) | (refine J4 ?_; intro _ _) | refine K1 ?_ | refine K0 ?_ | refine K2 ?_ | refine K3 ?_ | refine K4 ?_ | (refine CV_pu ?_; intro _ _ _ _) | refine fV_ldN ?_ | refine fV_ld1 ?_ | refine fHV_ldN ?_ | refine fHV_ld1 ?_ | refine NilW_some ?_ | refine iCW_1 ?_ | refine iCW_N ?_ | refine Pk_b ?_))
      exact ⟨_, by rw [hr]; assumption⟩
  rintro w12 ⟨z12, hS12⟩
  clear hS11
  have hz12 := hS12.zle
  obtain ⟨hc0, hc6⟩ := hrc
  unfold raiseA raiseF
  generalize raiseC f c = d at *
  refine J0 (fun KJ hJ => ?_)
  (repeat (first | (refine iDr ?_; intro _ _) | refine V_run ?_ | refine PV_run ?_ | refine HV_run ?_ | refine iV_ld1 ?_ | refine iV_ldN ?_ | (refine iV_bx ?_; intro _ _ _ _) | (refine iV_al ?_; intro _ _ _ _) | (refine iV_mm ?_; intro _ _ _ _) | (refine iU_st ?_; intro _ _) | refine iHV_1 ?_ | refine iHV_N ?_ | refine iRI_1 ?_ | refine iRI_N ?_ | refine Cond_t ?_ | refine Cond_f ?_ | refine JB ?_ | (refine JC ?_; intro _ _ _ _) | (refine J1 ?_; intro _ _) | (refine J0 ?_; intro _ _) | (refine J2 ?_; intro _ _) | (refine J3 ?_; intro _ _) | (refine J4 ?_; intro _ _) | refine K1 ?_ | refine K0 ?_ | refine K2 ?_ | refine K3 ?_ | refine K4 ?_ | (refine CV_pu ?_; intro _ _ _ _) | refine fV_ldN ?_ | refine fV_ld1 ?_ | refine fHV_ldN ?_ | refine fHV_ld1 ?_ | refine NilW_some ?_ | refine iCW_1 ?_ | refine iCW_N ?_ | refine Pk_b ?_))
  refine CV_is (f := f) (ts := ts) h6 hc0 hc6 ?_
  (repeat (first | (refine iDr ?_; intro _ _) | refine V_run ?_ | refine PV_run ?_ | refine HV_run ?_ | refine iV_ld1 ?_ | refine iV_ldN ?_ | (refine iV_bx ?_; intro _ _ _ _) | (refine iV_al ?_; intro _ _ _ _) | (refine iV_mm ?_; intro _ _ _ _) | (refine iU_st ?_; intro _ _) | refine iHV_1 ?_ | refine iHV_N ?_ | refine iRI_1 ?_ | refine iRI_N ?_ | refine Cond_t ?_ | refine Cond_f ?_ | refine JB ?_ | (refine JC ?_; intro _ _ _ _) | (refine J1 ?_; intro _ _) | (refine J0 ?_; intro _ _) | (refine J2 ?_; intro _ _) | (refine J3 ?_; intro _ _) | (refine J4 ?_; intro _ _) | refine K1 ?_ | refine K0 ?_ | refine K2 ?_ | refine K3 ?_ | refine K4 ?_ | (refine CV_pu ?_; intro _ _ _ _) | refine fV_ldN ?_ | refine fV_ld1 ?_ | refine fHV_ldN ?_ | refine fHV_ld1 ?_ | refine NilW_some ?_ | refine iCW_1 ?_ | refine iCW_N ?_ | refine Pk_b ?_))
  refine Cond_b (fun h52 => ?_) (fun h52 => ?_)
  · have h52' : (f.tr d).mode = 0 ∧ (d = 5 ∨ d = 2) := by
      simp only [cond_eq_ite] at h52
      by_cases e0 : (f.tr d).mode = 0 <;> by_cases e : d = 5 <;> simp [e0, e] at h52 ⊢ <;> exact h52
    simp only [h52'.1, h52'.2, if_true] at hJ ⊢
    (repeat (first | (refine iDr ?_; intro _ _) | refine V_run ?_ | refine PV_run ?_ | refine HV_run ?_ | refine iV_ld1 ?_ | refine iV_ldN ?_ | (refine iV_bx ?_; intro _ _ _ _) | (refine iV_al ?_; intro _ _ _ _) | (refine iV_mm ?_; intro _ _ _ _) | (refine iU_st ?_; intro _ _) | refine iHV_1 ?_ | refine iHV_N ?_ | refine iRI_1 ?_ | refine iRI_N ?_ | refine Cond_t ?_ | refine Cond_f ?_ | refine JB ?_ | (refine JC ?_; intro _ _ _ _) | (refine J1 ?_; intro _ _) | (refine J0 ?_; intro _ _) | (refine J2 ?_; intro _ _) | (refine J3 ?_; intro _ _) | (refine J4 ?_; intro _ _) | refine K1 ?_ | refine K0 ?_ | refine K2 ?_ | refine K3 ?_ | refine K4 ?_ | (refine CV_pu ?_; intro _ _ _ _) | refine fV_ldN ?_ | refine fV_ld1 ?_ | refine fHV_ldN ?_ | refine fHV_ld1 ?_ | refine NilW_some ?_ | refine iCW_1 ?_ | refine iCW_N ?_ | refine Pk_b ?_))
    rename_i hSe
    obtain ⟨B', hR, hM⟩ := hend _ _ _ _ _ 0 hSe.zle hSe
    exact ⟨_, B', hR, by rw [if_pos hdb]; exact ⟨rfl, hM⟩⟩
  (repeat (first | (refine iDr ?_; intro _ _) | refine V_run ?_ | refine PV_run ?_ | refine HV_run ?_ | refine iV_ld1 ?_ | refine iV_ldN ?_ | (refine iV_bx ?_; intro _ _ _ _) | (refine iV_al ?_; intro _ _ _ _) | (refine iV_mm ?_; intro _ _ _ _) | (refine iU_st ?_; intro _ _) | refine iHV_1 ?_ | refine iHV_N ?_ | refine iRI_1 ?_ | refine iRI_N ?_ | refine Cond_t ?_ | refine Cond_f ?_ | refine JB ?_ | (refine JC ?_; intro _ _ _ _) | (refine J1 ?_; intro _ _) | (refine J0 ?_; intro _ _) | (refine J2 ?_; intro _ _) | (refine J3 ?_; intro _ _) | (refine J4 ?_; intro _ _) | refine K1 ?_ | refine K0 ?_ | refine K2 ?_ | refine K3 ?_ | refine K4 ?_ | (refine CV_pu ?_; intro _ _ _ _) | refine fV_ldN ?_ | refine fV_ld1 ?_ | refine fHV_ldN ?_ | refine fHV_ld1 ?_ | refine NilW_some ?_ | refine iCW_1 ?_ | refine iCW_N ?_ | refine Pk_b ?_))
  refine CV_is (f := f) (ts := ts) h6 hc0 hc6 ?_
  (repeat (first | (refine iDr ?_; intro _ _) | refine V_run ?_ | refine PV_run ?_ | refine HV_run ?_ | refine iV_ld1 ?_ | refine iV_ldN ?_ | (refine iV_bx ?_; intro _ _ _ _) | (refine iV_al ?_; intro _ _ _ _) | (refine iV_mm ?_; intro _ _ _ _) | (refine iU_st ?_; intro _ _) | refine iHV_1 ?_ | refine iHV_N ?_ | refine iRI_1 ?_ | refine iRI_N ?_ | refine Cond_t ?_ | refine Cond_f ?_ | refine JB ?_ | (refine JC ?_; intro _ _ _ _) | (refine J1 ?_; intro _ _) | (refine J0 ?_; intro _ _) | (refine J2 ?_; intro _ _) | (refine J3 ?_; intro _ _) | (refine J4 ?_; intro _ _) | refine K1 ?_ | refine K0 ?_ | refine K2 ?_ | refine K3 ?_ | refine K4 ?_ | (refine CV_pu ?_; intro _ _ _ _) | refine fV_ldN ?_ | refine fV_ld1 ?_ | refine fHV_ldN ?_ | refine fHV_ld1 ?_ | refine NilW_some ?_ | refine iCW_1 ?_ | refine iCW_N ?_ | refine Pk_b ?_))
  refine Cond_n (fun hmo => ?_) (fun hmo => ?_)
  · have hmo' : (f.tr d).mode = 0 := by simpa using hmo
    have h52' : ¬ (d = 5 ∨ d = 2) := fun hh => by
      rcases hh with rfl | rfl <;> simp [hmo'] at h52
    simp only [hmo', h52', if_true, if_false] at hJ ⊢
    (repeat (first | (refine iDr ?_; intro _ _) | refine V_run ?_ | refine PV_run ?_ | refine HV_run ?_ | refine iV_ld1 ?_ | refine iV_ldN ?_ | (refine iV_bx ?_; intro _ _ _ _) | (refine iV_al ?_; intro _ _ _ _) | (refine iV_mm ?_; intro _ _ _ _) | (refine iU_st ?_; intro _ _) | refine iHV_1 ?_ | refine iHV_N ?_ | refine iRI_1 ?_ | refine iRI_N ?_ | refine Cond_t ?_ | refine Cond_f ?_ | refine JB ?_ | (refine JC ?_; intro _ _ _ _) | (refine J1 ?_; intro _ _) | (refine J0 ?_; intro _ _) | (refine J2 ?_; intro _ _) | (refine J3 ?_; intro _ _) | (refine J4 ?_; intro _ _) | refine K1 ?_ | refine K0 ?_ | refine K2 ?_ | refine K3 ?_ | refine K4 ?_ | (refine CV_pu ?_; intro _ _ _ _) | refine fV_ldN ?_ | refine fV_ld1 ?_ | refine fHV_ldN ?_ | refine fHV_ld1 ?_ | refine NilW_some ?_ | refine iCW_1 ?_ | refine iCW_N ?_ | refine Pk_b ?_))
    rename_i hSe
    obtain ⟨B', hR, hM⟩ := hend _ _ _ _ _ 0 hSe.zle hSe
    exact ⟨_, B', hR, by rw [if_pos hdb]; exact ⟨rfl, hM⟩⟩
  · have hmo' : ¬ (f.tr d).mode = 0 := by simpa using hmo
    simp only [hmo', if_false] at hJ ⊢
    (repeat (first | (refine iDr ?_; intro _ _) | refine V_run ?_ | refine PV_run ?_ | refine HV_run ?_ | refine iV_ld1 ?_ | refine iV_ldN ?_ | (refine iV_bx ?_; intro _ _ _ _) | (refine iV_al ?_; intro _ _ _ _) | (refine iV_mm ?_; intro _ _ _ _) | (refine iU_st ?_; intro _ _) | refine iHV_1 ?_ | refine iHV_N ?_ | refine iRI_1 ?_ | refine iRI_N ?_ | refine Cond_t ?_ | refine Cond_f ?_ | refine JB ?_ | (refine JC ?_; intro _ _ _ _) | (refine J1 ?_; intro _ _) | (refine J0 ?_; intro _ _) | (refine J2 ?_; intro _ _) | (refine J3 ?_; intro _ _) | (refine J4 ?_; intro _ _) | refine K1 ?_ | refine K0 ?_ | refine K2 ?_ | refine K3 ?_ | refine K4 ?_ | (refine CV_pu ?_; intro _ _ _ _) | refine fV_ldN ?_ | refine fV_ld1 ?_ | refine fHV_ldN ?_ | refine fHV_ld1 ?_ | refine NilW_some ?_ | refine iCW_1 ?_ | refine iCW_N ?_ | refine Pk_b ?_))
    refine Cond_b (fun him => ?_) (fun him => ?_)
    · simp only [him, if_true] at hJ ⊢
      (repeat (first | (refine iDr ?_; intro _ _) | refine V_run ?_ | refine PV_run ?_ | refine HV_run ?_ | refine iV_ld1 ?_ | refine iV_ldN ?_ | (refine iV_bx ?_; intro _ _ _ _) | (refine iV_al ?_; intro _ _ _ _) | (refine iV_mm ?_; intro _ _ _ _) | (refine iU_st ?_; intro _ _) | refine iHV_1 ?_ | refine iHV_N ?_ | refine iRI_1 ?_ | refine iRI_N ?_ | refine Cond_t ?_ | refine Cond_f ?_ | refine JB ?_ | (refine JC ?_; intro _ _ _ _) | (refine J1 ?_; intro _ _) | (refine J0 ?_; intro _ _) | (refine J2 ?_; intro _ _) | (refine J3 ?_; intro _ _) | (refine J4 ?_; intro _ _) | refine K1 ?_ | refine K0 ?_ | refine K2 ?_ | refine K3 ?_ | refine K4 ?_ | (refine CV_pu ?_; intro _ _ _ _) | refine fV_ldN ?_ | refine fV_ld1 ?_ | refine fHV_ldN ?_ | refine fHV_ld1 ?_ | refine NilW_some ?_ | refine iCW_1 ?_ | refine iCW_N ?_ | refine Pk_b ?_))
      rename_i hSe
      have hx' : MachX _ mb fb tb pre ps sp ts cap tcap f := ⟨FrsR.mono hSe.zle hx.fr, hx.cap, hx.tcap, hx.six, hx.sm⟩
      refine CV_fn (B := mxB mb fb tb (pre.length + 1) ps sp ts cap tcap f B2 (.slice a2 f.pend.length cap2)) (F := [(b10, _), (b8, .cells [.int .i64 0, .string ⟨#[]⟩, .int .i64 0, .string ⟨#[]⟩].toArray 39 (0, 0)), (b5, _)]) (hSe.perm (List.perm_append_comm (l₁ := [(b10, _), (b8, _), (b5, _)]) (l₂ := mxB mb fb tb (pre.length + 1) ps sp ts cap tcap f B2 (.slice a2 f.pend.length cap2)))) (signalP rfl hx' hc0 hc6 hp hd) (by simp) ?_
      rintro z13 B13 w13 v13 hle13 hS13 ⟨rfl, hM⟩
      dsimp only [AcM.v, AcM.cells] at *
      (repeat (first | (refine iDr ?_; intro _ _) | refine V_run ?_ | refine PV_run ?_ | refine HV_run ?_ | refine iV_ld1 ?_ | refine iV_ldN ?_ | (refine iV_bx ?_; intro _ _ _ _) | (refine iV_al ?_; intro _ _ _ _) | (refine iV_mm ?_; intro _ _ _ _) | (refine iU_st ?_; intro _ _) | refine iHV_1 ?_ | refine iHV_N ?_ | refine iRI_1 ?_ | refine iRI_N ?_ | refine Cond_t ?_ | refine Cond_f ?_ | refine JB ?_ | (refine JC ?_; intro _ _ _ _) | (refine J1 ?_; intro _ _) | (refine J0 ?_; intro _ _) | (refine J2 ?_; intro _ _) | (refine J3 ?_; intro _ _) | (refine J4 ?_; intro _ _) | refine K1 ?_ | refine K0 ?_ | refine K2 ?_ | refine K3 ?_ | refine K4 ?_ | (refine CV_pu ?_; intro _ _ _ _) | refine fV_ldN ?_ | refine fV_ld1 ?_ | refine fHV_ldN ?_ | refine fHV_ld1 ?_ | refine NilW_some ?_ | refine iCW_1 ?_ | refine iCW_N ?_ | refine Pk_b ?_))
      rename_i hSe2
      exact ⟨_, B13, hSe2.sublist (List.sublist_append_left _ _), by rw [if_pos hdb]; exact ⟨rfl, hM⟩⟩
    · have him' : ¬ immediate d = true := by simp [him]
      simp only [him'] at hJ ⊢
      obtain ⟨g1, g2, g3⟩ := tget h6 hc0 hc6 ts
      haveI : InR d (6 : Nat) := ⟨hc0, by omega⟩
      (repeat (first | (refine iDr ?_; intro _ _) | refine V_run ?_ | refine PV_run ?_ | refine HV_run ?_ | refine iV_ld1 ?_ | refine iV_ldN ?_ | (refine iV_bx ?_; intro _ _ _ _) | (refine iV_al ?_; intro _ _ _ _) | (refine iV_mm ?_; intro _ _ _ _) | (refine iU_st ?_; intro _ _) | refine iHV_1 ?_ | refine iHV_N ?_ | refine iRI_1 ?_ | refine iRI_N ?_ | refine Cond_t ?_ | refine Cond_f ?_ | refine JB ?_ | (refine JC ?_; intro _ _ _ _) | (refine J1 ?_; intro _ _) | (refine J0 ?_; intro _ _) | (refine J2 ?_; intro _ _) | (refine J3 ?_; intro _ _) | (refine J4 ?_; intro _ _) | refine K1 ?_ | refine K0 ?_ | refine K2 ?_ | refine K3 ?_ | refine K4 ?_ | (refine CV_pu ?_; intro _ _ _ _) | refine fV_ldN ?_ | refine fV_ld1 ?_ | refine fHV_ldN ?_ | refine fHV_ld1 ?_ | refine NilW_some ?_ | refine iCW_1 ?_ | refine iCW_N ?_ | refine Pk_b ?_))
      refine Cond_b (fun hde => ?_) (fun hde => ?_)
      · simp only [hde, Bool.true_or, if_true] at hJ
        (repeat (first | (refine iDr ?_; intro _ _) | refine V_run ?_ | refine PV_run ?_ | refine HV_run ?_ | refine iV_ld1 ?_ | refine iV_ldN ?_ | (refine iV_bx ?_; intro _ _ _ _) | (refine iV_al ?_; intro _ _ _ _) | (refine iV_mm ?_; intro _ _ _ _) | (refine iU_st ?_; intro _ _) | refine iHV_1 ?_ | refine iHV_N ?_ | refine iRI_1 ?_ | refine iRI_N ?_ | refine Cond_t ?_ | refine Cond_f ?_ | refine JB ?_ | (refine JC ?_; intro _ _ _ _) | (refine J1 ?_; intro _ _) | (refine J0 ?_; intro _ _) | (refine J2 ?_; intro _ _) | (refine J3 ?_; intro _ _) | (refine J4 ?_; intro _ _) | refine K1 ?_ | refine K0 ?_ | refine K2 ?_ | refine K3 ?_ | refine K4 ?_ | (refine CV_pu ?_; intro _ _ _ _) | refine fV_ldN ?_ | refine fV_ld1 ?_ | refine fHV_ldN ?_ | refine fHV_ld1 ?_ | refine NilW_some ?_ | refine iCW_1 ?_ | refine iCW_N ?_ | refine Pk_b ?_))
        rename_i hSe
        obtain ⟨B', hR, hM⟩ := hend _ _ _ _ _ 0 hSe.zle hSe
        exact ⟨_, B', hR, by rw [if_pos hdb]; exact ⟨rfl, by simpa [hde] using hM⟩⟩
      · simp only [hde, Bool.false_or] at hJ
        (repeat (first | (refine iDr ?_; intro _ _) | refine V_run ?_ | refine PV_run ?_ | refine HV_run ?_ | refine iV_ld1 ?_ | refine iV_ldN ?_ | (refine iV_bx ?_; intro _ _ _ _) | (refine iV_al ?_; intro _ _ _ _) | (refine iV_mm ?_; intro _ _ _ _) | (refine iU_st ?_; intro _ _) | refine iHV_1 ?_ | refine iHV_N ?_ | refine iRI_1 ?_ | refine iRI_N ?_ | refine Cond_t ?_ | refine Cond_f ?_ | refine JB ?_ | (refine JC ?_; intro _ _ _ _) | (refine J1 ?_; intro _ _) | (refine J0 ?_; intro _ _) | (refine J2 ?_; intro _ _) | (refine J3 ?_; intro _ _) | (refine J4 ?_; intro _ _) | refine K1 ?_ | refine K0 ?_ | refine K2 ?_ | refine K3 ?_ | refine K4 ?_ | (refine CV_pu ?_; intro _ _ _ _) | refine fV_ldN ?_ | refine fV_ld1 ?_ | refine fHV_ldN ?_ | refine fHV_ld1 ?_ | refine NilW_some ?_ | refine iCW_1 ?_ | refine iCW_N ?_ | refine Pk_b ?_))
        refine CV_pend (f := f) (B2 := B2) hpo (fun p hp => by simp [hp]) hx.sm.2.1 ?_
        rintro z14 w14 hz14 hS14
        (repeat (first | (refine iDr ?_; intro _ _) | refine V_run ?_ | refine PV_run ?_ | refine HV_run ?_ | refine iV_ld1 ?_ | refine iV_ldN ?_ | (refine iV_bx ?_; intro _ _ _ _) | (refine iV_al ?_; intro _ _ _ _) | (refine iV_mm ?_; intro _ _ _ _) | (refine iU_st ?_; intro _ _) | refine iHV_1 ?_ | refine iHV_N ?_ | refine iRI_1 ?_ | refine iRI_N ?_ | refine Cond_t ?_ | refine Cond_f ?_ | refine JB ?_ | (refine JC ?_; intro _ _ _ _) | (refine J1 ?_; intro _ _) | (refine J0 ?_; intro _ _) | (refine J2 ?_; intro _ _) | (refine J3 ?_; intro _ _) | (refine J4 ?_; intro _ _) | refine K1 ?_ | refine K0 ?_ | refine K2 ?_ | refine K3 ?_ | refine K4 ?_ | (refine CV_pu ?_; intro _ _ _ _) | refine fV_ldN ?_ | refine fV_ld1 ?_ | refine fHV_ldN ?_ | refine fHV_ld1 ?_ | refine NilW_some ?_ | refine iCW_1 ?_ | refine iCW_N ?_ | refine Pk_b ?_))
        refine Cond_b (fun hha => ?_) (fun hha => ?_)
        · simp only [hha, if_true] at hJ
          (repeat (first | (refine iDr ?_; intro _ _) | refine V_run ?_ | refine PV_run ?_ | refine HV_run ?_ | refine iV_ld1 ?_ | refine iV_ldN ?_ | (refine iV_bx ?_; intro _ _ _ _) | (refine iV_al ?_; intro _ _ _ _) | (refine iV_mm ?_; intro _ _ _ _) | (refine iU_st ?_; intro _ _) | refine iHV_1 ?_ | refine iHV_N ?_ | refine iRI_1 ?_ | refine iRI_N ?_ | refine Cond_t ?_ | refine Cond_f ?_ | refine JB ?_ | (refine JC ?_; intro _ _ _ _) | (refine J1 ?_; intro _ _) | (refine J0 ?_; intro _ _) | (refine J2 ?_; intro _ _) | (refine J3 ?_; intro _ _) | (refine J4 ?_; intro _ _) | refine K1 ?_ | refine K0 ?_ | refine K2 ?_ | refine K3 ?_ | refine K4 ?_ | (refine CV_pu ?_; intro _ _ _ _) | refine fV_ldN ?_ | refine fV_ld1 ?_ | refine fHV_ldN ?_ | refine fHV_ld1 ?_ | refine NilW_some ?_ | refine iCW_1 ?_ | refine iCW_N ?_ | refine Pk_b ?_))
          rename_i hSe
          obtain ⟨B', hR, hM⟩ := hend _ _ _ _ _ 0 hSe.zle hSe
          exact ⟨_, B', hR, by rw [if_pos hdb]; exact ⟨rfl, by simpa [hde, hha] using hM⟩⟩
        · simp only [hha] at hJ
          (repeat (first | (refine iDr ?_; intro _ _) | refine V_run ?_ | refine PV_run ?_ | refine HV_run ?_ | refine iV_ld1 ?_ | refine iV_ldN ?_ | (refine iV_bx ?_; intro _ _ _ _) | (refine iV_al ?_; intro _ _ _ _) | (refine iV_mm ?_; intro _ _ _ _) | (refine iU_st ?_; intro _ _) | refine iHV_1 ?_ | refine iHV_N ?_ | refine iRI_1 ?_ | refine iRI_N ?_ | refine Cond_t ?_ | refine Cond_f ?_ | refine JB ?_ | (refine JC ?_; intro _ _ _ _) | (refine J1 ?_; intro _ _) | (refine J0 ?_; intro _ _) | (refine J2 ?_; intro _ _) | (refine J3 ?_; intro _ _) | (refine J4 ?_; intro _ _) | refine K1 ?_ | refine K0 ?_ | refine K2 ?_ | refine K3 ?_ | refine K4 ?_ | (refine CV_pu ?_; intro _ _ _ _) | refine fV_ldN ?_ | refine fV_ld1 ?_ | refine fHV_ldN ?_ | refine fHV_ld1 ?_ | refine NilW_some ?_ | refine iCW_1 ?_ | refine iCW_N ?_ | refine Pk_b ?_))
          refine V_bs (parts := [(0, _)]) rfl (by omega) ?_
          intro b15 w15 hb15 hS15
          (repeat (first | (refine iDr ?_; intro _ _) | refine V_run ?_ | refine PV_run ?_ | refine HV_run ?_ | refine iV_ld1 ?_ | refine iV_ldN ?_ | (refine iV_bx ?_; intro _ _ _ _) | (refine iV_al ?_; intro _ _ _ _) | (refine iV_mm ?_; intro _ _ _ _) | (refine iU_st ?_; intro _ _) | refine iHV_1 ?_ | refine iHV_N ?_ | refine iRI_1 ?_ | refine iRI_N ?_ | refine Cond_t ?_ | refine Cond_f ?_ | refine JB ?_ | (refine JC ?_; intro _ _ _ _) | (refine J1 ?_; intro _ _) | (refine J0 ?_; intro _ _) | (refine J2 ?_; intro _ _) | (refine J3 ?_; intro _ _) | (refine J4 ?_; intro _ _) | refine K1 ?_ | refine K0 ?_ | refine K2 ?_ | refine K3 ?_ | refine K4 ?_ | (refine CV_pu ?_; intro _ _ _ _) | refine fV_ldN ?_ | refine fV_ld1 ?_ | refine fHV_ldN ?_ | refine fHV_ld1 ?_ | refine NilW_some ?_ | refine iCW_1 ?_ | refine iCW_N ?_ | refine Pk_b ?_))
          refine V_app (B := B2) (m := 1) (n := f.pend.length) (news := [.int .i64 d, .string desc]) (hS15.perm (List.perm_append_comm (l₁ := [_, _, _, _, _, _, _]) (l₂ := B2))) hpo ⟨_, _, _, (hS15.mem _ List.mem_cons_self).1, fun j v hv => by simpa using hv⟩ rfl (fun u hu => by simp at hu; rcases hu with rfl | rfl <;> rfl) (by omega) (by have := hx.sm.2.1; simp only [room]; omega) (by have := hx.sm.2.1; simp only [room]; omega) ?_
          intro B16 v16 w16 ho16 hS16
          obtain ⟨a16, cap16, rfl, hc16⟩ := ho16.form
          (repeat (first | (refine iDr ?_; intro _ _) | refine V_run ?_ | refine PV_run ?_ | refine HV_run ?_ | refine iV_ld1 ?_ | refine iV_ldN ?_ | (refine iV_bx ?_; intro _ _ _ _) | (refine iV_al ?_; intro _ _ _ _) | (refine iV_mm ?_; intro _ _ _ _) | (refine iU_st ?_; intro _ _) | refine iHV_1 ?_ | refine iHV_N ?_ | refine iRI_1 ?_ | refine iRI_N ?_ | refine Cond_t ?_ | refine Cond_f ?_ | refine JB ?_ | (refine JC ?_; intro _ _ _ _) | (refine J1 ?_; intro _ _) | (refine J0 ?_; intro _ _) | (refine J2 ?_; intro _ _) | (refine J3 ?_; intro _ _) | (refine J4 ?_; intro _ _) | refine K1 ?_ | refine K0 ?_ | refine K2 ?_ | refine K3 ?_ | refine K4 ?_ | (refine CV_pu ?_; intro _ _ _ _) | refine fV_ldN ?_ | refine fV_ld1 ?_ | refine fHV_ldN ?_ | refine fHV_ld1 ?_ | refine NilW_some ?_ | refine iCW_1 ?_ | refine iCW_N ?_ | refine Pk_b ?_))
          rename_i hSe
          obtain ⟨q1, q2, q3, q4, q5⟩ := hx.sm
          refine ⟨z14, mxB mb fb tb (pre.length + 1) ps sp ts cap tcap { f with pend := f.pend ++ [⟨d, desc⟩] } B16 (.slice a16 (f.pend.length + 1) cap16), ?_, ?_⟩
          · exact (hSe.sublist (L' := B16 ++ [_, _, _]) ((List.Sublist.refl _).append ((((List.Sublist.refl _).cons _).cons _).cons _ |>.cons _))).perm (List.perm_append_comm (l₁ := B16) (l₂ := [_, _, _]))
          · rw [if_pos hdb]
            refine ⟨rfl, MachX.mach ⟨FrsR.mono hSe.zle hx.fr, hx.cap, hx.tcap, hx.six, q1, by simp only [List.length_append, List.length_singleton]; omega, q3, fun r hr => ?_, q5⟩ ?_⟩
            · rcases List.mem_append.1 hr with hr | hr
              · exact q4 r hr
              · simp only [List.mem_singleton] at hr; subst hr; exact hd
            · simpa [PendOwn] using ho16)
end Go.Proofs.Ytjnckainogpenaa
end

section
/- Machines at work: activations. -/
set_option linter.unusedVariables false
set_option linter.unusedSimpArgs false
set_option maxRecDepth 20000
set_option synthInstance.maxHeartbeats 400000
set_option synthInstance.maxSize 4000
namespace Go.Proofs.Ytjnckainogpenaa
open Go Q Go.RowKit

theorem RI_at {w : World} {b off n : Nat} {t : Nat} {vs : List Value} {A : Prop} [g : TyAgg t n] [gs : TySize t n] (h : At (hp w) b off vs) (hl : vs.length = n) (ha : A) : RunIs (ld t (.pointer (some ⟨b, off, none⟩))) w (.agg vs.toArray) ∧ A := ⟨run_ldN h hl, ha⟩
theorem At.part {h : Nat → Option Obj} {b off : Nat} {ps vs qs : List Value} (ha : At h b 0 (ps ++ (vs ++ qs))) (ho : off = ps.length) : At h b off vs := by
  obtain ⟨c, ty, fr, h1, h2⟩ := ha
  refine ⟨c, ty, fr, h1, fun j v hv => ?_⟩
  have := h2 (ps.length + j) v (by
    rw [List.getElem?_append_right (by omega), Nat.add_sub_cancel_left, List.getElem?_append_left (List.getElem?_eq_some_iff.1 hv).1]
    exact hv)
  rw [ho]
  simpa using this
/-- The top frame is frozen. -/
theorem topFreeze {w0 w : World} {z0 z : Z} {B0 L B2 : Bl} {mb fb tb cap tcap : Nat} {pre : StM} {ps sp ts : List Value} {f : FrM} {v2 : Value} (hx : MachX z mb fb tb pre ps sp ts cap tcap f) (hpo : PendOwn B2 v2 f) (h : Res w0 z0 B0 w z ((tb, .cells (f.traps.flatMap TrM.cells ++ ts).toArray 73 (0, 0)) :: (B2 ++ L))) :
    ∃ z', Le z z' ∧ Res w0 z0 B0 w z' L ∧ FrsR z' ps pre ∧ SlR El.trap z' (.slice (some ⟨tb, 0, none⟩) 6 tcap) f.traps ∧ SlR El.raised z' v2 f.pend := by
  obtain ⟨q1, q2, q3, q4, q5⟩ := hx.sm
  have hfl : (f.traps.flatMap TrM.cells).length = 18 := by rw [flat_len (f := TrM.cells) (n := 3) (fun _ => rfl), hx.six]
  obtain ⟨z1, hz1, hS1, hv1⟩ := Res.freezeSl (E := El.trap) (B := [(tb, _)]) (v := .slice (some ⟨tb, 0, none⟩) 6 tcap) (xs := f.traps) (f := TrM.cells) (e := 73) h ⟨by rw [hfl, hx.six]; rfl, .inr ⟨tb, tcap, ts, rfl, by rw [hx.six], by rw [hx.six]; exact hx.tcap.1, hx.tcap.2.1, by rw [List.length_append, hfl]; exact hx.tcap.2.2⟩⟩ (by simp only [big]; omega) (fun _ => rfl) (fun z x hx => ⟨rfl, q3 x hx⟩)
  obtain ⟨z2, hz2, hS2, hv2⟩ := Res.freezeSl (E := El.raised) hS1 hpo (by simp only [big]; omega) (fun _ => rfl) (fun z x hx => ⟨rfl, q4 x hx⟩)
  exact ⟨z2, hz1.trans hz2, hS2, FrsR.mono (hz1.trans hz2) hx.fr, hv1.mono hz2, hv2⟩
theorem permX {a b c d : Nat × Obj} {B3 : Bl} : (a :: (B3 ++ [b, c, d])).Perm ([d] ++ (a :: (B3 ++ [b, c]))) := by
  rw [show B3 ++ [b, c, d] = (B3 ++ [b, c]) ++ [d] by simp]
  exact List.perm_append_comm (l₁ := a :: (B3 ++ [b, c])) (l₂ := [d])
theorem Res.endY {w0 w : World} {z0 z : Z} {B0 : Bl} {a b m : Nat × Obj} {B3 B5 : Bl} (h : Res w0 z0 B0 w z (B5 ++ (a :: (B3 ++ [b, m])))) : Res w0 z0 B0 w z (m :: (B5 ++ B3)) := by
  have h1 : Res w0 z0 B0 w z (B5 ++ (B3 ++ [m])) := h.sublist ((List.Sublist.refl _).append (((List.Sublist.refl _).append (List.sublist_cons_self _ _)).cons _))
  refine h1.perm ?_
  rw [← List.append_assoc]
  exact List.perm_append_comm (l₁ := B5 ++ B3) (l₂ := [m])
def pushF (f : FrM) : FrM := { f with pend := [] }
theorem callP {z : Z} {w : World} {B : Bl} {mb : Nat} {pre : StM} {f : FrM} {v1 v2 v3 : Value} (hm : Mach z B mb (pre ++ [f])) (h6 : f.traps.length = 6) (hpre : pre.length ≤ 100) :
    Fn 86 #[.pointer (some ⟨mb, 0, none⟩), v1, v2, v3] z B w fun z' B' r => if pre.length + 1 = 30 then r = .tuple #[noAct.v, .int .i64 14] else r = .tuple #[noAct.v, .int .i64 0] ∧ Mach z' B' mb ((pre ++ [f]) ++ [pushF f]) := Fn.intro fun hS => en86 (by
  unfold vc86
  obtain ⟨fb, tb, ps, sp, ts, cap, tcap, B2, w2, hB, hx, hpo⟩ := hm.x h6
  have hpo' := hpo
  obtain ⟨a2, cap2, rfl, hc2⟩ := hpo.form
  have hS' : Res w z B w z _ := Eq.subst (motive := fun X => Res w z B w z X) hB hS
  clear hS
  have hlen := hx.fr.len
  simp only [mxB] at hS'
  obtain ⟨z1, hz1, hS1, hfr, hv1, hv2⟩ := topFreeze (L := [(mb, _), (fb, _)]) hx hpo' (hS'.perm (List.perm_append_comm (l₁ := [(mb, _), (fb, _)]) (l₂ := (tb, _) :: B2)))
  clear hS'
  (repeat (first | (refine iDr ?_; intro _ _) | refine V_run ?_ | refine PV_run ?_ | refine HV_run ?_ | refine iV_ld1 ?_ | refine iV_ldN ?_ | (refine iV_bx ?_; intro _ _ _ _) | (refine iV_al ?_; intro _ _ _ _) | (refine iV_mm ?_; intro _ _ _ _) | (refine iU_st ?_; intro _ _) | refine iHV_1 ?_ | refine iHV_N ?_ | refine iRI_1 ?_ | refine iRI_N ?_ | refine Cond_t ?_ | refine Cond_f ?_ | refine JB ?_ | (refine JC ?_; intro _ _ _ _) | (refine J1 ?_; intro _ _) | (refine J0 ?_; intro _ _) | (refine J2 ?_; intro _ _) | (refine J3 ?_; intro _ _) | (refine J4 ?_; intro _ _) | refine K1 ?_ | refine K0 ?_ | refine K2 ?_ | refine K3 ?_ | refine K4 ?_ | (refine CV_pu ?_; intro _ _ _ _) | refine fV_ldN ?_ | refine fV_ld1 ?_ | refine fHV_ldN ?_ | refine fHV_ld1 ?_ | refine NilW_some ?_ | refine iCW_1 ?_ | refine iCW_N ?_ | refine Pk_b ?_))
  refine Cond_d (fun h30 => ?_) (fun h30 => ?_)
  · (repeat (first | (refine iDr ?_; intro _ _) | refine V_run ?_ | refine PV_run ?_ | refine HV_run ?_ | refine iV_ld1 ?_ | refine iV_ldN ?_ | (refine iV_bx ?_; intro _ _ _ _) | (refine iV_al ?_; intro _ _ _ _) | (refine iV_mm ?_; intro _ _ _ _) | (refine iU_st ?_; intro _ _) | refine iHV_1 ?_ | refine iHV_N ?_ | refine iRI_1 ?_ | refine iRI_N ?_ | refine Cond_t ?_ | refine Cond_f ?_ | refine JB ?_ | (refine JC ?_; intro _ _ _ _) | (refine J1 ?_; intro _ _) | (refine J0 ?_; intro _ _) | (refine J2 ?_; intro _ _) | (refine J3 ?_; intro _ _) | (refine J4 ?_; intro _ _) | refine K1 ?_ | refine K0 ?_ | refine K2 ?_ | refine K3 ?_ | refine K4 ?_ | (refine CV_pu ?_; intro _ _ _ _) | refine fV_ldN ?_ | refine fV_ld1 ?_ | refine fHV_ldN ?_ | refine fHV_ld1 ?_ | refine NilW_some ?_ | refine iCW_1 ?_ | refine iCW_N ?_ | refine Pk_b ?_))
    exact ⟨_, _, ‹_›, by rw [if_pos (by omega)]; rfl⟩
  refine CV_now (n := pre.length) (o := ps.length) hlen.symm (by simp only [big]; omega) ?_
  intro w9 hS9
  (repeat (first | (refine iDr ?_; intro _ _) | refine V_run ?_ | refine PV_run ?_ | refine HV_run ?_ | refine iV_ld1 ?_ | refine iV_ldN ?_ | (refine iV_bx ?_; intro _ _ _ _) | (refine iV_al ?_; intro _ _ _ _) | (refine iV_mm ?_; intro _ _ _ _) | (refine iU_st ?_; intro _ _) | refine iHV_1 ?_ | refine iHV_N ?_ | refine iRI_1 ?_ | refine iRI_N ?_ | refine Cond_t ?_ | refine Cond_f ?_ | refine JB ?_ | (refine JC ?_; intro _ _ _ _) | (refine J1 ?_; intro _ _) | (refine J0 ?_; intro _ _) | (refine J2 ?_; intro _ _) | (refine J3 ?_; intro _ _) | (refine J4 ?_; intro _ _) | refine K1 ?_ | refine K0 ?_ | refine K2 ?_ | refine K3 ?_ | refine K4 ?_ | (refine CV_pu ?_; intro _ _ _ _) | refine fV_ldN ?_ | refine fV_ld1 ?_ | refine fHV_ldN ?_ | refine fHV_ld1 ?_ | refine NilW_some ?_ | refine iCW_1 ?_ | refine iCW_N ?_ | refine Pk_b ?_))
  refine CV_fn0 (fun hz => cloneTraps (SlR.mono hv1 (Le.refl _)) (by omega)) ?_
  rintro z3 B3 w3 v3' hle3 hS3 ho3
  obtain ⟨a3, cap3, rfl, hc3⟩ := ho3.form
  (repeat (first | (refine iDr ?_; intro _ _) | refine V_run ?_ | refine PV_run ?_ | refine HV_run ?_ | refine iV_ld1 ?_ | refine iV_ldN ?_ | (refine iV_bx ?_; intro _ _ _ _) | (refine iV_al ?_; intro _ _ _ _) | (refine iV_mm ?_; intro _ _ _ _) | (refine iU_st ?_; intro _ _) | refine iHV_1 ?_ | refine iHV_N ?_ | refine iRI_1 ?_ | refine iRI_N ?_ | refine Cond_t ?_ | refine Cond_f ?_ | refine JB ?_ | (refine JC ?_; intro _ _ _ _) | (refine J1 ?_; intro _ _) | (refine J0 ?_; intro _ _) | (refine J2 ?_; intro _ _) | (refine J3 ?_; intro _ _) | (refine J4 ?_; intro _ _) | refine K1 ?_ | refine K0 ?_ | refine K2 ?_ | refine K3 ?_ | refine K4 ?_ | (refine CV_pu ?_; intro _ _ _ _) | refine fV_ldN ?_ | refine fV_ld1 ?_ | refine fHV_ldN ?_ | refine fHV_ld1 ?_ | refine NilW_some ?_ | refine iCW_1 ?_ | refine iCW_N ?_ | refine Pk_b ?_))
  refine V_bs (parts := [(0, _)]) rfl (by omega) ?_
  intro b4 w4 hb4 hS4
  (repeat (first | (refine iDr ?_; intro _ _) | refine V_run ?_ | refine PV_run ?_ | refine HV_run ?_ | refine iV_ld1 ?_ | refine iV_ldN ?_ | (refine iV_bx ?_; intro _ _ _ _) | (refine iV_al ?_; intro _ _ _ _) | (refine iV_mm ?_; intro _ _ _ _) | (refine iU_st ?_; intro _ _) | refine iHV_1 ?_ | refine iHV_N ?_ | refine iRI_1 ?_ | refine iRI_N ?_ | refine Cond_t ?_ | refine Cond_f ?_ | refine JB ?_ | (refine JC ?_; intro _ _ _ _) | (refine J1 ?_; intro _ _) | (refine J0 ?_; intro _ _) | (refine J2 ?_; intro _ _) | (refine J3 ?_; intro _ _) | (refine J4 ?_; intro _ _) | refine K1 ?_ | refine K0 ?_ | refine K2 ?_ | refine K3 ?_ | refine K4 ?_ | (refine CV_pu ?_; intro _ _ _ _) | refine fV_ldN ?_ | refine fV_ld1 ?_ | refine fHV_ldN ?_ | refine fHV_ld1 ?_ | refine NilW_some ?_ | refine iCW_1 ?_ | refine iCW_N ?_ | refine Pk_b ?_))
  have hps := hx.cap.2.2
  refine V_appX (B := [(fb, _)]) (m := 1) (n := pre.length + 1) (xs := ps ++ ([.slice (some ⟨tb, 0, none⟩) 6 tcap, .slice a2 f.pend.length cap2] ++ (f.info.cells ++ []))) (news := [.slice a3 f.traps.length cap3, .slice none 0 0, .int .i64 f.info.cond, .int .i64 f.info.mode, .string f.info.desc]) (hS4.perm permX) ⟨by simp; omega, .inr ⟨fb, cap, sp, by simp, rfl, hx.cap.1, hx.cap.2.1, by simp; omega⟩⟩ ⟨_, _, _, (hS4.mem _ List.mem_cons_self).1, fun j v hv => by simpa using hv⟩ rfl (fun u hu => by simp at hu; rcases hu with rfl | rfl | rfl | rfl | rfl <;> rfl) (by omega) (by simp only [room]; omega) (by simp only [room]; omega) ?_
  intro B5 v5 w5 ho5 hS5 hat5
  obtain ⟨a5, cap5, rfl, hc5⟩ := ho5.form
  have hat5' : At (hp w5) fb (ps.length + 2) f.info.cells := by
    have := hat5 fb cap rfl
    rw [← List.append_assoc] at this
    exact At.part this (by simp)
  refine RI_at hat5' rfl ?_
  (repeat (first | (refine iDr ?_; intro _ _) | refine V_run ?_ | refine PV_run ?_ | refine HV_run ?_ | refine iV_ld1 ?_ | refine iV_ldN ?_ | (refine iV_bx ?_; intro _ _ _ _) | (refine iV_al ?_; intro _ _ _ _) | (refine iV_mm ?_; intro _ _ _ _) | (refine iU_st ?_; intro _ _) | refine iHV_1 ?_ | refine iHV_N ?_ | refine iRI_1 ?_ | refine iRI_N ?_ | refine Cond_t ?_ | refine Cond_f ?_ | refine JB ?_ | (refine JC ?_; intro _ _ _ _) | (refine J1 ?_; intro _ _) | (refine J0 ?_; intro _ _) | (refine J2 ?_; intro _ _) | (refine J3 ?_; intro _ _) | (refine J4 ?_; intro _ _) | refine K1 ?_ | refine K0 ?_ | refine K2 ?_ | refine K3 ?_ | refine K4 ?_ | (refine CV_pu ?_; intro _ _ _ _) | refine fV_ldN ?_ | refine fV_ld1 ?_ | refine fHV_ldN ?_ | refine fHV_ld1 ?_ | refine NilW_some ?_ | refine iCW_1 ?_ | refine iCW_N ?_ | refine Pk_b ?_))
  rename_i hSe
  refine ⟨_, _, hSe.endY, by
    rw [if_neg (by omega)]
    refine ⟨rfl, B5, B3, _, _, rfl, ?_, .inr ⟨pre ++ [f], pushF f, _, _, rfl, rfl, FrsR.snoc (f := f) ⟨_, _, rfl, hv1.mono hle3, hv2.mono hle3, hx.sm.2.2.2.2⟩ (FrsR.mono hle3 hfr), ⟨B3, [], _, _, by simp, rfl, ho3, OwnSl.nil⟩, hx.sm.1, by simp [pushF], hx.sm.2.2.1, by simp [pushF], hx.sm.2.2.2.2⟩⟩
    simp only [List.length_append, List.length_singleton, List.append_assoc, List.cons_append, List.nil_append, pushF, InM.cells, List.append_nil] at ho5 ⊢
    exact ho5⟩)
def backP_dummy : Unit := ()
end Go.Proofs.Ytjnckainogpenaa
end

section
/- Machines at work: returning; what an operation leaves. -/
set_option linter.unusedVariables false
set_option maxRecDepth 20000
set_option synthInstance.maxHeartbeats 400000
set_option synthInstance.maxSize 4000
namespace Go.Proofs.Ytjnckainogpenaa
open Go Q Go.RowKit

/-- What an operation leaves: a machine that reads as s. -/
def MachR (z : Z) (B : Bl) (mb : Nat) (s : StM) : Prop := ∃ Bf xs v, B = (mb, .cells [v].toArray 134 (0, 0)) :: Bf ∧ OwnSl 63 5 Bf v s.length xs ∧ FrsR z xs s
theorem Mach.toR {w0 w : World} {z0 z : Z} {B0 B : Bl} {mb : Nat} {s : StM} (h : Res w0 z0 B0 w z B) (hm : Mach z B mb s) : ∃ z' B', Res w0 z0 B0 w z' B' ∧ MachR z' B' mb s := by
  obtain ⟨Bf, Bl, xs, v, rfl, ho, hm⟩ := hm
  obtain ⟨z', hz, hS, hf⟩ := hm.freeze (L := (mb, _) :: Bf) (h.perm (List.perm_append_comm (l₁ := (mb, _) :: Bf) (l₂ := Bl)))
  exact ⟨z', _, hS, Bf, xs, v, rfl, ho, hf⟩
/-- The frames of what an operation leaves, frozen. -/
theorem MachR.st {w0 w : World} {z0 z : Z} {B0 L Bf : Bl} {s : StM} {xs : List Value} {v : Value} (h : Res w0 z0 B0 w z (Bf ++ L)) (ho : OwnSl 63 5 Bf v s.length xs) (hf : FrsR z xs s) (hb : s.length ≤ big) : ∃ z', Le z z' ∧ Res w0 z0 B0 w z' L ∧ SlR El.frame z' v s := by
  rcases ho.2 with ⟨rfl, rfl, h0⟩ | ⟨b, cap, sp, rfl, rfl, h1, h2, h3⟩
  · have : s = [] := List.eq_nil_of_length_eq_zero h0
    subst this
    exact ⟨z, Le.refl _, h, SlR.nil⟩
  · refine ⟨_, Res.freeze_le h, Res.freeze h, some ⟨b, 0, none⟩, cap, rfl, h1, hb, fun _ => ⟨b, 0, rfl, fun i x hx => ?_⟩⟩
    obtain ⟨cs, hr, hg⟩ := hf.get hx
    refine ⟨cs, El.frame.mono hr (Res.freeze_le h), _, _, _, if_pos rfl, fun j v hv => ?_⟩
    have := hg j v hv
    have hlt := (List.getElem?_eq_some_iff.1 this).1
    show (xs ++ sp).toArray[0 + i * 5 + j]? = some v
    simp only [Nat.zero_add, List.getElem?_toArray]
    rw [List.getElem?_append_left hlt]
    exact this
/-- What an operation does: an action, or an error. -/
def OpR (mb : Nat) (e : Int) (a : AcM) (s : StM) : Z → Bl → Value → Prop := fun z B r => if e = 0 then r = .tuple #[a.v, .int .i64 0] ∧ MachR z B mb s else r = .tuple #[noAct.v, .int .i64 e]
theorem FrsR.split {z : Z} : ∀ {pre s : StM} {xs : List Value}, FrsR z xs (pre ++ s) → ∃ ps qs, xs = ps ++ qs ∧ FrsR z ps pre ∧ FrsR z qs s
  | [], s, xs, h => ⟨[], xs, rfl, rfl, h⟩
  | f :: pre, s, xs, ⟨cs, rest, h1, h2, h3⟩ => by
    obtain ⟨ps, qs, h4, h5, h6⟩ := FrsR.split h3
    exact ⟨cs ++ ps, qs, by rw [h1, h4, List.append_assoc], ⟨cs, ps, rfl, h2, h5⟩, h6⟩
theorem backP {z : Z} {w : World} {B : Bl} {mb : Nat} {pre : StM} {f : FrM} {v1 v2 v3 : Value} (hm : Mach z B mb (pre ++ [f])) (h6 : f.traps.length = 6) (hpre : pre.length ≤ 100) :
    Fn 87 #[.pointer (some ⟨mb, 0, none⟩), v1, v2, v3] z B w (OpR mb (if pre.length = 0 then 12 else 0) noAct pre) := Fn.intro fun hS => en87 (by
  unfold vc87
  obtain ⟨fb, tb, ps, sp, ts, cap, tcap, B2, w2, hB, hx, hpo⟩ := hm.x h6
  have hS' : Res w z B w z _ := Eq.subst (motive := fun X => Res w z B w z X) hB hS
  clear hS
  simp only [mxB] at hS'
  haveI : InI (((pre.length + 1 : Nat) : Int) - 1) := ⟨by omega⟩
  have hcap := hx.cap
  haveI : InR (((pre.length + 1 : Nat) : Int) - 1) (cap + 1) := ⟨by omega, by omega⟩
  (repeat (first | (refine iDr ?_; intro _ _) | refine V_run ?_ | refine PV_run ?_ | refine HV_run ?_ | refine iV_ld1 ?_ | refine iV_ldN ?_ | (refine iV_bx ?_; intro _ _ _ _) | (refine iV_al ?_; intro _ _ _ _) | (refine iV_mm ?_; intro _ _ _ _) | (refine iU_st ?_; intro _ _) | refine iHV_1 ?_ | refine iHV_N ?_ | refine iRI_1 ?_ | refine iRI_N ?_ | refine Cond_t ?_ | refine Cond_f ?_ | refine JB ?_ | (refine JC ?_; intro _ _ _ _) | (refine J1 ?_; intro _ _) | (refine J0 ?_; intro _ _) | (refine J2 ?_; intro _ _) | (refine J3 ?_; intro _ _) | (refine J4 ?_; intro _ _) | refine K1 ?_ | refine K0 ?_ | refine K2 ?_ | refine K3 ?_ | refine K4 ?_ | (refine CV_pu ?_; intro _ _ _ _) | refine fV_ldN ?_ | refine fV_ld1 ?_ | refine fHV_ldN ?_ | refine fHV_ld1 ?_ | refine NilW_some ?_ | refine iCW_1 ?_ | refine iCW_N ?_ | refine Pk_b ?_))
  have hk : (((pre.length + 1 : Nat) : Int) - 1).toNat = pre.length := by omega
  refine Cond_d (fun h30 => ?_) (fun h30 => ?_)
  · (repeat (first | (refine iDr ?_; intro _ _) | refine V_run ?_ | refine PV_run ?_ | refine HV_run ?_ | refine iV_ld1 ?_ | refine iV_ldN ?_ | (refine iV_bx ?_; intro _ _ _ _) | (refine iV_al ?_; intro _ _ _ _) | (refine iV_mm ?_; intro _ _ _ _) | (refine iU_st ?_; intro _ _) | refine iHV_1 ?_ | refine iHV_N ?_ | refine iRI_1 ?_ | refine iRI_N ?_ | refine Cond_t ?_ | refine Cond_f ?_ | refine JB ?_ | (refine JC ?_; intro _ _ _ _) | (refine J1 ?_; intro _ _) | (refine J0 ?_; intro _ _) | (refine J2 ?_; intro _ _) | (refine J3 ?_; intro _ _) | (refine J4 ?_; intro _ _) | refine K1 ?_ | refine K0 ?_ | refine K2 ?_ | refine K3 ?_ | refine K4 ?_ | (refine CV_pu ?_; intro _ _ _ _) | refine fV_ldN ?_ | refine fV_ld1 ?_ | refine fHV_ldN ?_ | refine fHV_ld1 ?_ | refine NilW_some ?_ | refine iCW_1 ?_ | refine iCW_N ?_ | refine Pk_b ?_))
    exact ⟨_, _, ‹_›, by rw [OpR, if_neg (by rw [if_pos (by omega)]; decide), if_pos (by omega)]; rfl⟩
  · (repeat (first | (refine iDr ?_; intro _ _) | refine V_run ?_ | refine PV_run ?_ | refine HV_run ?_ | refine iV_ld1 ?_ | refine iV_ldN ?_ | (refine iV_bx ?_; intro _ _ _ _) | (refine iV_al ?_; intro _ _ _ _) | (refine iV_mm ?_; intro _ _ _ _) | (refine iU_st ?_; intro _ _) | refine iHV_1 ?_ | refine iHV_N ?_ | refine iRI_1 ?_ | refine iRI_N ?_ | refine Cond_t ?_ | refine Cond_f ?_ | refine JB ?_ | (refine JC ?_; intro _ _ _ _) | (refine J1 ?_; intro _ _) | (refine J0 ?_; intro _ _) | (refine J2 ?_; intro _ _) | (refine J3 ?_; intro _ _) | (refine J4 ?_; intro _ _) | refine K1 ?_ | refine K0 ?_ | refine K2 ?_ | refine K3 ?_ | refine K4 ?_ | (refine CV_pu ?_; intro _ _ _ _) | refine fV_ldN ?_ | refine fV_ld1 ?_ | refine fHV_ldN ?_ | refine fHV_ld1 ?_ | refine NilW_some ?_ | refine iCW_1 ?_ | refine iCW_N ?_ | refine Pk_b ?_))
    rename_i hSe
    rw [hk] at hSe
    have hSe' := hSe.sublist (L' := [(mb, _), (fb, _)]) ((((List.nil_sublist _).cons_cons _).cons_cons _).cons _)
    refine ⟨_, _, hSe', ?_⟩
    rw [OpR, if_pos (by rw [if_neg (by omega)])]
    refine ⟨rfl, [(fb, _)], ps, _, rfl, ⟨hx.fr.len, .inr ⟨fb, cap, _, rfl, rfl, by omega, hcap.2.1, ?_⟩⟩, FrsR.mono hSe.zle hx.fr⟩
    simp only [List.length_append, List.length_cons]
    omega)
end Go.Proofs.Ytjnckainogpenaa
end

section
/- Machines at work: the end of a clause. -/
set_option linter.unusedVariables false
set_option maxRecDepth 20000
set_option synthInstance.maxHeartbeats 400000
set_option synthInstance.maxSize 4000
namespace Go.Proofs.Ytjnckainogpenaa
open Go Q Go.RowKit

theorem CE_fn {f : FuncId} [he : Enters f] {first args cap args' : Array Value} {w : World} {K : Value → World → Prop} (ha : first ++ args ++ cap = args') (h : Calls Try.prog f args' w (retK K)) : CE (.func (.func f) first cap) args w K := by
  subst ha
  have : (callSem (.func (.func f) first cap) args).run Try.prog w = .ok (.enter f (first ++ args ++ cap)) w := by
    simp only [callSem, Deferred.ofValue, pure_bind, invoke]
    exact he.h _ _
  unfold CE CallE
  rw [this]
  exact h
theorem Res.rf {w0 w w1 : World} {z0 z : Z} {B0 L : Bl} {r l : Nat} {lp : Loop} (h : Res w0 z0 B0 w z L) (hn : NewRF w w1 r l lp) : Res w0 z0 B0 w1 z ((l, lobj lp .ready none) :: (r, .deferred (some [])) :: L) := by
  obtain ⟨rfl, rfl, rfl⟩ := hn
  have := Res.new (Res.new h (.deferred (some []))) (lobj lp .ready none)
  simpa using this
theorem iBegin {w0 w : World} {z0 z : Z} {B0 L : Bl} {C : Obj → Bl} {l : Nat} {lp : Loop} {K : World → Prop} [hS : Res w0 z0 B0 w z L] [g : Blk L l (lobj lp .ready none) C] (hk : ∀ w', Res w0 z0 B0 w' z (C (lobj lp .busy none)) → K w') : BeginW l lp w K := ⟨Res.at_ (g := g) hS, hk _ (Res.set (g := g) hS _ rfl)⟩
theorem iEnd {w0 w : World} {z0 z : Z} {B0 L : Bl} {C : Obj → Bl} {l : Nat} {lp : Loop} {st : LoopState} {pend jump : Option Code} {K : Value → World → Prop} [hS : Res w0 z0 B0 w z L] [g : Blk L l (lobj lp st pend) C] (hk : ∀ w', Res w0 z0 B0 w' z (C (lobj lp (if jump.isNone then .ready else .done) jump)) → K (.bool jump.isNone) w') : EndW l lp jump w K := ⟨⟨st, pend, Res.at_ (g := g) hS⟩, hk _ (Res.set (g := g) hS _ rfl)⟩
theorem iRfEnd {w0 w : World} {z0 z : Z} {B0 L : Bl} {C : Obj → Bl} {l : Nat} {lp : Loop} {st : LoopState} {pend : Option Code} {Kn Kr : World → Prop} {kes : List (Nat × (World → Prop))} [hS : Res w0 z0 B0 w z L] [g : Blk L l (lobj lp st pend) C] (hst : st ≠ .busy) (hk : ∀ w', Res w0 z0 B0 w' z (C (lobj lp .exhausted pend)) → jumpK pend Kn Kr kes w') : RfEnd l lp w Kn Kr kes := ⟨st, pend, Res.at_ (g := g) hS, hst, hk _ (Res.set (g := g) hS _ rfl)⟩
theorem iTake {w0 w : World} {z0 z : Z} {B0 L : Bl} {C : Obj → Bl} {r : Nat} {K : World → Prop} [hS : Res w0 z0 B0 w z L] [g : Blk L r (.deferred (some [])) C] (hk : ∀ w', Res w0 z0 B0 w' z (C (.deferred none)) → K w') : Take1 r w K := ⟨Res.at_ (g := g) hS, hk _ (Res.set (g := g) hS _ rfl)⟩
theorem iTakeW {w : World} {r : Nat} {K : World → Prop} (h : Take1 r w K) : TakeW (marks (.iface r undef)) w K := by
  rw [marks_iface]
  exact h

theorem trapsFreeze {w0 w : World} {z0 z : Z} {B0 L : Bl} {mb fb tb cap tcap : Nat} {pre : StM} {ps sp ts : List Value} {f : FrM} (hx : MachX z mb fb tb pre ps sp ts cap tcap f) (h : Res w0 z0 B0 w z ((tb, .cells (f.traps.flatMap TrM.cells ++ ts).toArray 73 (0, 0)) :: L)) :
    ∃ z', Le z z' ∧ Res w0 z0 B0 w z' L ∧ FrsR z' ps pre ∧ SlR El.trap z' (.slice (some ⟨tb, 0, none⟩) 6 tcap) f.traps := by
  obtain ⟨q1, q2, q3, q4, q5⟩ := hx.sm
  have hfl : (f.traps.flatMap TrM.cells).length = 18 := by rw [flat_len (f := TrM.cells) (n := 3) (fun _ => rfl), hx.six]
  obtain ⟨z1, hz1, hS1, hv1⟩ := Res.freezeSl (E := El.trap) (B := [(tb, _)]) (v := .slice (some ⟨tb, 0, none⟩) 6 tcap) (xs := f.traps) (f := TrM.cells) (e := 73) h ⟨by rw [hfl, hx.six]; rfl, .inr ⟨tb, tcap, ts, rfl, by rw [hx.six], by rw [hx.six]; exact hx.tcap.1, hx.tcap.2.1, by rw [List.length_append, hfl]; exact hx.tcap.2.2⟩⟩ (by simp only [big]; omega) (fun _ => rfl) (fun z x hx => ⟨rfl, q3 x hx⟩)
  exact ⟨z1, hz1, hS1, FrsR.mono hz1 hx.fr, hv1⟩
theorem topR {w0 w : World} {z0 z : Z} {B0 : Bl} {mb fb tb cap tcap : Nat} {pre : StM} {ps sp ts : List Value} {f : FrM} {v2 : Value} {l : List RaM} (hx : MachX z mb fb tb pre ps sp ts cap tcap f) (hv2 : SlR El.raised z v2 l)
    (h : Res w0 z0 B0 w z [(mb, .cells [.slice (some ⟨fb, 0, none⟩) (pre.length + 1) cap].toArray 134 (0, 0)), (fb, .cells (ps ++ (.slice (some ⟨tb, 0, none⟩) 6 tcap :: v2 :: .int .i64 f.info.cond :: .int .i64 f.info.mode :: .string f.info.desc :: sp)).toArray 63 (0, 0)), (tb, .cells (f.traps.flatMap TrM.cells ++ ts).toArray 73 (0, 0))]) : ∃ z' B', Res w0 z0 B0 w z' B' ∧ MachR z' B' mb (pre ++ [{ f with pend := l }]) := by
  obtain ⟨z1, hz1, hS1, hfr, hv1⟩ := trapsFreeze (L := [(mb, _), (fb, _)]) hx (h.perm (List.perm_append_comm (l₁ := [(mb, _), (fb, _)]) (l₂ := [(tb, _)])))
  have hps := hx.cap
  refine ⟨z1, _, hS1, [(fb, _)], ps ++ (.slice (some ⟨tb, 0, none⟩) 6 tcap :: v2 :: f.info.cells), _, rfl, ⟨?_, .inr ⟨fb, cap, sp, by simp, by simp, by simpa using hps.1, hps.2.1, ?_⟩⟩, FrsR.snoc (f := { f with pend := l }) ⟨_, _, rfl, hv1, hv2.mono hz1, hx.sm.2.2.2.2⟩ hfr⟩
  · have := FrsR.len hx.fr
    simp; omega
  · simp; omega
theorem MachX.z {z z' : Z} {mb fb tb cap tcap : Nat} {pre : StM} {ps sp ts : List Value} {f : FrM} (hx : MachX z mb fb tb pre ps sp ts cap tcap f) (hz : Le z z') : MachX z' mb fb tb pre ps sp ts cap tcap f := ⟨FrsR.mono hz hx.fr, hx.cap, hx.tcap, hx.six, hx.sm⟩
theorem SlR.tail {α : Type} {E : El α} {z : Z} {b off n cap : Nat} {x : α} {xs : List α} (h : SlR E z (.slice (some ⟨b, off, none⟩) n cap) (x :: xs)) : SlR E z (.slice (some ⟨b, if cap = 1 then off else off + E.size, none⟩) (n - 1) (cap - 1)) xs := by
  obtain ⟨a, cap', h1, h2, h3, h4⟩ := h
  cases h1
  simp only [List.length_cons] at h2 h3
  refine ⟨some ⟨b, if cap = 1 then off else off + E.size, none⟩, cap - 1, rfl, by omega, by omega, fun hn => ⟨b, _, rfl, fun i y hy => ?_⟩⟩
  obtain ⟨b', off', h5, h6⟩ := h4 (by simp)
  cases h5
  obtain ⟨cs, h7, h8⟩ := h6 (i + 1) y (by simpa using hy)
  have hpos : 0 < xs.length := List.length_pos_iff.2 hn
  rw [if_neg (by omega)]
  refine ⟨cs, h7, ?_⟩
  rw [show off + E.size + i * E.size = off + (i + 1) * E.size by rw [Nat.add_mul]; omega]
  exact h8
theorem tgetN {f : FrM} {c : Int} (h6 : f.traps.length = 6) (h0 : 0 ≤ c) (h1 : c < 6) (ts : List Value) : GetN (f.traps.flatMap TrM.cells ++ ts) (c.toNat * 3) 3 [.int .i64 (f.tr c).mode, .string (f.tr c).label, .bool (f.tr c).delayed] := by
  have hlt : c.toNat < f.traps.length := by omega
  refine ⟨rfl, fun j v hv => ?_⟩
  have hx : f.traps[c.toNat]? = some (f.tr c) := by rw [FrM.tr, List.getD_eq_getElem?_getD, List.getElem?_eq_getElem hlt]; rfl
  have := flat_get (f := TrM.cells) (n := 3) (fun _ => rfl) hx j v hv
  rw [List.getElem?_append_left (List.getElem?_eq_some_iff.1 this).1]
  exact this
theorem Res.end14 {w0 w : World} {z0 z : Z} {B0 B5 : Bl} {x1 x2 t x4 x5 x6 x7 x8 x9 x10 x11 x12 x13 m : Nat × Obj} (h : Res w0 z0 B0 w z (B5 ++ [x1, x2, t, x4, x5, x6, x7, x8, x9, x10, x11, x12, x13, m])) : Res w0 z0 B0 w z (m :: (B5 ++ [t])) := by
  have h1 : Res w0 z0 B0 w z (B5 ++ [t, m]) := h.sublist ((List.Sublist.refl _).append (by repeat (first | exact List.Sublist.refl _ | apply List.Sublist.cons_cons | apply List.Sublist.cons)))
  refine h1.perm ?_
  rw [show B5 ++ [t, m] = (B5 ++ [t]) ++ [m] by simp]
  exact List.perm_append_comm (l₂ := [m])
structure EndM where
  a : AcM
  e : Int
  top : StM
def callF (f : FrM) (r : RaM) (l : List RaM) : StM := [{ f with pend := l }, { traps := f.traps.set r.cond.toNat { f.tr r.cond with delayed := true }, pend := [], info := ⟨r.cond, 2, r.desc⟩ }]
def endM (n : Nat) (f : FrM) : List RaM → EndM
  | [] => ⟨noAct, 0, [{ f with pend := [] }]⟩
  | r :: l => if (f.tr r.cond).mode = 0 ∨ (f.tr r.cond).delayed = true then endM n f l
    else if (f.tr r.cond).mode = 1 then ⟨sigA f r.cond r.desc, 0, [sigF f r.cond r.desc]⟩
    else if n = 30 then ⟨noAct, 14, []⟩
    else ⟨⟨2, (f.tr r.cond).label, r.cond, r.desc⟩, 0, callF f r l⟩
theorem endP {z : Z} {w : World} {B : Bl} {mb : Nat} {pre : StM} {f : FrM} {v1 v2 v3 : Value} (hm : Mach z B mb (pre ++ [f])) (h6 : f.traps.length = 6) (hpre : pre.length ≤ 100) (hpc : ∀ r ∈ f.pend, 0 ≤ r.cond ∧ r.cond < 6) :
    Fn 69 #[.pointer (some ⟨mb, 0, none⟩), v1, v2, v3] z B w (OpR mb (endM (pre.length + 1) f f.pend).e (endM (pre.length + 1) f f.pend).a (pre ++ (endM (pre.length + 1) f f.pend).top)) := Fn.intro fun hS => en69 (by
  unfold vc69
  obtain ⟨fb, tb, ps, sp, ts, cap, tcap, B2, w2, hB, hx, hpo⟩ := hm.x h6
  obtain ⟨q1, q2, q3, q4, q5⟩ := hx.sm
  have hS' : Res w z B w z _ := Eq.subst (motive := fun X => Res w z B w z X) hB hS
  clear hS
  simp only [mxB] at hS'
  have hlen := hx.fr.len
  obtain ⟨z1, hz1, hS1, hv2⟩ := Res.freezeSl (E := El.raised) (L := [(mb, _), (fb, _), (tb, _)]) (hS'.perm (List.perm_append_comm (l₁ := [(mb, _), (fb, _), (tb, _)]) (l₂ := B2))) hpo (by simp only [big]; omega) (fun _ => rfl) (fun z x hx => ⟨rfl, q4 x hx⟩)
  clear hS'
  have hx1 : MachX z1 mb fb tb pre ps sp ts cap tcap f := ⟨FrsR.mono hz1 hx.fr, hx.cap, hx.tcap, hx.six, hx.sm⟩
  obtain ⟨a2, cap2, rfl, hc2⟩ := hpo.form
  refine iV_bx ?_
  intro b4 w4 hb4 hS4
  refine iV_al ?_
  intro b8 w8 hb8 hS8
  refine iV_al ?_
  intro b9 w9 hb9 hS9
  refine V_run ?_
  refine iV_al ?_
  intro b10 w10 hb10 hS10
  refine iU_st ?_
  intro w11 hS11
  refine J1 (fun KJ hJ => ?_)
  refine iV_ld1 ?_
  refine CV_enter (args' := #[.pointer (some ⟨mb, 0, none⟩)]) (by simp) (en104 ?_)
  unfold vc104
  refine iV_bx ?_
  intro bp w12 hbp hS12
  clear hS11 hS10 hS9 hS8 hS4 hS1
  intro lp r0 l0 w13 hnew hyp
  have hS13 := hS12.rf hnew
  clear hS12
  refine CE_fn (args' := #[.func (.yield l0) #[] #[], .pointer (some ⟨bp, 0, none⟩)]) (by simp) (en115 ?_)
  unfold vc115
  refine LoopG0 (fun (k : Nat) w' => k ≤ f.pend.length ∧ endM (pre.length + 1) f f.pend = endM (pre.length + 1) f (f.pend.drop k) ∧ ∃ z' v2, Le z1 z' ∧ SlR El.raised z' v2 (f.pend.drop k) ∧ Res w z B w' z' ((l0, lobj lp .ready none) :: (r0, .deferred (some [])) :: (bp, .cells [.pointer (some ⟨mb, 0, none⟩)].toArray 113 (0, 0)) :: (b10, .cells [.int .i64 0, .string ⟨#[]⟩, .int .i64 0, .string ⟨#[]⟩].toArray 39 (0, 0)) :: (b9, .cells [.int .i64 0].toArray 31 (0, 0)) :: (b8, .cells [.int .i64 0, .string ⟨#[]⟩, .int .i64 0, .string ⟨#[]⟩].toArray 39 (0, 0)) :: (b4, .cells [.pointer (some ⟨mb, 0, none⟩)].toArray 113 (0, 0)) :: (mb, .cells [.slice (some ⟨fb, 0, none⟩) (pre.length + 1) cap].toArray 134 (0, 0)) :: (fb, .cells (ps ++ (.slice (some ⟨tb, 0, none⟩) 6 tcap :: v2 :: .int .i64 f.info.cond :: .int .i64 f.info.mode :: .string f.info.desc :: sp)).toArray 63 (0, 0)) :: [(tb, .cells (f.traps.flatMap TrM.cells ++ ts).toArray 73 (0, 0))])) (fun k => f.pend.length - k) 0 ⟨by omega, rfl, z1, _, Le.refl _, hv2, hS13⟩ ?_
  rintro I M k w14 m ⟨hk, hend, z2, v2, hz2, hv2', hS14⟩ back
  obtain ⟨hbp2, a3, cap3, rfl, hc3, hel3⟩ := hv2'.form
  (repeat (first | (refine iDr ?_; intro _ _) | refine V_run ?_ | refine PV_run ?_ | refine HV_run ?_ | refine iV_ld1 ?_ | refine iV_ldN ?_ | (refine iV_bx ?_; intro _ _ _ _) | (refine iV_al ?_; intro _ _ _ _) | (refine iV_mm ?_; intro _ _ _ _) | (refine iU_st ?_; intro _ _) | refine iHV_1 ?_ | refine iHV_N ?_ | refine iRI_1 ?_ | refine iRI_N ?_ | refine Cond_t ?_ | refine Cond_f ?_ | refine JB ?_ | (refine JC ?_; intro _ _ _ _) | (refine J1 ?_; intro _ _) | (refine J0 ?_; intro _ _) | (refine J2 ?_; intro _ _) | (refine J3 ?_; intro _ _) | (refine J4 ?_; intro _ _) | refine K1 ?_ | refine K0 ?_ | refine K2 ?_ | refine K3 ?_ | refine K4 ?_ | (refine CV_pu ?_; intro _ _ _ _) | refine fV_ldN ?_ | refine fV_ld1 ?_ | refine fHV_ldN ?_ | refine fHV_ld1 ?_ | refine NilW_some ?_ | refine iCW_1 ?_ | refine iCW_N ?_ | refine Pk_b ?_))
  refine CV_now (n := pre.length) (o := ps.length) hlen.symm (by simp only [big]; omega) ?_
  intro w15 hS15
  (repeat (first | (refine iDr ?_; intro _ _) | refine V_run ?_ | refine PV_run ?_ | refine HV_run ?_ | refine iV_ld1 ?_ | refine iV_ldN ?_ | (refine iV_bx ?_; intro _ _ _ _) | (refine iV_al ?_; intro _ _ _ _) | (refine iV_mm ?_; intro _ _ _ _) | (refine iU_st ?_; intro _ _) | refine iHV_1 ?_ | refine iHV_N ?_ | refine iRI_1 ?_ | refine iRI_N ?_ | refine Cond_t ?_ | refine Cond_f ?_ | refine JB ?_ | (refine JC ?_; intro _ _ _ _) | (refine J1 ?_; intro _ _) | (refine J0 ?_; intro _ _) | (refine J2 ?_; intro _ _) | (refine J3 ?_; intro _ _) | (refine J4 ?_; intro _ _) | refine K1 ?_ | refine K0 ?_ | refine K2 ?_ | refine K3 ?_ | refine K4 ?_ | (refine CV_pu ?_; intro _ _ _ _) | refine fV_ldN ?_ | refine fV_ld1 ?_ | refine fHV_ldN ?_ | refine fHV_ld1 ?_ | refine NilW_some ?_ | refine iCW_1 ?_ | refine iCW_N ?_ | refine Pk_b ?_))
  refine Cond_d (fun h => ?_) (fun h => ?_)
  · have hlt : k < f.pend.length := by simp only [List.length_drop] at h; omega
    have hdl : (f.pend.drop k).length = (f.pend.drop (k + 1)).length + 1 := by simp only [List.length_drop]; omega
    have hdr := List.drop_eq_getElem_cons hlt
    obtain ⟨b, off, cs, rfl, ⟨rfl, hr⟩, hat⟩ := hel3 0 f.pend[k] (by rw [hdr]; rfl)
    rw [hdr] at hv2' hend
    have htail := hv2'.tail
    haveI : InR 0 ((f.pend.drop k).length : Nat) := ⟨by omega, by omega⟩
    haveI : InR 1 (((f.pend.drop k).length : Nat) + 1) := ⟨by omega, by omega⟩
    (repeat (first | (refine iDr ?_; intro _ _) | refine V_run ?_ | refine PV_run ?_ | refine HV_run ?_ | refine iV_ld1 ?_ | refine iV_ldN ?_ | (refine iV_bx ?_; intro _ _ _ _) | (refine iV_al ?_; intro _ _ _ _) | (refine iV_mm ?_; intro _ _ _ _) | (refine iU_st ?_; intro _ _) | refine iHV_1 ?_ | refine iHV_N ?_ | refine iRI_1 ?_ | refine iRI_N ?_ | refine Cond_t ?_ | refine Cond_f ?_ | refine JB ?_ | (refine JC ?_; intro _ _ _ _) | (refine J1 ?_; intro _ _) | (refine J0 ?_; intro _ _) | (refine J2 ?_; intro _ _) | (refine J3 ?_; intro _ _) | (refine J4 ?_; intro _ _) | refine K1 ?_ | refine K0 ?_ | refine K2 ?_ | refine K3 ?_ | refine K4 ?_ | (refine CV_pu ?_; intro _ _ _ _) | refine fV_ldN ?_ | refine fV_ld1 ?_ | refine fHV_ldN ?_ | refine fHV_ld1 ?_ | refine NilW_some ?_ | refine iCW_1 ?_ | refine iCW_N ?_ | refine Pk_b ?_))
    refine CV_now (n := pre.length) (o := ps.length) hlen.symm (by simp only [big]; omega) ?_
    intro w16 hS16
    (repeat (first | (refine iDr ?_; intro _ _) | refine V_run ?_ | refine PV_run ?_ | refine HV_run ?_ | refine iV_ld1 ?_ | refine iV_ldN ?_ | (refine iV_bx ?_; intro _ _ _ _) | (refine iV_al ?_; intro _ _ _ _) | (refine iV_mm ?_; intro _ _ _ _) | (refine iU_st ?_; intro _ _) | refine iHV_1 ?_ | refine iHV_N ?_ | refine iRI_1 ?_ | refine iRI_N ?_ | refine Cond_t ?_ | refine Cond_f ?_ | refine JB ?_ | (refine JC ?_; intro _ _ _ _) | (refine J1 ?_; intro _ _) | (refine J0 ?_; intro _ _) | (refine J2 ?_; intro _ _) | (refine J3 ?_; intro _ _) | (refine J4 ?_; intro _ _) | refine K1 ?_ | refine K0 ?_ | refine K2 ?_ | refine K3 ?_ | refine K4 ?_ | (refine CV_pu ?_; intro _ _ _ _) | refine fV_ldN ?_ | refine fV_ld1 ?_ | refine fHV_ldN ?_ | refine fHV_ld1 ?_ | refine NilW_some ?_ | refine iCW_1 ?_ | refine iCW_N ?_ | refine Pk_b ?_))
    refine zV_ldN (vs := f.pend[k].cells) (by simpa using hat) rfl ?_
    dsimp only [RaM.cells]
    refine iV_al ?_
    intro b17 w17 hb17 hS17
    (repeat (first | (refine iDr ?_; intro _ _) | refine V_run ?_ | refine PV_run ?_ | refine HV_run ?_ | refine iV_ld1 ?_ | refine iV_ldN ?_ | (refine iV_bx ?_; intro _ _ _ _) | (refine iV_al ?_; intro _ _ _ _) | (refine iV_mm ?_; intro _ _ _ _) | (refine iU_st ?_; intro _ _) | refine iHV_1 ?_ | refine iHV_N ?_ | refine iRI_1 ?_ | refine iRI_N ?_ | refine Cond_t ?_ | refine Cond_f ?_ | refine JB ?_ | (refine JC ?_; intro _ _ _ _) | (refine J1 ?_; intro _ _) | (refine J0 ?_; intro _ _) | (refine J2 ?_; intro _ _) | (refine J3 ?_; intro _ _) | (refine J4 ?_; intro _ _) | refine K1 ?_ | refine K0 ?_ | refine K2 ?_ | refine K3 ?_ | refine K4 ?_ | (refine CV_pu ?_; intro _ _ _ _) | refine fV_ldN ?_ | refine fV_ld1 ?_ | refine fHV_ldN ?_ | refine fHV_ld1 ?_ | refine NilW_some ?_ | refine iCW_1 ?_ | refine iCW_N ?_ | refine Pk_b ?_))
    rename_i hS18
    clear hS17 hS16 hS15 hS14
    have h1n : Int.toNat 1 = 1 := rfl
    rw [h1n] at hS18
    rw [← hdr] at htail
    have hro := hpc _ (List.getElem_mem hlt)
    have hrd : f.pend[k].desc.size ≤ big := hr
    generalize f.pend[k] = r at *
    generalize hrest : f.pend.drop (k + 1) = rest at *
    generalize hV : Value.slice (some ⟨b, if cap3 = 1 then off else off + 1 * 2, none⟩) ((f.pend.drop k).length - 1) (cap3 - 1) = V at hS18
    have htail : SlR El.raised z2 V rest := by rw [← hV]; rw [hdr] at htail ⊢; exact htail
    haveI : One V := by rw [← hV]; exact inferInstance
    refine hyp _ _ _ ?_ (Res.at_ (C := fun o => (b17, _) :: (l0, o) :: _) hS18)
    refine iV_al ?_
    intro b11 w19 hb11 hS19
    refine iU_st ?_
    intro w20 hS20
    refine iBegin ?_
    intro w21 hS21
    clear hS20 hS19
    refine J1cut (fun a w' => ∃ b12 z', a = .pointer (some ⟨b12, 0, none⟩) ∧ Le z2 z' ∧ Res w z B w' z' ((b12, .cells (f.tr r.cond).cells.toArray 73 (0, 0)) :: (b11, .cells r.cells.toArray 70 (0, 0)) :: (b17, .cells r.cells.toArray 70 (0, 0)) :: (l0, lobj lp .busy none) :: (r0, .deferred (some [])) :: (bp, .cells [.pointer (some ⟨mb, 0, none⟩)].toArray 113 (0, 0)) :: (b10, .cells [.int .i64 0, .string ⟨#[]⟩, .int .i64 0, .string ⟨#[]⟩].toArray 39 (0, 0)) :: (b9, .cells [.int .i64 0].toArray 31 (0, 0)) :: (b8, .cells [.int .i64 0, .string ⟨#[]⟩, .int .i64 0, .string ⟨#[]⟩].toArray 39 (0, 0)) :: (b4, .cells [.pointer (some ⟨mb, 0, none⟩)].toArray 113 (0, 0)) :: (mb, .cells [.slice (some ⟨fb, 0, none⟩) (pre.length + 1) cap].toArray 134 (0, 0)) :: (fb, .cells (ps ++ (.slice (some ⟨tb, 0, none⟩) 6 tcap :: V :: .int .i64 f.info.cond :: .int .i64 f.info.mode :: .string f.info.desc :: sp)).toArray 63 (0, 0)) :: [(tb, .cells (f.traps.flatMap TrM.cells ++ ts).toArray 73 (0, 0))])) ?_ ?_
    rotate_left
    · intro KJ2 hJ2
      obtain ⟨g1, g2, g3⟩ := tget h6 hro.1 hro.2 ts
      haveI : InR r.cond (6 : Nat) := ⟨hro.1, by omega⟩
      have gN := tgetN h6 hro.1 hro.2 ts
      (repeat (first | (refine iDr ?_; intro _ _) | refine V_run ?_ | refine PV_run ?_ | refine HV_run ?_ | refine iV_ld1 ?_ | refine iV_ldN ?_ | (refine iV_bx ?_; intro _ _ _ _) | (refine iV_al ?_; intro _ _ _ _) | (refine iV_mm ?_; intro _ _ _ _) | (refine iU_st ?_; intro _ _) | refine iHV_1 ?_ | refine iHV_N ?_ | refine iRI_1 ?_ | refine iRI_N ?_ | refine Cond_t ?_ | refine Cond_f ?_ | refine JB ?_ | (refine JC ?_; intro _ _ _ _) | (refine J1 ?_; intro _ _) | (refine J0 ?_; intro _ _) | (refine J2 ?_; intro _ _) | (refine J3 ?_; intro _ _) | (refine J4 ?_; intro _ _) | refine K1 ?_ | refine K0 ?_ | refine K2 ?_ | refine K3 ?_ | refine K4 ?_ | (refine CV_pu ?_; intro _ _ _ _) | refine fV_ldN ?_ | refine fV_ld1 ?_ | refine fHV_ldN ?_ | refine fHV_ld1 ?_ | refine NilW_some ?_ | refine iCW_1 ?_ | refine iCW_N ?_ | refine Pk_b ?_))
      refine ⟨?_, ?_⟩
      · refine CV_now (n := pre.length) (o := ps.length) hlen.symm (by simp only [big]; omega) ?_
        intro w23 hS23
        (repeat (first | (refine iDr ?_; intro _ _) | refine V_run ?_ | refine PV_run ?_ | refine HV_run ?_ | refine iV_ld1 ?_ | refine iV_ldN ?_ | (refine iV_bx ?_; intro _ _ _ _) | (refine iV_al ?_; intro _ _ _ _) | (refine iV_mm ?_; intro _ _ _ _) | (refine iU_st ?_; intro _ _) | refine iHV_1 ?_ | refine iHV_N ?_ | refine iRI_1 ?_ | refine iRI_N ?_ | refine Cond_t ?_ | refine Cond_f ?_ | refine JB ?_ | (refine JC ?_; intro _ _ _ _) | (refine J1 ?_; intro _ _) | (refine J0 ?_; intro _ _) | (refine J2 ?_; intro _ _) | (refine J3 ?_; intro _ _) | (refine J4 ?_; intro _ _) | refine K1 ?_ | refine K0 ?_ | refine K2 ?_ | refine K3 ?_ | refine K4 ?_ | (refine CV_pu ?_; intro _ _ _ _) | refine fV_ldN ?_ | refine fV_ld1 ?_ | refine fHV_ldN ?_ | refine fHV_ld1 ?_ | refine NilW_some ?_ | refine iCW_1 ?_ | refine iCW_N ?_ | refine Pk_b ?_))
        exact ⟨_, z2, rfl, Le.refl _, ‹_›⟩
      · (repeat (first | (refine iDr ?_; intro _ _) | refine V_run ?_ | refine PV_run ?_ | refine HV_run ?_ | refine iV_ld1 ?_ | refine iV_ldN ?_ | (refine iV_bx ?_; intro _ _ _ _) | (refine iV_al ?_; intro _ _ _ _) | (refine iV_mm ?_; intro _ _ _ _) | (refine iU_st ?_; intro _ _) | refine iHV_1 ?_ | refine iHV_N ?_ | refine iRI_1 ?_ | refine iRI_N ?_ | refine Cond_t ?_ | refine Cond_f ?_ | refine JB ?_ | (refine JC ?_; intro _ _ _ _) | (refine J1 ?_; intro _ _) | (refine J0 ?_; intro _ _) | (refine J2 ?_; intro _ _) | (refine J3 ?_; intro _ _) | (refine J4 ?_; intro _ _) | refine K1 ?_ | refine K0 ?_ | refine K2 ?_ | refine K3 ?_ | refine K4 ?_ | (refine CV_pu ?_; intro _ _ _ _) | refine fV_ldN ?_ | refine fV_ld1 ?_ | refine fHV_ldN ?_ | refine fHV_ld1 ?_ | refine NilW_some ?_ | refine iCW_1 ?_ | refine iCW_N ?_ | refine Pk_b ?_))
        refine CV_now (n := pre.length) (o := ps.length) hlen.symm (by simp only [big]; omega) ?_
        intro w23 hS23
        (repeat (first | (refine iDr ?_; intro _ _) | refine V_run ?_ | refine PV_run ?_ | refine HV_run ?_ | refine iV_ld1 ?_ | refine iV_ldN ?_ | (refine iV_bx ?_; intro _ _ _ _) | (refine iV_al ?_; intro _ _ _ _) | (refine iV_mm ?_; intro _ _ _ _) | (refine iU_st ?_; intro _ _) | refine iHV_1 ?_ | refine iHV_N ?_ | refine iRI_1 ?_ | refine iRI_N ?_ | refine Cond_t ?_ | refine Cond_f ?_ | refine JB ?_ | (refine JC ?_; intro _ _ _ _) | (refine J1 ?_; intro _ _) | (refine J0 ?_; intro _ _) | (refine J2 ?_; intro _ _) | (refine J3 ?_; intro _ _) | (refine J4 ?_; intro _ _) | refine K1 ?_ | refine K0 ?_ | refine K2 ?_ | refine K3 ?_ | refine K4 ?_ | (refine CV_pu ?_; intro _ _ _ _) | refine fV_ldN ?_ | refine fV_ld1 ?_ | refine fHV_ldN ?_ | refine fHV_ld1 ?_ | refine NilW_some ?_ | refine iCW_1 ?_ | refine iCW_N ?_ | refine Pk_b ?_))
        exact ⟨_, z2, rfl, Le.refl _, ‹_›⟩
    · clear hS21 hS18
      rintro _ w22 ⟨b12, z22, rfl, hz22, hS22⟩
      have hx22 := hx1.z (hz2.trans hz22)
      have htl22 := htail.mono hz22
      dsimp only [TrM.cells, RaM.cells] at hS22
      have hendr : endM (pre.length + 1) f f.pend = endM (pre.length + 1) f (r :: rest) := hend
      simp only [endM] at hendr
      (repeat (first | (refine iDr ?_; intro _ _) | refine V_run ?_ | refine PV_run ?_ | refine HV_run ?_ | refine iV_ld1 ?_ | refine iV_ldN ?_ | (refine iV_bx ?_; intro _ _ _ _) | (refine iV_al ?_; intro _ _ _ _) | (refine iV_mm ?_; intro _ _ _ _) | (refine iU_st ?_; intro _ _) | refine iHV_1 ?_ | refine iHV_N ?_ | refine iRI_1 ?_ | refine iRI_N ?_ | refine Cond_t ?_ | refine Cond_f ?_ | refine JB ?_ | (refine JC ?_; intro _ _ _ _) | (refine J1 ?_; intro _ _) | (refine J0 ?_; intro _ _) | (refine J2 ?_; intro _ _) | (refine J3 ?_; intro _ _) | (refine J4 ?_; intro _ _) | refine K1 ?_ | refine K0 ?_ | refine K2 ?_ | refine K3 ?_ | refine K4 ?_ | (refine CV_pu ?_; intro _ _ _ _) | refine fV_ldN ?_ | refine fV_ld1 ?_ | refine fHV_ldN ?_ | refine fHV_ld1 ?_ | refine NilW_some ?_ | refine iCW_1 ?_ | refine iCW_N ?_ | refine Pk_b ?_))
      refine Cond_b (fun hsk => ?_) (fun hsk => ?_)
      · have hsk' : (f.tr r.cond).mode = 0 ∨ (f.tr r.cond).delayed = true := by
          simp only [cond_eq_ite] at hsk
          by_cases e : (f.tr r.cond).mode = 0 <;> simp [e] at hsk ⊢
          exact hsk
        rw [if_pos hsk'] at hendr
        refine iEnd (st := .busy) (pend := none) ?_
        intro w23 hS23
        (repeat (first | (refine iDr ?_; intro _ _) | refine V_run ?_ | refine PV_run ?_ | refine HV_run ?_ | refine iV_ld1 ?_ | refine iV_ldN ?_ | (refine iV_bx ?_; intro _ _ _ _) | (refine iV_al ?_; intro _ _ _ _) | (refine iV_mm ?_; intro _ _ _ _) | (refine iU_st ?_; intro _ _) | refine iHV_1 ?_ | refine iHV_N ?_ | refine iRI_1 ?_ | refine iRI_N ?_ | refine Cond_t ?_ | refine Cond_f ?_ | refine JB ?_ | (refine JC ?_; intro _ _ _ _) | (refine J1 ?_; intro _ _) | (refine J0 ?_; intro _ _) | (refine J2 ?_; intro _ _) | (refine J3 ?_; intro _ _) | (refine J4 ?_; intro _ _) | refine K1 ?_ | refine K0 ?_ | refine K2 ?_ | refine K3 ?_ | refine K4 ?_ | (refine CV_pu ?_; intro _ _ _ _) | refine fV_ldN ?_ | refine fV_ld1 ?_ | refine fHV_ldN ?_ | refine fHV_ld1 ?_ | refine NilW_some ?_ | refine iCW_1 ?_ | refine iCW_N ?_ | refine Pk_b ?_))
        have hle := ‹Le z22 _›
        refine back (k + 1) _ ⟨by omega, by rw [hendr, hrest], _, V, (hz2.trans hz22).trans hle, by rw [hrest]; exact htl22.mono hle, Res.tl (Res.tl (Res.tl hS23))⟩ (by omega)
      · have hsk' : ¬ ((f.tr r.cond).mode = 0 ∨ (f.tr r.cond).delayed = true) := by
          simp only [cond_eq_ite] at hsk
          by_cases e : (f.tr r.cond).mode = 0 <;> simp [e] at hsk ⊢
          exact hsk
        rw [if_neg hsk'] at hendr
        (repeat (first | (refine iDr ?_; intro _ _) | refine V_run ?_ | refine PV_run ?_ | refine HV_run ?_ | refine iV_ld1 ?_ | refine iV_ldN ?_ | (refine iV_bx ?_; intro _ _ _ _) | (refine iV_al ?_; intro _ _ _ _) | (refine iV_mm ?_; intro _ _ _ _) | (refine iU_st ?_; intro _ _) | refine iHV_1 ?_ | refine iHV_N ?_ | refine iRI_1 ?_ | refine iRI_N ?_ | refine Cond_t ?_ | refine Cond_f ?_ | refine JB ?_ | (refine JC ?_; intro _ _ _ _) | (refine J1 ?_; intro _ _) | (refine J0 ?_; intro _ _) | (refine J2 ?_; intro _ _) | (refine J3 ?_; intro _ _) | (refine J4 ?_; intro _ _) | refine K1 ?_ | refine K0 ?_ | refine K2 ?_ | refine K3 ?_ | refine K4 ?_ | (refine CV_pu ?_; intro _ _ _ _) | refine fV_ldN ?_ | refine fV_ld1 ?_ | refine fHV_ldN ?_ | refine fHV_ld1 ?_ | refine NilW_some ?_ | refine iCW_1 ?_ | refine iCW_N ?_ | refine Pk_b ?_))
        refine Cond_d (fun hm1 => ?_) (fun hm1 => ?_)
        · rw [if_pos hm1] at hendr
          (repeat (first | (refine iDr ?_; intro _ _) | refine V_run ?_ | refine PV_run ?_ | refine HV_run ?_ | refine iV_ld1 ?_ | refine iV_ldN ?_ | (refine iV_bx ?_; intro _ _ _ _) | (refine iV_al ?_; intro _ _ _ _) | (refine iV_mm ?_; intro _ _ _ _) | (refine iU_st ?_; intro _ _) | refine iHV_1 ?_ | refine iHV_N ?_ | refine iRI_1 ?_ | refine iRI_N ?_ | refine Cond_t ?_ | refine Cond_f ?_ | refine JB ?_ | (refine JC ?_; intro _ _ _ _) | (refine J1 ?_; intro _ _) | (refine J0 ?_; intro _ _) | (refine J2 ?_; intro _ _) | (refine J3 ?_; intro _ _) | (refine J4 ?_; intro _ _) | refine K1 ?_ | refine K0 ?_ | refine K2 ?_ | refine K3 ?_ | refine K4 ?_ | (refine CV_pu ?_; intro _ _ _ _) | refine fV_ldN ?_ | refine fV_ld1 ?_ | refine fHV_ldN ?_ | refine fHV_ld1 ?_ | refine NilW_some ?_ | refine iCW_1 ?_ | refine iCW_N ?_ | refine Pk_b ?_))
          rename_i hSe
          have hle := ‹Le z22 _›
          refine CV_fn (B := mxB mb fb tb (pre.length + 1) ps sp ts cap tcap f [] V) (F := [(b12, _), (b11, _), (b17, _), (l0, lobj lp .busy none), (r0, .deferred (some [])), (bp, _), (b10, .cells [.int .i64 0, .string ⟨#[]⟩, .int .i64 0, .string ⟨#[]⟩].toArray 39 (0, 0)), (b9, .cells [.int .i64 0].toArray 31 (0, 0)), (b8, .cells [.int .i64 0, .string ⟨#[]⟩, .int .i64 0, .string ⟨#[]⟩].toArray 39 (0, 0)), (b4, _)]) (hSe.perm (List.perm_append_comm (l₁ := [(b12, _), (b11, _), (b17, _), (l0, _), (r0, _), (bp, _), (b10, _), (b9, _), (b8, _), (b4, _)]) (l₂ := mxB mb fb tb (pre.length + 1) ps sp ts cap tcap f [] V))) (signalP rfl (hx22.z hle) hro.1 hro.2 hpre hrd) (by simp) ?_
          rintro z13 B13 w13 v13 hle13 hS13 ⟨rfl, hM⟩
          dsimp only [AcM.v, AcM.cells] at *
          (repeat (first | (refine iDr ?_; intro _ _) | refine V_run ?_ | refine PV_run ?_ | refine HV_run ?_ | refine iV_ld1 ?_ | refine iV_ldN ?_ | (refine iV_bx ?_; intro _ _ _ _) | (refine iV_al ?_; intro _ _ _ _) | (refine iV_mm ?_; intro _ _ _ _) | (refine iU_st ?_; intro _ _) | refine iHV_1 ?_ | refine iHV_N ?_ | refine iRI_1 ?_ | refine iRI_N ?_ | refine Cond_t ?_ | refine Cond_f ?_ | refine JB ?_ | (refine JC ?_; intro _ _ _ _) | (refine J1 ?_; intro _ _) | (refine J0 ?_; intro _ _) | (refine J2 ?_; intro _ _) | (refine J3 ?_; intro _ _) | (refine J4 ?_; intro _ _) | refine K1 ?_ | refine K0 ?_ | refine K2 ?_ | refine K3 ?_ | refine K4 ?_ | (refine CV_pu ?_; intro _ _ _ _) | refine fV_ldN ?_ | refine fV_ld1 ?_ | refine fHV_ldN ?_ | refine fHV_ld1 ?_ | refine NilW_some ?_ | refine iCW_1 ?_ | refine iCW_N ?_ | refine Pk_b ?_))
          refine iEnd (st := .busy) (pend := none) ?_
          intro w23 hS23
          (repeat (first | (refine iDr ?_; intro _ _) | refine V_run ?_ | refine PV_run ?_ | refine HV_run ?_ | refine iV_ld1 ?_ | refine iV_ldN ?_ | (refine iV_bx ?_; intro _ _ _ _) | (refine iV_al ?_; intro _ _ _ _) | (refine iV_mm ?_; intro _ _ _ _) | (refine iU_st ?_; intro _ _) | refine iHV_1 ?_ | refine iHV_N ?_ | refine iRI_1 ?_ | refine iRI_N ?_ | refine Cond_t ?_ | refine Cond_f ?_ | refine JB ?_ | (refine JC ?_; intro _ _ _ _) | (refine J1 ?_; intro _ _) | (refine J0 ?_; intro _ _) | (refine J2 ?_; intro _ _) | (refine J3 ?_; intro _ _) | (refine J4 ?_; intro _ _) | refine K1 ?_ | refine K0 ?_ | refine K2 ?_ | refine K3 ?_ | refine K4 ?_ | (refine CV_pu ?_; intro _ _ _ _) | refine fV_ldN ?_ | refine fV_ld1 ?_ | refine fHV_ldN ?_ | refine fHV_ld1 ?_ | refine NilW_some ?_ | refine iCW_1 ?_ | refine iCW_N ?_ | refine Pk_b ?_))
          refine iRfEnd (st := .done) (pend := some (.exit 0)) (by intro h; cases h) ?_
          intro w24 hS24
          show KJ [.iface r0 undef] w24
          refine K1 ?_
          (repeat (first | (refine iDr ?_; intro _ _) | refine V_run ?_ | refine PV_run ?_ | refine HV_run ?_ | refine iV_ld1 ?_ | refine iV_ldN ?_ | (refine iV_bx ?_; intro _ _ _ _) | (refine iV_al ?_; intro _ _ _ _) | (refine iV_mm ?_; intro _ _ _ _) | (refine iU_st ?_; intro _ _) | refine iHV_1 ?_ | refine iHV_N ?_ | refine iRI_1 ?_ | refine iRI_N ?_ | refine Cond_t ?_ | refine Cond_f ?_ | refine JB ?_ | (refine JC ?_; intro _ _ _ _) | (refine J1 ?_; intro _ _) | (refine J0 ?_; intro _ _) | (refine J2 ?_; intro _ _) | (refine J3 ?_; intro _ _) | (refine J4 ?_; intro _ _) | refine K1 ?_ | refine K0 ?_ | refine K2 ?_ | refine K3 ?_ | refine K4 ?_ | (refine CV_pu ?_; intro _ _ _ _) | refine fV_ldN ?_ | refine fV_ld1 ?_ | refine fHV_ldN ?_ | refine fHV_ld1 ?_ | refine NilW_some ?_ | refine iCW_1 ?_ | refine iCW_N ?_ | refine Pk_b ?_))
          refine iTakeW ?_
          refine iTake ?_
          intro w25 hS25
          (repeat (first | (refine iDr ?_; intro _ _) | refine V_run ?_ | refine PV_run ?_ | refine HV_run ?_ | refine iV_ld1 ?_ | refine iV_ldN ?_ | (refine iV_bx ?_; intro _ _ _ _) | (refine iV_al ?_; intro _ _ _ _) | (refine iV_mm ?_; intro _ _ _ _) | (refine iU_st ?_; intro _ _) | refine iHV_1 ?_ | refine iHV_N ?_ | refine iRI_1 ?_ | refine iRI_N ?_ | refine Cond_t ?_ | refine Cond_f ?_ | refine JB ?_ | (refine JC ?_; intro _ _ _ _) | (refine J1 ?_; intro _ _) | (refine J0 ?_; intro _ _) | (refine J2 ?_; intro _ _) | (refine J3 ?_; intro _ _) | (refine J4 ?_; intro _ _) | refine K1 ?_ | refine K0 ?_ | refine K2 ?_ | refine K3 ?_ | refine K4 ?_ | (refine CV_pu ?_; intro _ _ _ _) | refine fV_ldN ?_ | refine fV_ld1 ?_ | refine fHV_ldN ?_ | refine fHV_ld1 ?_ | refine NilW_some ?_ | refine iCW_1 ?_ | refine iCW_N ?_ | refine Pk_b ?_))
          obtain ⟨z26, B26, hS26, hMR⟩ := Mach.toR (hS25.sublist (List.sublist_append_left _ _)) hM
          exact ⟨z26, B26, hS26, by rw [hendr, OpR, if_pos rfl]; exact ⟨rfl, hMR⟩⟩
        · rw [if_neg hm1] at hendr
          (repeat (first | (refine iDr ?_; intro _ _) | refine V_run ?_ | refine PV_run ?_ | refine HV_run ?_ | refine iV_ld1 ?_ | refine iV_ldN ?_ | (refine iV_bx ?_; intro _ _ _ _) | (refine iV_al ?_; intro _ _ _ _) | (refine iV_mm ?_; intro _ _ _ _) | (refine iU_st ?_; intro _ _) | refine iHV_1 ?_ | refine iHV_N ?_ | refine iRI_1 ?_ | refine iRI_N ?_ | refine Cond_t ?_ | refine Cond_f ?_ | refine JB ?_ | (refine JC ?_; intro _ _ _ _) | (refine J1 ?_; intro _ _) | (refine J0 ?_; intro _ _) | (refine J2 ?_; intro _ _) | (refine J3 ?_; intro _ _) | (refine J4 ?_; intro _ _) | refine K1 ?_ | refine K0 ?_ | refine K2 ?_ | refine K3 ?_ | refine K4 ?_ | (refine CV_pu ?_; intro _ _ _ _) | refine fV_ldN ?_ | refine fV_ld1 ?_ | refine fHV_ldN ?_ | refine fHV_ld1 ?_ | refine NilW_some ?_ | refine iCW_1 ?_ | refine iCW_N ?_ | refine Pk_b ?_))
          refine Cond_d (fun h30 => ?_) (fun h30 => ?_)
          · rw [if_pos (by omega)] at hendr
            (repeat (first | (refine iDr ?_; intro _ _) | refine V_run ?_ | refine PV_run ?_ | refine HV_run ?_ | refine iV_ld1 ?_ | refine iV_ldN ?_ | (refine iV_bx ?_; intro _ _ _ _) | (refine iV_al ?_; intro _ _ _ _) | (refine iV_mm ?_; intro _ _ _ _) | (refine iU_st ?_; intro _ _) | refine iHV_1 ?_ | refine iHV_N ?_ | refine iRI_1 ?_ | refine iRI_N ?_ | refine Cond_t ?_ | refine Cond_f ?_ | refine JB ?_ | (refine JC ?_; intro _ _ _ _) | (refine J1 ?_; intro _ _) | (refine J0 ?_; intro _ _) | (refine J2 ?_; intro _ _) | (refine J3 ?_; intro _ _) | (refine J4 ?_; intro _ _) | refine K1 ?_ | refine K0 ?_ | refine K2 ?_ | refine K3 ?_ | refine K4 ?_ | (refine CV_pu ?_; intro _ _ _ _) | refine fV_ldN ?_ | refine fV_ld1 ?_ | refine fHV_ldN ?_ | refine fHV_ld1 ?_ | refine NilW_some ?_ | refine iCW_1 ?_ | refine iCW_N ?_ | refine Pk_b ?_))
            refine iEnd (st := .busy) (pend := none) ?_
            intro w23 hS23
            (repeat (first | (refine iDr ?_; intro _ _) | refine V_run ?_ | refine PV_run ?_ | refine HV_run ?_ | refine iV_ld1 ?_ | refine iV_ldN ?_ | (refine iV_bx ?_; intro _ _ _ _) | (refine iV_al ?_; intro _ _ _ _) | (refine iV_mm ?_; intro _ _ _ _) | (refine iU_st ?_; intro _ _) | refine iHV_1 ?_ | refine iHV_N ?_ | refine iRI_1 ?_ | refine iRI_N ?_ | refine Cond_t ?_ | refine Cond_f ?_ | refine JB ?_ | (refine JC ?_; intro _ _ _ _) | (refine J1 ?_; intro _ _) | (refine J0 ?_; intro _ _) | (refine J2 ?_; intro _ _) | (refine J3 ?_; intro _ _) | (refine J4 ?_; intro _ _) | refine K1 ?_ | refine K0 ?_ | refine K2 ?_ | refine K3 ?_ | refine K4 ?_ | (refine CV_pu ?_; intro _ _ _ _) | refine fV_ldN ?_ | refine fV_ld1 ?_ | refine fHV_ldN ?_ | refine fHV_ld1 ?_ | refine NilW_some ?_ | refine iCW_1 ?_ | refine iCW_N ?_ | refine Pk_b ?_))
            refine iRfEnd (st := .done) (pend := some .ret) (by intro h; cases h) ?_
            intro w24 hS24
            dsimp only [jumpK]
            refine iTake ?_
            intro w25 hS25
            (repeat (first | (refine iDr ?_; intro _ _) | refine V_run ?_ | refine PV_run ?_ | refine HV_run ?_ | refine iV_ld1 ?_ | refine iV_ldN ?_ | (refine iV_bx ?_; intro _ _ _ _) | (refine iV_al ?_; intro _ _ _ _) | (refine iV_mm ?_; intro _ _ _ _) | (refine iU_st ?_; intro _ _) | refine iHV_1 ?_ | refine iHV_N ?_ | refine iRI_1 ?_ | refine iRI_N ?_ | refine Cond_t ?_ | refine Cond_f ?_ | refine JB ?_ | (refine JC ?_; intro _ _ _ _) | (refine J1 ?_; intro _ _) | (refine J0 ?_; intro _ _) | (refine J2 ?_; intro _ _) | (refine J3 ?_; intro _ _) | (refine J4 ?_; intro _ _) | refine K1 ?_ | refine K0 ?_ | refine K2 ?_ | refine K3 ?_ | refine K4 ?_ | (refine CV_pu ?_; intro _ _ _ _) | refine fV_ldN ?_ | refine fV_ld1 ?_ | refine fHV_ldN ?_ | refine fHV_ld1 ?_ | refine NilW_some ?_ | refine iCW_1 ?_ | refine iCW_N ?_ | refine Pk_b ?_))
            exact ⟨_, _, ‹_›, by rw [hendr]; simp only [OpR]; rfl⟩
          · rw [if_neg (by omega)] at hendr
            rename_i hSe
            have hle := ‹Le z22 _›
            obtain ⟨z23, hz23, hS23, hfr, hv1⟩ := trapsFreeze (L := [(b12, _), (b11, _), (b17, _), (l0, _), (r0, _), (bp, _), (b10, _), (b9, _), (b8, _), (b4, _), (mb, _), (fb, _)]) (hx22.z hle) (hSe.perm (List.perm_append_comm (l₁ := [(b12, _), (b11, _), (b17, _), (l0, _), (r0, _), (bp, _), (b10, _), (b9, _), (b8, _), (b4, _), (mb, _), (fb, _)]) (l₂ := [(tb, _)])))
            clear hSe hS22
            have htl23 := htl22.mono (hle.trans hz23)
            refine J1cut (fun a w' => ∃ b13 tb3 ts3 cap4 z', a = .pointer (some ⟨b13, 0, none⟩) ∧ Le z23 z' ∧ (6 ≤ cap4 ∧ cap4 ≤ maxLen ∧ 18 + ts3.length = cap4 * 3) ∧ Res w z B w' z' ((b13, .cells [.slice (some ⟨tb3, 0, none⟩) 6 cap4, .slice none 0 0, .int .i64 r.cond, .int .i64 2, .string r.desc].toArray 63 (0, 0)) :: (tb3, .cells (f.traps.flatMap TrM.cells ++ ts3).toArray 73 (0, 0)) :: [(b12, .cells [.int .i64 (f.tr r.cond).mode, .string (f.tr r.cond).label, .bool (f.tr r.cond).delayed].toArray 73 (0, 0)), (b11, .cells [.int .i64 r.cond, .string r.desc].toArray 70 (0, 0)), (b17, .cells [.int .i64 r.cond, .string r.desc].toArray 70 (0, 0)), (l0, lobj lp .busy none), (r0, .deferred (some [])), (bp, .cells [.pointer (some ⟨mb, 0, none⟩)].toArray 113 (0, 0)), (b10, .cells [.int .i64 0, .string ⟨#[]⟩, .int .i64 0, .string ⟨#[]⟩].toArray 39 (0, 0)), (b9, .cells [.int .i64 0].toArray 31 (0, 0)), (b8, .cells [.int .i64 0, .string ⟨#[]⟩, .int .i64 0, .string ⟨#[]⟩].toArray 39 (0, 0)), (b4, .cells [.pointer (some ⟨mb, 0, none⟩)].toArray 113 (0, 0)), (mb, .cells [.slice (some ⟨fb, 0, none⟩) (pre.length + 1) cap].toArray 134 (0, 0)), (fb, .cells (ps ++ (.slice (some ⟨tb, 0, none⟩) 6 tcap :: V :: .int .i64 f.info.cond :: .int .i64 f.info.mode :: .string f.info.desc :: sp)).toArray 63 (0, 0))])) ?_ ?_
            rotate_left
            · intro KJ3 hJ3
              have hclone : ∀ (w' : World) (L' : Bl) (K : Value → World → Prop), Res w z B w' z23 L' → (∀ tb3 ts3 cap4 z' w'', Le z23 z' → (6 ≤ cap4 ∧ cap4 ≤ maxLen ∧ 18 + ts3.length = cap4 * 3) → Res w z B w'' z' ((tb3, .cells (f.traps.flatMap TrM.cells ++ ts3).toArray 73 (0, 0)) :: L') → K (.slice (some ⟨tb3, 0, none⟩) 6 cap4) w'') → CV (.func (.func 31) #[] #[]) #[.slice (some ⟨tb, 0, none⟩) 6 tcap] w' K := fun w' L' K hR hk => by
                refine CV_fn0 (fun _ => cloneTraps hv1 (by omega)) ?_
                rintro z24 B24 w24 v24 hle24 hS24 ho24
                rcases ho24.2 with ⟨_, _, h0⟩ | ⟨tb3, cap4, ts3, rfl, rfl, l1, l2, l3⟩
                · omega
                · rw [h6] at l1 ⊢
                  have hfl := ho24.1
                  rw [List.length_append, hfl, h6] at l3
                  exact hk _ _ _ _ _ hle24 ⟨l1, l2, by omega⟩ hS24
              (repeat (first | (refine iDr ?_; intro _ _) | refine V_run ?_ | refine PV_run ?_ | refine HV_run ?_ | refine iV_ld1 ?_ | refine iV_ldN ?_ | (refine iV_bx ?_; intro _ _ _ _) | (refine iV_al ?_; intro _ _ _ _) | (refine iV_mm ?_; intro _ _ _ _) | (refine iU_st ?_; intro _ _) | refine iHV_1 ?_ | refine iHV_N ?_ | refine iRI_1 ?_ | refine iRI_N ?_ | refine Cond_t ?_ | refine Cond_f ?_ | refine JB ?_ | (refine JC ?_; intro _ _ _ _) | (refine J1 ?_; intro _ _) | (refine J0 ?_; intro _ _) | (refine J2 ?_; intro _ _) | (refine J3 ?_; intro _ _) | (refine J4 ?_; intro _ _) | refine K1 ?_ | refine K0 ?_ | refine K2 ?_ | refine K3 ?_ | refine K4 ?_ | (refine CV_pu ?_; intro _ _ _ _) | refine fV_ldN ?_ | refine fV_ld1 ?_ | refine fHV_ldN ?_ | refine fHV_ld1 ?_ | refine NilW_some ?_ | refine iCW_1 ?_ | refine iCW_N ?_ | refine Pk_b ?_))
              refine ⟨?_, ?_⟩
              · refine CV_now (n := pre.length) (o := ps.length) hlen.symm (by simp only [big]; omega) ?_
                intro w24 hS24
                (repeat (first | (refine iDr ?_; intro _ _) | refine V_run ?_ | refine PV_run ?_ | refine HV_run ?_ | refine iV_ld1 ?_ | refine iV_ldN ?_ | (refine iV_bx ?_; intro _ _ _ _) | (refine iV_al ?_; intro _ _ _ _) | (refine iV_mm ?_; intro _ _ _ _) | (refine iU_st ?_; intro _ _) | refine iHV_1 ?_ | refine iHV_N ?_ | refine iRI_1 ?_ | refine iRI_N ?_ | refine Cond_t ?_ | refine Cond_f ?_ | refine JB ?_ | (refine JC ?_; intro _ _ _ _) | (refine J1 ?_; intro _ _) | (refine J0 ?_; intro _ _) | (refine J2 ?_; intro _ _) | (refine J3 ?_; intro _ _) | (refine J4 ?_; intro _ _) | refine K1 ?_ | refine K0 ?_ | refine K2 ?_ | refine K3 ?_ | refine K4 ?_ | (refine CV_pu ?_; intro _ _ _ _) | refine fV_ldN ?_ | refine fV_ld1 ?_ | refine fHV_ldN ?_ | refine fHV_ld1 ?_ | refine NilW_some ?_ | refine iCW_1 ?_ | refine iCW_N ?_ | refine Pk_b ?_))
                refine ⟨?_, ?_⟩
                · refine hclone _ _ _ ‹_› ?_
                  intro tb3 ts3 cap4 z25 w25 hz25 hcc hS25
                  (repeat (first | (refine iDr ?_; intro _ _) | refine V_run ?_ | refine PV_run ?_ | refine HV_run ?_ | refine iV_ld1 ?_ | refine iV_ldN ?_ | (refine iV_bx ?_; intro _ _ _ _) | (refine iV_al ?_; intro _ _ _ _) | (refine iV_mm ?_; intro _ _ _ _) | (refine iU_st ?_; intro _ _) | refine iHV_1 ?_ | refine iHV_N ?_ | refine iRI_1 ?_ | refine iRI_N ?_ | refine Cond_t ?_ | refine Cond_f ?_ | refine JB ?_ | (refine JC ?_; intro _ _ _ _) | (refine J1 ?_; intro _ _) | (refine J0 ?_; intro _ _) | (refine J2 ?_; intro _ _) | (refine J3 ?_; intro _ _) | (refine J4 ?_; intro _ _) | refine K1 ?_ | refine K0 ?_ | refine K2 ?_ | refine K3 ?_ | refine K4 ?_ | (refine CV_pu ?_; intro _ _ _ _) | refine fV_ldN ?_ | refine fV_ld1 ?_ | refine fHV_ldN ?_ | refine fHV_ld1 ?_ | refine NilW_some ?_ | refine iCW_1 ?_ | refine iCW_N ?_ | refine Pk_b ?_))
                  exact ⟨_, tb3, ts3, cap4, z25, rfl, hz25, hcc, ‹_›⟩
                · (repeat (first | (refine iDr ?_; intro _ _) | refine V_run ?_ | refine PV_run ?_ | refine HV_run ?_ | refine iV_ld1 ?_ | refine iV_ldN ?_ | (refine iV_bx ?_; intro _ _ _ _) | (refine iV_al ?_; intro _ _ _ _) | (refine iV_mm ?_; intro _ _ _ _) | (refine iU_st ?_; intro _ _) | refine iHV_1 ?_ | refine iHV_N ?_ | refine iRI_1 ?_ | refine iRI_N ?_ | refine Cond_t ?_ | refine Cond_f ?_ | refine JB ?_ | (refine JC ?_; intro _ _ _ _) | (refine J1 ?_; intro _ _) | (refine J0 ?_; intro _ _) | (refine J2 ?_; intro _ _) | (refine J3 ?_; intro _ _) | (refine J4 ?_; intro _ _) | refine K1 ?_ | refine K0 ?_ | refine K2 ?_ | refine K3 ?_ | refine K4 ?_ | (refine CV_pu ?_; intro _ _ _ _) | refine fV_ldN ?_ | refine fV_ld1 ?_ | refine fHV_ldN ?_ | refine fHV_ld1 ?_ | refine NilW_some ?_ | refine iCW_1 ?_ | refine iCW_N ?_ | refine Pk_b ?_))
                  refine hclone _ _ _ ‹_› ?_
                  intro tb3 ts3 cap4 z25 w25 hz25 hcc hS25
                  (repeat (first | (refine iDr ?_; intro _ _) | refine V_run ?_ | refine PV_run ?_ | refine HV_run ?_ | refine iV_ld1 ?_ | refine iV_ldN ?_ | (refine iV_bx ?_; intro _ _ _ _) | (refine iV_al ?_; intro _ _ _ _) | (refine iV_mm ?_; intro _ _ _ _) | (refine iU_st ?_; intro _ _) | refine iHV_1 ?_ | refine iHV_N ?_ | refine iRI_1 ?_ | refine iRI_N ?_ | refine Cond_t ?_ | refine Cond_f ?_ | refine JB ?_ | (refine JC ?_; intro _ _ _ _) | (refine J1 ?_; intro _ _) | (refine J0 ?_; intro _ _) | (refine J2 ?_; intro _ _) | (refine J3 ?_; intro _ _) | (refine J4 ?_; intro _ _) | refine K1 ?_ | refine K0 ?_ | refine K2 ?_ | refine K3 ?_ | refine K4 ?_ | (refine CV_pu ?_; intro _ _ _ _) | refine fV_ldN ?_ | refine fV_ld1 ?_ | refine fHV_ldN ?_ | refine fHV_ld1 ?_ | refine NilW_some ?_ | refine iCW_1 ?_ | refine iCW_N ?_ | refine Pk_b ?_))
                  rename_i hSq
                  exact ⟨_, tb3, ts3, cap4, z25, rfl, hz25, hcc, hSq.perm (.swap _ _ _)⟩
              · (repeat (first | (refine iDr ?_; intro _ _) | refine V_run ?_ | refine PV_run ?_ | refine HV_run ?_ | refine iV_ld1 ?_ | refine iV_ldN ?_ | (refine iV_bx ?_; intro _ _ _ _) | (refine iV_al ?_; intro _ _ _ _) | (refine iV_mm ?_; intro _ _ _ _) | (refine iU_st ?_; intro _ _) | refine iHV_1 ?_ | refine iHV_N ?_ | refine iRI_1 ?_ | refine iRI_N ?_ | refine Cond_t ?_ | refine Cond_f ?_ | refine JB ?_ | (refine JC ?_; intro _ _ _ _) | (refine J1 ?_; intro _ _) | (refine J0 ?_; intro _ _) | (refine J2 ?_; intro _ _) | (refine J3 ?_; intro _ _) | (refine J4 ?_; intro _ _) | refine K1 ?_ | refine K0 ?_ | refine K2 ?_ | refine K3 ?_ | refine K4 ?_ | (refine CV_pu ?_; intro _ _ _ _) | refine fV_ldN ?_ | refine fV_ld1 ?_ | refine fHV_ldN ?_ | refine fHV_ld1 ?_ | refine NilW_some ?_ | refine iCW_1 ?_ | refine iCW_N ?_ | refine Pk_b ?_))
                refine CV_now (n := pre.length) (o := ps.length) hlen.symm (by simp only [big]; omega) ?_
                intro w24 hS24
                (repeat (first | (refine iDr ?_; intro _ _) | refine V_run ?_ | refine PV_run ?_ | refine HV_run ?_ | refine iV_ld1 ?_ | refine iV_ldN ?_ | (refine iV_bx ?_; intro _ _ _ _) | (refine iV_al ?_; intro _ _ _ _) | (refine iV_mm ?_; intro _ _ _ _) | (refine iU_st ?_; intro _ _) | refine iHV_1 ?_ | refine iHV_N ?_ | refine iRI_1 ?_ | refine iRI_N ?_ | refine Cond_t ?_ | refine Cond_f ?_ | refine JB ?_ | (refine JC ?_; intro _ _ _ _) | (refine J1 ?_; intro _ _) | (refine J0 ?_; intro _ _) | (refine J2 ?_; intro _ _) | (refine J3 ?_; intro _ _) | (refine J4 ?_; intro _ _) | refine K1 ?_ | refine K0 ?_ | refine K2 ?_ | refine K3 ?_ | refine K4 ?_ | (refine CV_pu ?_; intro _ _ _ _) | refine fV_ldN ?_ | refine fV_ld1 ?_ | refine fHV_ldN ?_ | refine fHV_ld1 ?_ | refine NilW_some ?_ | refine iCW_1 ?_ | refine iCW_N ?_ | refine Pk_b ?_))
                refine hclone _ _ _ ‹_› ?_
                intro tb3 ts3 cap4 z25 w25 hz25 hcc hS25
                (repeat (first | (refine iDr ?_; intro _ _) | refine V_run ?_ | refine PV_run ?_ | refine HV_run ?_ | refine iV_ld1 ?_ | refine iV_ldN ?_ | (refine iV_bx ?_; intro _ _ _ _) | (refine iV_al ?_; intro _ _ _ _) | (refine iV_mm ?_; intro _ _ _ _) | (refine iU_st ?_; intro _ _) | refine iHV_1 ?_ | refine iHV_N ?_ | refine iRI_1 ?_ | refine iRI_N ?_ | refine Cond_t ?_ | refine Cond_f ?_ | refine JB ?_ | (refine JC ?_; intro _ _ _ _) | (refine J1 ?_; intro _ _) | (refine J0 ?_; intro _ _) | (refine J2 ?_; intro _ _) | (refine J3 ?_; intro _ _) | (refine J4 ?_; intro _ _) | refine K1 ?_ | refine K0 ?_ | refine K2 ?_ | refine K3 ?_ | refine K4 ?_ | (refine CV_pu ?_; intro _ _ _ _) | refine fV_ldN ?_ | refine fV_ld1 ?_ | refine fHV_ldN ?_ | refine fHV_ld1 ?_ | refine NilW_some ?_ | refine iCW_1 ?_ | refine iCW_N ?_ | refine Pk_b ?_))
                rename_i hSq
                exact ⟨_, tb3, ts3, cap4, z25, rfl, hz25, hcc, hSq.perm (.swap _ _ _)⟩
            · rintro _ w25 ⟨b13, tb3, ts3, cap4, z25, rfl, hz25, hcc, hS25⟩
              obtain ⟨tp, tq, hsp, htl, hput⟩ := FrM.split h6 hro.1 hro.2
              have hoff : r.cond.toNat * 3 = (tp.flatMap TrM.cells).length := by rw [flat_len (f := TrM.cells) (n := 3) (fun _ => rfl), htl]
              haveI : InR r.cond (6 : Nat) := ⟨hro.1, by omega⟩
              have hfl : f.traps.flatMap TrM.cells ++ ts3 = tp.flatMap TrM.cells ++ (.int .i64 (f.tr r.cond).mode :: .string (f.tr r.cond).label :: .bool (f.tr r.cond).delayed :: (tq.flatMap TrM.cells ++ ts3)) := by
                conv => lhs; rw [hsp]
                simp only [List.flatMap_append, List.flatMap_cons, TrM.cells, List.append_assoc, List.cons_append, List.nil_append]
              rw [hfl] at hS25
              generalize htps : tp.flatMap TrM.cells = tps at *
              (repeat (first | (refine iDr ?_; intro _ _) | refine V_run ?_ | refine PV_run ?_ | refine HV_run ?_ | refine iV_ld1 ?_ | refine iV_ldN ?_ | (refine iV_bx ?_; intro _ _ _ _) | (refine iV_al ?_; intro _ _ _ _) | (refine iV_mm ?_; intro _ _ _ _) | (refine iU_st ?_; intro _ _) | refine iHV_1 ?_ | refine iHV_N ?_ | refine iRI_1 ?_ | refine iRI_N ?_ | refine Cond_t ?_ | refine Cond_f ?_ | refine JB ?_ | (refine JC ?_; intro _ _ _ _) | (refine J1 ?_; intro _ _) | (refine J0 ?_; intro _ _) | (refine J2 ?_; intro _ _) | (refine J3 ?_; intro _ _) | (refine J4 ?_; intro _ _) | refine K1 ?_ | refine K0 ?_ | refine K2 ?_ | refine K3 ?_ | refine K4 ?_ | (refine CV_pu ?_; intro _ _ _ _) | refine fV_ldN ?_ | refine fV_ld1 ?_ | refine fHV_ldN ?_ | refine fHV_ld1 ?_ | refine NilW_some ?_ | refine iCW_1 ?_ | refine iCW_N ?_ | refine Pk_b ?_))
              rw [hoff]
              (repeat (first | (refine iDr ?_; intro _ _) | refine V_run ?_ | refine PV_run ?_ | refine HV_run ?_ | refine iV_ld1 ?_ | refine iV_ldN ?_ | (refine iV_bx ?_; intro _ _ _ _) | (refine iV_al ?_; intro _ _ _ _) | (refine iV_mm ?_; intro _ _ _ _) | (refine iU_st ?_; intro _ _) | refine iHV_1 ?_ | refine iHV_N ?_ | refine iRI_1 ?_ | refine iRI_N ?_ | refine Cond_t ?_ | refine Cond_f ?_ | refine JB ?_ | (refine JC ?_; intro _ _ _ _) | (refine J1 ?_; intro _ _) | (refine J0 ?_; intro _ _) | (refine J2 ?_; intro _ _) | (refine J3 ?_; intro _ _) | (refine J4 ?_; intro _ _) | refine K1 ?_ | refine K0 ?_ | refine K2 ?_ | refine K3 ?_ | refine K4 ?_ | (refine CV_pu ?_; intro _ _ _ _) | refine fV_ldN ?_ | refine fV_ld1 ?_ | refine fHV_ldN ?_ | refine fHV_ld1 ?_ | refine NilW_some ?_ | refine iCW_1 ?_ | refine iCW_N ?_ | refine Pk_b ?_))
              refine V_bs (parts := [(0, _)]) rfl (by omega) ?_
              intro b26 w26 hb26 hS26
              (repeat (first | (refine iDr ?_; intro _ _) | refine V_run ?_ | refine PV_run ?_ | refine HV_run ?_ | refine iV_ld1 ?_ | refine iV_ldN ?_ | (refine iV_bx ?_; intro _ _ _ _) | (refine iV_al ?_; intro _ _ _ _) | (refine iV_mm ?_; intro _ _ _ _) | (refine iU_st ?_; intro _ _) | refine iHV_1 ?_ | refine iHV_N ?_ | refine iRI_1 ?_ | refine iRI_N ?_ | refine Cond_t ?_ | refine Cond_f ?_ | refine JB ?_ | (refine JC ?_; intro _ _ _ _) | (refine J1 ?_; intro _ _) | (refine J0 ?_; intro _ _) | (refine J2 ?_; intro _ _) | (refine J3 ?_; intro _ _) | (refine J4 ?_; intro _ _) | refine K1 ?_ | refine K0 ?_ | refine K2 ?_ | refine K3 ?_ | refine K4 ?_ | (refine CV_pu ?_; intro _ _ _ _) | refine fV_ldN ?_ | refine fV_ld1 ?_ | refine fHV_ldN ?_ | refine fHV_ld1 ?_ | refine NilW_some ?_ | refine iCW_1 ?_ | refine iCW_N ?_ | refine Pk_b ?_))
              have hcap := hx.cap
              refine V_app (B := [(fb, _)]) (m := 1) (n := pre.length + 1) (xs := ps ++ ([.slice (some ⟨tb, 0, none⟩) 6 tcap, V] ++ f.info.cells)) (news := [.slice (some ⟨tb3, 0, none⟩) 6 cap4, .slice none 0 0, .int .i64 r.cond, .int .i64 2, .string r.desc]) (hS26.perm (List.perm_append_comm (l₁ := [_, _, _, _, _, _, _, _, _, _, _, _, _, _]) (l₂ := [(fb, _)]))) ⟨by simp; omega, .inr ⟨fb, cap, sp, by simp, rfl, hcap.1, hcap.2.1, by simp; omega⟩⟩ ⟨_, _, _, (hS26.mem _ List.mem_cons_self).1, fun j v hv => by simpa using hv⟩ rfl (fun u hu => by simp at hu; rcases hu with rfl | rfl | rfl | rfl | rfl <;> rfl) (by omega) (by simp only [room]; omega) (by simp only [room]; omega) ?_
              intro B5 v5 w27 ho5 hS27
              obtain ⟨a5, cap5, rfl, hc5⟩ := ho5.form
              (repeat (first | (refine iDr ?_; intro _ _) | refine V_run ?_ | refine PV_run ?_ | refine HV_run ?_ | refine iV_ld1 ?_ | refine iV_ldN ?_ | (refine iV_bx ?_; intro _ _ _ _) | (refine iV_al ?_; intro _ _ _ _) | (refine iV_mm ?_; intro _ _ _ _) | (refine iU_st ?_; intro _ _) | refine iHV_1 ?_ | refine iHV_N ?_ | refine iRI_1 ?_ | refine iRI_N ?_ | refine Cond_t ?_ | refine Cond_f ?_ | refine JB ?_ | (refine JC ?_; intro _ _ _ _) | (refine J1 ?_; intro _ _) | (refine J0 ?_; intro _ _) | (refine J2 ?_; intro _ _) | (refine J3 ?_; intro _ _) | (refine J4 ?_; intro _ _) | refine K1 ?_ | refine K0 ?_ | refine K2 ?_ | refine K3 ?_ | refine K4 ?_ | (refine CV_pu ?_; intro _ _ _ _) | refine fV_ldN ?_ | refine fV_ld1 ?_ | refine fHV_ldN ?_ | refine fHV_ld1 ?_ | refine NilW_some ?_ | refine iCW_1 ?_ | refine iCW_N ?_ | refine Pk_b ?_))
              refine iEnd (st := .busy) (pend := none) ?_
              intro w28 hS28
              (repeat (first | (refine iDr ?_; intro _ _) | refine V_run ?_ | refine PV_run ?_ | refine HV_run ?_ | refine iV_ld1 ?_ | refine iV_ldN ?_ | (refine iV_bx ?_; intro _ _ _ _) | (refine iV_al ?_; intro _ _ _ _) | (refine iV_mm ?_; intro _ _ _ _) | (refine iU_st ?_; intro _ _) | refine iHV_1 ?_ | refine iHV_N ?_ | refine iRI_1 ?_ | refine iRI_N ?_ | refine Cond_t ?_ | refine Cond_f ?_ | refine JB ?_ | (refine JC ?_; intro _ _ _ _) | (refine J1 ?_; intro _ _) | (refine J0 ?_; intro _ _) | (refine J2 ?_; intro _ _) | (refine J3 ?_; intro _ _) | (refine J4 ?_; intro _ _) | refine K1 ?_ | refine K0 ?_ | refine K2 ?_ | refine K3 ?_ | refine K4 ?_ | (refine CV_pu ?_; intro _ _ _ _) | refine fV_ldN ?_ | refine fV_ld1 ?_ | refine fHV_ldN ?_ | refine fHV_ld1 ?_ | refine NilW_some ?_ | refine iCW_1 ?_ | refine iCW_N ?_ | refine Pk_b ?_))
              refine iRfEnd (st := .done) (pend := some (.exit 0)) (by intro h; cases h) ?_
              intro w29 hS29
              show KJ [.iface r0 undef] w29
              refine K1 ?_
              (repeat (first | (refine iDr ?_; intro _ _) | refine V_run ?_ | refine PV_run ?_ | refine HV_run ?_ | refine iV_ld1 ?_ | refine iV_ldN ?_ | (refine iV_bx ?_; intro _ _ _ _) | (refine iV_al ?_; intro _ _ _ _) | (refine iV_mm ?_; intro _ _ _ _) | (refine iU_st ?_; intro _ _) | refine iHV_1 ?_ | refine iHV_N ?_ | refine iRI_1 ?_ | refine iRI_N ?_ | refine Cond_t ?_ | refine Cond_f ?_ | refine JB ?_ | (refine JC ?_; intro _ _ _ _) | (refine J1 ?_; intro _ _) | (refine J0 ?_; intro _ _) | (refine J2 ?_; intro _ _) | (refine J3 ?_; intro _ _) | (refine J4 ?_; intro _ _) | refine K1 ?_ | refine K0 ?_ | refine K2 ?_ | refine K3 ?_ | refine K4 ?_ | (refine CV_pu ?_; intro _ _ _ _) | refine fV_ldN ?_ | refine fV_ld1 ?_ | refine fHV_ldN ?_ | refine fHV_ld1 ?_ | refine NilW_some ?_ | refine iCW_1 ?_ | refine iCW_N ?_ | refine Pk_b ?_))
              refine iTakeW ?_
              refine iTake ?_
              intro w30 hS30
              (repeat (first | (refine iDr ?_; intro _ _) | refine V_run ?_ | refine PV_run ?_ | refine HV_run ?_ | refine iV_ld1 ?_ | refine iV_ldN ?_ | (refine iV_bx ?_; intro _ _ _ _) | (refine iV_al ?_; intro _ _ _ _) | (refine iV_mm ?_; intro _ _ _ _) | (refine iU_st ?_; intro _ _) | refine iHV_1 ?_ | refine iHV_N ?_ | refine iRI_1 ?_ | refine iRI_N ?_ | refine Cond_t ?_ | refine Cond_f ?_ | refine JB ?_ | (refine JC ?_; intro _ _ _ _) | (refine J1 ?_; intro _ _) | (refine J0 ?_; intro _ _) | (refine J2 ?_; intro _ _) | (refine J3 ?_; intro _ _) | (refine J4 ?_; intro _ _) | refine K1 ?_ | refine K0 ?_ | refine K2 ?_ | refine K3 ?_ | refine K4 ?_ | (refine CV_pu ?_; intro _ _ _ _) | refine fV_ldN ?_ | refine fV_ld1 ?_ | refine fHV_ldN ?_ | refine fHV_ld1 ?_ | refine NilW_some ?_ | refine iCW_1 ?_ | refine iCW_N ?_ | refine Pk_b ?_))
              have hz1z : Le z1 z25 := (((hz2.trans hz22).trans hle).trans hz23).trans hz25
              have hS31 := hS30.end14
              have hgt : (f.put r.cond { f.tr r.cond with delayed := true }).traps = tp ++ { f.tr r.cond with delayed := true } :: tq := hput _
              have hg6 : (f.put r.cond { f.tr r.cond with delayed := true }).traps.length = 6 := by simp [FrM.put, h6]
              have hmach : Mach z25 ((mb, .cells [.slice a5 (pre.length + 1 + 1) cap5].toArray 134 (0, 0)) :: (B5 ++ [(tb3, .cells ((f.put r.cond { f.tr r.cond with delayed := true }).traps.flatMap TrM.cells ++ ts3).toArray 73 (0, 0))])) mb (pre ++ callF f r rest) := by
                refine (⟨B5, [(tb3, _)], _, _, rfl, ?_, .inr ⟨pre ++ [({ f with pend := rest } : FrM)], ⟨(f.put r.cond { f.tr r.cond with delayed := true }).traps, [], ⟨r.cond, 2, r.desc⟩⟩, ps ++ ([.slice (some ⟨tb, 0, none⟩) 6 tcap, V] ++ f.info.cells), [.slice (some ⟨tb3, 0, none⟩) 6 cap4, .slice none 0 0, .int .i64 r.cond, .int .i64 2, .string r.desc], by simp [callF, FrM.put], rfl, FrsR.snoc (f := ({ f with pend := rest } : FrM)) (cs := [.slice (some ⟨tb, 0, none⟩) 6 tcap, V] ++ f.info.cells) ⟨_, _, rfl, hv1.mono hz25, htl23.mono hz25, hx.sm.2.2.2.2⟩ (FrsR.mono hz25 hfr), ⟨[(tb3, _)], [], _, _, by simp, rfl, ⟨?_, .inr ⟨tb3, cap4, ts3, rfl, ?_, ?_, hcc.2.1, ?_⟩⟩, OwnSl.nil⟩, ?_, by simp, ?_, by simp, hrd⟩⟩ : Mach z25 ((mb, _) :: (B5 ++ [(tb3, .cells ((f.put r.cond { f.tr r.cond with delayed := true }).traps.flatMap TrM.cells ++ ts3).toArray 73 (0, 0))])) mb (pre ++ callF f r rest))
                · simp only [callF, List.length_append, List.length_cons, List.length_nil, List.append_assoc, List.cons_append, List.nil_append, InM.cells] at ho5 ⊢
                  exact ho5
                · rw [flat_len (f := TrM.cells) (n := 3) (fun _ => rfl)]
                · rw [hg6]
                · rw [hg6]; exact hcc.1
                · rw [List.length_append, flat_len (f := TrM.cells) (n := 3) (fun _ => rfl), hg6]; exact hcc.2.2
                · rw [hg6]; decide
                · intro u hu
                  rw [hgt] at hu
                  rcases List.mem_append.1 hu with hu | hu
                  · exact q3 u (by rw [hsp]; exact List.mem_append_left _ hu)
                  · rcases List.mem_cons.1 hu with rfl | hu
                    · exact q3 (f.tr r.cond) (by rw [hsp]; exact List.mem_append_right _ List.mem_cons_self)
                    · exact q3 u (by rw [hsp]; exact List.mem_append_right _ (List.mem_cons_of_mem _ hu))
              rw [hgt, List.flatMap_append, List.flatMap_cons, htps, List.append_assoc] at hmach
              obtain ⟨z32, B32, hS32, hMR⟩ := Mach.toR hS31 hmach
              exact ⟨z32, B32, hS32, by rw [hendr, OpR, if_pos rfl]; exact ⟨rfl, hMR⟩⟩
  · refine iRfEnd (st := .ready) (by intro h; cases h) ?_
    intro w16 hS16
    show KJ [.iface r0 undef] w16
    refine K1 ?_
    (repeat (first | (refine iDr ?_; intro _ _) | refine V_run ?_ | refine PV_run ?_ | refine HV_run ?_ | refine iV_ld1 ?_ | refine iV_ldN ?_ | (refine iV_bx ?_; intro _ _ _ _) | (refine iV_al ?_; intro _ _ _ _) | (refine iV_mm ?_; intro _ _ _ _) | (refine iU_st ?_; intro _ _) | refine iHV_1 ?_ | refine iHV_N ?_ | refine iRI_1 ?_ | refine iRI_N ?_ | refine Cond_t ?_ | refine Cond_f ?_ | refine JB ?_ | (refine JC ?_; intro _ _ _ _) | (refine J1 ?_; intro _ _) | (refine J0 ?_; intro _ _) | (refine J2 ?_; intro _ _) | (refine J3 ?_; intro _ _) | (refine J4 ?_; intro _ _) | refine K1 ?_ | refine K0 ?_ | refine K2 ?_ | refine K3 ?_ | refine K4 ?_ | (refine CV_pu ?_; intro _ _ _ _) | refine fV_ldN ?_ | refine fV_ld1 ?_ | refine fHV_ldN ?_ | refine fHV_ld1 ?_ | refine NilW_some ?_ | refine iCW_1 ?_ | refine iCW_N ?_ | refine Pk_b ?_))
    refine iTakeW ?_
    refine iTake ?_
    intro w17 hS17
    (repeat (first | (refine iDr ?_; intro _ _) | refine V_run ?_ | refine PV_run ?_ | refine HV_run ?_ | refine iV_ld1 ?_ | refine iV_ldN ?_ | (refine iV_bx ?_; intro _ _ _ _) | (refine iV_al ?_; intro _ _ _ _) | (refine iV_mm ?_; intro _ _ _ _) | (refine iU_st ?_; intro _ _) | refine iHV_1 ?_ | refine iHV_N ?_ | refine iRI_1 ?_ | refine iRI_N ?_ | refine Cond_t ?_ | refine Cond_f ?_ | refine JB ?_ | (refine JC ?_; intro _ _ _ _) | (refine J1 ?_; intro _ _) | (refine J0 ?_; intro _ _) | (refine J2 ?_; intro _ _) | (refine J3 ?_; intro _ _) | (refine J4 ?_; intro _ _) | refine K1 ?_ | refine K0 ?_ | refine K2 ?_ | refine K3 ?_ | refine K4 ?_ | (refine CV_pu ?_; intro _ _ _ _) | refine fV_ldN ?_ | refine fV_ld1 ?_ | refine fHV_ldN ?_ | refine fHV_ld1 ?_ | refine NilW_some ?_ | refine iCW_1 ?_ | refine iCW_N ?_ | refine Pk_b ?_))
    have h0 : f.pend.drop k = [] := List.eq_nil_of_length_eq_zero (by omega)
    rw [h0] at hend hv2'
    obtain ⟨z3, B3, hS18, hM⟩ := topR (l := []) (hx1.z hz2) (by simpa [h0] using hv2') (hS17.sublist (L' := [(mb, _), (fb, _), (tb, _)]) (((((((List.Sublist.refl _).cons _).cons _).cons _).cons _).cons _).cons _ |>.cons _))
    refine ⟨z3, B3, hS18, ?_⟩
    rw [hend, OpR, endM, if_pos rfl]
    exact ⟨rfl, hM⟩)
end Go.Proofs.Ytjnckainogpenaa
end

section
/- Operations on states. -/
set_option linter.unusedVariables false
set_option linter.unusedSimpArgs false
set_option maxRecDepth 20000
set_option synthInstance.maxHeartbeats 400000
set_option synthInstance.maxSize 4000
namespace Go.Proofs.Ytjnckainogpenaa
open Go Q Go.RowKit

theorem Fn.post {f : FuncId} {args : Array Value} {z : Z} {B : Bl} {w : World} {R R' : Z → Bl → Value → Prop} (h : Fn f args z B w R) (hr : ∀ z' B' w' v, Res w z B w' z' B' → R z' B' v → ∃ z'' B'', Res w z B w' z'' B'' ∧ R' z'' B'' v) : Fn f args z B w R' :=
  fun ho => (h ho).mono (retK.mono fun v w' ⟨z', B', h1, h2⟩ => hr z' B' w' v h1 h2)
structure StepM where
  e : Int
  a : AcM
  s : StM
def lastF (s : StM) : FrM := s.getLastD ⟨[], [], noInfo⟩
def opM (s : StM) (o : OpM) : StepM :=
  let pre := s.dropLast
  let f := lastF s
  if o.kind = 1 then (if setOk o.cond o.mode o.text then ⟨0, noAct, pre ++ [f.put o.cond (setT (f.tr o.cond) o.cond o.mode o.text)]⟩ else ⟨1, noAct, []⟩)
  else if o.kind = 2 then (if descB o.text then ⟨0, raiseA f o.cond o.text, pre ++ [raiseF f o.cond o.text]⟩ else ⟨1, noAct, []⟩)
  else if o.kind = 3 then ⟨(endM s.length f f.pend).e, (endM s.length f f.pend).a, pre ++ (endM s.length f f.pend).top⟩
  else if o.kind = 4 then (if s.length = 30 then ⟨14, noAct, []⟩ else ⟨0, noAct, s ++ [pushF f]⟩)
  else (if pre.length = 0 then ⟨12, noAct, []⟩ else ⟨0, noAct, pre⟩)
theorem OpR.err {mb : Nat} {e : Int} {a : AcM} {s : StM} {z : Z} {B : Bl} {r : Value} (he : e ≠ 0) (h : r = .tuple #[noAct.v, .int .i64 e]) : OpR mb e a s z B r := by rw [OpR, if_neg he]; exact h
theorem OpR.ok {mb : Nat} {a : AcM} {s : StM} {z : Z} {B : Bl} {r : Value} (h : r = .tuple #[a.v, .int .i64 0]) (hm : MachR z B mb s) : OpR mb 0 a s z B r := by rw [OpR, if_pos rfl]; exact ⟨h, hm⟩
def opF (k : Int) : FuncId := if k = 1 then 85 else if k = 2 then 68 else if k = 3 then 69 else if k = 4 then 86 else 87
theorem opP {z : Z} {w : World} {B : Bl} {mb : Nat} {s : StM} {o : OpM} (hm : Mach z B mb s) (hck : checkB s = true) (hk : 1 ≤ o.kind ∧ o.kind ≤ 5) (hc : o.kind = 1 ∨ o.kind = 2 → 0 ≤ o.cond ∧ o.cond < 6) (ht : o.text.size ≤ big) :
    Fn (opF o.kind) #[.pointer (some ⟨mb, 0, none⟩), .int .i64 o.cond, .int .i64 o.mode, .string o.text] z B w (OpR mb (opM s o).e (opM s o).a (opM s o).s) := by
  obtain ⟨h30, hfr⟩ := checkB_fr hck
  have hne : s ≠ [] := by intro e; subst e; simp [checkB] at hck
  obtain ⟨pre, f, rfl⟩ : ∃ pre f, s = pre ++ [f] := ⟨s.dropLast, s.getLast hne, (List.dropLast_concat_getLast hne).symm⟩
  have h6 := (hfr f (by simp)).1
  have hp4 := (hfr f (by simp)).2
  have hpre : pre.length ≤ 100 := by simp at h30; omega
  have hfd : framedB f = true := by
    simp only [checkB, Bool.and_eq_true, List.all_eq_true] at hck
    exact hck.2 f (by simp)
  have hpc : ∀ r ∈ f.pend, 0 ≤ r.cond ∧ r.cond < 6 := by
    have : pendFrom [] f.pend = true := by
      simp only [framedB, Bool.and_eq_true] at hfd; exact hfd.1.2
    have key : ∀ (l had : List RaM), pendFrom had l = true → ∀ r ∈ l, 0 ≤ r.cond ∧ r.cond < 6 := by
      intro l
      induction l with
      | nil => intro _ _ r hr; cases hr
      | cons x l ih =>
        intro had h r hr
        simp only [pendFrom, Bool.and_eq_true] at h
        rcases List.mem_cons.1 hr with rfl | hr
        · have := (raOk_mem h.1).1; omega
        · exact ih _ h.2 r hr
    exact key _ _ this
  have hl : lastF (pre ++ [f]) = f := by simp [lastF]
  have hd : (pre ++ [f]).dropLast = pre := by simp
  have hlen : (pre ++ [f]).length = pre.length + 1 := by simp
  have hcase : o.kind = 1 ∨ o.kind = 2 ∨ o.kind = 3 ∨ o.kind = 4 ∨ o.kind = 5 := by omega
  simp only [opM, opF, hl, hd, hlen]
  rcases hcase with hk | hk | hk | hk | hk
  · have hcc := hc (.inl hk)
    simp only [hk, if_true]
    refine (setP hm h6 hcc.1 hcc.2 hpre ht).post fun z' B' w' v hR h => ?_
    by_cases hok : setOk o.cond o.mode o.text = true
    · rw [if_pos hok] at h ⊢
      obtain ⟨z2, B2, hS2, hM⟩ := Mach.toR hR h.2
      exact ⟨z2, B2, hS2, OpR.ok h.1 hM⟩
    · rw [if_neg hok] at h ⊢
      exact ⟨_, _, hR, OpR.err (by decide) h⟩
  · have hcc := hc (.inr hk)
    simp only [hk, show ¬ ((2 : Int) = 1) by decide, if_true, if_false]
    refine (raiseP hm h6 hcc.1 hcc.2 hpre ht (by omega)).post fun z' B' w' v hR h => ?_
    by_cases hok : descB o.text = true
    · rw [if_pos hok] at h ⊢
      obtain ⟨z2, B2, hS2, hM⟩ := Mach.toR hR h.2
      exact ⟨z2, B2, hS2, OpR.ok h.1 hM⟩
    · rw [if_neg hok] at h ⊢
      exact ⟨_, _, hR, OpR.err (by decide) h⟩
  · simp only [hk, show ¬ ((3 : Int) = 1) by decide, show ¬ ((3 : Int) = 2) by decide, if_true, if_false]
    exact endP hm h6 hpre hpc
  · simp only [hk, show ¬ ((4 : Int) = 1) by decide, show ¬ ((4 : Int) = 2) by decide, show ¬ ((4 : Int) = 3) by decide, if_true, if_false]
    refine (callP hm h6 hpre).post fun z' B' w' v hR h => ?_
    by_cases hok : pre.length + 1 = 30
    · rw [if_pos hok] at h ⊢
      exact ⟨_, _, hR, OpR.err (by decide) h⟩
    · rw [if_neg hok] at h ⊢
      obtain ⟨z2, B2, hS2, hM⟩ := Mach.toR hR h.2
      exact ⟨z2, B2, hS2, OpR.ok h.1 hM⟩
  · simp only [hk, show ¬ ((5 : Int) = 1) by decide, show ¬ ((5 : Int) = 2) by decide, show ¬ ((5 : Int) = 3) by decide, show ¬ ((5 : Int) = 4) by decide, if_true, if_false]
    refine (backP hm h6 hpre).post fun z' B' w' v hR h => ⟨_, _, hR, ?_⟩
    by_cases h0 : pre.length = 0
    · simp only [if_pos h0] at h ⊢
      exact OpR.err (by decide) (by rw [OpR, if_neg (by decide)] at h; exact h)
    · simp only [if_neg h0] at h ⊢
      exact h
abbrev opsL : List (Int × Value) := [(1, .func (.func 85) #[] #[]), (2, .func (.func 68) #[] #[]), (3, .func (.func 69) #[] #[]), (4, .func (.func 86) #[] #[]), (5, .func (.func 87) #[] #[])]
theorem operations {z : Z} {w : World} : Fn 50 #[] z [] w fun z' B' r => ∃ b, r = .map (some b) ∧ B' = [(b, mO .i64 opsL)] := Fn.intro fun hS => en50 (by
  unfold vc50
  refine iV_mm ?_
  intro b w1 hb hS1
  refine iU_mu (by simp) ?_
  intro w2 hS2
  refine iU_mu (by simp) ?_
  intro w3 hS3
  refine iU_mu (by simp) ?_
  intro w4 hS4
  refine iU_mu (by simp) ?_
  intro w5 hS5
  refine iU_mu (by simp) ?_
  intro w6 hS6
  exact ⟨z, _, hS6, b, rfl, rfl⟩)
theorem ops_lk {k : Int} : lkF opsL k .nilFunc = if 1 ≤ k ∧ k ≤ 5 then (.func (.func (opF k)) #[] #[], true) else (.nilFunc, false) := by
  by_cases h1 : k = 1
  · subst h1; rfl
  by_cases h2 : k = 2
  · subst h2; rfl
  by_cases h3 : k = 3
  · subst h3; rfl
  by_cases h4 : k = 4
  · subst h4; rfl
  by_cases h5 : k = 5
  · subst h5; rfl
  rw [if_neg (by omega)]
  have : ∀ a : Int, a ≠ k → (a == k) = false := fun a h => by simpa using h
  simp only [lkF, opsL, List.find?, this 1 (fun e => h1 e.symm), this 2 (fun e => h2 e.symm), this 3 (fun e => h3 e.symm), this 4 (fun e => h4 e.symm), this 5 (fun e => h5 e.symm)]
end Go.Proofs.Ytjnckainogpenaa
end

section
/- An operation on a state, as the program does it. -/
set_option linter.unusedVariables false
set_option maxRecDepth 20000
set_option synthInstance.maxHeartbeats 400000
set_option synthInstance.maxSize 4000
namespace Go.Proofs.Ytjnckainogpenaa
open Go Q Go.RowKit

theorem J2cut {body : (List Value → World → Prop) → Prop} {rest : Value → Value → World → Prop} (Po : Value → Value → World → Prop) (h1 : ∀ a b w, Po a b w → rest a b w) (h : ∀ K, JK2 K Po → body K) : ∀ K : List Value → World → Prop, (∀ a b w, (∀ _ : Env, rest a b w) → K [a, b] w) → body K := fun K hK => h K ⟨fun a b w r => hK a b w fun _ => h1 a b w r⟩
theorem iHV_lkv {w0 w : World} {z0 z : Z} {B0 L : Bl} {C : Obj → Bl} {b : Nat} {K : Value → Prop} [hS : Res w0 z0 B0 w z L] {t k e : Nat} {kd : IntKind} {zv v : Value} [g : TyMap t k e] [gk : TyInt k kd] [gz : ZeroV e zv] {n : Int} {l : List (Int × Value)} [gb : Blk L b (mO kd l) C] [gv : LkV l n zv v]
    (hk : K v) : HV (lk t (.map (some b)) (.int kd n) false) w K := ⟨_, run_lk (gb := gb) gz.h false, by rw [← gv.h] at hk; exact hk⟩
theorem iRI_lkv {w0 w : World} {z0 z : Z} {B0 L : Bl} {C : Obj → Bl} {b : Nat} {A : Prop} [hS : Res w0 z0 B0 w z L] {t k e : Nat} {kd : IntKind} {zv v : Value} [g : TyMap t k e] [gk : TyInt k kd] [gz : ZeroV e zv] {n : Int} {l : List (Int × Value)} [gb : Blk L b (mO kd l) C] [gv : LkV l n zv v]
    (hk : A) : RunIs (lk t (.map (some b)) (.int kd n) false) w v ∧ A := ⟨by have := run_lk (gb := gb) (hS := hS) (t := t) (k := k) (e := e) (n := n) gz.h false; rw [← gv.h]; exact this, hk⟩
instance {k : Int} : Enters (opF k) := by
  unfold opF
  repeat' split
  all_goals infer_instance
theorem OpR.val {mb : Nat} {e : Int} {a : AcM} {s : StM} {z : Z} {B : Bl} {r : Value} (h : OpR mb e a s z B r) : ∃ act : AcM, r = .tuple #[act.v, .int .i64 e] ∧ (e = 0 → act = a ∧ MachR z B mb s) := by
  rw [OpR] at h
  by_cases he : e = 0
  · rw [if_pos he] at h
    exact ⟨a, by rw [he]; exact h.1, fun _ => ⟨rfl, h.2⟩⟩
  · rw [if_neg he] at h
    exact ⟨noAct, h, fun hh => absurd hh he⟩
theorem perm2 {a b : Nat × Obj} {B R : Bl} : (a :: b :: (B ++ R)).Perm (B ++ (a :: b :: R)) := by
  simpa using (List.perm_append_comm (l₁ := [a, b]) (l₂ := B)).append_right R
theorem Mach.z {z z' : Z} {B : Bl} {mb : Nat} {s : StM} (hm : Mach z B mb s) (hz : Le z z') : Mach z' B mb s := by
  obtain ⟨Bf, Bl, xs, v, h1, h2, h3⟩ := hm
  refine ⟨Bf, Bl, xs, v, h1, h2, ?_⟩
  rcases h3 with h | ⟨pre, f, ps, cs, q1, q2, q3, q4, q5⟩
  · exact .inl h
  · exact .inr ⟨pre, f, ps, cs, q1, q2, FrsR.mono hz q3, q4, q5⟩
def doneM (s : StM) (o : OpM) (conds : List Int) : StepM :=
  if openE s conds ≠ 0 then ⟨openE s conds, noAct, []⟩ else if (opM s o).e ≠ 0 then ⟨(opM s o).e, noAct, []⟩ else opM s o
/-- The result of a step, as values. -/
def StepR (z : Z) (r : Value) (m : StepM) : Prop := ∃ v, r = .tuple #[v, m.a.v, .int .i64 m.e] ∧ StR z v m.s
theorem endM_len {n : Nat} {f : FrM} : ∀ l, (endM n f l).top.length ≤ 2
  | [] => by simp [endM]
  | r :: l => by
    simp only [endM]
    split
    · exact endM_len l
    · split
      · simp
      · split
        · simp
        · simp [callF]
theorem opM_len {s : StM} {o : OpM} : (opM s o).s.length ≤ s.length + 2 := by
  have h := endM_len (n := s.length) (f := lastF s) (lastF s).pend
  have hd : s.dropLast.length ≤ s.length := by simp
  simp only [opM]
  repeat' split
  all_goals simp only [List.length_append, List.length_cons, List.length_nil]
  all_goals omega
theorem doneP {v vc : Value} {s : StM} {o : OpM} {conds : List Int} {z : Z} {w : World} (hs : StR z v s) (hcs : SlR El.int z vc conds) (hk : 1 ≤ o.kind ∧ o.kind ≤ 5) (hc : o.kind = 1 ∨ o.kind = 2 → conds = [o.cond]) (ht : o.text.size ≤ big) :
    Fn1 51 #[v, o.v, vc] z w fun z' r => StepR z' r (doneM s o conds) := Fn1.intro fun hS => en51 (by
  unfold vc51
  obtain ⟨u, rfl, hu⟩ := hs
  have hu' := hu
  obtain ⟨hb, a, cap, rfl, hcap, hel⟩ := hu.form
  dsimp only [OpM.v, OpM.cells]
  refine iV_bx ?_
  intro b3 w3 hb3 hS3
  refine iV_bx ?_
  intro b4 w4 hb4 hS4
  refine iV_al ?_
  intro b6 w6 hb6 hS6
  refine iV_al ?_
  intro b7 w7 hb7 hS7
  (repeat (first | (refine iDr ?_; intro _ _) | refine V_run ?_ | refine PV_run ?_ | refine HV_run ?_ | refine iV_ld1 ?_ | refine iV_ldN ?_ | (refine iV_bx ?_; intro _ _ _ _) | (refine iV_al ?_; intro _ _ _ _) | (refine iV_mm ?_; intro _ _ _ _) | (refine iU_st ?_; intro _ _) | refine iHV_1 ?_ | refine iHV_N ?_ | refine iRI_1 ?_ | refine iRI_N ?_ | refine Cond_t ?_ | refine Cond_f ?_ | refine JB ?_ | (refine JC ?_; intro _ _ _ _) | (refine J1 ?_; intro _ _) | (refine J0 ?_; intro _ _) | (refine J2 ?_; intro _ _) | (refine J3 ?_; intro _ _) | (refine J4 ?_; intro _ _) | refine K1 ?_ | refine K0 ?_ | refine K2 ?_ | refine K3 ?_ | refine K4 ?_ | (refine CV_pu ?_; intro _ _ _ _) | refine fV_ldN ?_ | refine fV_ld1 ?_ | refine fHV_ldN ?_ | refine fHV_ld1 ?_ | refine NilW_some ?_ | refine iCW_1 ?_ | refine iCW_N ?_ | refine Pk_b ?_))
  refine CV_fn0 (fun hz => openP ⟨_, rfl, hu'.mono hz⟩ (hcs.mono hz)) ?_
  rintro z8 B8 w8 v8 hle8 hS8 hop
  by_cases he : openE s conds = 0
  · rw [if_pos he] at hop
    obtain ⟨mb, rfl, hm⟩ := hop
    have hck : checkB s = true := by
      simp only [openE] at he
      cases hh : checkB s with
      | true => rfl
      | false => simp [hh] at he
    have hcc : o.kind = 1 ∨ o.kind = 2 → 0 ≤ o.cond ∧ o.cond < 6 := fun h => by
      rw [hc h] at he
      simp only [openE, hck, if_true, List.all_cons, List.all_nil, Bool.and_true] at he
      cases hcd : cond o.cond with
      | false => simp [hcd] at he
      | true => simpa [cond] using hcd
    have hdone : doneM s o conds = if (opM s o).e ≠ 0 then ⟨(opM s o).e, noAct, []⟩ else opM s o := by rw [doneM, if_neg (by simp [he])]
    rw [hdone]
    refine V_run ?_
    refine V_run ?_
    refine V_run ?_
    refine Cond_f ?_
    refine J2cut (fun a b w' => ∃ b11 act z' B', a = .pointer (some ⟨b11, 0, none⟩) ∧ b = .int .i64 (opM s o).e ∧ ((opM s o).e = 0 → act = (opM s o).a ∧ MachR z' B' mb (opM s o).s) ∧ Res w z [] w' z' ((b11, .cells act.cells.toArray 39 (0, 0)) :: (B' ++ [(b7, .cells [.int .i64 0, .string ⟨#[]⟩, .int .i64 0, .string ⟨#[]⟩].toArray 39 (0, 0)), (b6, .cells [.slice none 0 0].toArray 28 (0, 0))])) ) ?_ ?_
    rotate_left
    · intro KJ hJ
      haveI : LkV opsL o.kind .nilFunc (.func (.func (opF o.kind)) #[] #[]) := ⟨by rw [ops_lk, if_pos hk]⟩
      (repeat (first | (refine iDr ?_; intro _ _) | refine V_run ?_ | refine PV_run ?_ | refine HV_run ?_ | refine iV_ld1 ?_ | refine iV_ldN ?_ | (refine iV_bx ?_; intro _ _ _ _) | (refine iV_al ?_; intro _ _ _ _) | (refine iV_mm ?_; intro _ _ _ _) | (refine iU_st ?_; intro _ _) | refine iHV_1 ?_ | refine iHV_N ?_ | refine iRI_1 ?_ | refine iRI_N ?_ | refine Cond_t ?_ | refine Cond_f ?_ | refine JB ?_ | (refine JC ?_; intro _ _ _ _) | (refine J1 ?_; intro _ _) | (refine J0 ?_; intro _ _) | (refine J2 ?_; intro _ _) | (refine J3 ?_; intro _ _) | (refine J4 ?_; intro _ _) | refine K1 ?_ | refine K0 ?_ | refine K2 ?_ | refine K3 ?_ | refine K4 ?_ | (refine CV_pu ?_; intro _ _ _ _) | refine fV_ldN ?_ | refine fV_ld1 ?_ | refine fHV_ldN ?_ | refine fHV_ld1 ?_ | refine NilW_some ?_ | refine iCW_1 ?_ | refine iCW_N ?_ | refine Pk_b ?_))
      refine ⟨?_, ?_⟩
      · refine CV_fn0 (fun _ => operations) ?_
        rintro z9 B9 w9 v9 hle9 hS9 ⟨bm, rfl, rfl⟩
        have hm9 := hm.z hle9
        simp only [List.cons_append, List.nil_append] at hS9
        (repeat (first | (refine iDr ?_; intro _ _) | refine V_run ?_ | refine PV_run ?_ | refine HV_run ?_ | refine iV_ld1 ?_ | refine iV_ldN ?_ | (refine iV_bx ?_; intro _ _ _ _) | (refine iV_al ?_; intro _ _ _ _) | (refine iV_mm ?_; intro _ _ _ _) | (refine iU_st ?_; intro _ _) | refine iHV_1 ?_ | refine iHV_N ?_ | refine iRI_1 ?_ | refine iRI_N ?_ | refine Cond_t ?_ | refine Cond_f ?_ | refine JB ?_ | (refine JC ?_; intro _ _ _ _) | (refine J1 ?_; intro _ _) | (refine J0 ?_; intro _ _) | (refine J2 ?_; intro _ _) | (refine J3 ?_; intro _ _) | (refine J4 ?_; intro _ _) | refine K1 ?_ | refine K0 ?_ | refine K2 ?_ | refine K3 ?_ | refine K4 ?_ | (refine CV_pu ?_; intro _ _ _ _) | refine fV_ldN ?_ | refine fV_ld1 ?_ | refine fHV_ldN ?_ | refine fHV_ld1 ?_ | refine NilW_some ?_ | refine iCW_1 ?_ | refine iCW_N ?_ | refine Pk_b ?_))
        refine iHV_lkv ?_
        refine ⟨?_, ?_⟩
        · refine CV_fn (B := B8) (F := (bm, _) :: [_, _, _, _]) (hS9.perm List.perm_middle.symm) (opP hm9 hck hk hcc ht) (by simp) ?_
          rintro z10 B10 w10 v10 hle10 hS10 hop
          obtain ⟨act, rfl, hact⟩ := hop.val
          dsimp only [AcM.v] at *
          (repeat (first | (refine iDr ?_; intro _ _) | refine V_run ?_ | refine PV_run ?_ | refine HV_run ?_ | refine iV_ld1 ?_ | refine iV_ldN ?_ | (refine iV_bx ?_; intro _ _ _ _) | (refine iV_al ?_; intro _ _ _ _) | (refine iV_mm ?_; intro _ _ _ _) | (refine iU_st ?_; intro _ _) | refine iHV_1 ?_ | refine iHV_N ?_ | refine iRI_1 ?_ | refine iRI_N ?_ | refine Cond_t ?_ | refine Cond_f ?_ | refine JB ?_ | (refine JC ?_; intro _ _ _ _) | (refine J1 ?_; intro _ _) | (refine J0 ?_; intro _ _) | (refine J2 ?_; intro _ _) | (refine J3 ?_; intro _ _) | (refine J4 ?_; intro _ _) | refine K1 ?_ | refine K0 ?_ | refine K2 ?_ | refine K3 ?_ | refine K4 ?_ | (refine CV_pu ?_; intro _ _ _ _) | refine fV_ldN ?_ | refine fV_ld1 ?_ | refine fHV_ldN ?_ | refine fHV_ld1 ?_ | refine NilW_some ?_ | refine iCW_1 ?_ | refine iCW_N ?_ | refine Pk_b ?_))
          rename_i hSe
          exact ⟨_, act, _, B10, rfl, rfl, hact, hSe.sublist ((List.Sublist.append (List.Sublist.refl _) (by repeat (first | exact List.Sublist.refl _ | apply List.Sublist.cons_cons | apply List.Sublist.cons | exact List.nil_sublist _))).cons_cons _)⟩
        · (repeat (first | (refine iDr ?_; intro _ _) | refine V_run ?_ | refine PV_run ?_ | refine HV_run ?_ | refine iV_ld1 ?_ | refine iV_ldN ?_ | (refine iV_bx ?_; intro _ _ _ _) | (refine iV_al ?_; intro _ _ _ _) | (refine iV_mm ?_; intro _ _ _ _) | (refine iU_st ?_; intro _ _) | refine iHV_1 ?_ | refine iHV_N ?_ | refine iRI_1 ?_ | refine iRI_N ?_ | refine Cond_t ?_ | refine Cond_f ?_ | refine JB ?_ | (refine JC ?_; intro _ _ _ _) | (refine J1 ?_; intro _ _) | (refine J0 ?_; intro _ _) | (refine J2 ?_; intro _ _) | (refine J3 ?_; intro _ _) | (refine J4 ?_; intro _ _) | refine K1 ?_ | refine K0 ?_ | refine K2 ?_ | refine K3 ?_ | refine K4 ?_ | (refine CV_pu ?_; intro _ _ _ _) | refine fV_ldN ?_ | refine fV_ld1 ?_ | refine fHV_ldN ?_ | refine fHV_ld1 ?_ | refine NilW_some ?_ | refine iCW_1 ?_ | refine iCW_N ?_ | refine Pk_b ?_))
          refine iRI_lkv ?_
          (repeat (first | (refine iDr ?_; intro _ _) | refine V_run ?_ | refine PV_run ?_ | refine HV_run ?_ | refine iV_ld1 ?_ | refine iV_ldN ?_ | (refine iV_bx ?_; intro _ _ _ _) | (refine iV_al ?_; intro _ _ _ _) | (refine iV_mm ?_; intro _ _ _ _) | (refine iU_st ?_; intro _ _) | refine iHV_1 ?_ | refine iHV_N ?_ | refine iRI_1 ?_ | refine iRI_N ?_ | refine Cond_t ?_ | refine Cond_f ?_ | refine JB ?_ | (refine JC ?_; intro _ _ _ _) | (refine J1 ?_; intro _ _) | (refine J0 ?_; intro _ _) | (refine J2 ?_; intro _ _) | (refine J3 ?_; intro _ _) | (refine J4 ?_; intro _ _) | refine K1 ?_ | refine K0 ?_ | refine K2 ?_ | refine K3 ?_ | refine K4 ?_ | (refine CV_pu ?_; intro _ _ _ _) | refine fV_ldN ?_ | refine fV_ld1 ?_ | refine fHV_ldN ?_ | refine fHV_ld1 ?_ | refine NilW_some ?_ | refine iCW_1 ?_ | refine iCW_N ?_ | refine Pk_b ?_))
          rename_i hSe
          refine CV_fn (B := B8) (F := (_, _) :: (bm, _) :: [_, _, _, _]) (hSe.perm perm2) (opP hm9 hck hk hcc ht) (by simp) ?_
          rintro z10 B10 w10 v10 hle10 hS10 hop
          obtain ⟨act, rfl, hact⟩ := hop.val
          dsimp only [AcM.v] at *
          (repeat (first | (refine iDr ?_; intro _ _) | refine V_run ?_ | refine PV_run ?_ | refine HV_run ?_ | refine iV_ld1 ?_ | refine iV_ldN ?_ | (refine iV_bx ?_; intro _ _ _ _) | (refine iV_al ?_; intro _ _ _ _) | (refine iV_mm ?_; intro _ _ _ _) | (refine iU_st ?_; intro _ _) | refine iHV_1 ?_ | refine iHV_N ?_ | refine iRI_1 ?_ | refine iRI_N ?_ | refine Cond_t ?_ | refine Cond_f ?_ | refine JB ?_ | (refine JC ?_; intro _ _ _ _) | (refine J1 ?_; intro _ _) | (refine J0 ?_; intro _ _) | (refine J2 ?_; intro _ _) | (refine J3 ?_; intro _ _) | (refine J4 ?_; intro _ _) | refine K1 ?_ | refine K0 ?_ | refine K2 ?_ | refine K3 ?_ | refine K4 ?_ | (refine CV_pu ?_; intro _ _ _ _) | refine fV_ldN ?_ | refine fV_ld1 ?_ | refine fHV_ldN ?_ | refine fHV_ld1 ?_ | refine NilW_some ?_ | refine iCW_1 ?_ | refine iCW_N ?_ | refine Pk_b ?_))
          rename_i hSe2
          exact ⟨_, act, _, B10, rfl, rfl, hact, (hSe2.perm List.perm_middle).sublist ((List.Sublist.append (List.Sublist.refl _) (by repeat (first | exact List.Sublist.refl _ | apply List.Sublist.cons_cons | apply List.Sublist.cons | exact List.nil_sublist _))).cons_cons _)⟩
      · (repeat (first | (refine iDr ?_; intro _ _) | refine V_run ?_ | refine PV_run ?_ | refine HV_run ?_ | refine iV_ld1 ?_ | refine iV_ldN ?_ | (refine iV_bx ?_; intro _ _ _ _) | (refine iV_al ?_; intro _ _ _ _) | (refine iV_mm ?_; intro _ _ _ _) | (refine iU_st ?_; intro _ _) | refine iHV_1 ?_ | refine iHV_N ?_ | refine iRI_1 ?_ | refine iRI_N ?_ | refine Cond_t ?_ | refine Cond_f ?_ | refine JB ?_ | (refine JC ?_; intro _ _ _ _) | (refine J1 ?_; intro _ _) | (refine J0 ?_; intro _ _) | (refine J2 ?_; intro _ _) | (refine J3 ?_; intro _ _) | (refine J4 ?_; intro _ _) | refine K1 ?_ | refine K0 ?_ | refine K2 ?_ | refine K3 ?_ | refine K4 ?_ | (refine CV_pu ?_; intro _ _ _ _) | refine fV_ldN ?_ | refine fV_ld1 ?_ | refine fHV_ldN ?_ | refine fHV_ld1 ?_ | refine NilW_some ?_ | refine iCW_1 ?_ | refine iCW_N ?_ | refine Pk_b ?_))
        refine CV_fn0 (fun _ => operations) ?_
        rintro z9 B9 w9 v9 hle9 hS9 ⟨bm, rfl, rfl⟩
        simp only [List.cons_append, List.nil_append] at hS9
        (repeat (first | (refine iDr ?_; intro _ _) | refine V_run ?_ | refine PV_run ?_ | refine HV_run ?_ | refine iV_ld1 ?_ | refine iV_ldN ?_ | (refine iV_bx ?_; intro _ _ _ _) | (refine iV_al ?_; intro _ _ _ _) | (refine iV_mm ?_; intro _ _ _ _) | (refine iU_st ?_; intro _ _) | refine iHV_1 ?_ | refine iHV_N ?_ | refine iRI_1 ?_ | refine iRI_N ?_ | refine Cond_t ?_ | refine Cond_f ?_ | refine JB ?_ | (refine JC ?_; intro _ _ _ _) | (refine J1 ?_; intro _ _) | (refine J0 ?_; intro _ _) | (refine J2 ?_; intro _ _) | (refine J3 ?_; intro _ _) | (refine J4 ?_; intro _ _) | refine K1 ?_ | refine K0 ?_ | refine K2 ?_ | refine K3 ?_ | refine K4 ?_ | (refine CV_pu ?_; intro _ _ _ _) | refine fV_ldN ?_ | refine fV_ld1 ?_ | refine fHV_ldN ?_ | refine fHV_ld1 ?_ | refine NilW_some ?_ | refine iCW_1 ?_ | refine iCW_N ?_ | refine Pk_b ?_))
        refine iHV_lkv ?_
        refine CV_fn (B := B8) (F := (bm, _) :: (_, _) :: [_, _, _, _]) (hS9.perm perm2) (opP (hm.z hle9) hck hk hcc ht) (by simp) ?_
        rintro z10 B10 w10 v10 hle10 hS10 hop
        obtain ⟨act, rfl, hact⟩ := hop.val
        dsimp only [AcM.v] at *
        (repeat (first | (refine iDr ?_; intro _ _) | refine V_run ?_ | refine PV_run ?_ | refine HV_run ?_ | refine iV_ld1 ?_ | refine iV_ldN ?_ | (refine iV_bx ?_; intro _ _ _ _) | (refine iV_al ?_; intro _ _ _ _) | (refine iV_mm ?_; intro _ _ _ _) | (refine iU_st ?_; intro _ _) | refine iHV_1 ?_ | refine iHV_N ?_ | refine iRI_1 ?_ | refine iRI_N ?_ | refine Cond_t ?_ | refine Cond_f ?_ | refine JB ?_ | (refine JC ?_; intro _ _ _ _) | (refine J1 ?_; intro _ _) | (refine J0 ?_; intro _ _) | (refine J2 ?_; intro _ _) | (refine J3 ?_; intro _ _) | (refine J4 ?_; intro _ _) | refine K1 ?_ | refine K0 ?_ | refine K2 ?_ | refine K3 ?_ | refine K4 ?_ | (refine CV_pu ?_; intro _ _ _ _) | refine fV_ldN ?_ | refine fV_ld1 ?_ | refine fHV_ldN ?_ | refine fHV_ld1 ?_ | refine NilW_some ?_ | refine iCW_1 ?_ | refine iCW_N ?_ | refine Pk_b ?_))
        rename_i hSe2
        exact ⟨_, act, _, B10, rfl, rfl, hact, (hSe2.sublist ((List.Sublist.refl _).append (List.sublist_cons_self _ _)) |>.perm List.perm_middle).sublist ((List.Sublist.append (List.Sublist.refl _) (by repeat (first | exact List.Sublist.refl _ | apply List.Sublist.cons_cons | apply List.Sublist.cons | exact List.nil_sublist _))).cons_cons _)⟩
    · rintro _ _ w9 ⟨b11, act, z9, B9, rfl, rfl, hact, hS9⟩
      dsimp only [AcM.cells] at hS9
      (repeat (first | (refine iDr ?_; intro _ _) | refine V_run ?_ | refine PV_run ?_ | refine HV_run ?_ | refine iV_ld1 ?_ | refine iV_ldN ?_ | (refine iV_bx ?_; intro _ _ _ _) | (refine iV_al ?_; intro _ _ _ _) | (refine iV_mm ?_; intro _ _ _ _) | (refine iU_st ?_; intro _ _) | refine iHV_1 ?_ | refine iHV_N ?_ | refine iRI_1 ?_ | refine iRI_N ?_ | refine Cond_t ?_ | refine Cond_f ?_ | refine JB ?_ | (refine JC ?_; intro _ _ _ _) | (refine J1 ?_; intro _ _) | (refine J0 ?_; intro _ _) | (refine J2 ?_; intro _ _) | (refine J3 ?_; intro _ _) | (refine J4 ?_; intro _ _) | refine K1 ?_ | refine K0 ?_ | refine K2 ?_ | refine K3 ?_ | refine K4 ?_ | (refine CV_pu ?_; intro _ _ _ _) | refine fV_ldN ?_ | refine fV_ld1 ?_ | refine fHV_ldN ?_ | refine fHV_ld1 ?_ | refine NilW_some ?_ | refine iCW_1 ?_ | refine iCW_N ?_ | refine Pk_b ?_))
      refine Cond_nd (fun hne => ?_) (fun h0 => ?_)
      · (repeat (first | (refine iDr ?_; intro _ _) | refine V_run ?_ | refine PV_run ?_ | refine HV_run ?_ | refine iV_ld1 ?_ | refine iV_ldN ?_ | (refine iV_bx ?_; intro _ _ _ _) | (refine iV_al ?_; intro _ _ _ _) | (refine iV_mm ?_; intro _ _ _ _) | (refine iU_st ?_; intro _ _) | refine iHV_1 ?_ | refine iHV_N ?_ | refine iRI_1 ?_ | refine iRI_N ?_ | refine Cond_t ?_ | refine Cond_f ?_ | refine JB ?_ | (refine JC ?_; intro _ _ _ _) | (refine J1 ?_; intro _ _) | (refine J0 ?_; intro _ _) | (refine J2 ?_; intro _ _) | (refine J3 ?_; intro _ _) | (refine J4 ?_; intro _ _) | refine K1 ?_ | refine K0 ?_ | refine K2 ?_ | refine K3 ?_ | refine K4 ?_ | (refine CV_pu ?_; intro _ _ _ _) | refine fV_ldN ?_ | refine fV_ld1 ?_ | refine fHV_ldN ?_ | refine fHV_ld1 ?_ | refine NilW_some ?_ | refine iCW_1 ?_ | refine iCW_N ?_ | refine Pk_b ?_))
        exact ⟨_, _, ‹_›, by rw [if_pos hne]; exact ⟨_, rfl, _, rfl, SlR.nil⟩⟩
      · obtain ⟨rfl, Bf, xs, v, rfl, ho, hfr⟩ := hact h0
        obtain ⟨af, capf, rfl, hcf⟩ := ho.form
        simp only [List.cons_append] at hS9
        (repeat (first | (refine iDr ?_; intro _ _) | refine V_run ?_ | refine PV_run ?_ | refine HV_run ?_ | refine iV_ld1 ?_ | refine iV_ldN ?_ | (refine iV_bx ?_; intro _ _ _ _) | (refine iV_al ?_; intro _ _ _ _) | (refine iV_mm ?_; intro _ _ _ _) | (refine iU_st ?_; intro _ _) | refine iHV_1 ?_ | refine iHV_N ?_ | refine iRI_1 ?_ | refine iRI_N ?_ | refine Cond_t ?_ | refine Cond_f ?_ | refine JB ?_ | (refine JC ?_; intro _ _ _ _) | (refine J1 ?_; intro _ _) | (refine J0 ?_; intro _ _) | (refine J2 ?_; intro _ _) | (refine J3 ?_; intro _ _) | (refine J4 ?_; intro _ _) | refine K1 ?_ | refine K0 ?_ | refine K2 ?_ | refine K3 ?_ | refine K4 ?_ | (refine CV_pu ?_; intro _ _ _ _) | refine fV_ldN ?_ | refine fV_ld1 ?_ | refine fHV_ldN ?_ | refine fHV_ld1 ?_ | refine NilW_some ?_ | refine iCW_1 ?_ | refine iCW_N ?_ | refine Pk_b ?_))
        rename_i hSe
        have hlen : (opM s o).s.length ≤ big := by
          have := opM_len (s := s) (o := o)
          have := (checkB_fr hck).1
          simp only [big]; omega
        obtain ⟨z10, hz10, hS10, hsl⟩ := MachR.st (L := []) (hSe.sublist (L' := Bf ++ []) ((((List.Sublist.refl _).append (List.nil_sublist _)).cons _).cons _)) ho hfr hlen
        refine ⟨z10, [], hS10, ?_⟩
        rw [if_neg (by simp [h0])]
        exact ⟨_, by rw [h0], _, rfl, hsl⟩
  · rw [if_neg he] at hop
    obtain ⟨rfl, rfl⟩ := hop
    have hdone : doneM s o conds = ⟨openE s conds, noAct, []⟩ := by rw [doneM, if_pos he]
    rw [hdone]
    simp only [List.nil_append] at hS8
    (repeat (first | (refine iDr ?_; intro _ _) | refine V_run ?_ | refine PV_run ?_ | refine HV_run ?_ | refine iV_ld1 ?_ | refine iV_ldN ?_ | (refine iV_bx ?_; intro _ _ _ _) | (refine iV_al ?_; intro _ _ _ _) | (refine iV_mm ?_; intro _ _ _ _) | (refine iU_st ?_; intro _ _) | refine iHV_1 ?_ | refine iHV_N ?_ | refine iRI_1 ?_ | refine iRI_N ?_ | refine Cond_t ?_ | refine Cond_f ?_ | refine JB ?_ | (refine JC ?_; intro _ _ _ _) | (refine J1 ?_; intro _ _) | (refine J0 ?_; intro _ _) | (refine J2 ?_; intro _ _) | (refine J3 ?_; intro _ _) | (refine J4 ?_; intro _ _) | refine K1 ?_ | refine K0 ?_ | refine K2 ?_ | refine K3 ?_ | refine K4 ?_ | (refine CV_pu ?_; intro _ _ _ _) | refine fV_ldN ?_ | refine fV_ld1 ?_ | refine fHV_ldN ?_ | refine fHV_ld1 ?_ | refine NilW_some ?_ | refine iCW_1 ?_ | refine iCW_N ?_ | refine Pk_b ?_))
    refine Cond_nd (fun _ => ?_) (fun h => absurd h he)
    (repeat (first | (refine iDr ?_; intro _ _) | refine V_run ?_ | refine PV_run ?_ | refine HV_run ?_ | refine iV_ld1 ?_ | refine iV_ldN ?_ | (refine iV_bx ?_; intro _ _ _ _) | (refine iV_al ?_; intro _ _ _ _) | (refine iV_mm ?_; intro _ _ _ _) | (refine iU_st ?_; intro _ _) | refine iHV_1 ?_ | refine iHV_N ?_ | refine iRI_1 ?_ | refine iRI_N ?_ | refine Cond_t ?_ | refine Cond_f ?_ | refine JB ?_ | (refine JC ?_; intro _ _ _ _) | (refine J1 ?_; intro _ _) | (refine J0 ?_; intro _ _) | (refine J2 ?_; intro _ _) | (refine J3 ?_; intro _ _) | (refine J4 ?_; intro _ _) | refine K1 ?_ | refine K0 ?_ | refine K2 ?_ | refine K3 ?_ | refine K4 ?_ | (refine CV_pu ?_; intro _ _ _ _) | refine fV_ldN ?_ | refine fV_ld1 ?_ | refine fHV_ldN ?_ | refine fHV_ld1 ?_ | refine NilW_some ?_ | refine iCW_1 ?_ | refine iCW_N ?_ | refine Pk_b ?_))
    exact ⟨_, _, ‹_›, _, rfl, _, rfl, SlR.nil⟩)
end Go.Proofs.Ytjnckainogpenaa
end

section
/- The operations' own names; the first state; names. -/
set_option linter.unusedVariables false
set_option maxRecDepth 20000
set_option synthInstance.maxHeartbeats 400000
set_option synthInstance.maxSize 4000
namespace Go.Proofs.Ytjnckainogpenaa
open Go Q Go.RowKit

/-- The result of a step without its action. -/
def StepR2 (z : Z) (r : Value) (m : StepM) : Prop := ∃ v, r = .tuple #[v, .int .i64 m.e] ∧ StR z v m.s
def endO : OpM := ⟨3, 0, 0, ⟨#[]⟩⟩
def callO : OpM := ⟨4, 0, 0, ⟨#[]⟩⟩
def backO : OpM := ⟨5, 0, 0, ⟨#[]⟩⟩
def setO (c m : Int) (t : ByteArray) : OpM := ⟨1, c, m, t⟩
def raiseO (c : Int) (t : ByteArray) : OpM := ⟨2, c, 0, t⟩
theorem emptySm : (⟨#[]⟩ : ByteArray).size ≤ big := Nat.zero_le _
theorem EndClauseP {v : Value} {s : StM} {z : Z} {w : World} (hs : StR z v s) : Fn1 18 #[v] z w fun z' r => StepR z' r (doneM s endO []) := Fn1.intro fun hS => en18 (by
  unfold vc18
  obtain ⟨u, rfl, hu⟩ := hs
  obtain ⟨hb, a, cap, rfl, hcap, hel⟩ := hu.form
  (repeat (first | (refine iDr ?_; intro _ _) | refine V_run ?_ | refine PV_run ?_ | refine HV_run ?_ | refine iV_ld1 ?_ | refine iV_ldN ?_ | (refine iV_bx ?_; intro _ _ _ _) | (refine iV_al ?_; intro _ _ _ _) | (refine iV_mm ?_; intro _ _ _ _) | (refine iU_st ?_; intro _ _) | refine iHV_1 ?_ | refine iHV_N ?_ | refine iRI_1 ?_ | refine iRI_N ?_ | refine Cond_t ?_ | refine Cond_f ?_ | refine JB ?_ | (refine JC ?_; intro _ _ _ _) | (refine J1 ?_; intro _ _) | (refine J0 ?_; intro _ _) | (refine J2 ?_; intro _ _) | (refine J3 ?_; intro _ _) | (refine J4 ?_; intro _ _) | refine K1 ?_ | refine K0 ?_ | refine K2 ?_ | refine K3 ?_ | refine K4 ?_ | (refine CV_pu ?_; intro _ _ _ _) | refine fV_ldN ?_ | refine fV_ld1 ?_ | refine fHV_ldN ?_ | refine fHV_ld1 ?_ | refine NilW_some ?_ | refine iCW_1 ?_ | refine iCW_N ?_ | refine Pk_b ?_))
  refine CV_1z (fun hz => doneP (o := endO) (conds := []) ⟨_, rfl, hu.mono hz⟩ SlR.nil (by decide) (by intro h; rcases h with h | h <;> cases h) emptySm) ?_
  rintro z9 w9 v9 hle9 hS9 ⟨v', rfl, hv'⟩
  obtain ⟨u', rfl, hu'⟩ := hv'
  obtain ⟨hb', a', cap', rfl, hcap', hel'⟩ := hu'.form
  dsimp only [AcM.v] at *
  (repeat (first | (refine iDr ?_; intro _ _) | refine V_run ?_ | refine PV_run ?_ | refine HV_run ?_ | refine iV_ld1 ?_ | refine iV_ldN ?_ | (refine iV_bx ?_; intro _ _ _ _) | (refine iV_al ?_; intro _ _ _ _) | (refine iV_mm ?_; intro _ _ _ _) | (refine iU_st ?_; intro _ _) | refine iHV_1 ?_ | refine iHV_N ?_ | refine iRI_1 ?_ | refine iRI_N ?_ | refine Cond_t ?_ | refine Cond_f ?_ | refine JB ?_ | (refine JC ?_; intro _ _ _ _) | (refine J1 ?_; intro _ _) | (refine J0 ?_; intro _ _) | (refine J2 ?_; intro _ _) | (refine J3 ?_; intro _ _) | (refine J4 ?_; intro _ _) | refine K1 ?_ | refine K0 ?_ | refine K2 ?_ | refine K3 ?_ | refine K4 ?_ | (refine CV_pu ?_; intro _ _ _ _) | refine fV_ldN ?_ | refine fV_ld1 ?_ | refine fHV_ldN ?_ | refine fHV_ld1 ?_ | refine NilW_some ?_ | refine iCW_1 ?_ | refine iCW_N ?_ | refine Pk_b ?_))
  exact ⟨_, _, ‹_›, _, rfl, _, rfl, hu'⟩)
theorem CallP {v : Value} {s : StM} {z : Z} {w : World} (hs : StR z v s) : Fn1 23 #[v] z w fun z' r => StepR2 z' r (doneM s callO []) := Fn1.intro fun hS => en23 (by
  unfold vc23
  obtain ⟨u, rfl, hu⟩ := hs
  obtain ⟨hb, a, cap, rfl, hcap, hel⟩ := hu.form
  (repeat (first | (refine iDr ?_; intro _ _) | refine V_run ?_ | refine PV_run ?_ | refine HV_run ?_ | refine iV_ld1 ?_ | refine iV_ldN ?_ | (refine iV_bx ?_; intro _ _ _ _) | (refine iV_al ?_; intro _ _ _ _) | (refine iV_mm ?_; intro _ _ _ _) | (refine iU_st ?_; intro _ _) | refine iHV_1 ?_ | refine iHV_N ?_ | refine iRI_1 ?_ | refine iRI_N ?_ | refine Cond_t ?_ | refine Cond_f ?_ | refine JB ?_ | (refine JC ?_; intro _ _ _ _) | (refine J1 ?_; intro _ _) | (refine J0 ?_; intro _ _) | (refine J2 ?_; intro _ _) | (refine J3 ?_; intro _ _) | (refine J4 ?_; intro _ _) | refine K1 ?_ | refine K0 ?_ | refine K2 ?_ | refine K3 ?_ | refine K4 ?_ | (refine CV_pu ?_; intro _ _ _ _) | refine fV_ldN ?_ | refine fV_ld1 ?_ | refine fHV_ldN ?_ | refine fHV_ld1 ?_ | refine NilW_some ?_ | refine iCW_1 ?_ | refine iCW_N ?_ | refine Pk_b ?_))
  refine CV_1z (fun hz => doneP (o := callO) (conds := []) ⟨_, rfl, hu.mono hz⟩ SlR.nil (by decide) (by intro h; rcases h with h | h <;> cases h) emptySm) ?_
  rintro z9 w9 v9 hle9 hS9 ⟨v', rfl, hv'⟩
  obtain ⟨u', rfl, hu'⟩ := hv'
  obtain ⟨hb', a', cap', rfl, hcap', hel'⟩ := hu'.form
  dsimp only [AcM.v] at *
  (repeat (first | (refine iDr ?_; intro _ _) | refine V_run ?_ | refine PV_run ?_ | refine HV_run ?_ | refine iV_ld1 ?_ | refine iV_ldN ?_ | (refine iV_bx ?_; intro _ _ _ _) | (refine iV_al ?_; intro _ _ _ _) | (refine iV_mm ?_; intro _ _ _ _) | (refine iU_st ?_; intro _ _) | refine iHV_1 ?_ | refine iHV_N ?_ | refine iRI_1 ?_ | refine iRI_N ?_ | refine Cond_t ?_ | refine Cond_f ?_ | refine JB ?_ | (refine JC ?_; intro _ _ _ _) | (refine J1 ?_; intro _ _) | (refine J0 ?_; intro _ _) | (refine J2 ?_; intro _ _) | (refine J3 ?_; intro _ _) | (refine J4 ?_; intro _ _) | refine K1 ?_ | refine K0 ?_ | refine K2 ?_ | refine K3 ?_ | refine K4 ?_ | (refine CV_pu ?_; intro _ _ _ _) | refine fV_ldN ?_ | refine fV_ld1 ?_ | refine fHV_ldN ?_ | refine fHV_ld1 ?_ | refine NilW_some ?_ | refine iCW_1 ?_ | refine iCW_N ?_ | refine Pk_b ?_))
  exact ⟨_, _, ‹_›, _, rfl, _, rfl, hu'⟩)
theorem ReturnP {v : Value} {s : StM} {z : Z} {w : World} (hs : StR z v s) : Fn1 19 #[v] z w fun z' r => StepR2 z' r (doneM s backO []) := Fn1.intro fun hS => en19 (by
  unfold vc19
  obtain ⟨u, rfl, hu⟩ := hs
  obtain ⟨hb, a, cap, rfl, hcap, hel⟩ := hu.form
  (repeat (first | (refine iDr ?_; intro _ _) | refine V_run ?_ | refine PV_run ?_ | refine HV_run ?_ | refine iV_ld1 ?_ | refine iV_ldN ?_ | (refine iV_bx ?_; intro _ _ _ _) | (refine iV_al ?_; intro _ _ _ _) | (refine iV_mm ?_; intro _ _ _ _) | (refine iU_st ?_; intro _ _) | refine iHV_1 ?_ | refine iHV_N ?_ | refine iRI_1 ?_ | refine iRI_N ?_ | refine Cond_t ?_ | refine Cond_f ?_ | refine JB ?_ | (refine JC ?_; intro _ _ _ _) | (refine J1 ?_; intro _ _) | (refine J0 ?_; intro _ _) | (refine J2 ?_; intro _ _) | (refine J3 ?_; intro _ _) | (refine J4 ?_; intro _ _) | refine K1 ?_ | refine K0 ?_ | refine K2 ?_ | refine K3 ?_ | refine K4 ?_ | (refine CV_pu ?_; intro _ _ _ _) | refine fV_ldN ?_ | refine fV_ld1 ?_ | refine fHV_ldN ?_ | refine fHV_ld1 ?_ | refine NilW_some ?_ | refine iCW_1 ?_ | refine iCW_N ?_ | refine Pk_b ?_))
  refine CV_1z (fun hz => doneP (o := backO) (conds := []) ⟨_, rfl, hu.mono hz⟩ SlR.nil (by decide) (by intro h; rcases h with h | h <;> cases h) emptySm) ?_
  rintro z9 w9 v9 hle9 hS9 ⟨v', rfl, hv'⟩
  obtain ⟨u', rfl, hu'⟩ := hv'
  obtain ⟨hb', a', cap', rfl, hcap', hel'⟩ := hu'.form
  dsimp only [AcM.v] at *
  (repeat (first | (refine iDr ?_; intro _ _) | refine V_run ?_ | refine PV_run ?_ | refine HV_run ?_ | refine iV_ld1 ?_ | refine iV_ldN ?_ | (refine iV_bx ?_; intro _ _ _ _) | (refine iV_al ?_; intro _ _ _ _) | (refine iV_mm ?_; intro _ _ _ _) | (refine iU_st ?_; intro _ _) | refine iHV_1 ?_ | refine iHV_N ?_ | refine iRI_1 ?_ | refine iRI_N ?_ | refine Cond_t ?_ | refine Cond_f ?_ | refine JB ?_ | (refine JC ?_; intro _ _ _ _) | (refine J1 ?_; intro _ _) | (refine J0 ?_; intro _ _) | (refine J2 ?_; intro _ _) | (refine J3 ?_; intro _ _) | (refine J4 ?_; intro _ _) | refine K1 ?_ | refine K0 ?_ | refine K2 ?_ | refine K3 ?_ | refine K4 ?_ | (refine CV_pu ?_; intro _ _ _ _) | refine fV_ldN ?_ | refine fV_ld1 ?_ | refine fHV_ldN ?_ | refine fHV_ld1 ?_ | refine NilW_some ?_ | refine iCW_1 ?_ | refine iCW_N ?_ | refine Pk_b ?_))
  exact ⟨_, _, ‹_›, _, rfl, _, rfl, hu'⟩)
theorem SetP {v : Value} {s : StM} {c m : Int} {t : ByteArray} {z : Z} {w : World} (hs : StR z v s) (ht : t.size ≤ big) : Fn1 21 #[v, .int .i64 c, .int .i64 m, .string t] z w fun z' r => StepR2 z' r (doneM s (setO c m t) [c]) := Fn1.intro fun hS => en21 (by
  unfold vc21
  obtain ⟨u, rfl, hu⟩ := hs
  obtain ⟨hb, a, cap, rfl, hcap, hel⟩ := hu.form
  (repeat (first | (refine iDr ?_; intro _ _) | refine V_run ?_ | refine PV_run ?_ | refine HV_run ?_ | refine iV_ld1 ?_ | refine iV_ldN ?_ | (refine iV_bx ?_; intro _ _ _ _) | (refine iV_al ?_; intro _ _ _ _) | (refine iV_mm ?_; intro _ _ _ _) | (refine iU_st ?_; intro _ _) | refine iHV_1 ?_ | refine iHV_N ?_ | refine iRI_1 ?_ | refine iRI_N ?_ | refine Cond_t ?_ | refine Cond_f ?_ | refine JB ?_ | (refine JC ?_; intro _ _ _ _) | (refine J1 ?_; intro _ _) | (refine J0 ?_; intro _ _) | (refine J2 ?_; intro _ _) | (refine J3 ?_; intro _ _) | (refine J4 ?_; intro _ _) | refine K1 ?_ | refine K0 ?_ | refine K2 ?_ | refine K3 ?_ | refine K4 ?_ | (refine CV_pu ?_; intro _ _ _ _) | refine fV_ldN ?_ | refine fV_ld1 ?_ | refine fHV_ldN ?_ | refine fHV_ld1 ?_ | refine NilW_some ?_ | refine iCW_1 ?_ | refine iCW_N ?_ | refine Pk_b ?_))
  refine V_bs (parts := [(0, _)]) rfl (by omega) ?_
  intro b3 w3 hb3 hS3
  obtain ⟨z4, hz4, hS4, hfr⟩ := Res.freezeSl (E := El.int) (B := [(b3, _)]) (f := fun x => [.int .i64 x]) (xs := [c]) (v := .slice (some ⟨b3, 0, none⟩) 1 1) (e := 3) hS3 ⟨rfl, .inr ⟨b3, 1, [], by rfl, rfl, by simp, by simp [maxLen], rfl⟩⟩ (by simp [big]) (fun _ => rfl) (fun _ _ _ => rfl)
  clear hS3
  refine CV_1z (fun hz => doneP (o := (setO c m t)) (conds := [c]) ⟨_, rfl, hu.mono hz⟩ (hfr.mono (by first | exact Le.refl _ | assumption)) ⟨by show (1 : Int) ≤ 1; decide, by show (1 : Int) ≤ 5; decide⟩ (fun _ => rfl) ht) ?_
  rintro z9 w9 v9 hle9 hS9 ⟨v', rfl, hv'⟩
  obtain ⟨u', rfl, hu'⟩ := hv'
  obtain ⟨hb', a', cap', rfl, hcap', hel'⟩ := hu'.form
  dsimp only [AcM.v] at *
  (repeat (first | (refine iDr ?_; intro _ _) | refine V_run ?_ | refine PV_run ?_ | refine HV_run ?_ | refine iV_ld1 ?_ | refine iV_ldN ?_ | (refine iV_bx ?_; intro _ _ _ _) | (refine iV_al ?_; intro _ _ _ _) | (refine iV_mm ?_; intro _ _ _ _) | (refine iU_st ?_; intro _ _) | refine iHV_1 ?_ | refine iHV_N ?_ | refine iRI_1 ?_ | refine iRI_N ?_ | refine Cond_t ?_ | refine Cond_f ?_ | refine JB ?_ | (refine JC ?_; intro _ _ _ _) | (refine J1 ?_; intro _ _) | (refine J0 ?_; intro _ _) | (refine J2 ?_; intro _ _) | (refine J3 ?_; intro _ _) | (refine J4 ?_; intro _ _) | refine K1 ?_ | refine K0 ?_ | refine K2 ?_ | refine K3 ?_ | refine K4 ?_ | (refine CV_pu ?_; intro _ _ _ _) | refine fV_ldN ?_ | refine fV_ld1 ?_ | refine fHV_ldN ?_ | refine fHV_ld1 ?_ | refine NilW_some ?_ | refine iCW_1 ?_ | refine iCW_N ?_ | refine Pk_b ?_))
  exact ⟨_, _, ‹_›, _, rfl, _, rfl, hu'⟩)
theorem RaiseP {v : Value} {s : StM} {c : Int} {t : ByteArray} {z : Z} {w : World} (hs : StR z v s) (ht : t.size ≤ big) : Fn1 22 #[v, .int .i64 c, .string t] z w fun z' r => StepR z' r (doneM s (raiseO c t) [c]) := Fn1.intro fun hS => en22 (by
  unfold vc22
  obtain ⟨u, rfl, hu⟩ := hs
  obtain ⟨hb, a, cap, rfl, hcap, hel⟩ := hu.form
  (repeat (first | (refine iDr ?_; intro _ _) | refine V_run ?_ | refine PV_run ?_ | refine HV_run ?_ | refine iV_ld1 ?_ | refine iV_ldN ?_ | (refine iV_bx ?_; intro _ _ _ _) | (refine iV_al ?_; intro _ _ _ _) | (refine iV_mm ?_; intro _ _ _ _) | (refine iU_st ?_; intro _ _) | refine iHV_1 ?_ | refine iHV_N ?_ | refine iRI_1 ?_ | refine iRI_N ?_ | refine Cond_t ?_ | refine Cond_f ?_ | refine JB ?_ | (refine JC ?_; intro _ _ _ _) | (refine J1 ?_; intro _ _) | (refine J0 ?_; intro _ _) | (refine J2 ?_; intro _ _) | (refine J3 ?_; intro _ _) | (refine J4 ?_; intro _ _) | refine K1 ?_ | refine K0 ?_ | refine K2 ?_ | refine K3 ?_ | refine K4 ?_ | (refine CV_pu ?_; intro _ _ _ _) | refine fV_ldN ?_ | refine fV_ld1 ?_ | refine fHV_ldN ?_ | refine fHV_ld1 ?_ | refine NilW_some ?_ | refine iCW_1 ?_ | refine iCW_N ?_ | refine Pk_b ?_))
  refine V_bs (parts := [(0, _)]) rfl (by omega) ?_
  intro b3 w3 hb3 hS3
  obtain ⟨z4, hz4, hS4, hfr⟩ := Res.freezeSl (E := El.int) (B := [(b3, _)]) (f := fun x => [.int .i64 x]) (xs := [c]) (v := .slice (some ⟨b3, 0, none⟩) 1 1) (e := 3) hS3 ⟨rfl, .inr ⟨b3, 1, [], by rfl, rfl, by simp, by simp [maxLen], rfl⟩⟩ (by simp [big]) (fun _ => rfl) (fun _ _ _ => rfl)
  clear hS3
  refine CV_1z (fun hz => doneP (o := (raiseO c t)) (conds := [c]) ⟨_, rfl, hu.mono hz⟩ (hfr.mono (by first | exact Le.refl _ | assumption)) ⟨by show (1 : Int) ≤ 2; decide, by show (2 : Int) ≤ 5; decide⟩ (fun _ => rfl) ht) ?_
  rintro z9 w9 v9 hle9 hS9 ⟨v', rfl, hv'⟩
  obtain ⟨u', rfl, hu'⟩ := hv'
  obtain ⟨hb', a', cap', rfl, hcap', hel'⟩ := hu'.form
  dsimp only [AcM.v] at *
  (repeat (first | (refine iDr ?_; intro _ _) | refine V_run ?_ | refine PV_run ?_ | refine HV_run ?_ | refine iV_ld1 ?_ | refine iV_ldN ?_ | (refine iV_bx ?_; intro _ _ _ _) | (refine iV_al ?_; intro _ _ _ _) | (refine iV_mm ?_; intro _ _ _ _) | (refine iU_st ?_; intro _ _) | refine iHV_1 ?_ | refine iHV_N ?_ | refine iRI_1 ?_ | refine iRI_N ?_ | refine Cond_t ?_ | refine Cond_f ?_ | refine JB ?_ | (refine JC ?_; intro _ _ _ _) | (refine J1 ?_; intro _ _) | (refine J0 ?_; intro _ _) | (refine J2 ?_; intro _ _) | (refine J3 ?_; intro _ _) | (refine J4 ?_; intro _ _) | refine K1 ?_ | refine K0 ?_ | refine K2 ?_ | refine K3 ?_ | refine K4 ?_ | (refine CV_pu ?_; intro _ _ _ _) | refine fV_ldN ?_ | refine fV_ld1 ?_ | refine fHV_ldN ?_ | refine fHV_ld1 ?_ | refine NilW_some ?_ | refine iCW_1 ?_ | refine iCW_N ?_ | refine Pk_b ?_))
  exact ⟨_, _, ‹_›, _, rfl, _, rfl, hu'⟩)
def newM : StM := [⟨[noTrap, noTrap, noTrap, noTrap, noTrap, noTrap], [], noInfo⟩]
theorem NewP {z : Z} {w : World} : Fn1 42 #[] z w fun z' r => StR z' r newM := Fn1.intro fun hS => en42 (by
  unfold vc42
  refine iV_al ?_
  intro b0 w0 hb0 hS0
  refine iV_ms (n := 6) (by omega) (by omega) ?_
  intro b1 w1 hb1 hS1
  have e : ((List.range (6 * 3)).map fun i => [Value.int .i64 0, Value.string ⟨#[]⟩, Value.bool false][i % [Value.int .i64 0, Value.string ⟨#[]⟩, Value.bool false].length]!) = ([noTrap, noTrap, noTrap, noTrap, noTrap, noTrap].flatMap TrM.cells ++ []) := rfl
  rw [e] at hS1
  obtain ⟨z2, hz2, hS2, hv2⟩ := Res.freezeSl (E := El.trap) (B := [(b1, _)]) (v := .slice (some ⟨b1, 0, none⟩) 6 6) (xs := [noTrap, noTrap, noTrap, noTrap, noTrap, noTrap]) (f := TrM.cells) (e := 73) hS1 ⟨rfl, .inr ⟨b1, 6, [], rfl, rfl, by decide, by simp [maxLen], rfl⟩⟩ (by simp [big]) (fun _ => rfl) (fun z x hx => ⟨rfl, by
    have : x = noTrap := by simpa using hx
    rw [this]; exact emptySm⟩)
  clear hS1
  (repeat (first | (refine iDr ?_; intro _ _) | refine V_run ?_ | refine PV_run ?_ | refine HV_run ?_ | refine iV_ld1 ?_ | refine iV_ldN ?_ | (refine iV_bx ?_; intro _ _ _ _) | (refine iV_al ?_; intro _ _ _ _) | (refine iV_mm ?_; intro _ _ _ _) | (refine iU_st ?_; intro _ _) | refine iHV_1 ?_ | refine iHV_N ?_ | refine iRI_1 ?_ | refine iRI_N ?_ | refine Cond_t ?_ | refine Cond_f ?_ | refine JB ?_ | (refine JC ?_; intro _ _ _ _) | (refine J1 ?_; intro _ _) | (refine J0 ?_; intro _ _) | (refine J2 ?_; intro _ _) | (refine J3 ?_; intro _ _) | (refine J4 ?_; intro _ _) | refine K1 ?_ | refine K0 ?_ | refine K2 ?_ | refine K3 ?_ | refine K4 ?_ | (refine CV_pu ?_; intro _ _ _ _) | refine fV_ldN ?_ | refine fV_ld1 ?_ | refine fHV_ldN ?_ | refine fHV_ld1 ?_ | refine NilW_some ?_ | refine iCW_1 ?_ | refine iCW_N ?_ | refine Pk_b ?_))
  refine V_bs (parts := [(0, _)]) rfl (by omega) ?_
  intro b3 w3 hb3 hS3
  (repeat (first | (refine iDr ?_; intro _ _) | refine V_run ?_ | refine PV_run ?_ | refine HV_run ?_ | refine iV_ld1 ?_ | refine iV_ldN ?_ | (refine iV_bx ?_; intro _ _ _ _) | (refine iV_al ?_; intro _ _ _ _) | (refine iV_mm ?_; intro _ _ _ _) | (refine iU_st ?_; intro _ _) | refine iHV_1 ?_ | refine iHV_N ?_ | refine iRI_1 ?_ | refine iRI_N ?_ | refine Cond_t ?_ | refine Cond_f ?_ | refine JB ?_ | (refine JC ?_; intro _ _ _ _) | (refine J1 ?_; intro _ _) | (refine J0 ?_; intro _ _) | (refine J2 ?_; intro _ _) | (refine J3 ?_; intro _ _) | (refine J4 ?_; intro _ _) | refine K1 ?_ | refine K0 ?_ | refine K2 ?_ | refine K3 ?_ | refine K4 ?_ | (refine CV_pu ?_; intro _ _ _ _) | refine fV_ldN ?_ | refine fV_ld1 ?_ | refine fHV_ldN ?_ | refine fHV_ld1 ?_ | refine NilW_some ?_ | refine iCW_1 ?_ | refine iCW_N ?_ | refine Pk_b ?_))
  rename_i hSe
  obtain ⟨z4, hz4, hS4, hv4⟩ := MachR.st (s := newM) (Bf := [(b3, _)]) (L := []) (v := .slice (some ⟨b3, 0, none⟩) 1 1) (hSe.sublist (L' := [(b3, _)]) ((List.Sublist.refl [(b3, _)]).trans (by repeat (first | exact List.Sublist.refl _ | apply List.Sublist.cons_cons | apply List.Sublist.cons | exact List.nil_sublist _)))) ⟨rfl, .inr ⟨b3, 1, [], rfl, rfl, by decide, by simp [maxLen], rfl⟩⟩ ⟨_, [], by simp [noInfo], ⟨_, _, rfl, hv2, SlR.nil, emptySm⟩, rfl⟩ (by simp [newM, big])
  exact ⟨z4, [], hS4, _, rfl, hv4⟩)
end Go.Proofs.Ytjnckainogpenaa
end

section
/- Catches; names. -/
set_option linter.unusedVariables false
set_option maxRecDepth 20000
set_option synthInstance.maxHeartbeats 400000
set_option synthInstance.maxSize 4000
namespace Go.Proofs.Ytjnckainogpenaa
open Go Q Go.RowKit

instance {c : Int} : Pu 36 #[.int .i64 c] (if cond c then .tuple #[.string (nameOf c), .int .i64 0] else .tuple #[.string ⟨#[]⟩, .int .i64 1]) := ⟨fun z w => Fn1.intro fun hS => en36 (by
  unfold vc36
  (repeat (first | (refine iDr ?_; intro _ _) | refine V_run ?_ | refine PV_run ?_ | refine HV_run ?_ | refine iV_ld1 ?_ | refine iV_ldN ?_ | (refine iV_bx ?_; intro _ _ _ _) | (refine iV_al ?_; intro _ _ _ _) | (refine iV_mm ?_; intro _ _ _ _) | (refine iU_st ?_; intro _ _) | refine iHV_1 ?_ | refine iHV_N ?_ | refine iRI_1 ?_ | refine iRI_N ?_ | refine Cond_t ?_ | refine Cond_f ?_ | refine JB ?_ | (refine JC ?_; intro _ _ _ _) | (refine J1 ?_; intro _ _) | (refine J0 ?_; intro _ _) | (refine J2 ?_; intro _ _) | (refine J3 ?_; intro _ _) | (refine J4 ?_; intro _ _) | refine K1 ?_ | refine K0 ?_ | refine K2 ?_ | refine K3 ?_ | refine K4 ?_ | (refine CV_pu ?_; intro _ _ _ _) | refine fV_ldN ?_ | refine fV_ld1 ?_ | refine fHV_ldN ?_ | refine fHV_ld1 ?_ | refine NilW_some ?_ | refine iCW_1 ?_ | refine iCW_N ?_ | refine Pk_b ?_))
  refine Cond_n (fun h => ?_) (fun h => ?_)
  · exact ⟨_, _, ‹_›, by rw [h]; rfl⟩
  · haveI : InR c 6 := by simp only [cond, Bool.and_eq_true, decide_eq_true_eq] at h; exact ⟨h.1, h.2⟩
    (repeat (first | (refine iDr ?_; intro _ _) | refine V_run ?_ | refine PV_run ?_ | refine HV_run ?_ | refine iV_ld1 ?_ | refine iV_ldN ?_ | (refine iV_bx ?_; intro _ _ _ _) | (refine iV_al ?_; intro _ _ _ _) | (refine iV_mm ?_; intro _ _ _ _) | (refine iU_st ?_; intro _ _) | refine iHV_1 ?_ | refine iHV_N ?_ | refine iRI_1 ?_ | refine iRI_N ?_ | refine Cond_t ?_ | refine Cond_f ?_ | refine JB ?_ | (refine JC ?_; intro _ _ _ _) | (refine J1 ?_; intro _ _) | (refine J0 ?_; intro _ _) | (refine J2 ?_; intro _ _) | (refine J3 ?_; intro _ _) | (refine J4 ?_; intro _ _) | refine K1 ?_ | refine K0 ?_ | refine K2 ?_ | refine K3 ?_ | refine K4 ?_ | (refine CV_pu ?_; intro _ _ _ _) | refine fV_ldN ?_ | refine fV_ld1 ?_ | refine fHV_ldN ?_ | refine fHV_ld1 ?_ | refine NilW_some ?_ | refine iCW_1 ?_ | refine iCW_N ?_ | refine Pk_b ?_))
    exact ⟨_, _, ‹_›, by rw [h]; rfl⟩)⟩
theorem lastSplit {s : StM} (h : checkB s = true) : ∃ pre f, s = pre ++ [f] ∧ f.traps.length = 6 ∧ f.pend.length ≤ 4 ∧ pre.length ≤ 29 ∧ framedB f = true ∧ lastF s = f ∧ s.dropLast = pre := by
  obtain ⟨h30, hfr⟩ := checkB_fr h
  have hne : s ≠ [] := by intro e; subst e; simp [checkB] at h
  obtain ⟨pre, f, rfl⟩ : ∃ pre f, s = pre ++ [f] := ⟨s.dropLast, s.getLast hne, (List.dropLast_concat_getLast hne).symm⟩
  have hfd : framedB f = true := by
    simp only [checkB, Bool.and_eq_true, List.all_eq_true] at h
    exact h.2 f (by simp)
  exact ⟨pre, f, rfl, (hfr f (by simp)).1, (hfr f (by simp)).2, by simp at h30; omega, hfd, by simp [lastF], by simp⟩
/-- What raising a condition leads to. -/
def catchM (s : StM) (c : Int) : AcM × Int :=
  if openE s [c] ≠ 0 then (noAct, openE s [c])
  else
    let f : FrM := { lastF s with pend := [] }
    if (raiseA f c ⟨#[]⟩).kind ≠ 0 then (raiseA f c ⟨#[]⟩, 0)
    else
      let g := raiseF f c ⟨#[]⟩
      ((endM s.length g g.pend).a, (endM s.length g g.pend).e)
theorem raiseF_six {f : FrM} {c : Int} {d : ByteArray} (h6 : f.traps.length = 6) : (raiseF f c d).traps.length = 6 := by
  unfold raiseF
  repeat' split
  all_goals simp [sigF, h6]
theorem raiseF_pend {f : FrM} {c : Int} {d : ByteArray} (hp : f.pend = []) (h0 : 0 ≤ c) (h1 : c < 6) : ∀ r ∈ (raiseF f c d).pend, 0 ≤ r.cond ∧ r.cond < 6 := by
  unfold raiseF
  have hrc : 0 ≤ raiseC f c ∧ raiseC f c < 6 := by unfold raiseC; split <;> omega
  repeat' split
  all_goals intro r hr
  all_goals simp only [sigF, hp, List.nil_append, List.mem_singleton, List.not_mem_nil] at hr
  all_goals subst hr
  exact hrc
theorem endM_err {n : Nat} {f : FrM} : ∀ {l : List RaM}, (endM n f l).e ≠ 0 → (endM n f l).a = noAct
  | [], h => absurd rfl h
  | r :: l, h => by
    simp only [endM] at h ⊢
    split at h
    · rename_i h1; rw [if_pos h1]; exact endM_err h
    · rename_i h1
      rw [if_neg h1]
      split at h
      · exact absurd rfl h
      · rename_i h2
        rw [if_neg h2]
        split at h
        · rename_i h3; rw [if_pos h3]
        · exact absurd rfl h
theorem OpR.r {mb : Nat} {e : Int} {a : AcM} {s : StM} {z : Z} {B : Bl} {r : Value} (hea : e ≠ 0 → a = noAct) (h : OpR mb e a s z B r) : r = .tuple #[a.v, .int .i64 e] := by
  rw [OpR] at h
  by_cases he : e = 0
  · rw [if_pos he] at h; rw [he]; exact h.1
  · rw [if_neg he] at h; rw [hea he]; exact h
theorem CatchesP {v : Value} {s : StM} {c : Int} {z : Z} {w : World} (hs : StR z v s) : Fn1 30 #[v, .int .i64 c] z w fun _ r => r = .tuple #[(catchM s c).1.v, .int .i64 (catchM s c).2] := Fn1.intro fun hS => en30 (by
  unfold vc30
  obtain ⟨u, rfl, hu⟩ := hs
  obtain ⟨hb, a, cap, rfl, hcap, hel⟩ := hu.form
  refine iV_bx ?_
  intro b2 w2 hb2 hS2
  refine iV_al ?_
  intro b4 w4 hb4 hS4
  (repeat (first | (refine iDr ?_; intro _ _) | refine V_run ?_ | refine PV_run ?_ | refine HV_run ?_ | refine iV_ld1 ?_ | refine iV_ldN ?_ | (refine iV_bx ?_; intro _ _ _ _) | (refine iV_al ?_; intro _ _ _ _) | (refine iV_mm ?_; intro _ _ _ _) | (refine iU_st ?_; intro _ _) | refine iHV_1 ?_ | refine iHV_N ?_ | refine iRI_1 ?_ | refine iRI_N ?_ | refine Cond_t ?_ | refine Cond_f ?_ | refine JB ?_ | (refine JC ?_; intro _ _ _ _) | (refine J1 ?_; intro _ _) | (refine J0 ?_; intro _ _) | (refine J2 ?_; intro _ _) | (refine J3 ?_; intro _ _) | (refine J4 ?_; intro _ _) | refine K1 ?_ | refine K0 ?_ | refine K2 ?_ | refine K3 ?_ | refine K4 ?_ | (refine CV_pu ?_; intro _ _ _ _) | refine fV_ldN ?_ | refine fV_ld1 ?_ | refine fHV_ldN ?_ | refine fHV_ld1 ?_ | refine NilW_some ?_ | refine iCW_1 ?_ | refine iCW_N ?_ | refine Pk_b ?_))
  refine V_bs (parts := [(0, _)]) rfl (by omega) ?_
  intro b3 w3 hb3 hS3
  obtain ⟨z4, hz4, hS5, hfr⟩ := Res.freezeSl (E := El.int) (B := [(b3, _)]) (f := fun x => [.int .i64 x]) (xs := [c]) (v := .slice (some ⟨b3, 0, none⟩) 1 1) (e := 3) hS3 ⟨rfl, .inr ⟨b3, 1, [], by rfl, rfl, by simp, by simp [maxLen], rfl⟩⟩ (by simp [big]) (fun _ => rfl) (fun _ _ _ => rfl)
  clear hS3 hS4 hS2
  refine CV_fn0 (fun hz => openP (conds := [c]) ⟨_, rfl, hu.mono hz⟩ hfr) ?_
  rintro z8 B8 w8 v8 hle8 hS8 hop
  by_cases he : openE s [c] = 0
  · rw [if_pos he] at hop
    obtain ⟨mb, rfl, hm⟩ := hop
    have hck : checkB s = true := by
      simp only [openE] at he
      cases hh : checkB s with
      | true => rfl
      | false => simp [hh] at he
    have hcc : 0 ≤ c ∧ c < 6 := by
      simp only [openE, hck, if_true, List.all_cons, List.all_nil, Bool.and_true] at he
      cases hcd : cond c with
      | false => simp [hcd] at he
      | true => simpa [cond] using hcd
    obtain ⟨pre, f, rfl, h6, hp4, hpre, hfd, hlast, hdl⟩ := lastSplit hck
    have hlen1 : (pre ++ [f]).length = pre.length + 1 := by simp
    simp only [catchM, he, hlast, hlen1, ne_eq, not_true_eq_false, if_false]
    obtain ⟨fb, tb, ps, sp, ts, cap, tcap, B2, w2', rfl, hx, hpo⟩ := hm.x h6
    obtain ⟨a2, cap2, rfl, hc2⟩ := hpo.form
    have hlen := hx.fr.len
    simp only [mxB, List.cons_append] at hS8
    (repeat (first | (refine iDr ?_; intro _ _) | refine V_run ?_ | refine PV_run ?_ | refine HV_run ?_ | refine iV_ld1 ?_ | refine iV_ldN ?_ | (refine iV_bx ?_; intro _ _ _ _) | (refine iV_al ?_; intro _ _ _ _) | (refine iV_mm ?_; intro _ _ _ _) | (refine iU_st ?_; intro _ _) | refine iHV_1 ?_ | refine iHV_N ?_ | refine iRI_1 ?_ | refine iRI_N ?_ | refine Cond_t ?_ | refine Cond_f ?_ | refine JB ?_ | (refine JC ?_; intro _ _ _ _) | (refine J1 ?_; intro _ _) | (refine J0 ?_; intro _ _) | (refine J2 ?_; intro _ _) | (refine J3 ?_; intro _ _) | (refine J4 ?_; intro _ _) | refine K1 ?_ | refine K0 ?_ | refine K2 ?_ | refine K3 ?_ | refine K4 ?_ | (refine CV_pu ?_; intro _ _ _ _) | refine fV_ldN ?_ | refine fV_ld1 ?_ | refine fHV_ldN ?_ | refine fHV_ld1 ?_ | refine NilW_some ?_ | refine iCW_1 ?_ | refine iCW_N ?_ | refine Pk_b ?_))
    refine CV_now (n := pre.length) (o := ps.length) hlen.symm (by simp only [big]; omega) ?_
    intro w9 hS9
    (repeat (first | (refine iDr ?_; intro _ _) | refine V_run ?_ | refine PV_run ?_ | refine HV_run ?_ | refine iV_ld1 ?_ | refine iV_ldN ?_ | (refine iV_bx ?_; intro _ _ _ _) | (refine iV_al ?_; intro _ _ _ _) | (refine iV_mm ?_; intro _ _ _ _) | (refine iU_st ?_; intro _ _) | refine iHV_1 ?_ | refine iHV_N ?_ | refine iRI_1 ?_ | refine iRI_N ?_ | refine Cond_t ?_ | refine Cond_f ?_ | refine JB ?_ | (refine JC ?_; intro _ _ _ _) | (refine J1 ?_; intro _ _) | (refine J0 ?_; intro _ _) | (refine J2 ?_; intro _ _) | (refine J3 ?_; intro _ _) | (refine J4 ?_; intro _ _) | refine K1 ?_ | refine K0 ?_ | refine K2 ?_ | refine K3 ?_ | refine K4 ?_ | (refine CV_pu ?_; intro _ _ _ _) | refine fV_ldN ?_ | refine fV_ld1 ?_ | refine fHV_ldN ?_ | refine fHV_ld1 ?_ | refine NilW_some ?_ | refine iCW_1 ?_ | refine iCW_N ?_ | refine Pk_b ?_))
    rename_i hSe
    obtain ⟨q1, q2, q3, q4, q5⟩ := hx.sm
    have hx' : MachX z8 mb fb tb pre ps sp ts cap tcap { f with pend := [] } := ⟨hx.fr, hx.cap, hx.tcap, hx.six, q1, by simp, q3, by simp, q5⟩
    have hm' : Mach z8 _ mb (pre ++ [{ f with pend := [] }]) := hx'.mach (B2 := []) (v2 := .slice none 0 0) OwnSl.nil
    refine CV_fn (B := mxB mb fb tb (pre.length + 1) ps sp ts cap tcap { f with pend := [] } [] (.slice none 0 0)) (F := [(b4, _), (b2, _)]) (hSe.sublist ((((List.sublist_append_right B2 _).cons_cons _).cons_cons _).cons_cons _)) (raiseP (m := 0) hm' h6 hcc.1 hcc.2 (by omega) emptySm (by simp)) (by simp) ?_
    rintro z10 B10 w10 v10 hle10 hS10 hop
    rw [if_pos (by decide)] at hop
    obtain ⟨rfl, hm10⟩ := hop
    dsimp only [AcM.v, AcM.cells] at *
    (repeat (first | (refine iDr ?_; intro _ _) | refine V_run ?_ | refine PV_run ?_ | refine HV_run ?_ | refine iV_ld1 ?_ | refine iV_ldN ?_ | (refine iV_bx ?_; intro _ _ _ _) | (refine iV_al ?_; intro _ _ _ _) | (refine iV_mm ?_; intro _ _ _ _) | (refine iU_st ?_; intro _ _) | refine iHV_1 ?_ | refine iHV_N ?_ | refine iRI_1 ?_ | refine iRI_N ?_ | refine Cond_t ?_ | refine Cond_f ?_ | refine JB ?_ | (refine JC ?_; intro _ _ _ _) | (refine J1 ?_; intro _ _) | (refine J0 ?_; intro _ _) | (refine J2 ?_; intro _ _) | (refine J3 ?_; intro _ _) | (refine J4 ?_; intro _ _) | refine K1 ?_ | refine K0 ?_ | refine K2 ?_ | refine K3 ?_ | refine K4 ?_ | (refine CV_pu ?_; intro _ _ _ _) | refine fV_ldN ?_ | refine fV_ld1 ?_ | refine fHV_ldN ?_ | refine fHV_ld1 ?_ | refine NilW_some ?_ | refine iCW_1 ?_ | refine iCW_N ?_ | refine Pk_b ?_))
    refine Cond_nd (fun hkn => ?_) (fun hk0 => ?_)
    · (repeat (first | (refine iDr ?_; intro _ _) | refine V_run ?_ | refine PV_run ?_ | refine HV_run ?_ | refine iV_ld1 ?_ | refine iV_ldN ?_ | (refine iV_bx ?_; intro _ _ _ _) | (refine iV_al ?_; intro _ _ _ _) | (refine iV_mm ?_; intro _ _ _ _) | (refine iU_st ?_; intro _ _) | refine iHV_1 ?_ | refine iHV_N ?_ | refine iRI_1 ?_ | refine iRI_N ?_ | refine Cond_t ?_ | refine Cond_f ?_ | refine JB ?_ | (refine JC ?_; intro _ _ _ _) | (refine J1 ?_; intro _ _) | (refine J0 ?_; intro _ _) | (refine J2 ?_; intro _ _) | (refine J3 ?_; intro _ _) | (refine J4 ?_; intro _ _) | refine K1 ?_ | refine K0 ?_ | refine K2 ?_ | refine K3 ?_ | refine K4 ?_ | (refine CV_pu ?_; intro _ _ _ _) | refine fV_ldN ?_ | refine fV_ld1 ?_ | refine fHV_ldN ?_ | refine fHV_ld1 ?_ | refine NilW_some ?_ | refine iCW_1 ?_ | refine iCW_N ?_ | refine Pk_b ?_))
      exact ⟨_, _, ‹_›, by rw [if_pos hkn]⟩
    · (repeat (first | (refine iDr ?_; intro _ _) | refine V_run ?_ | refine PV_run ?_ | refine HV_run ?_ | refine iV_ld1 ?_ | refine iV_ldN ?_ | (refine iV_bx ?_; intro _ _ _ _) | (refine iV_al ?_; intro _ _ _ _) | (refine iV_mm ?_; intro _ _ _ _) | (refine iU_st ?_; intro _ _) | refine iHV_1 ?_ | refine iHV_N ?_ | refine iRI_1 ?_ | refine iRI_N ?_ | refine Cond_t ?_ | refine Cond_f ?_ | refine JB ?_ | (refine JC ?_; intro _ _ _ _) | (refine J1 ?_; intro _ _) | (refine J0 ?_; intro _ _) | (refine J2 ?_; intro _ _) | (refine J3 ?_; intro _ _) | (refine J4 ?_; intro _ _) | refine K1 ?_ | refine K0 ?_ | refine K2 ?_ | refine K3 ?_ | refine K4 ?_ | (refine CV_pu ?_; intro _ _ _ _) | refine fV_ldN ?_ | refine fV_ld1 ?_ | refine fHV_ldN ?_ | refine fHV_ld1 ?_ | refine NilW_some ?_ | refine iCW_1 ?_ | refine iCW_N ?_ | refine Pk_b ?_))
      rename_i hSe2
      refine CV_fn (B := B10) (F := (_, _) :: [_, _]) (hSe2.perm List.perm_middle.symm) (endP (v1 := .int .i64 0) (v2 := .int .i64 0) (v3 := .string ⟨#[]⟩) (hm10.z (by first | exact Le.refl _ | assumption)) (raiseF_six h6) (by omega) (raiseF_pend rfl hcc.1 hcc.2)) (by simp) ?_
      rintro z11 B11 w11 v11 hle11 hS11 hop
      have hop' := OpR.r endM_err hop
      clear hop
      subst hop'
      dsimp only [AcM.v, AcM.cells] at *
      (repeat (first | (refine iDr ?_; intro _ _) | refine V_run ?_ | refine PV_run ?_ | refine HV_run ?_ | refine iV_ld1 ?_ | refine iV_ldN ?_ | (refine iV_bx ?_; intro _ _ _ _) | (refine iV_al ?_; intro _ _ _ _) | (refine iV_mm ?_; intro _ _ _ _) | (refine iU_st ?_; intro _ _) | refine iHV_1 ?_ | refine iHV_N ?_ | refine iRI_1 ?_ | refine iRI_N ?_ | refine Cond_t ?_ | refine Cond_f ?_ | refine JB ?_ | (refine JC ?_; intro _ _ _ _) | (refine J1 ?_; intro _ _) | (refine J0 ?_; intro _ _) | (refine J2 ?_; intro _ _) | (refine J3 ?_; intro _ _) | (refine J4 ?_; intro _ _) | refine K1 ?_ | refine K0 ?_ | refine K2 ?_ | refine K3 ?_ | refine K4 ?_ | (refine CV_pu ?_; intro _ _ _ _) | refine fV_ldN ?_ | refine fV_ld1 ?_ | refine fHV_ldN ?_ | refine fHV_ld1 ?_ | refine NilW_some ?_ | refine iCW_1 ?_ | refine iCW_N ?_ | refine Pk_b ?_))
      exact ⟨_, _, ‹_›, by
        rw [if_neg (by simpa using hk0)]⟩
  · rw [if_neg he] at hop
    obtain ⟨rfl, rfl⟩ := hop
    simp only [List.nil_append] at hS8
    (repeat (first | (refine iDr ?_; intro _ _) | refine V_run ?_ | refine PV_run ?_ | refine HV_run ?_ | refine iV_ld1 ?_ | refine iV_ldN ?_ | (refine iV_bx ?_; intro _ _ _ _) | (refine iV_al ?_; intro _ _ _ _) | (refine iV_mm ?_; intro _ _ _ _) | (refine iU_st ?_; intro _ _) | refine iHV_1 ?_ | refine iHV_N ?_ | refine iRI_1 ?_ | refine iRI_N ?_ | refine Cond_t ?_ | refine Cond_f ?_ | refine JB ?_ | (refine JC ?_; intro _ _ _ _) | (refine J1 ?_; intro _ _) | (refine J0 ?_; intro _ _) | (refine J2 ?_; intro _ _) | (refine J3 ?_; intro _ _) | (refine J4 ?_; intro _ _) | refine K1 ?_ | refine K0 ?_ | refine K2 ?_ | refine K3 ?_ | refine K4 ?_ | (refine CV_pu ?_; intro _ _ _ _) | refine fV_ldN ?_ | refine fV_ld1 ?_ | refine fHV_ldN ?_ | refine fHV_ld1 ?_ | refine NilW_some ?_ | refine iCW_1 ?_ | refine iCW_N ?_ | refine Pk_b ?_))
    refine Cond_nd (fun _ => ?_) (fun h => absurd h he)
    (repeat (first | (refine iDr ?_; intro _ _) | refine V_run ?_ | refine PV_run ?_ | refine HV_run ?_ | refine iV_ld1 ?_ | refine iV_ldN ?_ | (refine iV_bx ?_; intro _ _ _ _) | (refine iV_al ?_; intro _ _ _ _) | (refine iV_mm ?_; intro _ _ _ _) | (refine iU_st ?_; intro _ _) | refine iHV_1 ?_ | refine iHV_N ?_ | refine iRI_1 ?_ | refine iRI_N ?_ | refine Cond_t ?_ | refine Cond_f ?_ | refine JB ?_ | (refine JC ?_; intro _ _ _ _) | (refine J1 ?_; intro _ _) | (refine J0 ?_; intro _ _) | (refine J2 ?_; intro _ _) | (refine J3 ?_; intro _ _) | (refine J4 ?_; intro _ _) | refine K1 ?_ | refine K0 ?_ | refine K2 ?_ | refine K3 ?_ | refine K4 ?_ | (refine CV_pu ?_; intro _ _ _ _) | refine fV_ldN ?_ | refine fV_ld1 ?_ | refine fHV_ldN ?_ | refine fHV_ld1 ?_ | refine NilW_some ?_ | refine iCW_1 ?_ | refine iCW_N ?_ | refine Pk_b ?_))
    exact ⟨_, _, ‹_›, by rw [catchM, if_pos he]; rfl⟩)
end Go.Proofs.Ytjnckainogpenaa
end

section
/- What CONDITION tells. -/
set_option linter.unusedVariables false
set_option maxRecDepth 20000
set_option synthInstance.maxHeartbeats 400000
set_option synthInstance.maxSize 4000
namespace Go.Proofs.Ytjnckainogpenaa
open Go Q Go.RowKit

def wOff : ByteArray := ⟨#[79, 70, 70]⟩
def wOn : ByteArray := ⟨#[79, 78]⟩
def wDelay : ByteArray := ⟨#[68, 69, 76, 65, 89]⟩
def wSignal : ByteArray := ⟨#[83, 73, 71, 78, 65, 76]⟩
def wCall : ByteArray := ⟨#[67, 65, 76, 76]⟩
def stateM (t : TrM) : ByteArray := if t.mode = 0 then wOff else if t.delayed then wDelay else wOn
def tellM (f : FrM) (o : Int) : ByteArray :=
  if o = 67 then nameOf f.info.cond else if o = 68 then f.info.desc else if o = 73 then (if f.info.mode = 1 then wSignal else wCall) else stateM (f.tr f.info.cond)
def condM (s : StM) (o : Int) : ByteArray × Int :=
  if checkB s = false then (⟨#[]⟩, 2)
  else if ¬ (o = 67 ∨ o = 68 ∨ o = 73 ∨ o = 83) then (⟨#[]⟩, 1)
  else if (lastF s).info.mode = 0 then (⟨#[]⟩, 0)
  else (tellM (lastF s) o, 0)
theorem words {z : Z} {w : World} : Fn 105 #[] z [] w fun z' B' r => ∃ b, r = .slice (some ⟨b, 0, none⟩) 3 3 ∧ B' = [(b, .cells [.string wOff, .string wOn, .string wDelay].toArray 9 (0, 0))] := Fn.intro fun hS => en105 (by
  unfold vc105
  refine V_bs (parts := [(0, _), (1, _), (2, _)]) rfl (by omega) ?_
  intro b w1 hb hS1
  exact ⟨z, _, hS1, b, rfl, rfl⟩)
instance {t : TrM} : Pu 76 #[t.v] (.string (stateM t)) := ⟨fun z w => Fn1.intro fun hS => en76 (by
  unfold vc76
  dsimp only [TrM.v, TrM.cells]
  haveI : InR 0 (3 : Nat) := ⟨by decide, by decide⟩
  haveI : InR 1 (3 : Nat) := ⟨by decide, by decide⟩
  haveI : InR 2 (3 : Nat) := ⟨by decide, by decide⟩
  (repeat (first | (refine iDr ?_; intro _ _) | refine V_run ?_ | refine PV_run ?_ | refine HV_run ?_ | refine iV_ld1 ?_ | refine iV_ldN ?_ | (refine iV_bx ?_; intro _ _ _ _) | (refine iV_al ?_; intro _ _ _ _) | (refine iV_mm ?_; intro _ _ _ _) | (refine iU_st ?_; intro _ _) | refine iHV_1 ?_ | refine iHV_N ?_ | refine iRI_1 ?_ | refine iRI_N ?_ | refine Cond_t ?_ | refine Cond_f ?_ | refine JB ?_ | (refine JC ?_; intro _ _ _ _) | (refine J1 ?_; intro _ _) | (refine J0 ?_; intro _ _) | (refine J2 ?_; intro _ _) | (refine J3 ?_; intro _ _) | (refine J4 ?_; intro _ _) | refine K1 ?_ | refine K0 ?_ | refine K2 ?_ | refine K3 ?_ | refine K4 ?_ | (refine CV_pu ?_; intro _ _ _ _) | refine fV_ldN ?_ | refine fV_ld1 ?_ | refine fHV_ldN ?_ | refine fHV_ld1 ?_ | refine NilW_some ?_ | refine iCW_1 ?_ | refine iCW_N ?_ | refine Pk_b ?_))
  refine Cond_d (fun h => ?_) (fun h => ?_)
  · refine CV_fn0 (fun _ => words) ?_
    rintro z1 B1 w1 v1 hle1 hS1 ⟨b, rfl, rfl⟩
    simp only [List.cons_append, List.nil_append] at hS1
    (repeat (first | (refine iDr ?_; intro _ _) | refine V_run ?_ | refine PV_run ?_ | refine HV_run ?_ | refine iV_ld1 ?_ | refine iV_ldN ?_ | (refine iV_bx ?_; intro _ _ _ _) | (refine iV_al ?_; intro _ _ _ _) | (refine iV_mm ?_; intro _ _ _ _) | (refine iU_st ?_; intro _ _) | refine iHV_1 ?_ | refine iHV_N ?_ | refine iRI_1 ?_ | refine iRI_N ?_ | refine Cond_t ?_ | refine Cond_f ?_ | refine JB ?_ | (refine JC ?_; intro _ _ _ _) | (refine J1 ?_; intro _ _) | (refine J0 ?_; intro _ _) | (refine J2 ?_; intro _ _) | (refine J3 ?_; intro _ _) | (refine J4 ?_; intro _ _) | refine K1 ?_ | refine K0 ?_ | refine K2 ?_ | refine K3 ?_ | refine K4 ?_ | (refine CV_pu ?_; intro _ _ _ _) | refine fV_ldN ?_ | refine fV_ld1 ?_ | refine fHV_ldN ?_ | refine fHV_ld1 ?_ | refine NilW_some ?_ | refine iCW_1 ?_ | refine iCW_N ?_ | refine Pk_b ?_))
    rw [show Int.toNat 0 * 1 = 0 from rfl]
    (repeat (first | (refine iDr ?_; intro _ _) | refine V_run ?_ | refine PV_run ?_ | refine HV_run ?_ | refine iV_ld1 ?_ | refine iV_ldN ?_ | (refine iV_bx ?_; intro _ _ _ _) | (refine iV_al ?_; intro _ _ _ _) | (refine iV_mm ?_; intro _ _ _ _) | (refine iU_st ?_; intro _ _) | refine iHV_1 ?_ | refine iHV_N ?_ | refine iRI_1 ?_ | refine iRI_N ?_ | refine Cond_t ?_ | refine Cond_f ?_ | refine JB ?_ | (refine JC ?_; intro _ _ _ _) | (refine J1 ?_; intro _ _) | (refine J0 ?_; intro _ _) | (refine J2 ?_; intro _ _) | (refine J3 ?_; intro _ _) | (refine J4 ?_; intro _ _) | refine K1 ?_ | refine K0 ?_ | refine K2 ?_ | refine K3 ?_ | refine K4 ?_ | (refine CV_pu ?_; intro _ _ _ _) | refine fV_ldN ?_ | refine fV_ld1 ?_ | refine fHV_ldN ?_ | refine fHV_ld1 ?_ | refine NilW_some ?_ | refine iCW_1 ?_ | refine iCW_N ?_ | refine Pk_b ?_))
    exact ⟨_, _, ‹_›, by rw [stateM, if_pos h]⟩
  · (repeat (first | (refine iDr ?_; intro _ _) | refine V_run ?_ | refine PV_run ?_ | refine HV_run ?_ | refine iV_ld1 ?_ | refine iV_ldN ?_ | (refine iV_bx ?_; intro _ _ _ _) | (refine iV_al ?_; intro _ _ _ _) | (refine iV_mm ?_; intro _ _ _ _) | (refine iU_st ?_; intro _ _) | refine iHV_1 ?_ | refine iHV_N ?_ | refine iRI_1 ?_ | refine iRI_N ?_ | refine Cond_t ?_ | refine Cond_f ?_ | refine JB ?_ | (refine JC ?_; intro _ _ _ _) | (refine J1 ?_; intro _ _) | (refine J0 ?_; intro _ _) | (refine J2 ?_; intro _ _) | (refine J3 ?_; intro _ _) | (refine J4 ?_; intro _ _) | refine K1 ?_ | refine K0 ?_ | refine K2 ?_ | refine K3 ?_ | refine K4 ?_ | (refine CV_pu ?_; intro _ _ _ _) | refine fV_ldN ?_ | refine fV_ld1 ?_ | refine fHV_ldN ?_ | refine fHV_ld1 ?_ | refine NilW_some ?_ | refine iCW_1 ?_ | refine iCW_N ?_ | refine Pk_b ?_))
    refine Cond_b (fun h2 => ?_) (fun h2 => ?_)
    · refine CV_fn0 (fun _ => words) ?_
      rintro z1 B1 w1 v1 hle1 hS1 ⟨b, rfl, rfl⟩
      simp only [List.cons_append, List.nil_append] at hS1
      (repeat (first | (refine iDr ?_; intro _ _) | refine V_run ?_ | refine PV_run ?_ | refine HV_run ?_ | refine iV_ld1 ?_ | refine iV_ldN ?_ | (refine iV_bx ?_; intro _ _ _ _) | (refine iV_al ?_; intro _ _ _ _) | (refine iV_mm ?_; intro _ _ _ _) | (refine iU_st ?_; intro _ _) | refine iHV_1 ?_ | refine iHV_N ?_ | refine iRI_1 ?_ | refine iRI_N ?_ | refine Cond_t ?_ | refine Cond_f ?_ | refine JB ?_ | (refine JC ?_; intro _ _ _ _) | (refine J1 ?_; intro _ _) | (refine J0 ?_; intro _ _) | (refine J2 ?_; intro _ _) | (refine J3 ?_; intro _ _) | (refine J4 ?_; intro _ _) | refine K1 ?_ | refine K0 ?_ | refine K2 ?_ | refine K3 ?_ | refine K4 ?_ | (refine CV_pu ?_; intro _ _ _ _) | refine fV_ldN ?_ | refine fV_ld1 ?_ | refine fHV_ldN ?_ | refine fHV_ld1 ?_ | refine NilW_some ?_ | refine iCW_1 ?_ | refine iCW_N ?_ | refine Pk_b ?_))
      rw [show Int.toNat 2 * 1 = 2 from rfl]
      (repeat (first | (refine iDr ?_; intro _ _) | refine V_run ?_ | refine PV_run ?_ | refine HV_run ?_ | refine iV_ld1 ?_ | refine iV_ldN ?_ | (refine iV_bx ?_; intro _ _ _ _) | (refine iV_al ?_; intro _ _ _ _) | (refine iV_mm ?_; intro _ _ _ _) | (refine iU_st ?_; intro _ _) | refine iHV_1 ?_ | refine iHV_N ?_ | refine iRI_1 ?_ | refine iRI_N ?_ | refine Cond_t ?_ | refine Cond_f ?_ | refine JB ?_ | (refine JC ?_; intro _ _ _ _) | (refine J1 ?_; intro _ _) | (refine J0 ?_; intro _ _) | (refine J2 ?_; intro _ _) | (refine J3 ?_; intro _ _) | (refine J4 ?_; intro _ _) | refine K1 ?_ | refine K0 ?_ | refine K2 ?_ | refine K3 ?_ | refine K4 ?_ | (refine CV_pu ?_; intro _ _ _ _) | refine fV_ldN ?_ | refine fV_ld1 ?_ | refine fHV_ldN ?_ | refine fHV_ld1 ?_ | refine NilW_some ?_ | refine iCW_1 ?_ | refine iCW_N ?_ | refine Pk_b ?_))
      exact ⟨_, _, ‹_›, by rw [stateM, if_neg h, if_pos h2]⟩
    · refine CV_fn0 (fun _ => words) ?_
      rintro z1 B1 w1 v1 hle1 hS1 ⟨b, rfl, rfl⟩
      simp only [List.cons_append, List.nil_append] at hS1
      (repeat (first | (refine iDr ?_; intro _ _) | refine V_run ?_ | refine PV_run ?_ | refine HV_run ?_ | refine iV_ld1 ?_ | refine iV_ldN ?_ | (refine iV_bx ?_; intro _ _ _ _) | (refine iV_al ?_; intro _ _ _ _) | (refine iV_mm ?_; intro _ _ _ _) | (refine iU_st ?_; intro _ _) | refine iHV_1 ?_ | refine iHV_N ?_ | refine iRI_1 ?_ | refine iRI_N ?_ | refine Cond_t ?_ | refine Cond_f ?_ | refine JB ?_ | (refine JC ?_; intro _ _ _ _) | (refine J1 ?_; intro _ _) | (refine J0 ?_; intro _ _) | (refine J2 ?_; intro _ _) | (refine J3 ?_; intro _ _) | (refine J4 ?_; intro _ _) | refine K1 ?_ | refine K0 ?_ | refine K2 ?_ | refine K3 ?_ | refine K4 ?_ | (refine CV_pu ?_; intro _ _ _ _) | refine fV_ldN ?_ | refine fV_ld1 ?_ | refine fHV_ldN ?_ | refine fHV_ld1 ?_ | refine NilW_some ?_ | refine iCW_1 ?_ | refine iCW_N ?_ | refine Pk_b ?_))
      rw [show Int.toNat 1 * 1 = 1 from rfl]
      (repeat (first | (refine iDr ?_; intro _ _) | refine V_run ?_ | refine PV_run ?_ | refine HV_run ?_ | refine iV_ld1 ?_ | refine iV_ldN ?_ | (refine iV_bx ?_; intro _ _ _ _) | (refine iV_al ?_; intro _ _ _ _) | (refine iV_mm ?_; intro _ _ _ _) | (refine iU_st ?_; intro _ _) | refine iHV_1 ?_ | refine iHV_N ?_ | refine iRI_1 ?_ | refine iRI_N ?_ | refine Cond_t ?_ | refine Cond_f ?_ | refine JB ?_ | (refine JC ?_; intro _ _ _ _) | (refine J1 ?_; intro _ _) | (refine J0 ?_; intro _ _) | (refine J2 ?_; intro _ _) | (refine J3 ?_; intro _ _) | (refine J4 ?_; intro _ _) | refine K1 ?_ | refine K0 ?_ | refine K2 ?_ | refine K3 ?_ | refine K4 ?_ | (refine CV_pu ?_; intro _ _ _ _) | refine fV_ldN ?_ | refine fV_ld1 ?_ | refine fHV_ldN ?_ | refine fHV_ld1 ?_ | refine NilW_some ?_ | refine iCW_1 ?_ | refine iCW_N ?_ | refine Pk_b ?_))
      exact ⟨_, _, ‹_›, by rw [stateM, if_neg h, if_neg (by simp [h2])]⟩)⟩

/-- The closures of Condition, where the frame lies in the machine's own memory. -/
theorem CV_tell {w0 w : World} {z0 z : Z} {B0 L : Bl} {C C' C'' : Obj → Bl} {K : Value → World → Prop} [hS : Res w0 z0 B0 w z L] {f : FrM} {bb fb tb tcap : Nat} {ps sp ts : List Value} {v2 : Value} {k : Int} {fid : FuncId}
    [gb : Blk L bb (.cells [.pointer (some ⟨fb, ps.length, none⟩)].toArray 116 (0, 0)) C] [gf : Blk L fb (.cells (ps ++ (.slice (some ⟨tb, 0, none⟩) 6 tcap :: v2 :: .int .i64 f.info.cond :: .int .i64 f.info.mode :: .string f.info.desc :: sp)).toArray 63 (0, 0)) C'] [gt : Blk L tb (.cells (f.traps.flatMap TrM.cells ++ ts).toArray 73 (0, 0)) C'']
    (h6 : f.traps.length = 6) (hc : 0 ≤ f.info.cond ∧ f.info.cond < 6) (hmo : f.info.mode = 1 ∨ f.info.mode = 2) (hk : (k = 67 ∧ fid = 71) ∨ (k = 68 ∧ fid = 73) ∨ (k = 73 ∧ fid = 74) ∨ (k = 83 ∧ fid = 75))
    (hK : ∀ z' w' L', Le z z' → Res w0 z0 B0 w' z' L' → L.Sublist L' → K (.string (tellM f k)) w') : CV (.func (.func fid) #[] #[.pointer (some ⟨bb, 0, none⟩)]) #[] w K := by
  haveI : InR f.info.cond 6 := ⟨hc.1, hc.2⟩
  haveI : InR f.info.cond (6 : Nat) := ⟨hc.1, by have := hc.2; omega⟩
  rcases hk with ⟨rfl, rfl⟩ | ⟨rfl, rfl⟩ | ⟨rfl, rfl⟩ | ⟨rfl, rfl⟩
  · refine CV_enter (args' := #[.pointer (some ⟨bb, 0, none⟩)]) (by simp) (en71 ?_)
    unfold vc71
    (repeat (first | (refine iDr ?_; intro _ _) | refine V_run ?_ | refine PV_run ?_ | refine HV_run ?_ | refine iV_ld1 ?_ | refine iV_ldN ?_ | (refine iV_bx ?_; intro _ _ _ _) | (refine iV_al ?_; intro _ _ _ _) | (refine iV_mm ?_; intro _ _ _ _) | (refine iU_st ?_; intro _ _) | refine iHV_1 ?_ | refine iHV_N ?_ | refine iRI_1 ?_ | refine iRI_N ?_ | refine Cond_t ?_ | refine Cond_f ?_ | refine JB ?_ | (refine JC ?_; intro _ _ _ _) | (refine J1 ?_; intro _ _) | (refine J0 ?_; intro _ _) | (refine J2 ?_; intro _ _) | (refine J3 ?_; intro _ _) | (refine J4 ?_; intro _ _) | refine K1 ?_ | refine K0 ?_ | refine K2 ?_ | refine K3 ?_ | refine K4 ?_ | (refine CV_pu ?_; intro _ _ _ _) | refine fV_ldN ?_ | refine fV_ld1 ?_ | refine fHV_ldN ?_ | refine fHV_ld1 ?_ | refine NilW_some ?_ | refine iCW_1 ?_ | refine iCW_N ?_ | refine Pk_b ?_))
    exact hK _ _ _ ‹Le z _› ‹_› (List.Sublist.refl _)
  · refine CV_enter (args' := #[.pointer (some ⟨bb, 0, none⟩)]) (by simp) (en73 ?_)
    unfold vc73
    (repeat (first | (refine iDr ?_; intro _ _) | refine V_run ?_ | refine PV_run ?_ | refine HV_run ?_ | refine iV_ld1 ?_ | refine iV_ldN ?_ | (refine iV_bx ?_; intro _ _ _ _) | (refine iV_al ?_; intro _ _ _ _) | (refine iV_mm ?_; intro _ _ _ _) | (refine iU_st ?_; intro _ _) | refine iHV_1 ?_ | refine iHV_N ?_ | refine iRI_1 ?_ | refine iRI_N ?_ | refine Cond_t ?_ | refine Cond_f ?_ | refine JB ?_ | (refine JC ?_; intro _ _ _ _) | (refine J1 ?_; intro _ _) | (refine J0 ?_; intro _ _) | (refine J2 ?_; intro _ _) | (refine J3 ?_; intro _ _) | (refine J4 ?_; intro _ _) | refine K1 ?_ | refine K0 ?_ | refine K2 ?_ | refine K3 ?_ | refine K4 ?_ | (refine CV_pu ?_; intro _ _ _ _) | refine fV_ldN ?_ | refine fV_ld1 ?_ | refine fHV_ldN ?_ | refine fHV_ld1 ?_ | refine NilW_some ?_ | refine iCW_1 ?_ | refine iCW_N ?_ | refine Pk_b ?_))
    exact hK _ _ _ (Le.refl _) ‹_› (List.Sublist.refl _)
  · refine CV_enter (args' := #[.pointer (some ⟨bb, 0, none⟩)]) (by simp) (en74 ?_)
    unfold vc74
    refine iV_mm ?_
    intro b w1 hb hS1
    refine iU_mu (by simp) ?_
    intro w2 hS2
    refine iU_mu (by simp) ?_
    intro w3 hS3
    haveI : LkV ([] ++ [((1 : Int), Value.string wSignal)] ++ [((2 : Int), Value.string wCall)]) f.info.mode (.string ⟨#[]⟩) (.string (if f.info.mode = 1 then wSignal else wCall)) := ⟨by
      rcases hmo with h | h <;> rw [h] <;> rfl⟩
    (repeat (first | (refine iDr ?_; intro _ _) | refine V_run ?_ | refine PV_run ?_ | refine HV_run ?_ | refine iV_ld1 ?_ | refine iV_ldN ?_ | (refine iV_bx ?_; intro _ _ _ _) | (refine iV_al ?_; intro _ _ _ _) | (refine iV_mm ?_; intro _ _ _ _) | (refine iU_st ?_; intro _ _) | refine iHV_1 ?_ | refine iHV_N ?_ | refine iRI_1 ?_ | refine iRI_N ?_ | refine Cond_t ?_ | refine Cond_f ?_ | refine JB ?_ | (refine JC ?_; intro _ _ _ _) | (refine J1 ?_; intro _ _) | (refine J0 ?_; intro _ _) | (refine J2 ?_; intro _ _) | (refine J3 ?_; intro _ _) | (refine J4 ?_; intro _ _) | refine K1 ?_ | refine K0 ?_ | refine K2 ?_ | refine K3 ?_ | refine K4 ?_ | (refine CV_pu ?_; intro _ _ _ _) | refine fV_ldN ?_ | refine fV_ld1 ?_ | refine fHV_ldN ?_ | refine fHV_ld1 ?_ | refine NilW_some ?_ | refine iCW_1 ?_ | refine iCW_N ?_ | refine Pk_b ?_))
    refine iV_lkv (l := [] ++ [((1 : Int), Value.string wSignal)] ++ [((2 : Int), Value.string wCall)]) ?_
    exact hK _ _ _ (Le.refl _) hS3 (List.sublist_cons_self _ _)
  · refine CV_enter (args' := #[.pointer (some ⟨bb, 0, none⟩)]) (by simp) (en75 ?_)
    unfold vc75
    have gN := tgetN h6 hc.1 hc.2 ts
    (repeat (first | (refine iDr ?_; intro _ _) | refine V_run ?_ | refine PV_run ?_ | refine HV_run ?_ | refine iV_ld1 ?_ | refine iV_ldN ?_ | (refine iV_bx ?_; intro _ _ _ _) | (refine iV_al ?_; intro _ _ _ _) | (refine iV_mm ?_; intro _ _ _ _) | (refine iU_st ?_; intro _ _) | refine iHV_1 ?_ | refine iHV_N ?_ | refine iRI_1 ?_ | refine iRI_N ?_ | refine Cond_t ?_ | refine Cond_f ?_ | refine JB ?_ | (refine JC ?_; intro _ _ _ _) | (refine J1 ?_; intro _ _) | (refine J0 ?_; intro _ _) | (refine J2 ?_; intro _ _) | (refine J3 ?_; intro _ _) | (refine J4 ?_; intro _ _) | refine K1 ?_ | refine K0 ?_ | refine K2 ?_ | refine K3 ?_ | refine K4 ?_ | (refine CV_pu ?_; intro _ _ _ _) | refine fV_ldN ?_ | refine fV_ld1 ?_ | refine fHV_ldN ?_ | refine fHV_ld1 ?_ | refine NilW_some ?_ | refine iCW_1 ?_ | refine iCW_N ?_ | refine Pk_b ?_))
    exact hK _ _ _ ‹Le z _› ‹_› (List.Sublist.refl _)
abbrev tellsL (b : Nat) : List (Int × Value) := [] ++ [((67 : Int), Value.func (Fn.func 71) #[] #[.pointer (some ⟨b, 0, none⟩)])] ++ [((68 : Int), Value.func (Fn.func 73) #[] #[.pointer (some ⟨b, 0, none⟩)])] ++ [((73 : Int), Value.func (Fn.func 74) #[] #[.pointer (some ⟨b, 0, none⟩)])] ++ [((83 : Int), Value.func (Fn.func 75) #[] #[.pointer (some ⟨b, 0, none⟩)])]
theorem tells_no {b : Nat} {o : Int} (h : ¬ (o = 67 ∨ o = 68 ∨ o = 73 ∨ o = 83)) : lkF (tellsL b) o .nilFunc = (.nilFunc, false) := by
  have : ∀ a : Int, a ≠ o → (a == o) = false := fun a h => by simpa using h
  simp only [lkF, tellsL, List.nil_append, List.cons_append, List.find?, this 67 (by omega), this 68 (by omega), this 73 (by omega), this 83 (by omega)]
theorem tells_is {b : Nat} {o : Int} (h : o = 67 ∨ o = 68 ∨ o = 73 ∨ o = 83) : ∃ fid, lkF (tellsL b) o .nilFunc = (.func (.func fid) #[] #[.pointer (some ⟨b, 0, none⟩)], true) ∧ ((o = 67 ∧ fid = 71) ∨ (o = 68 ∧ fid = 73) ∨ (o = 73 ∧ fid = 74) ∨ (o = 83 ∧ fid = 75)) := by
  rcases h with rfl | rfl | rfl | rfl
  · exact ⟨_, rfl, .inl ⟨rfl, rfl⟩⟩
  · exact ⟨_, rfl, .inr (.inl ⟨rfl, rfl⟩)⟩
  · exact ⟨_, rfl, .inr (.inr (.inl ⟨rfl, rfl⟩))⟩
  · exact ⟨_, rfl, .inr (.inr (.inr ⟨rfl, rfl⟩))⟩
theorem ConditionP {v : Value} {s : StM} {o : Int} {z : Z} {w : World} (hs : StR z v s) : Fn1 34 #[v, .int .u8 o] z w fun _ r => r = .tuple #[.string (condM s o).1, .int .i64 (condM s o).2] := Fn1.intro fun hS => en34 (by
  unfold vc34
  obtain ⟨u, rfl, hu⟩ := hs
  obtain ⟨hb, a, cap, rfl, hcap, hel⟩ := hu.form
  refine iV_bx ?_
  intro b2 w2 hb2 hS2
  (repeat (first | (refine iDr ?_; intro _ _) | refine V_run ?_ | refine PV_run ?_ | refine HV_run ?_ | refine iV_ld1 ?_ | refine iV_ldN ?_ | (refine iV_bx ?_; intro _ _ _ _) | (refine iV_al ?_; intro _ _ _ _) | (refine iV_mm ?_; intro _ _ _ _) | (refine iU_st ?_; intro _ _) | refine iHV_1 ?_ | refine iHV_N ?_ | refine iRI_1 ?_ | refine iRI_N ?_ | refine Cond_t ?_ | refine Cond_f ?_ | refine JB ?_ | (refine JC ?_; intro _ _ _ _) | (refine J1 ?_; intro _ _) | (refine J0 ?_; intro _ _) | (refine J2 ?_; intro _ _) | (refine J3 ?_; intro _ _) | (refine J4 ?_; intro _ _) | refine K1 ?_ | refine K0 ?_ | refine K2 ?_ | refine K3 ?_ | refine K4 ?_ | (refine CV_pu ?_; intro _ _ _ _) | refine fV_ldN ?_ | refine fV_ld1 ?_ | refine fHV_ldN ?_ | refine fHV_ld1 ?_ | refine NilW_some ?_ | refine iCW_1 ?_ | refine iCW_N ?_ | refine Pk_b ?_))
  refine CV_fn0 (fun hz => openP (conds := []) ⟨_, rfl, hu.mono hz⟩ SlR.nil) ?_
  rintro z8 B8 w8 v8 hle8 hS8 hop
  by_cases hck : checkB s = true
  · have he : openE s [] = 0 := by simp [openE, hck]
    rw [if_pos he] at hop
    obtain ⟨mb, rfl, hm⟩ := hop
    obtain ⟨pre, f, rfl, h6, hp4, hpre, hfd, hlast, hdl⟩ := lastSplit hck
    obtain ⟨fb, tb, ps, sp, ts, cap, tcap, B2, w2', rfl, hx, hpo⟩ := hm.x h6
    obtain ⟨a2, cap2, rfl, hc2⟩ := hpo.form
    have hlen := hx.fr.len
    simp only [mxB, List.cons_append] at hS8
    simp only [condM, hck, hlast, Bool.true_eq_false, if_false]
    (repeat (first | (refine iDr ?_; intro _ _) | refine V_run ?_ | refine PV_run ?_ | refine HV_run ?_ | refine iV_ld1 ?_ | refine iV_ldN ?_ | (refine iV_bx ?_; intro _ _ _ _) | (refine iV_al ?_; intro _ _ _ _) | (refine iV_mm ?_; intro _ _ _ _) | (refine iU_st ?_; intro _ _) | refine iHV_1 ?_ | refine iHV_N ?_ | refine iRI_1 ?_ | refine iRI_N ?_ | refine Cond_t ?_ | refine Cond_f ?_ | refine JB ?_ | (refine JC ?_; intro _ _ _ _) | (refine J1 ?_; intro _ _) | (refine J0 ?_; intro _ _) | (refine J2 ?_; intro _ _) | (refine J3 ?_; intro _ _) | (refine J4 ?_; intro _ _) | refine K1 ?_ | refine K0 ?_ | refine K2 ?_ | refine K3 ?_ | refine K4 ?_ | (refine CV_pu ?_; intro _ _ _ _) | refine fV_ldN ?_ | refine fV_ld1 ?_ | refine fHV_ldN ?_ | refine fHV_ld1 ?_ | refine NilW_some ?_ | refine iCW_1 ?_ | refine iCW_N ?_ | refine Pk_b ?_))
    refine CV_now (n := pre.length) (o := ps.length) hlen.symm (by simp only [big]; omega) ?_
    intro w9 hS9
    refine iV_al ?_
    intro b10 w10 hb10 hS10
    refine iU_st ?_
    intro w10' hS10'
    refine iV_mm ?_
    intro bm w11' hbm hS11'
    refine iU_mu (by simp) ?_
    intro w11 hS11
    refine iU_mu (by simp) ?_
    intro w12 hS12
    refine iU_mu (by simp) ?_
    intro w13 hS13
    refine iU_mu (by simp) ?_
    intro w14 hS14
    refine iV_lk (zv := .nilFunc) (ZeroV.h (e := 122)) ?_
    simp only [if_true]
    clear hS13 hS12 hS11 hS11' hS10' hS10 hS9 hS8
    by_cases ho : o = 67 ∨ o = 68 ∨ o = 73 ∨ o = 83
    · obtain ⟨fid, hf1, hf2⟩ := tells_is (b := b10) ho
      simp only [hf1, ho, not_true_eq_false, if_false]
      (repeat (first | (refine iDr ?_; intro _ _) | refine V_run ?_ | refine PV_run ?_ | refine HV_run ?_ | refine iV_ld1 ?_ | refine iV_ldN ?_ | (refine iV_bx ?_; intro _ _ _ _) | (refine iV_al ?_; intro _ _ _ _) | (refine iV_mm ?_; intro _ _ _ _) | (refine iU_st ?_; intro _ _) | refine iHV_1 ?_ | refine iHV_N ?_ | refine iRI_1 ?_ | refine iRI_N ?_ | refine Cond_t ?_ | refine Cond_f ?_ | refine JB ?_ | (refine JC ?_; intro _ _ _ _) | (refine J1 ?_; intro _ _) | (refine J0 ?_; intro _ _) | (refine J2 ?_; intro _ _) | (refine J3 ?_; intro _ _) | (refine J4 ?_; intro _ _) | refine K1 ?_ | refine K0 ?_ | refine K2 ?_ | refine K3 ?_ | refine K4 ?_ | (refine CV_pu ?_; intro _ _ _ _) | refine fV_ldN ?_ | refine fV_ld1 ?_ | refine fHV_ldN ?_ | refine fHV_ld1 ?_ | refine NilW_some ?_ | refine iCW_1 ?_ | refine iCW_N ?_ | refine Pk_b ?_))
      refine Cond_d (fun hm0 => ?_) (fun hm0 => ?_)
      · exact ⟨_, _, ‹_›, by rw [if_pos hm0]⟩
      · have hinf : infoB f.info = true := by
          simp only [framedB, Bool.and_eq_true] at hfd; exact hfd.2
        rw [infoB, if_neg hm0] at hinf
        simp only [Bool.and_eq_true, Bool.or_eq_true, decide_eq_true_eq, cond] at hinf
        refine CV_tell (f := f) (ps := ps) (sp := sp) (ts := ts) (tcap := tcap) (v2 := .slice a2 f.pend.length cap2) h6 hinf.1.2 hinf.1.1 hf2 ?_
        intro z15 w15 L15 hz15 hS15 hsub
        exact ⟨_, _, hS15, by rw [if_neg hm0]⟩
    · simp only [tells_no (b := b10) ho, ho, not_false_eq_true, if_true]
      (repeat (first | (refine iDr ?_; intro _ _) | refine V_run ?_ | refine PV_run ?_ | refine HV_run ?_ | refine iV_ld1 ?_ | refine iV_ldN ?_ | (refine iV_bx ?_; intro _ _ _ _) | (refine iV_al ?_; intro _ _ _ _) | (refine iV_mm ?_; intro _ _ _ _) | (refine iU_st ?_; intro _ _) | refine iHV_1 ?_ | refine iHV_N ?_ | refine iRI_1 ?_ | refine iRI_N ?_ | refine Cond_t ?_ | refine Cond_f ?_ | refine JB ?_ | (refine JC ?_; intro _ _ _ _) | (refine J1 ?_; intro _ _) | (refine J0 ?_; intro _ _) | (refine J2 ?_; intro _ _) | (refine J3 ?_; intro _ _) | (refine J4 ?_; intro _ _) | refine K1 ?_ | refine K0 ?_ | refine K2 ?_ | refine K3 ?_ | refine K4 ?_ | (refine CV_pu ?_; intro _ _ _ _) | refine fV_ldN ?_ | refine fV_ld1 ?_ | refine fHV_ldN ?_ | refine fHV_ld1 ?_ | refine NilW_some ?_ | refine iCW_1 ?_ | refine iCW_N ?_ | refine Pk_b ?_))
      exact ⟨_, _, ‹_›, by first | trivial | rfl⟩
  · have he : openE s [] = 2 := by simp [openE, hck]
    rw [if_neg (by rw [he]; decide)] at hop
    obtain ⟨rfl, rfl⟩ := hop
    simp only [List.nil_append] at hS8
    rw [he]
    (repeat (first | (refine iDr ?_; intro _ _) | refine V_run ?_ | refine PV_run ?_ | refine HV_run ?_ | refine iV_ld1 ?_ | refine iV_ldN ?_ | (refine iV_bx ?_; intro _ _ _ _) | (refine iV_al ?_; intro _ _ _ _) | (refine iV_mm ?_; intro _ _ _ _) | (refine iU_st ?_; intro _ _) | refine iHV_1 ?_ | refine iHV_N ?_ | refine iRI_1 ?_ | refine iRI_N ?_ | refine Cond_t ?_ | refine Cond_f ?_ | refine JB ?_ | (refine JC ?_; intro _ _ _ _) | (refine J1 ?_; intro _ _) | (refine J0 ?_; intro _ _) | (refine J2 ?_; intro _ _) | (refine J3 ?_; intro _ _) | (refine J4 ?_; intro _ _) | refine K1 ?_ | refine K0 ?_ | refine K2 ?_ | refine K3 ?_ | refine K4 ?_ | (refine CV_pu ?_; intro _ _ _ _) | refine fV_ldN ?_ | refine fV_ld1 ?_ | refine fHV_ldN ?_ | refine fHV_ld1 ?_ | refine NilW_some ?_ | refine iCW_1 ?_ | refine iCW_N ?_ | refine Pk_b ?_))
    exact ⟨_, _, ‹_›, by rw [condM, if_pos (by simpa using hck)]⟩)
end Go.Proofs.Ytjnckainogpenaa
end

section
/- Playing operations. -/
set_option linter.unusedVariables false
set_option maxRecDepth 20000
set_option synthInstance.maxHeartbeats 400000
set_option synthInstance.maxSize 4000
namespace Go.Proofs.Ytjnckainogpenaa
open Go Q Go.RowKit

def condsOf (o : OpM) : List Int := if o.kind = 1 ∨ o.kind = 2 then [o.cond] else []
def playStep (s : StM) (o : OpM) : StepM := if 1 ≤ o.kind ∧ o.kind ≤ 5 then doneM s o (condsOf o) else ⟨1, noAct, []⟩
def playFrom (s : StM) : List OpM → StM × List AcM × List Int
  | [] => (s, [], [])
  | o :: l =>
    let r := playFrom (if (playStep s o).e = 0 then (playStep s o).s else s) l
    (r.1, (playStep s o).a :: r.2.1, (playStep s o).e :: r.2.2)
/-- The result of Play, as values. -/
def PlayR (z : Z) (r : Value) (l : List OpM) : Prop :=
  if 1000 < l.length then ∃ v, r = .tuple #[v, .slice none 0 0, .slice none 0 0, .int .i64 3] ∧ StR z v []
  else ∃ v va ve, r = .tuple #[v, va, ve, .int .i64 0] ∧ StR z v (playFrom newM l).1 ∧ SlR El.act z va (playFrom newM l).2.1 ∧ SlR El.int z ve (playFrom newM l).2.2
theorem perm4 {a b c d : Nat × Obj} {B R : Bl} : (a :: b :: c :: d :: (B ++ R)).Perm (B ++ (a :: b :: c :: d :: R)) := by
  simpa using (List.perm_append_comm (l₁ := [a, b, c, d]) (l₂ := B)).append_right R
theorem perm5 {a : Nat × Obj} {A B R : Bl} : (a :: (A ++ (B ++ R))).Perm (B ++ (a :: (A ++ R))) := by
  rw [show a :: (A ++ (B ++ R)) = ((a :: A) ++ B) ++ R by simp, show B ++ (a :: (A ++ R)) = (B ++ (a :: A)) ++ R by simp]
  exact List.perm_append_comm.append_right R
theorem perm6 {A B R : Bl} : (B ++ (A ++ R)).Perm (A ++ (B ++ R)) := by
  rw [← List.append_assoc, ← List.append_assoc]
  exact List.perm_append_comm.append_right R
theorem PlayP {v : Value} {l : List OpM} {z : Z} {w : World} (hl : SlR El.op z v l) : Fn1 13 #[v] z w fun z' r => PlayR z' r l := Fn1.intro fun hS => en13 (by
  unfold vc13
  obtain ⟨hb, a, cap, rfl, hcap, hel⟩ := hl.form
  refine iV_al ?_
  intro b2 w2 hb2 hS2
  (repeat (first | (refine iDr ?_; intro _ _) | refine V_run ?_ | refine PV_run ?_ | refine HV_run ?_ | refine iV_ld1 ?_ | refine iV_ldN ?_ | (refine iV_bx ?_; intro _ _ _ _) | (refine iV_al ?_; intro _ _ _ _) | (refine iV_mm ?_; intro _ _ _ _) | (refine iU_st ?_; intro _ _) | refine iHV_1 ?_ | refine iHV_N ?_ | refine iRI_1 ?_ | refine iRI_N ?_ | refine Cond_t ?_ | refine Cond_f ?_ | refine JB ?_ | (refine JC ?_; intro _ _ _ _) | (refine J1 ?_; intro _ _) | (refine J0 ?_; intro _ _) | (refine J2 ?_; intro _ _) | (refine J3 ?_; intro _ _) | (refine J4 ?_; intro _ _) | refine K1 ?_ | refine K0 ?_ | refine K2 ?_ | refine K3 ?_ | refine K4 ?_ | (refine CV_pu ?_; intro _ _ _ _) | refine fV_ldN ?_ | refine fV_ld1 ?_ | refine fHV_ldN ?_ | refine fHV_ld1 ?_ | refine NilW_some ?_ | refine iCW_1 ?_ | refine iCW_N ?_ | refine Pk_b ?_))
  refine Cond_d (fun hlen => ?_) (fun hlen => ?_)
  · (repeat (first | (refine iDr ?_; intro _ _) | refine V_run ?_ | refine PV_run ?_ | refine HV_run ?_ | refine iV_ld1 ?_ | refine iV_ldN ?_ | (refine iV_bx ?_; intro _ _ _ _) | (refine iV_al ?_; intro _ _ _ _) | (refine iV_mm ?_; intro _ _ _ _) | (refine iU_st ?_; intro _ _) | refine iHV_1 ?_ | refine iHV_N ?_ | refine iRI_1 ?_ | refine iRI_N ?_ | refine Cond_t ?_ | refine Cond_f ?_ | refine JB ?_ | (refine JC ?_; intro _ _ _ _) | (refine J1 ?_; intro _ _) | (refine J0 ?_; intro _ _) | (refine J2 ?_; intro _ _) | (refine J3 ?_; intro _ _) | (refine J4 ?_; intro _ _) | refine K1 ?_ | refine K0 ?_ | refine K2 ?_ | refine K3 ?_ | refine K4 ?_ | (refine CV_pu ?_; intro _ _ _ _) | refine fV_ldN ?_ | refine fV_ld1 ?_ | refine fHV_ldN ?_ | refine fHV_ld1 ?_ | refine NilW_some ?_ | refine iCW_1 ?_ | refine iCW_N ?_ | refine Pk_b ?_))
    exact ⟨_, _, ‹_›, by rw [PlayR, if_pos (by omega)]; exact ⟨_, rfl, _, rfl, SlR.nil⟩⟩
  have hlen' : ¬ 1000 < l.length := by omega
  simp only [PlayR, hlen', if_false]
  refine CV_1 NewP ?_
  rintro z3 w3 v3 hle3 hS3 ⟨u3, rfl, hu3⟩
  obtain ⟨_, a3, cap3, rfl, _, _⟩ := hu3.form
  refine iV_al ?_
  intro b6 w6 hb6 hS6
  (repeat (first | (refine iDr ?_; intro _ _) | refine V_run ?_ | refine PV_run ?_ | refine HV_run ?_ | refine iV_ld1 ?_ | refine iV_ldN ?_ | (refine iV_bx ?_; intro _ _ _ _) | (refine iV_al ?_; intro _ _ _ _) | (refine iV_mm ?_; intro _ _ _ _) | (refine iU_st ?_; intro _ _) | refine iHV_1 ?_ | refine iHV_N ?_ | refine iRI_1 ?_ | refine iRI_N ?_ | refine Cond_t ?_ | refine Cond_f ?_ | refine JB ?_ | (refine JC ?_; intro _ _ _ _) | (refine J1 ?_; intro _ _) | (refine J0 ?_; intro _ _) | (refine J2 ?_; intro _ _) | (refine J3 ?_; intro _ _) | (refine J4 ?_; intro _ _) | refine K1 ?_ | refine K0 ?_ | refine K2 ?_ | refine K3 ?_ | refine K4 ?_ | (refine CV_pu ?_; intro _ _ _ _) | refine fV_ldN ?_ | refine fV_ld1 ?_ | refine fHV_ldN ?_ | refine fHV_ld1 ?_ | refine NilW_some ?_ | refine iCW_1 ?_ | refine iCW_N ?_ | refine Pk_b ?_))
  rename_i hS7
  refine LoopG3 (fun (g : Nat × StM × List AcM × List Int) x y u w' => u = .int .i64 g.1 ∧ g.1 ≤ l.length ∧ playFrom newM l = ((playFrom g.2.1 (l.drop g.1)).1, g.2.2.1 ++ (playFrom g.2.1 (l.drop g.1)).2.1, g.2.2.2 ++ (playFrom g.2.1 (l.drop g.1)).2.2) ∧ g.2.2.1.length = g.1 ∧ g.2.2.2.length = g.1 ∧
    ∃ z' Ba Be a6 n6 cap6, SlR El.frame z' (.slice a6 n6 cap6) g.2.1 ∧ OwnSl 39 4 Ba x g.1 (g.2.2.1.flatMap AcM.cells) ∧ OwnSl 31 1 Be y g.1 (g.2.2.2.flatMap fun e => [.int .i64 e]) ∧ Res w z [] w' z' (Ba ++ (Be ++ [(b6, .cells [.slice a6 n6 cap6].toArray 28 (0, 0)), (b2, .cells [.slice none 0 0].toArray 28 (0, 0))]))) (fun g => l.length - g.1) (0, newM, [], []) ⟨rfl, by simp, rfl, rfl, rfl, z3, [], [], _, _, _, hu3, OwnSl.nil, OwnSl.nil, hS7⟩ ?_
  rintro I M ⟨i, s, A, E⟩ x y u w8 m ⟨rfl, h1, h2, hA, hE, z8, Ba, Be, a6, n6, cap6, hs8, hoa, hoe, hS8⟩ back
  simp only at h1 h2 hA hE hs8 hoa hoe hS8 back
  (repeat (first | (refine iDr ?_; intro _ _) | refine V_run ?_ | refine PV_run ?_ | refine HV_run ?_ | refine iV_ld1 ?_ | refine iV_ldN ?_ | (refine iV_bx ?_; intro _ _ _ _) | (refine iV_al ?_; intro _ _ _ _) | (refine iV_mm ?_; intro _ _ _ _) | (refine iU_st ?_; intro _ _) | refine iHV_1 ?_ | refine iHV_N ?_ | refine iRI_1 ?_ | refine iRI_N ?_ | refine Cond_t ?_ | refine Cond_f ?_ | refine JB ?_ | (refine JC ?_; intro _ _ _ _) | (refine J1 ?_; intro _ _) | (refine J0 ?_; intro _ _) | (refine J2 ?_; intro _ _) | (refine J3 ?_; intro _ _) | (refine J4 ?_; intro _ _) | refine K1 ?_ | refine K0 ?_ | refine K2 ?_ | refine K3 ?_ | refine K4 ?_ | (refine CV_pu ?_; intro _ _ _ _) | refine fV_ldN ?_ | refine fV_ld1 ?_ | refine fHV_ldN ?_ | refine fHV_ld1 ?_ | refine NilW_some ?_ | refine iCW_1 ?_ | refine iCW_N ?_ | refine Pk_b ?_))
  refine Cond_d (fun hh => ?_) (fun hh => ?_)
  · have hlt : i < l.length := by omega
    obtain ⟨b, off, cs, rfl, ⟨rfl, hr⟩, hat⟩ := hel i _ (List.getElem?_eq_getElem hlt)
    haveI : InR (i : Int) l.length := ⟨by omega, by omega⟩
    haveI : InI ((i : Int) + 1) := ⟨by omega⟩
    haveI : Fz z b (off + (i : Int).toNat * 4) l[i].cells := ⟨by rw [Int.toNat_natCast]; exact hat⟩
    rw [List.drop_eq_getElem_cons hlt] at h2
    simp only [playFrom] at h2
    generalize l[i] = o at *
    dsimp only [OpM.cells] at *
    refine V_run ?_
    refine fV_ldN ?_
    refine iV_al ?_
    intro b10 w10 hb10 hS10
    refine iU_st ?_
    intro w10' hS10'
    refine V_run ?_
    refine V_run ?_
    refine iV_al ?_
    intro b11 w11 hb11 hS11
    refine iV_al ?_
    intro b12 w12 hb12 hS12
    refine iU_st ?_
    intro w13 hS13
    refine iU_st ?_
    intro w14 hS14
    clear hS13 hS12 hS11 hS10' hS10 hS8
    refine J1cut (fun x w' => ∃ a11 n11 cap11 z', x = .int .i64 (playStep s o).e ∧ SlR El.frame z' (.slice a11 n11 cap11) (playStep s o).s ∧ Le z8 z' ∧ Res w z [] w' z' ((b12, .cells (playStep s o).a.cells.toArray 39 (0, 0)) :: (b11, .cells [.slice a11 n11 cap11].toArray 28 (0, 0)) :: (b10, .cells [.int .i64 o.kind, .int .i64 o.cond, .int .i64 o.mode, .string o.text].toArray 25 (0, 0)) :: (Ba ++ (Be ++ [(b6, .cells [.slice a6 n6 cap6].toArray 28 (0, 0)), (b2, .cells [.slice none 0 0].toArray 28 (0, 0))])))) ?_ ?_
    rotate_left
    · intro KJ hJ
      (repeat (first | (refine iDr ?_; intro _ _) | refine V_run ?_ | refine PV_run ?_ | refine HV_run ?_ | refine iV_ld1 ?_ | refine iV_ldN ?_ | (refine iV_bx ?_; intro _ _ _ _) | (refine iV_al ?_; intro _ _ _ _) | (refine iV_mm ?_; intro _ _ _ _) | (refine iU_st ?_; intro _ _) | refine iHV_1 ?_ | refine iHV_N ?_ | refine iRI_1 ?_ | refine iRI_N ?_ | refine Cond_t ?_ | refine Cond_f ?_ | refine JB ?_ | (refine JC ?_; intro _ _ _ _) | (refine J1 ?_; intro _ _) | (refine J0 ?_; intro _ _) | (refine J2 ?_; intro _ _) | (refine J3 ?_; intro _ _) | (refine J4 ?_; intro _ _) | refine K1 ?_ | refine K0 ?_ | refine K2 ?_ | refine K3 ?_ | refine K4 ?_ | (refine CV_pu ?_; intro _ _ _ _) | refine fV_ldN ?_ | refine fV_ld1 ?_ | refine fHV_ldN ?_ | refine fHV_ld1 ?_ | refine NilW_some ?_ | refine iCW_1 ?_ | refine iCW_N ?_ | refine Pk_b ?_))
      refine CV_fn0 (fun _ => operations) ?_
      rintro z15 B15 w15 v15 hle15 hS15 ⟨bm, rfl, rfl⟩
      simp only [List.cons_append, List.nil_append] at hS15
      (repeat (first | (refine iDr ?_; intro _ _) | refine V_run ?_ | refine PV_run ?_ | refine HV_run ?_ | refine iV_ld1 ?_ | refine iV_ldN ?_ | (refine iV_bx ?_; intro _ _ _ _) | (refine iV_al ?_; intro _ _ _ _) | (refine iV_mm ?_; intro _ _ _ _) | (refine iU_st ?_; intro _ _) | refine iHV_1 ?_ | refine iHV_N ?_ | refine iRI_1 ?_ | refine iRI_N ?_ | refine Cond_t ?_ | refine Cond_f ?_ | refine JB ?_ | (refine JC ?_; intro _ _ _ _) | (refine J1 ?_; intro _ _) | (refine J0 ?_; intro _ _) | (refine J2 ?_; intro _ _) | (refine J3 ?_; intro _ _) | (refine J4 ?_; intro _ _) | refine K1 ?_ | refine K0 ?_ | refine K2 ?_ | refine K3 ?_ | refine K4 ?_ | (refine CV_pu ?_; intro _ _ _ _) | refine fV_ldN ?_ | refine fV_ld1 ?_ | refine fHV_ldN ?_ | refine fHV_ld1 ?_ | refine NilW_some ?_ | refine iCW_1 ?_ | refine iCW_N ?_ | refine Pk_b ?_))
      refine iHV_lk (zv := .nilFunc) (ZeroV.h (e := 98)) ?_
      simp only [if_true]
      by_cases hk : 1 ≤ o.kind ∧ o.kind ≤ 5
      · simp only [ops_lk, if_pos hk]
        have hps : playStep s o = doneM s o (condsOf o) := by rw [playStep, if_pos hk]
        (repeat (first | (refine iDr ?_; intro _ _) | refine V_run ?_ | refine PV_run ?_ | refine HV_run ?_ | refine iV_ld1 ?_ | refine iV_ldN ?_ | (refine iV_bx ?_; intro _ _ _ _) | (refine iV_al ?_; intro _ _ _ _) | (refine iV_mm ?_; intro _ _ _ _) | (refine iU_st ?_; intro _ _) | refine iHV_1 ?_ | refine iHV_N ?_ | refine iRI_1 ?_ | refine iRI_N ?_ | refine Cond_t ?_ | refine Cond_f ?_ | refine JB ?_ | (refine JC ?_; intro _ _ _ _) | (refine J1 ?_; intro _ _) | (refine J0 ?_; intro _ _) | (refine J2 ?_; intro _ _) | (refine J3 ?_; intro _ _) | (refine J4 ?_; intro _ _) | refine K1 ?_ | refine K0 ?_ | refine K2 ?_ | refine K3 ?_ | refine K4 ?_ | (refine CV_pu ?_; intro _ _ _ _) | refine fV_ldN ?_ | refine fV_ld1 ?_ | refine fHV_ldN ?_ | refine fHV_ld1 ?_ | refine NilW_some ?_ | refine iCW_1 ?_ | refine iCW_N ?_ | refine Pk_b ?_))
        have hle16 := hle15.trans ‹Le z15 _›
        refine Cond_b (fun h12 => ?_) (fun h12 => ?_)
        · have h12' : o.kind = 1 ∨ o.kind = 2 := by
            simp only [cond_eq_ite] at h12
            by_cases e : o.kind = 1 <;> simp [e] at h12 ⊢
            exact h12
          (repeat (first | (refine iDr ?_; intro _ _) | refine V_run ?_ | refine PV_run ?_ | refine HV_run ?_ | refine iV_ld1 ?_ | refine iV_ldN ?_ | (refine iV_bx ?_; intro _ _ _ _) | (refine iV_al ?_; intro _ _ _ _) | (refine iV_mm ?_; intro _ _ _ _) | (refine iU_st ?_; intro _ _) | refine iHV_1 ?_ | refine iHV_N ?_ | refine iRI_1 ?_ | refine iRI_N ?_ | refine Cond_t ?_ | refine Cond_f ?_ | refine JB ?_ | (refine JC ?_; intro _ _ _ _) | (refine J1 ?_; intro _ _) | (refine J0 ?_; intro _ _) | (refine J2 ?_; intro _ _) | (refine J3 ?_; intro _ _) | (refine J4 ?_; intro _ _) | refine K1 ?_ | refine K0 ?_ | refine K2 ?_ | refine K3 ?_ | refine K4 ?_ | (refine CV_pu ?_; intro _ _ _ _) | refine fV_ldN ?_ | refine fV_ld1 ?_ | refine fHV_ldN ?_ | refine fHV_ld1 ?_ | refine NilW_some ?_ | refine iCW_1 ?_ | refine iCW_N ?_ | refine Pk_b ?_))
          refine V_bs (parts := [(0, _)]) rfl (by omega) ?_
          intro b19 w19 hb19 hS19
          refine V_app (B := []) (m := 1) (n := 0) (xs := []) (news := [.int .i64 o.cond]) hS19 OwnSl.nil ⟨_, _, _, (hS19.mem _ List.mem_cons_self).1, fun j v hv => by simpa using hv⟩ rfl (fun u hu => by simp at hu; subst hu; rfl) (by omega) (by simp [room]) (by simp [room]) ?_
          intro B20 v20 w20 ho20 hS20
          obtain ⟨z20, hz20, hS20', hv20⟩ := Res.freezeSl (E := El.int) (f := fun x => [.int .i64 x]) (xs := [o.cond]) hS20 ho20 (by simp [big]) (fun _ => rfl) (fun _ _ _ => rfl)
          clear hS20 hS19
          have hcs : SlR El.int z20 v20 (condsOf o) := by rw [condsOf, if_pos h12']; exact hv20
          have hle20 := hle16.trans hz20
          (repeat (first | (refine iDr ?_; intro _ _) | refine V_run ?_ | refine PV_run ?_ | refine HV_run ?_ | refine iV_ld1 ?_ | refine iV_ldN ?_ | (refine iV_bx ?_; intro _ _ _ _) | (refine iV_al ?_; intro _ _ _ _) | (refine iV_mm ?_; intro _ _ _ _) | (refine iU_st ?_; intro _ _) | refine iHV_1 ?_ | refine iHV_N ?_ | refine iRI_1 ?_ | refine iRI_N ?_ | refine Cond_t ?_ | refine Cond_f ?_ | refine JB ?_ | (refine JC ?_; intro _ _ _ _) | (refine J1 ?_; intro _ _) | (refine J0 ?_; intro _ _) | (refine J2 ?_; intro _ _) | (refine J3 ?_; intro _ _) | (refine J4 ?_; intro _ _) | refine K1 ?_ | refine K0 ?_ | refine K2 ?_ | refine K3 ?_ | refine K4 ?_ | (refine CV_pu ?_; intro _ _ _ _) | refine fV_ldN ?_ | refine fV_ld1 ?_ | refine fHV_ldN ?_ | refine fHV_ld1 ?_ | refine NilW_some ?_ | refine iCW_1 ?_ | refine iCW_N ?_ | refine Pk_b ?_))
          refine CV_1 (doneP (o := o) (conds := condsOf o) ⟨_, rfl, hs8.mono hle20⟩ hcs hk (fun h => by rw [condsOf, if_pos h]) hr) ?_
          rintro z21 w21 v21 hle21 hS21 ⟨v', rfl, hv'⟩
          rw [← hps] at hv'
          obtain ⟨u', rfl, hu'⟩ := hv'
          obtain ⟨_, a', cap', rfl, _, _⟩ := hu'.form
          dsimp only [AcM.v] at *
          (repeat (first | (refine iDr ?_; intro _ _) | refine V_run ?_ | refine PV_run ?_ | refine HV_run ?_ | refine iV_ld1 ?_ | refine iV_ldN ?_ | (refine iV_bx ?_; intro _ _ _ _) | (refine iV_al ?_; intro _ _ _ _) | (refine iV_mm ?_; intro _ _ _ _) | (refine iU_st ?_; intro _ _) | refine iHV_1 ?_ | refine iHV_N ?_ | refine iRI_1 ?_ | refine iRI_N ?_ | refine Cond_t ?_ | refine Cond_f ?_ | refine JB ?_ | (refine JC ?_; intro _ _ _ _) | (refine J1 ?_; intro _ _) | (refine J0 ?_; intro _ _) | (refine J2 ?_; intro _ _) | (refine J3 ?_; intro _ _) | (refine J4 ?_; intro _ _) | refine K1 ?_ | refine K0 ?_ | refine K2 ?_ | refine K3 ?_ | refine K4 ?_ | (refine CV_pu ?_; intro _ _ _ _) | refine fV_ldN ?_ | refine fV_ld1 ?_ | refine fHV_ldN ?_ | refine fHV_ld1 ?_ | refine NilW_some ?_ | refine iCW_1 ?_ | refine iCW_N ?_ | refine Pk_b ?_))
          rename_i hSe
          rw [← hps] at hSe
          exact ⟨_, _, _, z21, by rw [hps], hu', (hle20).trans hle21, hSe.tl.tl⟩
        · have h12' : ¬ (o.kind = 1 ∨ o.kind = 2) := by
            simp only [cond_eq_ite] at h12
            by_cases e : o.kind = 1 <;> simp [e] at h12 ⊢
            exact h12
          (repeat (first | (refine iDr ?_; intro _ _) | refine V_run ?_ | refine PV_run ?_ | refine HV_run ?_ | refine iV_ld1 ?_ | refine iV_ldN ?_ | (refine iV_bx ?_; intro _ _ _ _) | (refine iV_al ?_; intro _ _ _ _) | (refine iV_mm ?_; intro _ _ _ _) | (refine iU_st ?_; intro _ _) | refine iHV_1 ?_ | refine iHV_N ?_ | refine iRI_1 ?_ | refine iRI_N ?_ | refine Cond_t ?_ | refine Cond_f ?_ | refine JB ?_ | (refine JC ?_; intro _ _ _ _) | (refine J1 ?_; intro _ _) | (refine J0 ?_; intro _ _) | (refine J2 ?_; intro _ _) | (refine J3 ?_; intro _ _) | (refine J4 ?_; intro _ _) | refine K1 ?_ | refine K0 ?_ | refine K2 ?_ | refine K3 ?_ | refine K4 ?_ | (refine CV_pu ?_; intro _ _ _ _) | refine fV_ldN ?_ | refine fV_ld1 ?_ | refine fHV_ldN ?_ | refine fHV_ld1 ?_ | refine NilW_some ?_ | refine iCW_1 ?_ | refine iCW_N ?_ | refine Pk_b ?_))
          refine CV_1 (doneP (o := o) (conds := condsOf o) ⟨_, rfl, hs8.mono hle16⟩ (by rw [condsOf, if_neg h12']; exact SlR.nil) hk (fun h => by rw [condsOf, if_pos h]) hr) ?_
          rintro z21 w21 v21 hle21 hS21 ⟨v', rfl, hv'⟩
          rw [← hps] at hv'
          obtain ⟨u', rfl, hu'⟩ := hv'
          obtain ⟨_, a', cap', rfl, _, _⟩ := hu'.form
          dsimp only [AcM.v] at *
          (repeat (first | (refine iDr ?_; intro _ _) | refine V_run ?_ | refine PV_run ?_ | refine HV_run ?_ | refine iV_ld1 ?_ | refine iV_ldN ?_ | (refine iV_bx ?_; intro _ _ _ _) | (refine iV_al ?_; intro _ _ _ _) | (refine iV_mm ?_; intro _ _ _ _) | (refine iU_st ?_; intro _ _) | refine iHV_1 ?_ | refine iHV_N ?_ | refine iRI_1 ?_ | refine iRI_N ?_ | refine Cond_t ?_ | refine Cond_f ?_ | refine JB ?_ | (refine JC ?_; intro _ _ _ _) | (refine J1 ?_; intro _ _) | (refine J0 ?_; intro _ _) | (refine J2 ?_; intro _ _) | (refine J3 ?_; intro _ _) | (refine J4 ?_; intro _ _) | refine K1 ?_ | refine K0 ?_ | refine K2 ?_ | refine K3 ?_ | refine K4 ?_ | (refine CV_pu ?_; intro _ _ _ _) | refine fV_ldN ?_ | refine fV_ld1 ?_ | refine fHV_ldN ?_ | refine fHV_ld1 ?_ | refine NilW_some ?_ | refine iCW_1 ?_ | refine iCW_N ?_ | refine Pk_b ?_))
          rename_i hSe
          rw [← hps] at hSe
          exact ⟨_, _, _, z21, by rw [hps], hu', (hle16).trans hle21, hSe.tl⟩
      · simp only [ops_lk, if_neg hk]
        have hps : playStep s o = ⟨1, noAct, []⟩ := by rw [playStep, if_neg hk]
        rw [hps] at hJ
        (repeat (first | (refine iDr ?_; intro _ _) | refine V_run ?_ | refine PV_run ?_ | refine HV_run ?_ | refine iV_ld1 ?_ | refine iV_ldN ?_ | (refine iV_bx ?_; intro _ _ _ _) | (refine iV_al ?_; intro _ _ _ _) | (refine iV_mm ?_; intro _ _ _ _) | (refine iU_st ?_; intro _ _) | refine iHV_1 ?_ | refine iHV_N ?_ | refine iRI_1 ?_ | refine iRI_N ?_ | refine Cond_t ?_ | refine Cond_f ?_ | refine JB ?_ | (refine JC ?_; intro _ _ _ _) | (refine J1 ?_; intro _ _) | (refine J0 ?_; intro _ _) | (refine J2 ?_; intro _ _) | (refine J3 ?_; intro _ _) | (refine J4 ?_; intro _ _) | refine K1 ?_ | refine K0 ?_ | refine K2 ?_ | refine K3 ?_ | refine K4 ?_ | (refine CV_pu ?_; intro _ _ _ _) | refine fV_ldN ?_ | refine fV_ld1 ?_ | refine fHV_ldN ?_ | refine fHV_ld1 ?_ | refine NilW_some ?_ | refine iCW_1 ?_ | refine iCW_N ?_ | refine Pk_b ?_))
        exact ⟨none, 0, 0, z15, rfl, SlR.nil, hle15, hS15.tl⟩
    · rintro _ w16 ⟨a11, n11, cap11, z16, rfl, hs16, hle16, hS16⟩
      dsimp only [AcM.cells] at hS16
      generalize playStep s o = st at *
      refine J0cut (fun w' => ∃ z' a7 n7 cap7, SlR El.frame z' (.slice a7 n7 cap7) (if st.e = 0 then st.s else s) ∧ Res w z [] w' z' ((b12, .cells [.int .i64 st.a.kind, .string st.a.label, .int .i64 st.a.cond, .string st.a.desc].toArray 39 (0, 0)) :: (b11, .cells [.slice a11 n11 cap11].toArray 28 (0, 0)) :: (b10, .cells [.int .i64 o.kind, .int .i64 o.cond, .int .i64 o.mode, .string o.text].toArray 25 (0, 0)) :: (Ba ++ (Be ++ [(b6, .cells [.slice a7 n7 cap7].toArray 28 (0, 0)), (b2, .cells [.slice none 0 0].toArray 28 (0, 0))])))) ?_ ?_
      rotate_left
      · intro KJ hJ
        (repeat (first | (refine iDr ?_; intro _ _) | refine V_run ?_ | refine PV_run ?_ | refine HV_run ?_ | refine iV_ld1 ?_ | refine iV_ldN ?_ | (refine iV_bx ?_; intro _ _ _ _) | (refine iV_al ?_; intro _ _ _ _) | (refine iV_mm ?_; intro _ _ _ _) | (refine iU_st ?_; intro _ _) | refine iHV_1 ?_ | refine iHV_N ?_ | refine iRI_1 ?_ | refine iRI_N ?_ | refine Cond_t ?_ | refine Cond_f ?_ | refine JB ?_ | (refine JC ?_; intro _ _ _ _) | (refine J1 ?_; intro _ _) | (refine J0 ?_; intro _ _) | (refine J2 ?_; intro _ _) | (refine J3 ?_; intro _ _) | (refine J4 ?_; intro _ _) | refine K1 ?_ | refine K0 ?_ | refine K2 ?_ | refine K3 ?_ | refine K4 ?_ | (refine CV_pu ?_; intro _ _ _ _) | refine fV_ldN ?_ | refine fV_ld1 ?_ | refine fHV_ldN ?_ | refine fHV_ld1 ?_ | refine NilW_some ?_ | refine iCW_1 ?_ | refine iCW_N ?_ | refine Pk_b ?_))
        refine Cond_d (fun he => ?_) (fun he => ?_)
        · (repeat (first | (refine iDr ?_; intro _ _) | refine V_run ?_ | refine PV_run ?_ | refine HV_run ?_ | refine iV_ld1 ?_ | refine iV_ldN ?_ | (refine iV_bx ?_; intro _ _ _ _) | (refine iV_al ?_; intro _ _ _ _) | (refine iV_mm ?_; intro _ _ _ _) | (refine iU_st ?_; intro _ _) | refine iHV_1 ?_ | refine iHV_N ?_ | refine iRI_1 ?_ | refine iRI_N ?_ | refine Cond_t ?_ | refine Cond_f ?_ | refine JB ?_ | (refine JC ?_; intro _ _ _ _) | (refine J1 ?_; intro _ _) | (refine J0 ?_; intro _ _) | (refine J2 ?_; intro _ _) | (refine J3 ?_; intro _ _) | (refine J4 ?_; intro _ _) | refine K1 ?_ | refine K0 ?_ | refine K2 ?_ | refine K3 ?_ | refine K4 ?_ | (refine CV_pu ?_; intro _ _ _ _) | refine fV_ldN ?_ | refine fV_ld1 ?_ | refine fHV_ldN ?_ | refine fHV_ld1 ?_ | refine NilW_some ?_ | refine iCW_1 ?_ | refine iCW_N ?_ | refine Pk_b ?_))
          exact ⟨z16, _, _, _, by rw [if_pos he]; exact hs16, ‹_›⟩
        · (repeat (first | (refine iDr ?_; intro _ _) | refine V_run ?_ | refine PV_run ?_ | refine HV_run ?_ | refine iV_ld1 ?_ | refine iV_ldN ?_ | (refine iV_bx ?_; intro _ _ _ _) | (refine iV_al ?_; intro _ _ _ _) | (refine iV_mm ?_; intro _ _ _ _) | (refine iU_st ?_; intro _ _) | refine iHV_1 ?_ | refine iHV_N ?_ | refine iRI_1 ?_ | refine iRI_N ?_ | refine Cond_t ?_ | refine Cond_f ?_ | refine JB ?_ | (refine JC ?_; intro _ _ _ _) | (refine J1 ?_; intro _ _) | (refine J0 ?_; intro _ _) | (refine J2 ?_; intro _ _) | (refine J3 ?_; intro _ _) | (refine J4 ?_; intro _ _) | refine K1 ?_ | refine K0 ?_ | refine K2 ?_ | refine K3 ?_ | refine K4 ?_ | (refine CV_pu ?_; intro _ _ _ _) | refine fV_ldN ?_ | refine fV_ld1 ?_ | refine fHV_ldN ?_ | refine fHV_ld1 ?_ | refine NilW_some ?_ | refine iCW_1 ?_ | refine iCW_N ?_ | refine Pk_b ?_))
          exact ⟨z16, _, _, _, by rw [if_neg he]; exact hs8.mono hle16, ‹_›⟩
      · rintro w17 ⟨z17, a7, n7, cap7, hs17, hS17⟩
        clear hS16
        (repeat (first | (refine iDr ?_; intro _ _) | refine V_run ?_ | refine PV_run ?_ | refine HV_run ?_ | refine iV_ld1 ?_ | refine iV_ldN ?_ | (refine iV_bx ?_; intro _ _ _ _) | (refine iV_al ?_; intro _ _ _ _) | (refine iV_mm ?_; intro _ _ _ _) | (refine iU_st ?_; intro _ _) | refine iHV_1 ?_ | refine iHV_N ?_ | refine iRI_1 ?_ | refine iRI_N ?_ | refine Cond_t ?_ | refine Cond_f ?_ | refine JB ?_ | (refine JC ?_; intro _ _ _ _) | (refine J1 ?_; intro _ _) | (refine J0 ?_; intro _ _) | (refine J2 ?_; intro _ _) | (refine J3 ?_; intro _ _) | (refine J4 ?_; intro _ _) | refine K1 ?_ | refine K0 ?_ | refine K2 ?_ | refine K3 ?_ | refine K4 ?_ | (refine CV_pu ?_; intro _ _ _ _) | refine fV_ldN ?_ | refine fV_ld1 ?_ | refine fHV_ldN ?_ | refine fHV_ld1 ?_ | refine NilW_some ?_ | refine iCW_1 ?_ | refine iCW_N ?_ | refine Pk_b ?_))
        refine V_bs (parts := [(0, _)]) rfl (by omega) ?_
        intro b30 w30 hb30 hS30
        refine V_app (B := Ba) (m := 1) (n := i) (xs := A.flatMap AcM.cells) (news := st.a.cells) (hS30.perm perm4) hoa ⟨_, _, _, (hS30.mem _ List.mem_cons_self).1, fun j v hv => by simpa using hv⟩ rfl (fun u hu => by simp at hu; rcases hu with rfl | rfl | rfl | rfl <;> rfl) (by omega) (by simp only [room]; omega) (by simp only [room]; omega) ?_
        intro Ba' va' w31 hoa' hS31
        have hS32 := hS31.sublist (L' := Ba' ++ (Be ++ [_, _])) ((List.Sublist.refl _).append ((((List.sublist_cons_self _ _).trans (List.sublist_cons_self _ _)).trans (List.sublist_cons_self _ _)).trans (List.sublist_cons_self _ _)))
        clear hS30 hS31
        refine V_bs (parts := [(0, _)]) rfl (by omega) ?_
        intro b33 w33 hb33 hS33
        refine V_app (B := Be) (m := 1) (n := i) (xs := E.flatMap fun e => [.int .i64 e]) (news := [.int .i64 st.e]) (hS33.perm perm5) hoe ⟨_, _, _, (hS33.mem _ List.mem_cons_self).1, fun j v hv => by simpa using hv⟩ rfl (fun u hu => by simp at hu; subst hu; rfl) (by omega) (by simp only [room]; omega) (by simp only [room]; omega) ?_
        intro Be' ve' w34 hoe' hS34
        have hS35 := (hS34.sublist (L' := Be' ++ (Ba' ++ [_, _])) ((List.Sublist.refl _).append (List.sublist_cons_self _ _))).perm perm6
        (repeat (first | (refine iDr ?_; intro _ _) | refine V_run ?_ | refine PV_run ?_ | refine HV_run ?_ | refine iV_ld1 ?_ | refine iV_ldN ?_ | (refine iV_bx ?_; intro _ _ _ _) | (refine iV_al ?_; intro _ _ _ _) | (refine iV_mm ?_; intro _ _ _ _) | (refine iU_st ?_; intro _ _) | refine iHV_1 ?_ | refine iHV_N ?_ | refine iRI_1 ?_ | refine iRI_N ?_ | refine Cond_t ?_ | refine Cond_f ?_ | refine JB ?_ | (refine JC ?_; intro _ _ _ _) | (refine J1 ?_; intro _ _) | (refine J0 ?_; intro _ _) | (refine J2 ?_; intro _ _) | (refine J3 ?_; intro _ _) | (refine J4 ?_; intro _ _) | refine K1 ?_ | refine K0 ?_ | refine K2 ?_ | refine K3 ?_ | refine K4 ?_ | (refine CV_pu ?_; intro _ _ _ _) | refine fV_ldN ?_ | refine fV_ld1 ?_ | refine fHV_ldN ?_ | refine fHV_ld1 ?_ | refine NilW_some ?_ | refine iCW_1 ?_ | refine iCW_N ?_ | refine Pk_b ?_))
        refine back (i + 1, (if st.e = 0 then st.s else s), A ++ [st.a], E ++ [st.e]) _ _ _ _ ⟨by simp, by simp; omega, ?_, by simp [hA], by simp [hE], z17, Ba', Be', a7, n7, cap7, hs17, ?_, ?_, hS35⟩ (by simp; omega)
        · rw [h2]; simp
        · simpa using hoa'
        · simpa using hoe'
  · have h0 : l.drop i = [] := List.drop_of_length_le (by omega)
    rw [h0] at h2
    simp only [playFrom, List.append_nil] at h2
    obtain ⟨aa, capa, rfl, hca⟩ := hoa.form
    obtain ⟨ae, cape, rfl, hce⟩ := hoe.form
    (repeat (first | (refine iDr ?_; intro _ _) | refine V_run ?_ | refine PV_run ?_ | refine HV_run ?_ | refine iV_ld1 ?_ | refine iV_ldN ?_ | (refine iV_bx ?_; intro _ _ _ _) | (refine iV_al ?_; intro _ _ _ _) | (refine iV_mm ?_; intro _ _ _ _) | (refine iU_st ?_; intro _ _) | refine iHV_1 ?_ | refine iHV_N ?_ | refine iRI_1 ?_ | refine iRI_N ?_ | refine Cond_t ?_ | refine Cond_f ?_ | refine JB ?_ | (refine JC ?_; intro _ _ _ _) | (refine J1 ?_; intro _ _) | (refine J0 ?_; intro _ _) | (refine J2 ?_; intro _ _) | (refine J3 ?_; intro _ _) | (refine J4 ?_; intro _ _) | refine K1 ?_ | refine K0 ?_ | refine K2 ?_ | refine K3 ?_ | refine K4 ?_ | (refine CV_pu ?_; intro _ _ _ _) | refine fV_ldN ?_ | refine fV_ld1 ?_ | refine fHV_ldN ?_ | refine fHV_ld1 ?_ | refine NilW_some ?_ | refine iCW_1 ?_ | refine iCW_N ?_ | refine Pk_b ?_))
    rename_i hSe
    rw [← hA] at hoa
    obtain ⟨z9, hz9, hS9, hva⟩ := Res.freezeSl (E := El.act) hSe hoa (by simp only [big]; omega) (fun _ => rfl) (fun _ _ _ => rfl)
    have hoe' : OwnSl 31 El.int.size Be (.slice ae i cape) E.length (E.flatMap fun e => [.int .i64 e]) := by rw [hE]; exact hoe
    obtain ⟨z10, hz10, hS10, hve⟩ := Res.freezeSl (E := El.int) hS9 hoe' (by simp only [big]; omega) (fun _ => rfl) (fun _ _ _ => rfl)
    refine ⟨z10, _, hS10, _, _, _, rfl, ?_, ?_, ?_⟩
    · rw [h2]; exact ⟨_, rfl, hs8.mono (hz9.trans hz10)⟩
    · rw [h2, ← hA]; exact hva.mono hz10
    · rw [h2]; exact hve)
end Go.Proofs.Ytjnckainogpenaa
end
