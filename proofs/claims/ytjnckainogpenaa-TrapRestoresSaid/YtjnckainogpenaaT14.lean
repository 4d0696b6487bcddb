/- Machines at work: raising. -/
import Derived.Test.YtjnckainogpenaaT13
set_option linter.unusedVariables false
set_option maxRecDepth 20000
set_option synthInstance.maxHeartbeats 400000
set_option synthInstance.maxSize 4000
namespace Go.Proofs.Ytjnckainogpenaa
open Go Q Go.RowKit

def hasP (f : FrM) (c : Int) : Bool := f.pend.any fun x => decide (x.cond = c)
theorem CV_pend {w0 w : World} {z0 z : Z} {B0 L : Bl} {C : Obj → Bl} {K : Value → World → Prop} [hS : Res w0 z0 B0 w z L] {f : FrM} {B2 : Bl} {v2 : Value} {b5 : Nat} {n : Int} [gb : Blk L b5 (.cells [.int .i64 n].toArray 3 (0, 0)) C] (hpo : PendOwn B2 v2 f) (hin : ∀ p ∈ B2, p ∈ L) (hl : f.pend.length ≤ 1000000)
    (hk : ∀ z' w', Le z z' → Res w0 z0 B0 w' z' L → K (.bool (hasP f n)) w') : CV (.func (.func 102) #[] #[]) #[v2, .func (.func 103) #[] #[.pointer (some ⟨b5, 0, none⟩)]] w K :=
  CV_enter (args' := #[v2, .func (.func 103) #[] #[.pointer (some ⟨b5, 0, none⟩)]]) (by simp) (en102 (by
  unfold vc102
  refine CV_enter (args' := #[v2, .func (.func 103) #[] #[.pointer (some ⟨b5, 0, none⟩)]]) (by simp) (en114 ?_)
  unfold vc114
  have hform := hpo.form
  obtain ⟨a2, cap2, rfl, hc2⟩ := hform
  (repeat (first | (refine iDr ?_; intro _ _) | refine V_run ?_ | refine PV_run ?_ | refine HV_run ?_ | refine iV_ld1 ?_ | refine iV_ldN ?_ | (refine iV_bx ?_; intro _ _ _ _) | (refine iV_al ?_; intro _ _ _ _) | (refine iV_mm ?_; intro _ _ _ _) | (refine iU_st ?_; intro _ _) | refine iHV_1 ?_ | refine iHV_N ?_ | refine iRI_1 ?_ | refine iRI_N ?_ | refine Cond_t ?_ | refine Cond_f ?_ | refine JB ?_ | (refine JC ?_; intro _ _ _ _) | (refine J1 ?_; intro _ _) | (refine J0 ?_; intro _ _) | (refine J2 ?_; intro _ _) | (refine J3 ?_; intro _ _) | (refine J4 ?_; intro _ _) | refine K1 ?_ | refine K0 ?_ | refine K2 ?_ | refine K3 ?_ | refine K4 ?_ | (refine CV_pu ?_; intro _ _ _ _) | refine fV_ldN ?_ | refine fV_ld1 ?_ | refine fHV_ldN ?_ | refine fHV_ld1 ?_ | refine NilW_some ?_ | refine iCW_1 ?_ | refine iCW_N ?_ | refine Pk_b ?_))
  refine LoopG1 (fun (i : Nat) x w' => x = .int .i64 i ∧ i ≤ f.pend.length ∧ (∀ j y, j < i → f.pend[j]? = some y → decide (y.cond = n) = false) ∧ ∃ z', Le z z' ∧ Res w0 z0 B0 w' z' L) (fun i => f.pend.length - i) 0 ⟨rfl, by omega, fun j y h => absurd h (by omega), z, Le.refl _, hS⟩ ?_
  rintro I M i x w2 m ⟨rfl, h1, h2, z2, hz2, hS2⟩ back
  (repeat (first | (refine iDr ?_; intro _ _) | refine V_run ?_ | refine PV_run ?_ | refine HV_run ?_ | refine iV_ld1 ?_ | refine iV_ldN ?_ | (refine iV_bx ?_; intro _ _ _ _) | (refine iV_al ?_; intro _ _ _ _) | (refine iV_mm ?_; intro _ _ _ _) | (refine iU_st ?_; intro _ _) | refine iHV_1 ?_ | refine iHV_N ?_ | refine iRI_1 ?_ | refine iRI_N ?_ | refine Cond_t ?_ | refine Cond_f ?_ | refine JB ?_ | (refine JC ?_; intro _ _ _ _) | (refine J1 ?_; intro _ _) | (refine J0 ?_; intro _ _) | (refine J2 ?_; intro _ _) | (refine J3 ?_; intro _ _) | (refine J4 ?_; intro _ _) | refine K1 ?_ | refine K0 ?_ | refine K2 ?_ | refine K3 ?_ | refine K4 ?_ | (refine CV_pu ?_; intro _ _ _ _) | refine fV_ldN ?_ | refine fV_ld1 ?_ | refine fHV_ldN ?_ | refine fHV_ld1 ?_ | refine NilW_some ?_ | refine iCW_1 ?_ | refine iCW_N ?_ | refine Pk_b ?_))
  refine Cond_d (fun h => ?_) (fun h => ?_)
  · have hlt : i < f.pend.length := by omega
    haveI : InR (i : Int) f.pend.length := ⟨by omega, by omega⟩
    haveI : InI ((i : Int) + 1) := ⟨by omega⟩
    rcases hpo.2 with ⟨_, _, h0⟩ | ⟨b, cap, sp, rfl, hv, k1, k2, k3⟩
    · omega
    cases hv
    have hat : At (hp w2) b (i * 2) f.pend[i].cells := ⟨_, _, _, (hS2.mem _ (hin _ List.mem_cons_self)).1, fun j v hv => by
      have := flat_get (f := RaM.cells) (n := 2) (fun _ => rfl) (List.getElem?_eq_getElem hlt) j v hv
      simp only [List.getElem?_toArray]
      rw [List.getElem?_append_left (List.getElem?_eq_some_iff.1 this).1]
      exact this⟩
    refine V_run ?_
    rw [Int.toNat_natCast]
    refine V_ldN hat rfl ?_
    refine CV_enter (args' := #[.agg f.pend[i].cells.toArray, .pointer (some ⟨b5, 0, none⟩)]) (by simp) (en103 ?_)
    unfold vc103
    dsimp only [RaM.cells]
    (repeat (first | (refine iDr ?_; intro _ _) | refine V_run ?_ | refine PV_run ?_ | refine HV_run ?_ | refine iV_ld1 ?_ | refine iV_ldN ?_ | (refine iV_bx ?_; intro _ _ _ _) | (refine iV_al ?_; intro _ _ _ _) | (refine iV_mm ?_; intro _ _ _ _) | (refine iU_st ?_; intro _ _) | refine iHV_1 ?_ | refine iHV_N ?_ | refine iRI_1 ?_ | refine iRI_N ?_ | refine Cond_t ?_ | refine Cond_f ?_ | refine JB ?_ | (refine JC ?_; intro _ _ _ _) | (refine J1 ?_; intro _ _) | (refine J0 ?_; intro _ _) | (refine J2 ?_; intro _ _) | (refine J3 ?_; intro _ _) | (refine J4 ?_; intro _ _) | refine K1 ?_ | refine K0 ?_ | refine K2 ?_ | refine K3 ?_ | refine K4 ?_ | (refine CV_pu ?_; intro _ _ _ _) | refine fV_ldN ?_ | refine fV_ld1 ?_ | refine fHV_ldN ?_ | refine fHV_ld1 ?_ | refine NilW_some ?_ | refine iCW_1 ?_ | refine iCW_N ?_ | refine Pk_b ?_))
    refine Cond_d (fun h' => ?_) (fun h' => ?_)
    · have := fidx_some h2 (List.getElem?_eq_getElem hlt) (by simpa using h')
      have hh : hasP f n = true := by rw [hasP, ← fidx_ge, this]; simp
      have e : decide ((i : Int) ≥ 0) = hasP f n := by rw [hh]; simp
      refine V_run ?_
      rw [e]
      exact hk _ _ hz2 (Res.tl ‹_›)
    · (repeat (first | (refine iDr ?_; intro _ _) | refine V_run ?_ | refine PV_run ?_ | refine HV_run ?_ | refine iV_ld1 ?_ | refine iV_ldN ?_ | (refine iV_bx ?_; intro _ _ _ _) | (refine iV_al ?_; intro _ _ _ _) | (refine iV_mm ?_; intro _ _ _ _) | (refine iU_st ?_; intro _ _) | refine iHV_1 ?_ | refine iHV_N ?_ | refine iRI_1 ?_ | refine iRI_N ?_ | refine Cond_t ?_ | refine Cond_f ?_ | refine JB ?_ | (refine JC ?_; intro _ _ _ _) | (refine J1 ?_; intro _ _) | (refine J0 ?_; intro _ _) | (refine J2 ?_; intro _ _) | (refine J3 ?_; intro _ _) | (refine J4 ?_; intro _ _) | refine K1 ?_ | refine K0 ?_ | refine K2 ?_ | refine K3 ?_ | refine K4 ?_ | (refine CV_pu ?_; intro _ _ _ _) | refine fV_ldN ?_ | refine fV_ld1 ?_ | refine fHV_ldN ?_ | refine fHV_ld1 ?_ | refine NilW_some ?_ | refine iCW_1 ?_ | refine iCW_N ?_ | refine Pk_b ?_))
      refine back (i + 1) _ _ ⟨by simp, by omega, fun j y' hj hjy => ?_, z2, hz2, Res.tl ‹_›⟩ (by omega)
      by_cases hji : j = i
      · subst hji; rw [List.getElem?_eq_getElem hlt] at hjy; cases hjy; simpa using h'
      · exact h2 j y' (by omega) hjy
  · (repeat (first | (refine iDr ?_; intro _ _) | refine V_run ?_ | refine PV_run ?_ | refine HV_run ?_ | refine iV_ld1 ?_ | refine iV_ldN ?_ | (refine iV_bx ?_; intro _ _ _ _) | (refine iV_al ?_; intro _ _ _ _) | (refine iV_mm ?_; intro _ _ _ _) | (refine iU_st ?_; intro _ _) | refine iHV_1 ?_ | refine iHV_N ?_ | refine iRI_1 ?_ | refine iRI_N ?_ | refine Cond_t ?_ | refine Cond_f ?_ | refine JB ?_ | (refine JC ?_; intro _ _ _ _) | (refine J1 ?_; intro _ _) | (refine J0 ?_; intro _ _) | (refine J2 ?_; intro _ _) | (refine J3 ?_; intro _ _) | (refine J4 ?_; intro _ _) | refine K1 ?_ | refine K0 ?_ | refine K2 ?_ | refine K3 ?_ | refine K4 ?_ | (refine CV_pu ?_; intro _ _ _ _) | refine fV_ldN ?_ | refine fV_ld1 ?_ | refine fHV_ldN ?_ | refine fHV_ld1 ?_ | refine NilW_some ?_ | refine iCW_1 ?_ | refine iCW_N ?_ | refine Pk_b ?_))
    have := fidx_none (p := fun x : RaM => decide (x.cond = n)) (xs := f.pend) fun j y hy => h2 j y (by have := (List.getElem?_eq_some_iff.1 hy).1; omega) hy
    have hh : hasP f n = false := by rw [hasP, ← fidx_ge, this]; rfl
    have e : (decide ((-1 : Int) ≥ 0)) = hasP f n := by rw [hh]; rfl
    rw [e]
    exact hk _ _ hz2 hS2))
theorem tget {f : FrM} {c : Int} (h6 : f.traps.length = 6) (h0 : 0 ≤ c) (h1 : c < 6) (ts : List Value) : Get (f.traps.flatMap TrM.cells ++ ts) (c.toNat * 3) (.int .i64 (f.tr c).mode) ∧ Get (f.traps.flatMap TrM.cells ++ ts) (c.toNat * 3 + 1) (.string (f.tr c).label) ∧ Get (f.traps.flatMap TrM.cells ++ ts) (c.toNat * 3 + 2) (.bool (f.tr c).delayed) := by
  have hlt : c.toNat < f.traps.length := by omega
  have key : ∀ j v, (f.tr c).cells[j]? = some v → (f.traps.flatMap TrM.cells ++ ts)[c.toNat * 3 + j]? = some v := fun j v hv => by
    have hx : f.traps[c.toNat]? = some (f.tr c) := by rw [FrM.tr, List.getD_eq_getElem?_getD, List.getElem?_eq_getElem hlt]; rfl
    have := flat_get (f := TrM.cells) (n := 3) (fun _ => rfl) hx j v hv
    rw [List.getElem?_append_left (List.getElem?_eq_some_iff.1 this).1]
    exact this
  exact ⟨⟨key 0 _ rfl⟩, ⟨key 1 _ rfl⟩, ⟨key 2 _ rfl⟩⟩
def raiseC (f : FrM) (c : Int) : Int := if c = 1 ∧ (f.tr 1).mode = 0 then 0 else c
def raiseA (f : FrM) (c : Int) (desc : ByteArray) : AcM :=
  if (f.tr (raiseC f c)).mode = 0 then (if raiseC f c = 5 ∨ raiseC f c = 2 then ⟨3, ⟨#[]⟩, raiseC f c, desc⟩ else noAct)
  else if immediate (raiseC f c) then sigA f (raiseC f c) desc else noAct
def raiseF (f : FrM) (c : Int) (desc : ByteArray) : FrM :=
  if (f.tr (raiseC f c)).mode = 0 then f
  else if immediate (raiseC f c) then sigF f (raiseC f c) desc
  else if (f.tr (raiseC f c)).delayed || hasP f (raiseC f c) then f
  else { f with pend := f.pend ++ [⟨raiseC f c, desc⟩] }
theorem CV_is {w0 w : World} {z0 z : Z} {B0 L : Bl} {C C' C'' : Obj → Bl} {K : Value → World → Prop} [hS : Res w0 z0 B0 w z L] {f : FrM} {bb fb tb o tcap : Nat} {c : Int} {l ts : List Value} [gb : Blk L bb (.cells [.pointer (some ⟨fb, o, none⟩)].toArray 116 (0, 0)) C] [gf : Blk L fb (.cells l.toArray 63 (0, 0)) C'] [gl : Get l o (.slice (some ⟨tb, 0, none⟩) 6 tcap)] [gt : Blk L tb (.cells (f.traps.flatMap TrM.cells ++ ts).toArray 73 (0, 0)) C'']
    (h6 : f.traps.length = 6) (h0 : 0 ≤ c) (h1 : c < 6) (hk : K (.bool (!decide ((f.tr c).mode = 0))) w) : CV (.func (.func 100) #[] #[.pointer (some ⟨bb, 0, none⟩)]) #[.int .i64 c] w K :=
  CV_enter (args' := #[.int .i64 c, .pointer (some ⟨bb, 0, none⟩)]) (by simp) (en100 (by
  unfold vc100
  obtain ⟨g1, _, _⟩ := tget h6 h0 h1 ts
  haveI : InR c (6 : Nat) := ⟨h0, by omega⟩
  (repeat (first | (refine iDr ?_; intro _ _) | refine V_run ?_ | refine PV_run ?_ | refine HV_run ?_ | refine iV_ld1 ?_ | refine iV_ldN ?_ | (refine iV_bx ?_; intro _ _ _ _) | (refine iV_al ?_; intro _ _ _ _) | (refine iV_mm ?_; intro _ _ _ _) | (refine iU_st ?_; intro _ _) | refine iHV_1 ?_ | refine iHV_N ?_ | refine iRI_1 ?_ | refine iRI_N ?_ | refine Cond_t ?_ | refine Cond_f ?_ | refine JB ?_ | (refine JC ?_; intro _ _ _ _) | (refine J1 ?_; intro _ _) | (refine J0 ?_; intro _ _) | (refine J2 ?_; intro _ _) | (refine J3 ?_; intro _ _) | (refine J4 ?_; intro _ _) | refine K1 ?_ | refine K0 ?_ | refine K2 ?_ | refine K3 ?_ | refine K4 ?_ | (refine CV_pu ?_; intro _ _ _ _) | refine fV_ldN ?_ | refine fV_ld1 ?_ | refine fHV_ldN ?_ | refine fHV_ld1 ?_ | refine NilW_some ?_ | refine iCW_1 ?_ | refine iCW_N ?_ | refine Pk_b ?_))
  exact hk))
theorem raiseP {z : Z} {w : World} {B : Bl} {mb : Nat} {pre : StM} {f : FrM} {c m : Int} {desc : ByteArray} (hm : Mach z B mb (pre ++ [f])) (h6 : f.traps.length = 6) (h0 : 0 ≤ c) (h1 : c < 6) (hp : pre.length ≤ 100) (hd : desc.size ≤ big) (hpl : f.pend.length ≤ 1000) :
    Fn 68 #[.pointer (some ⟨mb, 0, none⟩), .int .i64 c, .int .i64 m, .string desc] z B w fun z' B' r => if descB desc then r = .tuple #[(raiseA f c desc).v, .int .i64 0] ∧ Mach z' B' mb (pre ++ [raiseF f c desc]) else r = .tuple #[noAct.v, .int .i64 1] := Fn.intro fun hS => en68 (by
  unfold vc68
  obtain ⟨fb, tb, ps, sp, ts, cap, tcap, B2, v2, hB, hx, hpo⟩ := hm.x h6
  obtain ⟨a2, cap2, rfl, hc2⟩ := hpo.form
  have hS' : Res w z B w z _ := Eq.subst (motive := fun X => Res w z B w z X) hB hS
  clear hS
  simp only [mxB] at hS'
  have hlen := hx.fr.len
  refine iV_bx ?_
  intro b5 w5 hb5 hS5
  refine iV_al ?_
  intro b8 w8 hb8 hS8
  (repeat (first | (refine iDr ?_; intro _ _) | refine V_run ?_ | refine PV_run ?_ | refine HV_run ?_ | refine iV_ld1 ?_ | refine iV_ldN ?_ | (refine iV_bx ?_; intro _ _ _ _) | (refine iV_al ?_; intro _ _ _ _) | (refine iV_mm ?_; intro _ _ _ _) | (refine iU_st ?_; intro _ _) | refine iHV_1 ?_ | refine iHV_N ?_ | refine iRI_1 ?_ | refine iRI_N ?_ | refine Cond_t ?_ | refine Cond_f ?_ | refine JB ?_ | (refine JC ?_; intro _ _ _ _) | (refine J1 ?_; intro _ _) | (refine J0 ?_; intro _ _) | (refine J2 ?_; intro _ _) | (refine J3 ?_; intro _ _) | (refine J4 ?_; intro _ _) | refine K1 ?_ | refine K0 ?_ | refine K2 ?_ | refine K3 ?_ | refine K4 ?_ | (refine CV_pu ?_; intro _ _ _ _) | refine fV_ldN ?_ | refine fV_ld1 ?_ | refine fHV_ldN ?_ | refine fHV_ld1 ?_ | refine NilW_some ?_ | refine iCW_1 ?_ | refine iCW_N ?_ | refine Pk_b ?_))
  refine Cond_n (fun hdb => ?_) (fun hdb => ?_)
  · (repeat (first | (refine iDr ?_; intro _ _) | refine V_run ?_ | refine PV_run ?_ | refine HV_run ?_ | refine iV_ld1 ?_ | refine iV_ldN ?_ | (refine iV_bx ?_; intro _ _ _ _) | (refine iV_al ?_; intro _ _ _ _) | (refine iV_mm ?_; intro _ _ _ _) | (refine iU_st ?_; intro _ _) | refine iHV_1 ?_ | refine iHV_N ?_ | refine iRI_1 ?_ | refine iRI_N ?_ | refine Cond_t ?_ | refine Cond_f ?_ | refine JB ?_ | (refine JC ?_; intro _ _ _ _) | (refine J1 ?_; intro _ _) | (refine J0 ?_; intro _ _) | (refine J2 ?_; intro _ _) | (refine J3 ?_; intro _ _) | (refine J4 ?_; intro _ _) | refine K1 ?_ | refine K0 ?_ | refine K2 ?_ | refine K3 ?_ | refine K4 ?_ | (refine CV_pu ?_; intro _ _ _ _) | refine fV_ldN ?_ | refine fV_ld1 ?_ | refine fHV_ldN ?_ | refine fHV_ld1 ?_ | refine NilW_some ?_ | refine iCW_1 ?_ | refine iCW_N ?_ | refine Pk_b ?_))
    exact ⟨_, _, ‹_›, by rw [hdb]; rfl⟩
  refine CV_now (n := pre.length) (o := ps.length) hlen.symm (by simp only [big]; omega) ?_
  intro w9 hS9
  refine iV_al ?_
  intro b10 w10 hb10 hS10
  refine iU_st ?_
  intro w11 hS11
  clear hS9 hS10 hS8 hS5 hS'
  have hend : ∀ (zz : Z) (ww : World) (o8 o5 o10 : Obj) (c' : Int), Le z zz → Res w z B ww zz ((b10, o10) :: (b8, o8) :: (b5, o5) :: mxB mb fb tb (pre.length + 1) ps sp ts cap tcap f B2 (.slice a2 f.pend.length cap2)) → ∃ B', Res w z B ww zz B' ∧ Mach zz B' mb (pre ++ [f]) := fun zz ww o8 o5 o10 c' hz hR =>
    ⟨_, hR.tl.tl.tl, MachX.mach ⟨FrsR.mono hz hx.fr, hx.cap, hx.tcap, hx.six, hx.sm⟩ hpo⟩
  simp only [mxB] at hend
  have hrc : 0 ≤ raiseC f c ∧ raiseC f c < 6 := by unfold raiseC; split <;> omega
  refine J0cut (fun w' => ∃ z', Res w z B w' z' ((b10, .cells [.pointer (some ⟨fb, ps.length, none⟩)].toArray 116 (0, 0)) :: (b8, .cells [.int .i64 0, .string ⟨#[]⟩, .int .i64 0, .string ⟨#[]⟩].toArray 39 (0, 0)) :: (b5, .cells [.int .i64 (raiseC f c)].toArray 3 (0, 0)) :: (mb, .cells [.slice (some ⟨fb, 0, none⟩) (pre.length + 1) cap].toArray 134 (0, 0)) :: (fb, .cells (ps ++ (.slice (some ⟨tb, 0, none⟩) 6 tcap :: .slice a2 f.pend.length cap2 :: .int .i64 f.info.cond :: .int .i64 f.info.mode :: .string f.info.desc :: sp)).toArray 63 (0, 0)) :: (tb, .cells (f.traps.flatMap TrM.cells ++ ts).toArray 73 (0, 0)) :: B2)) ?_ ?_
  rotate_left
  · intro KJ hJ
    (repeat (first | (refine iDr ?_; intro _ _) | refine V_run ?_ | refine PV_run ?_ | refine HV_run ?_ | refine iV_ld1 ?_ | refine iV_ldN ?_ | (refine iV_bx ?_; intro _ _ _ _) | (refine iV_al ?_; intro _ _ _ _) | (refine iV_mm ?_; intro _ _ _ _) | (refine iU_st ?_; intro _ _) | refine iHV_1 ?_ | refine iHV_N ?_ | refine iRI_1 ?_ | refine iRI_N ?_ | refine Cond_t ?_ | refine Cond_f ?_ | refine JB ?_ | (refine JC ?_; intro _ _ _ _) | (refine J1 ?_; intro _ _) | (refine J0 ?_; intro _ _) | (refine J2 ?_; intro _ _) | (refine J3 ?_; intro _ _) | (refine J4 ?_; intro _ _) | refine K1 ?_ | refine K0 ?_ | refine K2 ?_ | refine K3 ?_ | refine K4 ?_ | (refine CV_pu ?_; intro _ _ _ _) | refine fV_ldN ?_ | refine fV_ld1 ?_ | refine fHV_ldN ?_ | refine fHV_ld1 ?_ | refine NilW_some ?_ | refine iCW_1 ?_ | refine iCW_N ?_ | refine Pk_b ?_))
    refine Cond_d (fun hc1 => ?_) (fun hc1 => ?_)
    · subst hc1
      (repeat (first | (refine iDr ?_; intro _ _) | refine V_run ?_ | refine PV_run ?_ | refine HV_run ?_ | refine iV_ld1 ?_ | refine iV_ldN ?_ | (refine iV_bx ?_; intro _ _ _ _) | (refine iV_al ?_; intro _ _ _ _) | (refine iV_mm ?_; intro _ _ _ _) | (refine iU_st ?_; intro _ _) | refine iHV_1 ?_ | refine iHV_N ?_ | refine iRI_1 ?_ | refine iRI_N ?_ | refine Cond_t ?_ | refine Cond_f ?_ | refine JB ?_ | (refine JC ?_; intro _ _ _ _) | (refine J1 ?_; intro _ _) | (refine J0 ?_; intro _ _) | (refine J2 ?_; intro _ _) | (refine J3 ?_; intro _ _) | (refine J4 ?_; intro _ _) | refine K1 ?_ | refine K0 ?_ | refine K2 ?_ | refine K3 ?_ | refine K4 ?_ | (refine CV_pu ?_; intro _ _ _ _) | refine fV_ldN ?_ | refine fV_ld1 ?_ | refine fHV_ldN ?_ | refine fHV_ld1 ?_ | refine NilW_some ?_ | refine iCW_1 ?_ | refine iCW_N ?_ | refine Pk_b ?_))
      refine CV_is (f := f) (ts := ts) h6 (by omega) (by omega) ?_
      (repeat (first | (refine iDr ?_; intro _ _) | refine V_run ?_ | refine PV_run ?_ | refine HV_run ?_ | refine iV_ld1 ?_ | refine iV_ldN ?_ | (refine iV_bx ?_; intro _ _ _ _) | (refine iV_al ?_; intro _ _ _ _) | (refine iV_mm ?_; intro _ _ _ _) | (refine iU_st ?_; intro _ _) | refine iHV_1 ?_ | refine iHV_N ?_ | refine iRI_1 ?_ | refine iRI_N ?_ | refine Cond_t ?_ | refine Cond_f ?_ | refine JB ?_ | (refine JC ?_; intro _ _ _ _) | (refine J1 ?_; intro _ _) | (refine J0 ?_; intro _ _) | (refine J2 ?_; intro _ _) | (refine J3 ?_; intro _ _) | (refine J4 ?_; intro _ _) | refine K1 ?_ | refine K0 ?_ | refine K2 ?_ | refine K3 ?_ | refine K4 ?_ | (refine CV_pu ?_; intro _ _ _ _) | refine fV_ldN ?_ | refine fV_ld1 ?_ | refine fHV_ldN ?_ | refine fHV_ld1 ?_ | refine NilW_some ?_ | refine iCW_1 ?_ | refine iCW_N ?_ | refine Pk_b ?_))
      refine Cond_n (fun h2 => ?_) (fun h2 => ?_)
      · have h2' : (f.tr 1).mode = 0 := by simpa using h2
        have hr : raiseC f 1 = 0 := by simp [raiseC, h2']
        (repeat (first | (refine iDr ?_; intro _ _) | refine V_run ?_ | refine PV_run ?_ | refine HV_run ?_ | refine iV_ld1 ?_ | refine iV_ldN ?_ | (refine iV_bx ?_; intro _ _ _ _) | (refine iV_al ?_; intro _ _ _ _) | (refine iV_mm ?_; intro _ _ _ _) | (refine iU_st ?_; intro _ _) | refine iHV_1 ?_ | refine iHV_N ?_ | refine iRI_1 ?_ | refine iRI_N ?_ | refine Cond_t ?_ | refine Cond_f ?_ | refine JB ?_ | (refine JC ?_; intro _ _ _ _) | (refine J1 ?_; intro _ _) | (refine J0 ?_; intro _ _) | (refine J2 ?_; intro _ _) | (refine J3 ?_; intro _ _) | (refine J4 ?_; intro _ _) | refine K1 ?_ | refine K0 ?_ | refine K2 ?_ | refine K3 ?_ | refine K4 ?_ | (refine CV_pu ?_; intro _ _ _ _) | refine fV_ldN ?_ | refine fV_ld1 ?_ | refine fHV_ldN ?_ | refine fHV_ld1 ?_ | refine NilW_some ?_ | refine iCW_1 ?_ | refine iCW_N ?_ | refine Pk_b ?_))
        exact ⟨_, by rw [hr]; assumption⟩
      · have h2' : ¬ (f.tr 1).mode = 0 := by simpa using h2
        have hr : raiseC f 1 = 1 := by simp [raiseC, h2']
        (repeat (first | (refine iDr ?_; intro _ _) | refine V_run ?_ | refine PV_run ?_ | refine HV_run ?_ | refine iV_ld1 ?_ | refine iV_ldN ?_ | (refine iV_bx ?_; intro _ _ _ _) | (refine iV_al ?_; intro _ _ _ _) | (refine iV_mm ?_; intro _ _ _ _) | (refine iU_st ?_; intro _ _) | refine iHV_1 ?_ | refine iHV_N ?_ | refine iRI_1 ?_ | refine iRI_N ?_ | refine Cond_t ?_ | refine Cond_f ?_ | refine JB ?_ | (refine JC ?_; intro _ _ _ _) | (refine J1 ?_; intro _ _) | (refine J0 ?_; intro _ _) | (refine J2 ?_; intro _ _) | (refine J3 ?_; intro _ _) | (refine J4 ?_; intro _ _) | refine K1 ?_ | refine K0 ?_ | refine K2 ?_ | refine K3 ?_ | refine K4 ?_ | (refine CV_pu ?_; intro _ _ _ _) | refine fV_ldN ?_ | refine fV_ld1 ?_ | refine fHV_ldN ?_ | refine fHV_ld1 ?_ | refine NilW_some ?_ | refine iCW_1 ?_ | refine iCW_N ?_ | refine Pk_b ?_))
        exact ⟨_, by rw [hr]; assumption⟩
    · have hr : raiseC f c = c := by simp [raiseC, hc1]
      (repeat (first | (refine iDr ?_; intro _ _) | refine V_run ?_ | refine PV_run ?_ | refine HV_run ?_ | refine iV_ld1 ?_ | refine iV_ldN ?_ | (refine iV_bx ?_; intro _ _ _ _) | (refine iV_al ?_; intro _ _ _ _) | (refine iV_mm ?_; intro _ _ _ _) | (refine iU_st ?_; intro _ _) | refine iHV_1 ?_ | refine iHV_N ?_ | refine iRI_1 ?_ | refine iRI_N ?_ | refine Cond_t ?_ | refine Cond_f ?_ | refine JB ?_ | (refine JC ?_; intro _ _ _ _) | (refine J1 ?_; intro _ _) | (refine J0 ?_; intro _ _) | (refine J2 ?_; intro _ _) | (refine J3 ?_; intro _ _) | (refine J4 ?_; intro _ _) | refine K1 ?_ | refine K0 ?_ | refine K2 ?_ | refine K3 ?_ | refine K4 ?_ | (refine CV_pu ?_; intro _ _ _ _) | refine fV_ldN ?_ | refine fV_ld1 ?_ | refine fHV_ldN ?_ | refine fHV_ld1 ?_ | refine NilW_some ?_ | refine iCW_1 ?_ | refine iCW_N ?_ | refine Pk_b ?_))
      exact ⟨_, by rw [hr]; assumption⟩
  rintro w12 ⟨z12, hS12⟩
  clear hS11
  have hz12 := hS12.zle
  obtain ⟨hc0, hc6⟩ := hrc
  unfold raiseA raiseF
  generalize raiseC f c = d at *
  refine J0 (fun KJ hJ => ?_)
  (repeat (first | (refine iDr ?_; intro _ _) | refine V_run ?_ | refine PV_run ?_ | refine HV_run ?_ | refine iV_ld1 ?_ | refine iV_ldN ?_ | (refine iV_bx ?_; intro _ _ _ _) | (refine iV_al ?_; intro _ _ _ _) | (refine iV_mm ?_; intro _ _ _ _) | (refine iU_st ?_; intro _ _) | refine iHV_1 ?_ | refine iHV_N ?_ | refine iRI_1 ?_ | refine iRI_N ?_ | refine Cond_t ?_ | refine Cond_f ?_ | refine JB ?_ | (refine JC ?_; intro _ _ _ _) | (refine J1 ?_; intro _ _) | (refine J0 ?_; intro _ _) | (refine J2 ?_; intro _ _) | (refine J3 ?_; intro _ _) | (refine J4 ?_; intro _ _) | refine K1 ?_ | refine K0 ?_ | refine K2 ?_ | refine K3 ?_ | refine K4 ?_ | (refine CV_pu ?_; intro _ _ _ _) | refine fV_ldN ?_ | refine fV_ld1 ?_ | refine fHV_ldN ?_ | refine fHV_ld1 ?_ | refine NilW_some ?_ | refine iCW_1 ?_ | refine iCW_N ?_ | refine Pk_b ?_))
  refine CV_is (f := f) (ts := ts) h6 hc0 hc6 ?_
  (repeat (first | (refine iDr ?_; intro _ _) | refine V_run ?_ | refine PV_run ?_ | refine HV_run ?_ | refine iV_ld1 ?_ | refine iV_ldN ?_ | (refine iV_bx ?_; intro _ _ _ _) | (refine iV_al ?_; intro _ _ _ _) | (refine iV_mm ?_; intro _ _ _ _) | (refine iU_st ?_; intro _ _) | refine iHV_1 ?_ | refine iHV_N ?_ | refine iRI_1 ?_ | refine iRI_N ?_ | refine Cond_t ?_ | refine Cond_f ?_ | refine JB ?_ | (refine JC ?_; intro _ _ _ _) | (refine J1 ?_; intro _ _) | (refine J0 ?_; intro _ _) | (refine J2 ?_; intro _ _) | (refine J3 ?_; intro _ _) | (refine J4 ?_; intro _ _) | refine K1 ?_ | refine K0 ?_ | refine K2 ?_ | refine K3 ?_ | refine K4 ?_ | (refine CV_pu ?_; intro _ _ _ _) | refine fV_ldN ?_ | refine fV_ld1 ?_ | refine fHV_ldN ?_ | refine fHV_ld1 ?_ | refine NilW_some ?_ | refine iCW_1 ?_ | refine iCW_N ?_ | refine Pk_b ?_))
  refine Cond_b (fun h52 => ?_) (fun h52 => ?_)
  · have h52' : (f.tr d).mode = 0 ∧ (d = 5 ∨ d = 2) := by
      simp only [cond_eq_ite] at h52
      by_cases e0 : (f.tr d).mode = 0 <;> by_cases e : d = 5 <;> simp [e0, e] at h52 ⊢ <;> exact h52
    simp only [h52'.1, h52'.2, if_true] at hJ ⊢
    (repeat (first | (refine iDr ?_; intro _ _) | refine V_run ?_ | refine PV_run ?_ | refine HV_run ?_ | refine iV_ld1 ?_ | refine iV_ldN ?_ | (refine iV_bx ?_; intro _ _ _ _) | (refine iV_al ?_; intro _ _ _ _) | (refine iV_mm ?_; intro _ _ _ _) | (refine iU_st ?_; intro _ _) | refine iHV_1 ?_ | refine iHV_N ?_ | refine iRI_1 ?_ | refine iRI_N ?_ | refine Cond_t ?_ | refine Cond_f ?_ | refine JB ?_ | (refine JC ?_; intro _ _ _ _) | (refine J1 ?_; intro _ _) | (refine J0 ?_; intro _ _) | (refine J2 ?_; intro _ _) | (refine J3 ?_; intro _ _) | (refine J4 ?_; intro _ _) | refine K1 ?_ | refine K0 ?_ | refine K2 ?_ | refine K3 ?_ | refine K4 ?_ | (refine CV_pu ?_; intro _ _ _ _) | refine fV_ldN ?_ | refine fV_ld1 ?_ | refine fHV_ldN ?_ | refine fHV_ld1 ?_ | refine NilW_some ?_ | refine iCW_1 ?_ | refine iCW_N ?_ | refine Pk_b ?_))
    rename_i hSe
    obtain ⟨B', hR, hM⟩ := hend _ _ _ _ _ 0 hSe.zle hSe
    exact ⟨_, B', hR, by rw [if_pos hdb]; exact ⟨rfl, hM⟩⟩
  (repeat (first | (refine iDr ?_; intro _ _) | refine V_run ?_ | refine PV_run ?_ | refine HV_run ?_ | refine iV_ld1 ?_ | refine iV_ldN ?_ | (refine iV_bx ?_; intro _ _ _ _) | (refine iV_al ?_; intro _ _ _ _) | (refine iV_mm ?_; intro _ _ _ _) | (refine iU_st ?_; intro _ _) | refine iHV_1 ?_ | refine iHV_N ?_ | refine iRI_1 ?_ | refine iRI_N ?_ | refine Cond_t ?_ | refine Cond_f ?_ | refine JB ?_ | (refine JC ?_; intro _ _ _ _) | (refine J1 ?_; intro _ _) | (refine J0 ?_; intro _ _) | (refine J2 ?_; intro _ _) | (refine J3 ?_; intro _ _) | (refine J4 ?_; intro _ _) | refine K1 ?_ | refine K0 ?_ | refine K2 ?_ | refine K3 ?_ | refine K4 ?_ | (refine CV_pu ?_; intro _ _ _ _) | refine fV_ldN ?_ | refine fV_ld1 ?_ | refine fHV_ldN ?_ | refine fHV_ld1 ?_ | refine NilW_some ?_ | refine iCW_1 ?_ | refine iCW_N ?_ | refine Pk_b ?_))
  refine CV_is (f := f) (ts := ts) h6 hc0 hc6 ?_
  (repeat (first | (refine iDr ?_; intro _ _) | refine V_run ?_ | refine PV_run ?_ | refine HV_run ?_ | refine iV_ld1 ?_ | refine iV_ldN ?_ | (refine iV_bx ?_; intro _ _ _ _) | (refine iV_al ?_; intro _ _ _ _) | (refine iV_mm ?_; intro _ _ _ _) | (refine iU_st ?_; intro _ _) | refine iHV_1 ?_ | refine iHV_N ?_ | refine iRI_1 ?_ | refine iRI_N ?_ | refine Cond_t ?_ | refine Cond_f ?_ | refine JB ?_ | (refine JC ?_; intro _ _ _ _) | (refine J1 ?_; intro _ _) | (refine J0 ?_; intro _ _) | (refine J2 ?_; intro _ _) | (refine J3 ?_; intro _ _) | (refine J4 ?_; intro _ _) | refine K1 ?_ | refine K0 ?_ | refine K2 ?_ | refine K3 ?_ | refine K4 ?_ | (refine CV_pu ?_; intro _ _ _ _) | refine fV_ldN ?_ | refine fV_ld1 ?_ | refine fHV_ldN ?_ | refine fHV_ld1 ?_ | refine NilW_some ?_ | refine iCW_1 ?_ | refine iCW_N ?_ | refine Pk_b ?_))
  refine Cond_n (fun hmo => ?_) (fun hmo => ?_)
  · have hmo' : (f.tr d).mode = 0 := by simpa using hmo
    have h52' : ¬ (d = 5 ∨ d = 2) := fun hh => by
      rcases hh with rfl | rfl <;> simp [hmo'] at h52
    simp only [hmo', h52', if_true, if_false] at hJ ⊢
    (repeat (first | (refine iDr ?_; intro _ _) | refine V_run ?_ | refine PV_run ?_ | refine HV_run ?_ | refine iV_ld1 ?_ | refine iV_ldN ?_ | (refine iV_bx ?_; intro _ _ _ _) | (refine iV_al ?_; intro _ _ _ _) | (refine iV_mm ?_; intro _ _ _ _) | (refine iU_st ?_; intro _ _) | refine iHV_1 ?_ | refine iHV_N ?_ | refine iRI_1 ?_ | refine iRI_N ?_ | refine Cond_t ?_ | refine Cond_f ?_ | refine JB ?_ | (refine JC ?_; intro _ _ _ _) | (refine J1 ?_; intro _ _) | (refine J0 ?_; intro _ _) | (refine J2 ?_; intro _ _) | (refine J3 ?_; intro _ _) | (refine J4 ?_; intro _ _) | refine K1 ?_ | refine K0 ?_ | refine K2 ?_ | refine K3 ?_ | refine K4 ?_ | (refine CV_pu ?_; intro _ _ _ _) | refine fV_ldN ?_ | refine fV_ld1 ?_ | refine fHV_ldN ?_ | refine fHV_ld1 ?_ | refine NilW_some ?_ | refine iCW_1 ?_ | refine iCW_N ?_ | refine Pk_b ?_))
    rename_i hSe
    obtain ⟨B', hR, hM⟩ := hend _ _ _ _ _ 0 hSe.zle hSe
    exact ⟨_, B', hR, by rw [if_pos hdb]; exact ⟨rfl, hM⟩⟩
  · have hmo' : ¬ (f.tr d).mode = 0 := by simpa using hmo
    simp only [hmo', if_false] at hJ ⊢
    (repeat (first | (refine iDr ?_; intro _ _) | refine V_run ?_ | refine PV_run ?_ | refine HV_run ?_ | refine iV_ld1 ?_ | refine iV_ldN ?_ | (refine iV_bx ?_; intro _ _ _ _) | (refine iV_al ?_; intro _ _ _ _) | (refine iV_mm ?_; intro _ _ _ _) | (refine iU_st ?_; intro _ _) | refine iHV_1 ?_ | refine iHV_N ?_ | refine iRI_1 ?_ | refine iRI_N ?_ | refine Cond_t ?_ | refine Cond_f ?_ | refine JB ?_ | (refine JC ?_; intro _ _ _ _) | (refine J1 ?_; intro _ _) | (refine J0 ?_; intro _ _) | (refine J2 ?_; intro _ _) | (refine J3 ?_; intro _ _) | (refine J4 ?_; intro _ _) | refine K1 ?_ | refine K0 ?_ | refine K2 ?_ | refine K3 ?_ | refine K4 ?_ | (refine CV_pu ?_; intro _ _ _ _) | refine fV_ldN ?_ | refine fV_ld1 ?_ | refine fHV_ldN ?_ | refine fHV_ld1 ?_ | refine NilW_some ?_ | refine iCW_1 ?_ | refine iCW_N ?_ | refine Pk_b ?_))
    refine Cond_b (fun him => ?_) (fun him => ?_)
    · simp only [him, if_true] at hJ ⊢
      (repeat (first | (refine iDr ?_; intro _ _) | refine V_run ?_ | refine PV_run ?_ | refine HV_run ?_ | refine iV_ld1 ?_ | refine iV_ldN ?_ | (refine iV_bx ?_; intro _ _ _ _) | (refine iV_al ?_; intro _ _ _ _) | (refine iV_mm ?_; intro _ _ _ _) | (refine iU_st ?_; intro _ _) | refine iHV_1 ?_ | refine iHV_N ?_ | refine iRI_1 ?_ | refine iRI_N ?_ | refine Cond_t ?_ | refine Cond_f ?_ | refine JB ?_ | (refine JC ?_; intro _ _ _ _) | (refine J1 ?_; intro _ _) | (refine J0 ?_; intro _ _) | (refine J2 ?_; intro _ _) | (refine J3 ?_; intro _ _) | (refine J4 ?_; intro _ _) | refine K1 ?_ | refine K0 ?_ | refine K2 ?_ | refine K3 ?_ | refine K4 ?_ | (refine CV_pu ?_; intro _ _ _ _) | refine fV_ldN ?_ | refine fV_ld1 ?_ | refine fHV_ldN ?_ | refine fHV_ld1 ?_ | refine NilW_some ?_ | refine iCW_1 ?_ | refine iCW_N ?_ | refine Pk_b ?_))
      rename_i hSe
      have hx' : MachX _ mb fb tb pre ps sp ts cap tcap f := ⟨FrsR.mono hSe.zle hx.fr, hx.cap, hx.tcap, hx.six, hx.sm⟩
      refine CV_fn (B := mxB mb fb tb (pre.length + 1) ps sp ts cap tcap f B2 (.slice a2 f.pend.length cap2)) (F := [(b10, _), (b8, .cells [.int .i64 0, .string ⟨#[]⟩, .int .i64 0, .string ⟨#[]⟩].toArray 39 (0, 0)), (b5, _)]) (hSe.perm (List.perm_append_comm (l₁ := [(b10, _), (b8, _), (b5, _)]) (l₂ := mxB mb fb tb (pre.length + 1) ps sp ts cap tcap f B2 (.slice a2 f.pend.length cap2)))) (signalP rfl hx' hc0 hc6 hp hd) (by simp) ?_
      rintro z13 B13 w13 v13 hle13 hS13 ⟨rfl, hM⟩
      dsimp only [AcM.v, AcM.cells] at *
      (repeat (first | (refine iDr ?_; intro _ _) | refine V_run ?_ | refine PV_run ?_ | refine HV_run ?_ | refine iV_ld1 ?_ | refine iV_ldN ?_ | (refine iV_bx ?_; intro _ _ _ _) | (refine iV_al ?_; intro _ _ _ _) | (refine iV_mm ?_; intro _ _ _ _) | (refine iU_st ?_; intro _ _) | refine iHV_1 ?_ | refine iHV_N ?_ | refine iRI_1 ?_ | refine iRI_N ?_ | refine Cond_t ?_ | refine Cond_f ?_ | refine JB ?_ | (refine JC ?_; intro _ _ _ _) | (refine J1 ?_; intro _ _) | (refine J0 ?_; intro _ _) | (refine J2 ?_; intro _ _) | (refine J3 ?_; intro _ _) | (refine J4 ?_; intro _ _) | refine K1 ?_ | refine K0 ?_ | refine K2 ?_ | refine K3 ?_ | refine K4 ?_ | (refine CV_pu ?_; intro _ _ _ _) | refine fV_ldN ?_ | refine fV_ld1 ?_ | refine fHV_ldN ?_ | refine fHV_ld1 ?_ | refine NilW_some ?_ | refine iCW_1 ?_ | refine iCW_N ?_ | refine Pk_b ?_))
      rename_i hSe2
      exact ⟨_, B13, hSe2.sublist (List.sublist_append_left _ _), by rw [if_pos hdb]; exact ⟨rfl, hM⟩⟩
    · have him' : ¬ immediate d = true := by simp [him]
      simp only [him'] at hJ ⊢
      obtain ⟨g1, g2, g3⟩ := tget h6 hc0 hc6 ts
      haveI : InR d (6 : Nat) := ⟨hc0, by omega⟩
      (repeat (first | (refine iDr ?_; intro _ _) | refine V_run ?_ | refine PV_run ?_ | refine HV_run ?_ | refine iV_ld1 ?_ | refine iV_ldN ?_ | (refine iV_bx ?_; intro _ _ _ _) | (refine iV_al ?_; intro _ _ _ _) | (refine iV_mm ?_; intro _ _ _ _) | (refine iU_st ?_; intro _ _) | refine iHV_1 ?_ | refine iHV_N ?_ | refine iRI_1 ?_ | refine iRI_N ?_ | refine Cond_t ?_ | refine Cond_f ?_ | refine JB ?_ | (refine JC ?_; intro _ _ _ _) | (refine J1 ?_; intro _ _) | (refine J0 ?_; intro _ _) | (refine J2 ?_; intro _ _) | (refine J3 ?_; intro _ _) | (refine J4 ?_; intro _ _) | refine K1 ?_ | refine K0 ?_ | refine K2 ?_ | refine K3 ?_ | refine K4 ?_ | (refine CV_pu ?_; intro _ _ _ _) | refine fV_ldN ?_ | refine fV_ld1 ?_ | refine fHV_ldN ?_ | refine fHV_ld1 ?_ | refine NilW_some ?_ | refine iCW_1 ?_ | refine iCW_N ?_ | refine Pk_b ?_))
      refine Cond_b (fun hde => ?_) (fun hde => ?_)
      · simp only [hde, Bool.true_or, if_true] at hJ
        (repeat (first | (refine iDr ?_; intro _ _) | refine V_run ?_ | refine PV_run ?_ | refine HV_run ?_ | refine iV_ld1 ?_ | refine iV_ldN ?_ | (refine iV_bx ?_; intro _ _ _ _) | (refine iV_al ?_; intro _ _ _ _) | (refine iV_mm ?_; intro _ _ _ _) | (refine iU_st ?_; intro _ _) | refine iHV_1 ?_ | refine iHV_N ?_ | refine iRI_1 ?_ | refine iRI_N ?_ | refine Cond_t ?_ | refine Cond_f ?_ | refine JB ?_ | (refine JC ?_; intro _ _ _ _) | (refine J1 ?_; intro _ _) | (refine J0 ?_; intro _ _) | (refine J2 ?_; intro _ _) | (refine J3 ?_; intro _ _) | (refine J4 ?_; intro _ _) | refine K1 ?_ | refine K0 ?_ | refine K2 ?_ | refine K3 ?_ | refine K4 ?_ | (refine CV_pu ?_; intro _ _ _ _) | refine fV_ldN ?_ | refine fV_ld1 ?_ | refine fHV_ldN ?_ | refine fHV_ld1 ?_ | refine NilW_some ?_ | refine iCW_1 ?_ | refine iCW_N ?_ | refine Pk_b ?_))
        rename_i hSe
        obtain ⟨B', hR, hM⟩ := hend _ _ _ _ _ 0 hSe.zle hSe
        exact ⟨_, B', hR, by rw [if_pos hdb]; exact ⟨rfl, by simpa [hde] using hM⟩⟩
      · simp only [hde, Bool.false_or] at hJ
        (repeat (first | (refine iDr ?_; intro _ _) | refine V_run ?_ | refine PV_run ?_ | refine HV_run ?_ | refine iV_ld1 ?_ | refine iV_ldN ?_ | (refine iV_bx ?_; intro _ _ _ _) | (refine iV_al ?_; intro _ _ _ _) | (refine iV_mm ?_; intro _ _ _ _) | (refine iU_st ?_; intro _ _) | refine iHV_1 ?_ | refine iHV_N ?_ | refine iRI_1 ?_ | refine iRI_N ?_ | refine Cond_t ?_ | refine Cond_f ?_ | refine JB ?_ | (refine JC ?_; intro _ _ _ _) | (refine J1 ?_; intro _ _) | (refine J0 ?_; intro _ _) | (refine J2 ?_; intro _ _) | (refine J3 ?_; intro _ _) | (refine J4 ?_; intro _ _) | refine K1 ?_ | refine K0 ?_ | refine K2 ?_ | refine K3 ?_ | refine K4 ?_ | (refine CV_pu ?_; intro _ _ _ _) | refine fV_ldN ?_ | refine fV_ld1 ?_ | refine fHV_ldN ?_ | refine fHV_ld1 ?_ | refine NilW_some ?_ | refine iCW_1 ?_ | refine iCW_N ?_ | refine Pk_b ?_))
        refine CV_pend (f := f) (B2 := B2) hpo (fun p hp => by simp [hp]) hx.sm.2.1 ?_
        rintro z14 w14 hz14 hS14
        (repeat (first | (refine iDr ?_; intro _ _) | refine V_run ?_ | refine PV_run ?_ | refine HV_run ?_ | refine iV_ld1 ?_ | refine iV_ldN ?_ | (refine iV_bx ?_; intro _ _ _ _) | (refine iV_al ?_; intro _ _ _ _) | (refine iV_mm ?_; intro _ _ _ _) | (refine iU_st ?_; intro _ _) | refine iHV_1 ?_ | refine iHV_N ?_ | refine iRI_1 ?_ | refine iRI_N ?_ | refine Cond_t ?_ | refine Cond_f ?_ | refine JB ?_ | (refine JC ?_; intro _ _ _ _) | (refine J1 ?_; intro _ _) | (refine J0 ?_; intro _ _) | (refine J2 ?_; intro _ _) | (refine J3 ?_; intro _ _) | (refine J4 ?_; intro _ _) | refine K1 ?_ | refine K0 ?_ | refine K2 ?_ | refine K3 ?_ | refine K4 ?_ | (refine CV_pu ?_; intro _ _ _ _) | refine fV_ldN ?_ | refine fV_ld1 ?_ | refine fHV_ldN ?_ | refine fHV_ld1 ?_ | refine NilW_some ?_ | refine iCW_1 ?_ | refine iCW_N ?_ | refine Pk_b ?_))
        refine Cond_b (fun hha => ?_) (fun hha => ?_)
        · simp only [hha, if_true] at hJ
          (repeat (first | (refine iDr ?_; intro _ _) | refine V_run ?_ | refine PV_run ?_ | refine HV_run ?_ | refine iV_ld1 ?_ | refine iV_ldN ?_ | (refine iV_bx ?_; intro _ _ _ _) | (refine iV_al ?_; intro _ _ _ _) | (refine iV_mm ?_; intro _ _ _ _) | (refine iU_st ?_; intro _ _) | refine iHV_1 ?_ | refine iHV_N ?_ | refine iRI_1 ?_ | refine iRI_N ?_ | refine Cond_t ?_ | refine Cond_f ?_ | refine JB ?_ | (refine JC ?_; intro _ _ _ _) | (refine J1 ?_; intro _ _) | (refine J0 ?_; intro _ _) | (refine J2 ?_; intro _ _) | (refine J3 ?_; intro _ _) | (refine J4 ?_; intro _ _) | refine K1 ?_ | refine K0 ?_ | refine K2 ?_ | refine K3 ?_ | refine K4 ?_ | (refine CV_pu ?_; intro _ _ _ _) | refine fV_ldN ?_ | refine fV_ld1 ?_ | refine fHV_ldN ?_ | refine fHV_ld1 ?_ | refine NilW_some ?_ | refine iCW_1 ?_ | refine iCW_N ?_ | refine Pk_b ?_))
          rename_i hSe
          obtain ⟨B', hR, hM⟩ := hend _ _ _ _ _ 0 hSe.zle hSe
          exact ⟨_, B', hR, by rw [if_pos hdb]; exact ⟨rfl, by simpa [hde, hha] using hM⟩⟩
        · simp only [hha] at hJ
          (repeat (first | (refine iDr ?_; intro _ _) | refine V_run ?_ | refine PV_run ?_ | refine HV_run ?_ | refine iV_ld1 ?_ | refine iV_ldN ?_ | (refine iV_bx ?_; intro _ _ _ _) | (refine iV_al ?_; intro _ _ _ _) | (refine iV_mm ?_; intro _ _ _ _) | (refine iU_st ?_; intro _ _) | refine iHV_1 ?_ | refine iHV_N ?_ | refine iRI_1 ?_ | refine iRI_N ?_ | refine Cond_t ?_ | refine Cond_f ?_ | refine JB ?_ | (refine JC ?_; intro _ _ _ _) | (refine J1 ?_; intro _ _) | (refine J0 ?_; intro _ _) | (refine J2 ?_; intro _ _) | (refine J3 ?_; intro _ _) | (refine J4 ?_; intro _ _) | refine K1 ?_ | refine K0 ?_ | refine K2 ?_ | refine K3 ?_ | refine K4 ?_ | (refine CV_pu ?_; intro _ _ _ _) | refine fV_ldN ?_ | refine fV_ld1 ?_ | refine fHV_ldN ?_ | refine fHV_ld1 ?_ | refine NilW_some ?_ | refine iCW_1 ?_ | refine iCW_N ?_ | refine Pk_b ?_))
          refine V_bs (parts := [(0, _)]) rfl (by omega) ?_
          intro b15 w15 hb15 hS15
          (repeat (first | (refine iDr ?_; intro _ _) | refine V_run ?_ | refine PV_run ?_ | refine HV_run ?_ | refine iV_ld1 ?_ | refine iV_ldN ?_ | (refine iV_bx ?_; intro _ _ _ _) | (refine iV_al ?_; intro _ _ _ _) | (refine iV_mm ?_; intro _ _ _ _) | (refine iU_st ?_; intro _ _) | refine iHV_1 ?_ | refine iHV_N ?_ | refine iRI_1 ?_ | refine iRI_N ?_ | refine Cond_t ?_ | refine Cond_f ?_ | refine JB ?_ | (refine JC ?_; intro _ _ _ _) | (refine J1 ?_; intro _ _) | (refine J0 ?_; intro _ _) | (refine J2 ?_; intro _ _) | (refine J3 ?_; intro _ _) | (refine J4 ?_; intro _ _) | refine K1 ?_ | refine K0 ?_ | refine K2 ?_ | refine K3 ?_ | refine K4 ?_ | (refine CV_pu ?_; intro _ _ _ _) | refine fV_ldN ?_ | refine fV_ld1 ?_ | refine fHV_ldN ?_ | refine fHV_ld1 ?_ | refine NilW_some ?_ | refine iCW_1 ?_ | refine iCW_N ?_ | refine Pk_b ?_))
          refine V_app (B := B2) (m := 1) (n := f.pend.length) (news := [.int .i64 d, .string desc]) (hS15.perm (List.perm_append_comm (l₁ := [_, _, _, _, _, _, _]) (l₂ := B2))) hpo ⟨_, _, _, (hS15.mem _ List.mem_cons_self).1, fun j v hv => by simpa using hv⟩ rfl (fun u hu => by simp at hu; rcases hu with rfl | rfl <;> rfl) (by omega) (by have := hx.sm.2.1; simp only [room]; omega) (by have := hx.sm.2.1; simp only [room]; omega) ?_
          intro B16 v16 w16 ho16 hS16
          obtain ⟨a16, cap16, rfl, hc16⟩ := ho16.form
          (repeat (first | (refine iDr ?_; intro _ _) | refine V_run ?_ | refine PV_run ?_ | refine HV_run ?_ | refine iV_ld1 ?_ | refine iV_ldN ?_ | (refine iV_bx ?_; intro _ _ _ _) | (refine iV_al ?_; intro _ _ _ _) | (refine iV_mm ?_; intro _ _ _ _) | (refine iU_st ?_; intro _ _) | refine iHV_1 ?_ | refine iHV_N ?_ | refine iRI_1 ?_ | refine iRI_N ?_ | refine Cond_t ?_ | refine Cond_f ?_ | refine JB ?_ | (refine JC ?_; intro _ _ _ _) | (refine J1 ?_; intro _ _) | (refine J0 ?_; intro _ _) | (refine J2 ?_; intro _ _) | (refine J3 ?_; intro _ _) | (refine J4 ?_; intro _ _) | refine K1 ?_ | refine K0 ?_ | refine K2 ?_ | refine K3 ?_ | refine K4 ?_ | (refine CV_pu ?_; intro _ _ _ _) | refine fV_ldN ?_ | refine fV_ld1 ?_ | refine fHV_ldN ?_ | refine fHV_ld1 ?_ | refine NilW_some ?_ | refine iCW_1 ?_ | refine iCW_N ?_ | refine Pk_b ?_))
          rename_i hSe
          obtain ⟨q1, q2, q3, q4, q5⟩ := hx.sm
          refine ⟨z14, mxB mb fb tb (pre.length + 1) ps sp ts cap tcap { f with pend := f.pend ++ [⟨d, desc⟩] } B16 (.slice a16 (f.pend.length + 1) cap16), ?_, ?_⟩
          · exact (hSe.sublist (L' := B16 ++ [_, _, _]) ((List.Sublist.refl _).append ((((List.Sublist.refl _).cons _).cons _).cons _ |>.cons _))).perm (List.perm_append_comm (l₁ := B16) (l₂ := [_, _, _]))
          · rw [if_pos hdb]
            refine ⟨rfl, MachX.mach ⟨FrsR.mono hSe.zle hx.fr, hx.cap, hx.tcap, hx.six, q1, by simp only [List.length_append, List.length_singleton]; omega, q3, fun r hr => ?_, q5⟩ ?_⟩
            · rcases List.mem_append.1 hr with hr | hr
              · exact q4 r hr
              · simp only [List.mem_singleton] at hr; subst hr; exact hd
            · simpa [PendOwn] using ho16)
end Go.Proofs.Ytjnckainogpenaa
