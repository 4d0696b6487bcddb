/- Machines at work: setting a trap. -/
import Derived.Test.YtjnckainogpenaaT11
set_option linter.unusedVariables false
set_option maxRecDepth 20000
set_option synthInstance.maxHeartbeats 400000
set_option synthInstance.maxSize 4000
namespace Go.Proofs.Ytjnckainogpenaa
open Go Q Go.RowKit

/-- The blocks of a machine, one by one. -/
def mxB (mb fb tb : Nat) (n : Nat) (ps sp ts : List Value) (cap tcap : Nat) (f : FrM) (B2 : Bl) (v2 : Value) : Bl :=
  (mb, .cells [.slice (some ⟨fb, 0, none⟩) n cap].toArray 134 (0, 0)) :: (fb, .cells (ps ++ (.slice (some ⟨tb, 0, none⟩) 6 tcap :: v2 :: .int .i64 f.info.cond :: .int .i64 f.info.mode :: .string f.info.desc :: sp)).toArray 63 (0, 0)) :: (tb, .cells (f.traps.flatMap TrM.cells ++ ts).toArray 73 (0, 0)) :: B2
structure MachX (z : Z) (mb fb tb : Nat) (pre : StM) (ps sp ts : List Value) (cap tcap : Nat) (f : FrM) : Prop where
  fr : FrsR z ps pre
  cap : pre.length + 1 ≤ cap ∧ cap ≤ maxLen ∧ ps.length + 5 + sp.length = cap * 5
  tcap : 6 ≤ tcap ∧ tcap ≤ maxLen ∧ 18 + ts.length = tcap * 3
  six : f.traps.length = 6
  sm : FrSm f
def PendOwn (B2 : Bl) (v2 : Value) (f : FrM) : Prop := OwnSl 70 2 B2 v2 f.pend.length (f.pend.flatMap RaM.cells)
theorem Mach.x {z : Z} {B : Bl} {mb : Nat} {pre : StM} {f : FrM} (h : Mach z B mb (pre ++ [f])) (h6 : f.traps.length = 6) :
    ∃ fb tb ps sp ts cap tcap B2 v2, B = mxB mb fb tb (pre.length + 1) ps sp ts cap tcap f B2 v2 ∧ MachX z mb fb tb pre ps sp ts cap tcap f ∧ PendOwn B2 v2 f := by
  obtain ⟨Bf, Bl, xs, v, rfl, ho, hm⟩ := h
  rcases hm with ⟨h0, _, _⟩ | ⟨pre', f', ps, cs, hs, rfl, h1, ⟨B1, B2, v1, v2, rfl, rfl, ho1, ho2⟩, h3⟩
  · simp at h0
  obtain ⟨rfl, hf⟩ := List.append_inj' hs rfl
  cases hf
  rcases ho.2 with ⟨_, _, h0⟩ | ⟨fb, cap, sp, rfl, rfl, k1, k2, k3⟩
  · simp at h0
  rcases ho1.2 with ⟨_, _, h0⟩ | ⟨tb, tcap, ts, rfl, rfl, l1, l2, l3⟩
  · omega
  have hlen := ho1.1
  refine ⟨fb, tb, ps, sp, ts, cap, tcap, B2, v2, ?_, ⟨h1, ⟨by simpa using k1, k2, ?_⟩, ⟨by omega, l2, ?_⟩, h6, h3⟩, ho2⟩
  · simp only [mxB, h6, List.length_append, List.length_singleton, List.append_assoc, List.cons_append, List.nil_append]
  · rw [← k3]; simp [InM.cells]; omega
  · rw [← l3, List.length_append, hlen, h6]
theorem MachX.mach {z : Z} {mb fb tb : Nat} {pre : StM} {ps sp ts : List Value} {cap tcap : Nat} {f : FrM} {B2 : Bl} {v2 : Value} (h : MachX z mb fb tb pre ps sp ts cap tcap f) (hp : PendOwn B2 v2 f) : Mach z (mxB mb fb tb (pre.length + 1) ps sp ts cap tcap f B2 v2) mb (pre ++ [f]) := by
  have hl := FrsR.len h.fr
  have hfl : (f.traps.flatMap TrM.cells).length = 18 := by rw [flat_len (f := TrM.cells) (n := 3) (fun _ => rfl), h.six]
  refine ⟨[(fb, _)], [(tb, _)] ++ B2, ps ++ (.slice (some ⟨tb, 0, none⟩) 6 tcap :: v2 :: f.info.cells), .slice (some ⟨fb, 0, none⟩) (pre.length + 1) cap, rfl, ⟨by simp [hl]; omega, .inr ⟨fb, cap, sp, by simp, by simp, by simpa using h.cap.1, h.cap.2.1, by simp; have := h.cap.2.2; omega⟩⟩, .inr ⟨pre, f, ps, _, rfl, rfl, h.fr, ⟨[(tb, _)], B2, _, v2, rfl, rfl, ⟨by rw [hfl, h.six], .inr ⟨tb, tcap, ts, rfl, by rw [h.six], by rw [h.six]; exact h.tcap.1, h.tcap.2.1, by rw [List.length_append, hfl]; exact h.tcap.2.2⟩⟩, hp⟩, h.sm⟩⟩
theorem CV_now {w0 w : World} {z0 z : Z} {B0 L : Bl} {C : Obj → Bl} {K : Value → World → Prop} [hS : Res w0 z0 B0 w z L] {mb fb n cap o : Nat} [gb : Blk L mb (.cells [.slice (some ⟨fb, 0, none⟩) (n + 1) cap].toArray 134 (0, 0)) C] (ho : n * 5 = o) (hn : n + 1 ≤ big) (hk : ∀ w', Res w0 z0 B0 w' z L → K (.pointer (some ⟨fb, o, none⟩)) w') :
    CV (.func (.func 67) #[] #[]) #[.pointer (some ⟨mb, 0, none⟩)] w K := CV_enter (args' := #[.pointer (some ⟨mb, 0, none⟩)]) (by simp) (en67 (by
  unfold vc67
  simp only [big] at hn
  haveI : InI (((n + 1 : Nat) : Int) - 1) := ⟨by omega⟩
  haveI : InR (((n + 1 : Nat) : Int) - 1) (n + 1 : Nat) := ⟨by omega, by omega⟩
  (repeat (first | (refine iDr ?_; intro _ _) | refine V_run ?_ | refine PV_run ?_ | refine HV_run ?_ | refine iV_ld1 ?_ | refine iV_ldN ?_ | (refine iV_bx ?_; intro _ _ _ _) | (refine iV_al ?_; intro _ _ _ _) | (refine iV_mm ?_; intro _ _ _ _) | (refine iU_st ?_; intro _ _) | refine iHV_1 ?_ | refine iHV_N ?_ | refine iRI_1 ?_ | refine iRI_N ?_ | refine Cond_t ?_ | refine Cond_f ?_ | refine JB ?_ | (refine JC ?_; intro _ _ _ _) | (refine J1 ?_; intro _ _) | (refine J0 ?_; intro _ _) | (refine J2 ?_; intro _ _) | (refine J3 ?_; intro _ _) | (refine J4 ?_; intro _ _) | refine K1 ?_ | refine K0 ?_ | refine K2 ?_ | refine K3 ?_ | refine K4 ?_ | (refine CV_pu ?_; intro _ _ _ _) | refine fV_ldN ?_ | refine fV_ld1 ?_ | refine fHV_ldN ?_ | refine fHV_ld1 ?_ | refine NilW_some ?_ | refine iCW_1 ?_ | refine iCW_N ?_ | refine Pk_b ?_))
  have : (((n + 1 : Nat) : Int) - 1).toNat * 5 = o := by omega
  rw [this]
  exact hk _ ‹_›))
/-! ### The names -/
def nmB : List ByteArray := [⟨#[69, 82, 82, 79, 82]⟩, ⟨#[70, 65, 73, 76, 85, 82, 69]⟩, ⟨#[72, 65, 76, 84]⟩, ⟨#[78, 79, 86, 65, 76, 85, 69]⟩, ⟨#[78, 79, 84, 82, 69, 65, 68, 89]⟩, ⟨#[83, 89, 78, 84, 65, 88]⟩]
def nameOf (c : Int) : ByteArray := nmB.getD c.toNat ⟨#[]⟩
abbrev nmV : List Value := [.string ⟨#[69, 82, 82, 79, 82]⟩, .string ⟨#[70, 65, 73, 76, 85, 82, 69]⟩, .string ⟨#[72, 65, 76, 84]⟩, .string ⟨#[78, 79, 86, 65, 76, 85, 69]⟩, .string ⟨#[78, 79, 84, 82, 69, 65, 68, 89]⟩, .string ⟨#[83, 89, 78, 84, 65, 88]⟩]
instance {c : Int} [h : InR c 6] : At1 nmV c (.string (nameOf c)) := ⟨h.h0, by
  have h0 := h.h0; have h1 := h.h1
  have : c = 0 ∨ c = 1 ∨ c = 2 ∨ c = 3 ∨ c = 4 ∨ c = 5 := by omega
  rcases this with rfl | rfl | rfl | rfl | rfl | rfl <;> rfl⟩
theorem nameOf_size (c : Int) : (nameOf c).size ≤ big := by
  have : ∀ n : Nat, ((nmB.getD n ⟨#[]⟩).size ≤ 100) := fun n => by
    match n with
    | 0 => decide
    | 1 => decide
    | 2 => decide
    | 3 => decide
    | 4 => decide
    | 5 => decide
    | n + 6 => exact Nat.zero_le _
  have := this c.toNat
  simp only [nameOf, big]
  omega
instance : Pu 72 #[] (.agg nmV.toArray) := ⟨fun z w => Fn1.intro fun hS => en72 (by
  unfold vc72
  (repeat (first | (refine iDr ?_; intro _ _) | refine V_run ?_ | refine PV_run ?_ | refine HV_run ?_ | refine iV_ld1 ?_ | refine iV_ldN ?_ | (refine iV_bx ?_; intro _ _ _ _) | (refine iV_al ?_; intro _ _ _ _) | (refine iV_mm ?_; intro _ _ _ _) | (refine iU_st ?_; intro _ _) | refine iHV_1 ?_ | refine iHV_N ?_ | refine iRI_1 ?_ | refine iRI_N ?_ | refine Cond_t ?_ | refine Cond_f ?_ | refine JB ?_ | (refine JC ?_; intro _ _ _ _) | (refine J1 ?_; intro _ _) | (refine J0 ?_; intro _ _) | (refine J2 ?_; intro _ _) | (refine J3 ?_; intro _ _) | (refine J4 ?_; intro _ _) | refine K1 ?_ | refine K0 ?_ | refine K2 ?_ | refine K3 ?_ | refine K4 ?_ | (refine CV_pu ?_; intro _ _ _ _) | refine fV_ldN ?_ | refine fV_ld1 ?_ | refine fHV_ldN ?_ | refine fHV_ld1 ?_ | refine NilW_some ?_ | refine iCW_1 ?_ | refine iCW_N ?_ | refine Pk_b ?_))
  simp only [List.cons_append, List.nil_append]
  (repeat (first | (refine iDr ?_; intro _ _) | refine V_run ?_ | refine PV_run ?_ | refine HV_run ?_ | refine iV_ld1 ?_ | refine iV_ldN ?_ | (refine iV_bx ?_; intro _ _ _ _) | (refine iV_al ?_; intro _ _ _ _) | (refine iV_mm ?_; intro _ _ _ _) | (refine iU_st ?_; intro _ _) | refine iHV_1 ?_ | refine iHV_N ?_ | refine iRI_1 ?_ | refine iRI_N ?_ | refine Cond_t ?_ | refine Cond_f ?_ | refine JB ?_ | (refine JC ?_; intro _ _ _ _) | (refine J1 ?_; intro _ _) | (refine J0 ?_; intro _ _) | (refine J2 ?_; intro _ _) | (refine J3 ?_; intro _ _) | (refine J4 ?_; intro _ _) | refine K1 ?_ | refine K0 ?_ | refine K2 ?_ | refine K3 ?_ | refine K4 ?_ | (refine CV_pu ?_; intro _ _ _ _) | refine fV_ldN ?_ | refine fV_ld1 ?_ | refine fHV_ldN ?_ | refine fHV_ld1 ?_ | refine NilW_some ?_ | refine iCW_1 ?_ | refine iCW_N ?_ | refine Pk_b ?_))
  exact ⟨_, _, ‹_›, rfl⟩)⟩
/-! ### Setting -/
def setOk (c mode : Int) (text : ByteArray) : Bool := moded c mode && (decide (text = ⟨#[]⟩) || labB text)
def setT (was : TrM) (c mode : Int) (text : ByteArray) : TrM := if mode = 0 then noTrap else ⟨mode, if text = ⟨#[]⟩ then nameOf c else text, decide (mode = 2) && was.delayed⟩
def FrM.tr (f : FrM) (c : Int) : TrM := f.traps.getD c.toNat noTrap
def FrM.put (f : FrM) (c : Int) (t : TrM) : FrM := { f with traps := f.traps.set c.toNat t }
theorem FrM.split {f : FrM} {c : Int} (h6 : f.traps.length = 6) (h0 : 0 ≤ c) (h1 : c < 6) : ∃ tp tq, f.traps = tp ++ f.tr c :: tq ∧ tp.length = c.toNat ∧ ∀ t, (f.put c t).traps = tp ++ t :: tq := by
  have hlt : c.toNat < f.traps.length := by omega
  refine ⟨f.traps.take c.toNat, f.traps.drop (c.toNat + 1), ?_, by rw [List.length_take]; omega, fun t => ?_⟩
  · rw [FrM.tr, List.getD_eq_getElem?_getD, List.getElem?_eq_getElem hlt, Option.getD_some, ← List.drop_eq_getElem_cons hlt, List.take_append_drop]
  · simp only [FrM.put]
    rw [List.set_eq_take_append_cons_drop, if_pos hlt]
theorem setP {z : Z} {w : World} {B : Bl} {mb : Nat} {pre : StM} {f : FrM} {c mode : Int} {text : ByteArray} (hm : Mach z B mb (pre ++ [f])) (h6 : f.traps.length = 6) (h0 : 0 ≤ c) (h1 : c < 6) (hp : pre.length ≤ 100) (ht : text.size ≤ big) :
    Fn 85 #[.pointer (some ⟨mb, 0, none⟩), .int .i64 c, .int .i64 mode, .string text] z B w fun z' B' r => if setOk c mode text then r = .tuple #[noAct.v, .int .i64 0] ∧ Mach z' B' mb (pre ++ [f.put c (setT (f.tr c) c mode text)]) else r = .tuple #[noAct.v, .int .i64 1] := Fn.intro fun hS => en85 (by
  unfold vc85
  obtain ⟨fb, tb, ps, sp, ts, cap, tcap, B2, v2, hB, hx, hpo⟩ := hm.x h6
  obtain ⟨a2, cap2, rfl, hc2⟩ := hpo.form
  obtain ⟨tp, tq, hsp, htl, hput⟩ := FrM.split h6 h0 h1
  haveI : InR c 6 := ⟨h0, h1⟩
  haveI : InR c (6 : Nat) := ⟨h0, by omega⟩
  have hS' : Res w z B w z _ := Eq.subst (motive := fun X => Res w z B w z X) hB hS
  clear hS
  simp only [mxB, hsp, List.flatMap_append, List.flatMap_cons, TrM.cells, List.append_assoc, List.cons_append, List.nil_append] at hS'
  have hoff : c.toNat * 3 = (tp.flatMap TrM.cells).length := by rw [flat_len (f := TrM.cells) (n := 3) (fun _ => rfl), htl]
  have hlen := hx.fr.len
  have fin : ∀ (w' : World) (z' : Z) (t : TrM) (b : Nat) (o : Obj), t.label.size ≤ big → Le z z' → Res w z B w' z' ((b, o) :: (mb, .cells [.slice (some ⟨fb, 0, none⟩) (pre.length + 1) cap].toArray 134 (0, 0)) :: (fb, .cells (ps ++ (.slice (some ⟨tb, 0, none⟩) 6 tcap :: .slice a2 f.pend.length cap2 :: .int .i64 f.info.cond :: .int .i64 f.info.mode :: .string f.info.desc :: sp)).toArray 63 (0, 0)) :: (tb, .cells (tp.flatMap TrM.cells ++ (.int .i64 t.mode :: .string t.label :: .bool t.delayed :: (tq.flatMap TrM.cells ++ ts))).toArray 73 (0, 0)) :: B2) →
      ∃ B', Res w z B w' z' B' ∧ Mach z' B' mb (pre ++ [f.put c t]) := fun w' z' t b o hts hz hR => by
    refine ⟨mxB mb fb tb (pre.length + 1) ps sp ts cap tcap (f.put c t) B2 (.slice a2 f.pend.length cap2), ?_, ?_⟩
    · simp only [mxB, hput, List.flatMap_append, List.flatMap_cons, TrM.cells, List.append_assoc, List.cons_append, List.nil_append]
      exact hR.tl
    · refine MachX.mach ⟨FrsR.mono hz hx.fr, hx.cap, hx.tcap, by rw [hput]; rw [hsp] at h6; simpa using h6, ?_⟩ hpo
      obtain ⟨s1, s2, s3, s4, s5⟩ := hx.sm
      refine ⟨by rw [hput]; rw [hsp] at s1; simpa using s1, s2, fun u hu => ?_, s4, s5⟩
      rw [hput] at hu
      rcases List.mem_append.1 hu with hu | hu
      · exact s3 u (by rw [hsp]; exact List.mem_append_left _ hu)
      · rcases List.mem_cons.1 hu with rfl | hu
        · exact hts
        · exact s3 u (by rw [hsp]; exact List.mem_append_right _ (List.mem_cons_of_mem _ hu))
  generalize tp.flatMap TrM.cells = tps at hS' hoff fin
  generalize f.tr c = was at hS'
  (repeat (first | (refine iDr ?_; intro _ _) | refine V_run ?_ | refine PV_run ?_ | refine HV_run ?_ | refine iV_ld1 ?_ | refine iV_ldN ?_ | (refine iV_bx ?_; intro _ _ _ _) | (refine iV_al ?_; intro _ _ _ _) | (refine iV_mm ?_; intro _ _ _ _) | (refine iU_st ?_; intro _ _) | refine iHV_1 ?_ | refine iHV_N ?_ | refine iRI_1 ?_ | refine iRI_N ?_ | refine Cond_t ?_ | refine Cond_f ?_ | refine JB ?_ | (refine JC ?_; intro _ _ _ _) | (refine J1 ?_; intro _ _) | (refine J0 ?_; intro _ _) | (refine J2 ?_; intro _ _) | (refine J3 ?_; intro _ _) | (refine J4 ?_; intro _ _) | refine K1 ?_ | refine K0 ?_ | refine K2 ?_ | refine K3 ?_ | refine K4 ?_ | (refine CV_pu ?_; intro _ _ _ _) | refine fV_ldN ?_ | refine fV_ld1 ?_ | refine fHV_ldN ?_ | refine fHV_ld1 ?_ | refine NilW_some ?_ | refine iCW_1 ?_ | refine iCW_N ?_ | refine Pk_b ?_))
  have hok : (bif !moded c mode then true else bif !decide (text = ⟨#[]⟩) then !labB text else false) = !setOk c mode text := by
    simp only [setOk]
    cases moded c mode <;> cases decide (text = ⟨#[]⟩) <;> cases labB text <;> rfl
  rw [hok]
  refine Cond_n (fun h => ?_) (fun h => ?_)
  · (repeat (first | (refine iDr ?_; intro _ _) | refine V_run ?_ | refine PV_run ?_ | refine HV_run ?_ | refine iV_ld1 ?_ | refine iV_ldN ?_ | (refine iV_bx ?_; intro _ _ _ _) | (refine iV_al ?_; intro _ _ _ _) | (refine iV_mm ?_; intro _ _ _ _) | (refine iU_st ?_; intro _ _) | refine iHV_1 ?_ | refine iHV_N ?_ | refine iRI_1 ?_ | refine iRI_N ?_ | refine Cond_t ?_ | refine Cond_f ?_ | refine JB ?_ | (refine JC ?_; intro _ _ _ _) | (refine J1 ?_; intro _ _) | (refine J0 ?_; intro _ _) | (refine J2 ?_; intro _ _) | (refine J3 ?_; intro _ _) | (refine J4 ?_; intro _ _) | refine K1 ?_ | refine K0 ?_ | refine K2 ?_ | refine K3 ?_ | refine K4 ?_ | (refine CV_pu ?_; intro _ _ _ _) | refine fV_ldN ?_ | refine fV_ld1 ?_ | refine fHV_ldN ?_ | refine fHV_ld1 ?_ | refine NilW_some ?_ | refine iCW_1 ?_ | refine iCW_N ?_ | refine Pk_b ?_))
    exact ⟨_, _, ‹_›, by rw [h]; rfl⟩
  · refine CV_now (n := pre.length) (o := ps.length) hlen.symm (by simp only [big]; omega) ?_
    intro w9 hS9
    (repeat (first | (refine iDr ?_; intro _ _) | refine V_run ?_ | refine PV_run ?_ | refine HV_run ?_ | refine iV_ld1 ?_ | refine iV_ldN ?_ | (refine iV_bx ?_; intro _ _ _ _) | (refine iV_al ?_; intro _ _ _ _) | (refine iV_mm ?_; intro _ _ _ _) | (refine iU_st ?_; intro _ _) | refine iHV_1 ?_ | refine iHV_N ?_ | refine iRI_1 ?_ | refine iRI_N ?_ | refine Cond_t ?_ | refine Cond_f ?_ | refine JB ?_ | (refine JC ?_; intro _ _ _ _) | (refine J1 ?_; intro _ _) | (refine J0 ?_; intro _ _) | (refine J2 ?_; intro _ _) | (refine J3 ?_; intro _ _) | (refine J4 ?_; intro _ _) | refine K1 ?_ | refine K0 ?_ | refine K2 ?_ | refine K3 ?_ | refine K4 ?_ | (refine CV_pu ?_; intro _ _ _ _) | refine fV_ldN ?_ | refine fV_ld1 ?_ | refine fHV_ldN ?_ | refine fHV_ld1 ?_ | refine NilW_some ?_ | refine iCW_1 ?_ | refine iCW_N ?_ | refine Pk_b ?_))
    rw [hoff]
    refine Cond_d (fun hm0 => ?_) (fun hm0 => ?_)
    · (repeat (first | (refine iDr ?_; intro _ _) | refine V_run ?_ | refine PV_run ?_ | refine HV_run ?_ | refine iV_ld1 ?_ | refine iV_ldN ?_ | (refine iV_bx ?_; intro _ _ _ _) | (refine iV_al ?_; intro _ _ _ _) | (refine iV_mm ?_; intro _ _ _ _) | (refine iU_st ?_; intro _ _) | refine iHV_1 ?_ | refine iHV_N ?_ | refine iRI_1 ?_ | refine iRI_N ?_ | refine Cond_t ?_ | refine Cond_f ?_ | refine JB ?_ | (refine JC ?_; intro _ _ _ _) | (refine J1 ?_; intro _ _) | (refine J0 ?_; intro _ _) | (refine J2 ?_; intro _ _) | (refine J3 ?_; intro _ _) | (refine J4 ?_; intro _ _) | refine K1 ?_ | refine K0 ?_ | refine K2 ?_ | refine K3 ?_ | refine K4 ?_ | (refine CV_pu ?_; intro _ _ _ _) | refine fV_ldN ?_ | refine fV_ld1 ?_ | refine fHV_ldN ?_ | refine fHV_ld1 ?_ | refine NilW_some ?_ | refine iCW_1 ?_ | refine iCW_N ?_ | refine Pk_b ?_))
      rename_i hSe
      obtain ⟨B', hR, hM⟩ := fin _ _ noTrap _ _ (by simp [noTrap, ByteArray.size]) hSe.zle hSe
      exact ⟨_, B', hR, by rw [if_pos h, setT, if_pos hm0]; exact ⟨rfl, hM⟩⟩
    · (repeat (first | (refine iDr ?_; intro _ _) | refine V_run ?_ | refine PV_run ?_ | refine HV_run ?_ | refine iV_ld1 ?_ | refine iV_ldN ?_ | (refine iV_bx ?_; intro _ _ _ _) | (refine iV_al ?_; intro _ _ _ _) | (refine iV_mm ?_; intro _ _ _ _) | (refine iU_st ?_; intro _ _) | refine iHV_1 ?_ | refine iHV_N ?_ | refine iRI_1 ?_ | refine iRI_N ?_ | refine Cond_t ?_ | refine Cond_f ?_ | refine JB ?_ | (refine JC ?_; intro _ _ _ _) | (refine J1 ?_; intro _ _) | (refine J0 ?_; intro _ _) | (refine J2 ?_; intro _ _) | (refine J3 ?_; intro _ _) | (refine J4 ?_; intro _ _) | refine K1 ?_ | refine K0 ?_ | refine K2 ?_ | refine K3 ?_ | refine K4 ?_ | (refine CV_pu ?_; intro _ _ _ _) | refine fV_ldN ?_ | refine fV_ld1 ?_ | refine fHV_ldN ?_ | refine fHV_ld1 ?_ | refine NilW_some ?_ | refine iCW_1 ?_ | refine iCW_N ?_ | refine Pk_b ?_))
      refine Cond_d (fun ht0 => ?_) (fun ht0 => ?_)
      · (repeat (first | (refine iDr ?_; intro _ _) | refine V_run ?_ | refine PV_run ?_ | refine HV_run ?_ | refine iV_ld1 ?_ | refine iV_ldN ?_ | (refine iV_bx ?_; intro _ _ _ _) | (refine iV_al ?_; intro _ _ _ _) | (refine iV_mm ?_; intro _ _ _ _) | (refine iU_st ?_; intro _ _) | refine iHV_1 ?_ | refine iHV_N ?_ | refine iRI_1 ?_ | refine iRI_N ?_ | refine Cond_t ?_ | refine Cond_f ?_ | refine JB ?_ | (refine JC ?_; intro _ _ _ _) | (refine J1 ?_; intro _ _) | (refine J0 ?_; intro _ _) | (refine J2 ?_; intro _ _) | (refine J3 ?_; intro _ _) | (refine J4 ?_; intro _ _) | refine K1 ?_ | refine K0 ?_ | refine K2 ?_ | refine K3 ?_ | refine K4 ?_ | (refine CV_pu ?_; intro _ _ _ _) | refine fV_ldN ?_ | refine fV_ld1 ?_ | refine fHV_ldN ?_ | refine fHV_ld1 ?_ | refine NilW_some ?_ | refine iCW_1 ?_ | refine iCW_N ?_ | refine Pk_b ?_))
        refine Cond_d (fun hm2 => ?_) (fun hm2 => ?_)
        · (repeat (first | (refine iDr ?_; intro _ _) | refine V_run ?_ | refine PV_run ?_ | refine HV_run ?_ | refine iV_ld1 ?_ | refine iV_ldN ?_ | (refine iV_bx ?_; intro _ _ _ _) | (refine iV_al ?_; intro _ _ _ _) | (refine iV_mm ?_; intro _ _ _ _) | (refine iU_st ?_; intro _ _) | refine iHV_1 ?_ | refine iHV_N ?_ | refine iRI_1 ?_ | refine iRI_N ?_ | refine Cond_t ?_ | refine Cond_f ?_ | refine JB ?_ | (refine JC ?_; intro _ _ _ _) | (refine J1 ?_; intro _ _) | (refine J0 ?_; intro _ _) | (refine J2 ?_; intro _ _) | (refine J3 ?_; intro _ _) | (refine J4 ?_; intro _ _) | refine K1 ?_ | refine K0 ?_ | refine K2 ?_ | refine K3 ?_ | refine K4 ?_ | (refine CV_pu ?_; intro _ _ _ _) | refine fV_ldN ?_ | refine fV_ld1 ?_ | refine fHV_ldN ?_ | refine fHV_ld1 ?_ | refine NilW_some ?_ | refine iCW_1 ?_ | refine iCW_N ?_ | refine Pk_b ?_))
          rename_i hSe
          obtain ⟨B', hR, hM⟩ := fin _ _ ⟨mode, nameOf c, was.delayed⟩ _ _ (nameOf_size c) hSe.zle hSe
          exact ⟨_, B', hR, by rw [if_pos h, setT, if_neg hm0, if_pos ht0, decide_eq_true hm2]; exact ⟨rfl, hM⟩⟩
        · (repeat (first | (refine iDr ?_; intro _ _) | refine V_run ?_ | refine PV_run ?_ | refine HV_run ?_ | refine iV_ld1 ?_ | refine iV_ldN ?_ | (refine iV_bx ?_; intro _ _ _ _) | (refine iV_al ?_; intro _ _ _ _) | (refine iV_mm ?_; intro _ _ _ _) | (refine iU_st ?_; intro _ _) | refine iHV_1 ?_ | refine iHV_N ?_ | refine iRI_1 ?_ | refine iRI_N ?_ | refine Cond_t ?_ | refine Cond_f ?_ | refine JB ?_ | (refine JC ?_; intro _ _ _ _) | (refine J1 ?_; intro _ _) | (refine J0 ?_; intro _ _) | (refine J2 ?_; intro _ _) | (refine J3 ?_; intro _ _) | (refine J4 ?_; intro _ _) | refine K1 ?_ | refine K0 ?_ | refine K2 ?_ | refine K3 ?_ | refine K4 ?_ | (refine CV_pu ?_; intro _ _ _ _) | refine fV_ldN ?_ | refine fV_ld1 ?_ | refine fHV_ldN ?_ | refine fHV_ld1 ?_ | refine NilW_some ?_ | refine iCW_1 ?_ | refine iCW_N ?_ | refine Pk_b ?_))
          rename_i hSe
          obtain ⟨B', hR, hM⟩ := fin _ _ ⟨mode, nameOf c, false⟩ _ _ (nameOf_size c) hSe.zle hSe
          exact ⟨_, B', hR, by rw [if_pos h, setT, if_neg hm0, if_pos ht0, decide_eq_false hm2]; exact ⟨rfl, hM⟩⟩
      · (repeat (first | (refine iDr ?_; intro _ _) | refine V_run ?_ | refine PV_run ?_ | refine HV_run ?_ | refine iV_ld1 ?_ | refine iV_ldN ?_ | (refine iV_bx ?_; intro _ _ _ _) | (refine iV_al ?_; intro _ _ _ _) | (refine iV_mm ?_; intro _ _ _ _) | (refine iU_st ?_; intro _ _) | refine iHV_1 ?_ | refine iHV_N ?_ | refine iRI_1 ?_ | refine iRI_N ?_ | refine Cond_t ?_ | refine Cond_f ?_ | refine JB ?_ | (refine JC ?_; intro _ _ _ _) | (refine J1 ?_; intro _ _) | (refine J0 ?_; intro _ _) | (refine J2 ?_; intro _ _) | (refine J3 ?_; intro _ _) | (refine J4 ?_; intro _ _) | refine K1 ?_ | refine K0 ?_ | refine K2 ?_ | refine K3 ?_ | refine K4 ?_ | (refine CV_pu ?_; intro _ _ _ _) | refine fV_ldN ?_ | refine fV_ld1 ?_ | refine fHV_ldN ?_ | refine fHV_ld1 ?_ | refine NilW_some ?_ | refine iCW_1 ?_ | refine iCW_N ?_ | refine Pk_b ?_))
        refine Cond_d (fun hm2 => ?_) (fun hm2 => ?_)
        · (repeat (first | (refine iDr ?_; intro _ _) | refine V_run ?_ | refine PV_run ?_ | refine HV_run ?_ | refine iV_ld1 ?_ | refine iV_ldN ?_ | (refine iV_bx ?_; intro _ _ _ _) | (refine iV_al ?_; intro _ _ _ _) | (refine iV_mm ?_; intro _ _ _ _) | (refine iU_st ?_; intro _ _) | refine iHV_1 ?_ | refine iHV_N ?_ | refine iRI_1 ?_ | refine iRI_N ?_ | refine Cond_t ?_ | refine Cond_f ?_ | refine JB ?_ | (refine JC ?_; intro _ _ _ _) | (refine J1 ?_; intro _ _) | (refine J0 ?_; intro _ _) | (refine J2 ?_; intro _ _) | (refine J3 ?_; intro _ _) | (refine J4 ?_; intro _ _) | refine K1 ?_ | refine K0 ?_ | refine K2 ?_ | refine K3 ?_ | refine K4 ?_ | (refine CV_pu ?_; intro _ _ _ _) | refine fV_ldN ?_ | refine fV_ld1 ?_ | refine fHV_ldN ?_ | refine fHV_ld1 ?_ | refine NilW_some ?_ | refine iCW_1 ?_ | refine iCW_N ?_ | refine Pk_b ?_))
          rename_i hSe
          obtain ⟨B', hR, hM⟩ := fin _ _ ⟨mode, text, was.delayed⟩ _ _ ht hSe.zle hSe
          exact ⟨_, B', hR, by rw [if_pos h, setT, if_neg hm0, if_neg ht0, decide_eq_true hm2]; exact ⟨rfl, hM⟩⟩
        · (repeat (first | (refine iDr ?_; intro _ _) | refine V_run ?_ | refine PV_run ?_ | refine HV_run ?_ | refine iV_ld1 ?_ | refine iV_ldN ?_ | (refine iV_bx ?_; intro _ _ _ _) | (refine iV_al ?_; intro _ _ _ _) | (refine iV_mm ?_; intro _ _ _ _) | (refine iU_st ?_; intro _ _) | refine iHV_1 ?_ | refine iHV_N ?_ | refine iRI_1 ?_ | refine iRI_N ?_ | refine Cond_t ?_ | refine Cond_f ?_ | refine JB ?_ | (refine JC ?_; intro _ _ _ _) | (refine J1 ?_; intro _ _) | (refine J0 ?_; intro _ _) | (refine J2 ?_; intro _ _) | (refine J3 ?_; intro _ _) | (refine J4 ?_; intro _ _) | refine K1 ?_ | refine K0 ?_ | refine K2 ?_ | refine K3 ?_ | refine K4 ?_ | (refine CV_pu ?_; intro _ _ _ _) | refine fV_ldN ?_ | refine fV_ld1 ?_ | refine fHV_ldN ?_ | refine fHV_ld1 ?_ | refine NilW_some ?_ | refine iCW_1 ?_ | refine iCW_N ?_ | refine Pk_b ?_))
          rename_i hSe
          obtain ⟨B', hR, hM⟩ := fin _ _ ⟨mode, text, false⟩ _ _ ht hSe.zle hSe
          exact ⟨_, B', hR, by rw [if_pos h, setT, if_neg hm0, if_neg ht0, decide_eq_false hm2]; exact ⟨rfl, hM⟩⟩)
end Go.Proofs.Ytjnckainogpenaa
