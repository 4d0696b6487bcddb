/- Machines at work: signalling, raising. -/
import Derived.Test.YtjnckainogpenaaT12
set_option linter.unusedVariables false
set_option maxRecDepth 20000
set_option synthInstance.maxHeartbeats 400000
set_option synthInstance.maxSize 4000
namespace Go.Proofs.Ytjnckainogpenaa
open Go Q Go.RowKit

def sigF (f : FrM) (c : Int) (desc : ByteArray) : FrM := { traps := f.traps.set c.toNat noTrap, pend := [], info := ⟨c, 1, desc⟩ }
def sigA (f : FrM) (c : Int) (desc : ByteArray) : AcM := ⟨1, (f.tr c).label, c, desc⟩
theorem signalP {z : Z} {w : World} {B : Bl} {mb fb tb cap tcap : Nat} {pre : StM} {ps sp ts : List Value} {f : FrM} {B2 : Bl} {v2 : Value} [One v2] {c : Int} {desc : ByteArray} (hB : B = mxB mb fb tb (pre.length + 1) ps sp ts cap tcap f B2 v2) (hx : MachX z mb fb tb pre ps sp ts cap tcap f) (h0 : 0 ≤ c) (h1 : c < 6) (hp : pre.length ≤ 100) (hd : desc.size ≤ big) :
    Fn 101 #[.pointer (some ⟨mb, 0, none⟩), .int .i64 c, .string desc] z B w fun z' B' r => r = (sigA f c desc).v ∧ Mach z' B' mb (pre ++ [sigF f c desc]) := Fn.intro fun hS => en101 (by
  unfold vc101
  have h6 := hx.six
  obtain ⟨tp, tq, hsp, htl, hput⟩ := FrM.split h6 h0 h1
  haveI : InR c (6 : Nat) := ⟨h0, by omega⟩
  have hS' : Res w z B w z _ := Eq.subst (motive := fun X => Res w z B w z X) hB hS
  clear hS
  simp only [mxB, hsp, List.flatMap_append, List.flatMap_cons, TrM.cells, List.append_assoc, List.cons_append, List.nil_append] at hS'
  have hoff : c.toNat * 3 = (tp.flatMap TrM.cells).length := by rw [flat_len (f := TrM.cells) (n := 3) (fun _ => rfl), htl]
  have hlen := hx.fr.len
  have hset : (sigF f c desc).traps = tp ++ noTrap :: tq := hput noTrap
  have fin : ∀ (w' : World) (z' : Z) (b b' : Nat) (o o' : Obj), Le z z' → Res w z B w' z' ((b, o) :: (b', o') :: (mb, .cells [.slice (some ⟨fb, 0, none⟩) (pre.length + 1) cap].toArray 134 (0, 0)) :: (fb, .cells (ps ++ (.slice (some ⟨tb, 0, none⟩) 6 tcap :: .slice none 0 0 :: .int .i64 c :: .int .i64 1 :: .string desc :: sp)).toArray 63 (0, 0)) :: (tb, .cells (tp.flatMap TrM.cells ++ (.int .i64 0 :: .string ⟨#[]⟩ :: .bool false :: (tq.flatMap TrM.cells ++ ts))).toArray 73 (0, 0)) :: B2) →
      ∃ B', Res w z B w' z' B' ∧ Mach z' B' mb (pre ++ [sigF f c desc]) := fun w' z' b b' o o' hz hR => by
    refine ⟨mxB mb fb tb (pre.length + 1) ps sp ts cap tcap (sigF f c desc) [] (.slice none 0 0), ?_, ?_⟩
    · simp only [mxB, hset, List.flatMap_append, List.flatMap_cons, TrM.cells, List.append_assoc, List.cons_append, List.nil_append]
      exact hR.tl.tl.sublist (((List.nil_sublist B2).cons_cons _).cons_cons _ |>.cons_cons _)
    · refine MachX.mach ⟨FrsR.mono hz hx.fr, hx.cap, hx.tcap, by rw [hset]; rw [hsp] at h6; simpa using h6, ?_⟩ OwnSl.nil
      obtain ⟨s1, s2, s3, s4, s5⟩ := hx.sm
      refine ⟨by rw [hset]; rw [hsp] at s1; simpa using s1, by simp [sigF], fun u hu => ?_, fun u hu => by simp [sigF] at hu, hd⟩
      rw [hset] at hu
      rcases List.mem_append.1 hu with hu | hu
      · exact s3 u (by rw [hsp]; exact List.mem_append_left _ hu)
      · rcases List.mem_cons.1 hu with rfl | hu
        · simp [noTrap, ByteArray.size]
        · exact s3 u (by rw [hsp]; exact List.mem_append_right _ (List.mem_cons_of_mem _ hu))
  generalize tp.flatMap TrM.cells = tps at hS' hoff fin
  have hlab : (sigA f c desc).v = .agg [.int .i64 1, .string (f.tr c).label, .int .i64 c, .string desc].toArray := rfl
  rw [hlab]
  generalize f.tr c = was at hS'
  (repeat (first | (refine iDr ?_; intro _ _) | refine V_run ?_ | refine PV_run ?_ | refine HV_run ?_ | refine iV_ld1 ?_ | refine iV_ldN ?_ | (refine iV_bx ?_; intro _ _ _ _) | (refine iV_al ?_; intro _ _ _ _) | (refine iV_mm ?_; intro _ _ _ _) | (refine iU_st ?_; intro _ _) | refine iHV_1 ?_ | refine iHV_N ?_ | refine iRI_1 ?_ | refine iRI_N ?_ | refine Cond_t ?_ | refine Cond_f ?_ | refine JB ?_ | (refine JC ?_; intro _ _ _ _) | (refine J1 ?_; intro _ _) | (refine J0 ?_; intro _ _) | (refine J2 ?_; intro _ _) | (refine J3 ?_; intro _ _) | (refine J4 ?_; intro _ _) | refine K1 ?_ | refine K0 ?_ | refine K2 ?_ | refine K3 ?_ | refine K4 ?_ | (refine CV_pu ?_; intro _ _ _ _) | refine fV_ldN ?_ | refine fV_ld1 ?_ | refine fHV_ldN ?_ | refine fHV_ld1 ?_ | refine NilW_some ?_ | refine iCW_1 ?_ | refine iCW_N ?_ | refine Pk_b ?_))
  refine CV_now (n := pre.length) (o := ps.length) hlen.symm (by simp only [big]; omega) ?_
  intro w9 hS9
  (repeat (first | (refine iDr ?_; intro _ _) | refine V_run ?_ | refine PV_run ?_ | refine HV_run ?_ | refine iV_ld1 ?_ | refine iV_ldN ?_ | (refine iV_bx ?_; intro _ _ _ _) | (refine iV_al ?_; intro _ _ _ _) | (refine iV_mm ?_; intro _ _ _ _) | (refine iU_st ?_; intro _ _) | refine iHV_1 ?_ | refine iHV_N ?_ | refine iRI_1 ?_ | refine iRI_N ?_ | refine Cond_t ?_ | refine Cond_f ?_ | refine JB ?_ | (refine JC ?_; intro _ _ _ _) | (refine J1 ?_; intro _ _) | (refine J0 ?_; intro _ _) | (refine J2 ?_; intro _ _) | (refine J3 ?_; intro _ _) | (refine J4 ?_; intro _ _) | refine K1 ?_ | refine K0 ?_ | refine K2 ?_ | refine K3 ?_ | refine K4 ?_ | (refine CV_pu ?_; intro _ _ _ _) | refine fV_ldN ?_ | refine fV_ld1 ?_ | refine fHV_ldN ?_ | refine fHV_ld1 ?_ | refine NilW_some ?_ | refine iCW_1 ?_ | refine iCW_N ?_ | refine Pk_b ?_))
  rw [hoff]
  (repeat (first | (refine iDr ?_; intro _ _) | refine V_run ?_ | refine PV_run ?_ | refine HV_run ?_ | refine iV_ld1 ?_ | refine iV_ldN ?_ | (refine iV_bx ?_; intro _ _ _ _) | (refine iV_al ?_; intro _ _ _ _) | (refine iV_mm ?_; intro _ _ _ _) | (refine iU_st ?_; intro _ _) | refine iHV_1 ?_ | refine iHV_N ?_ | refine iRI_1 ?_ | refine iRI_N ?_ | refine Cond_t ?_ | refine Cond_f ?_ | refine JB ?_ | (refine JC ?_; intro _ _ _ _) | (refine J1 ?_; intro _ _) | (refine J0 ?_; intro _ _) | (refine J2 ?_; intro _ _) | (refine J3 ?_; intro _ _) | (refine J4 ?_; intro _ _) | refine K1 ?_ | refine K0 ?_ | refine K2 ?_ | refine K3 ?_ | refine K4 ?_ | (refine CV_pu ?_; intro _ _ _ _) | refine fV_ldN ?_ | refine fV_ld1 ?_ | refine fHV_ldN ?_ | refine fHV_ld1 ?_ | refine NilW_some ?_ | refine iCW_1 ?_ | refine iCW_N ?_ | refine Pk_b ?_))
  rw [hoff]
  (repeat (first | (refine iDr ?_; intro _ _) | refine V_run ?_ | refine PV_run ?_ | refine HV_run ?_ | refine iV_ld1 ?_ | refine iV_ldN ?_ | (refine iV_bx ?_; intro _ _ _ _) | (refine iV_al ?_; intro _ _ _ _) | (refine iV_mm ?_; intro _ _ _ _) | (refine iU_st ?_; intro _ _) | refine iHV_1 ?_ | refine iHV_N ?_ | refine iRI_1 ?_ | refine iRI_N ?_ | refine Cond_t ?_ | refine Cond_f ?_ | refine JB ?_ | (refine JC ?_; intro _ _ _ _) | (refine J1 ?_; intro _ _) | (refine J0 ?_; intro _ _) | (refine J2 ?_; intro _ _) | (refine J3 ?_; intro _ _) | (refine J4 ?_; intro _ _) | refine K1 ?_ | refine K0 ?_ | refine K2 ?_ | refine K3 ?_ | refine K4 ?_ | (refine CV_pu ?_; intro _ _ _ _) | refine fV_ldN ?_ | refine fV_ld1 ?_ | refine fHV_ldN ?_ | refine fHV_ld1 ?_ | refine NilW_some ?_ | refine iCW_1 ?_ | refine iCW_N ?_ | refine Pk_b ?_))
  rename_i hSe
  obtain ⟨B', hR, hM⟩ := fin _ _ _ _ _ _ hSe.zle hSe
  exact ⟨_, B', hR, rfl, hM⟩)
end Go.Proofs.Ytjnckainogpenaa
