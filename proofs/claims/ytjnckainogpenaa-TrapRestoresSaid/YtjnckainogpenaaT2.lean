/- Searches in strings: IndexByte, IndexRune at an ASCII string, IndexFunc where the function takes whatever is beyond ASCII. -/
import Derived.Test.YtjnckainogpenaaVC
import Derived.Test.YtjnckainogpenaaTy
import Derived.Test.YtjnckainogpenaaQ14
import Derived.Lib.Bytealg
set_option linter.unusedVariables false
set_option maxRecDepth 20000
namespace Go.Proofs.Ytjnckainogpenaa
open Go Q Go.RowKit

abbrev bytes (s : ByteArray) : List UInt8 := s.data.toList
theorem size_bytes (s : ByteArray) : s.size = (bytes s).length := by simp
theorem indexByte_fidx (l : List UInt8) (c : UInt8) : Lib.indexByte l c = fidx (· == c) l := by
  induction l with
  | nil => rfl
  | cons b l ih =>
    unfold Lib.indexByte
    rw [ih]
    unfold fidx
    rw [List.findIdx?_cons]
    cases hb : b == c with
    | true => simp
    | false =>
      cases h : l.findIdx? (· == c) with
      | none => simp
      | some i =>
        simp
instance {s : ByteArray} {c : Int} : Pu 124 #[.string s, .int .u8 c] (.int .i64 (fidx (· == c.toNat.toUInt8) (bytes s))) := ⟨fun z w => Fn1.intro fun hS => en124 (by
  unfold vc124
  refine CV_x (Lib.run_indexByteString s c w) ?_
  exact ⟨z, [], hS, by rw [indexByte_fidx]⟩)⟩
instance {s : ByteArray} {c : Int} : Pu 120 #[.string s, .int .u8 c] (.int .i64 (fidx (· == c.toNat.toUInt8) (bytes s))) := ⟨fun z w => Fn1.intro fun hS => en120 (by
  unfold vc120
  (repeat (first | (refine iDr ?_; intro _ _) | refine V_run ?_ | refine PV_run ?_ | refine HV_run ?_ | refine iV_ld1 ?_ | refine iV_ldN ?_ | (refine iV_bx ?_; intro _ _ _ _) | (refine iV_al ?_; intro _ _ _ _) | (refine iV_mm ?_; intro _ _ _ _) | (refine iU_st ?_; intro _ _) | refine iHV_1 ?_ | refine iHV_N ?_ | refine iRI_1 ?_ | refine iRI_N ?_ | refine Cond_t ?_ | refine Cond_f ?_ | refine JB ?_ | (refine JC ?_; intro _ _ _ _) | (refine J1 ?_; intro _ _) | (refine J0 ?_; intro _ _) | (refine J2 ?_; intro _ _) | (refine J3 ?_; intro _ _) | (refine J4 ?_; intro _ _) | refine K1 ?_ | refine K0 ?_ | refine K2 ?_ | refine K3 ?_ | refine K4 ?_ | (refine CV_pu ?_; intro _ _ _ _) | refine fV_ldN ?_ | refine fV_ld1 ?_ | refine fHV_ldN ?_ | refine fHV_ld1 ?_ | refine NilW_some ?_ | refine iCW_1 ?_ | refine iCW_N ?_ | refine Pk_b ?_))
  exact ⟨_, _, ‹_›, rfl⟩)⟩
def runeOk (r : Int) : Bool := (decide (0 ≤ r) && decide (r < 55296)) || (decide (57343 < r) && decide (r ≤ 1114111))
instance {r : Int} : Pu 121 #[.int .i32 r] (.bool (runeOk r)) := ⟨fun z w => Fn1.intro fun hS => en121 (by
  unfold vc121
  (repeat (first | (refine iDr ?_; intro _ _) | refine V_run ?_ | refine PV_run ?_ | refine HV_run ?_ | refine iV_ld1 ?_ | refine iV_ldN ?_ | (refine iV_bx ?_; intro _ _ _ _) | (refine iV_al ?_; intro _ _ _ _) | (refine iV_mm ?_; intro _ _ _ _) | (refine iU_st ?_; intro _ _) | refine iHV_1 ?_ | refine iHV_N ?_ | refine iRI_1 ?_ | refine iRI_N ?_ | refine Cond_t ?_ | refine Cond_f ?_ | refine JB ?_ | (refine JC ?_; intro _ _ _ _) | (refine J1 ?_; intro _ _) | (refine J0 ?_; intro _ _) | (refine J2 ?_; intro _ _) | (refine J3 ?_; intro _ _) | (refine J4 ?_; intro _ _) | refine K1 ?_ | refine K0 ?_ | refine K2 ?_ | refine K3 ?_ | refine K4 ?_ | (refine CV_pu ?_; intro _ _ _ _) | refine fV_ldN ?_ | refine fV_ld1 ?_ | refine fHV_ldN ?_ | refine fHV_ld1 ?_ | refine NilW_some ?_ | refine iCW_1 ?_ | refine iCW_N ?_ | refine Pk_b ?_))
  refine Cond_b (fun h => ?_) (fun h => ?_)
  · exact ⟨_, _, ‹_›, by simp at h; simp [runeOk, h]⟩
  · (repeat (first | (refine iDr ?_; intro _ _) | refine V_run ?_ | refine PV_run ?_ | refine HV_run ?_ | refine iV_ld1 ?_ | refine iV_ldN ?_ | (refine iV_bx ?_; intro _ _ _ _) | (refine iV_al ?_; intro _ _ _ _) | (refine iV_mm ?_; intro _ _ _ _) | (refine iU_st ?_; intro _ _) | refine iHV_1 ?_ | refine iHV_N ?_ | refine iRI_1 ?_ | refine iRI_N ?_ | refine Cond_t ?_ | refine Cond_f ?_ | refine JB ?_ | (refine JC ?_; intro _ _ _ _) | (refine J1 ?_; intro _ _) | (refine J0 ?_; intro _ _) | (refine J2 ?_; intro _ _) | (refine J3 ?_; intro _ _) | (refine J4 ?_; intro _ _) | refine K1 ?_ | refine K0 ?_ | refine K2 ?_ | refine K3 ?_ | refine K4 ?_ | (refine CV_pu ?_; intro _ _ _ _) | refine fV_ldN ?_ | refine fV_ld1 ?_ | refine fHV_ldN ?_ | refine fHV_ld1 ?_ | refine NilW_some ?_ | refine iCW_1 ?_ | refine iCW_N ?_ | refine Pk_b ?_))
    refine Cond_b (fun h' => ?_) (fun h' => ?_)
    · exact ⟨_, _, ‹_›, by simp at h'; simp [runeOk, h']⟩
    · refine ⟨_, _, ‹_›, ?_⟩
      simp at h h'
      simp only [runeOk]
      congr 1
      simp
      omega)⟩
end Go.Proofs.Ytjnckainogpenaa
