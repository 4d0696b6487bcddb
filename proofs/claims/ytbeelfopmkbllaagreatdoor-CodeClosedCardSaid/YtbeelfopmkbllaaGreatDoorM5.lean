/- Texts joined: C35, C36, C37, C38, C39, C40, C41, C42, C43, C45, C46, C47, K1, K2. -/
import Derived.Test.YtbeelfopmkbllaaGreatDoorM4
import Derived.Shelf.Strconv.Itoa3
import Derived.Shelf.LaysM
import Derived.Lib.ItoaLen
import Derived.Test.YtbeelfopmkbllaaGreatDoorRows
import Derived.WalkKit
import Derived.ProofKit
import Derived.OpenShut
import Derived.Carry
import Derived.Deep.Slices
import Derived.ChangeMaps5
import Derived.LaidMore
import Derived.Lay
set_option linter.unusedSimpArgs false
set_option linter.unusedVariables false
set_option linter.unusedSectionVars false
section
/- The writer: whole numbers, strings. -/
set_option linter.unusedVariables false
set_option linter.unusedSimpArgs false
set_option maxRecDepth 20000
set_option synthInstance.maxHeartbeats 4000000
set_option synthInstance.maxSize 20000
set_option maxHeartbeats 1000000
namespace Go.Proofs.YtbeelfopmkbllaaGreatDoor
open Go Q Go.RowKit

def grp : Nat → Nat → List UInt8
  | 0, m => [UInt8.ofNat m]
  | f + 1, m => if 128 ≤ m then UInt8.ofNat (m % 128 + 128) :: grp f (m / 128) else [UInt8.ofNat m]
theorem grp_len : ∀ {f m : Nat}, (grp f m).length ≤ f + 1
  | 0, _ => by simp [grp]
  | f + 1, m => by unfold grp; split <;> simp; exact grp_len
def zig (n : Int) : Nat := if n < 0 then (-2 * n - 1).toNat else (2 * n).toNat
/-- The bytes of a whole number. -/
def numM (n : Int) : List UInt8 := grp 9 (zig n)
theorem numM_len {n : Int} : (numM n).length ≤ 10 := grp_len
class Mid (n : Int) : Prop where
  h : -4000000000000000000 ≤ n ∧ n < 4000000000000000000
/-- A writer that has written these bytes. -/
def WrOk (bw : Nat) (B : Bl) (ys : List UInt8) : Prop := ∃ v Bv, B = (bw, .cells [v].toArray 156 (0, 0)) :: Bv ∧ OwnSl 5 1 Bv v ys.length (Lib.byteCells ys)
abbrev lots : Nat := 10000000000000
theorem or128 : ∀ r : Fin 128, bits .or .i64 ((r : Nat) : Int) 128 = ((r : Nat) : Int) + 128 := by decide +kernel
theorem or_ok {t : Nat} {a b : Int} (w : World) : (bi .or t (.int .i64 a) (.int .i64 b)).run Tryz.prog w = .ok (.int .i64 (bits .or .i64 a b)) w := rfl
instance {t : Nat} {m : Int} : Run (bi .or t (.int .i64 (m % 128)) (.int .i64 128)) (.int .i64 (m % 128 + 128)) := ⟨fun w => by
  have h0 : 0 ≤ m % 128 := Int.emod_nonneg _ (by decide)
  have h1 : m % 128 < 128 := Int.emod_lt_of_pos _ (by decide)
  have h := or128 ⟨(m % 128).toNat, by omega⟩
  simp only at h
  rw [Int.toNat_of_nonneg h0] at h
  rw [or_ok, h]⟩
theorem u8_wrap {n : Nat} (h : n < 256) : IntKind.u8.wrap (n : Int) = ((UInt8.ofNat n).toNat : Int) := by
  have h1 : (UInt8.ofNat n).toNat = n := by simp [Nat.mod_eq_of_lt h]
  rw [h1]
  have : IntKind.u8.wrap (n : Int) = (n : Int) % 256 := rfl
  rw [this]; omega
theorem ints_of {z : Z} {w : World} {bw : Nat} {B : Bl} {ys : List UInt8} {v : Value} {l : List Int} (hB : WrOk bw B ys) (hv : SlR El.int z v l) (hm : ∀ n ∈ l, Mid n) (hb : (ys ++ l.flatMap numM).length ≤ lots) :
    Fn 175 #[.pointer (some ⟨bw, 0, none⟩), v] z B w fun z' B' r => r = .tuple #[] ∧ WrOk bw B' (ys ++ l.flatMap numM) := Fn.intro fun hS => en175 (by
  unfold vc175
  have hbig := hv.big
  simp only [big] at hbig
  obtain ⟨_, a, cap, rfl, _, hel⟩ := hv.form
  (repeat (first | (refine iDr ?_; intro _ _) | refine V_run ?_ | refine PV_run ?_ | refine HV_run ?_ | refine iV_ld1 ?_ | refine iV_ldN ?_ | (refine iV_bx ?_; intro _ _ _ _) | (refine iV_al ?_; intro _ _ _ _) | (refine iV_mm ?_; intro _ _ _ _) | (refine iU_st ?_; intro _ _) | refine iHV_1 ?_ | refine iHV_N ?_ | refine iRI_1 ?_ | refine iRI_N ?_ | refine Cond_t ?_ | refine Cond_f ?_ | refine JB ?_ | (refine JC ?_; intro _ _ _ _) | (refine JGB ?_; intro _ _ _ _) | (refine J1 ?_; intro _ _) | (refine J0 ?_; intro _ _) | (refine J2 ?_; intro _ _) | (refine J3 ?_; intro _ _) | (refine J4 ?_; intro _ _) | refine K1 ?_ | refine K0 ?_ | refine K2 ?_ | refine K3 ?_ | refine K4 ?_ | (refine CV_pu ?_; intro _ _ _ _) | (refine CV_puz ?_; intro _ _ _ _) | refine fRI_1 ?_ | refine fRI_N ?_ | refine gHV_lkI ?_ | refine gRI_lkI ?_ | refine gV_lkI ?_ | refine fV_ldN ?_ | refine fV_ld1 ?_ | refine fHV_ldN ?_ | refine fHV_ld1 ?_ | refine NilW_some ?_ | refine iCW_1 ?_ | refine iCW_N ?_ | refine Pk_b ?_))
  refine LoopG1 (fun (p : Nat × List UInt8) x w' => x = .int .i64 p.1 ∧ p.1 ≤ l.length ∧ ys ++ l.flatMap numM = p.2 ++ (l.drop p.1).flatMap numM ∧ ∃ B' z', Le z z' ∧ WrOk bw B' p.2 ∧ Res w z B w' z' B') (fun p => l.length - p.1) (0, ys) ⟨rfl, by simp, rfl, B, z, Le.refl _, hB, hS⟩ ?_
  rintro I M ⟨k, us⟩ x w1 m ⟨rfl, hk, hys, B1, z1, hz1, hB1, hS1⟩ back
  simp only at hk hys hB1
  dsimp only
  (repeat (first | (refine iDr ?_; intro _ _) | refine V_run ?_ | refine PV_run ?_ | refine HV_run ?_ | refine iV_ld1 ?_ | refine iV_ldN ?_ | (refine iV_bx ?_; intro _ _ _ _) | (refine iV_al ?_; intro _ _ _ _) | (refine iV_mm ?_; intro _ _ _ _) | (refine iU_st ?_; intro _ _) | refine iHV_1 ?_ | refine iHV_N ?_ | refine iRI_1 ?_ | refine iRI_N ?_ | refine Cond_t ?_ | refine Cond_f ?_ | refine JB ?_ | (refine JC ?_; intro _ _ _ _) | (refine JGB ?_; intro _ _ _ _) | (refine J1 ?_; intro _ _) | (refine J0 ?_; intro _ _) | (refine J2 ?_; intro _ _) | (refine J3 ?_; intro _ _) | (refine J4 ?_; intro _ _) | refine K1 ?_ | refine K0 ?_ | refine K2 ?_ | refine K3 ?_ | refine K4 ?_ | (refine CV_pu ?_; intro _ _ _ _) | (refine CV_puz ?_; intro _ _ _ _) | refine fRI_1 ?_ | refine fRI_N ?_ | refine gHV_lkI ?_ | refine gRI_lkI ?_ | refine gV_lkI ?_ | refine fV_ldN ?_ | refine fV_ld1 ?_ | refine fHV_ldN ?_ | refine fHV_ld1 ?_ | refine NilW_some ?_ | refine iCW_1 ?_ | refine iCW_N ?_ | refine Pk_b ?_))
  refine Cond_d (fun h => ?_) (fun h => ?_)
  · have hlt : k < l.length := by omega
    haveI : InR (k : Int) (l.length : Nat) := ⟨by omega, by omega⟩
    haveI : InI ((k : Int) + 1) := ⟨by omega⟩
    obtain ⟨b, off, cs, rfl, rfl, hat⟩ := hel _ _ (List.getElem?_eq_getElem hlt)
    have hmid := (hm _ (List.getElem_mem hlt)).h
    rw [List.drop_eq_getElem_cons hlt, List.flatMap_cons] at hys
    generalize hn : l[k] = n at *
    haveI : Fz z b (off + (k : Int).toNat * 1) [.int .i64 n] := ⟨hat⟩
    haveI : InI (2 * n) := ⟨by omega⟩
    have hn2 : (-2 : Int) * n = -(2 * n) := by rw [Int.neg_mul]
    haveI : InI (-2 * n) := ⟨by rw [hn2]; omega⟩
    haveI : InI (-2 * n - 1) := ⟨by rw [hn2]; omega⟩
    (repeat (first | (refine iDr ?_; intro _ _) | refine V_run ?_ | refine PV_run ?_ | refine HV_run ?_ | refine iV_ld1 ?_ | refine iV_ldN ?_ | (refine iV_bx ?_; intro _ _ _ _) | (refine iV_al ?_; intro _ _ _ _) | (refine iV_mm ?_; intro _ _ _ _) | (refine iU_st ?_; intro _ _) | refine iHV_1 ?_ | refine iHV_N ?_ | refine iRI_1 ?_ | refine iRI_N ?_ | refine Cond_t ?_ | refine Cond_f ?_ | refine JB ?_ | (refine JC ?_; intro _ _ _ _) | (refine JGB ?_; intro _ _ _ _) | refine K1 ?_ | refine K0 ?_ | refine K2 ?_ | refine K3 ?_ | refine K4 ?_ | (refine CV_pu ?_; intro _ _ _ _) | (refine CV_puz ?_; intro _ _ _ _) | refine fRI_1 ?_ | refine fRI_N ?_ | refine gHV_lkI ?_ | refine gRI_lkI ?_ | refine gV_lkI ?_ | refine fV_ldN ?_ | refine fV_ld1 ?_ | refine fHV_ldN ?_ | refine fHV_ld1 ?_ | refine NilW_some ?_ | refine iCW_1 ?_ | refine iCW_N ?_ | refine Pk_b ?_))
    refine JGIe (y := (zig n : Int)) ?_ ?_
    · unfold zig
      by_cases e : n < 0
      · simp only [e, decide_true, cond_true, if_true]; omega
      · simp only [e, decide_false, cond_false, if_false]; omega
    intro z2 w2 hz2 hS2
    clear hS1
    refine LoopG1 (fun (p : Nat × Nat × List UInt8) x w' => x = .int .i64 (p.2.1 : Int) ∧ p.2.1 < 128 ^ (p.1 + 1) ∧ p.1 ≤ 9 ∧ ys ++ l.flatMap numM = p.2.2 ++ (grp p.1 p.2.1 ++ (l.drop (k + 1)).flatMap numM) ∧ ∃ B' z', Le z1 z' ∧ WrOk bw B' p.2.2 ∧ Res w z B w' z' B') (fun p => p.1) (9, zig n, us) ⟨rfl, ?_, Nat.le_refl _, ?_, B1, z2, hz2, hB1, hS2⟩ ?_
    · show zig n < 128 ^ 10
      rw [show (128 : Nat) ^ 10 = 1180591620717411303424 by decide]
      unfold zig; split <;> omega
    · rw [hys]; rfl
    rintro I1 M1 ⟨f, mm_, us3⟩ x w3 m1 ⟨rfl, hmm, hf9, hys3, B3, z3, hz3, hB3, hS3⟩ back1
    simp only at hmm hys3 hB3 hf9
    dsimp only
    clear hS2
    obtain ⟨v3, Bv, rfl, ho⟩ := hB3
    obtain ⟨a3, c3, rfl, _⟩ := ho.form
    have hlen3 : us3.length + 1 ≤ lots := by
      have h1 : 1 ≤ (grp f mm_).length := by unfold grp; split <;> (try split) <;> simp
      have h2 := congrArg List.length hys3
      have h3 : (us3 ++ (grp f mm_ ++ (l.drop (k + 1)).flatMap numM)).length = us3.length + ((grp f mm_).length + ((l.drop (k + 1)).flatMap numM).length) := by rw [List.length_append, List.length_append]
      rw [h3] at h2
      omega
    simp only [lots] at hlen3
    refine V_run ?_
    refine Cond_d (fun h4 => ?_) (fun h4 => ?_)
    · have hff : f = (f - 1) + 1 := by
        rcases Nat.eq_zero_or_pos f with rfl | hp
        · simp at hmm; omega
        · omega
      (repeat (first | (refine iDr ?_; intro _ _) | refine V_run ?_ | refine PV_run ?_ | refine HV_run ?_ | refine iV_ld1 ?_ | refine iV_ldN ?_ | (refine iV_bx ?_; intro _ _ _ _) | (refine iV_al ?_; intro _ _ _ _) | (refine iV_mm ?_; intro _ _ _ _) | (refine iU_st ?_; intro _ _) | refine iHV_1 ?_ | refine iHV_N ?_ | refine iRI_1 ?_ | refine iRI_N ?_ | refine Cond_t ?_ | refine Cond_f ?_ | refine JB ?_ | (refine JC ?_; intro _ _ _ _) | (refine JGB ?_; intro _ _ _ _) | (refine J1 ?_; intro _ _) | (refine J0 ?_; intro _ _) | (refine J2 ?_; intro _ _) | (refine J3 ?_; intro _ _) | (refine J4 ?_; intro _ _) | refine K1 ?_ | refine K0 ?_ | refine K2 ?_ | refine K3 ?_ | refine K4 ?_ | (refine CV_pu ?_; intro _ _ _ _) | (refine CV_puz ?_; intro _ _ _ _) | refine fRI_1 ?_ | refine fRI_N ?_ | refine gHV_lkI ?_ | refine gRI_lkI ?_ | refine gV_lkI ?_ | refine fV_ldN ?_ | refine fV_ld1 ?_ | refine fHV_ldN ?_ | refine fHV_ld1 ?_ | refine NilW_some ?_ | refine iCW_1 ?_ | refine iCW_N ?_ | refine Pk_b ?_))
      have hcv : IntKind.u8.wrap ((mm_ : Int) % 128 + 128) = ((UInt8.ofNat (mm_ % 128 + 128)).toNat : Int) := by
        rw [show (mm_ : Int) % 128 + 128 = ((mm_ % 128 + 128 : Nat) : Int) by omega]
        exact u8_wrap (by omega)
      rw [hcv]
      refine V_push hS3 ho (by simp only [room]; omega) (by simp only [room]; omega) (by decide) ?_
      intro B5 v5 w5 ho5 hS5
      obtain ⟨a5, c5, rfl, _⟩ := ho5.form
      clear hS3
      (repeat (first | (refine iDr ?_; intro _ _) | refine V_run ?_ | refine PV_run ?_ | refine HV_run ?_ | refine iV_ld1 ?_ | refine iV_ldN ?_ | (refine iV_bx ?_; intro _ _ _ _) | (refine iV_al ?_; intro _ _ _ _) | (refine iV_mm ?_; intro _ _ _ _) | (refine iU_st ?_; intro _ _) | refine iHV_1 ?_ | refine iHV_N ?_ | refine iRI_1 ?_ | refine iRI_N ?_ | refine Cond_t ?_ | refine Cond_f ?_ | refine JB ?_ | (refine JC ?_; intro _ _ _ _) | (refine JGB ?_; intro _ _ _ _) | (refine J1 ?_; intro _ _) | (refine J0 ?_; intro _ _) | (refine J2 ?_; intro _ _) | (refine J3 ?_; intro _ _) | (refine J4 ?_; intro _ _) | refine K1 ?_ | refine K0 ?_ | refine K2 ?_ | refine K3 ?_ | refine K4 ?_ | (refine CV_pu ?_; intro _ _ _ _) | (refine CV_puz ?_; intro _ _ _ _) | refine fRI_1 ?_ | refine fRI_N ?_ | refine gHV_lkI ?_ | refine gRI_lkI ?_ | refine gV_lkI ?_ | refine fV_ldN ?_ | refine fV_ld1 ?_ | refine fHV_ldN ?_ | refine fHV_ld1 ?_ | refine NilW_some ?_ | refine iCW_1 ?_ | refine iCW_N ?_ | refine Pk_b ?_))
      rename_i w6 hS6
      have hS7 := hS6.keep [.at bw, .bl B5]
      rw [List.append_nil] at hS7
      refine back1 (f - 1, mm_ / 128, us3 ++ [UInt8.ofNat (mm_ % 128 + 128)]) _ _ ⟨by simp, ?_, by simp only; omega, ?_, _, z3, hz3, ⟨_, B5, rfl, ?_⟩, hS7⟩ (by simp only; omega)
      · simp only
        rw [← hff]
        have : 128 ^ (f + 1) = 128 ^ f * 128 := rfl
        omega
      · rw [hys3]
        conv => lhs; rw [hff, grp]
        rw [if_pos (by omega)]
        simp only [List.append_assoc, List.cons_append, List.nil_append]
      · rw [List.length_append, Lib.byteCells_append]
        exact ho5
    · (repeat (first | (refine iDr ?_; intro _ _) | refine V_run ?_ | refine PV_run ?_ | refine HV_run ?_ | refine iV_ld1 ?_ | refine iV_ldN ?_ | (refine iV_bx ?_; intro _ _ _ _) | (refine iV_al ?_; intro _ _ _ _) | (refine iV_mm ?_; intro _ _ _ _) | (refine iU_st ?_; intro _ _) | refine iHV_1 ?_ | refine iHV_N ?_ | refine iRI_1 ?_ | refine iRI_N ?_ | refine Cond_t ?_ | refine Cond_f ?_ | refine JB ?_ | (refine JC ?_; intro _ _ _ _) | (refine JGB ?_; intro _ _ _ _) | (refine J1 ?_; intro _ _) | (refine J0 ?_; intro _ _) | (refine J2 ?_; intro _ _) | (refine J3 ?_; intro _ _) | (refine J4 ?_; intro _ _) | refine K1 ?_ | refine K0 ?_ | refine K2 ?_ | refine K3 ?_ | refine K4 ?_ | (refine CV_pu ?_; intro _ _ _ _) | (refine CV_puz ?_; intro _ _ _ _) | refine fRI_1 ?_ | refine fRI_N ?_ | refine gHV_lkI ?_ | refine gRI_lkI ?_ | refine gV_lkI ?_ | refine fV_ldN ?_ | refine fV_ld1 ?_ | refine fHV_ldN ?_ | refine fHV_ld1 ?_ | refine NilW_some ?_ | refine iCW_1 ?_ | refine iCW_N ?_ | refine Pk_b ?_))
      have hg : grp f mm_ = [UInt8.ofNat mm_] := by
        cases f with
        | zero => rfl
        | succ f => rw [grp, if_neg (by omega)]
      rw [u8_wrap (n := mm_) (by omega)]
      refine V_push hS3 ho (by simp only [room]; omega) (by simp only [room]; omega) (by decide) ?_
      intro B5 v5 w5 ho5 hS5
      obtain ⟨a5, c5, rfl, _⟩ := ho5.form
      clear hS3
      (repeat (first | (refine iDr ?_; intro _ _) | refine V_run ?_ | refine PV_run ?_ | refine HV_run ?_ | refine iV_ld1 ?_ | refine iV_ldN ?_ | (refine iV_bx ?_; intro _ _ _ _) | (refine iV_al ?_; intro _ _ _ _) | (refine iV_mm ?_; intro _ _ _ _) | (refine iU_st ?_; intro _ _) | refine iHV_1 ?_ | refine iHV_N ?_ | refine iRI_1 ?_ | refine iRI_N ?_ | refine Cond_t ?_ | refine Cond_f ?_ | refine JB ?_ | (refine JC ?_; intro _ _ _ _) | (refine JGB ?_; intro _ _ _ _) | (refine J1 ?_; intro _ _) | (refine J0 ?_; intro _ _) | (refine J2 ?_; intro _ _) | (refine J3 ?_; intro _ _) | (refine J4 ?_; intro _ _) | refine K1 ?_ | refine K0 ?_ | refine K2 ?_ | refine K3 ?_ | refine K4 ?_ | (refine CV_pu ?_; intro _ _ _ _) | (refine CV_puz ?_; intro _ _ _ _) | refine fRI_1 ?_ | refine fRI_N ?_ | refine gHV_lkI ?_ | refine gRI_lkI ?_ | refine gV_lkI ?_ | refine fV_ldN ?_ | refine fV_ld1 ?_ | refine fHV_ldN ?_ | refine fHV_ld1 ?_ | refine NilW_some ?_ | refine iCW_1 ?_ | refine iCW_N ?_ | refine Pk_b ?_))
      rename_i w6 hS6
      have hS7 := hS6.keep [.at bw, .bl B5]
      rw [List.append_nil] at hS7
      refine back (k + 1, us3 ++ [UInt8.ofNat mm_]) _ _ ⟨by simp, by simp only; omega, ?_, _, z3, hz1.trans hz3, ⟨_, B5, rfl, ?_⟩, hS7⟩ (by simp only; omega)
      · rw [hys3, hg]; simp only [List.append_assoc]
      · rw [List.length_append, Lib.byteCells_append]
        exact ho5
  · have hk2 : k = l.length := by omega
    subst hk2
    rw [List.drop_of_length_le (Nat.le_refl _), List.flatMap_nil, List.append_nil] at hys
    exact ⟨_, _, hS1, rfl, by rw [hys]; exact hB1⟩)
end Go.Proofs.YtbeelfopmkbllaaGreatDoor
end

section
/- The writer: strings, parts, lists of things. -/
set_option linter.unusedVariables false
set_option linter.unusedSimpArgs false
set_option maxRecDepth 20000
set_option synthInstance.maxHeartbeats 4000000
set_option synthInstance.maxSize 20000
set_option maxHeartbeats 1000000
namespace Go.Proofs.YtbeelfopmkbllaaGreatDoor
open Go Q Go.RowKit

theorem map_flat : ∀ l : List Int, (l.map fun x => Value.int .i64 x) = l.flatMap fun x => [Value.int .i64 x]
  | [] => rfl
  | a :: l => by rw [List.map_cons, List.flatMap_cons, map_flat l]; rfl
theorem V_lit {w0 w : World} {z0 z : Z} {B0 L : Bl} {K : Value → World → Prop} [hS : Res w0 z0 B0 w z L] {k n : Nat} {parts : List (Nat × Value)} {out : List Value} [gf : FillS 1 0 parts out n] (l : List Int) (ho : out = l.map fun x => Value.int .i64 x) (hn : k = n) (hsz : n ≤ 1000)
    (hk : ∀ z' w' v, Le z z' → Res w0 z0 B0 w' z' L → SlR El.int z' v l → K v w') : V (bs 45 k parts.toArray) w K := by
  refine V_bs hn (by omega) ?_
  intro b w1 hb hS1
  have hfl : out = l.flatMap fun x => [Value.int .i64 x] := by rw [ho]; exact map_flat l
  have hlen : out.length = n := by obtain ⟨h1, h2, _⟩ := gf.h; omega
  have hll : l.length = n := by rw [← hlen, ho, List.length_map]
  obtain ⟨z2, hz2, hS2, hv⟩ := Res.freezeSl (E := El.int) (e := 3) (B := [(b, _)]) (L := L) (v := .slice (some ⟨b, 0, none⟩) l.length n) (xs := l) (f := fun x => [Value.int .i64 x]) hS1 ⟨by rw [← hfl, hlen, hll]; exact (Nat.mul_one _).symm, .inr ⟨b, n, [], by rw [← hfl, List.append_nil], rfl, by omega, by simp only [maxLen]; omega, by rw [← hfl, List.append_nil, hlen]; exact (Nat.mul_one _).symm⟩⟩ (by simp only [big]; omega) (fun _ => rfl) (fun z x _ => rfl)
  rw [hll] at hv
  exact hk _ _ _ hz2 hS2 hv
theorem Mid.of {n : Int} (h : -1000000000000 ≤ n ∧ n ≤ 1000000000000) : Mid n := ⟨by omega⟩
/-- ints of some numbers. -/
theorem CV_ints {w0 w : World} {z0 z : Z} {B0 L B F : Bl} {K : Value → World → Prop} {bw : Nat} {ys : List UInt8} {v : Value} {l : List Int} (hS : Res w0 z0 B0 w z L) (hB : WrOk bw B ys) [gb : BringL L B F] (hv : SlR El.int z v l) (hm : ∀ n ∈ l, Mid n) (hb : (ys ++ l.flatMap numM).length ≤ lots)
    (hk : ∀ z' B' w', Le z z' → Res w0 z0 B0 w' z' (B' ++ F) → WrOk bw B' (ys ++ l.flatMap numM) → K (.tuple #[]) w') : CV (.func (.func 175) #[] #[]) #[.pointer (some ⟨bw, 0, none⟩), v] w K := by
  refine CV_fn (B := B) (F := F) (hS.bring B) (ints_of hB hv hm hb) (by simp) ?_
  rintro z' B' w' v' hz hS' ⟨rfl, hB'⟩
  exact hk z' B' w' hz hS' hB'
def strM (s : ByteArray) : List UInt8 := numM s.size ++ bytes s
theorem str_of {z : Z} {w : World} {bw : Nat} {B : Bl} {ys : List UInt8} {s : ByteArray} (hB : WrOk bw B ys) (hs : s.size ≤ 1000000) (hb : (ys ++ strM s).length ≤ lots) :
    Fn 92 #[.pointer (some ⟨bw, 0, none⟩), .string s] z B w fun z' B' r => r = .tuple #[] ∧ WrOk bw B' (ys ++ strM s) := Fn.intro fun hS => en92 (by
  unfold vc92
  have hbs : (bytes s).length = s.size := (size_bytes s).symm
  have hb2 : (ys ++ numM s.size).length + s.size ≤ lots := by unfold strM at hb; rw [← List.append_assoc, List.length_append] at hb; omega
  refine V_run ?_
  refine V_lit [(s.size : Int)] rfl rfl (by omega) ?_
  intro z1 w1 v1 hz1 hS1 hv1
  refine CV_ints (B := B) hS1 hB hv1 (fun n hn => by simp at hn; subst hn; exact Mid.of (by omega)) (by simp only [List.flatMap_cons, List.flatMap_nil, List.append_nil]; omega) ?_
  intro z2 B2 w2 hz2 hS2 hB2
  simp only [List.flatMap_cons, List.flatMap_nil, List.append_nil] at hB2
  rw [List.append_nil] at hS2
  obtain ⟨v3, Bv, rfl, ho⟩ := hB2
  obtain ⟨a3, c3, rfl, _⟩ := ho.form
  simp only [lots] at hb2
  (repeat (first | refine V_run ?_ | refine iV_ld1 ?_))
  refine V_appS (t := 55) (u := 9) (bytes := 1) (by kernel_rfl) (hS2.bring Bv) ho (by simp only [room]; omega) (by simp only [room]; omega) ?_
  intro B5 v5 w5 ho5 hS5
  obtain ⟨a5, c5, rfl, _⟩ := ho5.form
  (repeat (first | refine V_run ?_ | (refine iU_st ?_; intro _ _)))
  rename_i w6 hS6
  have hS7 := hS6.keep [.at bw, .bl B5]
  rw [List.append_nil] at hS7
  refine ⟨_, _, hS7, rfl, _, B5, rfl, ?_⟩
  rw [strM, ← List.append_assoc, List.length_append (bs := bytes s), hbs, Lib.byteCells_append, ← Lib.strCells_eq]
  exact ho5)
def partB (p : PartM) : List UInt8 := numM p.kind ++ (strM p.text ++ numM p.n)
def itemB (x : ItemM) : List UInt8 := numM (if x.via = true then 1 else 0) ++ strM x.name
def spotB (s : SpotM) : List UInt8 := numM s.at_ ++ strM s.name
def insB (i : InsM) : List UInt8 := numM i.op ++ (numM i.a ++ (numM i.b ++ numM i.c))
theorem le_app {a b : List UInt8} {n : Nat} (h : (a ++ b).length ≤ n) : a.length ≤ n := by rw [List.length_append] at h; omega
theorem CV_str {w0 w : World} {z0 z : Z} {B0 L B F : Bl} {K : Value → World → Prop} {bw : Nat} {ys : List UInt8} {s : ByteArray} (hS : Res w0 z0 B0 w z L) (hB : WrOk bw B ys) [gb : BringL L B F] (hs : s.size ≤ 1000000) (hb : (ys ++ strM s).length ≤ lots)
    (hk : ∀ z' B' w', Le z z' → Res w0 z0 B0 w' z' (B' ++ F) → WrOk bw B' (ys ++ strM s) → K (.tuple #[]) w') : CV (.func (.func 92) #[] #[]) #[.pointer (some ⟨bw, 0, none⟩), .string s] w K := by
  refine CV_fn (B := B) (F := F) (hS.bring B) (str_of hB hs hb) (by simp) ?_
  rintro z' B' w' v' hz hS' ⟨rfl, hB'⟩
  exact hk z' B' w' hz hS' hB'
theorem partW {z : Z} {w : World} {bw : Nat} {B : Bl} {ys : List UInt8} {p : PartM} (hB : WrOk bw B ys) (h1 : Mid p.kind) (h2 : p.text.size ≤ 1000000) (h3 : Mid p.n) (hb : (ys ++ partB p).length ≤ lots) :
    Fn 96 #[.pointer (some ⟨bw, 0, none⟩), p.v] z B w fun z' B' r => r = .tuple #[] ∧ WrOk bw B' (ys ++ partB p) := Fn.intro fun hS => en96 (by
  unfold vc96
  have e0 : ys ++ partB p = ((ys ++ numM p.kind) ++ strM p.text) ++ numM p.n := by unfold partB; simp only [List.append_assoc]
  rw [e0] at hb ⊢
  refine iV_bx ?_
  intro b1 w1 hb1 hS1
  clear hS
  (repeat (first | refine V_run ?_ | refine iV_ld1 ?_))
  refine V_lit [p.kind] rfl rfl (by omega) ?_
  intro z2 w2 v2 hz2 hS2 hv2
  refine CV_ints (B := B) hS2 hB hv2 (fun n hn => by simp at hn; subst hn; exact h1) (by simpa using le_app (le_app hb)) ?_
  intro z3 B3 w3 hz3 hS3 hB3
  simp only [List.flatMap_cons, List.flatMap_nil, List.append_nil] at hB3
  clear hS1 hS2
  (repeat (first | refine V_run ?_ | refine iV_ld1 ?_))
  refine CV_str (B := B3) hS3 hB3 h2 (le_app hb) ?_
  intro z4 B4 w4 hz4 hS4 hB4
  clear hS3
  (repeat (first | refine V_run ?_ | refine iV_ld1 ?_))
  refine V_lit [p.n] rfl rfl (by omega) ?_
  intro z5 w5 v5 hz5 hS5 hv5
  refine CV_ints (B := B4) hS5 hB4 hv5 (fun n hn => by simp at hn; subst hn; exact h3) (by simpa using hb) ?_
  intro z6 B6 w6 hz6 hS6 hB6
  simp only [List.flatMap_cons, List.flatMap_nil, List.append_nil] at hB6
  exact ⟨_, _, hS6.sublist (List.sublist_append_left _ _), rfl, hB6⟩)
theorem itemW {z : Z} {w : World} {bw : Nat} {B : Bl} {ys : List UInt8} {x : ItemM} (hB : WrOk bw B ys) (h2 : x.name.size ≤ 1000000) (hb : (ys ++ itemB x).length ≤ lots) :
    Fn 100 #[.pointer (some ⟨bw, 0, none⟩), x.v] z B w fun z' B' r => r = .tuple #[] ∧ WrOk bw B' (ys ++ itemB x) := Fn.intro fun hS => en100 (by
  unfold vc100
  have e0 : ys ++ itemB x = (ys ++ numM (if x.via = true then 1 else 0)) ++ strM x.name := by unfold itemB; simp only [List.append_assoc]
  rw [e0] at hb ⊢
  refine iV_bx ?_
  intro b1 w1 hb1 hS1
  clear hS
  skip
  refine JGIe (y := if x.via = true then 1 else 0) (by cases x.via <;> rfl) ?_
  intro z7 w7 hz7 hS7
  clear hS1
  refine V_lit [if x.via = true then 1 else 0] rfl rfl (by omega) ?_
  intro z2 w2 v2 hz2 hS2 hv2
  refine CV_ints (B := B) hS2 hB hv2 (fun n hn => by simp at hn; subst hn; exact Mid.of (by split <;> omega)) (by simpa using le_app hb) ?_
  intro z3 B3 w3 hz3 hS3 hB3
  simp only [List.flatMap_cons, List.flatMap_nil, List.append_nil] at hB3
  clear hS7 hS2
  (repeat (first | refine V_run ?_ | refine iV_ld1 ?_))
  refine CV_str (B := B3) hS3 hB3 h2 hb ?_
  intro z4 B4 w4 hz4 hS4 hB4
  exact ⟨_, _, hS4.sublist (List.sublist_append_left _ _), rfl, hB4⟩)
theorem spotW {z : Z} {w : World} {bw : Nat} {B : Bl} {ys : List UInt8} {s : SpotM} (hB : WrOk bw B ys) (h1 : Mid s.at_) (h2 : s.name.size ≤ 1000000) (hb : (ys ++ spotB s).length ≤ lots) :
    Fn 102 #[.pointer (some ⟨bw, 0, none⟩), s.v] z B w fun z' B' r => r = .tuple #[] ∧ WrOk bw B' (ys ++ spotB s) := Fn.intro fun hS => en102 (by
  unfold vc102
  have e0 : ys ++ spotB s = (ys ++ numM s.at_) ++ strM s.name := by unfold spotB; simp only [List.append_assoc]
  rw [e0] at hb ⊢
  refine iV_bx ?_
  intro b1 w1 hb1 hS1
  clear hS
  (repeat (first | refine V_run ?_ | refine iV_ld1 ?_))
  refine V_lit [s.at_] rfl rfl (by omega) ?_
  intro z2 w2 v2 hz2 hS2 hv2
  refine CV_ints (B := B) hS2 hB hv2 (fun n hn => by simp at hn; subst hn; exact h1) (by simpa using le_app hb) ?_
  intro z3 B3 w3 hz3 hS3 hB3
  simp only [List.flatMap_cons, List.flatMap_nil, List.append_nil] at hB3
  clear hS1 hS2
  (repeat (first | refine V_run ?_ | refine iV_ld1 ?_))
  refine CV_str (B := B3) hS3 hB3 h2 hb ?_
  intro z4 B4 w4 hz4 hS4 hB4
  exact ⟨_, _, hS4.sublist (List.sublist_append_left _ _), rfl, hB4⟩)
theorem insW {z : Z} {w : World} {bw : Nat} {B : Bl} {ys : List UInt8} {i : InsM} (hB : WrOk bw B ys) (h1 : Mid i.op) (h2 : Mid i.a) (h3 : Mid i.b) (h4 : Mid i.c) (hb : (ys ++ insB i).length ≤ lots) :
    Fn 104 #[.pointer (some ⟨bw, 0, none⟩), i.v] z B w fun z' B' r => r = .tuple #[] ∧ WrOk bw B' (ys ++ insB i) := Fn.intro fun hS => en104 (by
  unfold vc104
  have e0 : insB i = [i.op, i.a, i.b, i.c].flatMap numM := by unfold insB; simp only [List.flatMap_cons, List.flatMap_nil, List.append_nil]
  rw [e0] at hb ⊢
  refine iV_bx ?_
  intro b1 w1 hb1 hS1
  clear hS
  (repeat (first | refine V_run ?_ | refine iV_ld1 ?_))
  refine V_lit [i.op, i.a, i.b, i.c] rfl rfl (by omega) ?_
  intro z2 w2 v2 hz2 hS2 hv2
  refine CV_ints (B := B) hS2 hB hv2 (fun n hn => by simp at hn; rcases hn with rfl | rfl | rfl | rfl <;> assumption) hb ?_
  intro z3 B3 w3 hz3 hS3 hB3
  exact ⟨_, _, hS3.sublist (List.sublist_append_left _ _), rfl, hB3⟩)
end Go.Proofs.YtbeelfopmkbllaaGreatDoor
end

section
/- Encode. -/
set_option linter.unusedVariables false
set_option linter.unusedSimpArgs false
set_option maxRecDepth 20000
set_option synthInstance.maxHeartbeats 4000000
set_option synthInstance.maxSize 20000
set_option maxHeartbeats 1000000
namespace Go.Proofs.YtbeelfopmkbllaaGreatDoor
open Go Q Go.RowKit

def vcAll1 (S T fi : Nat) (R : Value → World → Prop) (w : World) (t0 t1 t2 : Value) : Prop :=
 V (Builtin.len_ #[S] 3 #[t1]) w fun t10 w =>
 V (bs 45 1 #[(0, t10)]) w fun t11 w =>
 CV (.func (.func fi) #[] #[]) #[t0, t11] w fun t12 w =>
 V (Builtin.len_ #[S] 3 #[t1]) w fun t14 w =>
 ∃ (I0 : List Value → World → Prop) (M0 : List Value → World → Nat), I0 [(.int .i64 0)] w ∧ ∀ g : Env, ∀ t15, ∀ w, I0 [t15] w → ∀ m0, m0 = M0 [t15] w →
 V (bi .lss 3 t15 t14) w fun t16 w =>
 CondW t16
 (V (ia S t1 t15) w fun t17 w =>
 V (ld T t17) w fun t18 w =>
 CV t2 #[t18] w fun t21 w =>
 V (bi .add 3 t15 (.int .i64 1)) w fun t22 w =>
 I0 [t22] w ∧ M0 [t22] w < m0)
 (R (.tuple #[]) w)
def vcAllN (S T fi : Nat) (R : Value → World → Prop) (w : World) (t0 t1 t2 : Value) : Prop :=
 V (Builtin.len_ #[S] 3 #[t1]) w fun t10 w =>
 V (bs 45 1 #[(0, t10)]) w fun t11 w =>
 CV (.func (.func fi) #[] #[]) #[t0, t11] w fun t12 w =>
 V (Builtin.len_ #[S] 3 #[t1]) w fun t14 w =>
 ∃ (I0 : List Value → World → Prop) (M0 : List Value → World → Nat), I0 [(.int .i64 0)] w ∧ ∀ g : Env, ∀ t15, ∀ w, I0 [t15] w → ∀ m0, m0 = M0 [t15] w →
 V (bi .lss 3 t15 t14) w fun t16 w =>
 CondW t16
 (V (ia S t1 t15) w fun t17 w =>
 V (ld T t17) w fun t18 w =>
 V (al T) w fun t7 w =>
 U (st T t7 t18) w fun w =>
 V (ld T t7) w fun t20 w =>
 CV t2 #[t20] w fun t21 w =>
 V (bi .add 3 t15 (.int .i64 1)) w fun t22 w =>
 I0 [t22] w ∧ M0 [t22] w < m0)
 (R (.tuple #[]) w)
/-- What writes an element. -/
def WrF {α : Type} (E : El α) (vf : List Value → Value) (fv : Value) (bw : Nat) (g : α → List UInt8) (xs : List α) (z : Z) : Prop :=
  ∀ z' w' B ys x cs, x ∈ xs → Le z z' → E.rel z' cs x → WrOk bw B ys → (ys ++ g x).length ≤ lots → Va fv #[vf cs] z' B w' fun _ B' _ => WrOk bw B' (ys ++ g x)
section
variable {α : Type} {E : El α} {S T n fa : Nat} {z : Z} {w : World} {bw : Nat} {B : Bl} {ys : List UInt8} {v fv : Value} {xs : List α} {g : α → List UInt8}
theorem all1 [gs : TySlice S T 1] [go : TyOne T] (hE : E.size = 1)
    (h1 : ∀ {R : Value → World → Prop} {w : World} {t0 t1 t2 : Value}, vcAll1 S T 175 R w t0 t1 t2 → Calls Tryz.prog fa #[t0, t1, t2] w (retK R)) (hB : WrOk bw B ys) (hx : SlR E z v xs) (hl : xs.length ≤ 1000000) (hf : WrF E one1 fv bw g xs z) (hb : (ys ++ (numM xs.length ++ xs.flatMap g)).length ≤ lots) :
    Fn fa #[.pointer (some ⟨bw, 0, none⟩), v, fv] z B w fun z' B' r => r = .tuple #[] ∧ WrOk bw B' (ys ++ (numM xs.length ++ xs.flatMap g)) := Fn.intro fun hS => h1 (by
  unfold vcAll1
  obtain ⟨_, a, cap, rfl, _, hel⟩ := hx.form
  rw [← List.append_assoc] at hb
  refine V_run ?_
  refine V_lit [(xs.length : Int)] rfl rfl (by omega) ?_
  intro z2 w2 v2 hz2 hS2 hv2
  refine CV_ints (B := B) hS2 hB hv2 (fun n hn => by simp at hn; subst hn; exact Mid.of (by omega)) (by simpa using le_app hb) ?_
  intro z3 B3 w3 hz3 hS3 hB3
  simp only [List.flatMap_cons, List.flatMap_nil, List.append_nil] at hB3
  rw [List.append_nil] at hS3
  refine V_run ?_
  refine LoopG1 (fun (p : Nat × List UInt8) x w' => x = .int .i64 p.1 ∧ p.1 ≤ xs.length ∧ ys ++ numM xs.length ++ xs.flatMap g = p.2 ++ (xs.drop p.1).flatMap g ∧ ∃ B' z', Le z z' ∧ WrOk bw B' p.2 ∧ Res w z B w' z' B') (fun p => xs.length - p.1) (0, ys ++ numM xs.length) ⟨rfl, by simp, rfl, B3, z3, hz2.trans hz3, hB3, hS3⟩ ?_
  rintro I M ⟨k, us⟩ x w4 m ⟨rfl, hk, hys, B4, z4, hz4, hB4, hS4⟩ back
  simp only at hk hys hB4
  dsimp only
  clear hS2 hS3
  refine V_run ?_
  refine Cond_d (fun h => ?_) (fun h => ?_)
  · have hlt : k < xs.length := by omega
    haveI : InR (k : Int) (xs.length : Nat) := ⟨by omega, by omega⟩
    haveI : InI ((k : Int) + 1) := ⟨by omega⟩
    obtain ⟨b, off, cs, rfl, hr, hat⟩ := hel _ _ (List.getElem?_eq_getElem hlt)
    have hcl := E.len hr
    rw [hE] at hcl hat
    obtain ⟨u, rfl⟩ : ∃ u, cs = [u] := by
      cases cs with
      | nil => cases hcl
      | cons u l =>
        have hl0 : l = [] := List.eq_nil_of_length_eq_zero (by simpa using hcl)
        exact ⟨u, by rw [hl0]⟩
    rw [List.drop_eq_getElem_cons hlt, List.flatMap_cons] at hys
    refine V_run ?_
    refine zV_ld1 (hat.mono hz4) ?_
    refine CV_va (B := B4) (F := []) (by rw [List.append_nil]; exact hS4) (hf _ _ _ us _ _ (List.getElem_mem hlt) hz4 (E.mono hr hz4) hB4 (by rw [hys, ← List.append_assoc] at hb; exact le_app hb)) ?_
    intro z5 B5 w5 v5 hz5 hS5 hB5
    rw [List.append_nil] at hS5
    refine V_run ?_
    refine back (k + 1, us ++ g xs[k]) _ _ ⟨by simp, by simp only; omega, by simp only [List.append_assoc] at hys ⊢; exact hys, B5, z5, hz4.trans hz5, hB5, hS5⟩ (by simp only; omega)
  · have hk2 : k = xs.length := by omega
    subst hk2
    rw [List.drop_of_length_le (Nat.le_refl _), List.flatMap_nil, List.append_nil] at hys
    exact ⟨_, _, hS4, rfl, by rw [← List.append_assoc, hys]; exact hB4⟩)
theorem allN [gs : TySlice S T n] [ga : TyAgg T n] [gz : TySize T n] (hE : E.size = n) (hzero : ∃ zs, TyZero T zs ∧ zs.length = n) (hone : ∀ z cs x, E.rel z cs x → ∀ u ∈ cs, isOne u = true)
    (h1 : ∀ {R : Value → World → Prop} {w : World} {t0 t1 t2 : Value}, vcAllN S T 175 R w t0 t1 t2 → Calls Tryz.prog fa #[t0, t1, t2] w (retK R)) (hB : WrOk bw B ys) (hx : SlR E z v xs) (hl : xs.length ≤ 1000000) (hf : WrF E aggN fv bw g xs z) (hb : (ys ++ (numM xs.length ++ xs.flatMap g)).length ≤ lots) :
    Fn fa #[.pointer (some ⟨bw, 0, none⟩), v, fv] z B w fun z' B' r => r = .tuple #[] ∧ WrOk bw B' (ys ++ (numM xs.length ++ xs.flatMap g)) := Fn.intro fun hS => h1 (by
  unfold vcAllN
  obtain ⟨_, a, cap, rfl, _, hel⟩ := hx.form
  rw [← List.append_assoc] at hb
  refine V_run ?_
  refine V_lit [(xs.length : Int)] rfl rfl (by omega) ?_
  intro z2 w2 v2 hz2 hS2 hv2
  refine CV_ints (B := B) hS2 hB hv2 (fun n hn => by simp at hn; subst hn; exact Mid.of (by omega)) (by simpa using le_app hb) ?_
  intro z3 B3 w3 hz3 hS3 hB3
  simp only [List.flatMap_cons, List.flatMap_nil, List.append_nil] at hB3
  rw [List.append_nil] at hS3
  refine V_run ?_
  refine LoopG1 (fun (p : Nat × List UInt8) x w' => x = .int .i64 p.1 ∧ p.1 ≤ xs.length ∧ ys ++ numM xs.length ++ xs.flatMap g = p.2 ++ (xs.drop p.1).flatMap g ∧ ∃ B' z', Le z z' ∧ WrOk bw B' p.2 ∧ Res w z B w' z' B') (fun p => xs.length - p.1) (0, ys ++ numM xs.length) ⟨rfl, by simp, rfl, B3, z3, hz2.trans hz3, hB3, hS3⟩ ?_
  rintro I M ⟨k, us⟩ x w4 m ⟨rfl, hk, hys, B4, z4, hz4, hB4, hS4⟩ back
  simp only at hk hys hB4
  dsimp only
  clear hS2 hS3
  refine V_run ?_
  refine Cond_d (fun h => ?_) (fun h => ?_)
  · have hlt : k < xs.length := by omega
    haveI : InR (k : Int) (xs.length : Nat) := ⟨by omega, by omega⟩
    haveI : InI ((k : Int) + 1) := ⟨by omega⟩
    obtain ⟨b, off, cs, rfl, hr, hat⟩ := hel _ _ (List.getElem?_eq_getElem hlt)
    have hcl := E.len hr
    rw [hE] at hcl hat
    rw [List.drop_eq_getElem_cons hlt, List.flatMap_cons] at hys
    refine V_run ?_
    refine zV_ldN (hat.mono hz4) hcl ?_
    refine V_alN hzero ?_
    intro b7 w7 zs hzs hb7 hS7
    refine U_st (vs := cs) (n := n) (l := zs) (l' := cs) (go := ⟨hone _ _ _ hr⟩) (gl := SetN.whole (hzs.trans hcl.symm)) hS7 hcl ?_
    intro w8 hS8
    refine V_ldN (n := n) (vs := cs) ⟨_, _, _, (hS8.mem _ List.mem_cons_self).1, fun j u hu => by rw [Nat.zero_add]; simpa using hu⟩ hcl ?_
    have hS9 := hS8.sublist (List.sublist_cons_self _ _)
    refine CV_va (B := B4) (F := []) (by rw [List.append_nil]; exact hS9) (hf _ _ _ us _ _ (List.getElem_mem hlt) hz4 (E.mono hr hz4) hB4 (by rw [hys, ← List.append_assoc] at hb; exact le_app hb)) ?_
    intro z5 B5 w5 v5 hz5 hS5 hB5
    rw [List.append_nil] at hS5
    refine V_run ?_
    refine back (k + 1, us ++ g xs[k]) _ _ ⟨by simp, by simp only; omega, by simp only [List.append_assoc] at hys ⊢; exact hys, B5, z5, hz4.trans hz5, hB5, hS5⟩ (by simp only; omega)
  · have hk2 : k = xs.length := by omega
    subst hk2
    rw [List.drop_of_length_le (Nat.le_refl _), List.flatMap_nil, List.append_nil] at hys
    exact ⟨_, _, hS4, rfl, by rw [← List.append_assoc, hys]; exact hB4⟩)
end
end Go.Proofs.YtbeelfopmkbllaaGreatDoor
end

section
/- How long valid code's bytes are; its numbers are small. -/
set_option linter.unusedVariables false
set_option linter.unusedSimpArgs false
set_option maxRecDepth 20000
namespace Go.Proofs.YtbeelfopmkbllaaGreatDoor
open Go Q Go.RowKit

def tmplE (l : List PartM) : List UInt8 := numM l.length ++ l.flatMap partB
def listE (l : List ItemM) : List UInt8 := numM l.length ++ l.flatMap itemB
def encM (c : CodeM) : List UInt8 :=
  [81] ++ (numM c.consts.length ++ c.consts.flatMap strM) ++ (numM c.tmpls.length ++ c.tmpls.flatMap tmplE) ++ (numM c.lists.length ++ c.lists.flatMap listE) ++ (numM c.labels.length ++ c.labels.flatMap spotB) ++ (numM c.slots.length ++ c.slots.flatMap strM) ++ (numM c.ins.length ++ c.ins.flatMap insB)
theorem ranged_small {k n : Int} (h : rangedM k n = true) (hk : k ≠ 23) : 0 ≤ n ∧ n ≤ 99 := by
  unfold rangedM at h
  cases hf : rngTab.find? (fun p => p.1 == k) with
  | some p =>
    rw [hf] at h
    have hm := List.mem_of_find?_eq_some hf
    have ha : rngTab.all (fun p => decide (0 ≤ p.2.1 ∧ p.2.2 ≤ 99)) = true := by decide +kernel
    have := List.all_eq_true.1 ha p hm
    simp only [decide_eq_true_eq] at this
    have := inB_iff.1 h
    omega
  | none =>
    rw [hf] at h
    have h' : (decide (k = 23) || (decide (k = 22) && decide (repsM n ≥ 0))) = true := h
    rw [decide_eq_false hk, Bool.false_or, Bool.and_eq_true] at h'
    have := of_decide_eq_true h'.2
    unfold repsM at this
    split at this
    · omega
    · omega
theorem good_small {c : CodeM} (hl : limitsM c = true) {k n : Int} (h : goodM c k n = true) (hk : k ≠ 23) : -1 ≤ n ∧ n ≤ 100000 := by
  have hb := limits_bd hl
  have named_small : ∀ p, namedM c n p = true → 0 ≤ n ∧ n ≤ 3000 := fun p hp => by
    unfold namedM at hp
    simp only [Bool.and_eq_true] at hp
    have := inB_iff.1 hp.1
    omega
  unfold goodM at h
  by_cases e1 : k = 1
  · rw [if_pos e1] at h; have := inB_iff.1 h; omega
  rw [if_neg e1] at h
  by_cases e8 : k = 8
  · rw [if_pos e8] at h; rw [Bool.or_eq_true, decide_eq_true_eq] at h; rcases h with h | h
    · omega
    · have := named_small _ h; omega
  rw [if_neg e8] at h
  by_cases e2 : k = 2
  · rw [if_pos e2] at h; have := named_small _ h; omega
  rw [if_neg e2] at h
  by_cases e3 : k = 3
  · rw [if_pos e3] at h; have := named_small _ h; omega
  rw [if_neg e3] at h
  by_cases e4 : k = 4
  · rw [if_pos e4] at h; have := named_small _ h; omega
  rw [if_neg e4] at h
  by_cases e5 : k = 5
  · rw [if_pos e5] at h; have := named_small _ h; omega
  rw [if_neg e5] at h
  by_cases e6 : k = 6
  · rw [if_pos e6] at h; have := named_small _ h; omega
  rw [if_neg e6] at h
  by_cases e7 : k = 7
  · rw [if_pos e7] at h; rw [Bool.or_eq_true] at h; rcases h with h | h <;> (have := named_small _ h; omega)
  rw [if_neg e7] at h
  by_cases e9 : k = 9
  · rw [if_pos e9] at h; have := inB_iff.1 h; omega
  rw [if_neg e9] at h
  by_cases e10 : k = 10
  · rw [if_pos e10] at h; have := inB_iff.1 h; omega
  rw [if_neg e10] at h
  by_cases e12 : k = 12
  · rw [if_pos e12] at h; rw [Bool.or_eq_true, decide_eq_true_eq] at h; rcases h with h | h
    · omega
    · have := inB_iff.1 h; omega
  rw [if_neg e12] at h
  by_cases e11 : k = 11
  · rw [if_pos e11] at h; have := inB_iff.1 h; omega
  rw [if_neg e11] at h
  by_cases e13 : k = 13
  · rw [if_pos e13] at h; have := inB_iff.1 h; omega
  rw [if_neg e13] at h
  have := ranged_small h hk
  omega
theorem other_ops {n : Int} (h : opOk n = true) : ((formAt n).k0 = 23 → n = 12 ∨ n = 21 ∨ n = 22) ∧ ((formAt n).k1 = 23 → n = 19) ∧ ((formAt n).k2 = 23 → n = 22) := by
  have key : ∀ j : Fin 47, ((formL.getD j noForm).k0 = 23 → (j : Nat) = 12 ∨ (j : Nat) = 21 ∨ (j : Nat) = 22) ∧ ((formL.getD j noForm).k1 = 23 → (j : Nat) = 19) ∧ ((formL.getD j noForm).k2 = 23 → (j : Nat) = 22) := by decide +kernel
  have hh := h
  simp only [opOk, Bool.and_eq_true, decide_eq_true_eq] at hh
  have hk := key ⟨n.toNat, by omega⟩
  have hf : formAt n = formL.getD n.toNat noForm := by unfold formAt; rw [if_pos h]
  rw [hf]
  simp only at hk
  refine ⟨fun e => ?_, fun e => ?_, fun e => ?_⟩
  · have := hk.1 e; omega
  · have := hk.2.1 e; omega
  · have := hk.2.2 e; omega
theorem right_small {c : CodeM} (hl : limitsM c = true) {i : InsM} (h : rightM c i = true) : 1 ≤ i.op ∧ i.op ≤ 46 ∧ (-1 ≤ i.a ∧ i.a ≤ 100000) ∧ (-1 ≤ i.b ∧ i.b ≤ 100000) ∧ (-1 ≤ i.c ∧ i.c ≤ 100000) := by
  have hb := limits_bd hl
  unfold rightM at h
  simp only [Bool.and_eq_true] at h
  obtain ⟨h1, h2, h3, h4, h5⟩ := h
  obtain ⟨o1, o2, o3⟩ := other_ops h1
  have hop := h1
  simp only [opOk, Bool.and_eq_true, decide_eq_true_eq] at hop
  refine ⟨by omega, by omega, ?_, ?_, ?_⟩
  · by_cases e : (formAt i.op).k0 = 23
    · have := o1 e
      unfold specialM at h5
      by_cases e1 : i.op = 12 ∨ i.op = 21
      · rw [if_pos e1] at h5
        unfold namedM at h5
        simp only [Bool.and_eq_true] at h5
        have := inB_iff.1 h5.1
        omega
      · rw [if_neg e1, if_neg (by omega), if_pos (by omega)] at h5
        simp only [Bool.and_eq_true, Bool.not_eq_true', Bool.or_eq_false_iff, Bool.not_eq_false'] at h5
        have := inB_iff.1 h5.1.1
        omega
    · exact good_small hl h2 e
  · by_cases e : (formAt i.op).k1 = 23
    · have e1 := o2 e
      unfold specialM at h5
      rw [if_neg (by omega), if_pos e1] at h5
      simp only [Bool.or_eq_true, Bool.and_eq_true, decide_eq_true_eq] at h5
      rcases h5 with h5 | h5
      · omega
      · exact good_small hl h5.2 (by decide)
    · exact good_small hl h3 e
  · by_cases e : (formAt i.op).k2 = 23
    · have e1 := o3 e
      unfold specialM at h5
      rw [if_neg (by omega), if_neg (by omega), if_pos e1] at h5
      simp only [Bool.or_eq_true, Bool.and_eq_true, decide_eq_true_eq] at h5
      rcases h5.2 with h5 | h5
      · omega
      · exact good_small hl h5.2 (by decide)
    · exact good_small hl h4 e
theorem sym_size {s : ByteArray} (h : symKind s ≠ 0) : s.size ≤ 40 := by
  unfold symKind at h
  by_cases e : (!inB s.size 1 40 || (!((bytes s).all symC) && !expB s)) = true
  · rw [if_pos e] at h; exact absurd rfl h
  · simp only [Bool.or_eq_true, not_or, Bool.not_eq_true', Bool.not_eq_false] at e
    have := inB_iff.1 (by simpa using e.1)
    omega
theorem var_size {s : ByteArray} (h : varB s = true) : s.size ≤ 40 := sym_size (by unfold varB at h; simp only [decide_eq_true_eq] at h; omega)
theorem valid_size {s : ByteArray} (h : validB s = true) : s.size ≤ 1000 := by
  unfold validB at h; simp only [Bool.and_eq_true, decide_eq_true_eq] at h; exact h.1
theorem part_small {p : PartM} (h : partM p = true) : 1 ≤ p.kind ∧ p.kind ≤ 11 ∧ p.text.size ≤ 1000 ∧ 0 ≤ p.n ∧ p.n ≤ 999999999 := by
  unfold partM at h
  split at h
  · simp only [Bool.and_eq_true, decide_eq_true_eq] at h; have := var_size h.1; omega
  split at h
  · simp only [Bool.and_eq_true, decide_eq_true_eq] at h; have := valid_size h.1; omega
  split at h
  · simp only [Bool.and_eq_true, decide_eq_true_eq] at h; have := sym_size (s := p.text) (by omega); omega
  split at h
  · simp only [Bool.and_eq_true, decide_eq_true_eq] at h
    have := inB_iff.1 h.2
    have hz : p.text.size = 0 := by rw [h.1]; rfl
    omega
  split at h
  · simp only [Bool.and_eq_true, decide_eq_true_eq] at h
    have hz : p.text.size = 0 := by rw [h.1]; rfl
    omega
  · cases h
theorem allS_slots : ∀ {l h : List ByteArray}, (allS sloS h l).1 = true → ∀ s ∈ l, symKind s = 2
  | [], _, _, s, hs => by cases hs
  | x :: l, h, hh, s, hs => by
    rw [allS_cons, show sloS h x = ((sloS h x).1, (sloS h x).2) from rfl] at hh
    cases hx : (sloS h x).1 with
    | false => rw [hx] at hh; cases hh
    | true =>
      rw [hx] at hh
      simp only [sloS, Bool.and_eq_true, decide_eq_true_eq] at hx
      rcases List.mem_cons.1 hs with rfl | hs
      · exact hx.1
      · exact allS_slots hh s hs
theorem labs_valid {n : Nat} : ∀ {l : List SpotM} {last : Int}, (allS (labS n) last l).1 = true → ∀ s ∈ l, validB s.name = true
  | [], _, _, s, hs => by cases hs
  | x :: l, last, h, s, hs => by
    rw [allS_cons, show labS n last x = ((labS n last x).1, (labS n last x).2) from rfl] at h
    cases hx : (labS n last x).1 with
    | false => rw [hx] at h; cases h
    | true =>
      rw [hx] at h
      simp only [labS, Bool.and_eq_true] at hx
      rcases List.mem_cons.1 hs with rfl | hs
      · exact hx.1
      · exact labs_valid h s hs
/-- The parts of valid code are small. -/
structure SmallC (c : CodeM) : Prop where
  consts : ∀ s ∈ c.consts, s.size ≤ 1000
  tmpls : ∀ l ∈ c.tmpls, l.length ≤ 100 ∧ ∀ p ∈ l, partM p = true
  lists : ∀ l ∈ c.lists, l.length ≤ 10000 ∧ ∀ x ∈ l, x.name.size ≤ 40
  labels : ∀ s ∈ c.labels, (0 ≤ s.at_ ∧ s.at_ < 12000) ∧ s.name.size ≤ 1000
  slots : ∀ s ∈ c.slots, s.size ≤ 40
  ins : ∀ i ∈ c.ins, 1 ≤ i.op ∧ i.op ≤ 46 ∧ (-1 ≤ i.a ∧ i.a ≤ 100000) ∧ (-1 ≤ i.b ∧ i.b ≤ 100000) ∧ (-1 ≤ i.c ∧ i.c ≤ 100000)
  num : c.consts.length ≤ 3000 ∧ c.tmpls.length ≤ 3000 ∧ c.lists.length ≤ 3000 ∧ c.labels.length ≤ 3000 ∧ c.slots.length ≤ 100 ∧ c.ins.length ≤ 12000
theorem small_of {c : CodeM} (hl : limitsM c = true) (hp : partsM c = true) (hr : ∀ i ∈ c.ins, rightM c i = true) : SmallC c := by
  have hb := limits_bd hl
  have hlab := labels_in hp
  have hl0 := hl
  unfold limitsM at hl
  unfold partsM at hp
  simp only [Bool.and_eq_true, List.all_eq_true] at hl hp
  obtain ⟨_, l2, _, l4, _⟩ := hl
  obtain ⟨_, p1, p2, p3, p4, p5⟩ := hp
  refine ⟨fun s hs => valid_size (p1 s hs), fun l h => ⟨?_, ?_⟩, fun l h => ⟨?_, ?_⟩, fun s hs => ⟨⟨(hlab s hs).1, ?_⟩, valid_size (labs_valid p4 s hs)⟩, fun s hs => sym_size (by rw [allS_slots p5 s hs]; decide), fun i hi => ?_, hb⟩
  · have := l2 l h; unfold lim2 at this; simp only [Bool.and_eq_true, decide_eq_true_eq] at this; exact this.1
  · have := p2 l h; unfold tmplB at this; simpa using this
  · have := l4 l h; unfold lim3 at this; simpa using this
  · have := p3 l h; unfold listB at this; simp only [Bool.and_eq_true, List.all_eq_true] at this; exact fun x hx => var_size (this.2 x hx)
  · have := (hlab s hs).2; omega
  · exact right_small hl0 (hr i hi)
theorem flat_le {α : Type} {g : α → List UInt8} {k : Nat} : ∀ {xs : List α}, (∀ x ∈ xs, (g x).length ≤ k) → (xs.flatMap g).length ≤ xs.length * k
  | [], _ => by simp
  | x :: xs, h => by
    rw [List.flatMap_cons, List.length_append, List.length_cons, Nat.add_mul]
    have := h x List.mem_cons_self
    have := flat_le (xs := xs) fun y hy => h y (List.mem_cons_of_mem _ hy)
    omega
theorem strM_len {s : ByteArray} : (strM s).length ≤ 10 + s.size := by unfold strM; rw [List.length_append, ← size_bytes]; have := @numM_len s.size; omega
theorem encM_len {c : CodeM} (h : SmallC c) : (encM c).length ≤ 10000000000 := by
  have hn := @numM_len
  have b1 : (c.consts.flatMap strM).length ≤ c.consts.length * 1010 := flat_le fun s hs => by have := h.consts s hs; have := @strM_len s; omega
  have b2 : (c.tmpls.flatMap tmplE).length ≤ c.tmpls.length * 110000 := flat_le fun l hl => by
    obtain ⟨g1, g2⟩ := h.tmpls l hl
    have : (l.flatMap partB).length ≤ l.length * 1050 := flat_le fun p hp => by
      have := part_small (g2 p hp)
      have := @strM_len p.text
      have := @numM_len p.kind
      have := @numM_len p.n
      unfold partB
      simp only [List.length_append]
      omega
    have := @numM_len l.length
    unfold tmplE
    rw [List.length_append]
    have : l.length * 1050 ≤ 100 * 1050 := Nat.mul_le_mul_right _ g1
    omega
  have b3 : (c.lists.flatMap listE).length ≤ c.lists.length * 700000 := flat_le fun l hl => by
    obtain ⟨g1, g2⟩ := h.lists l hl
    have : (l.flatMap itemB).length ≤ l.length * 60 := flat_le fun x hx => by
      have := g2 x hx
      have := @strM_len x.name
      have := @numM_len (if x.via = true then 1 else 0)
      unfold itemB
      simp only [List.length_append]
      omega
    have := @numM_len l.length
    unfold listE
    rw [List.length_append]
    have : l.length * 60 ≤ 10000 * 60 := Nat.mul_le_mul_right _ g1
    omega
  have b4 : (c.labels.flatMap spotB).length ≤ c.labels.length * 1020 := flat_le fun s hs => by
    have := (h.labels s hs).2
    have := @strM_len s.name
    have := @numM_len s.at_
    unfold spotB
    rw [List.length_append]
    omega
  have b5 : (c.slots.flatMap strM).length ≤ c.slots.length * 50 := flat_le fun s hs => by have := h.slots s hs; have := @strM_len s; omega
  have b6 : (c.ins.flatMap insB).length ≤ c.ins.length * 40 := flat_le fun i hi => by
    have := @numM_len i.op
    have := @numM_len i.a
    have := @numM_len i.b
    have := @numM_len i.c
    unfold insB
    simp only [List.length_append]
    omega
  obtain ⟨n1, n2, n3, n4, n5, n6⟩ := h.num
  have := @numM_len c.consts.length
  have := @numM_len c.tmpls.length
  have := @numM_len c.lists.length
  have := @numM_len c.labels.length
  have := @numM_len c.slots.length
  have := @numM_len c.ins.length
  unfold encM
  simp only [List.length_append, List.length_singleton]
  omega
end Go.Proofs.YtbeelfopmkbllaaGreatDoor
end

section
/- Encode: the walk. -/
set_option linter.unusedVariables false
set_option linter.unusedSimpArgs false
set_option maxRecDepth 20000
set_option synthInstance.maxHeartbeats 4000000
set_option synthInstance.maxSize 20000
set_option maxHeartbeats 1000000
namespace Go.Proofs.YtbeelfopmkbllaaGreatDoor
open Go Q Go.RowKit

theorem WrF.va {α : Type} {E : El α} {vf : List Value → Value} {f : FuncId} [Enters f] {bw : Nat} {g : α → List UInt8} {xs : List α} {z : Z}
    (h : ∀ z' w' B ys x cs, x ∈ xs → Le z z' → E.rel z' cs x → WrOk bw B ys → (ys ++ g x).length ≤ lots → Fn f #[.pointer (some ⟨bw, 0, none⟩), vf cs] z' B w' fun _ B' r => r = .tuple #[] ∧ WrOk bw B' (ys ++ g x)) : WrF E vf (.func (.func f) #[.pointer (some ⟨bw, 0, none⟩)] #[]) bw g xs z :=
  fun z' w' B ys x cs hm hz hr hB hb ho => CallV.mono (Fn.va (first := #[.pointer (some ⟨bw, 0, none⟩)]) (cap := #[]) (args' := #[.pointer (some ⟨bw, 0, none⟩), vf cs]) (h z' w' B ys x cs hm hz hr hB hb) (by simp) ho) fun v w'' ⟨z'', B'', h1, _, h2⟩ => ⟨z'', B'', h1, h2⟩
theorem wStr {bw : Nat} {xs : List ByteArray} {z : Z} (h : ∀ s ∈ xs, s.size ≤ 1000000) : WrF El.str one1 (.func (.func 92) #[.pointer (some ⟨bw, 0, none⟩)] #[]) bw strM xs z :=
  WrF.va fun z' w' B ys x cs hm hz hr hB hb => by obtain ⟨rfl, _⟩ := hr; exact str_of hB (h x hm) hb
theorem wPart {bw : Nat} {xs : List PartM} {z : Z} (h : ∀ p ∈ xs, partM p = true) : WrF El.part aggN (.func (.func 96) #[.pointer (some ⟨bw, 0, none⟩)] #[]) bw partB xs z :=
  WrF.va fun z' w' B ys x cs hm hz hr hB hb => by
    obtain ⟨rfl, _⟩ := hr
    have := part_small (h x hm)
    exact partW hB (Mid.of (by omega)) (by omega) (Mid.of (by omega)) hb
theorem wItem {bw : Nat} {xs : List ItemM} {z : Z} (h : ∀ x ∈ xs, x.name.size ≤ 40) : WrF El.item aggN (.func (.func 100) #[.pointer (some ⟨bw, 0, none⟩)] #[]) bw itemB xs z :=
  WrF.va fun z' w' B ys x cs hm hz hr hB hb => by
    obtain ⟨rfl, _⟩ := hr
    have := h x hm
    exact itemW hB (by omega) hb
theorem wSpot {bw : Nat} {xs : List SpotM} {z : Z} (h : ∀ s ∈ xs, (0 ≤ s.at_ ∧ s.at_ < 12000) ∧ s.name.size ≤ 1000) : WrF El.spot aggN (.func (.func 102) #[.pointer (some ⟨bw, 0, none⟩)] #[]) bw spotB xs z :=
  WrF.va fun z' w' B ys x cs hm hz hr hB hb => by
    obtain ⟨rfl, _⟩ := hr
    have := h x hm
    exact spotW hB (Mid.of (by omega)) (by omega) hb
theorem wIns {bw : Nat} {xs : List InsM} {z : Z} (h : ∀ i ∈ xs, 1 ≤ i.op ∧ i.op ≤ 46 ∧ (-1 ≤ i.a ∧ i.a ≤ 100000) ∧ (-1 ≤ i.b ∧ i.b ≤ 100000) ∧ (-1 ≤ i.c ∧ i.c ≤ 100000)) : WrF El.ins aggN (.func (.func 104) #[.pointer (some ⟨bw, 0, none⟩)] #[]) bw insB xs z :=
  WrF.va fun z' w' B ys x cs hm hz hr hB hb => by
    cases hr
    have := h x hm
    exact insW hB (Mid.of (by omega)) (Mid.of (by omega)) (Mid.of (by omega)) (Mid.of (by omega)) hb
theorem onePart {z : Z} {cs : List Value} {x : PartM} (h : El.part.rel z cs x) : ∀ u ∈ cs, isOne u = true := by
  obtain ⟨rfl, _⟩ := h; intro u hu; simp only [PartM.cells, List.mem_cons, List.not_mem_nil, or_false] at hu; rcases hu with rfl | rfl | rfl <;> rfl
theorem oneItem {z : Z} {cs : List Value} {x : ItemM} (h : El.item.rel z cs x) : ∀ u ∈ cs, isOne u = true := by
  obtain ⟨rfl, _⟩ := h; intro u hu; simp only [ItemM.cells, List.mem_cons, List.not_mem_nil, or_false] at hu; rcases hu with rfl | rfl <;> rfl
theorem oneSpot {z : Z} {cs : List Value} {x : SpotM} (h : El.spot.rel z cs x) : ∀ u ∈ cs, isOne u = true := by
  obtain ⟨rfl, _⟩ := h; intro u hu; simp only [SpotM.cells, List.mem_cons, List.not_mem_nil, or_false] at hu; rcases hu with rfl | rfl <;> rfl
theorem oneIns {z : Z} {cs : List Value} {x : InsM} (h : El.ins.rel z cs x) : ∀ u ∈ cs, isOne u = true := by
  cases h; intro u hu; simp only [InsM.cells, List.mem_cons, List.not_mem_nil, or_false] at hu; rcases hu with rfl | rfl | rfl | rfl <;> rfl
section
variable {z : Z} {w : World} {bw b6 : Nat} {B : Bl} {ys : List UInt8}
theorem allStr {v : Value} {xs : List ByteArray} (hB : WrOk bw B ys) (hx : SlR El.str z v xs) (hl : xs.length ≤ 1000000) (h : ∀ s ∈ xs, s.size ≤ 1000000) (hb : (ys ++ (numM xs.length ++ xs.flatMap strM)).length ≤ lots) :
    Fn 91 #[.pointer (some ⟨bw, 0, none⟩), v, .func (.func 92) #[.pointer (some ⟨bw, 0, none⟩)] #[]] z B w fun z' B' r => r = .tuple #[] ∧ WrOk bw B' (ys ++ (numM xs.length ++ xs.flatMap strM)) :=
  all1 (S := 22) (T := 9) (E := El.str) rfl (fun h => en91 h) hB hx hl (wStr h) hb
theorem enc1 {v : Value} {l : List PartM} (h6 : At z b6 0 [.pointer (some ⟨bw, 0, none⟩)]) (hv : SlR El.part z v l) (hl : l.length ≤ 100) (hp : ∀ p ∈ l, partM p = true) (hB : WrOk bw B ys) (hb : (ys ++ tmplE l).length ≤ lots) :
    Va (.func (.func 94) #[] #[.pointer (some ⟨b6, 0, none⟩)]) #[v] z B w fun _ B' _ => WrOk bw B' (ys ++ tmplE l) :=
  Fn.va (args' := #[v, .pointer (some ⟨b6, 0, none⟩)]) (Fn.intro fun hS => en94 (by
    unfold vc94
    haveI : TyOne 154 := inferInstance
    refine zV_ld1 h6 ?_
    refine zV_ld1 h6 ?_
    refine CV_fn (B := B) (F := []) (by rw [List.append_nil]; exact hS) (allN (S := 93) (T := 95) (n := 3) (E := El.part) (fa := 95) rfl ⟨_, inferInstance, rfl⟩ (fun _ _ _ h => onePart h) (fun h => en95 h) hB hv (by omega) (wPart hp) hb) (by simp) ?_
    rintro z2 B2 w2 v2 hz2 hS2 ⟨rfl, hB2⟩
    rw [List.append_nil] at hS2
    exact ⟨_, _, hS2, hB2⟩)) (by simp)
theorem enc2 {v : Value} {l : List ItemM} (h6 : At z b6 0 [.pointer (some ⟨bw, 0, none⟩)]) (hv : SlR El.item z v l) (hl : l.length ≤ 10000) (hp : ∀ x ∈ l, x.name.size ≤ 40) (hB : WrOk bw B ys) (hb : (ys ++ listE l).length ≤ lots) :
    Va (.func (.func 98) #[] #[.pointer (some ⟨b6, 0, none⟩)]) #[v] z B w fun _ B' _ => WrOk bw B' (ys ++ listE l) :=
  Fn.va (args' := #[v, .pointer (some ⟨b6, 0, none⟩)]) (Fn.intro fun hS => en98 (by
    unfold vc98
    refine zV_ld1 h6 ?_
    refine zV_ld1 h6 ?_
    refine CV_fn (B := B) (F := []) (by rw [List.append_nil]; exact hS) (allN (S := 96) (T := 98) (n := 2) (E := El.item) (fa := 99) rfl ⟨_, inferInstance, rfl⟩ (fun _ _ _ h => oneItem h) (fun h => en99 h) hB hv (by omega) (wItem hp) hb) (by simp) ?_
    rintro z2 B2 w2 v2 hz2 hS2 ⟨rfl, hB2⟩
    rw [List.append_nil] at hS2
    exact ⟨_, _, hS2, hB2⟩)) (by simp)
end
/-- What Encode returns: the bytes, the error. -/
def encE (c : CodeM) : Int := if (checkM c).1 = 0 then (if (encM c).length > 400000 then 3 else 0) else (checkM c).1
def encB (c : CodeM) : List UInt8 := if (checkM c).1 = 0 then (if (encM c).length > 400000 then [] else encM c) else []
theorem byteCells_flat (l : List UInt8) : (l.flatMap fun x => [Value.int .u8 x.toNat]) = Lib.byteCells l := by
  induction l with
  | nil => rfl
  | cons a l ih => rw [List.flatMap_cons, ih]; rfl
theorem encode_of {z : Z} {w : World} {v : Value} {c : CodeM} (hc : CodeR z v c) : Fn1 35 #[v] z w fun z' r => ∃ vb, r = .tuple #[vb, .int .i64 (encE c)] ∧ SlR El.byte z' vb (encB c) := Fn1.intro fun hS => en35 (by
  unfold vc35
  obtain ⟨a1, a2, a3, a4, a5, a6, k1, k2, k3, k4, k5, k6, rfl, h1, h2, h3, h4, h5, h6⟩ := hc.form
  refine iV_bx ?_
  intro bc w1 hbc hS1
  obtain ⟨zc, hzc, hS2, hatc⟩ := hS1.frz bc
  generalize hRR : (fun (v : Value) (w' : World) => ∃ z' L', Res w z [] w' z' L' ∧ ∃ vb, v = .tuple #[vb, .int .i64 (encE c)] ∧ SlR El.byte z' vb (encB c)) = RR
  have hR : ∀ z' w' L' vb, Res w1 zc [] w' z' L' → SlR El.byte z' vb (encB c) → RR (.tuple #[vb, .int .i64 (encE c)]) w' := fun z' w' L' vb k hd => by rw [← hRR]; exact ⟨z', L', hS2.comp k, vb, rfl, hd⟩
  clear hRR
  have hS3 := hS2.self
  clear hS hS1 hS2
  haveI : CodeZ zc (.agg (codeVs a1 a2 a3 a4 a5 a6 k1 k2 k3 k4 k5 k6 c).toArray) c := ⟨hc.mono hzc⟩
  refine zV_ldN (n := 6) hatc rfl ?_
  haveI : Fz zc bc 0 [.slice a1 c.consts.length k1] := ⟨hatc.fld (i := 0) rfl rfl⟩
  haveI : Fz zc bc 1 [.slice a2 c.tmpls.length k2] := ⟨hatc.fld (i := 1) rfl rfl⟩
  haveI : Fz zc bc 2 [.slice a3 c.lists.length k3] := ⟨hatc.fld (i := 2) rfl rfl⟩
  haveI : Fz zc bc 3 [.slice a4 c.labels.length k4] := ⟨hatc.fld (i := 3) rfl rfl⟩
  haveI : Fz zc bc 4 [.slice a5 c.slots.length k5] := ⟨hatc.fld (i := 4) rfl rfl⟩
  haveI : Fz zc bc 5 [.slice a6 c.ins.length k6] := ⟨hatc.fld (i := 5) rfl rfl⟩
  (repeat (first | refine V_run ?_ | (refine CV_puz ?_; intro _ _ _ _)))
  rename_i z5 w5 hz5 hS5
  clear hS3
  refine Cond_nd (fun e1 => ?_) (fun e1 => ?_)
  · have := hR _ _ _ nilS hS5 (by rw [encB, if_neg e1]; exact SlR.nil)
    rw [encE, if_neg e1] at this
    exact this
  obtain ⟨e0, hli, hpa, hri, _, _⟩ := check_ok e1
  have hsm := small_of hli hpa hri
  have hlen := encM_len hsm
  obtain ⟨n1, n2, n3, n4, n5, n6⟩ := hsm.num
  refine V_bs (parts := [(0, _)]) rfl (by omega) ?_
  intro bb w6 hbb hS6
  clear hS5
  refine V_run ?_
  refine iV_bx ?_
  intro bw w7 hbw hS7
  clear hS6
  refine iV_al ?_
  intro b6 w8 hb6 hS8
  clear hS7
  refine iU_st ?_
  intro w9 hS9
  clear hS8
  obtain ⟨z10, hz10, hS10, g6⟩ := hS9.frz b6
  clear hS9
  have hB0 : WrOk bw [(bw, .cells [.slice (some ⟨bb, 0, none⟩) 1 1].toArray 156 (0, 0)), (bb, .cells ([Value.int .u8 81] ++ []).toArray 5 (0, 0))] [81] := ⟨_, _, rfl, rfl, .inr ⟨bb, 1, [], rfl, rfl, Nat.le_refl 1, by decide, rfl⟩⟩
  have hS11 : Res w1 zc [] w9 z10 [(bw, .cells [.slice (some ⟨bb, 0, none⟩) 1 1].toArray 156 (0, 0)), (bb, .cells ([Value.int .u8 81] ++ []).toArray 5 (0, 0))] := hS10
  clear hS10
  generalize hB1 : [(bw, Obj.cells [Value.slice (some ⟨bb, 0, none⟩) 1 1].toArray 156 (0, 0)), (bb, .cells ([Value.int .u8 81] ++ []).toArray 5 (0, 0))] = B1 at *
  clear hB1
  have hS12 := hS11.self
  have hR2 : ∀ z' w' L' vb, Res w9 z10 B1 w' z' L' → SlR El.byte z' vb (encB c) → RR (.tuple #[vb, .int .i64 (encE c)]) w' := fun z' w' L' vb k hd => hR _ _ _ _ (hS11.comp k) hd
  clear hS11 hR
  have hz510 := hz5.trans hz10
  have hzz := hzc.trans hz510
  have hatc2 := hatc.mono hz510
  haveI : Fz z10 bc 0 [.slice a1 c.consts.length k1] := ⟨hatc2.fld (i := 0) rfl rfl⟩
  haveI : Fz z10 bc 1 [.slice a2 c.tmpls.length k2] := ⟨hatc2.fld (i := 1) rfl rfl⟩
  haveI : Fz z10 bc 2 [.slice a3 c.lists.length k3] := ⟨hatc2.fld (i := 2) rfl rfl⟩
  haveI : Fz z10 bc 3 [.slice a4 c.labels.length k4] := ⟨hatc2.fld (i := 3) rfl rfl⟩
  haveI : Fz z10 bc 4 [.slice a5 c.slots.length k5] := ⟨hatc2.fld (i := 4) rfl rfl⟩
  haveI : Fz z10 bc 5 [.slice a6 c.ins.length k6] := ⟨hatc2.fld (i := 5) rfl rfl⟩
  haveI : Fz z10 b6 0 [.pointer (some ⟨bw, 0, none⟩)] := ⟨g6⟩
  have l6 : (encM c).length ≤ lots := by simp only [lots]; omega
  unfold encM at l6
  have l5 := le_app l6
  have l4 := le_app l5
  have l3 := le_app l4
  have l2 := le_app l3
  have l1 := le_app l2
  (repeat (first | refine V_run ?_ | refine fV_ld1 ?_))
  refine CV_fn (B := B1) (F := []) (by rw [List.append_nil]; exact hS12) (allStr hB0 (h1.mono hzz) (by omega) (fun s hs => by have := hsm.consts s hs; omega) l1) (by simp) ?_
  rintro z13 B13 w13 v13 hz13 hS13 ⟨rfl, hB13⟩
  rw [List.append_nil] at hS13
  clear hS12
  (repeat (first | refine V_run ?_ | refine fV_ld1 ?_))
  refine CV_fn (B := B13) (F := []) (by rw [List.append_nil]; exact hS13) (all1 (S := 23) (T := 93) (E := El.sl El.part) (g := tmplE) rfl (fun h => en93 h) hB13 (h2.mono (hzz.trans hz13)) (by omega) (fun z' w' B ys x cs hm hz hr hB hb => by
    obtain ⟨v, rfl, hv⟩ := hr
    have := hsm.tmpls x hm
    exact enc1 (g6.mono (hz13.trans hz)) hv this.1 this.2 hB hb) l2) (by simp) ?_
  rintro z14 B14 w14 v14 hz14 hS14 ⟨rfl, hB14⟩
  rw [List.append_nil] at hS14
  clear hS13
  (repeat (first | refine V_run ?_ | refine fV_ld1 ?_))
  refine CV_fn (B := B14) (F := []) (by rw [List.append_nil]; exact hS14) (all1 (S := 24) (T := 96) (E := El.sl El.item) (g := listE) rfl (fun h => en97 h) hB14 (h3.mono (hzz.trans (hz13.trans hz14))) (by omega) (fun z' w' B ys x cs hm hz hr hB hb => by
    obtain ⟨v, rfl, hv⟩ := hr
    have := hsm.lists x hm
    exact enc2 (g6.mono ((hz13.trans hz14).trans hz)) hv this.1 this.2 hB hb) l3) (by simp) ?_
  rintro z15 B15 w15 v15 hz15 hS15 ⟨rfl, hB15⟩
  rw [List.append_nil] at hS15
  clear hS14
  have y15 := hzz.trans (hz13.trans (hz14.trans hz15))
  (repeat (first | refine V_run ?_ | refine fV_ld1 ?_))
  refine CV_fn (B := B15) (F := []) (by rw [List.append_nil]; exact hS15) (allN (S := 25) (T := 54) (n := 2) (E := El.spot) (fa := 101) rfl ⟨_, inferInstance, rfl⟩ (fun _ _ _ h => oneSpot h) (fun h => en101 h) hB15 (h4.mono y15) (by omega) (wSpot hsm.labels) l4) (by simp) ?_
  rintro z16 B16 w16 v16 hz16 hS16 ⟨rfl, hB16⟩
  rw [List.append_nil] at hS16
  clear hS15
  have y16 := y15.trans hz16
  (repeat (first | refine V_run ?_ | refine fV_ld1 ?_))
  refine CV_fn (B := B16) (F := []) (by rw [List.append_nil]; exact hS16) (allStr hB16 (h5.mono y16) (by omega) (fun s hs => by have := hsm.slots s hs; omega) l5) (by simp) ?_
  rintro z17 B17 w17 v17 hz17 hS17 ⟨rfl, hB17⟩
  rw [List.append_nil] at hS17
  clear hS16
  have y17 := y16.trans hz17
  (repeat (first | refine V_run ?_ | refine fV_ld1 ?_))
  refine CV_fn (B := B17) (F := []) (by rw [List.append_nil]; exact hS17) (allN (S := 26) (T := 38) (n := 4) (E := El.ins) (fa := 103) rfl ⟨_, inferInstance, rfl⟩ (fun _ _ _ h => oneIns h) (fun h => en103 h) hB17 (h6.mono y17) (by omega) (wIns hsm.ins) l6) (by simp) ?_
  rintro z18 B18 w18 v18 hz18 hS18 ⟨rfl, hB18⟩
  rw [List.append_nil] at hS18
  clear hS17
  have hB19 : WrOk bw B18 (encM c) := hB18
  clear hB18
  obtain ⟨v19, Bv, rfl, ho⟩ := hB19
  obtain ⟨a19, c19, rfl, _⟩ := ho.form
  (repeat (first | refine V_run ?_ | refine iV_ld1 ?_ | refine fV_ld1 ?_))
  refine Cond_d (fun h => ?_) (fun h => ?_)
  · have := hR2 _ _ _ nilS hS18 (by rw [encB, if_pos e1, if_pos (by omega)]; exact SlR.nil)
    rw [encE, if_pos e1, if_pos (by omega)] at this
    exact this
  · (repeat (first | refine V_run ?_ | refine iV_ld1 ?_ | refine fV_ld1 ?_))
    have hS19 := hS18.bring Bv
    obtain ⟨z20, hz20, hS20, hv⟩ := Res.freezeSl (E := El.byte) (e := 5) (xs := encM c) (f := fun x => [Value.int .u8 x.toNat]) hS19 (by rw [byteCells_flat]; exact ho) (by simp only [big]; omega) (fun _ => rfl) (fun _ _ _ => rfl)
    have := hR2 _ _ _ (.slice a19 (encM c).length c19) hS20 (by rw [encB, if_pos e1, if_neg (by omega)]; exact hv)
    rw [encE, if_pos e1, if_neg (by omega)] at this
    exact this)
end Go.Proofs.YtbeelfopmkbllaaGreatDoor
end

section
/- Texts: Itoa, Join, quoted, joined. -/
set_option linter.unusedVariables false
set_option linter.unusedSimpArgs false
set_option maxRecDepth 20000
set_option synthInstance.maxHeartbeats 4000000
set_option synthInstance.maxSize 20000
set_option maxHeartbeats 1000000
namespace Go.Proofs.YtbeelfopmkbllaaGreatDoor
open Go Q Go.RowKit Go.Shelf

def itoaRen : Go.Shelf.Ren := ⟨fun | 171 => 187 | 243 => 237 | 246 => 263 | 283 => 278 | 284 => 279 | 285 => 280 | 286 => 281 | 129 => 289 | 317 => 288 | 318 => 290 | 319 => 291 | 320 => 292 | 337 => 296 | 338 => 297 | n => n, fun | 3 => 3 | 9 => 9 | 2 => 2 | 4 => 4 | 171 => 308 | 0 => 0 | 53 => 309 | 37 => 55 | 5 => 5 | 173 => 312 | 212 => 328 | 51 => 314 | 20 => 20 | 213 => 329 | 46 => 247 | 232 => 341 | 233 => 342 | n => n, fun | 17 => 3 | 18 => 6 | 19 => 7 | n => n⟩
theorem itoaLays : Go.Proofs.LaysM.n171 Tryz.prog itoaRen := {
  mixed := by kernel_rfl
  f129 := Tryz.func289.trans (congrArg some (by kernel_rfl))
  f171 := Tryz.func187.trans (congrArg some (by kernel_rfl))
  f243 := Tryz.func237.trans (congrArg some (by kernel_rfl))
  f246 := Tryz.func263.trans (congrArg some (by kernel_rfl))
  f283 := Tryz.func278.trans (congrArg some (by kernel_rfl))
  f284 := Tryz.func279.trans (congrArg some (by kernel_rfl))
  f285 := Tryz.func280.trans (congrArg some (by kernel_rfl))
  f286 := Tryz.func281.trans (congrArg some (by kernel_rfl))
  f317 := Tryz.func288.trans (congrArg some (by kernel_rfl))
  f318 := Tryz.func290.trans (congrArg some (by kernel_rfl))
  f319 := Tryz.func291.trans (congrArg some (by kernel_rfl))
  f320 := Tryz.func292.trans (congrArg some (by kernel_rfl))
  f337 := Tryz.func296.trans (congrArg some (by kernel_rfl))
  f338 := Tryz.func297.trans (congrArg some (by kernel_rfl))
  t0 := Tryz.underlying0
  a0 := Tryz.isAgg0
  z0 := Tryz.sizeOf0
  v0 := Tryz.zeroValue0
  t2 := Tryz.underlying2
  a2 := Tryz.isAgg2
  z2 := Tryz.sizeOf2
  v2 := Tryz.zeroValue2
  t3 := Tryz.underlying3
  a3 := Tryz.isAgg3
  z3 := Tryz.sizeOf3
  v3 := Tryz.zeroValue3
  t4 := Tryz.underlying4
  a4 := Tryz.isAgg4
  z4 := Tryz.sizeOf4
  v4 := Tryz.zeroValue4
  t5 := Tryz.underlying5
  a5 := Tryz.isAgg5
  z5 := Tryz.sizeOf5
  v5 := Tryz.zeroValue5
  t9 := Tryz.underlying9
  a9 := Tryz.isAgg9
  z9 := Tryz.sizeOf9
  v9 := Tryz.zeroValue9
  t20 := Tryz.underlying20
  a20 := Tryz.isAgg20
  z20 := Tryz.sizeOf20
  v20 := Tryz.zeroValue20
  t37 := Tryz.underlying55
  a37 := Tryz.isAgg55
  z37 := Tryz.sizeOf55
  v37 := Tryz.zeroValue55
  t46 := Tryz.underlying247
  a46 := Tryz.isAgg247
  z46 := Tryz.sizeOf247
  v46 := Tryz.zeroValue247
  t51 := Tryz.underlying314
  a51 := Tryz.isAgg314
  z51 := Tryz.sizeOf314
  v51 := Tryz.zeroValue314
  t53 := Tryz.underlying309
  a53 := Tryz.isAgg309
  z53 := Tryz.sizeOf309
  v53 := Tryz.zeroValue309
  t171 := Tryz.underlying308
  a171 := Tryz.isAgg308
  z171 := Tryz.sizeOf308
  v171 := Tryz.zeroValue308
  t173 := Tryz.underlying312
  a173 := Tryz.isAgg312
  z173 := Tryz.sizeOf312
  v173 := Tryz.zeroValue312
  t212 := Tryz.underlying328
  a212 := Tryz.isAgg328
  z212 := Tryz.sizeOf328
  v212 := Tryz.zeroValue328
  t213 := Tryz.underlying329
  a213 := Tryz.isAgg329
  z213 := Tryz.sizeOf329
  t232 := Tryz.underlying341
  a232 := Tryz.isAgg341
  z232 := Tryz.sizeOf341
  v232 := Tryz.zeroValue341
  t233 := Tryz.underlying342
  a233 := Tryz.isAgg342
  z233 := Tryz.sizeOf342
  v233 := Tryz.zeroValue342
  g17 := by kernel_rfl
  g18 := by kernel_rfl
  g19 := by kernel_rfl
  i0 := by kernel_rfl
  i2 := by kernel_rfl
  i3 := by kernel_rfl
  i4 := by kernel_rfl
  i5 := by kernel_rfl
  i9 := by kernel_rfl
  i20 := by kernel_rfl
  i37 := by kernel_rfl
  i46 := by kernel_rfl
  i51 := by kernel_rfl
  i53 := by kernel_rfl
  i171 := by kernel_rfl
  i173 := by kernel_rfl
  i212 := by kernel_rfl
  i232 := by kernel_rfl
  i233 := by kernel_rfl
  m17 := by kernel_rfl
  m18 := by kernel_rfl
  m19 := by kernel_rfl }
/-- The table of powers of ten lies in frozen memory. -/
class Tab (z : Z) : Prop where
  h : ∀ w, Sub z w → Lib.TabIs Tryz.prog w "internal/strconv.uint64pow10" .u64 Lib.pow10Tab
theorem Tab.le {z z' : Z} (h : Tab z) (hz : Le z z') : Tab z' := ⟨fun w hw => h.h w fun b o hb => hw b o (hz b o hb)⟩
def itoaB (n : Int) : ByteArray := ⟨(Lib.itoa n).toArray⟩
theorem itoaB_size {n : Int} (h : InI n) : (itoaB n).size ≤ 21 := by
  have := Lib.itoa_length_le n (by have := h.h; omega) (by have := h.h; omega)
  show (Lib.itoa n).toArray.size ≤ 21
  simpa using this
theorem grow_res {w : World} {z : Z} {k : Nat} {os : Array Obj} (h : Own w z []) : Res w z [] (Sort.grow (w.drewN k) os) z [] :=
  ⟨rfl, rfl, rfl, by simp [Sort.grow, World.drewN], fun b hb _ => by simp [Sort.grow, World.drewN, Array.getElem?_append, hb], fun b o hb => by
    have h1 := h.sub b o hb
    have h2 := lt_of_get h1
    simp only [Sort.grow, World.drewN, Array.getElem?_append, h2, if_true]; exact h1, Le.refl _, fun b hb => .inl hb, fun p hp => (by cases hp), .nil⟩
instance {z0 : Z} {n : Int} [ht : Tab z0] [hn : InI n] : PuZ z0 187 #[.int .i64 n] (.string (itoaB n)) := ⟨fun z w hz ho =>
  Calls.mono (Any.strconv_Itoa itoaLays n (by have := hn.h; omega) (by have := hn.h; omega) w ((ht.le hz).h w ho.sub)) (by
    rintro e w' ⟨rfl, k, os, rfl⟩
    exact ⟨z, grow_res ho, rfl⟩)⟩
instance {s : ByteArray} {c : UInt8} {t : ByteArray} [h : RepOk s c t (-1)] : Pu 186 #[.string s, .string (b1 c), .string t] (.string (replB s c t (-1))) := ⟨fun z w => Fn1.intro fun hS => en186 (by
  unfold vc186
  (repeat (first | (refine iDr ?_; intro _ _) | refine V_run ?_ | refine PV_run ?_ | refine HV_run ?_ | refine iV_ld1 ?_ | refine iV_ldN ?_ | (refine iV_bx ?_; intro _ _ _ _) | (refine iV_al ?_; intro _ _ _ _) | (refine iV_mm ?_; intro _ _ _ _) | (refine iU_st ?_; intro _ _) | refine iHV_1 ?_ | refine iHV_N ?_ | refine iRI_1 ?_ | refine iRI_N ?_ | refine Cond_t ?_ | refine Cond_f ?_ | refine JB ?_ | (refine JC ?_; intro _ _ _ _) | (refine JGB ?_; intro _ _ _ _) | (refine J1 ?_; intro _ _) | (refine J0 ?_; intro _ _) | (refine J2 ?_; intro _ _) | (refine J3 ?_; intro _ _) | (refine J4 ?_; intro _ _) | refine K1 ?_ | refine K0 ?_ | refine K2 ?_ | refine K3 ?_ | refine K4 ?_ | (refine CV_pu ?_; intro _ _ _ _) | (refine CV_puz ?_; intro _ _ _ _) | refine fRI_1 ?_ | refine fRI_N ?_ | refine gHV_lkI ?_ | refine gRI_lkI ?_ | refine gV_lkI ?_ | refine fV_ldN ?_ | refine fV_ld1 ?_ | refine fHV_ldN ?_ | refine fHV_ld1 ?_ | refine NilW_some ?_ | refine iCW_1 ?_ | refine iCW_N ?_ | refine Pk_b ?_))
  exact ⟨_, _, ‹_›, rfl⟩)⟩
/-- Two strings whose lengths' sum is an int. -/
class Cat (a b : ByteArray) : Prop where
  h : a.size + b.size ≤ 9223372036854775807
instance {t : Nat} {a b : ByteArray} [h : Cat a b] : Run (bi .add t (.string a) (.string b)) (.string (a ++ b)) := ⟨fun w => by
  show (binOp .add t (.string a) (.string b)).run Tryz.prog w = _
  rw [binOp_string_add]; exact run_string_add_sum w a b h.h⟩
/-- quoted: the text between quotes, each quote within it doubled. -/
def quotedB (s : ByteArray) : ByteArray := b1 34 ++ replB s 34 ⟨#[34, 34]⟩ (-1) ++ b1 34
theorem replB_size {s : ByteArray} {c : UInt8} {t : ByteArray} : (replB s c t (-1)).size ≤ s.size + (bytes s).count c * t.size := by
  have h := replL_len (c := c) (t := bytes t) (bytes s) ((bytes s).count c)
  have e : replK s c (-1) = (bytes s).count c := by unfold replK; rw [if_pos (by omega)]
  show (replL c (bytes t) (replK s c (-1)) (bytes s)).toArray.size ≤ _
  rw [e, List.size_toArray, size_bytes s, size_bytes t]
  exact h
theorem count_le_size (s : ByteArray) (c : UInt8) : (bytes s).count c ≤ s.size := by rw [size_bytes]; exact List.count_le_length
theorem quotedB_size {s : ByteArray} : (quotedB s).size ≤ 3 * s.size + 2 := by
  have h1 := replB_size (s := s) (c := 34) (t := ⟨#[34, 34]⟩)
  have h2 := count_le_size s 34
  have h3 : (⟨#[34, 34]⟩ : ByteArray).size = 2 := rfl
  have h4 : (b1 34).size = 1 := rfl
  rw [h3] at h1
  show ((b1 34 ++ replB s 34 ⟨#[34, 34]⟩ (-1)) ++ b1 34).size ≤ _
  rw [ByteArray.size_append, ByteArray.size_append, h4]
  omega
class Brief (s : ByteArray) : Prop where
  h : s.size ≤ 1000000
instance {s : ByteArray} [h : Brief s] : Pu 127 #[.string s] (.string (quotedB s)) := ⟨fun z w => Fn1.intro fun hS => en127 (by
  have h1 := h.h
  have h2 := count_le_size s 34
  have h3 : (⟨#[34, 34]⟩ : ByteArray).size = 2 := rfl
  haveI : RepOk s 34 ⟨#[34, 34]⟩ (-1) := ⟨by decide, by omega, by rw [h3]; omega⟩
  unfold vc127
  refine CV_pu (v := .string (replB s 34 ⟨#[34, 34]⟩ (-1))) (g := (inferInstance : Pu 186 #[.string s, .string (b1 34), .string ⟨#[34, 34]⟩] _)) ?_
  intro z1 w1 hz1 hS1
  clear hS
  have h4 := replB_size (s := s) (c := 34) (t := ⟨#[34, 34]⟩)
  have h5 : (b1 34).size = 1 := rfl
  rw [h3] at h4
  haveI : Cat (b1 34) (replB s 34 ⟨#[34, 34]⟩ (-1)) := ⟨by omega⟩
  haveI : Cat (b1 34 ++ replB s 34 ⟨#[34, 34]⟩ (-1)) (b1 34) := ⟨by rw [ByteArray.size_append]; omega⟩
  refine V_run (v := .string (b1 34 ++ replB s 34 ⟨#[34, 34]⟩ (-1))) (g := (inferInstance : Run (bi .add 9 (.string (b1 34)) _) _)) ?_
  refine V_run (v := .string (quotedB s)) (g := (inferInstance : Run (bi .add 9 _ (.string (b1 34))) _)) ?_
  exact ⟨_, _, hS1, rfl⟩)⟩
/-- The words, with a space between any two. -/
def joinW : List ByteArray → List UInt8
  | [] => []
  | x :: r => bytes x ++ r.flatMap fun y => 32 :: bytes y
def sizes (l : List ByteArray) : Nat := (l.map (·.size)).sum
theorem mem_sizes {l : List ByteArray} {x : ByteArray} (h : x ∈ l) : x.size ≤ sizes l := by
  induction l with
  | nil => cases h
  | cons a l ih =>
    simp only [sizes, List.map_cons, List.sum_cons]
    rcases List.mem_cons.1 h with rfl | h
    · omega
    · have := ih h; simp only [sizes] at this; omega
theorem sizes_take (l : List ByteArray) (k : Nat) (h : k < l.length) : sizes (l.take (k + 1)) = sizes (l.take k) + l[k].size := by
  rw [sizes, sizes, List.take_succ_eq_append_getElem h, List.map_append, List.sum_append]; simp
theorem sizes_take_le (l : List ByteArray) (k : Nat) : sizes (l.take k) ≤ sizes l := by
  have h : sizes l = sizes (l.take k) + sizes (l.drop k) := by
    conv => lhs; rw [← List.take_append_drop k l]
    rw [sizes, List.map_append, List.sum_append]; rfl
  omega
theorem wFlat (l : List ByteArray) : (l.flatMap fun y => 32 :: bytes y).length = l.length + sizes l := by
  induction l with
  | nil => rfl
  | cons a l ih => rw [List.flatMap_cons, List.length_append, ih, List.length_cons, List.length_cons, ← size_bytes]; simp only [sizes, List.map_cons, List.sum_cons]; omega
theorem joinW_len (l : List ByteArray) : (joinW l).length ≤ sizes l + l.length := by
  cases l with
  | nil => simp [joinW]
  | cons x r => rw [joinW, List.length_append, wFlat, ← size_bytes, List.length_cons]; simp only [sizes, List.map_cons, List.sum_cons]; omega
def joinB (l : List ByteArray) : ByteArray := ⟨(joinW l).toArray⟩
theorem join_of {z : Z} {w : World} {v : Value} {l : List ByteArray} (hv : SlR El.str z v l) (hn : l.length ≤ 1000) (hl : sizes l ≤ 1000000000) :
    Fn1 185 #[v, .string (b1 32)] z w fun _ r => r = .string (joinB l) := Fn1.intro fun hS => en185 (by
  unfold vc185
  obtain ⟨_, a, cap, rfl, hcap, hel⟩ := hv.form
  refine V_run ?_
  refine V_run ?_
  refine Cond_d (fun h => ?_) (fun h => ?_)
  · have : l = [] := List.eq_nil_of_length_eq_zero (by omega)
    subst this
    exact ⟨_, _, hS, rfl⟩
  refine V_run ?_
  refine Cond_d (fun h1 => ?_) (fun h1 => ?_)
  · obtain ⟨x, hx⟩ : ∃ x, l = [x] := by
      cases l with
      | nil => simp at h1
      | cons x r => exact ⟨x, by rw [List.eq_nil_of_length_eq_zero (l := r) (by simp only [List.length_cons] at h1; omega)]⟩
    subst hx
    obtain ⟨b, off, cs, rfl, hr, hat⟩ := hel 0 x rfl
    obtain ⟨rfl, _⟩ := hr
    haveI : InR 0 (([x] : List ByteArray).length : Nat) := ⟨by decide, by simp⟩
    refine V_run ?_
    refine zV_ld1 (by simpa using hat) ?_
    exact ⟨_, _, hS, by rw [joinB, joinW, List.flatMap_nil, List.append_nil]⟩
  intro K hK
  obtain ⟨x, r, rfl⟩ : ∃ x r, l = x :: r := by
    cases l with
    | nil => exact absurd rfl h
    | cons x r => exact ⟨x, r, rfl⟩
  obtain ⟨b, off, cs, rfl, hr, hat⟩ := hel 0 x rfl
  have hxr : sizes (x :: r) = x.size + sizes r := by simp [sizes]
  have hlr : (x :: r).length = r.length + 1 := rfl
  have hr0 : 0 < r.length := by simp only [List.length_cons] at h1; omega
  rw [hlr] at hn hcap
  have main : K [.int .i64 r.length] w := by
    refine hK _ _ fun _ => ?_
    refine V_run ?_
    refine LoopR2 (fun k u v => v = .int .i64 (k : Nat) ∧ k ≤ (x :: r).length ∧ u = .int .i64 (r.length + sizes ((x :: r).take k) : Nat)) (fun k => (x :: r).length - k) 0 ⟨rfl, Nat.zero_le _, by simp [sizes]⟩ ?_
    rintro I M k u v w1 z1 m ⟨rfl, hk, rfl⟩ hz1 hS1 back
    have hk2 := sizes_take_le (x :: r) k
    refine V_run ?_
    refine Cond_d (fun h2 => ?_) (fun h2 => ?_)
    · have hk1 : k < (x :: r).length := by omega
      obtain ⟨cs1, hr1, hat1⟩ := hv.get (List.getElem?_eq_getElem hk1)
      obtain ⟨rfl, _⟩ := hr1
      have hst := sizes_take (x :: r) k hk1
      have hst2 := sizes_take_le (x :: r) (k + 1)
      haveI : InR (k : Int) ((x :: r).length : Nat) := ⟨by omega, by omega⟩
      haveI : InI ((k : Int) + 1) := ⟨by omega⟩
      refine V_run ?_
      refine zV_ld1 (hat1.mono hz1) ?_
      intro K0 hK0
      haveI : InI ((9223372036854775807 : Int) - ((r.length + sizes ((x :: r).take k) : Nat) : Int)) := ⟨by omega⟩
      refine V_run ?_
      refine V_run ?_
      refine V_run ?_
      refine Cond_d (fun h3 => ?_) (fun h3 => ?_)
      · omega
      refine hK0 _ fun _ => ?_
      haveI : InI (((r.length + sizes ((x :: r).take k) : Nat) : Int) + (((x :: r)[k].size : Nat) : Int)) := ⟨by omega⟩
      refine V_run ?_
      refine V_run ?_
      refine V_run ?_
      exact back (k + 1) _ _ _ _ ⟨by simp, by omega, by rw [hst]; congr 1; omega⟩ (Le.refl _) hS1 (by omega)
    · have hk3 : k = (x :: r).length := by omega
      subst hk3
      rw [List.take_length]
      have htot : r.length + sizes (x :: r) ≤ 2000000000 := by omega
      clear back
      refine iV_al ?_
      intro bb w2 hbb hS2
      refine CV_fn (B := [(bb, buO none (.slice none 0 0))]) (F := []) (by simpa using hS2) (growB (n := ((r.length + sizes (x :: r) : Nat) : Int)) (.inl rfl) (by omega) (by omega)) (by simp) ?_
      rintro z3 B3 w3 v3 hz3 hS3 ⟨hB3, rfl⟩
      rw [List.append_nil] at hS3
      haveI : InR 0 ((x :: r).length : Nat) := ⟨by omega, by omega⟩
      obtain ⟨rfl, _⟩ := hr
      have hz03 : Le z z3 := hz1.trans hz3
      refine V_run ?_
      refine zV_ld1 (by simpa using hat.mono hz03) ?_
      refine CV_fn (B := B3) (F := []) (by simpa using hS3) (writeString (s := x) hB3 (by simp only [List.length_nil, room]; omega)) (by simp) ?_
      rintro z4 B4 w4 v4 hz4 hS4 ⟨hB4, rfl⟩
      rw [List.append_nil] at hS4
      haveI : InR 1 ((((x :: r).length : Nat) : Int) + 1) := ⟨by omega, by omega⟩
      have hvd : SlR El.str z (.slice (some ⟨b, if cap = Int.toNat 1 then off else off + Int.toNat 1 * 1, none⟩) ((x :: r).length - Int.toNat 1) (cap - Int.toNat 1)) r := hv.drop (s := 1) (k := 1) rfl (by omega)
      refine V_run ?_
      have hdl : ((((x :: r).length : Nat) : Int) - 1).toNat = r.length := by omega
      clear hS1 hS2 hS3 hK
      generalize (if cap = Int.toNat 1 then off else off + Int.toNat 1 * 1) = off2 at hvd ⊢
      generalize cap - Int.toNat 1 = cap2 at hvd ⊢
      rw [show (x :: r).length - Int.toNat 1 = r.length from rfl] at hvd ⊢
      have hz04 : Le z z4 := hz03.trans hz4
      rw [List.nil_append, Lib.strCells_eq] at hB4
      refine V_run ?_
      refine LoopG1 (fun (k : Nat) u w' => u = .int .i64 k ∧ k ≤ r.length ∧ ∃ B' z', Le z z' ∧ BuOk bb B' (Lib.byteCells (bytes x ++ (r.take k).flatMap fun y => 32 :: bytes y)) ∧ Res w z [] w' z' B') (fun k => r.length - k) 0 ⟨rfl, Nat.zero_le _, B4, z4, hz04, by simpa using hB4, hS4⟩ ?_
      rintro I M k u w5 m ⟨rfl, hk, B5, z5, hz5, hB5, hS5⟩ back
      clear hS4 hB4
      have hlen : ∀ j, (bytes x ++ (r.take j).flatMap fun y => 32 :: bytes y).length ≤ 1000002000 := fun j => by
        have h5 := sizes_take_le r j
        rw [List.length_append, wFlat, ← size_bytes, List.length_take]
        omega
      have hl5 := hlen k
      refine V_run ?_
      refine Cond_d (fun h6 => ?_) (fun h6 => ?_)
      · have hk1 : k < r.length := by omega
        obtain ⟨cs1, hr1, hat1⟩ := hvd.get (List.getElem?_eq_getElem hk1)
        obtain ⟨rfl, _⟩ := hr1
        have hst := sizes_take r k hk1
        have hst2 := sizes_take_le r (k + 1)
        haveI : InR (k : Int) (r.length : Nat) := ⟨by omega, by omega⟩
        haveI : InI ((k : Int) + 1) := ⟨by omega⟩
        have e1 : (b1 32).size = 1 := rfl
        refine V_run ?_
        refine zV_ld1 (hat1.mono hz5) ?_
        refine CV_fn (B := B5) (F := []) (by simpa using hS5) (writeString (s := b1 32) hB5 (by rw [Lib.byteCells_length, e1]; simp only [room]; omega)) (by simp) ?_
        rintro z6 B6 w6 v6 hz6 hS6 ⟨hB6, rfl⟩
        rw [List.append_nil] at hS6
        rw [Lib.strCells_eq, ← Lib.byteCells_append] at hB6
        have hgs : r[k].size ≤ 1000000000 := by omega
        refine CV_fn (B := B6) (F := []) (by simpa using hS6) (writeString (s := r[k]) hB6 (by
          rw [Lib.byteCells_length, List.length_append]
          have h9 : (b1 32).data.toList.length = 1 := rfl
          rw [h9]; simp only [room]; omega)) (by simp) ?_
        rintro z7 B7 w7 v7 hz7 hS7 ⟨hB7, rfl⟩
        rw [List.append_nil] at hS7
        rw [Lib.strCells_eq, ← Lib.byteCells_append] at hB7
        refine V_run ?_
        refine back (k + 1) _ _ ⟨by simp, by omega, B7, z7, (hz5.trans hz6).trans hz7, ?_, hS7⟩ (by omega)
        rw [List.take_succ_eq_append_getElem hk1, List.flatMap_append, ← List.append_assoc]
        simp only [List.flatMap_cons, List.flatMap_nil, List.append_nil]
        rw [show (32 :: bytes r[k]) = (b1 32).data.toList ++ bytes r[k] from rfl, ← List.append_assoc]
        exact hB7
      · have hk3 : k = r.length := by omega
        subst hk3
        rw [List.take_length] at hB5 hl5
        refine CV_fn (B := B5) (F := []) (by simpa using hS5) (builderString hB5 (by simp only [room]; omega)) (by simp) ?_
        rintro z8 B8 w8 v8 hz8 hS8 ⟨rfl, rfl⟩
        exact ⟨_, _, hS8, rfl⟩
  have hq : ((r.length + 1 : Nat) : Int) - 1 = (r.length : Nat) := by omega
  haveI : InI ((((x :: r).length : Nat) : Int) - 1) := ⟨by omega⟩
  haveI : InR 0 ((((x :: r).length : Nat) : Int) - 1) := ⟨by omega, by omega⟩
  have hdiv : (1 : Int) < Int.tdiv 9223372036854775807 ((((x :: r).length : Nat) : Int) - 1) := by
    rw [Int.tdiv_eq_ediv_of_nonneg (by omega)]
    have := Int.ediv_mul_le 9223372036854775807 (b := (((x :: r).length : Nat) : Int) - 1) (by omega)
    have h2 := Int.lt_ediv_add_one_mul_self 9223372036854775807 (b := (((x :: r).length : Nat) : Int) - 1) (by omega)
    generalize (9223372036854775807 : Int) / ((((x :: r).length : Nat) : Int) - 1) = q at *
    generalize (((x :: r).length : Nat) : Int) - 1 = d at *
    apply Classical.byContradiction
    intro hq1
    have hd : d ≤ 1000 := by omega
    have : (q + 1) * d ≤ 2 * d := Int.mul_le_mul_of_nonneg_right (by omega) (by omega)
    omega
  haveI : InI (9223372036854775807 : Int) := ⟨by omega⟩
  refine V_run ?_
  refine V_run ?_
  refine Cond_d (fun h2 => ?_) (fun h2 => ?_)
  · intro K1 hK1
    refine V_run ?_
    refine V_run ?_
    refine V_run ?_
    refine V_run ?_
    refine V_run ?_
    refine Cond_d (fun h3 => ?_) (fun h3 => ?_)
    · exfalso
      have : (((b1 32).size : Nat) : Int) = 1 := rfl
      omega
    refine hK1 _ fun _ => ?_
    have e1 : (((b1 32).size : Nat) : Int) = 1 := rfl
    haveI : InI ((1 : Int) * ((((x :: r).length : Nat) : Int) - 1)) := ⟨by omega⟩
    haveI : InI (0 + (1 : Int) * ((((x :: r).length : Nat) : Int) - 1)) := ⟨by omega⟩
    refine V_run ?_
    refine V_run ?_
    refine V_run ?_
    refine V_run ?_
    refine V_run ?_
    rw [show (0 : Int) + 1 * ((((x :: r).length : Nat) : Int) - 1) = (r.length : Nat) by rw [hlr]; omega]
    exact main
  · exact absurd (show (0 : Int) < (((b1 32).size : Nat) : Int) by decide) h2)

theorem joined_of {z : Z} {w : World} {v : Value} {l : List ByteArray} (hv : SlR El.str z v l) (hn : l.length ≤ 1000) (hl : sizes l ≤ 1000000000) :
    Fn1 126 #[v] z w fun _ r => r = .string (joinB l) := Fn1.intro fun hS => en126 (by
  unfold vc126
  refine CV_1 (join_of hv hn hl) ?_
  rintro z1 w1 v1 hz1 hS1 rfl
  exact ⟨_, _, hS1, rfl⟩)
theorem joinB_size (l : List ByteArray) : (joinB l).size ≤ sizes l + l.length := by
  have := joinW_len l
  show (joinW l).toArray.size ≤ _
  rw [List.size_toArray]; exact this
theorem map_flatS : ∀ l : List ByteArray, (l.map fun x => Value.string x) = l.flatMap fun x => [Value.string x]
  | [] => rfl
  | a :: l => by rw [List.map_cons, List.flatMap_cons, map_flatS l]; rfl
/-- The words of a row that is written out, joined. -/
theorem V_words {w0 w : World} {z0 z : Z} {B0 L : Bl} {K : Value → World → Prop} [hS : Res w0 z0 B0 w z L] {k n : Nat} {parts : List (Nat × Value)} {out : List Value} [gf : FillS 1 0 parts out n] (l : List ByteArray) (ho : out = l.map fun x => Value.string x) (hn : k = n) (hsz : n ≤ 1000) (hl : sizes l ≤ 1000000000)
    (hk : ∀ z' w', Le z z' → Res w0 z0 B0 w' z' L → K (.string (joinB l)) w') : V (bs 22 k parts.toArray) w fun t w => CV (.func (.func 126) #[] #[]) #[t] w K := by
  refine V_bs hn (by omega) ?_
  intro b w1 hb hS1
  have hfl : out = l.flatMap fun x => [Value.string x] := by rw [ho]; exact map_flatS l
  have hlen : out.length = n := by obtain ⟨h1, h2, _⟩ := gf.h; omega
  have hll : l.length = n := by rw [← hlen, ho, List.length_map]
  obtain ⟨z2, hz2, hS2, hv⟩ := Res.freezeSl (E := El.str) (e := 9) (B := [(b, _)]) (L := L) (v := .slice (some ⟨b, 0, none⟩) l.length n) (xs := l) (f := fun x => [Value.string x]) hS1 ⟨by rw [← hfl, hlen, hll]; exact (Nat.mul_one _).symm, .inr ⟨b, n, [], by rw [← hfl, List.append_nil], rfl, by omega, by simp only [maxLen]; omega, by rw [← hfl, List.append_nil, hlen]; exact (Nat.mul_one _).symm⟩⟩ (by simp only [big]; omega) (fun _ => rfl) (fun z x hx => ⟨rfl, by have := mem_sizes hx; simp only [big]; omega⟩)
  rw [hll] at hv
  refine CV_1 (joined_of hv (by omega) hl) ?_
  rintro z3 w3 v3 hz3 hS3 rfl
  exact hk _ _ (hz2.trans hz3) hS3
end Go.Proofs.YtbeelfopmkbllaaGreatDoor
end

section
/- Texts: a template's line, a list's, a label's, an instruction's. -/
set_option linter.unusedVariables false
set_option linter.unusedSimpArgs false
set_option maxRecDepth 20000
set_option synthInstance.maxHeartbeats 4000000
set_option synthInstance.maxSize 20000
set_option maxHeartbeats 1000000
namespace Go.Proofs.YtbeelfopmkbllaaGreatDoor
open Go Q Go.RowKit

def tmplStep (s : ByteArray) (p : PartM) : ByteArray := joinB [s, itoaB p.kind, quotedB p.text, itoaB p.n]
def tmplT (l : List PartM) : ByteArray := l.foldl tmplStep ⟨#[116, 109, 112, 108]⟩
theorem foldl_size {α : Type} {f : ByteArray → α → ByteArray} {n : Nat} : ∀ (l : List α) (s : ByteArray), (∀ s x, x ∈ l → (f s x).size ≤ s.size + n) → (l.foldl f s).size ≤ s.size + l.length * n
  | [], s, h => by simp
  | x :: l, s, h => by
    have h1 := foldl_size l (f s x) fun s y hy => h s y (List.mem_cons_of_mem _ hy)
    have h2 := h s x List.mem_cons_self
    rw [List.foldl_cons, List.length_cons, Nat.add_mul, Nat.one_mul]
    omega
theorem tmplStep_size {s : ByteArray} {p : PartM} (h1 : InI p.kind) (h2 : InI p.n) (h3 : p.text.size ≤ 1000000) : sizes [s, itoaB p.kind, quotedB p.text, itoaB p.n] ≤ s.size + 3000050 ∧ (tmplStep s p).size ≤ s.size + 3000060 := by
  have a := itoaB_size h1
  have b := itoaB_size h2
  have c := quotedB_size (s := p.text)
  have d : sizes [s, itoaB p.kind, quotedB p.text, itoaB p.n] ≤ s.size + 3000050 := by simp only [sizes, List.map_cons, List.map_nil, List.sum_cons, List.sum_nil]; omega
  have e := joinB_size [s, itoaB p.kind, quotedB p.text, itoaB p.n]
  simp only [List.length_cons, List.length_nil] at e
  exact ⟨d, by rw [tmplStep]; omega⟩
theorem take_fold {α : Type} {f : ByteArray → α → ByteArray} {s : ByteArray} {l : List α} {k : Nat} (h : k < l.length) : (l.take (k + 1)).foldl f s = f ((l.take k).foldl f s) l[k] := by
  rw [List.take_succ_eq_append_getElem h, List.foldl_append]; rfl
theorem tmplLine_of {z : Z} {w : World} {v : Value} {l : List PartM} [ht : Tab z] (hv : SlR El.part z v l) (hl : l.length ≤ 100) (hp : ∀ p ∈ l, partM p = true) :
    Fn1 128 #[v] z w fun _ r => r = .string (tmplT l) := Fn1.intro fun hS => en128 (by
  unfold vc128
  obtain ⟨_, a, cap, rfl, hcap, hel⟩ := hv.form
  refine V_run ?_
  refine LoopR2 (fun k s i => i = .int .i64 (k : Nat) ∧ k ≤ l.length ∧ s = .string ((l.take k).foldl tmplStep ⟨#[116, 109, 112, 108]⟩)) (fun k => l.length - k) 0 ⟨rfl, Nat.zero_le _, rfl⟩ ?_
  rintro I M k u v w1 z1 m ⟨rfl, hk, rfl⟩ hz1 hS1 back
  clear hS
  refine V_run ?_
  refine Cond_d (fun h => ?_) (fun h => ?_)
  · have hlt : k < l.length := by omega
    have hi := List.getElem?_eq_getElem hlt
    have hpk := part_small (hp _ (List.getElem_mem hlt))
    have hlen := foldl_size (f := tmplStep) (n := 3000060) (l.take k) ⟨#[116, 109, 112, 108]⟩ fun s x hx => (tmplStep_size ⟨by have := part_small (hp _ (List.mem_of_mem_take hx)); omega⟩ ⟨by have := part_small (hp _ (List.mem_of_mem_take hx)); omega⟩ (by have := part_small (hp _ (List.mem_of_mem_take hx)); omega)).2
    rw [List.length_take, Nat.min_eq_left hk, show (⟨#[116, 109, 112, 108]⟩ : ByteArray).size = 4 from rfl] at hlen
    generalize hs : (l.take k).foldl tmplStep ⟨#[116, 109, 112, 108]⟩ = s at back hlen ⊢
    haveI i1 : InI l[k].kind := ⟨by omega⟩
    haveI i2 : InI l[k].n := ⟨by omega⟩
    haveI i3 : Brief l[k].text := ⟨by omega⟩
    have hts := tmplStep_size (s := s) i1 i2 i3.h
    haveI : InR (k : Int) (l.length : Nat) := ⟨by omega, by omega⟩
    haveI : InI ((k : Int) + 1) := ⟨by omega⟩
    obtain ⟨b, off, cs, rfl, ⟨rfl, _⟩, hat⟩ := hel _ _ hi
    haveI : Fz z b (off + (k : Int).toNat * 3) l[k].cells := ⟨hat⟩
    (repeat (first | (refine iDr ?_; intro _ _) | refine V_run ?_ | refine PV_run ?_ | (refine iV_bx ?_; intro _ _ _ _) | (refine iU_st ?_; intro _ _) | refine iHV_1 ?_ | refine iRI_1 ?_ | (refine CV_pu ?_; intro _ _ _ _) | (refine CV_puz ?_; intro _ _ _ _) | refine fV_ldN ?_))
    refine V_words (out := [_, _, _, _]) [s, itoaB l[k].kind, quotedB l[k].text, itoaB l[k].n] rfl rfl (by omega) (by omega) ?_
    intro z2 w2 hz2 hS2
    refine V_run ?_
    exact back (k + 1) _ _ _ _ ⟨by simp, by omega, by rw [take_fold hlt, hs]; rfl⟩ (by (repeat (first | assumption | refine Le.trans ?_ (by assumption : Le _ _)))) hS2.drop (by omega)
  · have hk2 : k = l.length := by omega
    subst hk2
    rw [List.take_length]
    exact ⟨_, _, hS1, rfl⟩)

def listStep (s : ByteArray) (x : ItemM) : ByteArray := joinB [s, if x.via = true then b1 40 ++ x.name ++ b1 41 else x.name]
def listT (l : List ItemM) : ByteArray := l.foldl listStep ⟨#[108, 105, 115, 116]⟩
theorem listStep_size {s : ByteArray} {x : ItemM} (h : x.name.size ≤ 40) : sizes [s, if x.via = true then b1 40 ++ x.name ++ b1 41 else x.name] ≤ s.size + 42 ∧ (listStep s x).size ≤ s.size + 50 := by
  have d : sizes [s, if x.via = true then b1 40 ++ x.name ++ b1 41 else x.name] ≤ s.size + 42 := by
    simp only [sizes, List.map_cons, List.map_nil, List.sum_cons, List.sum_nil]
    split
    · rw [ByteArray.size_append, ByteArray.size_append, show (b1 40).size = 1 from rfl, show (b1 41).size = 1 from rfl]; omega
    · omega
  have e := joinB_size [s, if x.via = true then b1 40 ++ x.name ++ b1 41 else x.name]
  simp only [List.length_cons, List.length_nil] at e
  exact ⟨d, by rw [listStep]; omega⟩
theorem listLine_of {z : Z} {w : World} {v : Value} {l : List ItemM} (hv : SlR El.item z v l) (hl : l.length ≤ 10000) (hp : ∀ x ∈ l, x.name.size ≤ 40) :
    Fn1 129 #[v] z w fun _ r => r = .string (listT l) := Fn1.intro fun hS => en129 (by
  unfold vc129
  obtain ⟨_, a, cap, rfl, hcap, hel⟩ := hv.form
  refine V_run ?_
  refine LoopR2 (fun k s i => i = .int .i64 (k : Nat) ∧ k ≤ l.length ∧ s = .string ((l.take k).foldl listStep ⟨#[108, 105, 115, 116]⟩)) (fun k => l.length - k) 0 ⟨rfl, Nat.zero_le _, rfl⟩ ?_
  rintro I M k u v w1 z1 m ⟨rfl, hk, rfl⟩ hz1 hS1 back
  clear hS
  refine V_run ?_
  refine Cond_d (fun h => ?_) (fun h => ?_)
  · have hlt : k < l.length := by omega
    have hi := List.getElem?_eq_getElem hlt
    have hpk := hp _ (List.getElem_mem hlt)
    have hlen := foldl_size (f := listStep) (n := 50) (l.take k) ⟨#[108, 105, 115, 116]⟩ fun s x hx => (listStep_size (hp _ (List.mem_of_mem_take hx))).2
    rw [List.length_take, Nat.min_eq_left hk, show (⟨#[108, 105, 115, 116]⟩ : ByteArray).size = 4 from rfl] at hlen
    have htf := take_fold (f := listStep) (s := ⟨#[108, 105, 115, 116]⟩) hlt
    generalize hs : (l.take k).foldl listStep ⟨#[108, 105, 115, 116]⟩ = s at back hlen htf ⊢
    have hts := (listStep_size (s := s) hpk).1
    haveI : InR (k : Int) (l.length : Nat) := ⟨by omega, by omega⟩
    haveI : InI ((k : Int) + 1) := ⟨by omega⟩
    obtain ⟨b, off, cs, rfl, ⟨rfl, _⟩, hat⟩ := hel _ _ hi
    generalize hxx : l[k] = x at hpk hts hat htf
    obtain ⟨nm, via⟩ := x
    simp only at hpk hts
    haveI : Fz z b (off + (k : Int).toNat * 2) (ItemM.cells ⟨nm, via⟩) := ⟨hat⟩
    haveI : Cat (b1 40) nm := ⟨by rw [show (b1 40).size = 1 from rfl]; omega⟩
    haveI : Cat (b1 40 ++ nm) (b1 41) := ⟨by rw [ByteArray.size_append, show (b1 40).size = 1 from rfl, show (b1 41).size = 1 from rfl]; omega⟩
    intro K hK
    have main : ∀ w' z' L', Le z1 z' → Res w z [] w' z' L' → K [.string (listStep s ⟨nm, via⟩)] w' := by
      intro w' z' L' hz' hS'
      refine hK _ _ fun _ => ?_
      refine V_run ?_
      exact back (k + 1) _ _ _ _ ⟨by simp, by omega, by rw [htf]⟩ hz' hS'.drop (by omega)
    clear hK back
    (repeat (first | refine V_run ?_ | refine iV_ld1 ?_ | (refine iV_bx ?_; intro _ _ _ _) | (refine iU_st ?_; intro _ _) | refine fV_ldN ?_))
    cases via
    · (repeat (first | refine V_run ?_ | refine iV_ld1 ?_ | refine Cond_f ?_))
      refine V_words (out := [_, _]) [s, nm] rfl rfl (by omega) (Nat.le_trans (by simpa using hts) (by omega : s.size + 42 ≤ 1000000000)) ?_
      intro z2 w2 hz2 hS2
      exact main _ _ _ (by (repeat (assumption))) hS2
    · (repeat (first | refine V_run ?_ | refine iV_ld1 ?_ | refine Cond_t ?_))
      refine V_words (out := [_, _]) [s, b1 40 ++ nm ++ b1 41] rfl rfl (by omega) (Nat.le_trans (by simpa using hts) (by omega : s.size + 42 ≤ 1000000000)) ?_
      intro z2 w2 hz2 hS2
      exact main _ _ _ (by (repeat (assumption))) hS2
  · have hk2 : k = l.length := by omega
    subst hk2
    rw [List.take_length]
    exact ⟨_, _, hS1, rfl⟩)
def labelT (s : SpotM) : ByteArray := joinB [⟨#[108, 97, 98, 101, 108]⟩, itoaB s.at_, quotedB s.name]
theorem labelT_size {s : SpotM} (h1 : InI s.at_) (h2 : s.name.size ≤ 1000000) : sizes [⟨#[108, 97, 98, 101, 108]⟩, itoaB s.at_, quotedB s.name] ≤ 3000050 ∧ (labelT s).size ≤ 3000060 := by
  have a := itoaB_size h1
  have c := quotedB_size (s := s.name)
  have d : sizes [⟨#[108, 97, 98, 101, 108]⟩, itoaB s.at_, quotedB s.name] ≤ 3000050 := by
    simp only [sizes, List.map_cons, List.map_nil, List.sum_cons, List.sum_nil, show (⟨#[108, 97, 98, 101, 108]⟩ : ByteArray).size = 5 from rfl]; omega
  have e := joinB_size [⟨#[108, 97, 98, 101, 108]⟩, itoaB s.at_, quotedB s.name]
  simp only [List.length_cons, List.length_nil] at e
  exact ⟨d, by rw [labelT]; omega⟩
theorem labelLine_of {z : Z} {w : World} {s : SpotM} [ht : Tab z] (h1 : InI s.at_) (h2 : s.name.size ≤ 1000000) :
    Fn1 130 #[s.v] z w fun _ r => r = .string (labelT s) := Fn1.intro fun hS => en130 (by
  unfold vc130
  haveI : Brief s.name := ⟨h2⟩
  (repeat (first | (refine iDr ?_; intro _ _) | refine PV_run ?_ | (refine iV_bx ?_; intro _ _ _ _) | refine iHV_1 ?_ | refine iRI_1 ?_ | (refine CV_pu ?_; intro _ _ _ _) | (refine CV_puz ?_; intro _ _ _ _)))
  refine V_words (out := [_, _, _]) [⟨#[108, 97, 98, 101, 108]⟩, itoaB s.at_, quotedB s.name] rfl rfl (by omega) (by have := (labelT_size h1 h2).1; omega) ?_
  intro z2 w2 hz2 hS2
  exact ⟨_, _, hS2, rfl⟩)

/-- How many of the first numbers stand before the zeros at the end. -/
def stripK (l : List Int) : Nat → Nat
  | 0 => 0
  | k + 1 => if l.getD k 0 = 0 then stripK l k else k + 1
def wordStep (s : ByteArray) (n : Int) : ByteArray := joinB [s, itoaB n]
def insW3 (i : InsM) : List Int := [i.a, i.b, i.c].take (stripK [i.a, i.b, i.c] 3)
def insT (i : InsM) : ByteArray := (insW3 i).foldl wordStep (formAt i.op).name
theorem stripK_le (l : List Int) : ∀ k, stripK l k ≤ k
  | 0 => Nat.le_refl _
  | k + 1 => by
    have := stripK_le l k
    unfold stripK
    split <;> omega
theorem stripK_pos {l : List Int} {k : Nat} (h0 : 0 < k) (h : l.getD (k - 1) 0 = 0) : stripK l (k - 1) = stripK l k := by
  obtain ⟨j, rfl⟩ : ∃ j, k = j + 1 := ⟨k - 1, by omega⟩
  rw [show j + 1 - 1 = j by omega] at h ⊢
  conv => rhs; unfold stripK
  rw [if_pos h]
theorem stripK_stop {l : List Int} {k : Nat} (h : ¬ (0 < k ∧ l.getD (k - 1) 0 = 0)) : stripK l k = k := by
  cases k with
  | zero => rfl
  | succ j => unfold stripK; rw [if_neg fun e => h ⟨by omega, by simpa using e⟩]
theorem wordStep_size {s : ByteArray} {n : Int} (h1 : InI n) : sizes [s, itoaB n] ≤ s.size + 21 ∧ (wordStep s n).size ≤ s.size + 30 := by
  have a := itoaB_size h1
  have d : sizes [s, itoaB n] ≤ s.size + 21 := by
    simp only [sizes, List.map_cons, List.map_nil, List.sum_cons, List.sum_nil]; omega
  have e := joinB_size [s, itoaB n]
  simp only [List.length_cons, List.length_nil] at e
  exact ⟨d, by rw [wordStep]; omega⟩
theorem form_name (n : Int) : (formAt n).name.size ≤ 20 := by
  unfold formAt
  split
  · have h : ∀ k : Fin 47, (formL.getD k.val noForm).name.size ≤ 20 := by decide +kernel
    have hk : n.toNat < 47 := by
      have := ‹opOk n = true›
      unfold opOk at this
      simp at this
      omega
    exact h ⟨n.toNat, hk⟩
  · decide +kernel
theorem insLine_of {z : Z} {w : World} {i : InsM} [ht : Tab z] (h1 : InI i.a) (h2 : InI i.b) (h3 : InI i.c) :
    Fn1 131 #[i.v] z w fun _ r => r = .string (insT i) := Fn1.intro fun hS => en131 (by
  unfold vc131
  have hnm := form_name i.op
  (repeat (first | refine V_run ?_ | refine iV_ld1 ?_ | refine iV_ldN ?_ | (refine iV_bx ?_; intro _ _ _ _) | (refine iU_st ?_; intro _ _) | (refine CV_pu ?_; intro _ _ _ _)))
  refine V_lit [i.a, i.b, i.c] rfl rfl (by omega) ?_
  intro z2 w2 v2 hz2 hS2 hv2
  obtain ⟨_, a, cap, rfl, hcap, _⟩ := hv2.form
  have hi : ∀ n ∈ [i.a, i.b, i.c], InI n := by simp [h1, h2, h3]
  generalize hl : [i.a, i.b, i.c] = l at hv2 hcap hi ⊢
  have hl3 : l.length = 3 := by rw [← hl]; rfl
  have hT : insT i = (l.take (stripK l 3)).foldl wordStep (formAt i.op).name := by rw [insT, insW3, hl]
  rename_i b1 w1 hb1 hS1 z3 w3 hz3 hS3 b5 w5 hb5 hS5 w6 hS6 _ hel0
  refine LoopR1 (fun k v => v = .slice a k cap ∧ k ≤ 3 ∧ stripK l k = stripK l 3) (fun k => k) 3 ⟨by rw [hl3], Nat.le_refl _, rfl⟩ ?_
  rintro I M k v w7 z7 m ⟨rfl, hk, hst⟩ hz7 hS7 back
  clear hS hS2 hS6 hS5 hS3 hS1
  have hel : ∀ i x, l[i]? = some x → ∃ b off, a = some ⟨b, off, none⟩ ∧ At z7 b (off + i * 1) [.int .i64 x] := fun i x hx => by
    obtain ⟨b, off, cs, ha, hr, hat⟩ := hel0 i x (by rw [hl]; exact hx)
    cases hr
    exact ⟨b, off, ha, hat.mono hz7⟩
  refine V_run ?_
  refine V_run ?_
  intro K hK
  have main : ∀ q : Bool, (q = true ↔ 0 < k ∧ l.getD (k - 1) 0 = 0) → K [.bool q] w7 := by
    intro q hq
    refine hK _ _ fun _ => ?_
    clear hK
    cases q with
    | true =>
      obtain ⟨hk0, hk1⟩ := hq.1 rfl
      haveI : InI ((k : Int) - 1) := ⟨by omega⟩
      haveI : InR ((k : Int) - 1) ((cap : Nat) + 1) := ⟨by omega, by omega⟩
      refine Cond_t ?_
      refine V_run ?_
      refine V_run ?_
      refine V_run ?_
      exact back (k - 1) _ _ _ ⟨by rw [show ((k : Int) - 1).toNat = k - 1 by omega], by omega, by rw [stripK_pos hk0 hk1, hst]⟩ (Le.refl _) hS7 (by omega)
    | false =>
      have hs := stripK_stop (l := l) (k := k) fun e => by have := hq.2 e; cases this
      refine Cond_f ?_
      clear back
      (repeat (first | refine V_run ?_ | refine iV_ld1 ?_))
      refine LoopR2 (fun j s x => x = .int .i64 (j : Nat) ∧ j ≤ k ∧ s = .string ((l.take j).foldl wordStep (formAt i.op).name)) (fun j => k - j) 0 ⟨rfl, Nat.zero_le _, rfl⟩ ?_
      rintro I M j u v w8 z8 m ⟨rfl, hj, rfl⟩ hz8 hS8 back
      clear hS7
      refine V_run ?_
      refine Cond_d (fun h => ?_) (fun h => ?_)
      · have hjl : j < l.length := by omega
        have hji := List.getElem?_eq_getElem hjl
        obtain ⟨b, off, rfl, hat⟩ := hel _ _ hji
        haveI i9 : InI l[j] := hi _ (List.getElem_mem hjl)
        haveI : InR (j : Int) (k : Nat) := ⟨by omega, by omega⟩
        haveI : InI ((j : Int) + 1) := ⟨by omega⟩
        have htf := take_fold (f := wordStep) (s := (formAt i.op).name) hjl
        have hlen := foldl_size (f := wordStep) (n := 30) (l.take j) (formAt i.op).name fun s x hx => (wordStep_size (hi _ (List.mem_of_mem_take hx))).2
        rw [List.length_take, Nat.min_eq_left (by omega)] at hlen
        generalize hs : (l.take j).foldl wordStep (formAt i.op).name = s at back hlen htf ⊢
        have hts := (wordStep_size (s := s) i9).1
        refine V_run ?_
        refine zV_ld1 (hat.mono hz8) ?_
        refine CV_puz ?_
        intro z9' w9' hz9' hS9'
        refine V_words (n := 2) (out := [_, _]) [s, itoaB l[j]] rfl rfl (by omega) (Nat.le_trans hts (by omega)) ?_
        intro z9 w9 hz9 hS9
        refine V_run ?_
        exact back (j + 1) _ _ _ _ ⟨by simp, by omega, by rw [htf]; rfl⟩ (by (repeat (first | assumption | refine Le.trans ?_ (by assumption : Le _ _)))) hS9 (by omega)
      · have hjk : j = k := by omega
        subst hjk
        exact ⟨_, _, hS8, by rw [hT, ← hst, hs]⟩
  clear hK back
  refine Cond_d (fun h => ?_) (fun h => ?_)
  · have hk0 : 0 < k := by omega
    have hjl : k - 1 < l.length := by omega
    have hji := List.getElem?_eq_getElem hjl
    obtain ⟨b, off, rfl, hat⟩ := hel _ _ hji
    haveI : InI ((k : Int) - 1) := ⟨by omega⟩
    haveI : InR ((k : Int) - 1) (k : Nat) := ⟨by omega, by omega⟩
    refine V_run ?_
    refine V_run ?_
    refine V_run ?_
    refine zV_ld1 (by rw [show ((k : Int) - 1).toNat = k - 1 by omega]; exact hat) ?_
    refine V_run ?_
    refine main _ ?_
    rw [decide_eq_true_iff, List.getD_eq_getElem?_getD, hji]
    simp [hk0]
  · exact main false (by simp; omega))
end Go.Proofs.YtbeelfopmkbllaaGreatDoor
end

section
/- Text. -/
set_option linter.unusedVariables false
set_option linter.unusedSimpArgs false
set_option maxRecDepth 20000
set_option synthInstance.maxHeartbeats 4000000
set_option synthInstance.maxSize 20000
set_option maxHeartbeats 1000000
namespace Go.Proofs.YtbeelfopmkbllaaGreatDoor
open Go Q Go.RowKit

/-- A line and its end. -/
def lineB (s : ByteArray) : List UInt8 := bytes s ++ [10]
def constT (s : ByteArray) : ByteArray := joinB [⟨#[116, 101, 120, 116]⟩, quotedB s]
def nameT (s : ByteArray) : ByteArray := joinB [⟨#[110, 97, 109, 101]⟩, s]
def textL (c : CodeM) : List UInt8 :=
  c.consts.flatMap (fun s => lineB (constT s)) ++ (c.tmpls.flatMap (fun l => lineB (tmplT l)) ++ (c.lists.flatMap (fun l => lineB (listT l)) ++ (c.labels.flatMap (fun s => lineB (labelT s)) ++ (c.slots.flatMap (fun s => lineB (nameT s)) ++ (c.ins.flatMap (fun i => lineB (insT i)) ++ [])))))
theorem lineB_len (s : ByteArray) : (lineB s).length = s.size + 1 := by rw [lineB, List.length_append, ← size_bytes]; rfl
theorem flat_bd {α : Type} {f : α → List UInt8} {n : Nat} : ∀ (l : List α), (∀ x ∈ l, (f x).length ≤ n) → (l.flatMap f).length ≤ l.length * n
  | [], _ => by simp
  | x :: l, h => by
    have h1 := flat_bd l fun y hy => h y (List.mem_cons_of_mem _ hy)
    have h2 := h x List.mem_cons_self
    rw [List.flatMap_cons, List.length_append, List.length_cons, Nat.add_mul, Nat.one_mul]
    omega
theorem constT_size {s : ByteArray} (h : s.size ≤ 1000000) : sizes [⟨#[116, 101, 120, 116]⟩, quotedB s] ≤ 3000010 ∧ (constT s).size ≤ 3000020 := by
  have c := quotedB_size (s := s)
  have d : sizes [⟨#[116, 101, 120, 116]⟩, quotedB s] ≤ 3000010 := by
    simp only [sizes, List.map_cons, List.map_nil, List.sum_cons, List.sum_nil, show (⟨#[116, 101, 120, 116]⟩ : ByteArray).size = 4 from rfl]; omega
  have e := joinB_size [⟨#[116, 101, 120, 116]⟩, quotedB s]
  simp only [List.length_cons, List.length_nil] at e
  exact ⟨d, by rw [constT]; omega⟩
theorem nameT_size {s : ByteArray} (h : s.size ≤ 1000000) : sizes [⟨#[110, 97, 109, 101]⟩, s] ≤ 3000010 ∧ (nameT s).size ≤ 3000020 := by
  have d : sizes [⟨#[110, 97, 109, 101]⟩, s] ≤ 3000010 := by
    simp only [sizes, List.map_cons, List.map_nil, List.sum_cons, List.sum_nil, show (⟨#[110, 97, 109, 101]⟩ : ByteArray).size = 4 from rfl]; omega
  have e := joinB_size [⟨#[110, 97, 109, 101]⟩, s]
  simp only [List.length_cons, List.length_nil] at e
  exact ⟨d, by rw [nameT]; omega⟩
theorem tmplT_size {l : List PartM} (hl : l.length ≤ 100) (hp : ∀ p ∈ l, partM p = true) : (tmplT l).size ≤ 300006010 := by
  have := foldl_size (f := tmplStep) (n := 3000060) l ⟨#[116, 109, 112, 108]⟩ fun s x hx => (tmplStep_size ⟨by have := part_small (hp _ hx); omega⟩ ⟨by have := part_small (hp _ hx); omega⟩ (by have := part_small (hp _ hx); omega)).2
  rw [show (⟨#[116, 109, 112, 108]⟩ : ByteArray).size = 4 from rfl] at this
  have h2 : l.length * 3000060 ≤ 100 * 3000060 := Nat.mul_le_mul_right _ hl
  rw [tmplT]; omega
theorem listT_size {l : List ItemM} (hl : l.length ≤ 10000) (hp : ∀ x ∈ l, x.name.size ≤ 40) : (listT l).size ≤ 500010 := by
  have := foldl_size (f := listStep) (n := 50) l ⟨#[108, 105, 115, 116]⟩ fun s x hx => (listStep_size (hp _ hx)).2
  rw [show (⟨#[108, 105, 115, 116]⟩ : ByteArray).size = 4 from rfl] at this
  rw [listT]; omega
theorem insT_size {i : InsM} (h1 : InI i.a) (h2 : InI i.b) (h3 : InI i.c) : (insT i).size ≤ 110 := by
  have hi : ∀ n ∈ insW3 i, InI n := fun n hn => by
    have := List.mem_of_mem_take hn
    simp only [List.mem_cons, List.not_mem_nil, or_false] at this
    rcases this with rfl | rfl | rfl <;> assumption
  have := foldl_size (f := wordStep) (n := 30) (insW3 i) (formAt i.op).name fun s x hx => (wordStep_size (hi _ hx)).2
  have h4 := form_name i.op
  have h5 : (insW3 i).length ≤ 3 := by rw [insW3, List.length_take]; simp only [List.length_cons, List.length_nil]; omega
  rw [insT]; omega
theorem textL_len {c : CodeM} (h : SmallC c) : (textL c).length ≤ lots := by
  obtain ⟨n1, n2, n3, n4, n5, n6⟩ := h.num
  have l1 := flat_bd (f := fun s => lineB (constT s)) (n := 3000021) c.consts fun s hs => by rw [lineB_len]; have := (constT_size (s := s) (by have := h.consts s hs; omega)).2; omega
  have l2 := flat_bd (f := fun s => lineB (tmplT s)) (n := 300006011) c.tmpls fun s hs => by rw [lineB_len]; have := tmplT_size (h.tmpls s hs).1 (h.tmpls s hs).2; omega
  have l3 := flat_bd (f := fun s => lineB (listT s)) (n := 500011) c.lists fun s hs => by rw [lineB_len]; have := listT_size (h.lists s hs).1 (h.lists s hs).2; omega
  have l4 := flat_bd (f := fun s => lineB (labelT s)) (n := 3000061) c.labels fun s hs => by rw [lineB_len]; have h9 := h.labels s hs; have := (labelT_size (s := s) ⟨by omega⟩ (by omega)).2; omega
  have l5 := flat_bd (f := fun s => lineB (nameT s)) (n := 3000021) c.slots fun s hs => by rw [lineB_len]; have := (nameT_size (s := s) (by have := h.slots s hs; omega)).2; omega
  have l6 := flat_bd (f := fun s => lineB (insT s)) (n := 111) c.ins fun s hs => by rw [lineB_len]; have h9 := h.ins s hs; have := insT_size (i := s) ⟨by omega⟩ ⟨by omega⟩ ⟨by omega⟩; omega
  simp only [textL, List.length_append, List.length_nil, lots]
  have m1 : c.consts.length * 3000021 ≤ 3000 * 3000021 := Nat.mul_le_mul_right _ n1
  have m2 : c.tmpls.length * 300006011 ≤ 3000 * 300006011 := Nat.mul_le_mul_right _ n2
  have m3 : c.lists.length * 500011 ≤ 3000 * 500011 := Nat.mul_le_mul_right _ n3
  have m4 : c.labels.length * 3000061 ≤ 3000 * 3000061 := Nat.mul_le_mul_right _ n4
  have m5 : c.slots.length * 3000021 ≤ 100 * 3000021 := Nat.mul_le_mul_right _ n5
  have m6 : c.ins.length * 111 ≤ 12000 * 111 := Nat.mul_le_mul_right _ n6
  omega
section
variable {w0 w : World} {z0 z : Z} {B0 B : Bl} {bb : Nat} {ys : List UInt8}
theorem line_of {s : ByteArray} (hB : BuOk bb B (Lib.byteCells ys)) (hl : (ys ++ lineB s).length ≤ lots) :
    Va (.func (.func 124) #[] #[.pointer (some ⟨bb, 0, none⟩)]) #[.string s] z B w fun _ B' _ => BuOk bb B' (Lib.byteCells (ys ++ lineB s)) :=
  Fn.va (args' := #[.string s, .pointer (some ⟨bb, 0, none⟩)]) (Fn.intro fun hS => en124 (by
    unfold vc124
    rw [List.length_append, lineB_len] at hl
    simp only [lots] at hl
    have e1 : (b1 10).size = 1 := rfl
    haveI : Cat s (b1 10) := ⟨by rw [e1]; omega⟩
    refine V_run (v := .string (s ++ b1 10)) (g := (inferInstance : Run (bi .add 9 _ (.string (b1 10))) _)) ?_
    refine CV_fn (B := B) (F := []) (by simpa using hS) (writeString (s := s ++ b1 10) hB (by rw [Lib.byteCells_length, ByteArray.size_append, e1]; simp only [room]; omega)) (by simp) ?_
    rintro z7 B7 w7 v7 hz7 hS7 ⟨hB7, rfl⟩
    rw [List.append_nil] at hS7
    rw [Lib.strCells_eq, ← Lib.byteCells_append, show (s ++ b1 10).data.toList = lineB s by rw [ByteArray.data_append, Array.toList_append]; rfl] at hB7
    exact ⟨_, _, hS7, hB7⟩)) (by simp)
theorem CV_line {K : Value → World → Prop} {s : ByteArray} {total more : List UInt8} (hS : Res w0 z0 B0 w z B) (hB : BuOk bb B (Lib.byteCells ys)) (ht : total = ys ++ (lineB s ++ more)) (hl : total.length ≤ lots)
    (hk : ∀ z' B' w' v, Le z z' → Res w0 z0 B0 w' z' B' → BuOk bb B' (Lib.byteCells (ys ++ lineB s)) → K v w') : CV (.func (.func 124) #[] #[.pointer (some ⟨bb, 0, none⟩)]) #[.string s] w K := by
  refine CV_va (B := B) (F := []) (by simpa using hS) (line_of hB (by rw [ht, ← List.append_assoc, List.length_append] at hl; omega)) ?_
  rintro z7 B7 w7 v7 hz7 hS7 hB7
  rw [List.append_nil] at hS7
  exact hk _ _ _ _ hz7 hS7 hB7
theorem LoopLn {α : Type} {xs : List α} {g : α → ByteArray} {total more : List UInt8} {body : (List Value → World → Prop) → (List Value → World → Nat) → Value → World → Nat → Prop} (hS : Res w0 z0 B0 w z B) (hB : BuOk bb B (Lib.byteCells ys)) (ht : total = ys ++ (xs.flatMap (fun y => lineB (g y)) ++ more))
    (hs : ∀ I M k w' z' B' us m, k ≤ xs.length → Le z z' → Res w0 z0 B0 w' z' B' → BuOk bb B' (Lib.byteCells us) → total = us ++ ((xs.drop k).flatMap (fun y => lineB (g y)) ++ more) →
      (∀ (hk : k < xs.length) w'' z'' B'', Le z' z'' → Res w0 z0 B0 w'' z'' B'' → BuOk bb B'' (Lib.byteCells (us ++ lineB (g xs[k]))) → I [.int .i64 ((k : Int) + 1)] w'' ∧ M [.int .i64 ((k : Int) + 1)] w'' < m) → body I M (.int .i64 k) w' m) :
    ∃ (I : List Value → World → Prop) (M : List Value → World → Nat), I [.int .i64 0] w ∧ ∀ _ : Env, ∀ x, ∀ w, I [x] w → ∀ m, m = M [x] w → body I M x w m :=
  LoopG1 (fun (p : Nat × List UInt8) x w' => x = .int .i64 p.1 ∧ p.1 ≤ xs.length ∧ total = p.2 ++ ((xs.drop p.1).flatMap (fun y => lineB (g y)) ++ more) ∧ ∃ B' z', Le z z' ∧ BuOk bb B' (Lib.byteCells p.2) ∧ Res w0 z0 B0 w' z' B') (fun p => xs.length - p.1) (0, ys) ⟨rfl, Nat.zero_le _, ht, B, z, Le.refl _, hB, hS⟩ (by
    rintro I M ⟨k, us⟩ x w' m ⟨rfl, hk, hus, B', z', hz', hB', hS'⟩ back
    refine hs I M k w' z' B' us m hk hz' hS' hB' hus fun hlt w'' z'' B'' hz'' hS'' hB'' => ?_
    refine back (k + 1, us ++ lineB (g xs[k])) _ _ ⟨by simp, by simp only; omega, ?_, B'', z'', hz'.trans hz'', hB'', hS''⟩ (by simp only; omega)
    simp only at hus ⊢
    rw [List.drop_eq_getElem_cons hlt, List.flatMap_cons] at hus
    rw [hus]
    simp only [List.append_assoc])
end
theorem loop_end {α : Type} {xs : List α} {f : α → List UInt8} {total us more : List UInt8} {k : Nat} (h : total = us ++ ((xs.drop k).flatMap f ++ more)) (hk : ¬ (k : Int) < (xs.length : Nat)) : total = us ++ more := by
  rw [List.drop_of_length_le (by omega)] at h
  simpa using h
theorem loop_one {α : Type} {xs : List α} {f : α → List UInt8} {total us more : List UInt8} {k : Nat} (h : total = us ++ ((xs.drop k).flatMap f ++ more)) (hk : k < xs.length) : total = us ++ (f xs[k] ++ ((xs.drop (k + 1)).flatMap f ++ more)) := by
  rw [List.drop_eq_getElem_cons hk, List.flatMap_cons, List.append_assoc] at h
  exact h
def textE (c : CodeM) : Int := (checkM c).1
def textB (c : CodeM) : ByteArray := if (checkM c).1 = 0 then ⟨(textL c).toArray⟩ else ⟨#[]⟩
theorem text_of {z : Z} {w : World} {v : Value} {c : CodeM} [ht : Tab z] (hc : CodeR z v c) : Fn1 40 #[v] z w fun _ r => r = .tuple #[.string (textB c), .int .i64 (textE c)] := fnA en40 (by
  intro hS R hR
  unfold vc40
  obtain ⟨a1, a2, a3, a4, a5, a6, k1, k2, k3, k4, k5, k6, rfl, h1, h2, h3, h4, h5, h6⟩ := hc.form
  refine iV_bx ?_
  intro bc w1 hbc hS1
  obtain ⟨zc, hzc, hS2, hatc⟩ := hS1.frz bc
  have hR2 : ∀ z' w' L', Res w1 zc [] w' z' L' → R (.tuple #[.string (textB c), .int .i64 (textE c)]) w' := fun z' w' L' k => hR _ _ _ (hS2.comp k)
  have hS3 := hS2.self
  clear hS hS1 hS2 hR
  haveI : Tab zc := ht.le hzc
  haveI : CodeZ zc (.agg (codeVs a1 a2 a3 a4 a5 a6 k1 k2 k3 k4 k5 k6 c).toArray) c := ⟨hc.mono hzc⟩
  refine zV_ldN (n := 6) hatc rfl ?_
  haveI : Fz zc bc 0 [.slice a1 c.consts.length k1] := ⟨hatc.fld (i := 0) rfl rfl⟩
  haveI : Fz zc bc 1 [.slice a2 c.tmpls.length k2] := ⟨hatc.fld (i := 1) rfl rfl⟩
  haveI : Fz zc bc 2 [.slice a3 c.lists.length k3] := ⟨hatc.fld (i := 2) rfl rfl⟩
  haveI : Fz zc bc 3 [.slice a4 c.labels.length k4] := ⟨hatc.fld (i := 3) rfl rfl⟩
  haveI : Fz zc bc 4 [.slice a5 c.slots.length k5] := ⟨hatc.fld (i := 4) rfl rfl⟩
  haveI : Fz zc bc 5 [.slice a6 c.ins.length k6] := ⟨hatc.fld (i := 5) rfl rfl⟩
  (repeat (first | refine V_run ?_ | (refine CV_puz ?_; intro _ _ _ _)))
  rename_i z5 w5 hz5 hS5
  clear hS3
  refine Cond_nd (fun e1 => ?_) (fun e1 => ?_)
  · have := hR2 _ _ _ hS5
    rw [textB, if_neg e1] at this
    exact this
  obtain ⟨e0, hli, hpa, hri, _, _⟩ := check_ok e1
  have hsm := small_of hli hpa hri
  have hlen := textL_len hsm
  obtain ⟨n1, n2, n3, n4, n5, n6⟩ := hsm.num
  have eB : (.tuple #[.string (textB c), .int .i64 (textE c)] : Value) = .tuple #[.string ⟨(textL c).toArray⟩, .int .i64 0] := by rw [textB, if_pos e1, textE, e1]
  rw [eB] at hR2
  clear eB
  generalize htot : textL c = total at hlen hR2
  have ht0 : total = [] ++ textL c := htot.symm
  clear htot
  rw [textL] at ht0
  refine iV_al ?_
  intro bb w6 hbb hS6
  clear hS5
  have hB6 : BuOk bb [(bb, buO none (.slice none 0 0))] (Lib.byteCells []) := BuOk.new
  have hS6' : Res w1 zc [] w6 z5 [(bb, buO none (.slice none 0 0))] := hS6
  generalize [(bb, buO none (.slice none 0 0))] = B6 at hB6 hS6'
  clear hS6
  have hS6 := hS6'
  clear hS6'
  (repeat (first | refine V_run ?_ | refine fV_ld1 ?_))
  refine LoopLn (xs := c.consts) (g := constT) hS6 hB6 ht0 ?_
  intro I10 M10 k10 w10 z10 B10 us10 m10 hk10 hz10 hS10 hB10 ht10 back
  clear hS6 hB6
  have hzz10 : Le z5 z10 := Le.trans (Le.refl _) hz10
  have hzc10 : Le zc z10 := hz5.trans hzz10
  obtain ⟨_, _, _, e10, _, hel10⟩ := h1.form
  cases e10
  refine V_run ?_
  refine Cond_d (fun h => ?_) (fun h => ?_)
  · have hlt : k10 < c.consts.length := by omega
    have hi := List.getElem?_eq_getElem hlt
    have hm := List.getElem_mem hlt
    have hl1 := loop_one ht10 hlt
    haveI : InR (k10 : Int) (c.consts.length : Nat) := ⟨by omega, by omega⟩
    haveI : InI ((k10 : Int) + 1) := ⟨by omega⟩
    obtain ⟨b, off, cs, rfl, hr, hat⟩ := hel10 _ _ hi
    obtain ⟨rfl, _⟩ := hr
    have hbs := hsm.consts _ hm
    haveI : Brief c.consts[k10] := ⟨by omega⟩
    refine V_run ?_
    refine zV_ld1 (hat.mono (hzc.trans hzc10)) ?_
    refine CV_pu ?_
    intro z2 w2 hz2 hS2
    refine V_words (n := 2) (out := [_, _]) [⟨#[116, 101, 120, 116]⟩, quotedB c.consts[k10]] rfl rfl (by omega) (Nat.le_trans (constT_size (by omega)).1 (by omega)) ?_
    intro z3 w3 hz3 hS3
    refine CV_line hS3 hB10 hl1 hlen ?_
    intro z4 B4 w4 v4 hz4 hS4 hB4
    refine V_run ?_
    exact back hlt _ _ _ (by (repeat (first | assumption | refine Le.trans ?_ (by assumption : Le _ _)))) hS4 hB4
  have hn10 := loop_end ht10 h
  clear back ht10 hel10
  (repeat (first | refine V_run ?_ | refine fV_ld1 ?_))
  refine LoopLn (xs := c.tmpls) (g := tmplT) hS10 hB10 hn10 ?_
  intro I20 M20 k20 w20 z20 B20 us20 m20 hk20 hz20 hS20 hB20 ht20 back
  clear hS10 hB10
  have hzz20 : Le z5 z20 := Le.trans hzz10 hz20
  have hzc20 : Le zc z20 := hz5.trans hzz20
  obtain ⟨_, _, _, e20, _, hel20⟩ := h2.form
  cases e20
  refine V_run ?_
  refine Cond_d (fun h => ?_) (fun h => ?_)
  · have hlt : k20 < c.tmpls.length := by omega
    have hi := List.getElem?_eq_getElem hlt
    have hm := List.getElem_mem hlt
    have hl1 := loop_one ht20 hlt
    haveI : InR (k20 : Int) (c.tmpls.length : Nat) := ⟨by omega, by omega⟩
    haveI : InI ((k20 : Int) + 1) := ⟨by omega⟩
    obtain ⟨b, off, cs, rfl, hr, hat⟩ := hel20 _ _ hi
    obtain ⟨v9, rfl, hv9⟩ := hr
    have hbs := hsm.tmpls _ hm
    haveI : Tab z20 := ht.le (hzc.trans hzc20)
    refine V_run ?_
    refine zV_ld1 (hat.mono (hzc.trans hzc20)) ?_
    refine CV_1 (tmplLine_of (hv9.mono (hzc.trans hzc20)) hbs.1 hbs.2) ?_
    rintro z3 w3 v3 hz3 hS3 rfl
    refine CV_line hS3 hB20 hl1 hlen ?_
    intro z4 B4 w4 v4 hz4 hS4 hB4
    refine V_run ?_
    exact back hlt _ _ _ (by (repeat (first | assumption | refine Le.trans ?_ (by assumption : Le _ _)))) hS4 hB4
  have hn20 := loop_end ht20 h
  clear back ht20 hel20
  (repeat (first | refine V_run ?_ | refine fV_ld1 ?_))
  refine LoopLn (xs := c.lists) (g := listT) hS20 hB20 hn20 ?_
  intro I30 M30 k30 w30 z30 B30 us30 m30 hk30 hz30 hS30 hB30 ht30 back
  clear hS20 hB20
  have hzz30 : Le z5 z30 := Le.trans hzz20 hz30
  have hzc30 : Le zc z30 := hz5.trans hzz30
  obtain ⟨_, _, _, e30, _, hel30⟩ := h3.form
  cases e30
  refine V_run ?_
  refine Cond_d (fun h => ?_) (fun h => ?_)
  · have hlt : k30 < c.lists.length := by omega
    have hi := List.getElem?_eq_getElem hlt
    have hm := List.getElem_mem hlt
    have hl1 := loop_one ht30 hlt
    haveI : InR (k30 : Int) (c.lists.length : Nat) := ⟨by omega, by omega⟩
    haveI : InI ((k30 : Int) + 1) := ⟨by omega⟩
    obtain ⟨b, off, cs, rfl, hr, hat⟩ := hel30 _ _ hi
    obtain ⟨v9, rfl, hv9⟩ := hr
    have hbs := hsm.lists _ hm
    haveI : Tab z30 := ht.le (hzc.trans hzc30)
    refine V_run ?_
    refine zV_ld1 (hat.mono (hzc.trans hzc30)) ?_
    refine CV_1 (listLine_of (hv9.mono (hzc.trans hzc30)) hbs.1 hbs.2) ?_
    rintro z3 w3 v3 hz3 hS3 rfl
    refine CV_line hS3 hB30 hl1 hlen ?_
    intro z4 B4 w4 v4 hz4 hS4 hB4
    refine V_run ?_
    exact back hlt _ _ _ (by (repeat (first | assumption | refine Le.trans ?_ (by assumption : Le _ _)))) hS4 hB4
  have hn30 := loop_end ht30 h
  clear back ht30 hel30
  (repeat (first | refine V_run ?_ | refine fV_ld1 ?_))
  refine LoopLn (xs := c.labels) (g := labelT) hS30 hB30 hn30 ?_
  intro I40 M40 k40 w40 z40 B40 us40 m40 hk40 hz40 hS40 hB40 ht40 back
  clear hS30 hB30
  have hzz40 : Le z5 z40 := Le.trans hzz30 hz40
  have hzc40 : Le zc z40 := hz5.trans hzz40
  obtain ⟨_, _, _, e40, _, hel40⟩ := h4.form
  cases e40
  refine V_run ?_
  refine Cond_d (fun h => ?_) (fun h => ?_)
  · have hlt : k40 < c.labels.length := by omega
    have hi := List.getElem?_eq_getElem hlt
    have hm := List.getElem_mem hlt
    have hl1 := loop_one ht40 hlt
    haveI : InR (k40 : Int) (c.labels.length : Nat) := ⟨by omega, by omega⟩
    haveI : InI ((k40 : Int) + 1) := ⟨by omega⟩
    obtain ⟨b, off, cs, rfl, hr, hat⟩ := hel40 _ _ hi
    obtain ⟨rfl, _⟩ := hr
    have hbs := hsm.labels _ hm
    haveI : Fz zc b (off + (k40 : Int).toNat * 2) c.labels[k40].cells := ⟨hat.mono hzc⟩
    (repeat (first | refine V_run ?_ | refine iV_ldN ?_ | (refine iV_bx ?_; intro _ _ _ _) | (refine iU_st ?_; intro _ _) | refine fV_ldN ?_))
    rename_i w8 hS8
    have hS9 := hS8.keep [.bl B40]
    rw [List.append_nil] at hS9
    haveI : Tab z40 := ht.le (hzc.trans hzc40)
    refine CV_1 (labelLine_of ⟨by omega⟩ (by omega)) ?_
    rintro z3 w3 v3 hz3 hS3 rfl
    have hS3' := hS3.keep [.bl B40]
    rw [List.append_nil] at hS3'
    refine CV_line hS3' hB40 hl1 hlen ?_
    intro z4 B4 w4 v4 hz4 hS4 hB4
    refine V_run ?_
    exact back hlt _ _ _ (by (repeat (first | assumption | refine Le.trans ?_ (by assumption : Le _ _)))) hS4 hB4
  have hn40 := loop_end ht40 h
  clear back ht40 hel40
  (repeat (first | refine V_run ?_ | refine fV_ld1 ?_))
  refine LoopLn (xs := c.slots) (g := nameT) hS40 hB40 hn40 ?_
  intro I50 M50 k50 w50 z50 B50 us50 m50 hk50 hz50 hS50 hB50 ht50 back
  clear hS40 hB40
  have hzz50 : Le z5 z50 := Le.trans hzz40 hz50
  have hzc50 : Le zc z50 := hz5.trans hzz50
  obtain ⟨_, _, _, e50, _, hel50⟩ := h5.form
  cases e50
  refine V_run ?_
  refine Cond_d (fun h => ?_) (fun h => ?_)
  · have hlt : k50 < c.slots.length := by omega
    have hi := List.getElem?_eq_getElem hlt
    have hm := List.getElem_mem hlt
    have hl1 := loop_one ht50 hlt
    haveI : InR (k50 : Int) (c.slots.length : Nat) := ⟨by omega, by omega⟩
    haveI : InI ((k50 : Int) + 1) := ⟨by omega⟩
    obtain ⟨b, off, cs, rfl, hr, hat⟩ := hel50 _ _ hi
    obtain ⟨rfl, _⟩ := hr
    have hbs := hsm.slots _ hm
    refine V_run ?_
    refine zV_ld1 (hat.mono (hzc.trans hzc50)) ?_
    refine V_words (n := 2) (out := [_, _]) [⟨#[110, 97, 109, 101]⟩, c.slots[k50]] rfl rfl (by omega) (Nat.le_trans (nameT_size (by omega)).1 (by omega)) ?_
    intro z3 w3 hz3 hS3
    refine CV_line hS3 hB50 hl1 hlen ?_
    intro z4 B4 w4 v4 hz4 hS4 hB4
    refine V_run ?_
    exact back hlt _ _ _ (by (repeat (first | assumption | refine Le.trans ?_ (by assumption : Le _ _)))) hS4 hB4
  have hn50 := loop_end ht50 h
  clear back ht50 hel50
  (repeat (first | refine V_run ?_ | refine fV_ld1 ?_))
  refine LoopLn (xs := c.ins) (g := insT) hS50 hB50 hn50 ?_
  intro I60 M60 k60 w60 z60 B60 us60 m60 hk60 hz60 hS60 hB60 ht60 back
  clear hS50 hB50
  have hzz60 : Le z5 z60 := Le.trans hzz50 hz60
  have hzc60 : Le zc z60 := hz5.trans hzz60
  obtain ⟨_, _, _, e60, _, hel60⟩ := h6.form
  cases e60
  refine V_run ?_
  refine Cond_d (fun h => ?_) (fun h => ?_)
  · have hlt : k60 < c.ins.length := by omega
    have hi := List.getElem?_eq_getElem hlt
    have hm := List.getElem_mem hlt
    have hl1 := loop_one ht60 hlt
    haveI : InR (k60 : Int) (c.ins.length : Nat) := ⟨by omega, by omega⟩
    haveI : InI ((k60 : Int) + 1) := ⟨by omega⟩
    obtain ⟨b, off, cs, rfl, hr, hat⟩ := hel60 _ _ hi
    cases hr
    have hbs := hsm.ins _ hm
    haveI : Fz zc b (off + (k60 : Int).toNat * 4) c.ins[k60].cells := ⟨hat.mono hzc⟩
    (repeat (first | refine V_run ?_ | refine iV_ldN ?_ | (refine iV_bx ?_; intro _ _ _ _) | (refine iU_st ?_; intro _ _) | refine fV_ldN ?_))
    rename_i w8 hS8
    haveI : Tab z60 := ht.le (hzc.trans hzc60)
    refine CV_1 (insLine_of ⟨by omega⟩ ⟨by omega⟩ ⟨by omega⟩) ?_
    rintro z3 w3 v3 hz3 hS3 rfl
    have hS3' := hS3.keep [.bl B60]
    rw [List.append_nil] at hS3'
    refine CV_line hS3' hB60 hl1 hlen ?_
    intro z4 B4 w4 v4 hz4 hS4 hB4
    refine V_run ?_
    exact back hlt _ _ _ (by (repeat (first | assumption | refine Le.trans ?_ (by assumption : Le _ _)))) hS4 hB4
  have hn60 := loop_end ht60 h
  clear back ht60 hel60
  rw [List.append_nil] at hn60
  subst hn60
  refine CV_fn (B := B60) (F := []) (by simpa using hS60) (builderString hB60 (by simp only [room]; simp only [lots] at hlen; omega)) (by simp) ?_
  rintro z8 B8 w8 v8 hz8 hS8 ⟨rfl, rfl⟩
  exact hR2 _ _ _ hS8)
end Go.Proofs.YtbeelfopmkbllaaGreatDoor
end

section
/- The head of the laws: its examples. -/
set_option linter.unusedVariables false
set_option linter.unusedSimpArgs false
set_option maxRecDepth 20000
set_option synthInstance.maxHeartbeats 4000000
set_option synthInstance.maxSize 20000
set_option maxHeartbeats 1000000
namespace Go.Proofs.YtbeelfopmkbllaaGreatDoor
open Go Q Go.RowKit

def sayC : CodeM := ⟨[⟨#[83, 65, 89, 32, 49]⟩, ⟨#[49]⟩, ⟨#[65]⟩], [], [], [], [], [⟨1, 1, 0, 0⟩, ⟨3, 1, 0, 0⟩, ⟨13, 0, 0, 0⟩, ⟨39, 0, 0, 0⟩, ⟨2, 0, 0, 0⟩, ⟨46, 0, 0, 0⟩]⟩
def badC : CodeM := ⟨[⟨#[83, 65, 89, 32, 49]⟩, ⟨#[49]⟩, ⟨#[65]⟩], [], [], [], [], [⟨1, 1, 0, 0⟩, ⟨3, 1, 0, 0⟩, ⟨39, 0, 0, 0⟩, ⟨39, 0, 0, 0⟩, ⟨2, 0, 0, 0⟩, ⟨46, 0, 0, 0⟩]⟩
def jumpC : CodeM := ⟨[], [], [], [], [], [⟨23, 0, 0, 0⟩]⟩
theorem say_check : (checkM sayC).1 = 0 := by decide +kernel
theorem say_stack : ((depthsM sayC).getD []).map stackV = [0, 0, 1, 1, 0, 0] := by decide +kernel
theorem say_loops : ((depthsM sayC).getD []).map loopsV = [0, 0, 0, 0, 0, 0] := by decide +kernel
theorem say_text : 10 < (textB sayC).size ∧ (textB sayC).extract 0 10 = ⟨#[116, 101, 120, 116, 32, 34, 83, 65, 89, 32]⟩ := by decide +kernel
theorem say_trim : (trimM sayC).consts.length = 2 := by decide +kernel
theorem say_enc : encE sayC = 0 ∧ 3 < (encB sayC).length ∧ (encB sayC)[0]? = some 81 ∧ (encB sayC)[1]? = some 6 ∧ (encB sayC)[2]? = some 10 := by decide +kernel
theorem bad_check : (checkM badC).1 = 12 := by decide +kernel
theorem jump_check : (checkM jumpC).1 = 0 := by decide +kernel
theorem over_eff : effM ⟨27, 0, 13, 0⟩ = ⟨3, 0, 0⟩ := by rfl
instance {a b c d : Int} : Pu 45 #[.int .i64 a, .int .i64 b, .int .i64 c, .int .i64 d] (InsM.v ⟨a, b, c, d⟩) := ⟨fun z w => Fn1.intro fun hS => en45 (by
  unfold vc45
  (repeat (first | refine V_run ?_ | (refine iV_bx ?_; intro _ _ _ _) | (refine iU_st ?_; intro _ _) | refine iHV_N ?_))
  exact ⟨_, _, ‹_›, rfl⟩)⟩
theorem sayOne_of {z : Z} {w : World} : Fn 44 #[] z [] w fun _ B' r => ∃ b1 b2, B' = [(b2, .cells (sayC.ins.flatMap InsM.cells).toArray 38 (0, 0)), (b1, .cells (sayC.consts.map Value.string).toArray 9 (0, 0))] ∧ r = .agg #[.slice (some ⟨b1, 0, none⟩) 3 3, nilS, nilS, nilS, nilS, .slice (some ⟨b2, 0, none⟩) 6 6] := Fn.intro fun hS => en44 (by
  unfold vc44
  (repeat (refine iV_bx ?_; intro _ _ _ _))
  refine V_bs rfl (by omega) ?_
  intro b1 w1 hb1 hS1
  (repeat (refine CV_pu ?_; intro _ _ _ _))
  refine V_bs rfl (by omega) ?_
  intro b2 w2 hb2 hS2
  (repeat (first | refine V_run ?_ | (refine iU_st ?_; intro _ _) | refine iHV_N ?_))
  rename_i w3 hS3
  exact ⟨_, _, hS3.keep [.at b2, .at b1], b1, b2, rfl, rfl⟩)
section
variable {w0 w : World} {z0 z : Z} {B0 L : Bl} {b : Nat}
theorem frzStrs {l : List ByteArray} {n : Nat} (hS : Res w0 z0 B0 w z ((b, .cells (l.map Value.string).toArray 9 (0, 0)) :: L)) (hn : l.length = n) (h1 : n ≤ 1000) (h2 : ∀ x ∈ l, x.size ≤ 1000) : ∃ z', Le z z' ∧ Res w0 z0 B0 w z' L ∧ SlR El.str z' (.slice (some ⟨b, 0, none⟩) n n) l := by
  have hfl : (l.map fun x => Value.string x) = l.flatMap fun x => [Value.string x] := map_flatS l
  have hlen : (l.map Value.string).length = n := by rw [List.length_map, hn]
  obtain ⟨z2, hz2, hS2, hv⟩ := Res.freezeSl (E := El.str) (e := 9) (B := [(b, _)]) (L := L) (v := .slice (some ⟨b, 0, none⟩) l.length n) (xs := l) (f := fun x => [Value.string x]) hS ⟨by rw [← hfl, hlen, hn]; exact (Nat.mul_one _).symm, .inr ⟨b, n, [], by rw [← hfl, List.append_nil], rfl, by omega, by simp only [maxLen]; omega, by rw [← hfl, List.append_nil, hlen]; exact (Nat.mul_one _).symm⟩⟩ (by simp only [big]; omega) (fun _ => rfl) (fun z x hx => ⟨rfl, by have := h2 x hx; simp only [big]; omega⟩)
  rw [hn] at hv
  exact ⟨z2, hz2, hS2, hv⟩
theorem frzIns {l : List InsM} {n : Nat} (hS : Res w0 z0 B0 w z ((b, .cells (l.flatMap InsM.cells).toArray 38 (0, 0)) :: L)) (hn : l.length = n) (h1 : n ≤ 1000) : ∃ z', Le z z' ∧ Res w0 z0 B0 w z' L ∧ SlR El.ins z' (.slice (some ⟨b, 0, none⟩) n n) l := by
  have hlen : (l.flatMap InsM.cells).length = n * 4 := by rw [insLen, hn]
  obtain ⟨z2, hz2, hS2, hv⟩ := Res.freezeSl (E := El.ins) (e := 38) (B := [(b, _)]) (L := L) (v := .slice (some ⟨b, 0, none⟩) l.length n) (xs := l) (f := InsM.cells) hS ⟨by rw [hlen, hn]; rfl, .inr ⟨b, n, [], by rw [List.append_nil], rfl, by omega, by simp only [maxLen]; omega, by rw [List.append_nil, hlen]; rfl⟩⟩ (by simp only [big]; omega) (fun _ => rfl) (fun z x hx => rfl)
  rw [hn] at hv
  exact ⟨z2, hz2, hS2, hv⟩
end
theorem frzInts {w0 w : World} {z0 z : Z} {B0 L : Bl} {b : Nat} {l : List Int} {n : Nat} (hS : Res w0 z0 B0 w z ((b, .cells (l.map fun x => Value.int .i64 x).toArray 3 (0, 0)) :: L)) (hn : l.length = n) (h1 : n ≤ 1000) : ∃ z', Le z z' ∧ Res w0 z0 B0 w z' L ∧ SlR El.int z' (.slice (some ⟨b, 0, none⟩) n n) l := by
  have hfl : (l.map fun x => Value.int .i64 x) = l.flatMap fun x => [Value.int .i64 x] := map_flat l
  have hlen : (l.map fun x => Value.int .i64 x).length = n := by rw [List.length_map, hn]
  obtain ⟨z2, hz2, hS2, hv⟩ := Res.freezeSl (E := El.int) (e := 3) (B := [(b, _)]) (L := L) (v := .slice (some ⟨b, 0, none⟩) l.length n) (xs := l) (f := fun x => [Value.int .i64 x]) hS ⟨by rw [← hfl, hlen, hn]; exact (Nat.mul_one _).symm, .inr ⟨b, n, [], by rw [← hfl, List.append_nil], rfl, by omega, by simp only [maxLen]; omega, by rw [← hfl, List.append_nil, hlen]; exact (Nat.mul_one _).symm⟩⟩ (by simp only [big]; omega) (fun _ => rfl) (fun z x hx => rfl)
  rw [hn] at hv
  exact ⟨z2, hz2, hS2, hv⟩
/-- Two rows of whole numbers are equal. -/
theorem sameInts_of {z : Z} {w : World} {v u : Value} {l m : List Int} (hv : SlR El.int z v l) (hu : SlR El.int z u m) : Fn1 30 #[v, u] z w fun _ r => r = .bool (decide (l = m)) := Fn1.intro fun hS => en30 (by
  unfold vc30
  obtain ⟨hb1, a1, c1, rfl, _, hel1⟩ := hv.form
  obtain ⟨hb2, a2, c2, rfl, _, hel2⟩ := hu.form
  refine V_run ?_
  refine V_run ?_
  refine V_run ?_
  refine Cond_nd (fun h => ?_) (fun h => ?_)
  · exact ⟨_, _, hS, by rw [decide_eq_false (fun e : l = m => by rw [e] at h; omega)]⟩
  have hlm : l.length = m.length := by omega
  refine LoopR1 (fun (k : Nat) x => x = .int .i64 k ∧ k ≤ l.length ∧ ∀ i, i < k → l[i]? = m[i]?) (fun k => l.length - k) 0 ⟨rfl, Nat.zero_le _, fun i hi => by omega⟩ ?_
  rintro I M k x w1 z1 m1 ⟨rfl, hk, hall⟩ hz1 hS1 back
  clear hS
  refine V_run ?_
  refine V_run ?_
  refine Cond_d (fun h => ?_) (fun h => ?_)
  · have hk1 : k < l.length := by omega
    have hk2 : k < m.length := by omega
    obtain ⟨b, off, cs, rfl, hr, hat⟩ := hel1 _ _ (List.getElem?_eq_getElem hk1)
    obtain ⟨b', off', cs', rfl, hr', hat'⟩ := hel2 _ _ (List.getElem?_eq_getElem hk2)
    cases hr; cases hr'
    haveI : InR (k : Int) (l.length : Nat) := ⟨by omega, by omega⟩
    haveI : InR (k : Int) (m.length : Nat) := ⟨by omega, by omega⟩
    haveI : InI ((k : Int) + 1) := ⟨by simp only [big] at hb1; omega⟩
    haveI : Fz z b (off + (k : Int).toNat * 1) [.int .i64 l[k]] := ⟨hat⟩
    haveI : Fz z b' (off' + (k : Int).toNat * 1) [.int .i64 m[k]] := ⟨hat'⟩
    (repeat (first | (refine iDr ?_; intro _ _) | refine PV_run ?_ | refine fHV_ld1 ?_))
    refine Cond_nd (fun h3 => ?_) (fun h3 => ?_)
    · exact ⟨_, _, ‹_›, by rw [decide_eq_false]; intro e; subst e; exact h3 rfl⟩
    · refine V_run ?_
      refine back (k + 1) _ _ _ ⟨by simp, by omega, fun i hi => ?_⟩ (Le.refl _) (by assumption) (by omega)
      rcases Nat.lt_or_eq_of_le (Nat.le_of_lt_succ hi) with hi | hi
      · exact hall i hi
      · subst hi; rw [List.getElem?_eq_getElem hk1, List.getElem?_eq_getElem hk2, h3]
  · have hlm2 : l = m := List.ext_getElem? fun i => by
      rcases Nat.lt_or_ge i k with hi | hi
      · exact hall i hi
      · rw [List.getElem?_eq_none (by omega), List.getElem?_eq_none (by omega)]
    exact ⟨_, _, hS1, by rw [decide_eq_true hlm2]⟩)

theorem sayR {w0 w : World} {z0 z : Z} {B0 L : Bl} {b1 b2 : Nat} {cs : List ByteArray} {is : List InsM} {v1 v6 : Value} (h1 : SlR El.str z v1 cs) (h2 : SlR El.ins z v6 is) : CodeR z (.agg #[v1, nilS, nilS, nilS, nilS, v6]) ⟨cs, [], [], [], [], is⟩ :=
  ⟨_, _, _, _, _, _, rfl, h1, SlR.nil, SlR.nil, SlR.nil, SlR.nil, h2⟩
theorem heff (i : InsM) : Pu 17 #[i.v] (effM i).v := inferInstance
theorem say_set : SetN (sayC.ins.flatMap InsM.cells) (Int.toNat 2 * 4) (InsM.cells ⟨39, 0, 0, 0⟩) (badC.ins.flatMap InsM.cells) :=
  (inferInstance : SetN ([.int .i64 1, .int .i64 1, .int .i64 0, .int .i64 0, .int .i64 3, .int .i64 1, .int .i64 0, .int .i64 0, .int .i64 13, .int .i64 0, .int .i64 0, .int .i64 0, .int .i64 39, .int .i64 0, .int .i64 0, .int .i64 0, .int .i64 2, .int .i64 0, .int .i64 0, .int .i64 0, .int .i64 46, .int .i64 0, .int .i64 0, .int .i64 0] : List Value) 8 [.int .i64 39, .int .i64 0, .int .i64 0, .int .i64 0] [.int .i64 1, .int .i64 1, .int .i64 0, .int .i64 0, .int .i64 3, .int .i64 1, .int .i64 0, .int .i64 0, .int .i64 39, .int .i64 0, .int .i64 0, .int .i64 0, .int .i64 39, .int .i64 0, .int .i64 0, .int .i64 0, .int .i64 2, .int .i64 0, .int .i64 0, .int .i64 0, .int .i64 46, .int .i64 0, .int .i64 0, .int .i64 0])
theorem head_of {z : Z} {w : World} [ht : Tab z] : Fn1 13 #[] z w fun _ r => r = .bool true := Fn1.intro fun hS => en13 (by
  unfold vc13
  refine CV_fn (B := []) (F := []) (by simpa using hS) sayOne_of (by simp) ?_
  rintro z1 B1 w1 v1 hz1 hS1 ⟨b1, b2, rfl, rfl⟩
  rw [List.append_nil] at hS1
  obtain ⟨z2, hz2, hS2, hv2⟩ := frzIns (n := 6) hS1 rfl (by omega)
  obtain ⟨z3, hz3, hS3, hv3⟩ := frzStrs (n := 3) hS2 rfl (by omega) (by decide)
  have hc3 := CodeR.mk ⟨_, _, _, _, _, _, rfl, hv3, SlR.nil, SlR.nil, SlR.nil, SlR.nil, hv2.mono hz3⟩ (c := sayC)
  clear hS hS1 hS2
  have hz03 : Le z z3 := by (repeat (exact Res.zle (by assumption)))
  haveI : Tab z3 := ht.le hz03
  (repeat (first | refine iV_ldN ?_ | (refine iV_bx ?_; intro _ _ _ _) | (refine iU_st ?_; intro _ _)))
  rename_i bt w4 hbt hS4 w5 hS5
  clear hS3 hS4
  refine CV_1 (depthsX_of hc3) ?_
  rintro z6 w6 v6 hz6 hS6 ⟨vs, vl, rfl, hvs, hvl⟩
  rw [if_pos say_check, say_stack] at hvs
  rw [if_pos say_check, say_loops] at hvl
  clear hS5
  (repeat (first | refine V_run ?_ | refine iV_ldN ?_))
  haveI : Tab z6 := ht.le (hz03.trans hz6)
  refine CV_1 (text_of (hc3.mono hz6)) ?_
  rintro z7 w7 v7 hz7 hS7 rfl
  clear hS6
  (repeat (first | refine V_run ?_ | refine iV_ldN ?_))
  have hz37 := hz6.trans hz7
  refine CV_1 (trim_of (hc3.mono hz37)) ?_
  rintro z8 w8 v8 hz8 hS8 ⟨vc, va, rfl, hvc, hva⟩
  clear hS7
  obtain ⟨q1, q2, q3, q4, q5, q6, k1, k2, k3, k4, k5, k6, rfl, g1, _, _, _, _, _⟩ := hvc.form
  (repeat (first | refine V_run ?_ | refine iV_ldN ?_ | (refine iV_bx ?_; intro _ _ _ _) | (refine iU_st ?_; intro _ _)))
  rename_i b7 w9 hb7 hS9 w10 hS10
  have hz38 := hz37.trans hz8
  refine CV_1 (encode_of (hc3.mono hz38)) ?_
  rintro z11 w11 v11 hz11 hS11 ⟨vb, rfl, hvb⟩
  clear hS8 hS9 hS10
  (repeat (refine V_run ?_))
  have hS12 := hS11.keep [.at bt, .at b7]
  refine CV_fn (B := []) (F := _) hS12 sayOne_of (by simp) ?_
  rintro z13 B13 w13 v13 hz13 hS13 ⟨c1, c2, rfl, rfl⟩
  clear hS11 hS12
  have hS14 := hS13
  simp only [List.cons_append, List.nil_append] at hS14
  clear hS13
  (repeat (first | (refine iDr ?_; intro _ _) | refine PV_run ?_ | (refine iV_bx ?_; intro _ _ _ _) | (refine iU_st ?_; intro _ _) | refine iHV_1 ?_ | refine iRI_1 ?_ | (refine CV_pu ?_; intro _ _ _ _)))
  rename_i b12 w15 hb12 hS15 w16 hS16 w17' hS17' z17 w17 hz17 hS17
  clear hS14 hS15 hS16 hS17'
  haveI := say_set
  refine iU_st ?_
  intro w18 hS18
  clear hS17
  (repeat (refine iV_ldN ?_))
  have hS19 := hS18.keep [.at c2, .at c1, .at b12, .at bt, .at b7]
  clear hS18
  obtain ⟨z20, hz20, hS20, hv20⟩ := frzIns (n := 6) (l := badC.ins) hS19 rfl (by omega)
  obtain ⟨z21, hz21, hS21, hv21⟩ := frzStrs (n := 3) (l := badC.consts) hS20 rfl (by omega) (by decide)
  clear hS19 hS20
  have hc21 := CodeR.mk ⟨_, _, _, _, _, _, rfl, hv21, SlR.nil, SlR.nil, SlR.nil, SlR.nil, hv20.mono hz21⟩ (c := badC)
  refine CV_1 (check_of hc21) ?_
  rintro z22 w22 v22 hz22 hS22 rfl
  clear hS21
  (repeat (first | refine V_run ?_ | (refine CV_pu ?_; intro _ _ _ _)))
  rename_i z23 w23 hz23 hS23
  clear hS22
  refine V_bs (t := 26) rfl (by omega) ?_
  intro bj w24 hbj hS24
  obtain ⟨z25, hz25, hS25, hv25⟩ := frzIns (n := 1) (l := jumpC.ins) hS24 rfl (by omega)
  clear hS23 hS24
  have hc25 := CodeR.mk ⟨_, _, _, _, _, _, rfl, SlR.nil, SlR.nil, SlR.nil, SlR.nil, SlR.nil, hv25⟩ (c := jumpC)
  (repeat (refine V_run ?_))
  refine CV_1 (check_of hc25) ?_
  rintro z26 w26 v26 hz26 hS26 rfl
  clear hS25
  (repeat (first | refine V_run ?_ | (refine CV_pu ?_; intro _ _ _ _)))
  rename_i z27 w27 hz27 hS27
  clear hS26
  refine CV_pu (v := EffM.v ⟨3, 0, 0⟩) (g := heff ⟨27, 0, 13, 0⟩) ?_
  intro z28 w28 hz28 hS28
  clear hS27
  rw [say_check, bad_check, jump_check, say_enc.1]
  simp only [textE, say_check]
  have hz628 : Le z6 z28 := hz7.trans <| hz8.trans <| hz11.trans <| hz13.trans <| hz17.trans <| hz20.trans <| hz21.trans <| hz22.trans <| hz23.trans <| hz25.trans <| hz26.trans <| hz27.trans hz28
  have hz1128 : Le z11 z28 := hz13.trans <| hz17.trans <| hz20.trans <| hz21.trans <| hz22.trans <| hz23.trans <| hz25.trans <| hz26.trans <| hz27.trans hz28
  refine V_run ?_
  refine V_run ?_
  refine V_run ?_
  refine V_run ?_
  intro F1 hF1
  refine Cond_d (fun _ => ?_) (fun h => absurd (by decide) h)
  refine V_lit [0, 0, 1, 1, 0, 0] rfl rfl (by omega) ?_
  intro z30 w30 v30 hz30 hS30 hv30
  refine CV_1 (sameInts_of (hvs.mono (hz628.trans hz30)) hv30) ?_
  rintro z31 w31 v31 hz31 hS31 rfl
  clear hS30 hS28
  refine hF1 _ _ fun _ => ?_
  clear hF1
  intro F2 hF2
  refine Cond_d (fun _ => ?_) (fun h => absurd (by decide) h)
  refine iV_ms (n := 6) (by omega) (by omega) ?_
  intro b32 w32 hb32 hS32
  obtain ⟨z33, hz33, hS33, hv33⟩ := frzInts (n := 6) (l := [0, 0, 0, 0, 0, 0]) hS32 rfl (by omega)
  refine CV_1 (sameInts_of (hvl.mono (hz628.trans (hz30.trans (hz31.trans hz33)))) hv33) ?_
  rintro z34 w34 v34 hz34 hS34 rfl
  clear hS31 hS32 hS33
  refine hF2 _ _ fun _ => ?_
  clear hF2
  intro F3 hF3
  refine Cond_d (fun _ => ?_) (fun h => absurd (by decide) h)
  refine V_run ?_
  refine hF3 _ _ fun _ => ?_
  clear hF3
  have hz1134 : Le z11 z34 := hz1128.trans <| hz30.trans <| hz31.trans <| hz33.trans hz34
  obtain ⟨hlt, hpre⟩ := say_text
  obtain ⟨he0, he1, he2, he3, he4⟩ := say_enc
  obtain ⟨_, ab, kb, rfl, _, helb⟩ := hvb.form
  intro F4 hF4
  refine Cond_d (fun _ => ?_) (fun h => absurd (by decide) h)
  refine V_run ?_
  refine V_run ?_
  refine hF4 _ _ fun _ => ?_
  clear hF4
  intro F5 hF5
  refine Cond_d (fun _ => ?_) (fun h => absurd (by omega) h)
  haveI : InR 10 (((textB sayC).size : Nat) + 1) := ⟨by omega, by omega⟩
  refine V_run ?_
  rw [show (textB sayC).extract 0 (Int.toNat 10) = _ from hpre]
  refine V_run ?_
  refine hF5 _ _ fun _ => ?_
  clear hF5
  refine V_run ?_
  intro F6 hF6
  refine Cond_d (fun _ => ?_) (fun h => absurd (by decide) h)
  refine V_run ?_
  refine iV_ld1 ?_
  refine V_run ?_
  refine V_run ?_
  refine hF6 _ _ fun _ => ?_
  clear hF6
  intro F7 hF7
  refine Cond_d (fun _ => ?_) (fun h => absurd (by decide) h)
  refine V_run ?_
  refine hF7 _ _ fun _ => ?_
  clear hF7
  intro F8 hF8
  refine Cond_d (fun _ => ?_) (fun h => absurd (by decide) h)
  refine V_run ?_
  refine V_run ?_
  refine hF8 _ _ fun _ => ?_
  clear hF8
  intro F9 hF9
  refine Cond_d (fun _ => ?_) (fun h => absurd (by omega) h)
  obtain ⟨b9, o9, c9, rfl, hr9, hat9⟩ := helb _ _ he2
  cases hr9
  haveI : InR 0 ((encB sayC).length : Nat) := ⟨by omega, by omega⟩
  refine V_run ?_
  refine zV_ld1 (hat9.mono hz1134) ?_
  refine V_run ?_
  refine hF9 _ _ fun _ => ?_
  clear hF9
  intro F10 hF10
  refine Cond_d (fun _ => ?_) (fun h => absurd (by decide) h)
  obtain ⟨b10, o10, c10, e10, hr10, hat10⟩ := helb _ _ he3
  cases e10
  cases hr10
  haveI : InR 1 ((encB sayC).length : Nat) := ⟨by omega, by omega⟩
  refine V_run ?_
  refine zV_ld1 (hat10.mono hz1134) ?_
  refine V_run ?_
  refine hF10 _ _ fun _ => ?_
  clear hF10
  intro F11 hF11
  refine Cond_d (fun _ => ?_) (fun h => absurd (by decide) h)
  obtain ⟨b11, o11, c11, e11, hr11, hat11⟩ := helb _ _ he4
  cases e11
  cases hr11
  haveI : InR 2 ((encB sayC).length : Nat) := ⟨by omega, by omega⟩
  refine V_run ?_
  refine zV_ld1 (hat11.mono hz1134) ?_
  refine V_run ?_
  refine hF11 _ _ fun _ => ?_
  clear hF11
  intro F12 hF12
  refine Cond_d (fun _ => ?_) (fun h => absurd (by decide) h)
  refine hF12 _ _ fun _ => ?_
  clear hF12
  intro F13 hF13
  refine Cond_d (fun _ => ?_) (fun h => absurd (by decide) h)
  refine V_run ?_
  refine hF13 _ _ fun _ => ?_
  clear hF13
  intro F14 hF14
  refine Cond_d (fun _ => ?_) (fun h => absurd (by decide) h)
  refine V_run ?_
  refine hF14 _ _ fun _ => ?_
  clear hF14
  intro F15 hF15
  refine Cond_d (fun _ => ?_) (fun h => absurd (by decide) h)
  refine V_run ?_
  refine hF15 _ _ fun _ => ?_
  clear hF15
  intro F16 hF16
  refine Cond_d (fun _ => ?_) (fun h => absurd (by decide) h)
  refine V_run ?_
  refine hF16 _ _ fun _ => ?_
  clear hF16
  intro F17 hF17
  refine Cond_d (fun _ => ?_) (fun h => absurd (by decide) h)
  refine V_run ?_
  refine hF17 _ _ fun _ => ?_
  clear hF17
  exact ⟨_, _, hS34, rfl⟩)
instance {z : Z} [ht : Tab z] : PuZ z 13 #[] (.bool true) := ⟨fun z' w hz => by haveI := ht.le hz; exact head_of⟩
end Go.Proofs.YtbeelfopmkbllaaGreatDoor
end

section
/- The laws' own functions: many, Few, valid, closed. -/
set_option linter.unusedVariables false
set_option linter.unusedSimpArgs false
set_option maxRecDepth 20000
set_option synthInstance.maxHeartbeats 4000000
set_option synthInstance.maxSize 20000
set_option maxHeartbeats 1000000
namespace Go.Proofs.YtbeelfopmkbllaaGreatDoor
open Go Q Go.RowKit

def manyM (n s l : Int) : Bool := (decide (n > s) && decide (n ≤ l)) || decide (n > l + 20)
theorem manyI {n s l : Int} (h : InI (l + 20)) : Pu 34 #[.int .i64 n, .int .i64 s, .int .i64 l] (.bool (manyM n s l)) := ⟨fun z w => fnW en34 (fun hS R => by unfold vc34; exact inferInstance) (by
  unfold manyM; congr 1; by_cases h1 : n > s <;> by_cases h2 : n ≤ l <;> by_cases h3 : n > l + 20 <;> simp [h1, h2, h3])⟩
instance {n s : Int} : Pu 34 #[.int .i64 n, .int .i64 s, .int .i64 3000] (.bool (manyM n s 3000)) := manyI ⟨by omega⟩
instance {n s : Int} : Pu 34 #[.int .i64 n, .int .i64 s, .int .i64 100] (.bool (manyM n s 100)) := manyI ⟨by omega⟩
instance {n s : Int} : Pu 34 #[.int .i64 n, .int .i64 s, .int .i64 12000] (.bool (manyM n s 12000)) := manyI ⟨by omega⟩
instance {n s : Int} : Pu 34 #[.int .i64 n, .int .i64 s, .int .i64 10000] (.bool (manyM n s 10000)) := manyI ⟨by omega⟩
theorem few_of {z : Z} {w : World} {v : Value} {c : CodeM} (hc : CodeR z v c) : Fn1 14 #[v] z w fun _ r => ∃ b, r = .bool b := Fn1.intro fun hS => en14 (by
  unfold vc14
  obtain ⟨a1, a2, a3, a4, a5, a6, k1, k2, k3, k4, k5, k6, rfl, h1, h2, h3, h4, h5, h6⟩ := hc.form
  refine iV_bx ?_
  intro bc w1 hbc hS1
  obtain ⟨zc, hzc, hS2, hatc⟩ := hS1.frz bc
  generalize hRR : (fun (v : Value) (w' : World) => ∃ z' L', Res w z [] w' z' L' ∧ ∃ b, v = .bool b) = RR
  have hR : ∀ z' w' L' b, Res w1 zc [] w' z' L' → RR (.bool b) w' := fun z' w' L' b k => by rw [← hRR]; exact ⟨z', L', hS2.comp k, b, rfl⟩
  clear hRR
  have hS3 := hS2.self
  clear hS hS1 hS2
  haveI : Fz zc bc 0 [.slice a1 c.consts.length k1] := ⟨hatc.fld (i := 0) rfl rfl⟩
  haveI : Fz zc bc 1 [.slice a2 c.tmpls.length k2] := ⟨hatc.fld (i := 1) rfl rfl⟩
  haveI : Fz zc bc 2 [.slice a3 c.lists.length k3] := ⟨hatc.fld (i := 2) rfl rfl⟩
  haveI : Fz zc bc 3 [.slice a4 c.labels.length k4] := ⟨hatc.fld (i := 3) rfl rfl⟩
  haveI : Fz zc bc 4 [.slice a5 c.slots.length k5] := ⟨hatc.fld (i := 4) rfl rfl⟩
  haveI : Fz zc bc 5 [.slice a6 c.ins.length k6] := ⟨hatc.fld (i := 5) rfl rfl⟩
  (repeat (first | refine V_run ?_ | (refine JGB ?_; intro _ _ _ _) | (refine CV_pu ?_; intro _ _ _ _) | refine fV_ld1 ?_))
  rename_i hS5
  refine Cond_b (fun e1 => ?_) (fun e1 => ?_)
  · exact hR _ _ _ _ hS5
  refine LoopR1 (fun (k : Nat) x => x = .int .i64 k ∧ k ≤ c.consts.length) (fun k => c.consts.length - k) 0 ⟨rfl, Nat.zero_le _⟩ ?_
  rintro I M k x w6 z6 m ⟨rfl, hk⟩ hz6 hS6 back
  obtain ⟨hb1, _, _, e1, _, hel1⟩ := h1.form
  cases e1
  (repeat (first | refine V_run ?_ | refine fV_ld1 ?_))
  refine Cond_d (fun h => ?_) (fun h => ?_)
  · have hlt : k < c.consts.length := by omega
    obtain ⟨b, off, cs, rfl, ⟨rfl, _⟩, hat⟩ := hel1 _ _ (List.getElem?_eq_getElem hlt)
    haveI : InR (k : Int) (c.consts.length : Nat) := ⟨by omega, by omega⟩
    haveI : InI ((k : Int) + 1) := ⟨by simp only [big] at hb1; omega⟩
    haveI : Fz zc b (off + (k : Int).toNat * 1) [.string c.consts[k]] := ⟨hat.mono hzc⟩
    (repeat (first | refine V_run ?_ | refine fV_ld1 ?_))
    refine Cond_d (fun h => ?_) (fun h => ?_)
    · exact hR _ _ _ _ ‹Res w1 zc [] _ _ _›
    · (repeat (refine V_run ?_))
      exact back (k + 1) _ _ _ ⟨by simp, by omega⟩ (by (repeat (exact Le.refl _))) (by assumption) (by omega)
  clear back
  refine LoopR1 (fun (k : Nat) x => x = .int .i64 k ∧ k ≤ c.tmpls.length) (fun k => c.tmpls.length - k) 0 ⟨rfl, Nat.zero_le _⟩ ?_
  rintro I M k x w7 z7 m ⟨rfl, hk⟩ hz7 hS7 back
  obtain ⟨hb2, _, _, e2, _, hel2⟩ := h2.form
  cases e2
  (repeat (first | refine V_run ?_ | refine fV_ld1 ?_))
  refine Cond_d (fun h => ?_) (fun h => ?_)
  · have hlt : k < c.tmpls.length := by omega
    obtain ⟨b, off, cs, rfl, ⟨v9, rfl, hv9⟩, hat⟩ := hel2 _ _ (List.getElem?_eq_getElem hlt)
    obtain ⟨hb9, a9, c9, rfl, _, hel9⟩ := hv9.form
    haveI : InR (k : Int) (c.tmpls.length : Nat) := ⟨by omega, by omega⟩
    haveI : InI ((k : Int) + 1) := ⟨by simp only [big] at hb2; omega⟩
    haveI : Fz zc b (off + (k : Int).toNat * 1) [.slice a9 c.tmpls[k].length c9] := ⟨hat.mono hzc⟩
    (repeat (first | refine V_run ?_ | (refine CV_pu ?_; intro _ _ _ _) | refine fV_ld1 ?_))
    rename_i hS8
    refine Cond_b (fun h => ?_) (fun h => ?_)
    · exact hR _ _ _ _ hS8
    refine LoopR1 (fun (j : Nat) x => x = .int .i64 j ∧ j ≤ c.tmpls[k].length) (fun j => c.tmpls[k].length - j) 0 ⟨rfl, Nat.zero_le _⟩ ?_
    rintro I2 M2 j x w9 z9 m2 ⟨rfl, hj⟩ hz9 hS9 back2
    (repeat (first | refine V_run ?_ | refine fV_ld1 ?_))
    refine Cond_d (fun h => ?_) (fun h => ?_)
    · have hlt2 : j < c.tmpls[k].length := by omega
      obtain ⟨b2, off2, cs, rfl, ⟨rfl, _⟩, hat2⟩ := hel9 _ _ (List.getElem?_eq_getElem hlt2)
      haveI : InR (j : Int) (c.tmpls[k].length : Nat) := ⟨by omega, by omega⟩
      haveI : InI ((j : Int) + 1) := ⟨by simp only [big] at hb9; omega⟩
      haveI : Fz zc b2 (off2 + (j : Int).toNat * 3) c.tmpls[k][j].cells := ⟨hat2.mono hzc⟩
      haveI : Fz zc b2 (off2 + (j : Int).toNat * 3 + 1) [.string c.tmpls[k][j].text] := ⟨(hat2.mono hzc).fld (i := 1) rfl rfl⟩
      (repeat (first | refine V_run ?_ | refine fV_ld1 ?_))
      refine Cond_d (fun h => ?_) (fun h => ?_)
      · exact hR _ _ _ _ ‹Res w1 zc [] _ _ _›
      · (repeat (refine V_run ?_))
        exact back2 (j + 1) _ _ _ ⟨by simp, by omega⟩ (by (repeat (exact Le.refl _))) (by assumption) (by omega)
    · (repeat (refine V_run ?_))
      exact back (k + 1) _ _ z9 ⟨by simp, by omega⟩ (by (repeat (first | assumption | refine Le.trans ?_ (by assumption : Le _ _)))) hS9 (by omega)
  clear back
  refine LoopR1 (fun (k : Nat) x => x = .int .i64 k ∧ k ≤ c.lists.length) (fun k => c.lists.length - k) 0 ⟨rfl, Nat.zero_le _⟩ ?_
  rintro I M k x w10 z10 m ⟨rfl, hk⟩ hz10 hS10 back
  obtain ⟨hb3, _, _, e3, _, hel3⟩ := h3.form
  cases e3
  (repeat (first | refine V_run ?_ | refine fV_ld1 ?_))
  refine Cond_d (fun h => ?_) (fun h => ?_)
  · have hlt : k < c.lists.length := by omega
    obtain ⟨b, off, cs, rfl, ⟨v9, rfl, hv9⟩, hat⟩ := hel3 _ _ (List.getElem?_eq_getElem hlt)
    obtain ⟨hb9, a9, c9, rfl, _, hel9⟩ := hv9.form
    haveI : InR (k : Int) (c.lists.length : Nat) := ⟨by omega, by omega⟩
    haveI : InI ((k : Int) + 1) := ⟨by simp only [big] at hb3; omega⟩
    haveI : Fz zc b (off + (k : Int).toNat * 1) [.slice a9 c.lists[k].length c9] := ⟨hat.mono hzc⟩
    (repeat (first | refine V_run ?_ | (refine CV_pu ?_; intro _ _ _ _) | refine fV_ld1 ?_))
    rename_i hS8
    refine Cond_b (fun h => ?_) (fun h => ?_)
    · exact hR _ _ _ _ hS8
    refine LoopR1 (fun (j : Nat) x => x = .int .i64 j ∧ j ≤ c.lists[k].length) (fun j => c.lists[k].length - j) 0 ⟨rfl, Nat.zero_le _⟩ ?_
    rintro I2 M2 j x w9 z9 m2 ⟨rfl, hj⟩ hz9 hS9 back2
    (repeat (first | refine V_run ?_ | refine fV_ld1 ?_))
    refine Cond_d (fun h => ?_) (fun h => ?_)
    · have hlt2 : j < c.lists[k].length := by omega
      obtain ⟨b2, off2, cs, rfl, ⟨rfl, _⟩, hat2⟩ := hel9 _ _ (List.getElem?_eq_getElem hlt2)
      haveI : InR (j : Int) (c.lists[k].length : Nat) := ⟨by omega, by omega⟩
      haveI : InI ((j : Int) + 1) := ⟨by simp only [big] at hb9; omega⟩
      haveI : Fz zc b2 (off2 + (j : Int).toNat * 2 + 0) [.string c.lists[k][j].name] := ⟨(hat2.mono hzc).fld (i := 0) rfl rfl⟩
      haveI : Fz zc b2 (off2 + (j : Int).toNat * 2) [.string c.lists[k][j].name] := ⟨(hat2.mono hzc).fld (i := 0) rfl rfl⟩
      (repeat (first | refine V_run ?_ | refine fV_ld1 ?_))
      refine Cond_d (fun h => ?_) (fun h => ?_)
      · exact hR _ _ _ _ ‹Res w1 zc [] _ _ _›
      · (repeat (refine V_run ?_))
        exact back2 (j + 1) _ _ _ ⟨by simp, by omega⟩ (by (repeat (exact Le.refl _))) (by assumption) (by omega)
    · (repeat (refine V_run ?_))
      exact back (k + 1) _ _ z9 ⟨by simp, by omega⟩ (by (repeat (first | assumption | refine Le.trans ?_ (by assumption : Le _ _)))) hS9 (by omega)
  clear back
  refine LoopR1 (fun (k : Nat) x => x = .int .i64 k ∧ k ≤ c.labels.length) (fun k => c.labels.length - k) 0 ⟨rfl, Nat.zero_le _⟩ ?_
  rintro I M k x w11 z11 m ⟨rfl, hk⟩ hz11 hS11 back
  obtain ⟨hb4, _, _, e4, _, hel4⟩ := h4.form
  cases e4
  (repeat (first | refine V_run ?_ | refine fV_ld1 ?_))
  refine Cond_d (fun h => ?_) (fun h => ?_)
  · have hlt : k < c.labels.length := by omega
    obtain ⟨b, off, cs, rfl, ⟨rfl, _⟩, hat⟩ := hel4 _ _ (List.getElem?_eq_getElem hlt)
    haveI : InR (k : Int) (c.labels.length : Nat) := ⟨by omega, by omega⟩
    haveI : InI ((k : Int) + 1) := ⟨by simp only [big] at hb4; omega⟩
    haveI : Fz zc b (off + (k : Int).toNat * 2 + 0) [.string c.labels[k].name] := ⟨(hat.mono hzc).fld (i := 0) rfl rfl⟩
    haveI : Fz zc b (off + (k : Int).toNat * 2) [.string c.labels[k].name] := ⟨(hat.mono hzc).fld (i := 0) rfl rfl⟩
    (repeat (first | refine V_run ?_ | refine fV_ld1 ?_))
    refine Cond_d (fun h => ?_) (fun h => ?_)
    · exact hR _ _ _ _ ‹Res w1 zc [] _ _ _›
    · (repeat (refine V_run ?_))
      exact back (k + 1) _ _ _ ⟨by simp, by omega⟩ (by (repeat (exact Le.refl _))) (by assumption) (by omega)
  · exact hR _ _ _ _ hS11)
/-- What closed asks of a set. -/
def closedM (c : CodeM) (s : List Bool) : Bool :=
  s.getD 0 false && ((c.labels.all fun p => !(decide (0 ≤ p.at_) && decide (p.at_ < (s.length : Int)) && !s.getD p.at_.toNat false)) && (List.range s.length).all fun i => (nextM c i).all fun n => decide (n < s.length) && (!s.getD i false || s.getD n false))
theorem bool_at {z : Z} {a : Option Addr} {n cap k : Nat} {l : List Bool} (h : SlR El.bool z (.slice a n cap) l) (hk : k < l.length) : ∃ b off, a = some ⟨b, off, none⟩ ∧ At z b (off + k * 1) [.bool (l.getD k false)] := by
  obtain ⟨_, a', c', e, _, hel⟩ := h.form
  cases e
  obtain ⟨b, off, cs, ha, hr, hat⟩ := hel _ _ (List.getElem?_eq_getElem hk)
  cases hr
  rw [List.getD_eq_getElem?_getD, List.getElem?_eq_getElem hk]
  exact ⟨b, off, ha, hat⟩
theorem closed_of {z : Z} {w : World} {v vs : Value} {c : CodeM} {s : List Bool} (hc : CodeR z v c) (hs : SlR El.bool z vs s) (h0 : 0 < s.length) : Fn1 25 #[v, vs] z w fun _ r => r = .bool (closedM c s) := Fn1.intro fun hS => en25 (by
  unfold vc25
  obtain ⟨a1, a2, a3, a4, a5, a6, k1, k2, k3, k4, k5, k6, rfl, h1, h2, h3, h4, h5, h6⟩ := hc.form
  obtain ⟨hbs, as_, cs_, rfl, _, _⟩ := hs.form
  refine iV_bx ?_
  intro bc w1 hbc hS1
  obtain ⟨zc, hzc, hS2, hatc⟩ := hS1.frz bc
  generalize hRR : (fun (v : Value) (w' : World) => ∃ z' L', Res w z [] w' z' L' ∧ v = .bool (closedM c s)) = RR
  have hR : ∀ z' w' L' b, Res w1 zc [] w' z' L' → b = closedM c s → RR (.bool b) w' := fun z' w' L' b k e => by rw [← hRR, e]; exact ⟨z', L', hS2.comp k, rfl⟩
  clear hRR
  have hS3 := hS2.self
  clear hS hS1 hS2
  haveI : Fz zc bc 3 [.slice a4 c.labels.length k4] := ⟨hatc.fld (i := 3) rfl rfl⟩
  haveI : InR 0 (s.length : Nat) := ⟨by omega, by omega⟩
  obtain ⟨bs, os, rfl, hat0⟩ := bool_at hs h0
  refine V_run ?_
  refine zV_ld1 (by simpa using hat0.mono hzc) ?_
  refine V_run ?_
  refine Cond_n (fun e => ?_) (fun e => ?_)
  · have e' : s.getD 0 false = false := by simpa using e
    exact hR _ _ _ _ hS3 (by unfold closedM; rw [e']; rfl)
  have e0 : s.getD 0 false = true := by simpa using e
  have hres : ∀ p1 p2 : Bool, (c.labels.all fun p => !(decide (0 ≤ p.at_) && decide (p.at_ < (s.length : Int)) && !s.getD p.at_.toNat false)) = p1 → ((List.range s.length).all fun i => (nextM c i).all fun n => decide (n < s.length) && (!s.getD i false || s.getD n false)) = p2 → closedM c s = (p1 && p2) := fun p1 p2 h1 h2 => by unfold closedM; rw [e0, h1, h2]; rfl
  clear e
  refine LoopR1 (fun (k : Nat) x => x = .int .i64 k ∧ k ≤ c.labels.length ∧ ∀ p ∈ c.labels.take k, (!(decide (0 ≤ p.at_) && decide (p.at_ < (s.length : Int)) && !s.getD p.at_.toNat false)) = true) (fun k => c.labels.length - k) 0 ⟨rfl, Nat.zero_le _, by simp⟩ ?_
  rintro I M k x w4 z4 m ⟨rfl, hk, hall⟩ hz4 hS4 back
  clear hS3
  obtain ⟨hb4, _, _, e4, _, hel4⟩ := h4.form
  cases e4
  (repeat (first | refine V_run ?_ | refine fV_ld1 ?_))
  refine Cond_d (fun h => ?_) (fun h => ?_)
  · have hlt : k < c.labels.length := by omega
    obtain ⟨b, off, cs, rfl, ⟨rfl, _⟩, hat⟩ := hel4 _ _ (List.getElem?_eq_getElem hlt)
    haveI : InR (k : Int) (c.labels.length : Nat) := ⟨by omega, by omega⟩
    haveI : InI ((k : Int) + 1) := ⟨by simp only [big] at hb4; omega⟩
    haveI : Fz zc b (off + (k : Int).toNat * 2 + 1) [.int .i64 c.labels[k].at_] := ⟨(hat.mono hzc).fld (i := 1) rfl rfl⟩
    generalize hpp : c.labels[k] = p at *
    (repeat (first | refine V_run ?_ | refine JB ?_ | refine fV_ld1 ?_))
    intro Kb hKb
    generalize hq0 : (bif decide (p.at_ ≥ 0) then decide (p.at_ < (s.length : Int)) else false) = q
    have hq : q = (decide (0 ≤ p.at_) && decide (p.at_ < (s.length : Int))) := by rw [← hq0]; by_cases h : 0 ≤ p.at_ <;> simp [h]
    clear hq0
    · skip
      have mb : ∀ r : Bool, r = (q && !s.getD p.at_.toNat false) → Kb [.bool r] w4 := by
        intro r hr
        refine hKb _ _ fun _ => ?_
        clear hKb
        cases r with
        | true =>
          refine Cond_t ?_
          refine hR _ _ _ _ hS4 ?_
          have : (c.labels.all fun p => !(decide (0 ≤ p.at_) && decide (p.at_ < (s.length : Int)) && !s.getD p.at_.toNat false)) = false := by
            rw [List.all_eq_false]
            exact ⟨p, by rw [← hpp]; exact List.getElem_mem hlt, by rw [← hq, ← hr]; simp⟩
          rw [hres _ _ this rfl]; rfl
        | false =>
          refine Cond_f ?_
          refine V_run ?_
          refine back (k + 1) _ _ _ ⟨by simp, by omega, fun p' hp' => ?_⟩ (Le.refl _) hS4 (by omega)
          rw [List.take_succ_eq_append_getElem hlt, List.mem_append, List.mem_singleton, hpp] at hp'
          rcases hp' with hp' | rfl
          · exact hall p' hp'
          · rw [← hq, ← hr]; rfl
      cases q with
      | false => exact Cond_f (mb false rfl)
      | true =>
        have hq' := hq.symm
        simp only [Bool.and_eq_true, decide_eq_true_eq] at hq'
        haveI : InR p.at_ (s.length : Nat) := ⟨by omega, by omega⟩
        obtain ⟨bs', os', e', hat'⟩ := bool_at hs (k := p.at_.toNat) (by omega)
        cases e'
        refine Cond_t ?_
        refine V_run ?_
        refine zV_ld1 (hat'.mono (hzc.trans hz4)) ?_
        refine V_run ?_
        exact mb _ rfl
  have hk4 : k = c.labels.length := by omega
  subst hk4
  rw [List.take_length] at hall
  have hp1 := List.all_eq_true.2 hall
  clear back hall
  refine LoopR1 (fun (i : Nat) x => x = .int .i64 i ∧ i ≤ s.length ∧ ∀ i' < i, ((nextM c i').all fun n => decide (n < s.length) && (!s.getD i' false || s.getD n false)) = true) (fun i => s.length - i) 0 ⟨rfl, Nat.zero_le _, fun i' hi => by omega⟩ ?_
  rintro I M i x w6 z6 m ⟨rfl, hi, hall⟩ hz6 hS6 back
  clear hS4
  refine V_run ?_
  refine V_run ?_
  refine Cond_d (fun h => ?_) (fun h => ?_)
  · have hlt : i < s.length := by omega
    haveI : InI ((i : Int) + 1) := ⟨by simp only [big] at hbs; omega⟩
    have hz46 := hz4.trans hz6
    refine zV_ldN (n := 6) (hatc.mono hz46) rfl ?_
    refine CV_1 (next_of (at_ := i) (hc.mono (hzc.trans hz46))) ?_
    rintro z7 w7 v7 hz7 hS7 hv7
    obtain ⟨hbn, an, cn, rfl, _, heln⟩ := hv7.form
    generalize hnx : nextM c i = l at heln hbn
    have hll : (ofNats l).length = l.length := by simp [ofNats]
    refine LoopR1 (fun (j : Nat) x => x = .int .i64 j ∧ j ≤ l.length ∧ ∀ n ∈ l.take j, (decide (n < s.length) && (!s.getD i false || s.getD n false)) = true) (fun j => l.length - j) 0 ⟨rfl, Nat.zero_le _, by simp⟩ ?_
    rintro I2 M2 j x w8 z8 m2 ⟨rfl, hj, hall2⟩ hz8 hS8 back2
    clear hS7
    rw [hll]
    refine V_run ?_
    refine V_run ?_
    refine Cond_d (fun h2 => ?_) (fun h2 => ?_)
    · have hlt2 : j < l.length := by omega
      obtain ⟨b, off, cs, rfl, hr, hat⟩ := heln j (l[j] : Nat) (by simp [ofNats, hlt2])
      cases hr
      haveI : InR (j : Int) (l.length : Nat) := ⟨by omega, by omega⟩
      haveI : InR (i : Int) (s.length : Nat) := ⟨by omega, by omega⟩
      haveI : InI ((j : Int) + 1) := ⟨by simp only [big] at hbn; omega⟩
      have hat8 := hat.mono hz8
      generalize hnn : l[j] = n at hat hat8
      refine V_run ?_
      refine zV_ld1 hat8 ?_
      refine V_run ?_
      intro Ka hKa
      have ma : ∀ q : Bool, q = (!decide (n < s.length)) → Ka [.bool q] w8 := by
        intro q hq
        refine hKa _ _ fun _ => ?_
        clear hKa
        intro Kb hKb
        have mb : ∀ r : Bool, r = (q || (s.getD i false && !s.getD n false)) → Kb [.bool r] w8 := by
          intro r hr
          refine hKb _ _ fun _ => ?_
          clear hKb
          have hok : (decide (n < s.length) && (!s.getD i false || s.getD n false)) = !r := by
            rw [hr, hq]; cases decide (n < s.length) <;> cases s.getD i false <;> cases s.getD n false <;> rfl
          cases r with
          | true =>
            refine Cond_t ?_
            refine hR _ _ _ _ hS8 ?_
            have : ((List.range s.length).all fun i => (nextM c i).all fun n => decide (n < s.length) && (!s.getD i false || s.getD n false)) = false := by
              rw [List.all_eq_false]
              refine ⟨i, List.mem_range.2 hlt, ?_⟩
              rw [hnx, Bool.not_eq_true, List.all_eq_false]
              exact ⟨n, by rw [← hnn]; exact List.getElem_mem hlt2, by rw [hok]; simp⟩
            rw [hres _ _ hp1 this]; rfl
          | false =>
            refine Cond_f ?_
            refine V_run ?_
            refine back2 (j + 1) _ _ _ ⟨by simp, by omega, fun n' hn' => ?_⟩ (Le.refl _) hS8 (by omega)
            rw [List.take_succ_eq_append_getElem hlt2, List.mem_append, List.mem_singleton, hnn] at hn'
            rcases hn' with hn' | rfl
            · exact hall2 n' hn'
            · rw [hok]; rfl
        cases q with
        | true => exact Cond_t (mb true rfl)
        | false =>
          have hns : n < s.length := by simpa using hq.symm
          haveI : InR (n : Int) (s.length : Nat) := ⟨by omega, by omega⟩
          have hzz : Le z z8 := hzc.trans (hz46.trans (hz7.trans hz8))
          obtain ⟨b2, o2, e2, hat2⟩ := bool_at hs (k := i) hlt
          cases e2
          obtain ⟨b3, o3, e3, hat3⟩ := bool_at hs (k := n) hns
          cases e3
          refine Cond_f ?_
          refine V_run ?_
          refine zV_ld1 (by rw [Int.toNat_natCast]; exact hat2.mono hzz) ?_
          intro Kc hKc
          have mc : ∀ r : Bool, r = (s.getD i false && !s.getD n false) → Kc [.bool r] w8 := fun r hr => hKc _ _ fun _ => mb r (by rw [hr]; rfl)
          cases hsi : s.getD i false with
          | false => exact Cond_f (mc false (by rw [hsi]; rfl))
          | true =>
            refine Cond_t ?_
            refine V_run ?_
            refine zV_ld1 hat8 ?_
            refine V_run ?_
            refine zV_ld1 (by rw [Int.toNat_natCast]; exact hat3.mono hzz) ?_
            refine V_run ?_
            exact mc _ (by rw [hsi]; rfl)
      refine Cond_d (fun h => absurd h (by omega)) (fun _ => ?_)
      refine V_run ?_
      refine zV_ld1 hat8 ?_
      refine V_run ?_
      refine V_run ?_
      exact ma _ (by by_cases h : n < s.length <;> simp [h] <;> omega)
    · refine V_run ?_
      refine back (i + 1) _ _ _ ⟨by simp, by omega, fun i' hi' => ?_⟩ (hz7.trans hz8) hS8 (by omega)
      rcases Nat.lt_or_eq_of_le (Nat.le_of_lt_succ hi') with hi' | hi'
      · exact hall i' hi'
      · subst hi'
        rw [hnx]
        rw [List.take_of_length_le (by omega)] at hall2
        exact List.all_eq_true.2 hall2
  · have hk5 : i = s.length := by omega
    subst hk5
    refine hR _ _ _ _ hS6 ?_
    rw [hres _ _ hp1 (List.all_eq_true.2 fun i hi => hall i (List.mem_range.1 hi))]; rfl)
end Go.Proofs.YtbeelfopmkbllaaGreatDoor
end

section
/- The law of Reach: it is closed, and the least closed set (plain), and its walk. -/
set_option linter.unusedVariables false
set_option linter.unusedSimpArgs false
set_option maxRecDepth 20000
set_option synthInstance.maxHeartbeats 4000000
set_option synthInstance.maxSize 20000
set_option maxHeartbeats 1000000
namespace Go.Proofs.YtbeelfopmkbllaaGreatDoor
open Go Q Go.RowKit

theorem mem_insK {out : List Nat} {x y : Nat} : y ∈ insK out x ↔ y ∈ out ∨ y = x := by
  unfold insK
  cases h : memK out x with
  | true =>
    have hx : x ∈ out := by unfold memK at h; simpa using h
    simp only [cond_true]
    exact ⟨.inl, fun h => h.elim id fun e => e ▸ hx⟩
  | false => simp
theorem mem_foldK {l : List (Nat × Bool)} : ∀ {out : List Nat} {y : Nat}, y ∈ l.foldl (fun out p => insK out p.1) out ↔ y ∈ out ∨ y ∈ l.map fun p => p.1 := by
  induction l with
  | nil => simp
  | cons p l ih =>
    intro out y
    rw [List.foldl_cons, ih, mem_insK]
    simp only [List.map_cons, List.mem_cons]
    exact or_assoc
theorem mem_nextL {c : CodeM} {a y : Nat} : y ∈ nextL c a ↔ y ∈ toL c a := by
  unfold nextL toL
  rw [mem_foldK]; simp
theorem getD_set {l : List Bool} {a x : Nat} (ha : a < l.length) : (l.set a true).getD x false = true ↔ x = a ∨ l.getD x false = true := by
  rw [List.getD_eq_getElem?_getD, List.getD_eq_getElem?_getD, List.getElem?_set]
  by_cases h : a = x
  · subst h; simp [ha]
  · rw [if_neg h]
    exact ⟨.inr, fun e => e.elim (fun e => absurd e.symm h) id⟩
theorem runR_closed {c : CodeM} : ∀ (f : Nat) (r : RcM), InvR c.ins.length r → meaR r ≤ f → (∀ a, r.set.getD a false = true → ∀ n ∈ toL c a, r.set.getD n false = true ∨ n ∈ r.open_) →
    (runR c f r).length = c.ins.length ∧ (∀ a, (runR c f r).getD a false = true → ∀ n ∈ toL c a, (runR c f r).getD n false = true) ∧ (∀ x, r.set.getD x false = true ∨ x ∈ r.open_ → (runR c f r).getD x false = true)
  | 0, r, h, hm, hc => by
    have h0 : r.open_ = [] := List.eq_nil_of_length_eq_zero (by unfold meaR at hm; omega)
    rw [h0] at hc
    refine ⟨h.len, fun a ha n hn => (hc a ha n hn).elim id fun e => (by cases e), fun x hx => ?_⟩
    rw [h0] at hx
    exact hx.elim id fun e => (by cases e)
  | f + 1, r, h, hm, hc => by
    unfold runR
    cases hl : r.open_.getLast? with
    | none =>
      have h0 : r.open_ = [] := List.getLast?_eq_none_iff.1 hl
      rw [h0] at hc
      refine ⟨h.len, fun a ha n hn => (hc a ha n hn).elim id fun e => (by cases e), fun x hx => ?_⟩
      rw [h0] at hx
      exact hx.elim id fun e => (by cases e)
    | some a =>
      obtain ⟨l, hla⟩ := List.getLast?_eq_some_iff.1 hl
      obtain ⟨s, o⟩ := r
      simp only at hla hc hl
      subst hla
      obtain ⟨h1, h2, h3⟩ := popR h
      obtain ⟨h4, h5⟩ := stepR_inv (c := c) h1 h3
      have hd : (l ++ [a]).dropLast = l := by simp
      simp only [hd]
      have hsl : s.length = c.ins.length := h.len
      have ih := runR_closed f (stepR c ⟨s, l⟩ a) h4 (by omega) (by
        unfold stepR
        by_cases e : s.getD a false = true
        · rw [if_pos e]
          intro b hb n hn
          rcases hc b hb n hn with h | h
          · exact .inl h
          · rcases List.mem_append.1 h with h | h
            · exact .inr h
            · rw [List.mem_singleton.1 h]; exact .inl e
        · rw [if_neg e]
          intro b hb n hn
          simp only at hb ⊢
          rw [getD_set (by omega)] at hb ⊢
          rw [List.mem_append]
          rcases hb with rfl | hb
          · exact .inr (.inr hn)
          · rcases hc b hb n hn with h | h
            · exact .inl (.inr h)
            · rcases List.mem_append.1 h with h | h
              · exact .inr (.inl h)
              · exact .inl (.inl (List.mem_singleton.1 h)))
      refine ⟨ih.1, ih.2.1, fun x hx => ih.2.2 x ?_⟩
      unfold stepR
      by_cases e : s.getD a false = true
      · rw [if_pos e]
        rcases hx with h | h
        · exact .inl h
        · rcases List.mem_append.1 h with h | h
          · exact .inr h
          · rw [List.mem_singleton.1 h]; exact .inl e
      · rw [if_neg e]
        simp only
        rw [getD_set (by omega), List.mem_append]
        rcases hx with h | h
        · exact .inl (.inr h)
        · rcases List.mem_append.1 h with h | h
          · exact .inr (.inl h)
          · exact .inl (.inl (List.mem_singleton.1 h))
theorem runR_least {c : CodeM} {S : Nat → Prop} (hS : ∀ a, S a → ∀ n ∈ toL c a, S n) : ∀ (f : Nat) (r : RcM), r.set.length = c.ins.length → (∀ a ∈ r.open_, a < c.ins.length) → (∀ a, r.set.getD a false = true → S a) → (∀ a ∈ r.open_, S a) → ∀ a, (runR c f r).getD a false = true → S a
  | 0, r, _, _, h1, _, a, ha => h1 a ha
  | f + 1, r, h0, hlt, h1, h2, a, ha => by
    unfold runR at ha
    cases hl : r.open_.getLast? with
    | none => rw [hl] at ha; exact h1 a ha
    | some b =>
      rw [hl] at ha
      obtain ⟨l, hla⟩ := List.getLast?_eq_some_iff.1 hl
      obtain ⟨s, o⟩ := r
      simp only at hla h1 h2 ha hlt h0
      subst hla
      have hd : (l ++ [b]).dropLast = l := by simp
      simp only [hd] at ha
      have hb : S b := h2 b (by simp)
      have hbl : b < c.ins.length := hlt b (by simp)
      refine runR_least hS f (stepR c ⟨s, l⟩ b) ?_ ?_ ?_ ?_ a ha
      all_goals unfold stepR
      · by_cases e : s.getD b false = true
        · rw [if_pos e]; exact h0
        · rw [if_neg e]; simpa using h0
      · by_cases e : s.getD b false = true
        · rw [if_pos e]; exact fun x hx => hlt x (by simp; exact .inl hx)
        · rw [if_neg e]
          intro x hx
          rcases List.mem_append.1 hx with hx | hx
          · exact hlt x (by simp; exact .inl hx)
          · exact toL_lt x hx
      · by_cases e : s.getD b false = true
        · rw [if_pos e]; exact h1
        · rw [if_neg e]
          intro x hx
          simp only at hx
          rw [getD_set (by omega)] at hx
          rcases hx with rfl | hx
          · exact hb
          · exact h1 x hx
      · by_cases e : s.getD b false = true
        · rw [if_pos e]; exact fun x hx => h2 x (by simp; exact .inl hx)
        · rw [if_neg e]
          intro x hx
          rcases List.mem_append.1 hx with hx | hx
          · exact h2 x (by simp; exact .inl hx)
          · exact hS b hb x hx
theorem reachBad_iff {c : CodeM} : reachBad c = false ↔ c.ins.length ≤ 12000 ∧ c.labels.length ≤ 3000 ∧ c.ins.length ≠ 0 := by
  unfold reachBad
  simp only [Bool.or_eq_false_iff, decide_eq_false_iff_not]
  omega
theorem startR_inv {c : CodeM} (h : reachBad c = false) : InvR c.ins.length ⟨List.replicate c.ins.length false, rootsM c⟩ ∧ meaR ⟨List.replicate c.ins.length false, rootsM c⟩ ≤ (rootsM c).length + 3 * c.ins.length + 1 := by
  obtain ⟨h1, h2, h3⟩ := reachBad_iff.1 h
  have hr := rootsK_le (c := c) (k := c.labels.length)
  refine ⟨⟨by simp, fun a ha => ?_, ?_⟩, ?_⟩
  · unfold rootsM rootsK at ha
    rcases List.mem_cons.1 ha with rfl | ha
    · omega
    · obtain ⟨p, hp, rfl⟩ := List.mem_map.1 ha
      have := (List.mem_filter.1 hp).2
      rw [rootOk, inB_iff] at this
      omega
  · simp only [List.count_replicate_self]
    have : (rootsM c).length ≤ c.labels.length + 1 := hr
    omega
  · unfold meaR; simp only [List.count_replicate_self]; omega
theorem nextM_mem {c : CodeM} (h : reachBad c = false) {a y : Nat} (ha : a < c.ins.length) : y ∈ nextM c a ↔ y ∈ toL c a := by
  obtain ⟨h1, h2, h3⟩ := reachBad_iff.1 h
  have hb : nextBad c a = false := by
    unfold nextBad
    simp only [Bool.or_eq_false_iff, decide_eq_false_iff_not, Bool.not_eq_false', inB_iff]
    omega
  unfold nextM
  rw [hb, if_neg (by simp), Int.toNat_natCast, mem_nextL]
theorem closedM_iff {c : CodeM} {s : List Bool} : closedM c s = true ↔ s.getD 0 false = true ∧ (∀ p ∈ c.labels, 0 ≤ p.at_ → p.at_ < (s.length : Int) → s.getD p.at_.toNat false = true) ∧ ∀ i < s.length, ∀ n ∈ nextM c i, n < s.length ∧ (s.getD i false = true → s.getD n false = true) := by
  unfold closedM
  simp only [Bool.and_eq_true, List.all_eq_true, List.mem_range, Bool.not_eq_true', decide_eq_true_eq, Bool.or_eq_true, Bool.and_eq_false_iff, Bool.not_eq_false', decide_eq_false_iff_not]
  constructor
  · rintro ⟨h1, h2, h3⟩
    refine ⟨h1, fun p hp h4 h5 => ?_, fun i hi n hn => ⟨(h3 i hi n hn).1, fun h => ?_⟩⟩
    · rcases h2 p hp with h | h
      · rcases h with h | h
        · omega
        · omega
      · exact h
    · rcases (h3 i hi n hn).2 with e | e
      · rw [h] at e; cases e
      · exact e
  · rintro ⟨h1, h2, h3⟩
    refine ⟨h1, fun p hp => ?_, fun i hi n hn => ⟨(h3 i hi n hn).1, ?_⟩⟩
    · by_cases h4 : 0 ≤ p.at_
      · by_cases h5 : p.at_ < (s.length : Int)
        · exact .inr (h2 p hp h4 h5)
        · exact .inl (.inr h5)
      · exact .inl (.inl h4)
    · cases e : s.getD i false with
      | false => exact .inl rfl
      | true => exact .inr ((h3 i hi n hn).2 e)
theorem reach_spec {c : CodeM} (h : reachBad c = false) : (reachM c).length = c.ins.length ∧ (∀ a, (reachM c).getD a false = true → ∀ n ∈ toL c a, (reachM c).getD n false = true) ∧ (∀ x ∈ rootsM c, (reachM c).getD x false = true) := by
  obtain ⟨h1, h2⟩ := startR_inv h
  have := runR_closed _ _ h1 h2 (fun a ha => by
    simp only [List.getD_eq_getElem?_getD, List.getElem?_replicate] at ha
    split at ha <;> simp at ha)
  unfold reachM
  rw [h, if_neg (by simp)]
  exact ⟨this.1, this.2.1, fun x hx => this.2.2 x (.inr hx)⟩
theorem reach_closed {c : CodeM} (h : reachBad c = false) : closedM c (reachM c) = true := by
  obtain ⟨h1, h2, h3⟩ := reach_spec h
  rw [closedM_iff, h1]
  refine ⟨h3 0 (by simp [rootsM, rootsK]), fun p hp h4 h5 => h3 _ ?_, fun i hi n hn => ?_⟩
  · unfold rootsM rootsK
    rw [List.take_length]
    refine List.mem_cons_of_mem _ (List.mem_map.2 ⟨p, List.mem_filter.2 ⟨hp, ?_⟩, rfl⟩)
    rw [rootOk, inB_iff]; omega
  · rw [nextM_mem h hi] at hn
    exact ⟨toL_lt n hn, fun e => h2 i e n hn⟩
theorem reach_least {c : CodeM} {s : List Bool} (h : reachBad c = false) (hl : s.length = c.ins.length) (hs : closedM c s = true) : ∀ a, (reachM c).getD a false = true → s.getD a false = true := by
  obtain ⟨h1, h2, h3⟩ := closedM_iff.1 hs
  unfold reachM
  rw [h, if_neg (by simp)]
  obtain ⟨hi, _⟩ := startR_inv h
  refine runR_least (S := fun a => s.getD a false = true) (fun a ha n hn => ?_) _ _ hi.len hi.op (fun a ha => ?_) (fun a ha => ?_)
  · have hal : a < s.length := by
      apply Classical.byContradiction
      intro hge
      rw [List.getD_eq_getElem?_getD, List.getElem?_eq_none (by omega)] at ha
      cases ha
    exact (h3 a hal n ((nextM_mem h (by omega)).2 hn)).2 ha
  · simp only [List.getD_eq_getElem?_getD, List.getElem?_replicate] at ha
    split at ha <;> simp at ha
  · unfold rootsM rootsK at ha
    rcases List.mem_cons.1 ha with rfl | ha
    · exact h1
    · rw [List.take_length] at ha
      obtain ⟨p, hp, rfl⟩ := List.mem_map.1 ha
      obtain ⟨hp1, hp2⟩ := List.mem_filter.1 hp
      rw [rootOk, inB_iff] at hp2
      exact h2 p hp1 hp2.1 (by omega)
end Go.Proofs.YtbeelfopmkbllaaGreatDoor
end

section
/- The law of Reach: the walk. -/
set_option linter.unusedVariables false
set_option linter.unusedSimpArgs false
set_option maxRecDepth 20000
set_option synthInstance.maxHeartbeats 4000000
set_option synthInstance.maxSize 20000
set_option maxHeartbeats 1000000
namespace Go.Proofs.YtbeelfopmkbllaaGreatDoor
open Go Q Go.RowKit

theorem lawClosed {z : Z} {w : World} {v vs : Value} {c : CodeM} {s : List Bool} [ht : Tab z] (hc : CodeR z v c) (hs : SlR El.bool z vs s) : Fn1 7 #[v, vs] z w fun _ r => r = .bool true := Fn1.intro fun hS => en7 (by
  unfold vc7
  obtain ⟨a1, a2, a3, a4, a5, a6, k1, k2, k3, k4, k5, k6, rfl, h1, h2, h3, h4, h5, h6⟩ := hc.form
  obtain ⟨hbs, as_, cs_, rfl, _, hels⟩ := hs.form
  refine iV_bx ?_
  intro bc w1 hbc hS1
  obtain ⟨zc, hzc, hS2, hatc⟩ := hS1.frz bc
  generalize hRR : (fun (v : Value) (w' : World) => ∃ z' L', Res w z [] w' z' L' ∧ v = .bool true) = RR
  have hR : ∀ z' w' L' b, Res w1 zc [] w' z' L' → b = true → RR (.bool b) w' := fun z' w' L' b k e => by rw [← hRR, e]; exact ⟨z', L', hS2.comp k, rfl⟩
  clear hRR
  have hS3 := hS2.self
  clear hS hS1 hS2
  haveI : Tab zc := ht.le hzc
  haveI : Fz zc bc 3 [.slice a4 c.labels.length k4] := ⟨hatc.fld (i := 3) rfl rfl⟩
  haveI : Fz zc bc 5 [.slice a6 c.ins.length k6] := ⟨hatc.fld (i := 5) rfl rfl⟩
  refine CV_puz ?_
  intro z4 w4 hz4 hS4
  refine zV_ldN (n := 6) (hatc.mono hz4) rfl ?_
  refine CV_1 (few_of (hc.mono (hzc.trans hz4))) ?_
  rintro z5 w5 v5 hz5 hS5 ⟨b, rfl⟩
  clear hS3 hS4
  refine V_run ?_
  refine Cond_n (fun _ => hR _ _ _ _ hS5 rfl) (fun _ => ?_)
  have hz45 := hz4.trans hz5
  refine zV_ldN (n := 6) (hatc.mono hz45) rfl ?_
  refine CV_1 (reach_of (hc.mono (hzc.trans hz45))) ?_
  rintro z6 w6 v6 hz6 hS6 hvr
  clear hS5
  have hz46 := hz45.trans hz6
  obtain ⟨hbr, ar, cr, rfl, _, helr⟩ := hvr.form
  (repeat (first | refine V_run ?_ | (refine JGB ?_; intro _ _ _ _) | refine fV_ld1 ?_))
  rename_i z67 w67 hz67 hS67 z7 w7 hz77 hS7
  have hz7 : Le z6 z7 := hz67.trans hz77
  clear hS67
  refine Cond_b (fun hb => ?_) (fun hb => ?_)
  · have hbad : reachBad c = true := by
      cases e : reachBad c with
      | true => rfl
      | false =>
        obtain ⟨e1, e2, e3⟩ := reachBad_iff.1 e
        have e4 : ¬ c.ins.length > 12000 := by omega
        have e5 : ¬ c.labels.length > 3000 := by omega
        simp [e3] at hb
        omega
    have hr0 : reachM c = [] := by unfold reachM; rw [if_pos hbad]
    rw [hr0]
    (repeat (refine JB ?_))
    exact hR _ _ _ _ ‹Res w1 zc [] _ _ _› rfl
  have hbad : reachBad c = false := by
    rw [reachBad_iff]
    simp only [Bool.cond_eq_ite] at hb
    by_cases e1 : c.ins.length = 0
    · simp [e1] at hb
    · by_cases e2 : c.ins.length > 12000
      · simp [e1] at hb; omega
      · simp [e1] at hb; omega
  obtain ⟨hrl, _, _⟩ := reach_spec hbad
  have hpos : 0 < c.ins.length := by have := (reachBad_iff.1 hbad).2.2; omega
  have hcl := reach_closed hbad
  refine V_run ?_
  refine V_run ?_
  refine fV_ld1 ?_
  refine V_run ?_
  refine V_run ?_
  intro Ka hKa
  have ma : ∀ w' z', Le z6 z' → Res w1 zc [] w' z' [] → Ka [.bool false] w' := by
    intro w8 z8 hz8 hS8
    refine hKa _ _ fun _ => ?_
    clear hKa
    refine Cond_f ?_
    have hz48 := hz46.trans hz8
    refine V_run ?_
    refine V_run ?_
    refine fV_ld1 ?_
    refine V_run ?_
    refine V_run ?_
    intro Kb hKb
    have mb : ∀ q w' z', Le z8 z' → Res w1 zc [] w' z' [] → (q = false → s.length = c.ins.length ∧ closedM c s = true) → Kb [.bool q] w' := by
      intro q w9 z9 hz9 hS9 hq
      refine hKb _ _ fun _ => ?_
      clear hKb
      cases q with
      | true => exact Cond_t (hR _ _ _ _ hS9 rfl)
      | false =>
        obtain ⟨hsl, hsc⟩ := hq rfl
        have hleast := reach_least hbad hsl hsc
        refine Cond_f ?_
        refine LoopR1 (fun (k : Nat) x => x = .int .i64 k ∧ k ≤ (reachM c).length) (fun k => (reachM c).length - k) 0 ⟨rfl, Nat.zero_le _⟩ ?_
        rintro I M k x w10 z10 m ⟨rfl, hk⟩ hz10 hS10 back
        refine V_run ?_
        refine V_run ?_
        refine Cond_d (fun h => ?_) (fun h => ?_)
        · have hk1 : k < (reachM c).length := by omega
          have hzA : Le z6 z10 := hz8.trans (hz9.trans hz10)
          haveI : InR (k : Int) ((reachM c).length : Nat) := ⟨by omega, by omega⟩
          haveI : InR (k : Int) (s.length : Nat) := ⟨by omega, by omega⟩
          haveI : InI ((k : Int) + 1) := ⟨by simp only [big] at hbr; omega⟩
          obtain ⟨b1, o1, e1, hat1⟩ := bool_at hvr hk1
          cases e1
          obtain ⟨b2, o2, e2, hat2⟩ := bool_at hs (k := k) (by omega)
          cases e2
          refine V_run ?_
          refine zV_ld1 (by rw [Int.toNat_natCast]; exact hat1.mono hzA) ?_
          intro Kc hKc
          have mc : Kc [.bool false] w10 := by
            refine hKc _ _ fun _ => ?_
            refine Cond_f ?_
            refine V_run ?_
            exact back (k + 1) _ _ _ ⟨by simp, by omega⟩ (Le.refl _) hS10 (by omega)
          cases hr : (reachM c).getD k false with
          | false => exact Cond_f mc
          | true =>
            refine Cond_t ?_
            refine V_run ?_
            refine zV_ld1 (by rw [Int.toNat_natCast]; exact hat2.mono (hzc.trans (hz46.trans hzA))) ?_
            rw [hleast k hr]
            refine V_run ?_
            exact mc
        · exact hR _ _ _ _ hS10 rfl
    clear hKb
    refine Cond_nd (fun h => ?_) (fun h => ?_)
    · exact mb true _ _ (Le.refl _) hS8 (fun e => by cases e)
    · have hsl : s.length = c.ins.length := by omega
      refine zV_ldN (n := 6) (hatc.mono hz48) rfl ?_
      refine CV_1 (closed_of (hc.mono (hzc.trans hz48)) (hs.mono (hzc.trans hz48)) (by omega)) ?_
      rintro z11 w11 v11 hz11 hS11 rfl
      refine V_run ?_
      exact mb _ _ _ hz11 hS11 (fun e => ⟨hsl, by simpa using e⟩)
  clear hKa
  refine Cond_nd (fun h => absurd (by omega) h) (fun _ => ?_)
  refine zV_ldN (n := 6) (hatc.mono (hz46.trans hz7)) rfl ?_
  refine CV_1 (closed_of (hc.mono (hzc.trans (hz46.trans hz7))) (hvr.mono hz7) (by omega)) ?_
  rintro z11 w11 v11 hz11 hS11 rfl
  refine V_run ?_
  rw [hcl]
  exact ma _ _ (hz7.trans hz11) hS11)
end Go.Proofs.YtbeelfopmkbllaaGreatDoor
end

section
/- Rows: what all laws of this seat have in common; how arguments read. -/
set_option linter.unusedVariables false
set_option maxRecDepth 100000
namespace Go.Proofs.YtbeelfopmkbllaaGreatDoor
open Go Q Go.RowKit Go.ChangeShapes Go.WideShapes Go.ChangeAt

theorem at_of_cells {w : World} {base n : Nat} {a : Addr} {cs : List Value} (h : w.cells? base a n = some cs) (hn : 0 < n) : a.spot = none ∧ cs.length = n ∧ At (hp w) a.block a.off cs := by
  obtain ⟨_, hl, hc⟩ := World.cells?_some h
  have h0 := hc 0 hn
  rw [addr_add0] at h0
  have hlt : 0 < cs.length := by omega
  rw [List.getElem?_eq_getElem hlt] at h0
  unfold World.cell? at h0
  split at h0
  · rename_i c ty fr hb
    have hs : a.spot = none := by
      cases hsp : a.spot with
      | none => rfl
      | some x => rw [hsp] at h0; simp at h0
    refine ⟨hs, hl, c, ty, fr, hb, fun j v hv => ?_⟩
    have hj := (List.getElem?_eq_some_iff.1 hv).1
    have := hc j (by omega)
    obtain ⟨ab, ao, asp⟩ := a
    simp only at hs hb
    subst hs
    rw [add_addr, hv] at this
    unfold World.cell? at this
    simp only [hb, Option.isSome_none] at this
    simpa using this
  · cases h0
theorem ownK : ownKnob Tryz.prog.godebug = none := by kernel_rfl
theorem laidOutP : laidOutB Tryz.prog = true := by kernel_rfl
theorem own_start (w : World) : Own w (hp w) [] := Own.mk' (fun _ _ h => h) (fun _ h => by cases h) List.nodup_nil
theorem u4 : Tryz.prog.underlying 4 = some .bool := by kernel_rfl
theorem u5 : Tryz.prog.underlying 5 = some (.int .u8) := by kernel_rfl
theorem u3 : Tryz.prog.underlying 3 = some (.int .i64) := by kernel_rfl
theorem u9 : Tryz.prog.underlying 9 = some .string := by kernel_rfl
section
variable {H : Type} {enc : TypeId × Value → H} {P : Program}
/-- What makes a reading stay. -/
def Stays (P : Program) (t : TypeId) : Prop := P.readableRec t = true ∧ t < P.types.size
theorem trodAll_stays (hl : laidOutB P = true) {W W' : World} {sp : Nat → Bool} (hB : Below W.heap.size W W') :
    ∀ {ts : List TypeId} {vs : List Value} {ds : List (DataW H)} {ps : List MemPlace}, (∀ t ∈ ts, Stays P t) → DataW.TrodAll enc P W 0 (fun _ => true) true ts vs ds ps → (∀ p ∈ ps, p.block < W.heap.size) → (∀ p ∈ ps, sp p.block = true) → DataW.TrodAll enc P W' 0 sp true ts vs ds ps
  | [], [], [], _, _, h, _, _ => h
  | _ :: _, _ :: _, _ :: _, _, hT, ⟨p, q, h1, h2, e⟩, hlt, hs => ⟨p, q,
      WideElems.Trod_stays hl (hT _ List.mem_cons_self).1 (hT _ List.mem_cons_self).2 h1 (fun x hx => hB.same (hlt x (by rw [e]; exact List.mem_append_left _ hx))) (fun x hx => hs x (by rw [e]; exact List.mem_append_left _ hx)),
      trodAll_stays hl hB (fun t ht => hT t (List.mem_cons_of_mem _ ht)) h2 (fun x hx => hlt x (by rw [e]; exact List.mem_append_right _ hx)) (fun x hx => hs x (by rw [e]; exact List.mem_append_right _ hx)), e⟩
/-- A law's answer: true, and all arguments as they were. -/
theorem post_law (hl : laidOutB P = true) {f : Func} {s : ChangeSpec} {apart fresh handsOn again : Bool} {W W' : World} {args : Array Value} {ds gs : List (DataW H)} {before : List MemPlace} {tb : TypeId}
    (hW : DataW.Whole enc P f.params.toList s.vars apart W args.toList ds gs before) (hB : Below W.heap.size W W')
    (hr : f.resultTypes = #[tb]) (hu : P.underlying tb = some .bool) (hT : ∀ t ∈ f.params.toList, Stays P t) (hv : s.vars = [])
    (h1 : (s.fn H (ds ++ gs)).results = [.lit (.bool true)]) (h2 : (s.fn H (ds ++ gs)).args = ds) (h3 : (s.fn H (ds ++ gs)).vars = []) :
    s.post enc P f apart fresh handsOn again W args (.bool true) W' := by
  have hlt := hW.lt
  obtain ⟨pa, pv, hA, hV, rfl, hz, hn⟩ := id hW
  rw [hv] at hV
  obtain ⟨rfl, rfl⟩ := trodVars_none hV
  have hargs : ∀ sp : Nat → Bool, (∀ p ∈ pa, sp p.block = true) → DataW.TrodAll enc P W' 0 sp true f.params.toList args.toList (s.fn H (ds ++ [])).args pa := fun sp hsp => by
    rw [h2]; exact trodAll_stays hl hB hT hA (fun p hp => hlt p (by simpa using hp)) hsp
  have hres : ∀ (b : Nat) (sp : Nat → Bool) (hd : Bool), DataW.TrodAll enc P W' b sp hd f.resultTypes.toList ((Value.bool true).resultList f.resultTypes.size) (s.fn H (ds ++ [])).results [] := fun b sp hd => by
    rw [h1, hr]; exact trodAll_cons_mk (shut_bool hu _) trodAll_mk0
  have hvars : ∀ sp : Nat → Bool, DataW.TrodVars enc P W' sp s.vars (s.fn H (ds ++ [])).vars [] := fun sp => by rw [hv, h3]; rfl
  have hold : ∀ p ∈ pa, (fun b => decide (b < W.heap.size)) p.block = true := fun p hp => by simpa using hlt p (by simpa using hp)
  refine ⟨ds, [], pa ++ [], [], pa, [], hW, hres _ _ _, hargs _ hold, hvars _, hB.frame _, fun _ => ⟨?_, _, _, ([] ++ pa) ++ [], ⟨[] ++ pa, [], trodAll_append (hargs _ (fun _ _ => rfl)) (hres _ _ _), hvars _, rfl, ?_, ?_⟩, ?_⟩⟩
  · exact ok_one hr rfl (okWide_bool_mk hu _)
  · intro b off hp
    have hp' : MemPlace.cell b off ∈ pa ++ [] := by simpa using hp
    rw [hB.frozen (p := ⟨b, off, none⟩) (hlt _ hp')]
    exact hz b off hp'
  · intro ha
    simpa using hn ha
  · intro p hp _
    simpa using hp
end
/-- A contract that answers true, over a reading. -/
theorem post_fn1 {H : Type} {enc : TypeId × Value → H} {k : FuncId} {f : Func} {s : ChangeSpec} {apart fresh handsOn again : Bool} {W : World} {args : Array Value} {ds gs : List (DataW H)} {before : List MemPlace}
    (hW : DataW.Whole enc Tryz.prog f.params.toList s.vars apart W args.toList ds gs before)
    (hc : Fn1 k args (hp W) W fun _ r => r = .bool true)
    (hr : f.resultTypes = #[4]) (hT : ∀ t ∈ f.params.toList, Stays Tryz.prog t) (hv : s.vars = [])
    (h1 : (s.fn H (ds ++ gs)).results = [.lit (.bool true)]) (h2 : (s.fn H (ds ++ gs)).args = ds) (h3 : (s.fn H (ds ++ gs)).vars = []) :
    Calls Tryz.prog k args W fun e W' => ∃ v, e = .returned v ∧ s.post enc Tryz.prog f apart fresh handsOn again W args v W' := by
  refine (hc (own_start W)).mono fun e W' he => ?_
  cases e with
  | returned v =>
    obtain ⟨z', hR, rfl⟩ := he
    exact ⟨_, rfl, post_law laidOutP hW hR.below hr u4 hT hv h1 h2 h3⟩
  | _ => exact he.elim
section
variable {H : Type} {enc : TypeId × Value → H} {w : World} {base : Nat} {spare : Nat → Bool} {held : Bool}
theorem fieldAt' {t : TypeId} (hu : Tryz.prog.underlying t = some (.struct (fieldsOf t))) {i ty off : Nat} (hi : ((fieldsOf t).toList.map fun f => (f.type, f.offset))[i]? = some (ty, off)) : ∃ f, (fieldsOf t)[i]? = some f ∧ f.type = ty ∧ f.offset = off := by
  rw [List.getElem?_map] at hi
  obtain ⟨f, h1, h2⟩ := Option.map_eq_some_iff.1 hi
  simp only [Prod.mk.injEq] at h2
  exact ⟨f, by simpa using h1, h2.1, h2.2⟩
/-- A slice reads as a list, if its elements do. -/
theorem sl_read {α : Type} [Inhabited α] {E : El α} {t e : TypeId} (hu : Tryz.prog.underlying t = some (.slice e)) (hc : Tryz.prog.cellsOf e = E.size) (rd : ∀ n cs x, DataW.trod enc Tryz.prog w base spare held n e cs = some x → ∃ a, E.rel (hp w) cs a)
    {n : Nat} {v : Value} {x : DataW H × List MemPlace} (h : DataW.trod enc Tryz.prog w base spare held n t [v] = some x) : ∃ l : List α, SlR E (hp w) v l := by
  rcases Go.Deep.open_slice hu h with ⟨h0, _⟩ | ⟨a, len, cap, m, n', D, Pl, h0, hb, hlc, hcm, hm, _, hel⟩
  · simp at h0; subst h0; exact ⟨[], SlR.nil⟩
  · simp at h0; subst h0
    rw [hc] at hel
    have hlm : len ≤ m := by rw [hm]; split <;> omega
    have key : ∀ i, i < len → ∃ (o : α) (cs : List Value), E.rel (hp w) cs o ∧ (i = 0 → a.spot = none) ∧ At (hp w) a.block (a.off + i * E.size) cs := fun i hi => by
      obtain ⟨cs, h1, h2⟩ := hel i (by omega)
      obtain ⟨o, ho⟩ := rd _ _ _ h2
      obtain ⟨g1, g2, g3⟩ := at_of_cells h1 E.pos
      obtain ⟨ab, ao, asp⟩ := a
      unfold Addr.add at g1 g3
      by_cases hz : i * E.size = 0
      · simp only [hz, if_true] at g1 g3
        exact ⟨o, cs, ho, fun _ => g1, by rw [hz]; exact g3⟩
      · simp only [hz, if_false] at g1 g3
        exact ⟨o, cs, ho, fun h0 => absurd (by rw [h0]; simp) hz, g3⟩
    classical
    let f : Nat → α := fun i => if hi : i < len then Classical.choose (key i hi) else default
    have hf : ∀ i, i < len → ∃ cs : List Value, E.rel (hp w) cs (f i) ∧ (i = 0 → a.spot = none) ∧ At (hp w) a.block (a.off + i * E.size) cs := fun i hi => by
      simp only [f, dif_pos hi]; exact Classical.choose_spec (key i hi)
    refine ⟨(List.range len).map f, some a, cap, by simp, by simpa using hlc, by simp only [List.length_map, List.length_range, big]; simp only [maxLen] at hcm; omega, fun hn => ?_⟩
    have hpos : 0 < len := by
      rcases Nat.eq_zero_or_pos len with h0 | h0
      · subst h0; simp at hn
      · exact h0
    obtain ⟨ab, ao, asp⟩ := a
    obtain ⟨_, _, hsp, _⟩ := hf 0 hpos
    have hsp := hsp rfl
    simp only at hsp
    subst hsp
    refine ⟨ab, ao, rfl, fun i x hx => ?_⟩
    rw [List.getElem?_map] at hx
    obtain ⟨k, h1, rfl⟩ := Option.map_eq_some_iff.1 hx
    have hk := List.getElem?_eq_some_iff.1 h1
    obtain ⟨hlt, rfl⟩ := hk
    simp only [List.getElem_range, List.length_range] at hlt ⊢
    obtain ⟨cs, q1, _, q2⟩ := hf i hlt
    exact ⟨cs, q1, q2⟩
instance : Inhabited PartM := ⟨⟨0, ⟨#[]⟩, 0⟩⟩
instance : Inhabited ItemM := ⟨⟨⟨#[]⟩, false⟩⟩
instance : Inhabited SpotM := ⟨⟨⟨#[]⟩, 0⟩⟩
instance : Inhabited InsM := ⟨⟨0, 0, 0, 0⟩⟩
theorem part_read {n : Nat} {cs : List Value} {x : DataW H × List MemPlace} (h : DataW.trod enc Tryz.prog w base spare held n 95 cs = some x) : ∃ o : PartM, El.part.rel (hp w) cs o := by
  have hu : Tryz.prog.underlying 95 = some (.struct (fieldsOf 95)) := by kernel_rfl
  obtain ⟨xs, m, _, _, hl, hxl, hf⟩ := DataW.trod_struct hu h
  have hc4 : Tryz.prog.cellsOf 95 = 3 := by kernel_rfl
  rw [hc4] at hl
  obtain ⟨f0, a0, b0, c0⟩ := fieldAt' hu (i := 0) (ty := 3) (off := 0) (by kernel_rfl)
  have h0 := hf 0 f0 a0
  obtain ⟨f1, a1, b1, c1⟩ := fieldAt' hu (i := 1) (ty := 9) (off := 1) (by kernel_rfl)
  have h1 := hf 1 f1 a1
  obtain ⟨f2, a2, b2, c2⟩ := fieldAt' hu (i := 2) (ty := 3) (off := 2) (by kernel_rfl)
  have h2 := hf 2 f2 a2
  have hsz : (fieldsOf 95).size = 3 := by kernel_rfl
  rw [hsz] at hxl
  rw [b0, c0, show Tryz.prog.cellsOf 3 = 1 by kernel_rfl] at h0
  rw [b1, c1, show Tryz.prog.cellsOf 9 = 1 by kernel_rfl] at h1
  rw [b2, c2, show Tryz.prog.cellsOf 3 = 1 by kernel_rfl] at h2
  match xs, hxl, cs, hl with
  | [x0, x1, x2], _, [v0, v1, v2], _ =>
    obtain ⟨m0, g0, _⟩ := DataW.trod_int u3 (x := x0) (by simpa using h0)
    obtain ⟨m1, g1, _, hs⟩ := DataW.trod_string u9 (x := x1) (by simpa using h1)
    obtain ⟨m2, g2, _⟩ := DataW.trod_int u3 (x := x2) (by simpa using h2)
    simp at g0 g1 g2
    subst g0; subst g1; subst g2
    exact ⟨⟨m0, m1, m2⟩, rfl, hs⟩
theorem item_read {n : Nat} {cs : List Value} {x : DataW H × List MemPlace} (h : DataW.trod enc Tryz.prog w base spare held n 98 cs = some x) : ∃ o : ItemM, El.item.rel (hp w) cs o := by
  have hu : Tryz.prog.underlying 98 = some (.struct (fieldsOf 98)) := by kernel_rfl
  obtain ⟨xs, m, _, _, hl, hxl, hf⟩ := DataW.trod_struct hu h
  have hc4 : Tryz.prog.cellsOf 98 = 2 := by kernel_rfl
  rw [hc4] at hl
  obtain ⟨f0, a0, b0, c0⟩ := fieldAt' hu (i := 0) (ty := 9) (off := 0) (by kernel_rfl)
  have h0 := hf 0 f0 a0
  obtain ⟨f1, a1, b1, c1⟩ := fieldAt' hu (i := 1) (ty := 4) (off := 1) (by kernel_rfl)
  have h1 := hf 1 f1 a1
  have hsz : (fieldsOf 98).size = 2 := by kernel_rfl
  rw [hsz] at hxl
  rw [b0, c0, show Tryz.prog.cellsOf 9 = 1 by kernel_rfl] at h0
  rw [b1, c1, show Tryz.prog.cellsOf 4 = 1 by kernel_rfl] at h1
  match xs, hxl, cs, hl with
  | [x0, x1], _, [v0, v1], _ =>
    obtain ⟨m0, g0, _, hs⟩ := DataW.trod_string u9 (x := x0) (by simpa using h0)
    obtain ⟨m1, g1, _⟩ := DataW.trod_bool u4 (x := x1) (by simpa using h1)
    simp at g0 g1
    subst g0; subst g1
    exact ⟨⟨m0, m1⟩, rfl, hs⟩
theorem spot_read {n : Nat} {cs : List Value} {x : DataW H × List MemPlace} (h : DataW.trod enc Tryz.prog w base spare held n 54 cs = some x) : ∃ o : SpotM, El.spot.rel (hp w) cs o := by
  have hu : Tryz.prog.underlying 54 = some (.struct (fieldsOf 54)) := by kernel_rfl
  obtain ⟨xs, m, _, _, hl, hxl, hf⟩ := DataW.trod_struct hu h
  have hc4 : Tryz.prog.cellsOf 54 = 2 := by kernel_rfl
  rw [hc4] at hl
  obtain ⟨f0, a0, b0, c0⟩ := fieldAt' hu (i := 0) (ty := 9) (off := 0) (by kernel_rfl)
  have h0 := hf 0 f0 a0
  obtain ⟨f1, a1, b1, c1⟩ := fieldAt' hu (i := 1) (ty := 3) (off := 1) (by kernel_rfl)
  have h1 := hf 1 f1 a1
  have hsz : (fieldsOf 54).size = 2 := by kernel_rfl
  rw [hsz] at hxl
  rw [b0, c0, show Tryz.prog.cellsOf 9 = 1 by kernel_rfl] at h0
  rw [b1, c1, show Tryz.prog.cellsOf 3 = 1 by kernel_rfl] at h1
  match xs, hxl, cs, hl with
  | [x0, x1], _, [v0, v1], _ =>
    obtain ⟨m0, g0, _, hs⟩ := DataW.trod_string u9 (x := x0) (by simpa using h0)
    obtain ⟨m1, g1, _⟩ := DataW.trod_int u3 (x := x1) (by simpa using h1)
    simp at g0 g1
    subst g0; subst g1
    exact ⟨⟨m0, m1⟩, rfl, hs⟩
theorem ins_read {n : Nat} {cs : List Value} {x : DataW H × List MemPlace} (h : DataW.trod enc Tryz.prog w base spare held n 38 cs = some x) : ∃ o : InsM, El.ins.rel (hp w) cs o := by
  have hu : Tryz.prog.underlying 38 = some (.struct (fieldsOf 38)) := by kernel_rfl
  obtain ⟨xs, m, _, _, hl, hxl, hf⟩ := DataW.trod_struct hu h
  have hc4 : Tryz.prog.cellsOf 38 = 4 := by kernel_rfl
  rw [hc4] at hl
  obtain ⟨f0, a0, b0, c0⟩ := fieldAt' hu (i := 0) (ty := 3) (off := 0) (by kernel_rfl)
  have h0 := hf 0 f0 a0
  obtain ⟨f1, a1, b1, c1⟩ := fieldAt' hu (i := 1) (ty := 3) (off := 1) (by kernel_rfl)
  have h1 := hf 1 f1 a1
  obtain ⟨f2, a2, b2, c2⟩ := fieldAt' hu (i := 2) (ty := 3) (off := 2) (by kernel_rfl)
  have h2 := hf 2 f2 a2
  obtain ⟨f3, a3, b3, c3⟩ := fieldAt' hu (i := 3) (ty := 3) (off := 3) (by kernel_rfl)
  have h3 := hf 3 f3 a3
  have hsz : (fieldsOf 38).size = 4 := by kernel_rfl
  rw [hsz] at hxl
  rw [b0, c0, show Tryz.prog.cellsOf 3 = 1 by kernel_rfl] at h0
  rw [b1, c1, show Tryz.prog.cellsOf 3 = 1 by kernel_rfl] at h1
  rw [b2, c2, show Tryz.prog.cellsOf 3 = 1 by kernel_rfl] at h2
  rw [b3, c3, show Tryz.prog.cellsOf 3 = 1 by kernel_rfl] at h3
  match xs, hxl, cs, hl with
  | [x0, x1, x2, x3], _, [v0, v1, v2, v3], _ =>
    obtain ⟨m0, g0, _⟩ := DataW.trod_int u3 (x := x0) (by simpa using h0)
    obtain ⟨m1, g1, _⟩ := DataW.trod_int u3 (x := x1) (by simpa using h1)
    obtain ⟨m2, g2, _⟩ := DataW.trod_int u3 (x := x2) (by simpa using h2)
    obtain ⟨m3, g3, _⟩ := DataW.trod_int u3 (x := x3) (by simpa using h3)
    simp at g0 g1 g2 g3
    subst g0; subst g1; subst g2; subst g3
    exact ⟨⟨m0, m1, m2, m3⟩, rfl⟩
theorem str_read {n : Nat} {cs : List Value} {x : DataW H × List MemPlace} (h : DataW.trod enc Tryz.prog w base spare held n 9 cs = some x) : ∃ o : ByteArray, El.str.rel (hp w) cs o := by
  obtain ⟨s, g, _, hs⟩ := DataW.trod_string u9 h
  exact ⟨s, g, hs⟩
theorem one_of_slice {n t e : Nat} {cs : List Value} {x : DataW H × List MemPlace} (hu : Tryz.prog.underlying t = some (.slice e)) (h : DataW.trod enc Tryz.prog w base spare held n t cs = some x) : ∃ v, cs = [v] := by
  rcases Go.Deep.open_slice hu h with ⟨h0, _⟩ | ⟨a, len, cap, m, n', D, Pl, h0, _⟩ <;> exact ⟨_, h0⟩
theorem parts_read {n : Nat} {cs : List Value} {x : DataW H × List MemPlace} (h : DataW.trod enc Tryz.prog w base spare held n 93 cs = some x) : ∃ o : List PartM, (El.sl El.part).rel (hp w) cs o := by
  obtain ⟨v, rfl⟩ := one_of_slice (e := 95) (by kernel_rfl) h
  obtain ⟨l, hl⟩ := sl_read (E := El.part) (e := 95) (by kernel_rfl) (by kernel_rfl) (fun _ _ _ => part_read) h
  exact ⟨l, v, rfl, hl⟩
theorem items_read {n : Nat} {cs : List Value} {x : DataW H × List MemPlace} (h : DataW.trod enc Tryz.prog w base spare held n 96 cs = some x) : ∃ o : List ItemM, (El.sl El.item).rel (hp w) cs o := by
  obtain ⟨v, rfl⟩ := one_of_slice (e := 98) (by kernel_rfl) h
  obtain ⟨l, hl⟩ := sl_read (E := El.item) (e := 98) (by kernel_rfl) (by kernel_rfl) (fun _ _ _ => item_read) h
  exact ⟨l, v, rfl, hl⟩
theorem u28 : Tryz.prog.underlying 28 = some (.struct (fieldsOf 28)) := by kernel_rfl
theorem u38 : Tryz.prog.underlying 38 = some (.struct (fieldsOf 38)) := by kernel_rfl
theorem insArg {r : Reach} {b0 n : Nat} {v : Value} {x : DataW H × List MemPlace} (hval : Value.okWide Tryz.prog w r b0 38 v) (h : DataW.trod enc Tryz.prog w base spare held n 38 v.cells.toList = some x) : ∃ i : InsM, v = i.v := by
  have hv : ∃ cs, v = .agg cs := by
    simp only [Value.okWide, u38] at hval
    exact ⟨_, hval.choose_spec.1⟩
  obtain ⟨cs, rfl⟩ := hv
  obtain ⟨i, hi⟩ := ins_read h
  cases cs with
  | mk l => exact ⟨i, by rw [InsM.v]; exact congrArg (fun l => Value.agg (Array.mk l)) hi⟩
theorem codeArg {r : Reach} {b0 n : Nat} {v : Value} {x : DataW H × List MemPlace} (hval : Value.okWide Tryz.prog w r b0 28 v) (h : DataW.trod enc Tryz.prog w base spare held n 28 v.cells.toList = some x) : ∃ c : CodeM, CodeR (hp w) v c := by
  obtain ⟨xs, m, _, _, hl, hxl, hf⟩ := DataW.trod_struct u28 h
  have hc4 : Tryz.prog.cellsOf 28 = 6 := by kernel_rfl
  rw [hc4] at hl
  obtain ⟨f0, a0, b0, c0⟩ := fieldAt' u28 (i := 0) (ty := 22) (off := 0) (by kernel_rfl)
  have h0 := hf 0 f0 a0
  obtain ⟨f1, a1, b1, c1⟩ := fieldAt' u28 (i := 1) (ty := 23) (off := 1) (by kernel_rfl)
  have h1 := hf 1 f1 a1
  obtain ⟨f2, a2, b2, c2⟩ := fieldAt' u28 (i := 2) (ty := 24) (off := 2) (by kernel_rfl)
  have h2 := hf 2 f2 a2
  obtain ⟨f3, a3, b3, c3⟩ := fieldAt' u28 (i := 3) (ty := 25) (off := 3) (by kernel_rfl)
  have h3 := hf 3 f3 a3
  obtain ⟨f4, a4, b4, c4⟩ := fieldAt' u28 (i := 4) (ty := 22) (off := 4) (by kernel_rfl)
  have h4 := hf 4 f4 a4
  obtain ⟨f5, a5, b5, c5⟩ := fieldAt' u28 (i := 5) (ty := 26) (off := 5) (by kernel_rfl)
  have h5 := hf 5 f5 a5
  have hsz : (fieldsOf 28).size = 6 := by kernel_rfl
  rw [hsz] at hxl
  rw [b0, c0, show Tryz.prog.cellsOf 22 = 1 by kernel_rfl] at h0
  rw [b1, c1, show Tryz.prog.cellsOf 23 = 1 by kernel_rfl] at h1
  rw [b2, c2, show Tryz.prog.cellsOf 24 = 1 by kernel_rfl] at h2
  rw [b3, c3, show Tryz.prog.cellsOf 25 = 1 by kernel_rfl] at h3
  rw [b4, c4, show Tryz.prog.cellsOf 22 = 1 by kernel_rfl] at h4
  rw [b5, c5, show Tryz.prog.cellsOf 26 = 1 by kernel_rfl] at h5
  have hv : ∃ cs, v = .agg cs := by
    simp only [Value.okWide, u28] at hval
    exact ⟨_, hval.choose_spec.1⟩
  obtain ⟨cs, rfl⟩ := hv
  obtain ⟨l, rfl⟩ : ∃ l : List Value, cs = l.toArray := ⟨cs.toList, by simp⟩
  simp only [Value.cells] at hl h0 h1 h2 h3 h4 h5
  match xs, hxl, l, hl with
  | [x0, x1, x2, x3, x4, x5], _, [v0, v1, v2, v3, v4, v5], _ =>
    obtain ⟨l0, g0⟩ := sl_read (E := El.str) (e := 9) (by kernel_rfl) (by kernel_rfl) (fun _ _ _ => str_read) (x := x0) (v := v0) (by simpa using h0)
    obtain ⟨l1, g1⟩ := sl_read (E := El.sl El.part) (e := 93) (by kernel_rfl) (by kernel_rfl) (fun _ _ _ => parts_read) (x := x1) (v := v1) (by simpa using h1)
    obtain ⟨l2, g2⟩ := sl_read (E := El.sl El.item) (e := 96) (by kernel_rfl) (by kernel_rfl) (fun _ _ _ => items_read) (x := x2) (v := v2) (by simpa using h2)
    obtain ⟨l3, g3⟩ := sl_read (E := El.spot) (e := 54) (by kernel_rfl) (by kernel_rfl) (fun _ _ _ => spot_read) (x := x3) (v := v3) (by simpa using h3)
    obtain ⟨l4, g4⟩ := sl_read (E := El.str) (e := 9) (by kernel_rfl) (by kernel_rfl) (fun _ _ _ => str_read) (x := x4) (v := v4) (by simpa using h4)
    obtain ⟨l5, g5⟩ := sl_read (E := El.ins) (e := 38) (by kernel_rfl) (by kernel_rfl) (fun _ _ _ => ins_read) (x := x5) (v := v5) (by simpa using h5)
    exact ⟨⟨l0, l1, l2, l3, l4, l5⟩, v0, v1, v2, v3, v4, v5, rfl, g0, g1, g2, g3, g4, g5⟩
end
theorem stays3 : Stays Tryz.prog 3 := ⟨by kernel_rfl, of_decide_eq_true (by kernel_rfl)⟩
theorem stays4 : Stays Tryz.prog 4 := ⟨by kernel_rfl, of_decide_eq_true (by kernel_rfl)⟩
theorem stays5 : Stays Tryz.prog 5 := ⟨by kernel_rfl, of_decide_eq_true (by kernel_rfl)⟩
theorem stays9 : Stays Tryz.prog 9 := ⟨by kernel_rfl, of_decide_eq_true (by kernel_rfl)⟩
theorem stays28 : Stays Tryz.prog 28 := ⟨by kernel_rfl, of_decide_eq_true (by kernel_rfl)⟩
theorem stays38 : Stays Tryz.prog 38 := ⟨by kernel_rfl, of_decide_eq_true (by kernel_rfl)⟩
/-- What the row lists gives the table. -/
theorem tab_start {W : World} (h : Lib.TabIs Tryz.prog W "internal/strconv.uint64pow10" .u64 Lib.pow10Tab) : Tab (hp W) := ⟨fun w hw => by
  unfold Lib.TabIs World.var? at *
  cases hg : Tryz.prog.globalNamed "internal/strconv.uint64pow10" with
  | none => simp [hg] at h
  | some g =>
    simp only [hg, Option.bind_some] at h ⊢
    cases ho : W.heap[g]? with
    | none => rw [ho] at h; simp at h
    | some o => rw [hw g o ho, ← ho]; exact h⟩
theorem laidVars_tab {P : Program} {W : World} {name : String} {k : IntKind} {zs : List Int} {rest : List (String × DataW Unit)} {ps : List MemPlace} {g : Nat} {t e : TypeId} {n : Nat}
    (hg : P.globalNamed name = some g) (hty : (P.globals[g]?).map (·.type) = some t) (ht : P.underlying t = some (.array n e)) (he : P.underlying e = some (.int k)) (hce : P.cellsOf e = 1) (hct : P.cellsOf t = n)
    (h : DataW.LaidVars P W ((name, Lib.tabData k zs) :: rest) ps) : Lib.TabIs P W name k zs := by
  obtain ⟨g', t', cs, fuel, p, q, hg', ht', hvar, hd, _, _⟩ := h
  obtain rfl := Option.some.inj (hg.symm.trans hg')
  obtain rfl := Option.some.inj (hty.symm.trans ht')
  unfold Lib.TabIs
  rw [hvar, ← Lib.cells_of_tab ht he hce hct hd]
theorem tab_of {W : World} {a b : String × DataW Unit} {rest : List (String × DataW Unit)} (h : laidMet Tryz.prog (a :: b :: ("internal/strconv.uint64pow10", Rows.laid_internal_strconv_uint64pow10) :: rest) W) : Lib.TabIs Tryz.prog W "internal/strconv.uint64pow10" .u64 Lib.pow10Tab := by
  obtain ⟨ps, hv, _⟩ := h
  obtain ⟨a1, b1⟩ := a
  obtain ⟨a2, b2⟩ := b
  obtain ⟨_, _, _, _, _, _, _, _, _, _, hv, _⟩ := hv
  obtain ⟨_, _, _, _, _, _, _, _, _, _, hv, _⟩ := hv
  exact laidVars_tab (g := 3) (t := 328) (n := 20) (e := 309) (by kernel_rfl) (by kernel_rfl) (by kernel_rfl) (by kernel_rfl) (by kernel_rfl) (by kernel_rfl) (show DataW.LaidVars Tryz.prog W (("internal/strconv.uint64pow10", Lib.tabData .u64 Lib.pow10Tab) :: rest) _ from hv)
end Go.Proofs.YtbeelfopmkbllaaGreatDoor
end

section
/- Rows: slices of truth values and of bytes. -/
set_option linter.unusedVariables false
set_option maxRecDepth 100000
namespace Go.Proofs.YtbeelfopmkbllaaGreatDoor
open Go Q Go.RowKit Go.ChangeShapes Go.WideShapes Go.ChangeAt

theorem u49 : Tryz.prog.underlying 49 = some (.slice 4) := by kernel_rfl
theorem u55 : Tryz.prog.underlying 55 = some (.slice 5) := by kernel_rfl
theorem stays49 : Stays Tryz.prog 49 := ⟨by kernel_rfl, of_decide_eq_true (by kernel_rfl)⟩
theorem stays55 : Stays Tryz.prog 55 := ⟨by kernel_rfl, of_decide_eq_true (by kernel_rfl)⟩
section
variable {H : Type} {enc : TypeId × Value → H} {w : World} {base : Nat} {spare : Nat → Bool} {held : Bool}
theorem bool_read {n : Nat} {cs : List Value} {x : DataW H × List MemPlace} (h : DataW.trod enc Tryz.prog w base spare held n 4 cs = some x) : ∃ o : Bool, El.bool.rel (hp w) cs o := by
  obtain ⟨b, g, _⟩ := DataW.trod_bool u4 h
  exact ⟨b, g⟩
theorem bools_read {n : Nat} {v : Value} {x : DataW H × List MemPlace} (h : DataW.trod enc Tryz.prog w base spare held n 49 [v] = some x) : ∃ l : List Bool, SlR El.bool (hp w) v l :=
  sl_read (E := El.bool) (e := 4) u49 (by kernel_rfl) (fun _ _ _ => bool_read) h
theorem byte_read {n : Nat} {cs : List Value} {x : DataW H × List MemPlace} (h : DataW.trod enc Tryz.prog w base spare held n 5 cs = some x) : ∃ o : UInt8, El.byte.rel (hp w) cs o := by
  obtain ⟨o, g, _, ho⟩ := DataW.trod_int u5 h
  have ho' : 0 ≤ o ∧ o ≤ 255 := by simpa [Lit.wf, IntKind.min, IntKind.max, IntKind.signed, IntKind.bits] using ho
  refine ⟨UInt8.ofNat o.toNat, ?_⟩
  show cs = [.int .u8 ((UInt8.ofNat o.toNat).toNat : Nat)]
  rw [g, UInt8.toNat_ofNat', Nat.mod_eq_of_lt (by omega)]
  congr 2
  omega
theorem u8s_read {n : Nat} {v : Value} {x : DataW H × List MemPlace} (h : DataW.trod enc Tryz.prog w base spare held n 55 [v] = some x) : ∃ l : List UInt8, SlR El.byte (hp w) v l :=
  sl_read (E := El.byte) (e := 5) u55 (by kernel_rfl) (fun _ _ _ => byte_read) h
end
end Go.Proofs.YtbeelfopmkbllaaGreatDoor
end
