/- Texts joined: T24, T25, T26, T27, T28, T29, T30, T31, T32, R2, T33, T34, T40, T35, T41, T42, R3. -/
import Derived.Test.YtjnckainogpenaaM4
import Derived.Deep.Slices
import Derived.Test.YtjnckainogpenaaRows
import Derived.WalkKit
import Derived.ProofKit
import Derived.OpenShut
import Derived.Carry
import Derived.ChangeMaps5
section
/- The law's own small functions. -/
set_option linter.unusedVariables false
set_option maxRecDepth 20000
set_option synthInstance.maxHeartbeats 400000
set_option synthInstance.maxSize 4000
namespace Go.Proofs.Ytjnckainogpenaa
open Go Q Go.RowKit

instance {c m : Int} {t : ByteArray} : Pu 46 #[.int .i64 c, .int .i64 m, .string t] (setO c m t).v := ⟨fun z w => Fn1.intro fun hS => en46 (by
  unfold vc46
  (repeat (first | (refine iDr ?_; intro _ _) | refine V_run ?_ | refine PV_run ?_ | refine HV_run ?_ | refine iV_ld1 ?_ | refine iV_ldN ?_ | (refine iV_bx ?_; intro _ _ _ _) | (refine iV_al ?_; intro _ _ _ _) | (refine iV_mm ?_; intro _ _ _ _) | (refine iU_st ?_; intro _ _) | refine iHV_1 ?_ | refine iHV_N ?_ | refine iRI_1 ?_ | refine iRI_N ?_ | refine Cond_t ?_ | refine Cond_f ?_ | refine JB ?_ | (refine JC ?_; intro _ _ _ _) | (refine J1 ?_; intro _ _) | (refine J0 ?_; intro _ _) | (refine J2 ?_; intro _ _) | (refine J3 ?_; intro _ _) | (refine J4 ?_; intro _ _) | refine K1 ?_ | refine K0 ?_ | refine K2 ?_ | refine K3 ?_ | refine K4 ?_ | (refine CV_pu ?_; intro _ _ _ _) | refine fV_ldN ?_ | refine fV_ld1 ?_ | refine fHV_ldN ?_ | refine fHV_ld1 ?_ | refine NilW_some ?_ | refine iCW_1 ?_ | refine iCW_N ?_ | refine Pk_b ?_))
  exact ⟨_, _, ‹_›, rfl⟩)⟩
instance {c : Int} {t : ByteArray} : Pu 47 #[.int .i64 c, .string t] (raiseO c t).v := ⟨fun z w => Fn1.intro fun hS => en47 (by
  unfold vc47
  (repeat (first | (refine iDr ?_; intro _ _) | refine V_run ?_ | refine PV_run ?_ | refine HV_run ?_ | refine iV_ld1 ?_ | refine iV_ldN ?_ | (refine iV_bx ?_; intro _ _ _ _) | (refine iV_al ?_; intro _ _ _ _) | (refine iV_mm ?_; intro _ _ _ _) | (refine iU_st ?_; intro _ _) | refine iHV_1 ?_ | refine iHV_N ?_ | refine iRI_1 ?_ | refine iRI_N ?_ | refine Cond_t ?_ | refine Cond_f ?_ | refine JB ?_ | (refine JC ?_; intro _ _ _ _) | (refine J1 ?_; intro _ _) | (refine J0 ?_; intro _ _) | (refine J2 ?_; intro _ _) | (refine J3 ?_; intro _ _) | (refine J4 ?_; intro _ _) | refine K1 ?_ | refine K0 ?_ | refine K2 ?_ | refine K3 ?_ | refine K4 ?_ | (refine CV_pu ?_; intro _ _ _ _) | refine fV_ldN ?_ | refine fV_ld1 ?_ | refine fHV_ldN ?_ | refine fHV_ld1 ?_ | refine NilW_some ?_ | refine iCW_1 ?_ | refine iCW_N ?_ | refine Pk_b ?_))
  exact ⟨_, _, ‹_›, rfl⟩)⟩
instance : Pu 48 #[] endO.v := ⟨fun z w => Fn1.intro fun hS => en48 (by
  unfold vc48
  (repeat (first | (refine iDr ?_; intro _ _) | refine V_run ?_ | refine PV_run ?_ | refine HV_run ?_ | refine iV_ld1 ?_ | refine iV_ldN ?_ | (refine iV_bx ?_; intro _ _ _ _) | (refine iV_al ?_; intro _ _ _ _) | (refine iV_mm ?_; intro _ _ _ _) | (refine iU_st ?_; intro _ _) | refine iHV_1 ?_ | refine iHV_N ?_ | refine iRI_1 ?_ | refine iRI_N ?_ | refine Cond_t ?_ | refine Cond_f ?_ | refine JB ?_ | (refine JC ?_; intro _ _ _ _) | (refine J1 ?_; intro _ _) | (refine J0 ?_; intro _ _) | (refine J2 ?_; intro _ _) | (refine J3 ?_; intro _ _) | (refine J4 ?_; intro _ _) | refine K1 ?_ | refine K0 ?_ | refine K2 ?_ | refine K3 ?_ | refine K4 ?_ | (refine CV_pu ?_; intro _ _ _ _) | refine fV_ldN ?_ | refine fV_ld1 ?_ | refine fHV_ldN ?_ | refine fHV_ld1 ?_ | refine NilW_some ?_ | refine iCW_1 ?_ | refine iCW_N ?_ | refine Pk_b ?_))
  exact ⟨_, _, ‹_›, rfl⟩)⟩
instance : Pu 49 #[] backO.v := ⟨fun z w => Fn1.intro fun hS => en49 (by
  unfold vc49
  (repeat (first | (refine iDr ?_; intro _ _) | refine V_run ?_ | refine PV_run ?_ | refine HV_run ?_ | refine iV_ld1 ?_ | refine iV_ldN ?_ | (refine iV_bx ?_; intro _ _ _ _) | (refine iV_al ?_; intro _ _ _ _) | (refine iV_mm ?_; intro _ _ _ _) | (refine iU_st ?_; intro _ _) | refine iHV_1 ?_ | refine iHV_N ?_ | refine iRI_1 ?_ | refine iRI_N ?_ | refine Cond_t ?_ | refine Cond_f ?_ | refine JB ?_ | (refine JC ?_; intro _ _ _ _) | (refine J1 ?_; intro _ _) | (refine J0 ?_; intro _ _) | (refine J2 ?_; intro _ _) | (refine J3 ?_; intro _ _) | (refine J4 ?_; intro _ _) | refine K1 ?_ | refine K0 ?_ | refine K2 ?_ | refine K3 ?_ | refine K4 ?_ | (refine CV_pu ?_; intro _ _ _ _) | refine fV_ldN ?_ | refine fV_ld1 ?_ | refine fHV_ldN ?_ | refine fHV_ld1 ?_ | refine NilW_some ?_ | refine iCW_1 ?_ | refine iCW_N ?_ | refine Pk_b ?_))
  exact ⟨_, _, ‹_›, rfl⟩)⟩
def kindEq (a : AcM) (k : Int) : Bool := decide (a.kind = k)
def kindsFrom : List AcM → List Int → Bool
  | [], [] => true
  | a :: l, k :: m => decide (a.kind = k) && kindsFrom l m
  | _, _ => false
theorem kindsFrom_len : ∀ {l : List AcM} {m : List Int}, kindsFrom l m = true → l.length = m.length
  | [], [], _ => rfl
  | a :: l, k :: m, h => by
    simp only [kindsFrom, Bool.and_eq_true] at h
    simp [kindsFrom_len h.2]
  | [], _ :: _, h => by simp [kindsFrom] at h
  | _ :: _, [], h => by simp [kindsFrom] at h
theorem kindsP {v v' : Value} {l : List OpM} {want : List Int} {z : Z} {w : World} (hl : SlR El.op z v l) (hw : SlR El.int z v' want) (h1000 : l.length ≤ 1000) : Fn1 45 #[v, v'] z w fun _ r => r = .bool (kindsFrom (playFrom newM l).2.1 want) := Fn1.intro fun hS => en45 (by
  unfold vc45
  refine CV_1 (PlayP hl) ?_
  rintro z1 w1 r hle1 hS1 hp
  rw [PlayR, if_neg (by omega)] at hp
  obtain ⟨sv, va, ve, rfl, ⟨u, rfl, hu⟩, hva, hve⟩ := hp
  generalize (playFrom newM l).2.1 = A at *
  obtain ⟨_, a0, cap0, rfl, _, _⟩ := hu.form
  obtain ⟨hb, a, cap, rfl, hcap, hel⟩ := hva.form
  obtain ⟨hb', a', cap', rfl, hcap', hel'⟩ := hw.form
  obtain ⟨_, a3, cap3, rfl, _, _⟩ := hve.form
  (repeat (first | (refine iDr ?_; intro _ _) | refine V_run ?_ | refine PV_run ?_ | refine HV_run ?_ | refine iV_ld1 ?_ | refine iV_ldN ?_ | (refine iV_bx ?_; intro _ _ _ _) | (refine iV_al ?_; intro _ _ _ _) | (refine iV_mm ?_; intro _ _ _ _) | (refine iU_st ?_; intro _ _) | refine iHV_1 ?_ | refine iHV_N ?_ | refine iRI_1 ?_ | refine iRI_N ?_ | refine Cond_t ?_ | refine Cond_f ?_ | refine JB ?_ | (refine JC ?_; intro _ _ _ _) | (refine J1 ?_; intro _ _) | (refine J0 ?_; intro _ _) | (refine J2 ?_; intro _ _) | (refine J3 ?_; intro _ _) | (refine J4 ?_; intro _ _) | refine K1 ?_ | refine K0 ?_ | refine K2 ?_ | refine K3 ?_ | refine K4 ?_ | (refine CV_pu ?_; intro _ _ _ _) | refine fV_ldN ?_ | refine fV_ld1 ?_ | refine fHV_ldN ?_ | refine fHV_ld1 ?_ | refine NilW_some ?_ | refine iCW_1 ?_ | refine iCW_N ?_ | refine Pk_b ?_))
  refine Cond_nd (fun h => ?_) (fun h => ?_)
  · refine ⟨_, _, ‹_›, ?_⟩
    cases hk : kindsFrom A want with
    | false => rfl
    | true => exact absurd (by rw [kindsFrom_len hk]) h
  · have hlen : A.length = want.length := by omega
    rename_i hSe
    refine LoopG1 (fun (i : Nat) x w' => x = .int .i64 i ∧ i ≤ A.length ∧ kindsFrom A want = kindsFrom (A.drop i) (want.drop i) ∧ ∃ z' L', Le z1 z' ∧ Res w z [] w' z' L') (fun i => A.length - i) 0 ⟨rfl, by omega, rfl, z1, _, Le.refl _, hSe⟩ ?_
    rintro I M i x w2 m ⟨rfl, h1, h2, z2, L2, hz2, hS2⟩ back
    (repeat (first | (refine iDr ?_; intro _ _) | refine V_run ?_ | refine PV_run ?_ | refine HV_run ?_ | refine iV_ld1 ?_ | refine iV_ldN ?_ | (refine iV_bx ?_; intro _ _ _ _) | (refine iV_al ?_; intro _ _ _ _) | (refine iV_mm ?_; intro _ _ _ _) | (refine iU_st ?_; intro _ _) | refine iHV_1 ?_ | refine iHV_N ?_ | refine iRI_1 ?_ | refine iRI_N ?_ | refine Cond_t ?_ | refine Cond_f ?_ | refine JB ?_ | (refine JC ?_; intro _ _ _ _) | (refine J1 ?_; intro _ _) | (refine J0 ?_; intro _ _) | (refine J2 ?_; intro _ _) | (refine J3 ?_; intro _ _) | (refine J4 ?_; intro _ _) | refine K1 ?_ | refine K0 ?_ | refine K2 ?_ | refine K3 ?_ | refine K4 ?_ | (refine CV_pu ?_; intro _ _ _ _) | refine fV_ldN ?_ | refine fV_ld1 ?_ | refine fHV_ldN ?_ | refine fHV_ld1 ?_ | refine NilW_some ?_ | refine iCW_1 ?_ | refine iCW_N ?_ | refine Pk_b ?_))
    refine Cond_d (fun hh => ?_) (fun hh => ?_)
    · have hlt : i < A.length := by omega
      have hlt' : i < want.length := by omega
      obtain ⟨b, off, cs, rfl, rfl, hat⟩ := hel i _ (List.getElem?_eq_getElem hlt)
      obtain ⟨b', off', cs', rfl, rfl, hat'⟩ := hel' i _ (List.getElem?_eq_getElem hlt')
      haveI : InR (i : Int) A.length := ⟨by omega, by omega⟩
      haveI : InR (i : Int) want.length := ⟨by omega, by omega⟩
      haveI : InI ((i : Int) + 1) := ⟨by simp only [big] at hb; omega⟩
      haveI : Fz z b' (off' + (i : Int).toNat * 1) [.int .i64 want[i]] := ⟨by rw [Int.toNat_natCast]; exact hat'⟩
      rw [List.drop_eq_getElem_cons hlt, List.drop_eq_getElem_cons hlt'] at h2
      simp only [kindsFrom] at h2
      (repeat (first | (refine iDr ?_; intro _ _) | refine V_run ?_ | refine PV_run ?_ | refine HV_run ?_ | refine iV_ld1 ?_ | refine iV_ldN ?_ | (refine iV_bx ?_; intro _ _ _ _) | (refine iV_al ?_; intro _ _ _ _) | (refine iV_mm ?_; intro _ _ _ _) | (refine iU_st ?_; intro _ _) | refine iHV_1 ?_ | refine iHV_N ?_ | refine iRI_1 ?_ | refine iRI_N ?_ | refine Cond_t ?_ | refine Cond_f ?_ | refine JB ?_ | (refine JC ?_; intro _ _ _ _) | (refine J1 ?_; intro _ _) | (refine J0 ?_; intro _ _) | (refine J2 ?_; intro _ _) | (refine J3 ?_; intro _ _) | (refine J4 ?_; intro _ _) | refine K1 ?_ | refine K0 ?_ | refine K2 ?_ | refine K3 ?_ | refine K4 ?_ | (refine CV_pu ?_; intro _ _ _ _) | refine fV_ldN ?_ | refine fV_ld1 ?_ | refine fHV_ldN ?_ | refine fHV_ld1 ?_ | refine NilW_some ?_ | refine iCW_1 ?_ | refine iCW_N ?_ | refine Pk_b ?_))
      refine zHV_ld1 (v := .int .i64 A[i].kind) (At.head (by rw [Int.toNat_natCast]; exact hat.mono hz2)) ?_
      (repeat (first | (refine iDr ?_; intro _ _) | refine V_run ?_ | refine PV_run ?_ | refine HV_run ?_ | refine iV_ld1 ?_ | refine iV_ldN ?_ | (refine iV_bx ?_; intro _ _ _ _) | (refine iV_al ?_; intro _ _ _ _) | (refine iV_mm ?_; intro _ _ _ _) | (refine iU_st ?_; intro _ _) | refine iHV_1 ?_ | refine iHV_N ?_ | refine iRI_1 ?_ | refine iRI_N ?_ | refine Cond_t ?_ | refine Cond_f ?_ | refine JB ?_ | (refine JC ?_; intro _ _ _ _) | (refine J1 ?_; intro _ _) | (refine J0 ?_; intro _ _) | (refine J2 ?_; intro _ _) | (refine J3 ?_; intro _ _) | (refine J4 ?_; intro _ _) | refine K1 ?_ | refine K0 ?_ | refine K2 ?_ | refine K3 ?_ | refine K4 ?_ | (refine CV_pu ?_; intro _ _ _ _) | refine fV_ldN ?_ | refine fV_ld1 ?_ | refine fHV_ldN ?_ | refine fHV_ld1 ?_ | refine NilW_some ?_ | refine iCW_1 ?_ | refine iCW_N ?_ | refine Pk_b ?_))
      refine Cond_nd (fun h' => ?_) (fun h' => ?_)
      · exact ⟨_, _, ‹_›, by rw [h2, decide_eq_false h']; rfl⟩
      · (repeat (first | (refine iDr ?_; intro _ _) | refine V_run ?_ | refine PV_run ?_ | refine HV_run ?_ | refine iV_ld1 ?_ | refine iV_ldN ?_ | (refine iV_bx ?_; intro _ _ _ _) | (refine iV_al ?_; intro _ _ _ _) | (refine iV_mm ?_; intro _ _ _ _) | (refine iU_st ?_; intro _ _) | refine iHV_1 ?_ | refine iHV_N ?_ | refine iRI_1 ?_ | refine iRI_N ?_ | refine Cond_t ?_ | refine Cond_f ?_ | refine JB ?_ | (refine JC ?_; intro _ _ _ _) | (refine J1 ?_; intro _ _) | (refine J0 ?_; intro _ _) | (refine J2 ?_; intro _ _) | (refine J3 ?_; intro _ _) | (refine J4 ?_; intro _ _) | refine K1 ?_ | refine K0 ?_ | refine K2 ?_ | refine K3 ?_ | refine K4 ?_ | (refine CV_pu ?_; intro _ _ _ _) | refine fV_ldN ?_ | refine fV_ld1 ?_ | refine fHV_ldN ?_ | refine fHV_ld1 ?_ | refine NilW_some ?_ | refine iCW_1 ?_ | refine iCW_N ?_ | refine Pk_b ?_))
        exact back (i + 1) _ _ ⟨by simp, by omega, by rw [h2, decide_eq_true h']; rfl, _, _, hz2, ‹_›⟩ (by omega)
    · exact ⟨_, _, ‹_›, by rw [h2, List.drop_of_length_le (by omega), List.drop_of_length_le (by omega)]; rfl⟩)
end Go.Proofs.Ytjnckainogpenaa
end

section
/- The non-vacuity check. -/
set_option linter.unusedVariables false
set_option maxRecDepth 20000
set_option synthInstance.maxHeartbeats 400000
set_option synthInstance.maxSize 4000
namespace Go.Proofs.Ytjnckainogpenaa
open Go Q Go.RowKit

def ex1 : List OpM := [setO 5 1 ⟨#[]⟩, raiseO 5 ⟨#[52, 49]⟩, raiseO 5 ⟨#[52, 50]⟩]
def ex2 : List OpM := [setO 0 2 ⟨#[79, 79, 80, 83]⟩, raiseO 0 ⟨#[108, 115]⟩, endO, raiseO 0 ⟨#[114, 109]⟩, endO, backO, raiseO 0 ⟨#[99, 112]⟩, endO]
def ex3 : List OpM := [setO 0 1 ⟨#[]⟩, raiseO 1 ⟨#[120]⟩, endO]
def ex4 : List OpM := [setO 4 2 ⟨#[]⟩, raiseO 4 ⟨#[102]⟩, raiseO 4 ⟨#[103]⟩, endO, endO]
def ex5 : List OpM := [raiseO 2 ⟨#[]⟩]
theorem k1 : kindsFrom (playFrom newM ex1).2.1 [0, 1, 3] = true := by decide +kernel
theorem k2 : kindsFrom (playFrom newM ex2).2.1 [0, 0, 2, 0, 0, 0, 0, 2] = true := by decide +kernel
theorem k3a : (playFrom newM ex3).2.1.length = 3 := by decide +kernel
theorem k3d : ((playFrom newM ex3).2.1[2]?).map (fun a => (a.kind, a.label)) = some (1, nameOf 0) := by decide +kernel
theorem k4 : kindsFrom (playFrom newM ex4).2.1 [0, 0, 0, 2, 0] = true := by decide +kernel
theorem k5 : kindsFrom (playFrom newM ex5).2.1 [3] = true := by decide +kernel
theorem k3b : condM (playFrom newM ex3).1 67 = (nameOf 0, 0) := by decide +kernel
theorem k3c : condM (playFrom newM ex3).1 83 = (wOff, 0) := by decide +kernel
theorem smOps : ∀ o ∈ ex1 ++ (ex2 ++ (ex3 ++ (ex4 ++ ex5))), o.text.size ≤ big := by
  have : (ex1 ++ (ex2 ++ (ex3 ++ (ex4 ++ ex5)))).all (fun o => decide (o.text.size ≤ 100)) = true := by decide +kernel
  intro o ho
  have := List.all_eq_true.1 this o ho
  simp only [decide_eq_true_eq] at this
  simp only [big]; omega
theorem sane {z : Z} {w : World} : Fn1 12 #[] z w fun _ r => r = .bool true := Fn1.intro fun hS => en12 (by
  unfold vc12
  (repeat (first | (refine iDr ?_; intro _ _) | refine V_run ?_ | refine PV_run ?_ | refine HV_run ?_ | refine iV_ld1 ?_ | refine iV_ldN ?_ | (refine iV_bx ?_; intro _ _ _ _) | (refine iV_al ?_; intro _ _ _ _) | (refine iV_mm ?_; intro _ _ _ _) | (refine iU_st ?_; intro _ _) | refine iHV_1 ?_ | refine iHV_N ?_ | refine iRI_1 ?_ | refine iRI_N ?_ | refine Cond_t ?_ | refine Cond_f ?_ | refine JB ?_ | (refine JC ?_; intro _ _ _ _) | (refine J1 ?_; intro _ _) | (refine J0 ?_; intro _ _) | (refine J2 ?_; intro _ _) | (refine J3 ?_; intro _ _) | (refine J4 ?_; intro _ _) | refine K1 ?_ | refine K0 ?_ | refine K2 ?_ | refine K3 ?_ | refine K4 ?_ | (refine CV_pu ?_; intro _ _ _ _) | refine fV_ldN ?_ | refine fV_ld1 ?_ | refine fHV_ldN ?_ | refine fHV_ld1 ?_ | refine NilW_some ?_ | refine iCW_1 ?_ | refine iCW_N ?_ | refine Pk_b ?_))
  refine V_bs (parts := [(0, _), (1, _), (2, _)]) rfl (by omega) ?_
  intro bo1 wo1 hbo1 hSo1
  refine V_bs (parts := [(0, _), (1, _), (2, _)]) rfl (by omega) ?_
  intro bw1 ww1 hbw1 hSw1
  obtain ⟨zw1, hzw1, hSw1', hlw1⟩ := Res.freezeSl (E := El.int) (B := [(bw1, _)]) (f := fun x => [.int .i64 x]) (xs := [0, 1, 3]) (v := .slice (some ⟨bw1, 0, none⟩) 3 3) (e := 3) hSw1 ⟨rfl, .inr ⟨bw1, 3, [], rfl, rfl, by decide, by simp [maxLen], rfl⟩⟩ (by simp [big]) (fun _ => rfl) (fun _ _ _ => rfl)
  obtain ⟨zo1, hzo1, hSo1', hlo1⟩ := Res.freezeSl (E := El.op) (B := [(bo1, _)]) (f := OpM.cells) (xs := ex1) (v := .slice (some ⟨bo1, 0, none⟩) 3 3) (e := 25) hSw1' ⟨rfl, .inr ⟨bo1, 3, [], rfl, rfl, by decide, by simp [maxLen], rfl⟩⟩ (by simp [big, ex1]) (fun _ => rfl) (fun _ x hx => ⟨rfl, smOps x (by simp only [List.mem_append]; simp [hx])⟩)
  clear hSw1 hSo1 hSw1'
  refine CV_1 (kindsP hlo1 (hlw1.mono hzo1) (by decide)) ?_
  rintro zk1 wk1 _ hlek1 hSk1 rfl
  rw [k1]
  clear hSo1'
  (repeat (first | (refine iDr ?_; intro _ _) | refine V_run ?_ | refine PV_run ?_ | refine HV_run ?_ | refine iV_ld1 ?_ | refine iV_ldN ?_ | (refine iV_bx ?_; intro _ _ _ _) | (refine iV_al ?_; intro _ _ _ _) | (refine iV_mm ?_; intro _ _ _ _) | (refine iU_st ?_; intro _ _) | refine iHV_1 ?_ | refine iHV_N ?_ | refine iRI_1 ?_ | refine iRI_N ?_ | refine Cond_t ?_ | refine Cond_f ?_ | refine JB ?_ | (refine JC ?_; intro _ _ _ _) | (refine J1 ?_; intro _ _) | (refine J0 ?_; intro _ _) | (refine J2 ?_; intro _ _) | (refine J3 ?_; intro _ _) | (refine J4 ?_; intro _ _) | refine K1 ?_ | refine K0 ?_ | refine K2 ?_ | refine K3 ?_ | refine K4 ?_ | (refine CV_pu ?_; intro _ _ _ _) | refine fV_ldN ?_ | refine fV_ld1 ?_ | refine fHV_ldN ?_ | refine fHV_ld1 ?_ | refine NilW_some ?_ | refine iCW_1 ?_ | refine iCW_N ?_ | refine Pk_b ?_))
  refine V_bs (parts := [(0, _), (1, _), (2, _), (3, _), (4, _), (5, _), (6, _), (7, _)]) rfl (by omega) ?_
  intro bo2 wo2 hbo2 hSo2
  refine V_bs (parts := [(0, _), (1, _), (2, _), (3, _), (4, _), (5, _), (6, _), (7, _)]) rfl (by omega) ?_
  intro bw2 ww2 hbw2 hSw2
  obtain ⟨zw2, hzw2, hSw2', hlw2⟩ := Res.freezeSl (E := El.int) (B := [(bw2, _)]) (f := fun x => [.int .i64 x]) (xs := [0, 0, 2, 0, 0, 0, 0, 2]) (v := .slice (some ⟨bw2, 0, none⟩) 8 8) (e := 3) hSw2 ⟨rfl, .inr ⟨bw2, 8, [], rfl, rfl, by decide, by simp [maxLen], rfl⟩⟩ (by simp [big]) (fun _ => rfl) (fun _ _ _ => rfl)
  obtain ⟨zo2, hzo2, hSo2', hlo2⟩ := Res.freezeSl (E := El.op) (B := [(bo2, _)]) (f := OpM.cells) (xs := ex2) (v := .slice (some ⟨bo2, 0, none⟩) 8 8) (e := 25) hSw2' ⟨rfl, .inr ⟨bo2, 8, [], rfl, rfl, by decide, by simp [maxLen], rfl⟩⟩ (by simp [big, ex2]) (fun _ => rfl) (fun _ x hx => ⟨rfl, smOps x (by simp only [List.mem_append]; simp [hx])⟩)
  clear hSw2 hSo2 hSw2'
  refine CV_1 (kindsP hlo2 (hlw2.mono hzo2) (by decide)) ?_
  rintro zk2 wk2 _ hlek2 hSk2 rfl
  rw [k2]
  clear hSo2'
  (repeat (first | (refine iDr ?_; intro _ _) | refine V_run ?_ | refine PV_run ?_ | refine HV_run ?_ | refine iV_ld1 ?_ | refine iV_ldN ?_ | (refine iV_bx ?_; intro _ _ _ _) | (refine iV_al ?_; intro _ _ _ _) | (refine iV_mm ?_; intro _ _ _ _) | (refine iU_st ?_; intro _ _) | refine iHV_1 ?_ | refine iHV_N ?_ | refine iRI_1 ?_ | refine iRI_N ?_ | refine Cond_t ?_ | refine Cond_f ?_ | refine JB ?_ | (refine JC ?_; intro _ _ _ _) | (refine J1 ?_; intro _ _) | (refine J0 ?_; intro _ _) | (refine J2 ?_; intro _ _) | (refine J3 ?_; intro _ _) | (refine J4 ?_; intro _ _) | refine K1 ?_ | refine K0 ?_ | refine K2 ?_ | refine K3 ?_ | refine K4 ?_ | (refine CV_pu ?_; intro _ _ _ _) | refine fV_ldN ?_ | refine fV_ld1 ?_ | refine fHV_ldN ?_ | refine fHV_ld1 ?_ | refine NilW_some ?_ | refine iCW_1 ?_ | refine iCW_N ?_ | refine Pk_b ?_))
  refine V_bs (parts := [(0, _), (1, _), (2, _)]) rfl (by omega) ?_
  intro bo3 wo3 hbo3 hSo3
  obtain ⟨zo3, hzo3, hSo3', hlo3⟩ := Res.freezeSl (E := El.op) (B := [(bo3, _)]) (f := OpM.cells) (xs := ex3) (v := .slice (some ⟨bo3, 0, none⟩) 3 3) (e := 25) hSo3 ⟨rfl, .inr ⟨bo3, 3, [], rfl, rfl, by decide, by simp [maxLen], rfl⟩⟩ (by simp [big, ex3]) (fun _ => rfl) (fun _ x hx => ⟨rfl, smOps x (by simp only [List.mem_append]; simp [hx])⟩)
  clear hSo3
  refine CV_1 (PlayP hlo3) ?_
  rintro zp wp r hlep hSp hp
  rw [PlayR, if_neg (by decide)] at hp
  obtain ⟨sv, va, ve, rfl, ⟨u, rfl, hu⟩, hva, hve⟩ := hp
  have q1 := k3b
  have q2 := k3c
  have q3 := k3a
  have q4 := k3d
  generalize (playFrom newM ex3).1 = S at *
  generalize (playFrom newM ex3).2.1 = A at *
  obtain ⟨_, a0, cap0, rfl, _, _⟩ := hu.form
  obtain ⟨hb, a, cap, rfl, hcap, hel⟩ := hva.form
  obtain ⟨_, a3, cap3, rfl, _, _⟩ := hve.form
  rw [q3] at *
  clear hSo3'
  (repeat (first | (refine iDr ?_; intro _ _) | refine V_run ?_ | refine PV_run ?_ | refine HV_run ?_ | refine iV_ld1 ?_ | refine iV_ldN ?_ | (refine iV_bx ?_; intro _ _ _ _) | (refine iV_al ?_; intro _ _ _ _) | (refine iV_mm ?_; intro _ _ _ _) | (refine iU_st ?_; intro _ _) | refine iHV_1 ?_ | refine iHV_N ?_ | refine iRI_1 ?_ | refine iRI_N ?_ | refine Cond_t ?_ | refine Cond_f ?_ | refine JB ?_ | (refine JC ?_; intro _ _ _ _) | (refine J1 ?_; intro _ _) | (refine J0 ?_; intro _ _) | (refine J2 ?_; intro _ _) | (refine J3 ?_; intro _ _) | (refine J4 ?_; intro _ _) | refine K1 ?_ | refine K0 ?_ | refine K2 ?_ | refine K3 ?_ | refine K4 ?_ | (refine CV_pu ?_; intro _ _ _ _) | refine fV_ldN ?_ | refine fV_ld1 ?_ | refine fHV_ldN ?_ | refine fHV_ld1 ?_ | refine NilW_some ?_ | refine iCW_1 ?_ | refine iCW_N ?_ | refine Pk_b ?_))
  refine CV_1 (ConditionP (s := S) ⟨_, rfl, hu⟩) ?_
  rintro zc wc _ hlec hSc rfl
  rw [q1]
  (repeat (first | (refine iDr ?_; intro _ _) | refine V_run ?_ | refine PV_run ?_ | refine HV_run ?_ | refine iV_ld1 ?_ | refine iV_ldN ?_ | (refine iV_bx ?_; intro _ _ _ _) | (refine iV_al ?_; intro _ _ _ _) | (refine iV_mm ?_; intro _ _ _ _) | (refine iU_st ?_; intro _ _) | refine iHV_1 ?_ | refine iHV_N ?_ | refine iRI_1 ?_ | refine iRI_N ?_ | refine Cond_t ?_ | refine Cond_f ?_ | refine JB ?_ | (refine JC ?_; intro _ _ _ _) | (refine J1 ?_; intro _ _) | (refine J0 ?_; intro _ _) | (refine J2 ?_; intro _ _) | (refine J3 ?_; intro _ _) | (refine J4 ?_; intro _ _) | refine K1 ?_ | refine K0 ?_ | refine K2 ?_ | refine K3 ?_ | refine K4 ?_ | (refine CV_pu ?_; intro _ _ _ _) | refine fV_ldN ?_ | refine fV_ld1 ?_ | refine fHV_ldN ?_ | refine fHV_ld1 ?_ | refine NilW_some ?_ | refine iCW_1 ?_ | refine iCW_N ?_ | refine Pk_b ?_))
  refine CV_1 (ConditionP (s := S) ⟨_, rfl, hu.mono hlec⟩) ?_
  rintro zd wd _ hled hSd rfl
  rw [q2]
  have hx2 : ∃ x2, A[2]? = some x2 ∧ x2.kind = 1 ∧ x2.label = nameOf 0 := by
    cases hA2 : A[2]? with
    | none => rw [hA2] at q4; cases q4
    | some x => rw [hA2] at q4; simp only [Option.map_some, Option.some.injEq, Prod.mk.injEq] at q4; exact ⟨x, rfl, q4.1, q4.2⟩
  obtain ⟨x2, hx2, hk2, hl2⟩ := hx2
  obtain ⟨bA, offA, cs, rfl, rfl, hat⟩ := hel 2 x2 hx2
  haveI : InR 2 (3 : Nat) := ⟨by decide, by decide⟩
  (repeat (first | (refine iDr ?_; intro _ _) | refine V_run ?_ | refine PV_run ?_ | refine HV_run ?_ | refine iV_ld1 ?_ | refine iV_ldN ?_ | (refine iV_bx ?_; intro _ _ _ _) | (refine iV_al ?_; intro _ _ _ _) | (refine iV_mm ?_; intro _ _ _ _) | (refine iU_st ?_; intro _ _) | refine iHV_1 ?_ | refine iHV_N ?_ | refine iRI_1 ?_ | refine iRI_N ?_ | refine Cond_t ?_ | refine Cond_f ?_ | refine JB ?_ | (refine JC ?_; intro _ _ _ _) | (refine J1 ?_; intro _ _) | (refine J0 ?_; intro _ _) | (refine J2 ?_; intro _ _) | (refine J3 ?_; intro _ _) | (refine J4 ?_; intro _ _) | refine K1 ?_ | refine K0 ?_ | refine K2 ?_ | refine K3 ?_ | refine K4 ?_ | (refine CV_pu ?_; intro _ _ _ _) | refine fV_ldN ?_ | refine fV_ld1 ?_ | refine fHV_ldN ?_ | refine fHV_ld1 ?_ | refine NilW_some ?_ | refine iCW_1 ?_ | refine iCW_N ?_ | refine Pk_b ?_))
  have hatd := hat.mono (hlec.trans hled)
  refine zV_ld1 (v := .int .i64 x2.kind) (At.head hatd) ?_
  rw [hk2]
  (repeat (first | (refine iDr ?_; intro _ _) | refine V_run ?_ | refine PV_run ?_ | refine HV_run ?_ | refine iV_ld1 ?_ | refine iV_ldN ?_ | (refine iV_bx ?_; intro _ _ _ _) | (refine iV_al ?_; intro _ _ _ _) | (refine iV_mm ?_; intro _ _ _ _) | (refine iU_st ?_; intro _ _) | refine iHV_1 ?_ | refine iHV_N ?_ | refine iRI_1 ?_ | refine iRI_N ?_ | refine Cond_t ?_ | refine Cond_f ?_ | refine JB ?_ | (refine JC ?_; intro _ _ _ _) | (refine J1 ?_; intro _ _) | (refine J0 ?_; intro _ _) | (refine J2 ?_; intro _ _) | (refine J3 ?_; intro _ _) | (refine J4 ?_; intro _ _) | refine K1 ?_ | refine K0 ?_ | refine K2 ?_ | refine K3 ?_ | refine K4 ?_ | (refine CV_pu ?_; intro _ _ _ _) | refine fV_ldN ?_ | refine fV_ld1 ?_ | refine fHV_ldN ?_ | refine fHV_ld1 ?_ | refine NilW_some ?_ | refine iCW_1 ?_ | refine iCW_N ?_ | refine Pk_b ?_))
  have hat1 : At zd bA (offA + (2 * 4 + 1)) [.string x2.label] := by
    obtain ⟨cc, cty, cfr, g1, g2⟩ := hatd
    refine ⟨cc, cty, cfr, g1, fun j v hv => ?_⟩
    have := g2 (j + 1) v (by cases j with
      | zero => simpa using hv
      | succ j => simp at hv)
    rw [← this]
    congr 1
    show offA + (2 * 4 + 1) + j = offA + 2 * 4 + (j + 1)
    omega
  refine zV_ld1 (v := .string x2.label) hat1 ?_
  rw [hl2]
  (repeat (first | (refine iDr ?_; intro _ _) | refine V_run ?_ | refine PV_run ?_ | refine HV_run ?_ | refine iV_ld1 ?_ | refine iV_ldN ?_ | (refine iV_bx ?_; intro _ _ _ _) | (refine iV_al ?_; intro _ _ _ _) | (refine iV_mm ?_; intro _ _ _ _) | (refine iU_st ?_; intro _ _) | refine iHV_1 ?_ | refine iHV_N ?_ | refine iRI_1 ?_ | refine iRI_N ?_ | refine Cond_t ?_ | refine Cond_f ?_ | refine JB ?_ | (refine JC ?_; intro _ _ _ _) | (refine J1 ?_; intro _ _) | (refine J0 ?_; intro _ _) | (refine J2 ?_; intro _ _) | (refine J3 ?_; intro _ _) | (refine J4 ?_; intro _ _) | refine K1 ?_ | refine K0 ?_ | refine K2 ?_ | refine K3 ?_ | refine K4 ?_ | (refine CV_pu ?_; intro _ _ _ _) | refine fV_ldN ?_ | refine fV_ld1 ?_ | refine fHV_ldN ?_ | refine fHV_ld1 ?_ | refine NilW_some ?_ | refine iCW_1 ?_ | refine iCW_N ?_ | refine Pk_b ?_))
  refine V_bs (parts := [(0, _), (1, _), (2, _), (3, _), (4, _)]) rfl (by omega) ?_
  intro bo4 wo4 hbo4 hSo4
  refine V_bs (parts := [(0, _), (1, _), (2, _), (3, _), (4, _)]) rfl (by omega) ?_
  intro bw4 ww4 hbw4 hSw4
  obtain ⟨zw4, hzw4, hSw4', hlw4⟩ := Res.freezeSl (E := El.int) (B := [(bw4, _)]) (f := fun x => [.int .i64 x]) (xs := [0, 0, 0, 2, 0]) (v := .slice (some ⟨bw4, 0, none⟩) 5 5) (e := 3) hSw4 ⟨rfl, .inr ⟨bw4, 5, [], rfl, rfl, by decide, by simp [maxLen], rfl⟩⟩ (by simp [big]) (fun _ => rfl) (fun _ _ _ => rfl)
  obtain ⟨zo4, hzo4, hSo4', hlo4⟩ := Res.freezeSl (E := El.op) (B := [(bo4, _)]) (f := OpM.cells) (xs := ex4) (v := .slice (some ⟨bo4, 0, none⟩) 5 5) (e := 25) hSw4' ⟨rfl, .inr ⟨bo4, 5, [], rfl, rfl, by decide, by simp [maxLen], rfl⟩⟩ (by simp [big, ex4]) (fun _ => rfl) (fun _ x hx => ⟨rfl, smOps x (by simp only [List.mem_append]; simp [hx])⟩)
  clear hSw4 hSo4 hSw4'
  refine CV_1 (kindsP hlo4 (hlw4.mono hzo4) (by decide)) ?_
  rintro zk4 wk4 _ hlek4 hSk4 rfl
  rw [k4]
  clear hSo4'
  (repeat (first | (refine iDr ?_; intro _ _) | refine V_run ?_ | refine PV_run ?_ | refine HV_run ?_ | refine iV_ld1 ?_ | refine iV_ldN ?_ | (refine iV_bx ?_; intro _ _ _ _) | (refine iV_al ?_; intro _ _ _ _) | (refine iV_mm ?_; intro _ _ _ _) | (refine iU_st ?_; intro _ _) | refine iHV_1 ?_ | refine iHV_N ?_ | refine iRI_1 ?_ | refine iRI_N ?_ | refine Cond_t ?_ | refine Cond_f ?_ | refine JB ?_ | (refine JC ?_; intro _ _ _ _) | (refine J1 ?_; intro _ _) | (refine J0 ?_; intro _ _) | (refine J2 ?_; intro _ _) | (refine J3 ?_; intro _ _) | (refine J4 ?_; intro _ _) | refine K1 ?_ | refine K0 ?_ | refine K2 ?_ | refine K3 ?_ | refine K4 ?_ | (refine CV_pu ?_; intro _ _ _ _) | refine fV_ldN ?_ | refine fV_ld1 ?_ | refine fHV_ldN ?_ | refine fHV_ld1 ?_ | refine NilW_some ?_ | refine iCW_1 ?_ | refine iCW_N ?_ | refine Pk_b ?_))
  refine V_bs (parts := [(0, _)]) rfl (by omega) ?_
  intro bo5 wo5 hbo5 hSo5
  refine V_bs (parts := [(0, _)]) rfl (by omega) ?_
  intro bw5 ww5 hbw5 hSw5
  obtain ⟨zw5, hzw5, hSw5', hlw5⟩ := Res.freezeSl (E := El.int) (B := [(bw5, _)]) (f := fun x => [.int .i64 x]) (xs := [3]) (v := .slice (some ⟨bw5, 0, none⟩) 1 1) (e := 3) hSw5 ⟨rfl, .inr ⟨bw5, 1, [], rfl, rfl, by decide, by simp [maxLen], rfl⟩⟩ (by simp [big]) (fun _ => rfl) (fun _ _ _ => rfl)
  obtain ⟨zo5, hzo5, hSo5', hlo5⟩ := Res.freezeSl (E := El.op) (B := [(bo5, _)]) (f := OpM.cells) (xs := ex5) (v := .slice (some ⟨bo5, 0, none⟩) 1 1) (e := 25) hSw5' ⟨rfl, .inr ⟨bo5, 1, [], rfl, rfl, by decide, by simp [maxLen], rfl⟩⟩ (by simp [big, ex5]) (fun _ => rfl) (fun _ x hx => ⟨rfl, smOps x (by simp only [List.mem_append]; simp [hx])⟩)
  clear hSw5 hSo5 hSw5'
  refine CV_1 (kindsP hlo5 (hlw5.mono hzo5) (by decide)) ?_
  rintro zk5 wk5 _ hlek5 hSk5 rfl
  rw [k5]
  clear hSo5'
  (repeat (first | (refine iDr ?_; intro _ _) | refine V_run ?_ | refine PV_run ?_ | refine HV_run ?_ | refine iV_ld1 ?_ | refine iV_ldN ?_ | (refine iV_bx ?_; intro _ _ _ _) | (refine iV_al ?_; intro _ _ _ _) | (refine iV_mm ?_; intro _ _ _ _) | (refine iU_st ?_; intro _ _) | refine iHV_1 ?_ | refine iHV_N ?_ | refine iRI_1 ?_ | refine iRI_N ?_ | refine Cond_t ?_ | refine Cond_f ?_ | refine JB ?_ | (refine JC ?_; intro _ _ _ _) | (refine J1 ?_; intro _ _) | (refine J0 ?_; intro _ _) | (refine J2 ?_; intro _ _) | (refine J3 ?_; intro _ _) | (refine J4 ?_; intro _ _) | refine K1 ?_ | refine K0 ?_ | refine K2 ?_ | refine K3 ?_ | refine K4 ?_ | (refine CV_pu ?_; intro _ _ _ _) | refine fV_ldN ?_ | refine fV_ld1 ?_ | refine fHV_ldN ?_ | refine fHV_ld1 ?_ | refine NilW_some ?_ | refine iCW_1 ?_ | refine iCW_N ?_ | refine Pk_b ?_))
  exact ⟨_, _, ‹_›, rfl⟩)
end Go.Proofs.Ytjnckainogpenaa
end

section
/- The states that operations lead to. -/
set_option linter.unusedVariables false
set_option maxRecDepth 20000
set_option synthInstance.maxHeartbeats 400000
set_option synthInstance.maxSize 4000
namespace Go.Proofs.Ytjnckainogpenaa
open Go Q Go.RowKit

def longO (o : OpM) : Bool := decide ((o.text.size : Int) > 1000)
instance {o : OpM} : Pu 54 #[o.v] (.bool (longO o)) := ⟨fun z w => Fn1.intro fun hS => en54 (by
  unfold vc54
  dsimp only [OpM.v, OpM.cells]
  (repeat (first | (refine iDr ?_; intro _ _) | refine V_run ?_ | refine PV_run ?_ | refine HV_run ?_ | refine iV_ld1 ?_ | refine iV_ldN ?_ | (refine iV_bx ?_; intro _ _ _ _) | (refine iV_al ?_; intro _ _ _ _) | (refine iV_mm ?_; intro _ _ _ _) | (refine iU_st ?_; intro _ _) | refine iHV_1 ?_ | refine iHV_N ?_ | refine iRI_1 ?_ | refine iRI_N ?_ | refine Cond_t ?_ | refine Cond_f ?_ | refine JB ?_ | (refine JC ?_; intro _ _ _ _) | (refine J1 ?_; intro _ _) | (refine J0 ?_; intro _ _) | (refine J2 ?_; intro _ _) | (refine J3 ?_; intro _ _) | (refine J4 ?_; intro _ _) | refine K1 ?_ | refine K0 ?_ | refine K2 ?_ | refine K3 ?_ | refine K4 ?_ | (refine CV_pu ?_; intro _ _ _ _) | refine fV_ldN ?_ | refine fV_ld1 ?_ | refine fHV_ldN ?_ | refine fHV_ld1 ?_ | refine NilW_some ?_ | refine iCW_1 ?_ | refine iCW_N ?_ | refine Pk_b ?_))
  exact ⟨_, _, ‹_›, rfl⟩)⟩
theorem idxOp {p : OpM → Bool} {fv v : Value} {z : Z} {w : World} {xs : List OpM} (hx : SlR El.op z v xs) (hf : ∀ x : OpM, PuV fv #[x.v] (.bool (p x))) : Fn1 88 #[v, fv] z w fun _ r => r = .int .i64 (fidx p xs) := Fn1.intro fun hS => en88 (by
  unfold vc88
  obtain ⟨hb, a, cap, rfl, hc, hel⟩ := hx.form
  (repeat (first | (refine iDr ?_; intro _ _) | refine V_run ?_ | refine PV_run ?_ | refine HV_run ?_ | refine iV_ld1 ?_ | refine iV_ldN ?_ | (refine iV_bx ?_; intro _ _ _ _) | (refine iV_al ?_; intro _ _ _ _) | (refine iV_mm ?_; intro _ _ _ _) | (refine iU_st ?_; intro _ _) | refine iHV_1 ?_ | refine iHV_N ?_ | refine iRI_1 ?_ | refine iRI_N ?_ | refine Cond_t ?_ | refine Cond_f ?_ | refine JB ?_ | (refine JC ?_; intro _ _ _ _) | (refine J1 ?_; intro _ _) | (refine J0 ?_; intro _ _) | (refine J2 ?_; intro _ _) | (refine J3 ?_; intro _ _) | (refine J4 ?_; intro _ _) | refine K1 ?_ | refine K0 ?_ | refine K2 ?_ | refine K3 ?_ | refine K4 ?_ | (refine CV_pu ?_; intro _ _ _ _) | refine fV_ldN ?_ | refine fV_ld1 ?_ | refine fHV_ldN ?_ | refine fHV_ld1 ?_ | refine NilW_some ?_ | refine iCW_1 ?_ | refine iCW_N ?_ | refine Pk_b ?_))
  refine LoopG1 (fun (i : Nat) x w' => x = .int .i64 i ∧ i ≤ xs.length ∧ (∀ j y, j < i → xs[j]? = some y → p y = false) ∧ ∃ z', Res w z [] w' z' []) (fun i => xs.length - i) 0 ⟨rfl, by omega, fun j y h => absurd h (by omega), z, hS⟩ ?_
  rintro I M i x w2 m ⟨rfl, h1, h2, z2, hS2⟩ back
  (repeat (first | (refine iDr ?_; intro _ _) | refine V_run ?_ | refine PV_run ?_ | refine HV_run ?_ | refine iV_ld1 ?_ | refine iV_ldN ?_ | (refine iV_bx ?_; intro _ _ _ _) | (refine iV_al ?_; intro _ _ _ _) | (refine iV_mm ?_; intro _ _ _ _) | (refine iU_st ?_; intro _ _) | refine iHV_1 ?_ | refine iHV_N ?_ | refine iRI_1 ?_ | refine iRI_N ?_ | refine Cond_t ?_ | refine Cond_f ?_ | refine JB ?_ | (refine JC ?_; intro _ _ _ _) | (refine J1 ?_; intro _ _) | (refine J0 ?_; intro _ _) | (refine J2 ?_; intro _ _) | (refine J3 ?_; intro _ _) | (refine J4 ?_; intro _ _) | refine K1 ?_ | refine K0 ?_ | refine K2 ?_ | refine K3 ?_ | refine K4 ?_ | (refine CV_pu ?_; intro _ _ _ _) | refine fV_ldN ?_ | refine fV_ld1 ?_ | refine fHV_ldN ?_ | refine fHV_ld1 ?_ | refine NilW_some ?_ | refine iCW_1 ?_ | refine iCW_N ?_ | refine Pk_b ?_))
  refine Cond_d (fun h => ?_) (fun h => ?_)
  · have hlt : i < xs.length := by omega
    obtain ⟨b, off, cs, rfl, ⟨rfl, hr⟩, hat⟩ := hel i _ (List.getElem?_eq_getElem hlt)
    haveI : InR (i : Int) xs.length := ⟨by omega, by omega⟩
    haveI : InI ((i : Int) + 1) := ⟨by simp only [big] at hb; omega⟩
    haveI : Fz z b (off + (i : Int).toNat * 4) xs[i].cells := ⟨by rw [Int.toNat_natCast]; exact hat⟩
    (repeat (first | (refine iDr ?_; intro _ _) | refine V_run ?_ | refine PV_run ?_ | refine HV_run ?_ | refine iV_ld1 ?_ | refine iV_ldN ?_ | (refine iV_bx ?_; intro _ _ _ _) | (refine iV_al ?_; intro _ _ _ _) | (refine iV_mm ?_; intro _ _ _ _) | (refine iU_st ?_; intro _ _) | refine iHV_1 ?_ | refine iHV_N ?_ | refine iRI_1 ?_ | refine iRI_N ?_ | refine Cond_t ?_ | refine Cond_f ?_ | refine JB ?_ | (refine JC ?_; intro _ _ _ _) | (refine J1 ?_; intro _ _) | (refine J0 ?_; intro _ _) | (refine J2 ?_; intro _ _) | (refine J3 ?_; intro _ _) | (refine J4 ?_; intro _ _) | refine K1 ?_ | refine K0 ?_ | refine K2 ?_ | refine K3 ?_ | refine K4 ?_ | (refine CV_pu ?_; intro _ _ _ _) | refine fV_ldN ?_ | refine fV_ld1 ?_ | refine fHV_ldN ?_ | refine fHV_ld1 ?_ | refine NilW_some ?_ | refine iCW_1 ?_ | refine iCW_N ?_ | refine Pk_b ?_))
    refine CV_va1 hS2 ((hf _).h _ _) ?_
    rintro z4 w4 v4 hle hS4 rfl
    refine Cond_b (fun h' => ?_) (fun h' => ?_)
    · exact ⟨_, _, hS4, by rw [fidx_some h2 (List.getElem?_eq_getElem hlt) h']⟩
    · (repeat (first | (refine iDr ?_; intro _ _) | refine V_run ?_ | refine PV_run ?_ | refine HV_run ?_ | refine iV_ld1 ?_ | refine iV_ldN ?_ | (refine iV_bx ?_; intro _ _ _ _) | (refine iV_al ?_; intro _ _ _ _) | (refine iV_mm ?_; intro _ _ _ _) | (refine iU_st ?_; intro _ _) | refine iHV_1 ?_ | refine iHV_N ?_ | refine iRI_1 ?_ | refine iRI_N ?_ | refine Cond_t ?_ | refine Cond_f ?_ | refine JB ?_ | (refine JC ?_; intro _ _ _ _) | (refine J1 ?_; intro _ _) | (refine J0 ?_; intro _ _) | (refine J2 ?_; intro _ _) | (refine J3 ?_; intro _ _) | (refine J4 ?_; intro _ _) | refine K1 ?_ | refine K0 ?_ | refine K2 ?_ | refine K3 ?_ | refine K4 ?_ | (refine CV_pu ?_; intro _ _ _ _) | refine fV_ldN ?_ | refine fV_ld1 ?_ | refine fHV_ldN ?_ | refine fHV_ld1 ?_ | refine NilW_some ?_ | refine iCW_1 ?_ | refine iCW_N ?_ | refine Pk_b ?_))
      refine back (i + 1) _ _ ⟨by simp, by omega, fun j y' hj hjy => ?_, z4, hS4⟩ (by omega)
      by_cases hji : j = i
      · subst hji; rw [List.getElem?_eq_getElem hlt] at hjy; cases hjy; exact h'
      · exact h2 j y' (by omega) hjy
  · (repeat (first | (refine iDr ?_; intro _ _) | refine V_run ?_ | refine PV_run ?_ | refine HV_run ?_ | refine iV_ld1 ?_ | refine iV_ldN ?_ | (refine iV_bx ?_; intro _ _ _ _) | (refine iV_al ?_; intro _ _ _ _) | (refine iV_mm ?_; intro _ _ _ _) | (refine iU_st ?_; intro _ _) | refine iHV_1 ?_ | refine iHV_N ?_ | refine iRI_1 ?_ | refine iRI_N ?_ | refine Cond_t ?_ | refine Cond_f ?_ | refine JB ?_ | (refine JC ?_; intro _ _ _ _) | (refine J1 ?_; intro _ _) | (refine J0 ?_; intro _ _) | (refine J2 ?_; intro _ _) | (refine J3 ?_; intro _ _) | (refine J4 ?_; intro _ _) | refine K1 ?_ | refine K0 ?_ | refine K2 ?_ | refine K3 ?_ | refine K4 ?_ | (refine CV_pu ?_; intro _ _ _ _) | refine fV_ldN ?_ | refine fV_ld1 ?_ | refine fHV_ldN ?_ | refine fHV_ld1 ?_ | refine NilW_some ?_ | refine iCW_1 ?_ | refine iCW_N ?_ | refine Pk_b ?_))
    exact ⟨_, _, hS2, by rw [fidx_none fun j y hy => h2 j y (by have := (List.getElem?_eq_some_iff.1 hy).1; omega) hy]⟩)
theorem containsOp {p : OpM → Bool} {fv v : Value} {z : Z} {w : World} {xs : List OpM} (hx : SlR El.op z v xs) (hf : ∀ x : OpM, PuV fv #[x.v] (.bool (p x))) : Fn1 53 #[v, fv] z w fun _ r => r = .bool (xs.any p) := Fn1.intro fun hS => en53 (by
  unfold vc53
  refine CV_1 (idxOp hx hf) ?_
  rintro z' w' v hle hS' rfl
  (repeat (first | (refine iDr ?_; intro _ _) | refine V_run ?_ | refine PV_run ?_ | refine HV_run ?_ | refine iV_ld1 ?_ | refine iV_ldN ?_ | (refine iV_bx ?_; intro _ _ _ _) | (refine iV_al ?_; intro _ _ _ _) | (refine iV_mm ?_; intro _ _ _ _) | (refine iU_st ?_; intro _ _) | refine iHV_1 ?_ | refine iHV_N ?_ | refine iRI_1 ?_ | refine iRI_N ?_ | refine Cond_t ?_ | refine Cond_f ?_ | refine JB ?_ | (refine JC ?_; intro _ _ _ _) | (refine J1 ?_; intro _ _) | (refine J0 ?_; intro _ _) | (refine J2 ?_; intro _ _) | (refine J3 ?_; intro _ _) | (refine J4 ?_; intro _ _) | refine K1 ?_ | refine K0 ?_ | refine K2 ?_ | refine K3 ?_ | refine K4 ?_ | (refine CV_pu ?_; intro _ _ _ _) | refine fV_ldN ?_ | refine fV_ld1 ?_ | refine fHV_ldN ?_ | refine fHV_ld1 ?_ | refine NilW_some ?_ | refine iCW_1 ?_ | refine iCW_N ?_ | refine Pk_b ?_))
  exact ⟨_, _, ‹_›, by rw [fidx_ge]⟩)
def okOps (l : List OpM) : Bool := decide (l.length ≤ 200) && !l.any longO
def playedM (l : List OpM) : StM := if okOps l then (playFrom newM l).1 else []
theorem playedP {v : Value} {l : List OpM} {z : Z} {w : World} (hl : SlR El.op z v l) : Fn1 16 #[v] z w fun z' r => ∃ u, r = .tuple #[u, .bool (okOps l)] ∧ StR z' u (playedM l) := Fn1.intro fun hS => en16 (by
  unfold vc16
  have hl' := hl
  obtain ⟨hb, a, cap, rfl, hcap, hel⟩ := hl.form
  refine iV_al ?_
  intro b2 w2 hb2 hS2
  (repeat (first | (refine iDr ?_; intro _ _) | refine V_run ?_ | refine PV_run ?_ | refine HV_run ?_ | refine iV_ld1 ?_ | refine iV_ldN ?_ | (refine iV_bx ?_; intro _ _ _ _) | (refine iV_al ?_; intro _ _ _ _) | (refine iV_mm ?_; intro _ _ _ _) | (refine iU_st ?_; intro _ _) | refine iHV_1 ?_ | refine iHV_N ?_ | refine iRI_1 ?_ | refine iRI_N ?_ | refine Cond_t ?_ | refine Cond_f ?_ | refine JB ?_ | (refine JC ?_; intro _ _ _ _) | (refine J1 ?_; intro _ _) | (refine J0 ?_; intro _ _) | (refine J2 ?_; intro _ _) | (refine J3 ?_; intro _ _) | (refine J4 ?_; intro _ _) | refine K1 ?_ | refine K0 ?_ | refine K2 ?_ | refine K3 ?_ | refine K4 ?_ | (refine CV_pu ?_; intro _ _ _ _) | refine fV_ldN ?_ | refine fV_ld1 ?_ | refine fHV_ldN ?_ | refine fHV_ld1 ?_ | refine NilW_some ?_ | refine iCW_1 ?_ | refine iCW_N ?_ | refine Pk_b ?_))
  refine Cond_d (fun h => ?_) (fun h => ?_)
  · have hok : okOps l = false := by simp [okOps]; intro _; omega
    (repeat (first | (refine iDr ?_; intro _ _) | refine V_run ?_ | refine PV_run ?_ | refine HV_run ?_ | refine iV_ld1 ?_ | refine iV_ldN ?_ | (refine iV_bx ?_; intro _ _ _ _) | (refine iV_al ?_; intro _ _ _ _) | (refine iV_mm ?_; intro _ _ _ _) | (refine iU_st ?_; intro _ _) | refine iHV_1 ?_ | refine iHV_N ?_ | refine iRI_1 ?_ | refine iRI_N ?_ | refine Cond_t ?_ | refine Cond_f ?_ | refine JB ?_ | (refine JC ?_; intro _ _ _ _) | (refine J1 ?_; intro _ _) | (refine J0 ?_; intro _ _) | (refine J2 ?_; intro _ _) | (refine J3 ?_; intro _ _) | (refine J4 ?_; intro _ _) | refine K1 ?_ | refine K0 ?_ | refine K2 ?_ | refine K3 ?_ | refine K4 ?_ | (refine CV_pu ?_; intro _ _ _ _) | refine fV_ldN ?_ | refine fV_ld1 ?_ | refine fHV_ldN ?_ | refine fHV_ld1 ?_ | refine NilW_some ?_ | refine iCW_1 ?_ | refine iCW_N ?_ | refine Pk_b ?_))
    exact ⟨_, _, ‹_›, _, by rw [hok], _, rfl, by rw [playedM, hok]; exact SlR.nil⟩
  · refine CV_1 (containsOp (p := longO) hl' fun x => inferInstance) ?_
    rintro z1 w1 _ hle1 hS1 rfl
    (repeat (first | (refine iDr ?_; intro _ _) | refine V_run ?_ | refine PV_run ?_ | refine HV_run ?_ | refine iV_ld1 ?_ | refine iV_ldN ?_ | (refine iV_bx ?_; intro _ _ _ _) | (refine iV_al ?_; intro _ _ _ _) | (refine iV_mm ?_; intro _ _ _ _) | (refine iU_st ?_; intro _ _) | refine iHV_1 ?_ | refine iHV_N ?_ | refine iRI_1 ?_ | refine iRI_N ?_ | refine Cond_t ?_ | refine Cond_f ?_ | refine JB ?_ | (refine JC ?_; intro _ _ _ _) | (refine J1 ?_; intro _ _) | (refine J0 ?_; intro _ _) | (refine J2 ?_; intro _ _) | (refine J3 ?_; intro _ _) | (refine J4 ?_; intro _ _) | refine K1 ?_ | refine K0 ?_ | refine K2 ?_ | refine K3 ?_ | refine K4 ?_ | (refine CV_pu ?_; intro _ _ _ _) | refine fV_ldN ?_ | refine fV_ld1 ?_ | refine fHV_ldN ?_ | refine fHV_ld1 ?_ | refine NilW_some ?_ | refine iCW_1 ?_ | refine iCW_N ?_ | refine Pk_b ?_))
    refine Cond_b (fun h2 => ?_) (fun h2 => ?_)
    · have hok : okOps l = false := by simp [okOps, h2]
      (repeat (first | (refine iDr ?_; intro _ _) | refine V_run ?_ | refine PV_run ?_ | refine HV_run ?_ | refine iV_ld1 ?_ | refine iV_ldN ?_ | (refine iV_bx ?_; intro _ _ _ _) | (refine iV_al ?_; intro _ _ _ _) | (refine iV_mm ?_; intro _ _ _ _) | (refine iU_st ?_; intro _ _) | refine iHV_1 ?_ | refine iHV_N ?_ | refine iRI_1 ?_ | refine iRI_N ?_ | refine Cond_t ?_ | refine Cond_f ?_ | refine JB ?_ | (refine JC ?_; intro _ _ _ _) | (refine J1 ?_; intro _ _) | (refine J0 ?_; intro _ _) | (refine J2 ?_; intro _ _) | (refine J3 ?_; intro _ _) | (refine J4 ?_; intro _ _) | refine K1 ?_ | refine K0 ?_ | refine K2 ?_ | refine K3 ?_ | refine K4 ?_ | (refine CV_pu ?_; intro _ _ _ _) | refine fV_ldN ?_ | refine fV_ld1 ?_ | refine fHV_ldN ?_ | refine fHV_ld1 ?_ | refine NilW_some ?_ | refine iCW_1 ?_ | refine iCW_N ?_ | refine Pk_b ?_))
      exact ⟨_, _, ‹_›, _, by rw [hok], _, rfl, by rw [playedM, hok]; exact SlR.nil⟩
    · have hok : okOps l = true := by simp [okOps, h2]; omega
      (repeat (first | (refine iDr ?_; intro _ _) | refine V_run ?_ | refine PV_run ?_ | refine HV_run ?_ | refine iV_ld1 ?_ | refine iV_ldN ?_ | (refine iV_bx ?_; intro _ _ _ _) | (refine iV_al ?_; intro _ _ _ _) | (refine iV_mm ?_; intro _ _ _ _) | (refine iU_st ?_; intro _ _) | refine iHV_1 ?_ | refine iHV_N ?_ | refine iRI_1 ?_ | refine iRI_N ?_ | refine Cond_t ?_ | refine Cond_f ?_ | refine JB ?_ | (refine JC ?_; intro _ _ _ _) | (refine J1 ?_; intro _ _) | (refine J0 ?_; intro _ _) | (refine J2 ?_; intro _ _) | (refine J3 ?_; intro _ _) | (refine J4 ?_; intro _ _) | refine K1 ?_ | refine K0 ?_ | refine K2 ?_ | refine K3 ?_ | refine K4 ?_ | (refine CV_pu ?_; intro _ _ _ _) | refine fV_ldN ?_ | refine fV_ld1 ?_ | refine fHV_ldN ?_ | refine fHV_ld1 ?_ | refine NilW_some ?_ | refine iCW_1 ?_ | refine iCW_N ?_ | refine Pk_b ?_))
      refine CV_1 (PlayP (hl'.mono hle1)) ?_
      rintro z3 w3 r hle3 hS3 hp
      rw [PlayR, if_neg (by omega)] at hp
      obtain ⟨sv, va, ve, rfl, ⟨u, rfl, hu⟩, hva, hve⟩ := hp
      obtain ⟨_, a0, cap0, rfl, _, _⟩ := hu.form
      obtain ⟨_, a1, cap1, rfl, _, _⟩ := hva.form
      obtain ⟨_, a3, cap3, rfl, _, _⟩ := hve.form
      (repeat (first | (refine iDr ?_; intro _ _) | refine V_run ?_ | refine PV_run ?_ | refine HV_run ?_ | refine iV_ld1 ?_ | refine iV_ldN ?_ | (refine iV_bx ?_; intro _ _ _ _) | (refine iV_al ?_; intro _ _ _ _) | (refine iV_mm ?_; intro _ _ _ _) | (refine iU_st ?_; intro _ _) | refine iHV_1 ?_ | refine iHV_N ?_ | refine iRI_1 ?_ | refine iRI_N ?_ | refine Cond_t ?_ | refine Cond_f ?_ | refine JB ?_ | (refine JC ?_; intro _ _ _ _) | (refine J1 ?_; intro _ _) | (refine J0 ?_; intro _ _) | (refine J2 ?_; intro _ _) | (refine J3 ?_; intro _ _) | (refine J4 ?_; intro _ _) | refine K1 ?_ | refine K0 ?_ | refine K2 ?_ | refine K3 ?_ | refine K4 ?_ | (refine CV_pu ?_; intro _ _ _ _) | refine fV_ldN ?_ | refine fV_ld1 ?_ | refine fHV_ldN ?_ | refine fHV_ld1 ?_ | refine NilW_some ?_ | refine iCW_1 ?_ | refine iCW_N ?_ | refine Pk_b ?_))
      exact ⟨_, _, ‹_›, _, by rw [hok]; rfl, _, rfl, by rw [playedM, hok]; exact hu⟩)
end Go.Proofs.Ytjnckainogpenaa
end

section
/- Plain laws: what operations keep. -/
set_option linter.unusedVariables false
set_option maxRecDepth 20000
namespace Go.Proofs.Ytjnckainogpenaa
open Go Q Go.RowKit

theorem trapsFrom_set {t : TrM} : ∀ {l : List TrM} {i : Int} {k : Nat}, trapsFrom i l = true → trapOk (i + k) t = true → trapsFrom i (l.set k t) = true
  | [], _, _, _, _ => rfl
  | x :: l, i, 0, h, ht => by
    simp only [trapsFrom, Bool.and_eq_true, List.set_cons_zero] at h ⊢
    exact ⟨by simpa using ht, h.2⟩
  | x :: l, i, k + 1, h, ht => by
    simp only [trapsFrom, Bool.and_eq_true, List.set_cons_succ] at h ⊢
    exact ⟨h.1, trapsFrom_set h.2 (by rw [show i + 1 + (k : Int) = i + ((k + 1 : Nat) : Int) by omega]; exact ht)⟩
theorem trapOk_no {i : Int} : trapOk i noTrap = true := by simp [trapOk, noTrap, TrM.eqb]
theorem pendFrom_snoc {r : RaM} : ∀ {l had : List RaM}, pendFrom had l = true → raOk (had ++ l) r = true → pendFrom had (l ++ [r]) = true
  | [], had, _, hr => by simpa [pendFrom] using hr
  | x :: l, had, h, hr => by
    simp only [pendFrom, Bool.and_eq_true, List.cons_append] at h ⊢
    exact ⟨h.1, pendFrom_snoc h.2 (by simpa using hr)⟩
theorem framedB_parts {f : FrM} : framedB f = true ↔ f.traps.length = 6 ∧ trapsFrom 0 f.traps = true ∧ pendFrom [] f.pend = true ∧ infoB f.info = true := by
  simp only [framedB, Bool.and_eq_true, decide_eq_true_eq, and_assoc]
theorem sigF_ok {f : FrM} {c : Int} {d : ByteArray} (h : framedB f = true) (h0 : 0 ≤ c) (h1 : c < 6) (hd : descB d = true) : framedB (sigF f c d) = true := by
  rw [framedB_parts] at h ⊢
  refine ⟨by simp [sigF, h.1], trapsFrom_set h.2.1 trapOk_no, rfl, ?_⟩
  simp [infoB, sigF, cond, h0, h1, hd]
theorem raiseF_ok {f : FrM} {c : Int} {d : ByteArray} (h : framedB f = true) (h0 : 0 ≤ c) (h1 : c < 6) (hd : descB d = true) : framedB (raiseF f c d) = true := by
  have hrc : 0 ≤ raiseC f c ∧ raiseC f c < 6 := by unfold raiseC; split <;> omega
  unfold raiseF
  split
  · exact h
  · split
    · exact sigF_ok h hrc.1 hrc.2 hd
    · split
      · exact h
      · rename_i h3 h4 h5
        rw [framedB_parts] at h ⊢
        refine ⟨h.1, h.2.1, pendFrom_snoc h.2.2.1 ?_, h.2.2.2⟩
        simp only [Bool.or_eq_true, not_or, Bool.not_eq_true] at h5
        have hp := h5.2
        simp only [hasP] at hp
        have e : (f.pend.any fun x => x.cond == raiseC f c) = f.pend.any fun x => decide (x.cond = raiseC f c) := by congr 1
        simp only [raOk, List.nil_append, e, hp, hd, cond]
        simp [hrc.1, hrc.2, h4]
theorem pushF_ok {f : FrM} (h : framedB f = true) : framedB (pushF f) = true := by
  rw [framedB_parts] at h ⊢
  exact ⟨h.1, h.2.1, rfl, h.2.2.2⟩
theorem trapsFrom_get : ∀ {l : List TrM} {i : Int} {k : Nat} {t : TrM}, trapsFrom i l = true → l[k]? = some t → trapOk (i + k) t = true
  | x :: l, i, 0, t, h, hk => by
    simp only [trapsFrom, Bool.and_eq_true] at h
    simp at hk; subst hk
    simpa using h.1
  | x :: l, i, k + 1, t, h, hk => by
    simp only [trapsFrom, Bool.and_eq_true] at h
    have := trapsFrom_get h.2 (by simpa using hk)
    rw [show i + ((k + 1 : Nat) : Int) = i + 1 + (k : Int) by omega]; exact this
theorem tr_ok {f : FrM} {c : Int} (h : framedB f = true) (h0 : 0 ≤ c) (h1 : c < 6) : trapOk c (f.tr c) = true := by
  rw [framedB_parts] at h
  have hlt : c.toNat < f.traps.length := by omega
  have hx : f.traps[c.toNat]? = some (f.tr c) := by rw [FrM.tr, List.getD_eq_getElem?_getD, List.getElem?_eq_getElem hlt]; rfl
  have := trapsFrom_get h.2.1 hx
  rwa [show (0 : Int) + (c.toNat : Int) = c by omega] at this
theorem setF_ok {f : FrM} {c m : Int} {t : ByteArray} (h : framedB f = true) (h0 : 0 ≤ c) (h1 : c < 6) (hok : setOk c m t = true) : framedB (f.put c (setT (f.tr c) c m t)) = true := by
  have hn : ∀ n : Nat, n < 6 → labB (nmB.getD n ⟨#[]⟩) = true := by decide +kernel
  have hname : labB (nameOf c) = true := hn c.toNat (by omega)
  simp only [setOk, Bool.and_eq_true, Bool.or_eq_true, decide_eq_true_eq] at hok
  rw [framedB_parts] at h ⊢
  refine ⟨by simp [FrM.put, h.1], trapsFrom_set h.2.1 ?_, h.2.2.1, h.2.2.2⟩
  rw [show (0 : Int) + (c.toNat : Int) = c by omega]
  unfold setT
  split
  · exact trapOk_no
  · rename_i hm
    rw [trapOk, if_neg hm]
    have hl : labB (if t = ⟨#[]⟩ then nameOf c else t) = true := by
      split
      · exact hname
      · rename_i ht; rcases hok.2 with e | e
        · exact absurd e ht
        · exact e
    simp only [hok.1, hl, Bool.true_and]
    cases decide (m = 2) <;> cases (f.tr c).delayed <;> rfl
end Go.Proofs.Ytjnckainogpenaa
end

section
/- The plain law of TrapCatches. -/
set_option linter.unusedVariables false
set_option maxRecDepth 20000
namespace Go.Proofs.Ytjnckainogpenaa
open Go Q Go.RowKit

theorem checkB_snoc {pre : StM} {f g : FrM} (h : checkB (pre ++ [f]) = true) (hg : framedB g = true) : checkB (pre ++ [g]) = true := by
  simp only [checkB, Bool.and_eq_true, decide_eq_true_eq, List.all_eq_true, List.length_append, List.length_singleton] at h ⊢
  refine ⟨h.1, fun x hx => ?_⟩
  rcases List.mem_append.1 hx with hx | hx
  · exact h.2 x (List.mem_append_left _ hx)
  · simp only [List.mem_singleton] at hx; subst hx; exact hg
theorem checkB_last {pre : StM} {f : FrM} (h : checkB (pre ++ [f]) = true) : framedB f = true := by
  simp only [checkB, Bool.and_eq_true, List.all_eq_true] at h
  exact h.2 f (by simp)
def catchLaw (s : StM) (c : Int) : AcM × Int :=
  let r := doneM s (raiseO c ⟨#[]⟩) [c]
  if r.e = 0 ∧ r.a.kind = 0 then ((doneM r.s endO []).a, (doneM r.s endO []).e) else (r.a, r.e)
theorem catches_law {s : StM} {c : Int} (hck : checkB s = true) (hp : (lastF s).pend = []) (h0 : 0 ≤ c) (h1 : c < 6) : catchM s c = catchLaw s c := by
  obtain ⟨pre, f, rfl, h6, hp4, hpre, hfd, hlast, hdl⟩ := lastSplit hck
  have ho : openE (pre ++ [f]) [c] = 0 := by simp [openE, hck, cond, h0, h1]
  have hd : descB ⟨#[]⟩ = true := by decide
  rw [hlast] at hp
  have hff : ({ f with pend := [] } : FrM) = f := by rw [← hp]
  have hop : opM (pre ++ [f]) (raiseO c ⟨#[]⟩) = ⟨0, raiseA f c ⟨#[]⟩, pre ++ [raiseF f c ⟨#[]⟩]⟩ := by
    simp only [opM, raiseO, hlast, hdl, hd, if_true, show ¬ ((2 : Int) = 1) by decide, if_false]
  have hdm : doneM (pre ++ [f]) (raiseO c ⟨#[]⟩) [c] = ⟨0, raiseA f c ⟨#[]⟩, pre ++ [raiseF f c ⟨#[]⟩]⟩ := by
    rw [doneM, if_neg (by simp [ho]), hop, if_neg (by simp)]
  have hck2 : checkB (pre ++ [raiseF f c ⟨#[]⟩]) = true := checkB_snoc hck (raiseF_ok hfd h0 h1 hd)
  have ho2 : openE (pre ++ [raiseF f c ⟨#[]⟩]) [] = 0 := by simp [openE, hck2]
  have hl2 : lastF (pre ++ [raiseF f c ⟨#[]⟩]) = raiseF f c ⟨#[]⟩ := by simp [lastF]
  have hop2 : opM (pre ++ [raiseF f c ⟨#[]⟩]) endO = ⟨(endM (pre.length + 1) (raiseF f c ⟨#[]⟩) (raiseF f c ⟨#[]⟩).pend).e, (endM (pre.length + 1) (raiseF f c ⟨#[]⟩) (raiseF f c ⟨#[]⟩).pend).a, pre ++ (endM (pre.length + 1) (raiseF f c ⟨#[]⟩) (raiseF f c ⟨#[]⟩).pend).top⟩ := by
    simp only [opM, endO, hl2, show ¬ ((3 : Int) = 1) by decide, show ¬ ((3 : Int) = 2) by decide, if_true, if_false]
    simp
  have hdm2 : ((doneM (pre ++ [raiseF f c ⟨#[]⟩]) endO []).a, (doneM (pre ++ [raiseF f c ⟨#[]⟩]) endO []).e) = ((endM (pre.length + 1) (raiseF f c ⟨#[]⟩) (raiseF f c ⟨#[]⟩).pend).a, (endM (pre.length + 1) (raiseF f c ⟨#[]⟩) (raiseF f c ⟨#[]⟩).pend).e) := by
    rw [doneM, if_neg (by simp [ho2]), hop2]
    by_cases he : (endM (pre.length + 1) (raiseF f c ⟨#[]⟩) (raiseF f c ⟨#[]⟩).pend).e = 0
    · rw [if_neg (by simp [he])]
    · rw [if_pos he]
      rw [endM_err he]
  simp only [catchLaw, hdm]
  rw [catchM, if_neg (by simp [ho])]
  simp only [hlast, hff, List.length_append, List.length_singleton]
  by_cases hk : (raiseA f c ⟨#[]⟩).kind = 0
  · rw [if_neg (by simp [hk]), if_pos (by simp [hk])]
    exact hdm2.symm
  · rw [if_pos hk, if_neg (by simp [hk])]
end Go.Proofs.Ytjnckainogpenaa
end

section
/- Plain laws: every operation keeps a state valid. -/
set_option linter.unusedVariables false
set_option linter.unusedSimpArgs false
set_option maxRecDepth 20000
namespace Go.Proofs.Ytjnckainogpenaa
open Go Q Go.RowKit

theorem raOk_sub {had had' : List RaM} {r : RaM} (hs : ∀ x ∈ had', x ∈ had) (h : raOk had r = true) : raOk had' r = true := by
  simp only [raOk, Bool.and_eq_true, Bool.not_eq_true'] at h ⊢
  refine ⟨⟨h.1.1, ?_⟩, h.2⟩
  rw [List.any_eq_false] at *
  exact fun x hx => h.1.2 x (hs x hx)
theorem pendFrom_sub : ∀ {l had had' : List RaM}, (∀ x ∈ had', x ∈ had) → pendFrom had l = true → pendFrom had' l = true
  | [], _, _, _, _ => rfl
  | r :: l, had, had', hs, h => by
    simp only [pendFrom, Bool.and_eq_true] at h ⊢
    refine ⟨raOk_sub hs h.1, pendFrom_sub (fun x hx => ?_) h.2⟩
    rcases List.mem_append.1 hx with hx | hx
    · exact List.mem_append_left _ (hs x hx)
    · exact List.mem_append_right _ hx
theorem pendFrom_tail {r : RaM} {l : List RaM} (h : pendFrom [] (r :: l) = true) : raOk [] r = true ∧ pendFrom [] l = true := by
  simp only [pendFrom, Bool.and_eq_true] at h
  exact ⟨h.1, pendFrom_sub (fun x hx => by cases hx) h.2⟩
theorem raOk_facts {r : RaM} (h : raOk [] r = true) : 0 ≤ r.cond ∧ r.cond < 6 ∧ immediate r.cond = false ∧ descB r.desc = true := by
  have := (raOk_mem h).1
  simp only [raOk, Bool.and_eq_true, Bool.not_eq_true'] at h
  exact ⟨by omega, by omega, h.1.1.2, h.2⟩
theorem framedB_pend {f : FrM} {l : List RaM} (h : framedB f = true) (hl : pendFrom [] l = true) : framedB { f with pend := l } = true := by
  rw [framedB_parts] at h ⊢
  exact ⟨h.1, h.2.1, hl, h.2.2.2⟩
theorem endM_ok {n : Nat} {f : FrM} (h : framedB f = true) : ∀ {l : List RaM}, pendFrom [] l = true → (endM n f l).e = 0 → (endM n f l).top ≠ [] ∧ (∀ g ∈ (endM n f l).top, framedB g = true) ∧ ((endM n f l).top.length = 1 ∨ n ≠ 30 ∧ (endM n f l).top.length = 2)
  | [], hl, _ => by
    simp only [endM]
    exact ⟨by simp, fun g hg => by simp at hg; subst hg; exact framedB_pend h rfl, .inl rfl⟩
  | r :: l, hl, he => by
    obtain ⟨hr, hl'⟩ := pendFrom_tail hl
    obtain ⟨c0, c1, him, hd⟩ := raOk_facts hr
    simp only [endM] at he ⊢
    by_cases h1 : (f.tr r.cond).mode = 0 ∨ (f.tr r.cond).delayed = true
    · rw [if_pos h1] at he ⊢; exact endM_ok h hl' he
    · rw [if_neg h1] at he ⊢
      by_cases h2 : (f.tr r.cond).mode = 1
      · rw [if_pos h2] at he ⊢
        exact ⟨by simp, fun g hg => by simp at hg; subst hg; exact sigF_ok h c0 c1 hd, .inl rfl⟩
      · rw [if_neg h2] at he ⊢
        by_cases h3 : n = 30
        · rw [if_pos h3] at he; cases he
        · rw [if_neg h3] at he ⊢
          refine ⟨by simp [callF], fun g hg => ?_, .inr ⟨h3, rfl⟩⟩
          simp only [callF, List.mem_cons, List.not_mem_nil, or_false] at hg
          rcases hg with rfl | rfl
          · exact framedB_pend h hl'
          · have hto := tr_ok h c0 c1
            rw [framedB_parts] at h ⊢
            refine ⟨by simp [h.1], trapsFrom_set h.2.1 ?_, rfl, ?_⟩
            · rw [show (0 : Int) + (r.cond.toNat : Int) = r.cond by omega]
              simp only [not_or] at h1
              rw [trapOk, if_neg h1.1] at hto
              rw [trapOk, if_neg h1.1]
              simp only [Bool.and_eq_true] at hto
              have hmo := hto.1.1
              simp only [moded, Bool.or_eq_true, decide_eq_true_eq, Bool.and_eq_true] at hmo
              have hm2 : (f.tr r.cond).mode = 2 := by
                rcases hmo with (e | e) | e
                · exact absurd e h1.1
                · exact absurd e h2
                · exact e.1
              simp [hto.1.1, hto.1.2, hm2, moded, him]
            · simp [infoB, cond, c0, c1, hd]
theorem doneM_ok {s : StM} {o : OpM} {conds : List Int} (hk : 1 ≤ o.kind ∧ o.kind ≤ 5) (hc : o.kind = 1 ∨ o.kind = 2 → conds = [o.cond]) (he : (doneM s o conds).e = 0) : checkB s = true ∧ checkB (doneM s o conds).s = true := by
  have ho : openE s conds = 0 := by
    rw [doneM] at he
    by_cases h : openE s conds = 0
    · exact h
    · rw [if_pos h] at he; exact absurd he h
  have hck : checkB s = true := by
    simp only [openE] at ho
    cases hh : checkB s with
    | true => rfl
    | false => simp [hh] at ho
  refine ⟨hck, ?_⟩
  have he2 : (opM s o).e = 0 := by
    rw [doneM, if_neg (by simp [ho])] at he
    by_cases h : (opM s o).e = 0
    · exact h
    · rw [if_pos h] at he; exact absurd he h
  rw [doneM, if_neg (by simp [ho]), if_neg (by simp [he2])]
  have hcc : o.kind = 1 ∨ o.kind = 2 → 0 ≤ o.cond ∧ o.cond < 6 := fun h => by
    rw [hc h] at ho
    simp only [openE, hck, if_true, List.all_cons, List.all_nil, Bool.and_true] at ho
    cases hcd : cond o.cond with
    | false => simp [hcd] at ho
    | true => simpa [cond] using hcd
  obtain ⟨pre, f, rfl, h6, hp4, hpre, hfd, hlast, hdl⟩ := lastSplit hck
  have hpd := (framedB_parts.1 hfd).2.2.1
  have hall : ∀ g ∈ pre, framedB g = true := by
    simp only [checkB, Bool.and_eq_true, List.all_eq_true] at hck
    exact fun g hg => hck.2 g (List.mem_append_left _ hg)
  have build : ∀ top : StM, top ≠ [] → (∀ g ∈ top, framedB g = true) → pre.length + top.length ≤ 30 → checkB (pre ++ top) = true := fun top hne hg hlen => by
    have : 0 < top.length := List.length_pos_iff.2 hne
    simp only [checkB, Bool.and_eq_true, decide_eq_true_eq, List.all_eq_true, List.length_append]
    refine ⟨⟨by omega, hlen⟩, fun x hx => ?_⟩
    rcases List.mem_append.1 hx with hx | hx
    · exact hall x hx
    · exact hg x hx
  simp only [opM, hlast, hdl, List.length_append, List.length_singleton] at he2 ⊢
  by_cases k1 : o.kind = 1
  · have hcd := hcc (.inl k1)
    rw [if_pos k1] at he2 ⊢
    by_cases hok : setOk o.cond o.mode o.text = true
    · rw [if_pos hok]
      exact build _ (by simp) (fun g hg => by simp at hg; subst hg; exact setF_ok hfd hcd.1 hcd.2 hok) (by simp; omega)
    · rw [if_neg hok] at he2; cases he2
  rw [if_neg k1] at he2 ⊢
  by_cases k2 : o.kind = 2
  · have hcd := hcc (.inr k2)
    rw [if_pos k2] at he2 ⊢
    by_cases hok : descB o.text = true
    · rw [if_pos hok]
      exact build _ (by simp) (fun g hg => by simp at hg; subst hg; exact raiseF_ok hfd hcd.1 hcd.2 hok) (by simp; omega)
    · rw [if_neg hok] at he2; cases he2
  rw [if_neg k2] at he2 ⊢
  by_cases k3 : o.kind = 3
  · rw [if_pos k3] at he2 ⊢
    obtain ⟨h1, h2, h3⟩ := endM_ok hfd hpd he2
    exact build _ h1 h2 (by rcases h3 with h3 | ⟨h3, h4⟩ <;> omega)
  rw [if_neg k3] at he2 ⊢
  by_cases k4 : o.kind = 4
  · rw [if_pos k4] at he2 ⊢
    by_cases h30 : pre.length + 1 = 30
    · rw [if_pos h30] at he2; cases he2
    · rw [if_neg h30]
      have := build [f, pushF f] (by simp) (fun g hg => by simp at hg; rcases hg with rfl | rfl; exact hfd; exact pushF_ok hfd) (by simp; omega)
      simpa using this
  rw [if_neg k4] at he2 ⊢
  by_cases h0 : pre.length = 0
  · rw [if_pos h0] at he2; cases he2
  · rw [if_neg h0]
    simp only [checkB, Bool.and_eq_true, decide_eq_true_eq, List.all_eq_true]
    exact ⟨⟨by omega, by omega⟩, hall⟩
theorem newM_ok : checkB newM = true := by decide +kernel
theorem playFrom_ok : ∀ {l : List OpM} {s : StM}, checkB s = true → checkB (playFrom s l).1 = true
  | [], _, h => h
  | o :: l, s, h => by
    simp only [playFrom]
    apply playFrom_ok
    split
    · rename_i he
      rw [playStep] at he ⊢
      by_cases hk : 1 ≤ o.kind ∧ o.kind ≤ 5
      · rw [if_pos hk] at he ⊢
        exact (doneM_ok hk (fun hh => by rw [condsOf, if_pos hh]) he).2
      · rw [if_neg hk] at he; cases he
    · exact h
end Go.Proofs.Ytjnckainogpenaa
end

section
/- The law TrapCatches, walked. -/
set_option linter.unusedVariables false
set_option linter.unusedSimpArgs false
set_option maxRecDepth 20000
set_option synthInstance.maxHeartbeats 400000
set_option synthInstance.maxSize 4000
namespace Go.Proofs.Ytjnckainogpenaa
open Go Q Go.RowKit

instance : Pu 12 #[] (.bool true) := ⟨fun z w => sane⟩
theorem V_rem {t : Nat} {a b : Int} {w : World} {K : Value → World → Prop} (ha : 0 ≤ a ∧ a ≤ 1000000) (hb : 0 < b ∧ b ≤ 1000000) (hk : K (.int .i64 (a % b)) w) : V (bi .rem t (.int .i64 a) (.int .i64 b)) w K := by
  refine ⟨_, w, ?_, hk⟩
  have h1 : a.tmod b = a % b := Int.tmod_eq_emod_of_nonneg ha.1
  have h2 : IntKind.i64.wrap (a % b) = a % b := wrap_in ⟨by have := Int.emod_nonneg a (show b ≠ 0 by omega); omega, by have := Int.emod_lt_of_pos a hb.1; omega⟩
  have h3 : ¬ (b = 0) := by omega
  simp [bi, binOp, Op.intDiv, h3, h1, h2]
theorem lawCatches {v : Value} {l : List OpM} {c : Int} {z : Z} {w : World} (hl : SlR El.op z v l) (hc : 0 ≤ c ∧ c ≤ 255) : Fn1 6 #[v, .int .u8 c] z w fun _ r => r = .bool true := Fn1.intro fun hS => en6 (by
  unfold vc6
  refine CV_1 (playedP hl) ?_
  rintro z1 w1 _ hle1 hS1 ⟨_, rfl, u, rfl, hu⟩
  obtain ⟨hb, a0, cap0, rfl, hcap, hel⟩ := hu.form
  (repeat (first | (refine iDr ?_; intro _ _) | refine V_run ?_ | refine PV_run ?_ | refine HV_run ?_ | refine iV_ld1 ?_ | refine iV_ldN ?_ | (refine iV_bx ?_; intro _ _ _ _) | (refine iV_al ?_; intro _ _ _ _) | (refine iV_mm ?_; intro _ _ _ _) | (refine iU_st ?_; intro _ _) | refine iHV_1 ?_ | refine iHV_N ?_ | refine iRI_1 ?_ | refine iRI_N ?_ | refine Cond_t ?_ | refine Cond_f ?_ | refine JB ?_ | (refine JC ?_; intro _ _ _ _) | (refine J1 ?_; intro _ _) | (refine J0 ?_; intro _ _) | (refine J2 ?_; intro _ _) | (refine J3 ?_; intro _ _) | (refine J4 ?_; intro _ _) | refine K1 ?_ | refine K0 ?_ | refine K2 ?_ | refine K3 ?_ | refine K4 ?_ | (refine CV_pu ?_; intro _ _ _ _) | refine fV_ldN ?_ | refine fV_ld1 ?_ | refine fHV_ldN ?_ | refine fHV_ld1 ?_ | refine NilW_some ?_ | refine iCW_1 ?_ | refine iCW_N ?_ | refine Pk_b ?_))
  refine Cond_n (fun hok => ?_) (fun hok => ?_)
  · (repeat (first | (refine iDr ?_; intro _ _) | refine V_run ?_ | refine PV_run ?_ | refine HV_run ?_ | refine iV_ld1 ?_ | refine iV_ldN ?_ | (refine iV_bx ?_; intro _ _ _ _) | (refine iV_al ?_; intro _ _ _ _) | (refine iV_mm ?_; intro _ _ _ _) | (refine iU_st ?_; intro _ _) | refine iHV_1 ?_ | refine iHV_N ?_ | refine iRI_1 ?_ | refine iRI_N ?_ | refine Cond_t ?_ | refine Cond_f ?_ | refine JB ?_ | (refine JC ?_; intro _ _ _ _) | (refine J1 ?_; intro _ _) | (refine J0 ?_; intro _ _) | (refine J2 ?_; intro _ _) | (refine J3 ?_; intro _ _) | (refine J4 ?_; intro _ _) | refine K1 ?_ | refine K0 ?_ | refine K2 ?_ | refine K3 ?_ | refine K4 ?_ | (refine CV_pu ?_; intro _ _ _ _) | refine fV_ldN ?_ | refine fV_ld1 ?_ | refine fHV_ldN ?_ | refine fHV_ld1 ?_ | refine NilW_some ?_ | refine iCW_1 ?_ | refine iCW_N ?_ | refine Pk_b ?_))
    exact ⟨_, _, ‹_›, rfl⟩
  · have hck : checkB (playedM l) = true := by rw [playedM, if_pos hok]; exact playFrom_ok newM_ok
    generalize playedM l = s at *
    obtain ⟨pre, f, rfl, h6, hp4, hpre, hfd, hlast, hdl⟩ := lastSplit hck
    have hl1 : (pre ++ [f]).length = pre.length + 1 := by simp
    obtain ⟨b, off, cs, rfl, ⟨v1, v2, rfl, hv1, hv2, hd⟩, hat⟩ := hel pre.length f (by simp)
    obtain ⟨_, a2, cap2, rfl, _, _⟩ := hv2.form
    haveI : InI (((pre ++ [f]).length : Int) - 1) := ⟨by rw [hl1]; omega⟩
    haveI : InR (((pre ++ [f]).length : Int) - 1) ((pre ++ [f]).length : Nat) := ⟨by rw [hl1]; omega, by rw [hl1]; omega⟩
    (repeat (first | (refine iDr ?_; intro _ _) | refine V_run ?_ | refine PV_run ?_ | refine HV_run ?_ | refine iV_ld1 ?_ | refine iV_ldN ?_ | (refine iV_bx ?_; intro _ _ _ _) | (refine iV_al ?_; intro _ _ _ _) | (refine iV_mm ?_; intro _ _ _ _) | (refine iU_st ?_; intro _ _) | refine iHV_1 ?_ | refine iHV_N ?_ | refine iRI_1 ?_ | refine iRI_N ?_ | refine Cond_t ?_ | refine Cond_f ?_ | refine JB ?_ | (refine JC ?_; intro _ _ _ _) | (refine J1 ?_; intro _ _) | (refine J0 ?_; intro _ _) | (refine J2 ?_; intro _ _) | (refine J3 ?_; intro _ _) | (refine J4 ?_; intro _ _) | refine K1 ?_ | refine K0 ?_ | refine K2 ?_ | refine K3 ?_ | refine K4 ?_ | (refine CV_pu ?_; intro _ _ _ _) | refine fV_ldN ?_ | refine fV_ld1 ?_ | refine fHV_ldN ?_ | refine fHV_ld1 ?_ | refine NilW_some ?_ | refine iCW_1 ?_ | refine iCW_N ?_ | refine Pk_b ?_))
    have hix : (((pre ++ [f]).length : Int) - 1).toNat = pre.length := by rw [hl1]; omega
    rw [hix]
    have hat1 : At z1 b (off + (pre.length * 5 + 1)) [.slice a2 f.pend.length cap2] := by
      obtain ⟨cc, cty, cfr, g1, g2⟩ := hat
      refine ⟨cc, cty, cfr, g1, fun j v hv => ?_⟩
      have := g2 (j + 1) v (by cases j with
        | zero => simpa using hv
        | succ j => simp at hv)
      rw [← this]
      congr 1
      show off + (pre.length * 5 + 1) + j = off + pre.length * 5 + (j + 1)
      omega
    refine zV_ld1 hat1 ?_
    (repeat (first | (refine iDr ?_; intro _ _) | refine V_run ?_ | refine PV_run ?_ | refine HV_run ?_ | refine iV_ld1 ?_ | refine iV_ldN ?_ | (refine iV_bx ?_; intro _ _ _ _) | (refine iV_al ?_; intro _ _ _ _) | (refine iV_mm ?_; intro _ _ _ _) | (refine iU_st ?_; intro _ _) | refine iHV_1 ?_ | refine iHV_N ?_ | refine iRI_1 ?_ | refine iRI_N ?_ | refine Cond_t ?_ | refine Cond_f ?_ | refine JB ?_ | (refine JC ?_; intro _ _ _ _) | (refine J1 ?_; intro _ _) | (refine J0 ?_; intro _ _) | (refine J2 ?_; intro _ _) | (refine J3 ?_; intro _ _) | (refine J4 ?_; intro _ _) | refine K1 ?_ | refine K0 ?_ | refine K2 ?_ | refine K3 ?_ | refine K4 ?_ | (refine CV_pu ?_; intro _ _ _ _) | refine fV_ldN ?_ | refine fV_ld1 ?_ | refine fHV_ldN ?_ | refine fHV_ld1 ?_ | refine NilW_some ?_ | refine iCW_1 ?_ | refine iCW_N ?_ | refine Pk_b ?_))
    refine Cond_d (fun hpn => ?_) (fun hpn => ?_)
    · (repeat (first | (refine iDr ?_; intro _ _) | refine V_run ?_ | refine PV_run ?_ | refine HV_run ?_ | refine iV_ld1 ?_ | refine iV_ldN ?_ | (refine iV_bx ?_; intro _ _ _ _) | (refine iV_al ?_; intro _ _ _ _) | (refine iV_mm ?_; intro _ _ _ _) | (refine iU_st ?_; intro _ _) | refine iHV_1 ?_ | refine iHV_N ?_ | refine iRI_1 ?_ | refine iRI_N ?_ | refine Cond_t ?_ | refine Cond_f ?_ | refine JB ?_ | (refine JC ?_; intro _ _ _ _) | (refine J1 ?_; intro _ _) | (refine J0 ?_; intro _ _) | (refine J2 ?_; intro _ _) | (refine J3 ?_; intro _ _) | (refine J4 ?_; intro _ _) | refine K1 ?_ | refine K0 ?_ | refine K2 ?_ | refine K3 ?_ | refine K4 ?_ | (refine CV_pu ?_; intro _ _ _ _) | refine fV_ldN ?_ | refine fV_ld1 ?_ | refine fHV_ldN ?_ | refine fHV_ld1 ?_ | refine NilW_some ?_ | refine iCW_1 ?_ | refine iCW_N ?_ | refine Pk_b ?_))
      exact ⟨_, _, ‹_›, rfl⟩
    · (repeat (first | (refine iDr ?_; intro _ _) | refine V_run ?_ | refine PV_run ?_ | refine HV_run ?_ | refine iV_ld1 ?_ | refine iV_ldN ?_ | (refine iV_bx ?_; intro _ _ _ _) | (refine iV_al ?_; intro _ _ _ _) | (refine iV_mm ?_; intro _ _ _ _) | (refine iU_st ?_; intro _ _) | refine iHV_1 ?_ | refine iHV_N ?_ | refine iRI_1 ?_ | refine iRI_N ?_ | refine Cond_t ?_ | refine Cond_f ?_ | refine JB ?_ | (refine JC ?_; intro _ _ _ _) | (refine J1 ?_; intro _ _) | (refine J0 ?_; intro _ _) | (refine J2 ?_; intro _ _) | (refine J3 ?_; intro _ _) | (refine J4 ?_; intro _ _) | refine K1 ?_ | refine K0 ?_ | refine K2 ?_ | refine K3 ?_ | refine K4 ?_ | (refine CV_pu ?_; intro _ _ _ _) | refine fV_ldN ?_ | refine fV_ld1 ?_ | refine fHV_ldN ?_ | refine fHV_ld1 ?_ | refine NilW_some ?_ | refine iCW_1 ?_ | refine iCW_N ?_ | refine Pk_b ?_))
      rw [wrap_in ⟨by omega, by omega⟩]
      refine V_rem (by omega) (by omega) ?_
      have hc0 : 0 ≤ c % 6 := Int.emod_nonneg c (by decide)
      have hc1 : c % 6 < 6 := Int.emod_lt_of_pos c (by decide)
      generalize c % 6 = d at *
      (repeat (first | (refine iDr ?_; intro _ _) | refine V_run ?_ | refine PV_run ?_ | refine HV_run ?_ | refine iV_ld1 ?_ | refine iV_ldN ?_ | (refine iV_bx ?_; intro _ _ _ _) | (refine iV_al ?_; intro _ _ _ _) | (refine iV_mm ?_; intro _ _ _ _) | (refine iU_st ?_; intro _ _) | refine iHV_1 ?_ | refine iHV_N ?_ | refine iRI_1 ?_ | refine iRI_N ?_ | refine Cond_t ?_ | refine Cond_f ?_ | refine JB ?_ | (refine JC ?_; intro _ _ _ _) | (refine J1 ?_; intro _ _) | (refine J0 ?_; intro _ _) | (refine J2 ?_; intro _ _) | (refine J3 ?_; intro _ _) | (refine J4 ?_; intro _ _) | refine K1 ?_ | refine K0 ?_ | refine K2 ?_ | refine K3 ?_ | refine K4 ?_ | (refine CV_pu ?_; intro _ _ _ _) | refine fV_ldN ?_ | refine fV_ld1 ?_ | refine fHV_ldN ?_ | refine fHV_ld1 ?_ | refine NilW_some ?_ | refine iCW_1 ?_ | refine iCW_N ?_ | refine Pk_b ?_))
      refine CV_1 (CatchesP (c := d) ⟨_, rfl, hu⟩) ?_
      rintro z3 w3 _ hle3 hS3 rfl
      dsimp only [AcM.v] at *
      (repeat (first | (refine iDr ?_; intro _ _) | refine V_run ?_ | refine PV_run ?_ | refine HV_run ?_ | refine iV_ld1 ?_ | refine iV_ldN ?_ | (refine iV_bx ?_; intro _ _ _ _) | (refine iV_al ?_; intro _ _ _ _) | (refine iV_mm ?_; intro _ _ _ _) | (refine iU_st ?_; intro _ _) | refine iHV_1 ?_ | refine iHV_N ?_ | refine iRI_1 ?_ | refine iRI_N ?_ | refine Cond_t ?_ | refine Cond_f ?_ | refine JB ?_ | (refine JC ?_; intro _ _ _ _) | (refine J1 ?_; intro _ _) | (refine J0 ?_; intro _ _) | (refine J2 ?_; intro _ _) | (refine J3 ?_; intro _ _) | (refine J4 ?_; intro _ _) | refine K1 ?_ | refine K0 ?_ | refine K2 ?_ | refine K3 ?_ | refine K4 ?_ | (refine CV_pu ?_; intro _ _ _ _) | refine fV_ldN ?_ | refine fV_ld1 ?_ | refine fHV_ldN ?_ | refine fHV_ld1 ?_ | refine NilW_some ?_ | refine iCW_1 ?_ | refine iCW_N ?_ | refine Pk_b ?_))
      refine CV_1 (RaiseP (c := d) ⟨_, rfl, hu.mono hle3⟩ emptySm) ?_
      rintro z4 w4 _ hle4 hS4 ⟨_, rfl, u4, rfl, hu4⟩
      obtain ⟨_, a4, cap4, rfl, _, _⟩ := hu4.form
      dsimp only [AcM.v] at *
      (repeat (first | (refine iDr ?_; intro _ _) | refine V_run ?_ | refine PV_run ?_ | refine HV_run ?_ | refine iV_ld1 ?_ | refine iV_ldN ?_ | (refine iV_bx ?_; intro _ _ _ _) | (refine iV_al ?_; intro _ _ _ _) | (refine iV_mm ?_; intro _ _ _ _) | (refine iU_st ?_; intro _ _) | refine iHV_1 ?_ | refine iHV_N ?_ | refine iRI_1 ?_ | refine iRI_N ?_ | refine Cond_t ?_ | refine Cond_f ?_ | refine JB ?_ | (refine JC ?_; intro _ _ _ _) | (refine J1 ?_; intro _ _) | (refine J0 ?_; intro _ _) | (refine J2 ?_; intro _ _) | (refine J3 ?_; intro _ _) | (refine J4 ?_; intro _ _) | refine K1 ?_ | refine K0 ?_ | refine K2 ?_ | refine K3 ?_ | refine K4 ?_ | (refine CV_pu ?_; intro _ _ _ _) | refine fV_ldN ?_ | refine fV_ld1 ?_ | refine fHV_ldN ?_ | refine fHV_ld1 ?_ | refine NilW_some ?_ | refine iCW_1 ?_ | refine iCW_N ?_ | refine Pk_b ?_))
      have hlaw := catches_law (c := d) hck (by rw [hlast]; exact List.eq_nil_of_length_eq_zero (by omega)) hc0 hc1
      rw [catchLaw] at hlaw
      refine Cond_b (fun hq => ?_) (fun hq => ?_)
      · have hq' : (doneM (pre ++ [f]) (raiseO d ⟨#[]⟩) [d]).e = 0 ∧ (doneM (pre ++ [f]) (raiseO d ⟨#[]⟩) [d]).a.kind = 0 := by
          simp only [cond_eq_ite] at hq
          by_cases e : (doneM (pre ++ [f]) (raiseO d ⟨#[]⟩) [d]).e = 0 <;> simp [e] at hq ⊢
          exact hq
        rw [if_pos hq'] at hlaw
        (repeat (first | (refine iDr ?_; intro _ _) | refine V_run ?_ | refine PV_run ?_ | refine HV_run ?_ | refine iV_ld1 ?_ | refine iV_ldN ?_ | (refine iV_bx ?_; intro _ _ _ _) | (refine iV_al ?_; intro _ _ _ _) | (refine iV_mm ?_; intro _ _ _ _) | (refine iU_st ?_; intro _ _) | refine iHV_1 ?_ | refine iHV_N ?_ | refine iRI_1 ?_ | refine iRI_N ?_ | refine Cond_t ?_ | refine Cond_f ?_ | refine JB ?_ | (refine JC ?_; intro _ _ _ _) | (refine J1 ?_; intro _ _) | (refine J0 ?_; intro _ _) | (refine J2 ?_; intro _ _) | (refine J3 ?_; intro _ _) | (refine J4 ?_; intro _ _) | refine K1 ?_ | refine K0 ?_ | refine K2 ?_ | refine K3 ?_ | refine K4 ?_ | (refine CV_pu ?_; intro _ _ _ _) | refine fV_ldN ?_ | refine fV_ld1 ?_ | refine fHV_ldN ?_ | refine fHV_ld1 ?_ | refine NilW_some ?_ | refine iCW_1 ?_ | refine iCW_N ?_ | refine Pk_b ?_))
        refine CV_1 (EndClauseP ⟨_, rfl, hu4.mono ‹Le z4 _›⟩) ?_
        rintro z5 w5 _ hle5 hS5 ⟨_, rfl, u5, rfl, hu5⟩
        dsimp only [AcM.v] at *
        (repeat (first | (refine iDr ?_; intro _ _) | refine V_run ?_ | refine PV_run ?_ | refine HV_run ?_ | refine iV_ld1 ?_ | refine iV_ldN ?_ | (refine iV_bx ?_; intro _ _ _ _) | (refine iV_al ?_; intro _ _ _ _) | (refine iV_mm ?_; intro _ _ _ _) | (refine iU_st ?_; intro _ _) | refine iHV_1 ?_ | refine iHV_N ?_ | refine iRI_1 ?_ | refine iRI_N ?_ | refine Cond_t ?_ | refine Cond_f ?_ | refine JB ?_ | (refine JC ?_; intro _ _ _ _) | (refine J1 ?_; intro _ _) | (refine J0 ?_; intro _ _) | (refine J2 ?_; intro _ _) | (refine J3 ?_; intro _ _) | (refine J4 ?_; intro _ _) | refine K1 ?_ | refine K0 ?_ | refine K2 ?_ | refine K3 ?_ | refine K4 ?_ | (refine CV_pu ?_; intro _ _ _ _) | refine fV_ldN ?_ | refine fV_ld1 ?_ | refine fHV_ldN ?_ | refine fHV_ld1 ?_ | refine NilW_some ?_ | refine iCW_1 ?_ | refine iCW_N ?_ | refine Pk_b ?_))
        exact ⟨_, _, ‹_›, by rw [hlaw]; simp⟩
      · have hq' : ¬ ((doneM (pre ++ [f]) (raiseO d ⟨#[]⟩) [d]).e = 0 ∧ (doneM (pre ++ [f]) (raiseO d ⟨#[]⟩) [d]).a.kind = 0) := by
          simp only [cond_eq_ite] at hq
          by_cases e : (doneM (pre ++ [f]) (raiseO d ⟨#[]⟩) [d]).e = 0 <;> simp [e] at hq ⊢
          exact hq
        rw [if_neg hq'] at hlaw
        (repeat (first | (refine iDr ?_; intro _ _) | refine V_run ?_ | refine PV_run ?_ | refine HV_run ?_ | refine iV_ld1 ?_ | refine iV_ldN ?_ | (refine iV_bx ?_; intro _ _ _ _) | (refine iV_al ?_; intro _ _ _ _) | (refine iV_mm ?_; intro _ _ _ _) | (refine iU_st ?_; intro _ _) | refine iHV_1 ?_ | refine iHV_N ?_ | refine iRI_1 ?_ | refine iRI_N ?_ | refine Cond_t ?_ | refine Cond_f ?_ | refine JB ?_ | (refine JC ?_; intro _ _ _ _) | (refine J1 ?_; intro _ _) | (refine J0 ?_; intro _ _) | (refine J2 ?_; intro _ _) | (refine J3 ?_; intro _ _) | (refine J4 ?_; intro _ _) | refine K1 ?_ | refine K0 ?_ | refine K2 ?_ | refine K3 ?_ | refine K4 ?_ | (refine CV_pu ?_; intro _ _ _ _) | refine fV_ldN ?_ | refine fV_ld1 ?_ | refine fHV_ldN ?_ | refine fHV_ld1 ?_ | refine NilW_some ?_ | refine iCW_1 ?_ | refine iCW_N ?_ | refine Pk_b ?_))
        exact ⟨_, _, ‹_›, by rw [hlaw]; simp⟩)
end Go.Proofs.Ytjnckainogpenaa
end

section
/- What the form's readings of arguments give: slices that read as lists. -/
set_option linter.unusedVariables false
set_option maxRecDepth 20000
namespace Go.Proofs.Ytjnckainogpenaa
open Go Q Go.RowKit Go.ChangeShapes Go.WideShapes

theorem at_of_cells {w : World} {base n : Nat} {a : Addr} {cs : List Value} (h : w.cells? base a n = some cs) (hn : 0 < n) : a.spot = none ∧ cs.length = n ∧ At (hp w) a.block a.off cs := by
  obtain ⟨_, hl, hc⟩ := World.cells?_some h
  have h0 := hc 0 hn
  rw [addr_add0] at h0
  have hlt : 0 < cs.length := by omega
  rw [List.getElem?_eq_getElem hlt] at h0
  unfold World.cell? at h0
  split at h0
  · rename_i c ty fr hb
    have hs : a.spot = none := by
      cases hsp : a.spot with
      | none => rfl
      | some x => rw [hsp] at h0; simp at h0
    refine ⟨hs, hl, c, ty, fr, hb, fun j v hv => ?_⟩
    have hj := (List.getElem?_eq_some_iff.1 hv).1
    have := hc j (by omega)
    obtain ⟨ab, ao, asp⟩ := a
    simp only at hs hb
    subst hs
    rw [add_addr, hv] at this
    unfold World.cell? at this
    simp only [hb, Option.isSome_none] at this
    simpa using this
  · cases h0
section
variable {H : Type} {enc : TypeId × Value → H} {w : World} {base : Nat} {spare : Nat → Bool} {held : Bool}
/-- The part of a struct's cells that a field is. -/
theorem field_of {t : TypeId} {fs : List (Nat × Nat)} [g : TyEqS t fs] (hu : Try.prog.underlying t = some (.struct (fieldsOf t))) {i ty off : Nat} (hi : ((fieldsOf t).toList.map fun f => (f.type, f.offset))[i]? = some (ty, off)) : ∃ f, (fieldsOf t)[i]? = some f ∧ f.type = ty ∧ f.offset = off := by
  rw [List.getElem?_map] at hi
  obtain ⟨f, h1, h2⟩ := Option.map_eq_some_iff.1 hi
  simp only [Prod.mk.injEq] at h2
  exact ⟨f, by simpa using h1, h2.1, h2.2⟩
theorem op_read {n : Nat} {cs : List Value} {x : DataW H × List MemPlace} (h : DataW.trod enc Try.prog w base spare held n 25 cs = some x) : ∃ o : OpM, cs = o.cells ∧ o.text.size ≤ maxLen := by
  have hu : Try.prog.underlying 25 = some (.struct (fieldsOf 25)) := by kernel_rfl
  obtain ⟨xs, m, _, _, hl, hxl, hf⟩ := DataW.trod_struct hu h
  have hc4 : Try.prog.cellsOf 25 = 4 := by kernel_rfl
  rw [hc4] at hl
  obtain ⟨f0, a1, a2, a3⟩ := field_of hu (i := 0) (ty := 3) (off := 0) (by kernel_rfl)
  obtain ⟨f1, b1, b2, b3⟩ := field_of hu (i := 1) (ty := 3) (off := 1) (by kernel_rfl)
  obtain ⟨f2, c1, c2, c3⟩ := field_of hu (i := 2) (ty := 3) (off := 2) (by kernel_rfl)
  obtain ⟨f3, d1, d2, d3⟩ := field_of hu (i := 3) (ty := 9) (off := 3) (by kernel_rfl)
  have h0 := hf 0 f0 a1
  have h1 := hf 1 f1 b1
  have h2 := hf 2 f2 c1
  have h3 := hf 3 f3 d1
  have hsz : (fieldsOf 25).size = 4 := by kernel_rfl
  rw [hsz] at hxl
  rw [a2, a3] at h0
  rw [b2, b3] at h1
  rw [c2, c3] at h2
  rw [d2, d3] at h3
  have e3 : Try.prog.cellsOf 3 = 1 := by kernel_rfl
  have e9 : Try.prog.cellsOf 9 = 1 := by kernel_rfl
  rw [e3] at h0 h1 h2
  rw [e9] at h3
  have u3 : Try.prog.underlying 3 = some (.int .i64) := by kernel_rfl
  have u9 : Try.prog.underlying 9 = some .string := by kernel_rfl
  match xs, hxl, cs, hl with
  | [x0, x1, x2, x3], _, [v0, v1, v2, v3], _ =>
    obtain ⟨n0, g0, _⟩ := DataW.trod_int u3 (x := x0) (by simpa using h0)
    obtain ⟨n1, g1, _⟩ := DataW.trod_int u3 (x := x1) (by simpa using h1)
    obtain ⟨n2, g2, _⟩ := DataW.trod_int u3 (x := x2) (by simpa using h2)
    obtain ⟨s, g3, _, hs⟩ := DataW.trod_string u9 (x := x3) (by simpa using h3)
    simp at g0 g1 g2 g3
    subst g0; subst g1; subst g2; subst g3
    exact ⟨⟨n0, n1, n2, s⟩, rfl, hs⟩
theorem ops_read {n : Nat} {v : Value} {x : DataW H × List MemPlace} (h : DataW.trod enc Try.prog w base spare held n 22 [v] = some x) : ∃ l : List OpM, SlR El.op (hp w) v l := by
  have u22 : Try.prog.underlying 22 = some (.slice 25) := by kernel_rfl
  have hc4 : Try.prog.cellsOf 25 = 4 := by kernel_rfl
  rcases Go.Deep.open_slice u22 h with ⟨h0, _⟩ | ⟨a, len, cap, m, n', D, Pl, h0, hb, hlc, hcm, hm, _, hel⟩
  · simp at h0; subst h0; exact ⟨[], SlR.nil⟩
  · simp at h0; subst h0
    rw [hc4] at hel
    have hlm : len ≤ m := by rw [hm]; split <;> omega
    have key : ∀ i, i < len → ∃ o : OpM, o.text.size ≤ maxLen ∧ (i = 0 → a.spot = none) ∧ At (hp w) a.block (a.off + i * 4) o.cells := fun i hi => by
      obtain ⟨cs, h1, h2⟩ := hel i (by omega)
      obtain ⟨o, rfl, ho⟩ := op_read h2
      obtain ⟨g1, g2, g3⟩ := at_of_cells h1 (by decide)
      obtain ⟨ab, ao, asp⟩ := a
      unfold Addr.add at g1 g3
      by_cases hz : i * 4 = 0
      · simp only [hz, if_true] at g1 g3
        exact ⟨o, ho, fun _ => g1, by rw [hz]; exact g3⟩
      · simp only [hz, if_false] at g1 g3
        exact ⟨o, ho, fun h0 => absurd (by rw [h0]) hz, g3⟩
    classical
    let f : Nat → OpM := fun i => if hi : i < len then Classical.choose (key i hi) else ⟨0, 0, 0, ⟨#[]⟩⟩
    have hf : ∀ i, i < len → (f i).text.size ≤ maxLen ∧ (i = 0 → a.spot = none) ∧ At (hp w) a.block (a.off + i * 4) (f i).cells := fun i hi => by
      simp only [f, dif_pos hi]; exact Classical.choose_spec (key i hi)
    refine ⟨(List.range len).map f, some a, cap, by simp, by simpa using hlc, by simp only [List.length_map, List.length_range, big]; simp only [maxLen] at hcm; omega, fun hn => ?_⟩
    have hpos : 0 < len := by
      rcases Nat.eq_zero_or_pos len with h0 | h0
      · subst h0; simp at hn
      · exact h0
    obtain ⟨ab, ao, asp⟩ := a
    have hsp := (hf 0 hpos).2.1 rfl
    simp only at hsp
    subst hsp
    refine ⟨ab, ao, rfl, fun i x hx => ?_⟩
    rw [List.getElem?_map] at hx
    obtain ⟨k, h1, rfl⟩ := Option.map_eq_some_iff.1 hx
    have hk := List.getElem?_eq_some_iff.1 h1
    obtain ⟨hlt, rfl⟩ := hk
    simp only [List.getElem_range, List.length_range] at hlt ⊢
    exact ⟨_, ⟨rfl, (hf i hlt).1⟩, (hf i hlt).2.2⟩
end
end Go.Proofs.Ytjnckainogpenaa
end

section
/- From a law's contract to its row: what all rows of this seat have in common. -/
set_option linter.unusedVariables false
set_option maxRecDepth 100000
namespace Go.Proofs.Ytjnckainogpenaa
open Go Q Go.RowKit Go.ChangeShapes Go.WideShapes Go.ChangeAt

theorem ownK : ownKnob Try.prog.godebug = none := by kernel_rfl
theorem laidOutP : laidOutB Try.prog = true := by kernel_rfl
theorem own_start (w : World) : Own w (hp w) [] := Own.mk' (fun _ _ h => h) (fun _ h => by cases h) List.nodup_nil
theorem u4 : Try.prog.underlying 4 = some .bool := by kernel_rfl
theorem u5 : Try.prog.underlying 5 = some (.int .u8) := by kernel_rfl
theorem u3 : Try.prog.underlying 3 = some (.int .i64) := by kernel_rfl
theorem u9 : Try.prog.underlying 9 = some .string := by kernel_rfl
theorem u22 : Try.prog.underlying 22 = some (.slice 25) := by kernel_rfl
section
variable {H : Type} {enc : TypeId × Value → H} {P : Program}
/-- What makes a reading stay. -/
def Stays (P : Program) (t : TypeId) : Prop := P.readableRec t = true ∧ t < P.types.size
theorem trodAll_stays (hl : laidOutB P = true) {W W' : World} {sp : Nat → Bool} (hB : Below W.heap.size W W') :
    ∀ {ts : List TypeId} {vs : List Value} {ds : List (DataW H)} {ps : List MemPlace}, (∀ t ∈ ts, Stays P t) → DataW.TrodAll enc P W 0 (fun _ => true) true ts vs ds ps → (∀ p ∈ ps, p.block < W.heap.size) → (∀ p ∈ ps, sp p.block = true) → DataW.TrodAll enc P W' 0 sp true ts vs ds ps
  | [], [], [], _, _, h, _, _ => h
  | _ :: _, _ :: _, _ :: _, _, hT, ⟨p, q, h1, h2, e⟩, hlt, hs => ⟨p, q,
      WideElems.Trod_stays hl (hT _ List.mem_cons_self).1 (hT _ List.mem_cons_self).2 h1 (fun x hx => hB.same (hlt x (by rw [e]; exact List.mem_append_left _ hx))) (fun x hx => hs x (by rw [e]; exact List.mem_append_left _ hx)),
      trodAll_stays hl hB (fun t ht => hT t (List.mem_cons_of_mem _ ht)) h2 (fun x hx => hlt x (by rw [e]; exact List.mem_append_right _ hx)) (fun x hx => hs x (by rw [e]; exact List.mem_append_right _ hx)), e⟩
/-- A law's answer: true, and all arguments as they were. -/
theorem post_law (hl : laidOutB P = true) {f : Func} {s : ChangeSpec} {apart fresh handsOn again : Bool} {W W' : World} {args : Array Value} {ds gs : List (DataW H)} {before : List MemPlace} {tb : TypeId}
    (hW : DataW.Whole enc P f.params.toList s.vars apart W args.toList ds gs before) (hB : Below W.heap.size W W')
    (hr : f.resultTypes = #[tb]) (hu : P.underlying tb = some .bool) (hT : ∀ t ∈ f.params.toList, Stays P t) (hv : s.vars = [])
    (h1 : (s.fn H (ds ++ gs)).results = [.lit (.bool true)]) (h2 : (s.fn H (ds ++ gs)).args = ds) (h3 : (s.fn H (ds ++ gs)).vars = []) :
    s.post enc P f apart fresh handsOn again W args (.bool true) W' := by
  have hlt := hW.lt
  obtain ⟨pa, pv, hA, hV, rfl, hz, hn⟩ := id hW
  rw [hv] at hV
  obtain ⟨rfl, rfl⟩ := trodVars_none hV
  have hargs : ∀ sp : Nat → Bool, (∀ p ∈ pa, sp p.block = true) → DataW.TrodAll enc P W' 0 sp true f.params.toList args.toList (s.fn H (ds ++ [])).args pa := fun sp hsp => by
    rw [h2]; exact trodAll_stays hl hB hT hA (fun p hp => hlt p (by simpa using hp)) hsp
  have hres : ∀ (b : Nat) (sp : Nat → Bool) (hd : Bool), DataW.TrodAll enc P W' b sp hd f.resultTypes.toList ((Value.bool true).resultList f.resultTypes.size) (s.fn H (ds ++ [])).results [] := fun b sp hd => by
    rw [h1, hr]; exact trodAll_cons_mk (shut_bool hu _) trodAll_mk0
  have hvars : ∀ sp : Nat → Bool, DataW.TrodVars enc P W' sp s.vars (s.fn H (ds ++ [])).vars [] := fun sp => by rw [hv, h3]; rfl
  have hold : ∀ p ∈ pa, (fun b => decide (b < W.heap.size)) p.block = true := fun p hp => by simpa using hlt p (by simpa using hp)
  refine ⟨ds, [], pa ++ [], [], pa, [], hW, hres _ _ _, hargs _ hold, hvars _, hB.frame _, fun _ => ⟨?_, _, _, ([] ++ pa) ++ [], ⟨[] ++ pa, [], trodAll_append (hargs _ (fun _ _ => rfl)) (hres _ _ _), hvars _, rfl, ?_, ?_⟩, ?_⟩⟩
  · exact ok_one hr rfl (okWide_bool_mk hu _)
  · intro b off hp
    have hp' : MemPlace.cell b off ∈ pa ++ [] := by simpa using hp
    rw [hB.frozen (p := ⟨b, off, none⟩) (hlt _ hp')]
    exact hz b off hp'
  · intro ha
    simpa using hn ha
  · intro p hp _
    simpa using hp
end
/-- A contract that answers true, over a reading. -/
theorem post_fn1 {H : Type} {enc : TypeId × Value → H} {k : FuncId} {f : Func} {s : ChangeSpec} {apart fresh handsOn again : Bool} {W : World} {args : Array Value} {ds gs : List (DataW H)} {before : List MemPlace}
    (hW : DataW.Whole enc Try.prog f.params.toList s.vars apart W args.toList ds gs before)
    (hc : Fn1 k args (hp W) W fun _ r => r = .bool true)
    (hr : f.resultTypes = #[4]) (hT : ∀ t ∈ f.params.toList, Stays Try.prog t) (hv : s.vars = [])
    (h1 : (s.fn H (ds ++ gs)).results = [.lit (.bool true)]) (h2 : (s.fn H (ds ++ gs)).args = ds) (h3 : (s.fn H (ds ++ gs)).vars = []) :
    Calls Try.prog k args W fun e W' => ∃ v, e = .returned v ∧ s.post enc Try.prog f apart fresh handsOn again W args v W' := by
  refine (hc (own_start W)).mono fun e W' he => ?_
  cases e with
  | returned v =>
    obtain ⟨z', hR, rfl⟩ := he
    exact ⟨_, rfl, post_law laidOutP hW hR.below hr u4 hT hv h1 h2 h3⟩
  | _ => exact he.elim
theorem stays22 : Stays Try.prog 22 := ⟨by kernel_rfl, of_decide_eq_true (by kernel_rfl)⟩
theorem stays5 : Stays Try.prog 5 := ⟨by kernel_rfl, of_decide_eq_true (by kernel_rfl)⟩
end Go.Proofs.Ytjnckainogpenaa
end

section
/- More readings of arguments. -/
set_option linter.unusedVariables false
set_option maxRecDepth 20000
namespace Go.Proofs.Ytjnckainogpenaa
open Go Q Go.RowKit Go.ChangeShapes Go.WideShapes
theorem stays9 : Stays Try.prog 9 := ⟨by kernel_rfl, of_decide_eq_true (by kernel_rfl)⟩
theorem stays4 : Stays Try.prog 4 := ⟨by kernel_rfl, of_decide_eq_true (by kernel_rfl)⟩
theorem stays3 : Stays Try.prog 3 := ⟨by kernel_rfl, of_decide_eq_true (by kernel_rfl)⟩
theorem stays28 : Stays Try.prog 28 := ⟨by kernel_rfl, of_decide_eq_true (by kernel_rfl)⟩
end Go.Proofs.Ytjnckainogpenaa
end

section
/- Plain laws: the steps of a valid state, one by one; the cases of the end of a clause. -/
set_option linter.unusedVariables false
set_option linter.unusedSimpArgs false
set_option maxRecDepth 20000
namespace Go.Proofs.Ytjnckainogpenaa
open Go Q Go.RowKit

section
variable {w0 w : World} {z0 z z1 : Z} {B0 L : Bl} {b : Nat}
theorem At.fld {h : Nat → Option Obj} {off i o : Nat} {v : Value} {vs : List Value} (ha : At h b off vs) (hv : vs[i]? = some v) (ho : o = off + i) : At h b o [v] := by
  obtain ⟨c, ty, fr, g1, g2⟩ := ha
  refine ⟨c, ty, fr, g1, fun j u hu => ?_⟩
  cases j with
  | zero => simp at hu; subst hu; subst ho; exact g2 i v hv
  | succ j => simp at hu
/-- A field of a struct in frozen memory. -/
theorem zV_fld [hS : Res w0 z0 B0 w z L] {K : Value → World → Prop} {t : TypeId} [g : TyOne t] {off i o : Nat} {v : Value} {vs : List Value} (ha : At z1 b off vs) (hz : Le z1 z) (hv : vs[i]? = some v) (ho : o = off + i) (hk : K v w) : V (ld t (.pointer (some ⟨b, o, none⟩))) w K := zV_ld1 ((ha.mono hz).fld hv ho) hk
theorem zHV_fld [hS : Res w0 z0 B0 w z L] {K : Value → Prop} {t : TypeId} [g : TyOne t] {off i o : Nat} {v : Value} {vs : List Value} (ha : At z1 b off vs) (hz : Le z1 z) (hv : vs[i]? = some v) (ho : o = off + i) (hk : K v) : HV (ld t (.pointer (some ⟨b, o, none⟩))) w K := zHV_ld1 ((ha.mono hz).fld hv ho) hk
theorem zV_row [hS : Res w0 z0 B0 w z L] {K : Value → World → Prop} {t n : TypeId} [g : TyAgg t n] [gs : TySize t n] {off o : Nat} {vs : List Value} (ha : At z1 b off vs) (hz : Le z1 z) (hl : vs.length = n) (ho : o = off) (hk : K (.agg vs.toArray) w) : V (ld t (.pointer (some ⟨b, o, none⟩))) w K := zV_ldN (by subst ho; exact ha.mono hz) hl hk
end
/-- The trap of a pending condition is off or delayed. -/
def offT (f : FrM) (r : RaM) : Prop := (f.tr r.cond).mode = 0 ∨ (f.tr r.cond).delayed = true
theorem endM_cases (n : Nat) (f : FrM) : ∀ l : List RaM, ((∀ r ∈ l, offT f r) ∧ endM n f l = ⟨noAct, 0, [{ f with pend := [] }]⟩) ∨ ∃ l1 r l2, l = l1 ++ r :: l2 ∧ (∀ x ∈ l1, offT f x) ∧ ¬ offT f r ∧
    endM n f l = (if (f.tr r.cond).mode = 1 then ⟨sigA f r.cond r.desc, 0, [sigF f r.cond r.desc]⟩ else if n = 30 then ⟨noAct, 14, []⟩ else ⟨⟨2, (f.tr r.cond).label, r.cond, r.desc⟩, 0, callF f r l2⟩)
  | [] => .inl ⟨fun _ h => (by cases h), rfl⟩
  | r :: l => by
    simp only [endM]
    by_cases h : (f.tr r.cond).mode = 0 ∨ (f.tr r.cond).delayed = true
    · rw [if_pos h]
      rcases endM_cases n f l with ⟨h1, h2⟩ | ⟨l1, r', l2, rfl, h1, h2, h3⟩
      · exact .inl ⟨fun x hx => by rcases List.mem_cons.1 hx with rfl | hx; exact h; exact h1 x hx, h2⟩
      · exact .inr ⟨r :: l1, r', l2, rfl, fun x hx => by rcases List.mem_cons.1 hx with rfl | hx; exact h; exact h1 x hx, h2, h3⟩
    · rw [if_neg h]
      exact .inr ⟨[], r, l, rfl, fun x hx => (by cases hx), h, rfl⟩
section
variable {pre : StM} {f : FrM}
theorem open0 (hck : checkB (pre ++ [f]) = true) : openE (pre ++ [f]) [] = 0 := by simp [openE, hck]
theorem open1 (hck : checkB (pre ++ [f]) = true) {c : Int} (h0 : 0 ≤ c) (h1 : c < 6) : openE (pre ++ [f]) [c] = 0 := by simp [openE, hck, cond, h0, h1]
theorem endStep (hck : checkB (pre ++ [f]) = true) : doneM (pre ++ [f]) endO [] = if (endM (pre.length + 1) f f.pend).e ≠ 0 then ⟨(endM (pre.length + 1) f f.pend).e, noAct, []⟩ else ⟨0, (endM (pre.length + 1) f f.pend).a, pre ++ (endM (pre.length + 1) f f.pend).top⟩ := by
  have hl : lastF (pre ++ [f]) = f := by simp [lastF]
  have hop : opM (pre ++ [f]) endO = ⟨(endM (pre.length + 1) f f.pend).e, (endM (pre.length + 1) f f.pend).a, pre ++ (endM (pre.length + 1) f f.pend).top⟩ := by
    simp [opM, endO, hl]
  rw [doneM, if_neg (by simp [open0 hck]), hop]
  by_cases he : (endM (pre.length + 1) f f.pend).e = 0
  · simp only [he, ne_eq, not_true_eq_false, if_false]
  · simp only [ne_eq, he, not_false_eq_true, if_true]
theorem backStep (hck : checkB (pre ++ [f]) = true) : doneM (pre ++ [f]) backO [] = if pre = [] then ⟨12, noAct, []⟩ else ⟨0, noAct, pre⟩ := by
  have hl : lastF (pre ++ [f]) = f := by simp [lastF]
  have hop : opM (pre ++ [f]) backO = if pre.length = 0 then ⟨12, noAct, []⟩ else ⟨0, noAct, pre⟩ := by
    simp [opM, backO, hl]
  rw [doneM, if_neg (by simp [open0 hck]), hop]
  by_cases h : pre = []
  · subst h; simp
  · simp [h]
theorem callStep (hck : checkB (pre ++ [f]) = true) : doneM (pre ++ [f]) callO [] = if pre.length = 29 then ⟨14, noAct, []⟩ else ⟨0, noAct, pre ++ [f, pushF f]⟩ := by
  have hl : lastF (pre ++ [f]) = f := by simp [lastF]
  have hop : opM (pre ++ [f]) callO = if pre.length = 29 then ⟨14, noAct, []⟩ else ⟨0, noAct, pre ++ [f, pushF f]⟩ := by
    simp [opM, callO, hl]
  rw [doneM, if_neg (by simp [open0 hck]), hop]
  by_cases h : pre.length = 29 <;> simp [h]
theorem raiseStep (hck : checkB (pre ++ [f]) = true) {c : Int} {d : ByteArray} (h0 : 0 ≤ c) (h1 : c < 6) : doneM (pre ++ [f]) (raiseO c d) [c] = if descB d = true then ⟨0, raiseA f c d, pre ++ [raiseF f c d]⟩ else ⟨1, noAct, []⟩ := by
  have hl : lastF (pre ++ [f]) = f := by simp [lastF]
  have hop : opM (pre ++ [f]) (raiseO c d) = if descB d = true then ⟨0, raiseA f c d, pre ++ [raiseF f c d]⟩ else ⟨1, noAct, []⟩ := by
    simp [opM, raiseO, hl]
  rw [doneM, if_neg (by simp [open1 hck h0 h1]), hop]
  by_cases h : descB d = true <;> simp [h]
theorem setStep (hck : checkB (pre ++ [f]) = true) {c m : Int} {t : ByteArray} (h0 : 0 ≤ c) (h1 : c < 6) : doneM (pre ++ [f]) (setO c m t) [c] = if setOk c m t = true then ⟨0, noAct, pre ++ [f.put c (setT (f.tr c) c m t)]⟩ else ⟨1, noAct, []⟩ := by
  have hl : lastF (pre ++ [f]) = f := by simp [lastF]
  have hop : opM (pre ++ [f]) (setO c m t) = if setOk c m t = true then ⟨0, noAct, pre ++ [f.put c (setT (f.tr c) c m t)]⟩ else ⟨1, noAct, []⟩ := by
    simp [opM, setO, hl]
  rw [doneM, if_neg (by simp [open1 hck h0 h1]), hop]
  by_cases h : setOk c m t = true <;> simp [h]
theorem checkB_parts : checkB (pre ++ [f]) = true ↔ (∀ g ∈ pre, framedB g = true) ∧ framedB f = true ∧ pre.length ≤ 29 := by
  simp only [checkB, Bool.and_eq_true, decide_eq_true_eq, List.all_eq_true, List.length_append, List.length_singleton]
  constructor
  · intro h
    exact ⟨fun g hg => h.2 g (List.mem_append_left _ hg), h.2 f (by simp), by omega⟩
  · intro h
    refine ⟨⟨by omega, by omega⟩, fun x hx => ?_⟩
    rcases List.mem_append.1 hx with hx | hx
    · exact h.1 x hx
    · simp only [List.mem_singleton] at hx; subst hx; exact h.2.1
/-- The activation that calls a handler, and the handler's. -/
def callA (f : FrM) (l : List RaM) : FrM := { f with pend := l }
def callB (f : FrM) (r : RaM) : FrM := { traps := f.traps.set r.cond.toNat { f.tr r.cond with delayed := true }, pend := [], info := ⟨r.cond, 2, r.desc⟩ }
theorem callF_eq (f : FrM) (r : RaM) (l : List RaM) : pre ++ callF f r l = (pre ++ [callA f l]) ++ [callB f r] := by simp [callF, callA, callB]
/-- What the end of a clause does to a valid state. -/
inductive EndC (pre : StM) (f : FrM) (m : StepM) : Prop
  | none (h : ∀ r ∈ f.pend, offT f r) (hm : m = ⟨0, noAct, pre ++ [{ f with pend := [] }]⟩)
  | sig (l1 l2 : List RaM) (r : RaM) (hl : f.pend = l1 ++ r :: l2) (h1 : ∀ x ∈ l1, offT f x) (h2 : ¬ offT f r) (h3 : (f.tr r.cond).mode = 1) (hm : m = ⟨0, sigA f r.cond r.desc, pre ++ [sigF f r.cond r.desc]⟩)
  | full (l1 l2 : List RaM) (r : RaM) (hl : f.pend = l1 ++ r :: l2) (h1 : ∀ x ∈ l1, offT f x) (h2 : ¬ offT f r) (h3 : (f.tr r.cond).mode ≠ 1) (h4 : pre.length = 29) (hm : m = ⟨14, noAct, []⟩)
  | call (l1 l2 : List RaM) (r : RaM) (hl : f.pend = l1 ++ r :: l2) (h1 : ∀ x ∈ l1, offT f x) (h2 : ¬ offT f r) (h3 : (f.tr r.cond).mode ≠ 1) (h4 : pre.length < 29) (hm : m = ⟨0, ⟨2, (f.tr r.cond).label, r.cond, r.desc⟩, (pre ++ [callA f l2]) ++ [callB f r]⟩)
theorem endC (hck : checkB (pre ++ [f]) = true) : EndC pre f (doneM (pre ++ [f]) endO []) := by
  have hp := (checkB_parts.1 hck).2.2
  rw [endStep hck]
  rcases endM_cases (pre.length + 1) f f.pend with ⟨h1, h2⟩ | ⟨l1, r, l2, h0, h1, h2, h3⟩
  · exact .none h1 (by rw [h2]; simp)
  · by_cases h4 : (f.tr r.cond).mode = 1
    · rw [if_pos h4] at h3
      exact .sig l1 l2 r h0 h1 h2 h4 (by rw [h3]; simp)
    · rw [if_neg h4] at h3
      by_cases h5 : pre.length = 29
      · rw [if_pos (by omega)] at h3
        exact .full l1 l2 r h0 h1 h2 h4 h5 (by rw [h3]; simp)
      · rw [if_neg (by omega)] at h3
        exact .call l1 l2 r h0 h1 h2 h4 (by omega) (by rw [h3, ← callF_eq]; simp)
theorem pendFrom_app : ∀ {l1 l2 had : List RaM}, pendFrom had (l1 ++ l2) = true → pendFrom [] l2 = true
  | [], l2, had, h => pendFrom_sub (fun _ hx => by cases hx) h
  | x :: l1, l2, had, h => by
    simp only [List.cons_append, pendFrom, Bool.and_eq_true] at h
    exact pendFrom_app h.2
/-- The facts on a pending condition of a valid activation. -/
theorem pend_facts (hf : framedB f = true) {l1 l2 : List RaM} {r : RaM} (hl : f.pend = l1 ++ r :: l2) : 0 ≤ r.cond ∧ r.cond < 6 ∧ immediate r.cond = false ∧ descB r.desc = true ∧ pendFrom [] l2 = true := by
  have := (framedB_parts.1 hf).2.2.1
  rw [hl] at this
  have h2 := pendFrom_tail (pendFrom_app this)
  have h3 := raOk_facts h2.1
  exact ⟨h3.1, h3.2.1, h3.2.2.1, h3.2.2.2, h2.2⟩
theorem back_ok {g : FrM} (hck : checkB ((pre ++ [f]) ++ [g]) = true) : doneM ((pre ++ [f]) ++ [g]) backO [] = ⟨0, noAct, pre ++ [f]⟩ ∧ checkB (pre ++ [f]) = true := by
  have h := backStep hck
  rw [if_neg (by simp)] at h
  refine ⟨h, ?_⟩
  have := (doneM_ok (s := (pre ++ [f]) ++ [g]) (o := backO) (conds := []) (by decide) (fun h => by rcases h with h | h <;> cases h) (by rw [h])).2
  rwa [h] at this
theorem end_ok (hck : checkB (pre ++ [f]) = true) (he : (doneM (pre ++ [f]) endO []).e = 0) : checkB (doneM (pre ++ [f]) endO []).s = true :=
  (doneM_ok (o := endO) (by decide) (fun h => by rcases h with h | h <;> cases h) he).2
end
end Go.Proofs.Ytjnckainogpenaa
end

section
/- The law TrapOnce, walked. -/
set_option linter.unusedVariables false
set_option linter.unusedSimpArgs false
set_option maxRecDepth 20000
set_option synthInstance.maxHeartbeats 400000
set_option synthInstance.maxSize 4000
namespace Go.Proofs.Ytjnckainogpenaa
open Go Q Go.RowKit

theorem lawOnce {v : Value} {l : List OpM} {z : Z} {w : World} (hl : SlR El.op z v l) : Fn1 4 #[v] z w fun _ r => r = .bool true := Fn1.intro fun hS => en4 (by
  unfold vc4
  have hl' := hl
  obtain ⟨hb0, a, cap, rfl, hcap, hel⟩ := hl.form
  refine CV_1 (playedP hl') ?_
  rintro z1 w1 _ hle1 hS1 ⟨_, rfl, u, rfl, hu⟩
  obtain ⟨_, a0, cap0, rfl, _, _⟩ := hu.form
  (repeat (first | (refine iDr ?_; intro _ _) | refine V_run ?_ | refine PV_run ?_ | refine HV_run ?_ | refine iV_ld1 ?_ | refine iV_ldN ?_ | (refine iV_bx ?_; intro _ _ _ _) | (refine iV_al ?_; intro _ _ _ _) | (refine iV_mm ?_; intro _ _ _ _) | (refine iU_st ?_; intro _ _) | refine iHV_1 ?_ | refine iHV_N ?_ | refine iRI_1 ?_ | refine iRI_N ?_ | refine Cond_t ?_ | refine Cond_f ?_ | refine JB ?_ | (refine JC ?_; intro _ _ _ _) | (refine J1 ?_; intro _ _) | (refine J0 ?_; intro _ _) | (refine J2 ?_; intro _ _) | (refine J3 ?_; intro _ _) | (refine J4 ?_; intro _ _) | refine K1 ?_ | refine K0 ?_ | refine K2 ?_ | refine K3 ?_ | refine K4 ?_ | (refine CV_pu ?_; intro _ _ _ _) | refine fV_ldN ?_ | refine fV_ld1 ?_ | refine fHV_ldN ?_ | refine fHV_ld1 ?_ | refine NilW_some ?_ | refine iCW_1 ?_ | refine iCW_N ?_ | refine Pk_b ?_))
  refine Cond_n (fun hok => ?_) (fun hok => ?_)
  · (repeat (first | (refine iDr ?_; intro _ _) | refine V_run ?_ | refine PV_run ?_ | refine HV_run ?_ | refine iV_ld1 ?_ | refine iV_ldN ?_ | (refine iV_bx ?_; intro _ _ _ _) | (refine iV_al ?_; intro _ _ _ _) | (refine iV_mm ?_; intro _ _ _ _) | (refine iU_st ?_; intro _ _) | refine iHV_1 ?_ | refine iHV_N ?_ | refine iRI_1 ?_ | refine iRI_N ?_ | refine Cond_t ?_ | refine Cond_f ?_ | refine JB ?_ | (refine JC ?_; intro _ _ _ _) | (refine J1 ?_; intro _ _) | (refine J0 ?_; intro _ _) | (refine J2 ?_; intro _ _) | (refine J3 ?_; intro _ _) | (refine J4 ?_; intro _ _) | refine K1 ?_ | refine K0 ?_ | refine K2 ?_ | refine K3 ?_ | refine K4 ?_ | (refine CV_pu ?_; intro _ _ _ _) | refine fV_ldN ?_ | refine fV_ld1 ?_ | refine fHV_ldN ?_ | refine fHV_ld1 ?_ | refine NilW_some ?_ | refine iCW_1 ?_ | refine iCW_N ?_ | refine Pk_b ?_))
    refine ⟨_, _, ‹_›, ?_⟩
    have : 0 < l.length := by
      rcases Nat.eq_zero_or_pos l.length with h | h
      · rw [List.eq_nil_of_length_eq_zero h] at hok; cases hok
      · exact h
    simp; omega
  · have hck : checkB (playedM l) = true := by rw [playedM, if_pos hok]; exact playFrom_ok newM_ok
    generalize playedM l = s at *
    (repeat (first | (refine iDr ?_; intro _ _) | refine V_run ?_ | refine PV_run ?_ | refine HV_run ?_ | refine iV_ld1 ?_ | refine iV_ldN ?_ | (refine iV_bx ?_; intro _ _ _ _) | (refine iV_al ?_; intro _ _ _ _) | (refine iV_mm ?_; intro _ _ _ _) | (refine iU_st ?_; intro _ _) | refine iHV_1 ?_ | refine iHV_N ?_ | refine iRI_1 ?_ | refine iRI_N ?_ | refine Cond_t ?_ | refine Cond_f ?_ | refine JB ?_ | (refine JC ?_; intro _ _ _ _) | (refine J1 ?_; intro _ _) | (refine J0 ?_; intro _ _) | (refine J2 ?_; intro _ _) | (refine J3 ?_; intro _ _) | (refine J4 ?_; intro _ _) | refine K1 ?_ | refine K0 ?_ | refine K2 ?_ | refine K3 ?_ | refine K4 ?_ | (refine CV_pu ?_; intro _ _ _ _) | refine fV_ldN ?_ | refine fV_ld1 ?_ | refine fHV_ldN ?_ | refine fHV_ld1 ?_ | refine NilW_some ?_ | refine iCW_1 ?_ | refine iCW_N ?_ | refine Pk_b ?_))
    refine CV_1 (check ⟨_, rfl, hu⟩) ?_
    rintro z2 w2 _ hle2 hS2 rfl
    rw [hck, errOf, if_pos rfl]
    (repeat (first | (refine iDr ?_; intro _ _) | refine V_run ?_ | refine PV_run ?_ | refine HV_run ?_ | refine iV_ld1 ?_ | refine iV_ldN ?_ | (refine iV_bx ?_; intro _ _ _ _) | (refine iV_al ?_; intro _ _ _ _) | (refine iV_mm ?_; intro _ _ _ _) | (refine iU_st ?_; intro _ _) | refine iHV_1 ?_ | refine iHV_N ?_ | refine iRI_1 ?_ | refine iRI_N ?_ | refine Cond_t ?_ | refine Cond_f ?_ | refine JB ?_ | (refine JC ?_; intro _ _ _ _) | (refine J1 ?_; intro _ _) | (refine J0 ?_; intro _ _) | (refine J2 ?_; intro _ _) | (refine J3 ?_; intro _ _) | (refine J4 ?_; intro _ _) | refine K1 ?_ | refine K0 ?_ | refine K2 ?_ | refine K3 ?_ | refine K4 ?_ | (refine CV_pu ?_; intro _ _ _ _) | refine fV_ldN ?_ | refine fV_ld1 ?_ | refine fHV_ldN ?_ | refine fHV_ld1 ?_ | refine NilW_some ?_ | refine iCW_1 ?_ | refine iCW_N ?_ | refine Pk_b ?_))
    rename_i b3 _ _ _ _ hb3 _ _ _
    have h0 : ∃ pre f, s = pre ++ [f] ∧ f.pend.length ≤ 4 := by
      obtain ⟨pre, f, h1, h2, h3, _⟩ := lastSplit hck
      exact ⟨pre, f, h1, h3⟩
    refine LoopG1 (fun (i : Nat) x w' => x = .int .i64 i ∧ ∃ s u z', (∃ pre f, s = pre ++ [f] ∧ i + f.pend.length ≤ 4) ∧ checkB s = true ∧ SlR El.frame z' u s ∧ Res w z [] w' z' [(b3, .cells [u].toArray 28 (0, 0))]) (fun i => 10 - i) 0 ⟨rfl, s, _, _, by simpa using h0, hck, hu.mono ‹_›, ‹_›⟩ ?_

    rintro I M i x w3 m ⟨rfl, s, u, z3, ⟨pre, f, rfl, hf4⟩, hck, hu, hS3⟩ back
    obtain ⟨_, a0, cap0, rfl, _, _⟩ := hu.form
    (repeat (first | (refine iDr ?_; intro _ _) | refine V_run ?_ | refine PV_run ?_ | refine HV_run ?_ | refine iV_ld1 ?_ | refine iV_ldN ?_ | (refine iV_bx ?_; intro _ _ _ _) | (refine iV_al ?_; intro _ _ _ _) | (refine iV_mm ?_; intro _ _ _ _) | (refine iU_st ?_; intro _ _) | refine iHV_1 ?_ | refine iHV_N ?_ | refine iRI_1 ?_ | refine iRI_N ?_ | refine Cond_t ?_ | refine Cond_f ?_ | refine JB ?_ | (refine JC ?_; intro _ _ _ _) | (refine J1 ?_; intro _ _) | (refine J0 ?_; intro _ _) | (refine J2 ?_; intro _ _) | (refine J3 ?_; intro _ _) | (refine J4 ?_; intro _ _) | refine K1 ?_ | refine K0 ?_ | refine K2 ?_ | refine K3 ?_ | refine K4 ?_ | (refine CV_pu ?_; intro _ _ _ _) | refine fV_ldN ?_ | refine fV_ld1 ?_ | refine fHV_ldN ?_ | refine fHV_ld1 ?_ | refine NilW_some ?_ | refine iCW_1 ?_ | refine iCW_N ?_ | refine Pk_b ?_))
    refine Cond_d (fun h => ?_) (fun h => absurd h (by omega))
    (repeat (first | (refine iDr ?_; intro _ _) | refine V_run ?_ | refine PV_run ?_ | refine HV_run ?_ | refine iV_ld1 ?_ | refine iV_ldN ?_ | (refine iV_bx ?_; intro _ _ _ _) | (refine iV_al ?_; intro _ _ _ _) | (refine iV_mm ?_; intro _ _ _ _) | (refine iU_st ?_; intro _ _) | refine iHV_1 ?_ | refine iHV_N ?_ | refine iRI_1 ?_ | refine iRI_N ?_ | refine Cond_t ?_ | refine Cond_f ?_ | refine JB ?_ | (refine JC ?_; intro _ _ _ _) | (refine J1 ?_; intro _ _) | (refine J0 ?_; intro _ _) | (refine J2 ?_; intro _ _) | (refine J3 ?_; intro _ _) | (refine J4 ?_; intro _ _) | refine K1 ?_ | refine K0 ?_ | refine K2 ?_ | refine K3 ?_ | refine K4 ?_ | (refine CV_pu ?_; intro _ _ _ _) | refine fV_ldN ?_ | refine fV_ld1 ?_ | refine fHV_ldN ?_ | refine fHV_ld1 ?_ | refine NilW_some ?_ | refine iCW_1 ?_ | refine iCW_N ?_ | refine Pk_b ?_))
    refine CV_1 (EndClauseP ⟨_, rfl, hu⟩) ?_
    rintro z4 w4 _ hle4 hS4 ⟨_, rfl, u4, rfl, hu4⟩
    obtain ⟨_, a4, cap4, rfl, _, _⟩ := hu4.form
    have hec := endC hck
    have hok4 := end_ok hck
    generalize doneM (pre ++ [f]) endO [] = m4 at *
    dsimp only [AcM.v] at *
    have hpl : pre.length ≤ 29 := (checkB_parts.1 hck).2.2
    have hnx : ∀ u z5 w5 g, (∃ pre f, g = pre ++ [f] ∧ i + 1 + f.pend.length ≤ 4) → checkB g = true → SlR El.frame z5 u g → Res w z [] w5 z5 [(b3, .cells [u].toArray 28 (0, 0))] → I [.int .i64 ((i + 1 : Nat) : Int)] w5 ∧ M [.int .i64 ((i + 1 : Nat) : Int)] w5 < m := fun u z5 w5 g h1 h2 h3 h4 =>
      back (i + 1) _ _ ⟨rfl, g, u, z5, h1, h2, h3, h4⟩ (by omega)
    clear back
    haveI : InI ((i : Int) + 1) := ⟨by omega⟩
    cases hec with
    | none h1 hm =>
      subst hm
      dsimp only [noAct] at *
      (repeat (first | (refine iDr ?_; intro _ _) | refine V_run ?_ | refine PV_run ?_ | refine HV_run ?_ | refine iV_ld1 ?_ | refine iV_ldN ?_ | (refine iV_bx ?_; intro _ _ _ _) | (refine iV_al ?_; intro _ _ _ _) | (refine iV_mm ?_; intro _ _ _ _) | (refine iU_st ?_; intro _ _) | refine iHV_1 ?_ | refine iHV_N ?_ | refine iRI_1 ?_ | refine iRI_N ?_ | refine Cond_t ?_ | refine Cond_f ?_ | refine JB ?_ | (refine JC ?_; intro _ _ _ _) | (refine J1 ?_; intro _ _) | (refine J0 ?_; intro _ _) | (refine J2 ?_; intro _ _) | (refine J3 ?_; intro _ _) | (refine J4 ?_; intro _ _) | refine K1 ?_ | refine K0 ?_ | refine K2 ?_ | refine K3 ?_ | refine K4 ?_ | (refine CV_pu ?_; intro _ _ _ _) | refine fV_ldN ?_ | refine fV_ld1 ?_ | refine fHV_ldN ?_ | refine fHV_ld1 ?_ | refine NilW_some ?_ | refine iCW_1 ?_ | refine iCW_N ?_ | refine Pk_b ?_))
      exact ⟨_, _, ‹_›, rfl⟩
    | full l1 l2 r h0 h1 h2 h3 h4 hm =>
      subst hm
      dsimp only [noAct] at *
      (repeat (first | (refine iDr ?_; intro _ _) | refine V_run ?_ | refine PV_run ?_ | refine HV_run ?_ | refine iV_ld1 ?_ | refine iV_ldN ?_ | (refine iV_bx ?_; intro _ _ _ _) | (refine iV_al ?_; intro _ _ _ _) | (refine iV_mm ?_; intro _ _ _ _) | (refine iU_st ?_; intro _ _) | refine iHV_1 ?_ | refine iHV_N ?_ | refine iRI_1 ?_ | refine iRI_N ?_ | refine Cond_t ?_ | refine Cond_f ?_ | refine JB ?_ | (refine JC ?_; intro _ _ _ _) | (refine J1 ?_; intro _ _) | (refine J0 ?_; intro _ _) | (refine J2 ?_; intro _ _) | (refine J3 ?_; intro _ _) | (refine J4 ?_; intro _ _) | refine K1 ?_ | refine K0 ?_ | refine K2 ?_ | refine K3 ?_ | refine K4 ?_ | (refine CV_pu ?_; intro _ _ _ _) | refine fV_ldN ?_ | refine fV_ld1 ?_ | refine fHV_ldN ?_ | refine fHV_ld1 ?_ | refine NilW_some ?_ | refine iCW_1 ?_ | refine iCW_N ?_ | refine Pk_b ?_))
      exact ⟨_, _, ‹_›, rfl⟩
    | sig l1 l2 r h0 h1 h2 h3 hm =>
      subst hm
      dsimp only [sigA] at *
      (repeat (first | (refine iDr ?_; intro _ _) | refine V_run ?_ | refine PV_run ?_ | refine HV_run ?_ | refine iV_ld1 ?_ | refine iV_ldN ?_ | (refine iV_bx ?_; intro _ _ _ _) | (refine iV_al ?_; intro _ _ _ _) | (refine iV_mm ?_; intro _ _ _ _) | (refine iU_st ?_; intro _ _) | refine iHV_1 ?_ | refine iHV_N ?_ | refine iRI_1 ?_ | refine iRI_N ?_ | refine Cond_t ?_ | refine Cond_f ?_ | refine JB ?_ | (refine JC ?_; intro _ _ _ _) | (refine J1 ?_; intro _ _) | (refine J0 ?_; intro _ _) | (refine J2 ?_; intro _ _) | (refine J3 ?_; intro _ _) | (refine J4 ?_; intro _ _) | refine K1 ?_ | refine K0 ?_ | refine K2 ?_ | refine K3 ?_ | refine K4 ?_ | (refine CV_pu ?_; intro _ _ _ _) | refine fV_ldN ?_ | refine fV_ld1 ?_ | refine fHV_ldN ?_ | refine fHV_ld1 ?_ | refine NilW_some ?_ | refine iCW_1 ?_ | refine iCW_N ?_ | refine Pk_b ?_))
      refine hnx _ _ _ _ ⟨pre, sigF f r.cond r.desc, rfl, ?_⟩ (hok4 rfl) ?_ (Res.tl (Res.tl ‹_›))
      · rw [h0] at hf4; simp [sigF] at hf4 ⊢; omega
      · exact hu4.mono (by (repeat (first | assumption | exact Le.refl _ | refine Le.trans ?_ (by assumption : Le _ _))))
    | call l1 l2 r h0 h1 h2 h3 h4 hm =>
      subst hm
      have hck4 := hok4 rfl
      dsimp only at *
      obtain ⟨hbk, hck5⟩ := back_ok hck4
      (repeat (first | (refine iDr ?_; intro _ _) | refine V_run ?_ | refine PV_run ?_ | refine HV_run ?_ | refine iV_ld1 ?_ | refine iV_ldN ?_ | (refine iV_bx ?_; intro _ _ _ _) | (refine iV_al ?_; intro _ _ _ _) | (refine iV_mm ?_; intro _ _ _ _) | (refine iU_st ?_; intro _ _) | refine iHV_1 ?_ | refine iHV_N ?_ | refine iRI_1 ?_ | refine iRI_N ?_ | refine Cond_t ?_ | refine Cond_f ?_ | refine JB ?_ | (refine JC ?_; intro _ _ _ _) | (refine J1 ?_; intro _ _) | (refine J0 ?_; intro _ _) | (refine J2 ?_; intro _ _) | (refine J3 ?_; intro _ _) | (refine J4 ?_; intro _ _) | refine K1 ?_ | refine K0 ?_ | refine K2 ?_ | refine K3 ?_ | refine K4 ?_ | (refine CV_pu ?_; intro _ _ _ _) | refine fV_ldN ?_ | refine fV_ld1 ?_ | refine fHV_ldN ?_ | refine fHV_ld1 ?_ | refine NilW_some ?_ | refine iCW_1 ?_ | refine iCW_N ?_ | refine Pk_b ?_))
      refine CV_1 (ReturnP ⟨_, rfl, hu4.mono (by (repeat (first | assumption | exact Le.refl _ | refine Le.trans ?_ (by assumption : Le _ _))))⟩) ?_
      rintro z6 w6 _ hle6 hS6 ⟨_, rfl, u6, rfl, hu6⟩
      rw [hbk] at hu6 ⊢
      obtain ⟨_, a6, cap6, rfl, _, _⟩ := hu6.form
      (repeat (first | (refine iDr ?_; intro _ _) | refine V_run ?_ | refine PV_run ?_ | refine HV_run ?_ | refine iV_ld1 ?_ | refine iV_ldN ?_ | (refine iV_bx ?_; intro _ _ _ _) | (refine iV_al ?_; intro _ _ _ _) | (refine iV_mm ?_; intro _ _ _ _) | (refine iU_st ?_; intro _ _) | refine iHV_1 ?_ | refine iHV_N ?_ | refine iRI_1 ?_ | refine iRI_N ?_ | refine Cond_t ?_ | refine Cond_f ?_ | refine JB ?_ | (refine JC ?_; intro _ _ _ _) | (refine J1 ?_; intro _ _) | (refine J0 ?_; intro _ _) | (refine J2 ?_; intro _ _) | (refine J3 ?_; intro _ _) | (refine J4 ?_; intro _ _) | refine K1 ?_ | refine K0 ?_ | refine K2 ?_ | refine K3 ?_ | refine K4 ?_ | (refine CV_pu ?_; intro _ _ _ _) | refine fV_ldN ?_ | refine fV_ld1 ?_ | refine fHV_ldN ?_ | refine fHV_ld1 ?_ | refine NilW_some ?_ | refine iCW_1 ?_ | refine iCW_N ?_ | refine Pk_b ?_))
      refine hnx _ _ _ _ ⟨pre, callA f l2, rfl, ?_⟩ hck5 ?_ (Res.tl (Res.tl ‹_›))
      · rw [h0] at hf4; simp [callA] at hf4 ⊢; omega
      · exact hu6.mono (by (repeat (first | assumption | exact Le.refl _ | refine Le.trans ?_ (by assumption : Le _ _)))))
end Go.Proofs.Ytjnckainogpenaa
end

section
/- A slice of one's own that is lent to a call; slices.Contains over whole numbers. -/
set_option linter.unusedVariables false
set_option linter.unusedSimpArgs false
set_option maxRecDepth 20000
set_option synthInstance.maxHeartbeats 400000
set_option synthInstance.maxSize 4000
namespace Go.Proofs.Ytjnckainogpenaa
open Go Q Go.RowKit

/-- What was frozen for a call alone is owned again behind it. -/
theorem Res.lend {w w' : World} {z z2 : Z} {b : Nat} {o : Obj} (hb : z b = none) (hw : w.heap[b]? = some o) (k : Res w (fun c => if c = b then some o else z c) [] w' z2 []) :
    Res w z [(b, o)] w' (fun c => if c = b then none else z2 c) [(b, o)] where
  os := k.os
  tape := k.tape
  output := k.output
  size := k.size
  base := fun c hc hn => k.base c hc (by simp [ids])
  sub := fun c o' hc => by
    by_cases hcb : c = b
    · simp [hcb] at hc
    · simp only [hcb, if_false] at hc; exact k.sub c o' hc
  zle := fun c o' hc => by
    have hcb : c ≠ b := fun e => by rw [e, hb] at hc; cases hc
    simp only [hcb, if_false]
    exact k.zle c o' (by simp only [hcb, if_false]; exact hc)
  znew := fun c hc => by
    by_cases hcb : c = b
    · exact .inr (.inr (by simp [ids, hcb]))
    · simp only [hcb, if_false] at hc
      rcases k.znew c hc with h | h | h
      · simp only [hcb, if_false] at h; exact .inl h
      · exact .inr (.inl h)
      · simp [ids] at h
  mem := fun p hp => by
    simp only [List.mem_singleton] at hp
    subst hp
    exact ⟨k.sub b o (k.zle b o (by simp)), by simp, .inr (by simp [ids])⟩
  nodup := by simp [ids]
section
variable {w0 w w' : World} {z0 z z' : Z} {B0 B B' L F : Bl} {K : Value → World → Prop}
/-- A call that reads an own slice. -/
theorem CV_lend {α : Type} {E : El α} {e : Nat} {v : Value} {xs : List α} {f : α → List Value} {fid : FuncId} [Enters fid] {args : Array Value} {P : Value → Prop} (hS : Res w0 z0 B0 w z (B ++ L)) (ho : OwnSl e E.size B v xs.length (xs.flatMap f)) (hb : xs.length ≤ big) (hf : ∀ x, (f x).length = E.size) (hr : ∀ z x, x ∈ xs → E.rel z (f x) x)
    (h : ∀ z1, Le z z1 → SlR E z1 v xs → Fn1 fid args z1 w fun _ r => P r) (hk : ∀ z' w' r, Le z z' → Res w0 z0 B0 w' z' (B ++ L) → P r → K r w') : CV (.func (.func fid) #[] #[]) args w K := by
  rcases ho.2 with ⟨rfl, rfl, h0⟩ | ⟨b, cap, sp, rfl, rfl, h1, h2, h3⟩
  · have : xs = [] := List.eq_nil_of_length_eq_zero h0
    subst this
    exact CV_1 (hS := hS) (h z (Le.refl _) SlR.nil) fun z' w' r h1 h2 h3 => hk z' w' r h1 h2 h3
  · have hm := hS.mem _ List.mem_cons_self
    have hown : Own w z [(b, .cells (xs.flatMap f ++ sp).toArray e (0, 0))] := Res.own (F := L) hS
    have hfr := Res.freeze hown
    have hsl : SlR E (fun c => if c = b then some (.cells (xs.flatMap f ++ sp).toArray e (0, 0)) else z c) (.slice (some ⟨b, 0, none⟩) xs.length cap) xs := by
      refine ⟨some ⟨b, 0, none⟩, cap, rfl, h1, hb, fun _ => ⟨b, 0, rfl, fun i x hx => ⟨f x, hr _ _ (List.mem_of_getElem? hx), _, _, _, if_pos rfl, fun j v hv => ?_⟩⟩⟩
      have := flat_get hf hx j v hv
      have hlt := (List.getElem?_eq_some_iff.1 this).1
      simp only [Nat.zero_add, List.getElem?_toArray]
      rw [List.getElem?_append_left hlt]
      exact this
    have hle := Res.freeze_le hown
    refine CV_enter (args' := args) (by simp) ?_
    refine Calls.mono (h _ hle hsl (Own.mk' hfr.sub (fun _ hp => by cases hp) List.nodup_nil)) ?_
    refine retK.mono ?_
    rintro r w' ⟨z2, k, hP⟩
    have hl := Res.lend hm.2.1 hm.1 k
    exact hk _ w' r hl.zle (Res.step (B := [_]) (B' := [_]) hS hl) hP
/-- The same, the block found among the owned ones. -/
theorem CV_lendB {α : Type} {E : El α} {e b cap : Nat} {xs : List α} {f : α → List Value} {sp : List Value} {C : Obj → Bl} {fid : FuncId} [Enters fid] {args : Array Value} {P : Value → Prop} [hS : Res w0 z0 B0 w z L] [g : Blk L b (.cells (xs.flatMap f ++ sp).toArray e (0, 0)) C] (hn : xs.length ≤ cap) (hcm : cap ≤ maxLen) (hsz : (xs.flatMap f ++ sp).length = cap * E.size)
    (hb : xs.length ≤ big) (hf : ∀ x, (f x).length = E.size) (hr : ∀ z x, x ∈ xs → E.rel z (f x) x)
    (h : ∀ z1, Le z z1 → SlR E z1 (.slice (some ⟨b, 0, none⟩) xs.length cap) xs → Fn1 fid args z1 w fun _ r => P r) (hk : ∀ z' w' r, Le z z' → Res w0 z0 B0 w' z' L → P r → K r w') : CV (.func (.func fid) #[] #[]) args w K := by
  obtain ⟨R, h1, _⟩ := g.perm
  have ho : OwnSl e E.size [(b, .cells (xs.flatMap f ++ sp).toArray e (0, 0))] (.slice (some ⟨b, 0, none⟩) xs.length cap) xs.length (xs.flatMap f) := ⟨flat_len hf xs, .inr ⟨b, cap, sp, rfl, rfl, hn, hcm, hsz⟩⟩
  exact CV_lend (B := [_]) (L := R) (hS.perm h1) ho hb hf hr h fun z' w' r hz hS' hP => hk z' w' r hz (hS'.perm h1.symm) hP
end
theorem indexI {v : Value} {xs : List Int} {c : Int} {z : Z} {w : World} (hx : SlR El.int z v xs) : Fn1 70 #[v, .int .i64 c] z w fun _ r => r = .int .i64 (fidx (fun x => decide (c = x)) xs) := Fn1.intro fun hS => en70 (by
  unfold vc70
  obtain ⟨hb, a, cap, rfl, hc, hel⟩ := hx.form
  (repeat (first | (refine iDr ?_; intro _ _) | refine V_run ?_ | refine PV_run ?_ | refine HV_run ?_ | refine iV_ld1 ?_ | refine iV_ldN ?_ | (refine iV_bx ?_; intro _ _ _ _) | (refine iV_al ?_; intro _ _ _ _) | (refine iV_mm ?_; intro _ _ _ _) | (refine iU_st ?_; intro _ _) | refine iHV_1 ?_ | refine iHV_N ?_ | refine iRI_1 ?_ | refine iRI_N ?_ | refine Cond_t ?_ | refine Cond_f ?_ | refine JB ?_ | (refine JC ?_; intro _ _ _ _) | (refine J1 ?_; intro _ _) | (refine J0 ?_; intro _ _) | (refine J2 ?_; intro _ _) | (refine J3 ?_; intro _ _) | (refine J4 ?_; intro _ _) | refine K1 ?_ | refine K0 ?_ | refine K2 ?_ | refine K3 ?_ | refine K4 ?_ | (refine CV_pu ?_; intro _ _ _ _) | refine fV_ldN ?_ | refine fV_ld1 ?_ | refine fHV_ldN ?_ | refine fHV_ld1 ?_ | refine NilW_some ?_ | refine iCW_1 ?_ | refine iCW_N ?_ | refine Pk_b ?_))
  refine LoopG1 (fun (i : Nat) x w' => x = .int .i64 i ∧ i ≤ xs.length ∧ (∀ j y, j < i → xs[j]? = some y → decide (c = y) = false) ∧ ∃ z', Res w z [] w' z' []) (fun i => xs.length - i) 0 ⟨rfl, by omega, fun j y h => absurd h (by omega), z, hS⟩ ?_
  rintro I M i x w2 m ⟨rfl, h1, h2, z2, hS2⟩ back
  (repeat (first | (refine iDr ?_; intro _ _) | refine V_run ?_ | refine PV_run ?_ | refine HV_run ?_ | refine iV_ld1 ?_ | refine iV_ldN ?_ | (refine iV_bx ?_; intro _ _ _ _) | (refine iV_al ?_; intro _ _ _ _) | (refine iV_mm ?_; intro _ _ _ _) | (refine iU_st ?_; intro _ _) | refine iHV_1 ?_ | refine iHV_N ?_ | refine iRI_1 ?_ | refine iRI_N ?_ | refine Cond_t ?_ | refine Cond_f ?_ | refine JB ?_ | (refine JC ?_; intro _ _ _ _) | (refine J1 ?_; intro _ _) | (refine J0 ?_; intro _ _) | (refine J2 ?_; intro _ _) | (refine J3 ?_; intro _ _) | (refine J4 ?_; intro _ _) | refine K1 ?_ | refine K0 ?_ | refine K2 ?_ | refine K3 ?_ | refine K4 ?_ | (refine CV_pu ?_; intro _ _ _ _) | refine fV_ldN ?_ | refine fV_ld1 ?_ | refine fHV_ldN ?_ | refine fHV_ld1 ?_ | refine NilW_some ?_ | refine iCW_1 ?_ | refine iCW_N ?_ | refine Pk_b ?_))
  refine Cond_d (fun h => ?_) (fun h => ?_)
  · have hlt : i < xs.length := by omega
    obtain ⟨b, off, cs, rfl, rfl, hat⟩ := hel i _ (List.getElem?_eq_getElem hlt)
    haveI : InR (i : Int) xs.length := ⟨by omega, by omega⟩
    haveI : InI ((i : Int) + 1) := ⟨by simp only [big] at hb; omega⟩
    haveI : Fz z b (off + (i : Int).toNat * 1) [.int .i64 xs[i]] := ⟨by rw [Int.toNat_natCast]; exact hat⟩
    (repeat (first | (refine iDr ?_; intro _ _) | refine V_run ?_ | refine PV_run ?_ | refine HV_run ?_ | refine iV_ld1 ?_ | refine iV_ldN ?_ | (refine iV_bx ?_; intro _ _ _ _) | (refine iV_al ?_; intro _ _ _ _) | (refine iV_mm ?_; intro _ _ _ _) | (refine iU_st ?_; intro _ _) | refine iHV_1 ?_ | refine iHV_N ?_ | refine iRI_1 ?_ | refine iRI_N ?_ | refine Cond_t ?_ | refine Cond_f ?_ | refine JB ?_ | (refine JC ?_; intro _ _ _ _) | (refine J1 ?_; intro _ _) | (refine J0 ?_; intro _ _) | (refine J2 ?_; intro _ _) | (refine J3 ?_; intro _ _) | (refine J4 ?_; intro _ _) | refine K1 ?_ | refine K0 ?_ | refine K2 ?_ | refine K3 ?_ | refine K4 ?_ | (refine CV_pu ?_; intro _ _ _ _) | refine fV_ldN ?_ | refine fV_ld1 ?_ | refine fHV_ldN ?_ | refine fHV_ld1 ?_ | refine NilW_some ?_ | refine iCW_1 ?_ | refine iCW_N ?_ | refine Pk_b ?_))
    refine Cond_d (fun h' => ?_) (fun h' => ?_)
    · exact ⟨_, _, hS2, by rw [fidx_some (p := fun x => decide (c = x)) h2 (List.getElem?_eq_getElem hlt) (by simpa using h')]⟩
    · (repeat (first | (refine iDr ?_; intro _ _) | refine V_run ?_ | refine PV_run ?_ | refine HV_run ?_ | refine iV_ld1 ?_ | refine iV_ldN ?_ | (refine iV_bx ?_; intro _ _ _ _) | (refine iV_al ?_; intro _ _ _ _) | (refine iV_mm ?_; intro _ _ _ _) | (refine iU_st ?_; intro _ _) | refine iHV_1 ?_ | refine iHV_N ?_ | refine iRI_1 ?_ | refine iRI_N ?_ | refine Cond_t ?_ | refine Cond_f ?_ | refine JB ?_ | (refine JC ?_; intro _ _ _ _) | (refine J1 ?_; intro _ _) | (refine J0 ?_; intro _ _) | (refine J2 ?_; intro _ _) | (refine J3 ?_; intro _ _) | (refine J4 ?_; intro _ _) | refine K1 ?_ | refine K0 ?_ | refine K2 ?_ | refine K3 ?_ | refine K4 ?_ | (refine CV_pu ?_; intro _ _ _ _) | refine fV_ldN ?_ | refine fV_ld1 ?_ | refine fHV_ldN ?_ | refine fHV_ld1 ?_ | refine NilW_some ?_ | refine iCW_1 ?_ | refine iCW_N ?_ | refine Pk_b ?_))
      refine back (i + 1) _ _ ⟨by simp, by omega, fun j y' hj hjy => ?_, z2, hS2⟩ (by omega)
      by_cases hji : j = i
      · subst hji; rw [List.getElem?_eq_getElem hlt] at hjy; cases hjy; exact decide_eq_false h'
      · exact h2 j y' (by omega) hjy
  · (repeat (first | (refine iDr ?_; intro _ _) | refine V_run ?_ | refine PV_run ?_ | refine HV_run ?_ | refine iV_ld1 ?_ | refine iV_ldN ?_ | (refine iV_bx ?_; intro _ _ _ _) | (refine iV_al ?_; intro _ _ _ _) | (refine iV_mm ?_; intro _ _ _ _) | (refine iU_st ?_; intro _ _) | refine iHV_1 ?_ | refine iHV_N ?_ | refine iRI_1 ?_ | refine iRI_N ?_ | refine Cond_t ?_ | refine Cond_f ?_ | refine JB ?_ | (refine JC ?_; intro _ _ _ _) | (refine J1 ?_; intro _ _) | (refine J0 ?_; intro _ _) | (refine J2 ?_; intro _ _) | (refine J3 ?_; intro _ _) | (refine J4 ?_; intro _ _) | refine K1 ?_ | refine K0 ?_ | refine K2 ?_ | refine K3 ?_ | refine K4 ?_ | (refine CV_pu ?_; intro _ _ _ _) | refine fV_ldN ?_ | refine fV_ld1 ?_ | refine fHV_ldN ?_ | refine fHV_ld1 ?_ | refine NilW_some ?_ | refine iCW_1 ?_ | refine iCW_N ?_ | refine Pk_b ?_))
    exact ⟨_, _, hS2, by rw [fidx_none fun j y hy => h2 j y (by have := (List.getElem?_eq_some_iff.1 hy).1; omega) hy]⟩)
theorem containsI {v : Value} {xs : List Int} {c : Int} {z : Z} {w : World} (hx : SlR El.int z v xs) : Fn1 32 #[v, .int .i64 c] z w fun _ r => r = .bool (xs.any fun x => decide (c = x)) := Fn1.intro fun hS => en32 (by
  unfold vc32
  refine CV_1 (indexI hx) ?_
  rintro z' w' v hle hS' rfl
  (repeat (first | (refine iDr ?_; intro _ _) | refine V_run ?_ | refine PV_run ?_ | refine HV_run ?_ | refine iV_ld1 ?_ | refine iV_ldN ?_ | (refine iV_bx ?_; intro _ _ _ _) | (refine iV_al ?_; intro _ _ _ _) | (refine iV_mm ?_; intro _ _ _ _) | (refine iU_st ?_; intro _ _) | refine iHV_1 ?_ | refine iHV_N ?_ | refine iRI_1 ?_ | refine iRI_N ?_ | refine Cond_t ?_ | refine Cond_f ?_ | refine JB ?_ | (refine JC ?_; intro _ _ _ _) | (refine J1 ?_; intro _ _) | (refine J0 ?_; intro _ _) | (refine J2 ?_; intro _ _) | (refine J3 ?_; intro _ _) | (refine J4 ?_; intro _ _) | refine K1 ?_ | refine K0 ?_ | refine K2 ?_ | refine K3 ?_ | refine K4 ?_ | (refine CV_pu ?_; intro _ _ _ _) | refine fV_ldN ?_ | refine fV_ld1 ?_ | refine fHV_ldN ?_ | refine fHV_ld1 ?_ | refine NilW_some ?_ | refine iCW_1 ?_ | refine iCW_N ?_ | refine Pk_b ?_))
  exact ⟨_, _, ‹_›, by rw [fidx_ge]⟩)
end Go.Proofs.Ytjnckainogpenaa
end

section
/- Plain laws of TrapDelays and TrapSignals. -/
set_option linter.unusedVariables false
set_option linter.unusedSimpArgs false
set_option maxRecDepth 20000
namespace Go.Proofs.Ytjnckainogpenaa
open Go Q Go.RowKit

theorem tr_set {f : FrM} {c : Int} {t : TrM} (h6 : f.traps.length = 6) (h0 : 0 ≤ c) (h1 : c < 6) {p : List RaM} {i : InM} : FrM.tr ⟨f.traps.set c.toNat t, p, i⟩ c = t := by
  simp only [FrM.tr, List.getD_eq_getElem?_getD]
  rw [List.getElem?_set_self (by omega)]; rfl
theorem tr_set_ne {f : FrM} {c k : Int} {t : TrM} (h0 : 0 ≤ c) (h1 : 0 ≤ k) (h : c ≠ k) {p : List RaM} {i : InM} : FrM.tr ⟨f.traps.set c.toNat t, p, i⟩ k = f.tr k := by
  simp only [FrM.tr, List.getD_eq_getElem?_getD]
  rw [List.getElem?_set_ne (by omega)]
theorem raiseC_on {g : FrM} {c : Int} (hm : (g.tr c).mode ≠ 0) : raiseC g c = c := by
  rw [raiseC, if_neg]
  rintro ⟨rfl, h⟩
  exact hm h
theorem raise_delayed {g : FrM} {c : Int} (d : ByteArray) (hm : (g.tr c).mode ≠ 0) (hdl : (g.tr c).delayed = true) (him : immediate c = false) : raiseA g c d = noAct ∧ raiseF g c d = g := by
  simp only [raiseA, raiseF, raiseC_on hm, if_neg hm, him, hdl, Bool.true_or, Bool.false_eq_true, if_false, if_true]
  exact ⟨trivial, trivial⟩
theorem raise_new {g : FrM} {c : Int} (d : ByteArray) (hm : (g.tr c).mode ≠ 0) (hdl : (g.tr c).delayed = false) (him : immediate c = false) (hp : hasP g c = false) : raiseA g c d = noAct ∧ raiseF g c d = { g with pend := g.pend ++ [⟨c, d⟩] } := by
  simp only [raiseA, raiseF, raiseC_on hm, if_neg hm, him, hdl, hp, Bool.or_self, Bool.false_eq_true, if_false]
  exact ⟨trivial, trivial⟩
theorem pendFrom_ne {c : Int} : ∀ {l had : List RaM}, pendFrom had l = true → (∃ x ∈ had, x.cond = c) → ∀ y ∈ l, y.cond ≠ c
  | [], _, _, _ => fun _ hy => by cases hy
  | r :: l, had, h, ⟨x, hx, hc⟩ => fun y hy => by
    simp only [pendFrom, Bool.and_eq_true] at h
    rcases List.mem_cons.1 hy with rfl | hy
    · intro e
      have := (raOk_mem h.1).2
      rw [List.any_eq_false] at this
      have := this x hx
      simp [e, hc] at this
    · exact pendFrom_ne h.2 ⟨x, List.mem_append_left _ hx, hc⟩ y hy
theorem not_off {f : FrM} {r : RaM} (h : ¬ offT f r) : (f.tr r.cond).mode ≠ 0 ∧ (f.tr r.cond).delayed = false := by
  simp only [offT, not_or, Bool.not_eq_true] at h
  exact h
section
variable {pre : StM} {f : FrM} {l1 l2 : List RaM} {r : RaM}
theorem hasP_tail (hf : framedB f = true) (hl : f.pend = l1 ++ r :: l2) : hasP (callA f l2) r.cond = false := by
  have := (framedB_parts.1 hf).2.2.1
  rw [hl] at this
  have h2 : pendFrom [] (r :: l2) = true := pendFrom_app this
  simp only [pendFrom, Bool.and_eq_true] at h2
  have h3 := pendFrom_ne h2.2 ⟨r, by simp, rfl⟩
  simp only [hasP, callA, List.any_eq_false, decide_eq_true_eq]
  exact h3
theorem delays_law {d : ByteArray} (hck : checkB (pre ++ [f]) = true) (hl : f.pend = l1 ++ r :: l2) (h2 : ¬ offT f r) (hck2 : checkB ((pre ++ [callA f l2]) ++ [callB f r]) = true) (hck3 : checkB (pre ++ [callA f l2]) = true) (hd : descB d = true) :
    doneM ((pre ++ [callA f l2]) ++ [callB f r]) (raiseO r.cond d) [r.cond] = ⟨0, noAct, (pre ++ [callA f l2]) ++ [callB f r]⟩ ∧
    condM ((pre ++ [callA f l2]) ++ [callB f r]) 83 = (wDelay, 0) ∧ condM ((pre ++ [callA f l2]) ++ [callB f r]) 68 = (r.desc, 0) ∧
    doneM (pre ++ [callA f l2]) (raiseO r.cond d) [r.cond] = ⟨0, noAct, pre ++ [{ callA f l2 with pend := l2 ++ [⟨r.cond, d⟩] }]⟩ := by
  have hfd := (checkB_parts.1 hck).2.1
  obtain ⟨c0, c1, him, hds, hpl⟩ := pend_facts hfd hl
  obtain ⟨hm, hdl⟩ := not_off h2
  have h6 := (framedB_parts.1 hfd).1
  have htr : (callB f r).tr r.cond = { f.tr r.cond with delayed := true } := tr_set h6 c0 c1
  have hr := raise_delayed (g := callB f r) d (by rw [htr]; exact hm) (by rw [htr]) him
  have hr2 := raise_new (g := callA f l2) d hm hdl him (hasP_tail hfd hl)
  have hlast : lastF ((pre ++ [callA f l2]) ++ [callB f r]) = callB f r := by simp [lastF]
  refine ⟨?_, ?_, ?_, ?_⟩
  · rw [raiseStep hck2 c0 c1, if_pos hd, hr.1, hr.2]
  · rw [condM, if_neg (by simp only [hck2]; decide), if_neg (by decide), hlast, if_neg (by simp [callB])]
    have : tellM (callB f r) 83 = wDelay := by
      simp only [tellM, show ¬ ((83 : Int) = 67) by decide, show ¬ ((83 : Int) = 68) by decide, show ¬ ((83 : Int) = 73) by decide, if_false]
      show stateM ((callB f r).tr r.cond) = wDelay
      rw [htr, stateM, if_neg hm]; rfl
    rw [this]
  · rw [condM, if_neg (by simp only [hck2]; decide), if_neg (by decide), hlast, if_neg (by simp [callB])]
    rfl
  · rw [raiseStep hck3 c0 c1, if_pos hd, hr2.1, hr2.2]; rfl
/-! ### Signals -/
/-- A condition is signalled. -/
def SigM (pre : StM) (f : FrM) (k : Int) (d : ByteArray) (m : StepM) : Prop := m = ⟨0, sigA f k d, pre ++ [sigF f k d]⟩ ∧ 0 ≤ k ∧ k < 6 ∧ descB d = true
theorem sig_raise {c : Int} {d : ByteArray} (hck : checkB (pre ++ [f]) = true) (h0 : 0 ≤ c) (h1 : c < 6) (he : (doneM (pre ++ [f]) (raiseO c d) [c]).e = 0) (hk : (doneM (pre ++ [f]) (raiseO c d) [c]).a.kind = 1) : ∃ k d', SigM pre f k d' (doneM (pre ++ [f]) (raiseO c d) [c]) := by
  rw [raiseStep hck h0 h1] at he hk ⊢
  have hrc : 0 ≤ raiseC f c ∧ raiseC f c < 6 := by unfold raiseC; split <;> omega
  by_cases hd : descB d = true
  · rw [if_pos hd] at hk ⊢
    refine ⟨raiseC f c, d, ?_, hrc.1, hrc.2, hd⟩
    simp only [raiseA, raiseF] at hk ⊢
    by_cases h3 : (f.tr (raiseC f c)).mode = 0
    · rw [if_pos h3] at hk; split at hk <;> cases hk
    · rw [if_neg h3] at hk ⊢
      rw [if_neg h3]
      by_cases h4 : immediate (raiseC f c) = true
      · rw [if_pos h4, if_pos h4]
      · rw [if_neg h4] at hk; cases hk
  · rw [if_neg hd] at hk; cases hk
theorem sig_end (hck : checkB (pre ++ [f]) = true) (he : (doneM (pre ++ [f]) endO []).e = 0) (hk : (doneM (pre ++ [f]) endO []).a.kind = 1) : ∃ k d', SigM pre f k d' (doneM (pre ++ [f]) endO []) := by
  have hec := endC hck
  generalize doneM (pre ++ [f]) endO [] = m at *
  cases hec with
  | none h1 hm => subst hm; cases hk
  | full l1 l2 r h0 h1 h2 h3 h4 hm => subst hm; cases he
  | call l1 l2 r h0 h1 h2 h3 h4 hm => subst hm; cases hk
  | sig l1 l2 r h0 h1 h2 h3 hm =>
    obtain ⟨c0, c1, him, hds, hpl⟩ := pend_facts (checkB_parts.1 hck).2.1 h0
    exact ⟨r.cond, r.desc, hm, c0, c1, hds⟩
theorem signals_law {k : Int} {d : ByteArray} (hck : checkB (pre ++ [f]) = true) (h0 : 0 ≤ k) (h1 : k < 6) (hd : descB d = true) :
    checkB (pre ++ [sigF f k d]) = true ∧ (sigF f k d).tr k = noTrap ∧ condM (pre ++ [sigF f k d]) 67 = (nameOf k, 0) ∧ condM (pre ++ [sigF f k d]) 83 = (wOff, 0) ∧
    (k ≠ 1 → doneM (pre ++ [sigF f k d]) (raiseO k d) [k] = ⟨0, if k = 5 ∨ k = 2 then ⟨3, ⟨#[]⟩, k, d⟩ else noAct, pre ++ [sigF f k d]⟩) := by
  obtain ⟨p1, p2, p3⟩ := checkB_parts.1 hck
  have h6 := (framedB_parts.1 p2).1
  have hck2 : checkB (pre ++ [sigF f k d]) = true := checkB_parts.2 ⟨p1, sigF_ok p2 h0 h1 hd, p3⟩
  have htr : (sigF f k d).tr k = noTrap := tr_set h6 h0 h1
  have hlast : lastF (pre ++ [sigF f k d]) = sigF f k d := by simp [lastF]
  refine ⟨hck2, htr, ?_, ?_, fun hk => ?_⟩
  · rw [condM, if_neg (by simp only [hck2]; decide), if_neg (by decide), hlast, if_neg (by simp [sigF])]
    rfl
  · rw [condM, if_neg (by simp only [hck2]; decide), if_neg (by decide), hlast, if_neg (by simp [sigF])]
    have : tellM (sigF f k d) 83 = wOff := by
      simp only [tellM, show ¬ ((83 : Int) = 67) by decide, show ¬ ((83 : Int) = 68) by decide, show ¬ ((83 : Int) = 73) by decide, if_false]
      show stateM ((sigF f k d).tr k) = wOff
      rw [htr]; rfl
    rw [this]
  · have hrc : raiseC (sigF f k d) k = k := by rw [raiseC, if_neg (fun h => hk h.1)]
    rw [raiseStep hck2 h0 h1, if_pos hd]
    simp only [raiseA, raiseF, hrc, htr, show noTrap.mode = 0 from rfl, if_true]
end
end Go.Proofs.Ytjnckainogpenaa
end

section
/- Plain laws of TrapInOrder. -/
set_option linter.unusedVariables false
set_option linter.unusedSimpArgs false
set_option maxRecDepth 20000
namespace Go.Proofs.Ytjnckainogpenaa
open Go Q Go.RowKit

theorem split_first {f : FrM} : ∀ {l1 l2 m1 m2 : List RaM} {r s : RaM}, l1 ++ r :: l2 = m1 ++ s :: m2 → (∀ x ∈ l1, offT f x) → ¬ offT f r → (∀ x ∈ m1, offT f x) → ¬ offT f s → l1 = m1 ∧ r = s ∧ l2 = m2
  | [], l2, [], m2, r, s, h, _, _, _, _ => by simp at h; exact ⟨rfl, h.1, h.2⟩
  | [], l2, y :: m1, m2, r, s, h, _, h2, h3, _ => by
    simp at h
    exact absurd (h3 y List.mem_cons_self) (h.1 ▸ h2)
  | x :: l1, l2, [], m2, r, s, h, h1, _, _, h4 => by
    simp at h
    exact absurd (h1 x List.mem_cons_self) (h.1 ▸ h4)
  | x :: l1, l2, y :: m1, m2, r, s, h, h1, h2, h3, h4 => by
    simp at h
    obtain ⟨e1, e2, e3⟩ := split_first h.2 (fun a ha => h1 a (List.mem_cons_of_mem _ ha)) h2 (fun a ha => h3 a (List.mem_cons_of_mem _ ha)) h4
    exact ⟨by rw [h.1, e1], e2, e3⟩
section
variable {pre : StM} {f : FrM}
theorem raise_in {p : List RaM} {c : Int} {d : ByteArray} (hck : checkB (pre ++ [callA f p]) = true) (h0 : 0 ≤ c) (h1 : c < 6) (him : immediate c = false) (hm : (f.tr c).mode ≠ 0) (hdl : (f.tr c).delayed = false) (hn : ((p.map RaM.cond).any fun x => decide (c = x)) = false) (hd : descB d = true) :
    doneM (pre ++ [callA f p]) (raiseO c d) [c] = ⟨0, noAct, pre ++ [callA f (p ++ [⟨c, d⟩])]⟩ ∧ checkB (pre ++ [callA f (p ++ [⟨c, d⟩])]) = true := by
  have hp : hasP (callA f p) c = false := by
    simp only [hasP, callA, List.any_eq_false, decide_eq_true_eq]
    simp only [List.any_map, List.any_eq_false, Function.comp, decide_eq_true_eq] at hn
    exact fun x hx e => hn x hx e.symm
  obtain ⟨q1, q2⟩ := raise_new (g := callA f p) d hm hdl him hp
  have hr := raiseStep (d := d) hck h0 h1
  rw [if_pos hd, q1, q2] at hr
  refine ⟨hr, ?_⟩
  obtain ⟨p1, p2, p3⟩ := checkB_parts.1 hck
  refine checkB_parts.2 ⟨p1, ?_, p3⟩
  have := raiseF_ok (c := c) (d := d) p2 h0 h1 hd
  rwa [q2] at this
theorem end_sig {q l1 l2 : List RaM} {r : RaM} (hck : checkB (pre ++ [callA f q]) = true) (hq : q = l1 ++ r :: l2) (h1 : ∀ x ∈ l1, offT f x) (h2 : ¬ offT f r) (h3 : (f.tr r.cond).mode = 1) :
    doneM (pre ++ [callA f q]) endO [] = ⟨0, sigA f r.cond r.desc, pre ++ [sigF (callA f q) r.cond r.desc]⟩ := by
  cases endC hck with
  | none k1 hm => exact absurd (k1 r (by simp [callA, hq])) h2
  | sig m1 m2 s k0 k1 k2 k3 hm =>
    obtain ⟨rfl, rfl, rfl⟩ := split_first (show l1 ++ r :: l2 = m1 ++ s :: m2 from hq ▸ k0) h1 h2 k1 k2
    exact hm
  | full m1 m2 s k0 k1 k2 k3 k4 hm =>
    obtain ⟨rfl, rfl, rfl⟩ := split_first (show l1 ++ r :: l2 = m1 ++ s :: m2 from hq ▸ k0) h1 h2 k1 k2
    exact absurd h3 k3
  | call m1 m2 s k0 k1 k2 k3 k4 hm =>
    obtain ⟨rfl, rfl, rfl⟩ := split_first (show l1 ++ r :: l2 = m1 ++ s :: m2 from hq ▸ k0) h1 h2 k1 k2
    exact absurd h3 k3
theorem end_call {q l1 l2 : List RaM} {r : RaM} (hck : checkB (pre ++ [callA f q]) = true) (hp : pre.length < 29) (hq : q = l1 ++ r :: l2) (h1 : ∀ x ∈ l1, offT f x) (h2 : ¬ offT f r) (h3 : (f.tr r.cond).mode ≠ 1) :
    doneM (pre ++ [callA f q]) endO [] = ⟨0, ⟨2, (f.tr r.cond).label, r.cond, r.desc⟩, (pre ++ [callA f l2]) ++ [callB f r]⟩ := by
  cases endC hck with
  | none k1 hm => exact absurd (k1 r (by simp [callA, hq])) h2
  | sig m1 m2 s k0 k1 k2 k3 hm =>
    obtain ⟨rfl, rfl, rfl⟩ := split_first (show l1 ++ r :: l2 = m1 ++ s :: m2 from hq ▸ k0) h1 h2 k1 k2
    exact absurd k3 h3
  | full m1 m2 s k0 k1 k2 k3 k4 hm => omega
  | call m1 m2 s k0 k1 k2 k3 k4 hm =>
    obtain ⟨rfl, rfl, rfl⟩ := split_first (show l1 ++ r :: l2 = m1 ++ s :: m2 from hq ▸ k0) h1 h2 k1 k2
    exact hm
theorem end_none {q : List RaM} (hck : checkB (pre ++ [callA f q]) = true) (h1 : ∀ x ∈ q, offT f x) :
    doneM (pre ++ [callA f q]) endO [] = ⟨0, noAct, pre ++ [callA f []]⟩ := by
  cases endC hck with
  | none k1 hm => exact hm
  | sig m1 m2 s k0 k1 k2 k3 hm => exact absurd (h1 s (by rw [show q = m1 ++ s :: m2 from k0]; simp)) k2
  | full m1 m2 s k0 k1 k2 k3 k4 hm => exact absurd (h1 s (by rw [show q = m1 ++ s :: m2 from k0]; simp)) k2
  | call m1 m2 s k0 k1 k2 k3 k4 hm => exact absurd (h1 s (by rw [show q = m1 ++ s :: m2 from k0]; simp)) k2
end
end Go.Proofs.Ytjnckainogpenaa
end

section
/- The law TrapInOrder, walked. -/
set_option linter.unusedVariables false
set_option linter.unusedSimpArgs false
set_option maxRecDepth 20000
set_option synthInstance.maxHeartbeats 400000
set_option synthInstance.maxSize 4000
namespace Go.Proofs.Ytjnckainogpenaa
open Go Q Go.RowKit

def El.u8c : El Int where
  size := 1
  rel := fun _ cs x => cs = [.int .u8 x] ∧ 0 ≤ x ∧ x ≤ 255
  mono := fun h _ => h
  len := fun h => by rw [h.1]; rfl
  pos := by decide
abbrev intC (l : List Int) : List Value := l.flatMap fun e => [.int .i64 e]
def inC (n : Int) : Int := ([0, 1, 2, 4] : List Int).getD (n % 4).toNat 0
theorem inC_facts {n : Int} (h : 0 ≤ n) : 0 ≤ inC n ∧ inC n < 6 ∧ immediate (inC n) = false ∧ 0 ≤ n % 4 ∧ n % 4 < 4 ∧ Get [.int .i64 0, .int .i64 1, .int .i64 2, .int .i64 4] ((n % 4).toNat * 1) (.int .i64 (inC n)) := by
  have h0 : 0 ≤ n % 4 := Int.emod_nonneg n (by decide)
  have h1 : n % 4 < 4 := Int.emod_lt_of_pos n (by decide)
  have : n % 4 = 0 ∨ n % 4 = 1 ∨ n % 4 = 2 ∨ n % 4 = 3 := by omega
  rcases this with e | e | e | e <;> simp only [inC, e] <;> exact ⟨by decide, by decide, by decide, by decide, by decide, ⟨rfl⟩⟩
theorem V_rem8 {t : Nat} {a b : Int} {w : World} {K : Value → World → Prop} (ha : 0 ≤ a ∧ a ≤ 255) (hb : 0 < b ∧ b ≤ 255) (hk : K (.int .u8 (a % b)) w) : V (bi .rem t (.int .u8 a) (.int .u8 b)) w K := by
  refine ⟨_, w, ?_, hk⟩
  have h1 : a.tmod b = a % b := Int.tmod_eq_emod_of_nonneg ha.1
  have h2 : IntKind.u8.wrap (a % b) = a % b := by
    have h4 := Int.emod_nonneg a (show b ≠ 0 by omega)
    have h5 := Int.emod_lt_of_pos a hb.1
    simp only [IntKind.wrap, IntKind.signed, IntKind.bits]
    simp
    exact Int.emod_eq_of_lt h4 (by omega)
  have h3 : ¬ (b = 0) := by omega
  simp [bi, binOp, Op.intDiv, h3, h1, h2]
theorem setN_flat {f : FrM} {c : Int} (h6 : f.traps.length = 6) (h0 : 0 ≤ c) (h1 : c < 6) (ts : List Value) : SetN (f.traps.flatMap TrM.cells ++ ts) (c.toNat * 3) [.int .i64 0, .string ⟨#[]⟩, .bool false] ((f.traps.set c.toNat noTrap).flatMap TrM.cells ++ ts) := by
  obtain ⟨tp, tq, h, hl, hp⟩ := FrM.split h6 h0 h1
  have h2 : f.traps.set c.toNat noTrap = tp ++ noTrap :: tq := hp noTrap
  have hoff : c.toNat * 3 = (tp.flatMap TrM.cells).length := by rw [flat_len (f := TrM.cells) (n := 3) (fun _ => rfl), hl]
  rw [h2, h, hoff]
  simp only [List.flatMap_append, List.flatMap_cons, TrM.cells, noTrap, List.append_assoc, List.cons_append, List.nil_append]
  infer_instance
theorem perm3 {a b c : Nat × Obj} {B R : Bl} : (a :: b :: c :: (B ++ R)).Perm (B ++ (a :: b :: c :: R)) := by
  simpa using (perm6 (A := [a, b, c]) (B := B) (R := R)).symm
theorem drop4 {a b c d : Nat × Obj} (R : Bl) : R.Sublist (a :: b :: c :: d :: R) :=
  (((List.sublist_cons_self _ _).trans (List.sublist_cons_self _ _)).trans (List.sublist_cons_self _ _)).trans (List.sublist_cons_self _ _)
theorem lawInOrder {v vc : Value} {l : List OpM} {conds : List Int} {z : Z} {w : World} (hl : SlR El.op z v l) (hcs : SlR El.u8c z vc conds) : Fn1 7 #[v, vc] z w fun _ r => r = .bool true := Fn1.intro fun hS => en7 (by
  unfold vc7
  have hl' := hl
  obtain ⟨hb0, a, cap, rfl, hcap, hel⟩ := hl.form
  obtain ⟨hbc, ac, capc, rfl, hcapc, helc⟩ := hcs.form
  refine CV_1 (playedP hl') ?_
  rintro z1 w1 _ hle1 hS1 ⟨_, rfl, u, rfl, hu⟩
  obtain ⟨_, a0, cap0, rfl, _, hel0⟩ := hu.form
  (repeat (first | (refine iDr ?_; intro _ _) | refine V_run ?_ | refine PV_run ?_ | refine HV_run ?_ | refine iV_ld1 ?_ | refine iV_ldN ?_ | (refine iV_mm ?_; intro _ _ _ _) | (refine iU_st ?_; intro _ _) | refine iHV_1 ?_ | refine iHV_N ?_ | refine iRI_1 ?_ | refine iRI_N ?_ | refine Cond_t ?_ | refine Cond_f ?_ | refine JB ?_ | (refine JC ?_; intro _ _ _ _) | (refine J1 ?_; intro _ _) | (refine J0 ?_; intro _ _) | (refine J2 ?_; intro _ _) | (refine J3 ?_; intro _ _) | (refine J4 ?_; intro _ _) | refine K1 ?_ | refine K0 ?_ | refine K2 ?_ | refine K3 ?_ | refine K4 ?_ | (refine CV_pu ?_; intro _ _ _ _) | refine fV_ldN ?_ | refine fV_ld1 ?_ | refine fHV_ldN ?_ | refine fHV_ld1 ?_ | refine NilW_some ?_ | refine iCW_1 ?_ | refine iCW_N ?_ | refine Pk_b ?_))
  refine iV_al ?_
  intro b5 w5 hb5 hS5
  (repeat (first | (refine iDr ?_; intro _ _) | refine V_run ?_ | refine PV_run ?_ | refine HV_run ?_ | refine iV_ld1 ?_ | refine iV_ldN ?_ | (refine iV_bx ?_; intro _ _ _ _) | (refine iV_al ?_; intro _ _ _ _) | (refine iV_mm ?_; intro _ _ _ _) | (refine iU_st ?_; intro _ _) | refine iHV_1 ?_ | refine iHV_N ?_ | refine iRI_1 ?_ | refine iRI_N ?_ | refine Cond_t ?_ | refine Cond_f ?_ | refine JB ?_ | (refine JC ?_; intro _ _ _ _) | (refine J1 ?_; intro _ _) | (refine J0 ?_; intro _ _) | (refine J2 ?_; intro _ _) | (refine J3 ?_; intro _ _) | (refine J4 ?_; intro _ _) | refine K1 ?_ | refine K0 ?_ | refine K2 ?_ | refine K3 ?_ | refine K4 ?_ | (refine CV_pu ?_; intro _ _ _ _) | refine fV_ldN ?_ | refine fV_ld1 ?_ | refine fHV_ldN ?_ | refine fHV_ld1 ?_ | refine NilW_some ?_ | refine iCW_1 ?_ | refine iCW_N ?_ | refine Pk_b ?_))
  refine Cond_b (fun hq => ?_) (fun hq => ?_)
  · (repeat (first | (refine iDr ?_; intro _ _) | refine V_run ?_ | refine PV_run ?_ | refine HV_run ?_ | refine iV_ld1 ?_ | refine iV_ldN ?_ | (refine iV_bx ?_; intro _ _ _ _) | (refine iV_al ?_; intro _ _ _ _) | (refine iV_mm ?_; intro _ _ _ _) | (refine iU_st ?_; intro _ _) | refine iHV_1 ?_ | refine iHV_N ?_ | refine iRI_1 ?_ | refine iRI_N ?_ | refine Cond_t ?_ | refine Cond_f ?_ | refine JB ?_ | (refine JC ?_; intro _ _ _ _) | (refine J1 ?_; intro _ _) | (refine J0 ?_; intro _ _) | (refine J2 ?_; intro _ _) | (refine J3 ?_; intro _ _) | (refine J4 ?_; intro _ _) | refine K1 ?_ | refine K0 ?_ | refine K2 ?_ | refine K3 ?_ | refine K4 ?_ | (refine CV_pu ?_; intro _ _ _ _) | refine fV_ldN ?_ | refine fV_ld1 ?_ | refine fHV_ldN ?_ | refine fHV_ld1 ?_ | refine NilW_some ?_ | refine iCW_1 ?_ | refine iCW_N ?_ | refine Pk_b ?_))
    exact ⟨_, _, ‹_›, rfl⟩
  have hok : okOps l = true := by
    cases h : okOps l with
    | true => rfl
    | false => rw [h] at hq; cases hq
  have hm10 : conds.length ≤ 10 := by
    rw [hok] at hq; simp at hq; omega
  have hck : checkB (playedM l) = true := by rw [playedM, if_pos hok]; exact playFrom_ok newM_ok
  generalize playedM l = s at *
  obtain ⟨pre, f, rfl, h6, hp4, hpre, hfd, hlast, hdl⟩ := lastSplit hck
  have hl1 : ((pre ++ [f]).length : Int) = pre.length + 1 := by simp
  have hidx : ((pre ++ [f]).length : Int) - 1 = (pre.length : Int) := by omega
  haveI : InI (((pre ++ [f]).length : Int) - 1) := ⟨by rw [hidx]; omega⟩
  haveI : InR (((pre ++ [f]).length : Int) - 1) (pre ++ [f]).length := ⟨by omega, by omega⟩
  obtain ⟨bF, oF, _, rfl, ⟨vF1, vF2, rfl, hF1, hF2, _⟩, hatF⟩ := hel0 pre.length f (by simp)
  obtain ⟨_, aF2, capF2, rfl, _, helP⟩ := hF2.form
  obtain ⟨_, aF1, capF1, rfl, _, _⟩ := id hF1.form
  (repeat (first | (refine iDr ?_; intro _ _) | refine V_run ?_ | refine PV_run ?_ | refine HV_run ?_ | refine iV_ld1 ?_ | refine iV_ldN ?_ | (refine iV_bx ?_; intro _ _ _ _) | (refine iV_al ?_; intro _ _ _ _) | (refine iV_mm ?_; intro _ _ _ _) | (refine iU_st ?_; intro _ _) | refine iHV_1 ?_ | refine iHV_N ?_ | refine iRI_1 ?_ | refine iRI_N ?_ | refine Cond_t ?_ | refine Cond_f ?_ | refine JB ?_ | (refine JC ?_; intro _ _ _ _) | (refine J1 ?_; intro _ _) | (refine J0 ?_; intro _ _) | (refine J2 ?_; intro _ _) | (refine J3 ?_; intro _ _) | (refine J4 ?_; intro _ _) | refine K1 ?_ | refine K0 ?_ | refine K2 ?_ | refine K3 ?_ | refine K4 ?_ | (refine CV_pu ?_; intro _ _ _ _) | refine fV_ldN ?_ | refine fV_ld1 ?_ | refine fHV_ldN ?_ | refine fHV_ld1 ?_ | refine NilW_some ?_ | refine iCW_1 ?_ | refine iCW_N ?_ | refine Pk_b ?_))
  refine Cond_not (by simp [hl1]; omega) ?_
  (repeat (first | (refine iDr ?_; intro _ _) | refine V_run ?_ | refine PV_run ?_ | refine HV_run ?_ | refine iV_ld1 ?_ | refine iV_ldN ?_ | (refine iV_bx ?_; intro _ _ _ _) | (refine iV_al ?_; intro _ _ _ _) | (refine iV_mm ?_; intro _ _ _ _) | (refine iU_st ?_; intro _ _) | refine iHV_1 ?_ | refine iHV_N ?_ | refine iRI_1 ?_ | refine iRI_N ?_ | refine Cond_t ?_ | refine Cond_f ?_ | refine JB ?_ | (refine JC ?_; intro _ _ _ _) | (refine J1 ?_; intro _ _) | (refine J0 ?_; intro _ _) | (refine J2 ?_; intro _ _) | (refine J3 ?_; intro _ _) | (refine J4 ?_; intro _ _) | refine K1 ?_ | refine K0 ?_ | refine K2 ?_ | refine K3 ?_ | refine K4 ?_ | (refine CV_pu ?_; intro _ _ _ _) | refine fV_ldN ?_ | refine fV_ld1 ?_ | refine fHV_ldN ?_ | refine fHV_ld1 ?_ | refine NilW_some ?_ | refine iCW_1 ?_ | refine iCW_N ?_ | refine Pk_b ?_))
  refine Cond_d (fun h30 => ?_) (fun h30 => ?_)
  · (repeat (first | (refine iDr ?_; intro _ _) | refine V_run ?_ | refine PV_run ?_ | refine HV_run ?_ | refine iV_ld1 ?_ | refine iV_ldN ?_ | (refine iV_bx ?_; intro _ _ _ _) | (refine iV_al ?_; intro _ _ _ _) | (refine iV_mm ?_; intro _ _ _ _) | (refine iU_st ?_; intro _ _) | refine iHV_1 ?_ | refine iHV_N ?_ | refine iRI_1 ?_ | refine iRI_N ?_ | refine Cond_t ?_ | refine Cond_f ?_ | refine JB ?_ | (refine JC ?_; intro _ _ _ _) | (refine J1 ?_; intro _ _) | (refine J0 ?_; intro _ _) | (refine J2 ?_; intro _ _) | (refine J3 ?_; intro _ _) | (refine J4 ?_; intro _ _) | refine K1 ?_ | refine K0 ?_ | refine K2 ?_ | refine K3 ?_ | refine K4 ?_ | (refine CV_pu ?_; intro _ _ _ _) | refine fV_ldN ?_ | refine fV_ld1 ?_ | refine fHV_ldN ?_ | refine fHV_ld1 ?_ | refine NilW_some ?_ | refine iCW_1 ?_ | refine iCW_N ?_ | refine Pk_b ?_))
    exact ⟨_, _, ‹_›, rfl⟩
  have hp29 : pre.length < 29 := by omega
  (repeat (first | (refine iDr ?_; intro _ _) | refine V_run ?_ | refine PV_run ?_ | refine HV_run ?_ | refine iV_ld1 ?_ | refine iV_ldN ?_ | (refine iV_bx ?_; intro _ _ _ _) | (refine iV_al ?_; intro _ _ _ _) | (refine iV_mm ?_; intro _ _ _ _) | (refine iU_st ?_; intro _ _) | refine iHV_1 ?_ | refine iHV_N ?_ | refine iRI_1 ?_ | refine iRI_N ?_ | refine Cond_t ?_ | refine Cond_f ?_ | refine JB ?_ | (refine JC ?_; intro _ _ _ _) | (refine J1 ?_; intro _ _) | (refine J0 ?_; intro _ _) | (refine J2 ?_; intro _ _) | (refine J3 ?_; intro _ _) | (refine J4 ?_; intro _ _) | refine K1 ?_ | refine K0 ?_ | refine K2 ?_ | refine K3 ?_ | refine K4 ?_ | (refine CV_pu ?_; intro _ _ _ _) | refine fV_ldN ?_ | refine fV_ld1 ?_ | refine fHV_ldN ?_ | refine fHV_ld1 ?_ | refine NilW_some ?_ | refine iCW_1 ?_ | refine iCW_N ?_ | refine Pk_b ?_))
  refine zV_fld (i := 1) hatF (by (repeat (first | assumption | exact Le.refl _ | refine Le.trans ?_ (by assumption : Le _ _)))) rfl (by rw [hidx]; rfl) ?_
  (repeat (first | (refine iDr ?_; intro _ _) | refine V_run ?_ | refine PV_run ?_ | refine HV_run ?_ | refine iV_ld1 ?_ | refine iV_ldN ?_ | (refine iV_bx ?_; intro _ _ _ _) | (refine iV_al ?_; intro _ _ _ _) | (refine iV_mm ?_; intro _ _ _ _) | (refine iU_st ?_; intro _ _) | refine iHV_1 ?_ | refine iHV_N ?_ | refine iRI_1 ?_ | refine iRI_N ?_ | refine Cond_t ?_ | refine Cond_f ?_ | refine JB ?_ | (refine JC ?_; intro _ _ _ _) | (refine J1 ?_; intro _ _) | (refine J0 ?_; intro _ _) | (refine J2 ?_; intro _ _) | (refine J3 ?_; intro _ _) | (refine J4 ?_; intro _ _) | refine K1 ?_ | refine K0 ?_ | refine K2 ?_ | refine K3 ?_ | refine K4 ?_ | (refine CV_pu ?_; intro _ _ _ _) | refine fV_ldN ?_ | refine fV_ld1 ?_ | refine fHV_ldN ?_ | refine fHV_ld1 ?_ | refine NilW_some ?_ | refine iCW_1 ?_ | refine iCW_N ?_ | refine Pk_b ?_))
  refine LoopG2 (fun (i : Nat) x y w' => y = .int .i64 i ∧ i ≤ f.pend.length ∧ ∃ z' Bw, OwnSl 3 1 Bw x i (intC ((f.pend.take i).map RaM.cond)) ∧ Le z1 z' ∧ Res w z [] w' z' (Bw ++ [(b5, .cells [.slice (some ⟨bF, oF, none⟩) (pre ++ [f]).length cap0].toArray 28 (0, 0))])) (fun i => f.pend.length - i) 0 ⟨rfl, by omega, z1, [], OwnSl.nil, Le.refl _, ‹_›⟩ ?_
  rintro I M i x y w2 m ⟨rfl, hi, z2, Bw, how, hz2, hS2⟩ back
  (repeat (first | (refine iDr ?_; intro _ _) | refine V_run ?_ | refine PV_run ?_ | refine HV_run ?_ | refine iV_ld1 ?_ | refine iV_ldN ?_ | (refine iV_bx ?_; intro _ _ _ _) | (refine iV_al ?_; intro _ _ _ _) | (refine iV_mm ?_; intro _ _ _ _) | (refine iU_st ?_; intro _ _) | refine iHV_1 ?_ | refine iHV_N ?_ | refine iRI_1 ?_ | refine iRI_N ?_ | refine Cond_t ?_ | refine Cond_f ?_ | refine JB ?_ | (refine JC ?_; intro _ _ _ _) | (refine J1 ?_; intro _ _) | (refine J0 ?_; intro _ _) | (refine J2 ?_; intro _ _) | (refine J3 ?_; intro _ _) | (refine J4 ?_; intro _ _) | refine K1 ?_ | refine K0 ?_ | refine K2 ?_ | refine K3 ?_ | refine K4 ?_ | (refine CV_pu ?_; intro _ _ _ _) | refine fV_ldN ?_ | refine fV_ld1 ?_ | refine fHV_ldN ?_ | refine fHV_ld1 ?_ | refine NilW_some ?_ | refine iCW_1 ?_ | refine iCW_N ?_ | refine Pk_b ?_))
  refine Cond_d (fun hlt => ?_) (fun hlt => ?_)
  · have hlt' : i < f.pend.length := by omega
    obtain ⟨b, off, cs, hab, ⟨rfl, hr⟩, hat⟩ := helP i _ (List.getElem?_eq_getElem hlt')
    cases hab
    haveI : InR (i : Int) f.pend.length := ⟨by omega, by omega⟩
    haveI : InI ((i : Int) + 1) := ⟨by omega⟩
    (repeat (first | (refine iDr ?_; intro _ _) | refine V_run ?_ | refine PV_run ?_ | refine HV_run ?_ | refine iV_ld1 ?_ | refine iV_ldN ?_ | (refine iV_bx ?_; intro _ _ _ _) | (refine iV_al ?_; intro _ _ _ _) | (refine iV_mm ?_; intro _ _ _ _) | (refine iU_st ?_; intro _ _) | refine iHV_1 ?_ | refine iHV_N ?_ | refine iRI_1 ?_ | refine iRI_N ?_ | refine Cond_t ?_ | refine Cond_f ?_ | refine JB ?_ | (refine JC ?_; intro _ _ _ _) | (refine J1 ?_; intro _ _) | (refine J0 ?_; intro _ _) | (refine J2 ?_; intro _ _) | (refine J3 ?_; intro _ _) | (refine J4 ?_; intro _ _) | refine K1 ?_ | refine K0 ?_ | refine K2 ?_ | refine K3 ?_ | refine K4 ?_ | (refine CV_pu ?_; intro _ _ _ _) | refine fV_ldN ?_ | refine fV_ld1 ?_ | refine fHV_ldN ?_ | refine fHV_ld1 ?_ | refine NilW_some ?_ | refine iCW_1 ?_ | refine iCW_N ?_ | refine Pk_b ?_))
    simp only [Int.toNat_natCast]
    refine zV_ldN (hat.mono hz2) rfl ?_
    dsimp only [RaM.cells]
    (repeat (first | (refine iDr ?_; intro _ _) | refine V_run ?_ | refine PV_run ?_ | refine HV_run ?_ | refine iV_ld1 ?_ | refine iV_ldN ?_ | (refine iV_mm ?_; intro _ _ _ _) | (refine iU_st ?_; intro _ _) | refine iHV_1 ?_ | refine iHV_N ?_ | refine iRI_1 ?_ | refine iRI_N ?_ | refine Cond_t ?_ | refine Cond_f ?_ | refine JB ?_ | (refine JC ?_; intro _ _ _ _) | (refine J1 ?_; intro _ _) | (refine J0 ?_; intro _ _) | (refine J2 ?_; intro _ _) | (refine J3 ?_; intro _ _) | (refine J4 ?_; intro _ _) | refine K1 ?_ | refine K0 ?_ | refine K2 ?_ | refine K3 ?_ | refine K4 ?_ | (refine CV_pu ?_; intro _ _ _ _) | refine fV_ldN ?_ | refine fV_ld1 ?_ | refine fHV_ldN ?_ | refine fHV_ld1 ?_ | refine NilW_some ?_ | refine iCW_1 ?_ | refine iCW_N ?_ | refine Pk_b ?_))
    refine iV_al ?_
    intro b10 w10 hb10 hS10
    (repeat (first | (refine iDr ?_; intro _ _) | refine V_run ?_ | refine PV_run ?_ | refine HV_run ?_ | refine iV_ld1 ?_ | refine iV_ldN ?_ | (refine iV_bx ?_; intro _ _ _ _) | (refine iV_al ?_; intro _ _ _ _) | (refine iV_mm ?_; intro _ _ _ _) | (refine iU_st ?_; intro _ _) | refine iHV_1 ?_ | refine iHV_N ?_ | refine iRI_1 ?_ | refine iRI_N ?_ | refine Cond_t ?_ | refine Cond_f ?_ | refine JB ?_ | (refine JC ?_; intro _ _ _ _) | (refine J1 ?_; intro _ _) | (refine J0 ?_; intro _ _) | (refine J2 ?_; intro _ _) | (refine J3 ?_; intro _ _) | (refine J4 ?_; intro _ _) | refine K1 ?_ | refine K0 ?_ | refine K2 ?_ | refine K3 ?_ | refine K4 ?_ | (refine CV_pu ?_; intro _ _ _ _) | refine fV_ldN ?_ | refine fV_ld1 ?_ | refine fHV_ldN ?_ | refine fHV_ld1 ?_ | refine NilW_some ?_ | refine iCW_1 ?_ | refine iCW_N ?_ | refine Pk_b ?_))
    refine V_bs (parts := [(0, _)]) rfl (by omega) ?_
    intro b33 w33 hb33 hS33
    refine V_app (B := Bw) (m := 1) (n := i) (news := [.int .i64 f.pend[i].cond]) (hS33.perm perm2) how ⟨_, _, _, (hS33.mem _ List.mem_cons_self).1, fun j v hv => by simpa using hv⟩ rfl (fun u hu => by simp at hu; subst hu; rfl) (by omega) (by simp only [room]; omega) (by simp only [room]; omega) ?_
    intro Bw' vw' w34 how' hS34
    have hS35 := hS34.sublist (L' := Bw' ++ [_]) ((List.Sublist.refl _).append ((List.sublist_cons_self _ _).trans (List.sublist_cons_self _ _)))
    clear hS34 hS33
    (repeat (first | (refine iDr ?_; intro _ _) | refine V_run ?_ | refine PV_run ?_ | refine HV_run ?_ | refine iV_ld1 ?_ | refine iV_ldN ?_ | (refine iV_bx ?_; intro _ _ _ _) | (refine iV_al ?_; intro _ _ _ _) | (refine iV_mm ?_; intro _ _ _ _) | (refine iU_st ?_; intro _ _) | refine iHV_1 ?_ | refine iHV_N ?_ | refine iRI_1 ?_ | refine iRI_N ?_ | refine Cond_t ?_ | refine Cond_f ?_ | refine JB ?_ | (refine JC ?_; intro _ _ _ _) | (refine J1 ?_; intro _ _) | (refine J0 ?_; intro _ _) | (refine J2 ?_; intro _ _) | (refine J3 ?_; intro _ _) | (refine J4 ?_; intro _ _) | refine K1 ?_ | refine K0 ?_ | refine K2 ?_ | refine K3 ?_ | refine K4 ?_ | (refine CV_pu ?_; intro _ _ _ _) | refine fV_ldN ?_ | refine fV_ld1 ?_ | refine fHV_ldN ?_ | refine fHV_ld1 ?_ | refine NilW_some ?_ | refine iCW_1 ?_ | refine iCW_N ?_ | refine Pk_b ?_))
    refine back (i + 1) _ _ _ ⟨by simp, by omega, _, Bw', ?_, by (repeat (first | assumption | exact Le.refl _ | refine Le.trans ?_ (by assumption : Le _ _))), hS35⟩ (by omega)
    have e : f.pend.take (i + 1) = f.pend.take i ++ [f.pend[i]] := (List.take_append_getElem hlt').symm
    rw [e, List.map_append, intC, List.flatMap_append]
    exact how'
  have hie : i = f.pend.length := by omega
  subst hie
  rw [List.take_length] at how
  clear back
  obtain ⟨aw, capw, rfl, hcw⟩ := how.form
  (repeat (first | (refine iDr ?_; intro _ _) | refine V_run ?_ | refine PV_run ?_ | refine HV_run ?_ | refine iV_ld1 ?_ | refine iV_ldN ?_ | (refine iV_bx ?_; intro _ _ _ _) | (refine iV_al ?_; intro _ _ _ _) | (refine iV_mm ?_; intro _ _ _ _) | (refine iU_st ?_; intro _ _) | refine iHV_1 ?_ | refine iHV_N ?_ | refine iRI_1 ?_ | refine iRI_N ?_ | refine Cond_t ?_ | refine Cond_f ?_ | refine JB ?_ | (refine JC ?_; intro _ _ _ _) | (refine J1 ?_; intro _ _) | (refine J0 ?_; intro _ _) | (refine J2 ?_; intro _ _) | (refine J3 ?_; intro _ _) | (refine J4 ?_; intro _ _) | refine K1 ?_ | refine K0 ?_ | refine K2 ?_ | refine K3 ?_ | refine K4 ?_ | (refine CV_pu ?_; intro _ _ _ _) | refine fV_ldN ?_ | refine fV_ld1 ?_ | refine fHV_ldN ?_ | refine fHV_ld1 ?_ | refine NilW_some ?_ | refine iCW_1 ?_ | refine iCW_N ?_ | refine Pk_b ?_))
  refine zV_fld (i := 0) hatF (by (repeat (first | assumption | exact Le.refl _ | refine Le.trans ?_ (by assumption : Le _ _)))) rfl (by rw [hidx]; rfl) ?_
  refine CV_fn0 (fun _ => cloneTraps (hF1.mono (by (repeat (first | assumption | exact Le.refl _ | refine Le.trans ?_ (by assumption : Le _ _))))) (by omega)) ?_
  rintro z3 B3 w3 vt hle3 hS3 hot
  rcases hot.2 with ⟨_, _, h0⟩ | ⟨tb, tcap, ts, rfl, rfl, htc, htm, hts⟩
  · omega
  (repeat (first | (refine iDr ?_; intro _ _) | refine V_run ?_ | refine PV_run ?_ | refine HV_run ?_ | refine iV_ld1 ?_ | refine iV_ldN ?_ | (refine iV_bx ?_; intro _ _ _ _) | (refine iV_al ?_; intro _ _ _ _) | (refine iV_mm ?_; intro _ _ _ _) | (refine iU_st ?_; intro _ _) | refine iHV_1 ?_ | refine iHV_N ?_ | refine iRI_1 ?_ | refine iRI_N ?_ | refine Cond_t ?_ | refine Cond_f ?_ | refine JB ?_ | (refine JC ?_; intro _ _ _ _) | (refine J1 ?_; intro _ _) | (refine J0 ?_; intro _ _) | (refine J2 ?_; intro _ _) | (refine J3 ?_; intro _ _) | (refine J4 ?_; intro _ _) | refine K1 ?_ | refine K0 ?_ | refine K2 ?_ | refine K3 ?_ | refine K4 ?_ | (refine CV_pu ?_; intro _ _ _ _) | refine fV_ldN ?_ | refine fV_ld1 ?_ | refine fHV_ldN ?_ | refine fHV_ld1 ?_ | refine NilW_some ?_ | refine iCW_1 ?_ | refine iCW_N ?_ | refine Pk_b ?_))
  rw [List.singleton_append] at hS3
  have hw3 := hS3.perm List.perm_middle.symm
  clear hS3
  refine LoopG2 (fun (g : Nat × List RaM) x y w' => y = .int .i64 g.1 ∧ g.1 ≤ conds.length ∧ ∃ z' Bw u, checkB (pre ++ [callA f g.2]) = true ∧ SlR El.frame z' u (pre ++ [callA f g.2]) ∧ OwnSl 3 1 Bw x g.2.length (intC (g.2.map RaM.cond)) ∧ Le z1 z' ∧
    Res w z [] w' z' (Bw ++ [(tb, .cells (f.traps.flatMap TrM.cells ++ ts).toArray 73 (0, 0)), (b5, .cells [u].toArray 28 (0, 0))])) (fun g => conds.length - g.1) (0, f.pend) ⟨rfl, by omega, z3, Bw, _, hck, hu.mono (by (repeat (first | assumption | exact Le.refl _ | refine Le.trans ?_ (by assumption : Le _ _)))), how, by (repeat (first | assumption | exact Le.refl _ | refine Le.trans ?_ (by assumption : Le _ _))), hw3⟩ ?_
  rintro I M ⟨i, p⟩ x y w4 m ⟨rfl, hi, z4, Bw, u4, hck4, hu4, how, hz4, hS4⟩ back
  simp only at hi hck4 hu4 how hS4 back
  obtain ⟨_, a4, cap4, rfl, _, _⟩ := hu4.form
  obtain ⟨aw, capw, rfl, hcw⟩ := how.form
  have hpl : p.length ≤ 4 := pend_le4 (framedB_parts.1 (checkB_parts.1 hck4).2.1).2.2.1
  (repeat (first | (refine iDr ?_; intro _ _) | refine V_run ?_ | refine PV_run ?_ | refine HV_run ?_ | refine iV_ld1 ?_ | refine iV_ldN ?_ | (refine iV_bx ?_; intro _ _ _ _) | (refine iV_al ?_; intro _ _ _ _) | (refine iV_mm ?_; intro _ _ _ _) | (refine iU_st ?_; intro _ _) | refine iHV_1 ?_ | refine iHV_N ?_ | refine iRI_1 ?_ | refine iRI_N ?_ | refine Cond_t ?_ | refine Cond_f ?_ | refine JB ?_ | (refine JC ?_; intro _ _ _ _) | (refine J1 ?_; intro _ _) | (refine J0 ?_; intro _ _) | (refine J2 ?_; intro _ _) | (refine J3 ?_; intro _ _) | (refine J4 ?_; intro _ _) | refine K1 ?_ | refine K0 ?_ | refine K2 ?_ | refine K3 ?_ | refine K4 ?_ | (refine CV_pu ?_; intro _ _ _ _) | refine fV_ldN ?_ | refine fV_ld1 ?_ | refine fHV_ldN ?_ | refine fHV_ld1 ?_ | refine NilW_some ?_ | refine iCW_1 ?_ | refine iCW_N ?_ | refine Pk_b ?_))
  refine Cond_d (fun hlt => ?_) (fun hlt => ?_)
  · have hlt' : i < conds.length := by omega
    obtain ⟨b, off, cs, rfl, ⟨rfl, hr⟩, hat⟩ := helc i _ (List.getElem?_eq_getElem hlt')
    haveI : InR (i : Int) conds.length := ⟨by omega, by omega⟩
    haveI : InI ((i : Int) + 1) := ⟨by omega⟩
    haveI : Fz z b (off + (i : Int).toNat * 1) [.int .u8 conds[i]] := ⟨by rw [Int.toNat_natCast]; exact hat⟩
    obtain ⟨c0, c1, him, n0, n1, hget⟩ := inC_facts hr.1
    generalize conds[i] = n at *
    haveI := hget
    haveI : InR (n % 4) (4 : Nat) := ⟨n0, by omega⟩
    haveI : InR (inC n) f.traps.length := ⟨c0, by omega⟩
    obtain ⟨g0, g1, g2⟩ := tget (f := f) h6 c0 c1 ts
    haveI := g0
    haveI := g1
    haveI := g2
    (repeat (first | (refine iDr ?_; intro _ _) | refine V_run ?_ | refine PV_run ?_ | refine HV_run ?_ | refine iV_ld1 ?_ | refine iV_ldN ?_ | (refine iV_bx ?_; intro _ _ _ _) | (refine iV_al ?_; intro _ _ _ _) | (refine iV_mm ?_; intro _ _ _ _) | (refine iU_st ?_; intro _ _) | refine iHV_1 ?_ | refine iHV_N ?_ | refine iRI_1 ?_ | refine iRI_N ?_ | refine Cond_t ?_ | refine Cond_f ?_ | refine JB ?_ | (refine JC ?_; intro _ _ _ _) | (refine J1 ?_; intro _ _) | (refine J0 ?_; intro _ _) | (refine J2 ?_; intro _ _) | (refine J3 ?_; intro _ _) | (refine J4 ?_; intro _ _) | refine K1 ?_ | refine K0 ?_ | refine K2 ?_ | refine K3 ?_ | refine K4 ?_ | (refine CV_pu ?_; intro _ _ _ _) | refine fV_ldN ?_ | refine fV_ld1 ?_ | refine fHV_ldN ?_ | refine fHV_ld1 ?_ | refine NilW_some ?_ | refine iCW_1 ?_ | refine iCW_N ?_ | refine Pk_b ?_))
    refine V_bs (parts := [(0, _), (1, _), (2, _), (3, _)]) rfl (by omega) ?_
    intro b82 w82 hb82 hS82
    simp only [List.cons_append, List.nil_append] at hS82
    refine V_rem8 (by omega) (by omega) ?_
    have how' : OwnSl 3 El.int.size Bw (.slice aw p.length capw) (p.map RaM.cond).length ((p.map RaM.cond).flatMap fun e => [.int .i64 e]) := by rw [List.length_map]; exact how
    (repeat (first | (refine iDr ?_; intro _ _) | refine V_run ?_ | refine PV_run ?_ | refine HV_run ?_ | refine iV_ld1 ?_ | refine iV_ldN ?_ | (refine iV_bx ?_; intro _ _ _ _) | (refine iV_al ?_; intro _ _ _ _) | (refine iV_mm ?_; intro _ _ _ _) | (refine iU_st ?_; intro _ _) | refine iHV_1 ?_ | refine iHV_N ?_ | refine iRI_1 ?_ | refine iRI_N ?_ | refine Cond_t ?_ | refine Cond_f ?_ | refine JB ?_ | (refine JC ?_; intro _ _ _ _) | (refine J1 ?_; intro _ _) | (refine J0 ?_; intro _ _) | (refine J2 ?_; intro _ _) | (refine J3 ?_; intro _ _) | (refine J4 ?_; intro _ _) | refine K1 ?_ | refine K0 ?_ | refine K2 ?_ | refine K3 ?_ | refine K4 ?_ | (refine CV_pu ?_; intro _ _ _ _) | refine fV_ldN ?_ | refine fV_ld1 ?_ | refine fHV_ldN ?_ | refine fHV_ld1 ?_ | refine NilW_some ?_ | refine iCW_1 ?_ | refine iCW_N ?_ | refine Pk_b ?_))
    refine Cond_b (fun hq2 => ?_) (fun hq2 => ?_)
    · (repeat (first | (refine iDr ?_; intro _ _) | refine V_run ?_ | refine PV_run ?_ | refine HV_run ?_ | refine iV_ld1 ?_ | refine iV_ldN ?_ | (refine iV_bx ?_; intro _ _ _ _) | (refine iV_al ?_; intro _ _ _ _) | (refine iV_mm ?_; intro _ _ _ _) | (refine iU_st ?_; intro _ _) | refine iHV_1 ?_ | refine iHV_N ?_ | refine iRI_1 ?_ | refine iRI_N ?_ | refine Cond_t ?_ | refine Cond_f ?_ | refine JB ?_ | (refine JC ?_; intro _ _ _ _) | (refine J1 ?_; intro _ _) | (refine J0 ?_; intro _ _) | (refine J2 ?_; intro _ _) | (refine J3 ?_; intro _ _) | (refine J4 ?_; intro _ _) | refine K1 ?_ | refine K0 ?_ | refine K2 ?_ | refine K3 ?_ | refine K4 ?_ | (refine CV_pu ?_; intro _ _ _ _) | refine fV_ldN ?_ | refine fV_ld1 ?_ | refine fHV_ldN ?_ | refine fHV_ld1 ?_ | refine NilW_some ?_ | refine iCW_1 ?_ | refine iCW_N ?_ | refine Pk_b ?_))
      exact back (i + 1, p) _ _ _ ⟨rfl, by simp only; omega, _, Bw, _, hck4, hu4.mono (by (repeat (first | assumption | exact Le.refl _ | refine Le.trans ?_ (by assumption : Le _ _)))), how, by (repeat (first | assumption | exact Le.refl _ | refine Le.trans ?_ (by assumption : Le _ _))), Res.tl ‹_›⟩ (by simp only; omega)
    obtain ⟨hmode, hdel⟩ : (f.tr (inC n)).mode ≠ 0 ∧ (f.tr (inC n)).delayed = false := by
      simp only [cond_eq_ite] at hq2
      by_cases e : (f.tr (inC n)).mode = 0
      · simp [e] at hq2
      · simp [e] at hq2; exact ⟨e, hq2⟩
    refine CV_lend (E := El.int) (f := fun e => [.int .i64 e]) (P := fun r => r = .bool ((p.map RaM.cond).any fun x => decide (inC n = x))) (Res.perm (by assumption) (List.perm_middle (a := (b82, _)) (l₁ := Bw)).symm) how' (by simp; omega) (fun _ => rfl) (fun _ _ _ => rfl) (fun z1 hle hsl => containsI hsl) ?_
    rintro z6 w6 _ hle6 hS6 rfl
    (repeat (first | (refine iDr ?_; intro _ _) | refine V_run ?_ | refine PV_run ?_ | refine HV_run ?_ | refine iV_ld1 ?_ | refine iV_ldN ?_ | (refine iV_bx ?_; intro _ _ _ _) | (refine iV_al ?_; intro _ _ _ _) | (refine iV_mm ?_; intro _ _ _ _) | (refine iU_st ?_; intro _ _) | refine iHV_1 ?_ | refine iHV_N ?_ | refine iRI_1 ?_ | refine iRI_N ?_ | refine Cond_t ?_ | refine Cond_f ?_ | refine JB ?_ | (refine JC ?_; intro _ _ _ _) | (refine J1 ?_; intro _ _) | (refine J0 ?_; intro _ _) | (refine J2 ?_; intro _ _) | (refine J3 ?_; intro _ _) | (refine J4 ?_; intro _ _) | refine K1 ?_ | refine K0 ?_ | refine K2 ?_ | refine K3 ?_ | refine K4 ?_ | (refine CV_pu ?_; intro _ _ _ _) | refine fV_ldN ?_ | refine fV_ld1 ?_ | refine fHV_ldN ?_ | refine fHV_ld1 ?_ | refine NilW_some ?_ | refine iCW_1 ?_ | refine iCW_N ?_ | refine Pk_b ?_))
    refine Cond_b (fun hq3 => ?_) (fun hq3 => ?_)
    · (repeat (first | (refine iDr ?_; intro _ _) | refine V_run ?_ | refine PV_run ?_ | refine HV_run ?_ | refine iV_ld1 ?_ | refine iV_ldN ?_ | (refine iV_bx ?_; intro _ _ _ _) | (refine iV_al ?_; intro _ _ _ _) | (refine iV_mm ?_; intro _ _ _ _) | (refine iU_st ?_; intro _ _) | refine iHV_1 ?_ | refine iHV_N ?_ | refine iRI_1 ?_ | refine iRI_N ?_ | refine Cond_t ?_ | refine Cond_f ?_ | refine JB ?_ | (refine JC ?_; intro _ _ _ _) | (refine J1 ?_; intro _ _) | (refine J0 ?_; intro _ _) | (refine J2 ?_; intro _ _) | (refine J3 ?_; intro _ _) | (refine J4 ?_; intro _ _) | refine K1 ?_ | refine K0 ?_ | refine K2 ?_ | refine K3 ?_ | refine K4 ?_ | (refine CV_pu ?_; intro _ _ _ _) | refine fV_ldN ?_ | refine fV_ld1 ?_ | refine fHV_ldN ?_ | refine fHV_ld1 ?_ | refine NilW_some ?_ | refine iCW_1 ?_ | refine iCW_N ?_ | refine Pk_b ?_))
      exact back (i + 1, p) _ _ _ ⟨rfl, by simp only; omega, _, Bw, _, hck4, hu4.mono (by (repeat (first | assumption | exact Le.refl _ | refine Le.trans ?_ (by assumption : Le _ _)))), how, by (repeat (first | assumption | exact Le.refl _ | refine Le.trans ?_ (by assumption : Le _ _))), hS6.sublist ((List.Sublist.refl _).append (List.sublist_cons_self _ _))⟩ (by simp only; omega)
    obtain ⟨q1, q2⟩ := raise_in (d := ⟨#[120]⟩) hck4 c0 c1 him hmode hdel hq3 (by decide)
    (repeat (first | (refine iDr ?_; intro _ _) | refine V_run ?_ | refine PV_run ?_ | refine HV_run ?_ | refine iV_ld1 ?_ | refine iV_ldN ?_ | (refine iV_bx ?_; intro _ _ _ _) | (refine iV_al ?_; intro _ _ _ _) | (refine iV_mm ?_; intro _ _ _ _) | (refine iU_st ?_; intro _ _) | refine iHV_1 ?_ | refine iHV_N ?_ | refine iRI_1 ?_ | refine iRI_N ?_ | refine Cond_t ?_ | refine Cond_f ?_ | refine JB ?_ | (refine JC ?_; intro _ _ _ _) | (refine J1 ?_; intro _ _) | (refine J0 ?_; intro _ _) | (refine J2 ?_; intro _ _) | (refine J3 ?_; intro _ _) | (refine J4 ?_; intro _ _) | refine K1 ?_ | refine K0 ?_ | refine K2 ?_ | refine K3 ?_ | refine K4 ?_ | (refine CV_pu ?_; intro _ _ _ _) | refine fV_ldN ?_ | refine fV_ld1 ?_ | refine fHV_ldN ?_ | refine fHV_ld1 ?_ | refine NilW_some ?_ | refine iCW_1 ?_ | refine iCW_N ?_ | refine Pk_b ?_))
    refine CV_1 (RaiseP (c := inC n) (t := ⟨#[120]⟩) ⟨_, rfl, hu4.mono (by (repeat (first | assumption | exact Le.refl _ | refine Le.trans ?_ (by assumption : Le _ _))))⟩ (by decide)) ?_
    rintro z7 w7 _ hle7 hS7 ⟨_, rfl, u7, rfl, hu7⟩
    rw [q1] at hu7 ⊢
    obtain ⟨_, a7, cap7, rfl, _, hel7⟩ := hu7.form
    dsimp only [AcM.v, noAct] at *
    (repeat (first | (refine iDr ?_; intro _ _) | refine V_run ?_ | refine PV_run ?_ | refine HV_run ?_ | refine iV_ld1 ?_ | refine iV_ldN ?_ | (refine iV_bx ?_; intro _ _ _ _) | (refine iV_al ?_; intro _ _ _ _) | (refine iV_mm ?_; intro _ _ _ _) | (refine iU_st ?_; intro _ _) | refine iHV_1 ?_ | refine iHV_N ?_ | refine iRI_1 ?_ | refine iRI_N ?_ | refine Cond_t ?_ | refine Cond_f ?_ | refine JB ?_ | (refine JC ?_; intro _ _ _ _) | (refine J1 ?_; intro _ _) | (refine J0 ?_; intro _ _) | (refine J2 ?_; intro _ _) | (refine J3 ?_; intro _ _) | (refine J4 ?_; intro _ _) | refine K1 ?_ | refine K0 ?_ | refine K2 ?_ | refine K3 ?_ | refine K4 ?_ | (refine CV_pu ?_; intro _ _ _ _) | refine fV_ldN ?_ | refine fV_ld1 ?_ | refine fHV_ldN ?_ | refine fHV_ld1 ?_ | refine NilW_some ?_ | refine iCW_1 ?_ | refine iCW_N ?_ | refine Pk_b ?_))
    have hl7 : ((pre ++ [callA f (p ++ [⟨inC n, ⟨#[120]⟩⟩])]).length : Int) = pre.length + 1 := by simp
    refine Cond_not (by simp [hl7]; omega) ?_
    haveI : InR (((pre ++ [f]).length : Int) - 1) (pre ++ [callA f (p ++ [⟨inC n, ⟨#[120]⟩⟩])]).length := ⟨by omega, by omega⟩
    obtain ⟨b7, o7, _, rfl, ⟨v71, v72, rfl, h71, h72, _⟩, hat7⟩ := hel7 pre.length (callA f (p ++ [⟨inC n, ⟨#[120]⟩⟩])) (by simp)
    obtain ⟨_, a71, cap71, rfl, _, _⟩ := id h71.form
    (repeat (first | (refine iDr ?_; intro _ _) | refine V_run ?_ | refine PV_run ?_ | refine HV_run ?_ | refine iV_ld1 ?_ | refine iV_ldN ?_ | (refine iV_bx ?_; intro _ _ _ _) | (refine iV_al ?_; intro _ _ _ _) | (refine iV_mm ?_; intro _ _ _ _) | (refine iU_st ?_; intro _ _) | refine iHV_1 ?_ | refine iHV_N ?_ | refine iRI_1 ?_ | refine iRI_N ?_ | refine Cond_t ?_ | refine Cond_f ?_ | refine JB ?_ | (refine JC ?_; intro _ _ _ _) | (refine J1 ?_; intro _ _) | (refine J0 ?_; intro _ _) | (refine J2 ?_; intro _ _) | (refine J3 ?_; intro _ _) | (refine J4 ?_; intro _ _) | refine K1 ?_ | refine K0 ?_ | refine K2 ?_ | refine K3 ?_ | refine K4 ?_ | (refine CV_pu ?_; intro _ _ _ _) | refine fV_ldN ?_ | refine fV_ld1 ?_ | refine fHV_ldN ?_ | refine fHV_ld1 ?_ | refine NilW_some ?_ | refine iCW_1 ?_ | refine iCW_N ?_ | refine Pk_b ?_))
    refine zV_fld (i := 0) hat7 (by (repeat (first | assumption | exact Le.refl _ | refine Le.trans ?_ (by assumption : Le _ _)))) rfl (by rw [hidx]; rfl) ?_
    refine CV_lendB (b := tb) (cap := tcap) (E := El.trap) (f := TrM.cells) (e := 73) (sp := ts) (xs := f.traps) (P := fun r => r = .bool true) htc htm hts (by simp only [big]; omega) (fun _ => rfl) ?_ (fun z1 hle hsl => ?_) ?_
    · exact fun _ x hx => ⟨rfl, (hF1.mem hx).choose_spec.2⟩
    · have := fun w => equalTraps (w := w) (h71.mono (z' := z1) (Le.trans (by (repeat (first | assumption | exact Le.refl _ | refine Le.trans ?_ (by assumption : Le _ _)))) hle)) hsl
      have he : listEq TrM.eqb (callA f (p ++ [⟨inC n, ⟨#[120]⟩⟩])).traps f.traps = true := (listEq_iff fun x y => TrM.eqb_iff).2 rfl
      rw [he] at this
      exact this _
    rintro z8 w8 _ hle8 hS8 rfl
    (repeat (first | (refine iDr ?_; intro _ _) | refine V_run ?_ | refine PV_run ?_ | refine HV_run ?_ | refine iV_ld1 ?_ | refine iV_ldN ?_ | (refine iV_bx ?_; intro _ _ _ _) | (refine iV_al ?_; intro _ _ _ _) | (refine iV_mm ?_; intro _ _ _ _) | (refine iU_st ?_; intro _ _) | refine iHV_1 ?_ | refine iHV_N ?_ | refine iRI_1 ?_ | refine iRI_N ?_ | refine Cond_t ?_ | refine Cond_f ?_ | refine JB ?_ | (refine JC ?_; intro _ _ _ _) | (refine J1 ?_; intro _ _) | (refine J0 ?_; intro _ _) | (refine J2 ?_; intro _ _) | (refine J3 ?_; intro _ _) | (refine J4 ?_; intro _ _) | refine K1 ?_ | refine K0 ?_ | refine K2 ?_ | refine K3 ?_ | refine K4 ?_ | (refine CV_pu ?_; intro _ _ _ _) | refine fV_ldN ?_ | refine fV_ld1 ?_ | refine fHV_ldN ?_ | refine fHV_ld1 ?_ | refine NilW_some ?_ | refine iCW_1 ?_ | refine iCW_N ?_ | refine Pk_b ?_))
    refine V_bs (parts := [(0, _)]) rfl (by omega) ?_
    intro b139 w139 hb139 hS139
    refine iRI_N ?_
    refine V_app (B := Bw) (m := 1) (n := p.length) (news := [.int .i64 (inC n)]) (hS139.perm perm3) how ⟨_, _, _, (hS139.mem _ List.mem_cons_self).1, fun j v hv => by simpa using hv⟩ rfl (fun u hu => by simp at hu; subst hu; rfl) (by omega) (by simp only [room]; omega) (by simp only [room]; omega) ?_
    intro Bw' vw' w140 how' hS140
    refine iRI_N ?_
    (repeat (first | (refine iDr ?_; intro _ _) | refine V_run ?_ | refine PV_run ?_ | refine HV_run ?_ | refine iV_ld1 ?_ | refine iV_ldN ?_ | (refine iV_bx ?_; intro _ _ _ _) | (refine iV_al ?_; intro _ _ _ _) | (refine iV_mm ?_; intro _ _ _ _) | (refine iU_st ?_; intro _ _) | refine iHV_1 ?_ | refine iHV_N ?_ | refine iRI_1 ?_ | refine iRI_N ?_ | refine Cond_t ?_ | refine Cond_f ?_ | refine JB ?_ | (refine JC ?_; intro _ _ _ _) | (refine J1 ?_; intro _ _) | (refine J0 ?_; intro _ _) | (refine J2 ?_; intro _ _) | (refine J3 ?_; intro _ _) | (refine J4 ?_; intro _ _) | refine K1 ?_ | refine K0 ?_ | refine K2 ?_ | refine K3 ?_ | refine K4 ?_ | (refine CV_pu ?_; intro _ _ _ _) | refine fV_ldN ?_ | refine fV_ld1 ?_ | refine fHV_ldN ?_ | refine fHV_ld1 ?_ | refine NilW_some ?_ | refine iCW_1 ?_ | refine iCW_N ?_ | refine Pk_b ?_))
    refine back (i + 1, p ++ [⟨inC n, ⟨#[120]⟩⟩]) _ _ _ ⟨rfl, by simp only; omega, _, Bw', _, q2, ?_, ?_, ?_, Res.sublist (by assumption) ((List.Sublist.refl _).append (drop4 _))⟩ (by simp only; omega)
    · exact hu7.mono (by (repeat (first | assumption | exact Le.refl _ | refine Le.trans ?_ (by assumption : Le _ _))))
    rotate_left
    · (repeat (first | assumption | exact Le.refl _ | refine Le.trans ?_ (by assumption : Le _ _)))
    rw [List.map_append, intC, List.flatMap_append, List.length_append]
    exact how'
  have hie : i = conds.length := by omega
  clear back
  have how' : OwnSl 3 El.int.size Bw (.slice aw p.length capw) (p.map RaM.cond).length ((p.map RaM.cond).flatMap fun e => [.int .i64 e]) := by rw [List.length_map]; exact how
  obtain ⟨z5, hz5, hS5, hwant⟩ := Res.freezeSl (E := El.int) (f := fun e => [.int .i64 e]) hS4 how' (by simp; omega) (fun _ => rfl) (fun _ _ _ => rfl)
  clear hS4
  obtain ⟨_, _, _, hwf, _, helw⟩ := hwant.form
  rw [List.length_map] at hwf
  cases hwf
  (repeat (first | (refine iDr ?_; intro _ _) | refine V_run ?_ | refine PV_run ?_ | refine HV_run ?_ | refine iV_ld1 ?_ | refine iV_ldN ?_ | (refine iV_bx ?_; intro _ _ _ _) | (refine iV_al ?_; intro _ _ _ _) | (refine iV_mm ?_; intro _ _ _ _) | (refine iU_st ?_; intro _ _) | refine iHV_1 ?_ | refine iHV_N ?_ | refine iRI_1 ?_ | refine iRI_N ?_ | refine Cond_t ?_ | refine Cond_f ?_ | refine JB ?_ | (refine JC ?_; intro _ _ _ _) | (refine J1 ?_; intro _ _) | (refine J0 ?_; intro _ _) | (refine J2 ?_; intro _ _) | (refine J3 ?_; intro _ _) | (refine J4 ?_; intro _ _) | refine K1 ?_ | refine K0 ?_ | refine K2 ?_ | refine K3 ?_ | refine K4 ?_ | (refine CV_pu ?_; intro _ _ _ _) | refine fV_ldN ?_ | refine fV_ld1 ?_ | refine fHV_ldN ?_ | refine fHV_ld1 ?_ | refine NilW_some ?_ | refine iCW_1 ?_ | refine iCW_N ?_ | refine Pk_b ?_))
  have hp3 : checkB (pre ++ [callA f p]) = true := hck4
  refine LoopG1 (fun (k : Nat) y w' => y = .int .i64 k ∧ k ≤ p.length ∧ ∃ z' u l1, (∀ x ∈ l1, offT f x) ∧ checkB (pre ++ [callA f (l1 ++ p.drop k)]) = true ∧ SlR El.frame z' u (pre ++ [callA f (l1 ++ p.drop k)]) ∧ Le z5 z' ∧
    Res w z [] w' z' [(tb, .cells (f.traps.flatMap TrM.cells ++ ts).toArray 73 (0, 0)), (b5, .cells [u].toArray 28 (0, 0))]) (fun k => p.length - k) 0 ⟨rfl, by omega, z5, .slice a4 (pre ++ [callA f p]).length cap4, [], fun _ h => (by cases h), by simpa using hck4, by rw [List.nil_append, List.drop_zero]; exact hu4.mono (by (repeat (first | assumption | exact Le.refl _ | refine Le.trans ?_ (by assumption : Le _ _)))), Le.refl _, by assumption⟩ ?_
  clear hS5 hck4 hu4 how how'
  rintro I2 M2 k y w6 m2 ⟨rfl, hk, z6, u6, l1, hoff1, hck6, hu6, hz6, hS6⟩ back
  obtain ⟨_, a6, cap6, hu6e, _, _⟩ := hu6.form
  rw [List.length_append, List.length_singleton] at hu6e
  subst hu6e
  (repeat (first | (refine iDr ?_; intro _ _) | refine V_run ?_ | refine PV_run ?_ | refine HV_run ?_ | refine iV_ld1 ?_ | refine iV_ldN ?_ | (refine iV_bx ?_; intro _ _ _ _) | (refine iV_al ?_; intro _ _ _ _) | (refine iV_mm ?_; intro _ _ _ _) | (refine iU_st ?_; intro _ _) | refine iHV_1 ?_ | refine iHV_N ?_ | refine iRI_1 ?_ | refine iRI_N ?_ | refine Cond_t ?_ | refine Cond_f ?_ | refine JB ?_ | (refine JC ?_; intro _ _ _ _) | (refine J1 ?_; intro _ _) | (refine J0 ?_; intro _ _) | (refine J2 ?_; intro _ _) | (refine J3 ?_; intro _ _) | (refine J4 ?_; intro _ _) | refine K1 ?_ | refine K0 ?_ | refine K2 ?_ | refine K3 ?_ | refine K4 ?_ | (refine CV_pu ?_; intro _ _ _ _) | refine fV_ldN ?_ | refine fV_ld1 ?_ | refine fHV_ldN ?_ | refine fHV_ld1 ?_ | refine NilW_some ?_ | refine iCW_1 ?_ | refine iCW_N ?_ | refine Pk_b ?_))
  refine Cond_d (fun hlt => ?_) (fun hlt => ?_)
  · have hlt' : k < p.length := by omega
    have hgk : (p.map RaM.cond)[k]? = some p[k].cond := by rw [List.getElem?_map, List.getElem?_eq_getElem hlt']; rfl
    obtain ⟨b, off, cs, hab, rfl, hat⟩ := helw k _ hgk
    cases hab
    haveI : InR (k : Int) p.length := ⟨by omega, by omega⟩
    haveI : InI ((k : Int) + 1) := ⟨by omega⟩
    have hdk : p.drop k = p[k] :: p.drop (k + 1) := List.drop_eq_getElem_cons hlt'
    rw [hdk] at hck6 hu6
    generalize p[k] = r at *
    obtain ⟨c0, c1, him, hds, hpd⟩ := pend_facts (checkB_parts.1 hck6).2.1 (f := callA f (l1 ++ r :: p.drop (k + 1))) rfl
    haveI : InR r.cond f.traps.length := ⟨c0, by omega⟩
    obtain ⟨g0, g1, g2⟩ := tget (f := f) h6 c0 c1 ts
    haveI := g0
    haveI := g1
    haveI := g2
    (repeat (first | (refine iDr ?_; intro _ _) | refine V_run ?_ | refine PV_run ?_ | refine HV_run ?_ | refine iV_ld1 ?_ | refine iV_ldN ?_ | (refine iV_bx ?_; intro _ _ _ _) | (refine iV_al ?_; intro _ _ _ _) | (refine iV_mm ?_; intro _ _ _ _) | (refine iU_st ?_; intro _ _) | refine iHV_1 ?_ | refine iHV_N ?_ | refine iRI_1 ?_ | refine iRI_N ?_ | refine Cond_t ?_ | refine Cond_f ?_ | refine JB ?_ | (refine JC ?_; intro _ _ _ _) | (refine J1 ?_; intro _ _) | (refine J0 ?_; intro _ _) | (refine J2 ?_; intro _ _) | (refine J3 ?_; intro _ _) | (refine J4 ?_; intro _ _) | refine K1 ?_ | refine K0 ?_ | refine K2 ?_ | refine K3 ?_ | refine K4 ?_ | (refine CV_pu ?_; intro _ _ _ _) | refine fV_ldN ?_ | refine fV_ld1 ?_ | refine fHV_ldN ?_ | refine fHV_ld1 ?_ | refine NilW_some ?_ | refine iCW_1 ?_ | refine iCW_N ?_ | refine Pk_b ?_))
    refine zV_ld1 (hat.mono (by (repeat (first | assumption | exact Le.refl _ | refine Le.trans ?_ (by assumption : Le _ _))))) ?_
    (repeat (first | (refine iDr ?_; intro _ _) | refine V_run ?_ | refine PV_run ?_ | refine HV_run ?_ | refine iV_ld1 ?_ | refine iV_ldN ?_ | (refine iV_bx ?_; intro _ _ _ _) | (refine iV_al ?_; intro _ _ _ _) | (refine iV_mm ?_; intro _ _ _ _) | (refine iU_st ?_; intro _ _) | refine iHV_1 ?_ | refine iHV_N ?_ | refine iRI_1 ?_ | refine iRI_N ?_ | refine Cond_t ?_ | refine Cond_f ?_ | refine JB ?_ | (refine JC ?_; intro _ _ _ _) | (refine J1 ?_; intro _ _) | (refine J0 ?_; intro _ _) | (refine J2 ?_; intro _ _) | (refine J3 ?_; intro _ _) | (refine J4 ?_; intro _ _) | refine K1 ?_ | refine K0 ?_ | refine K2 ?_ | refine K3 ?_ | refine K4 ?_ | (refine CV_pu ?_; intro _ _ _ _) | refine fV_ldN ?_ | refine fV_ld1 ?_ | refine fHV_ldN ?_ | refine fHV_ld1 ?_ | refine NilW_some ?_ | refine iCW_1 ?_ | refine iCW_N ?_ | refine Pk_b ?_))
    refine Cond_b (fun hq2 => ?_) (fun hq2 => ?_)
    · have hof : offT f r := by
        simp only [cond_eq_ite] at hq2
        by_cases e : (f.tr r.cond).mode = 0
        · exact .inl e
        · simp [e] at hq2; exact .inr hq2
      (repeat (first | (refine iDr ?_; intro _ _) | refine V_run ?_ | refine PV_run ?_ | refine HV_run ?_ | refine iV_ld1 ?_ | refine iV_ldN ?_ | (refine iV_bx ?_; intro _ _ _ _) | (refine iV_al ?_; intro _ _ _ _) | (refine iV_mm ?_; intro _ _ _ _) | (refine iU_st ?_; intro _ _) | refine iHV_1 ?_ | refine iHV_N ?_ | refine iRI_1 ?_ | refine iRI_N ?_ | refine Cond_t ?_ | refine Cond_f ?_ | refine JB ?_ | (refine JC ?_; intro _ _ _ _) | (refine J1 ?_; intro _ _) | (refine J0 ?_; intro _ _) | (refine J2 ?_; intro _ _) | (refine J3 ?_; intro _ _) | (refine J4 ?_; intro _ _) | refine K1 ?_ | refine K0 ?_ | refine K2 ?_ | refine K3 ?_ | refine K4 ?_ | (refine CV_pu ?_; intro _ _ _ _) | refine fV_ldN ?_ | refine fV_ld1 ?_ | refine fHV_ldN ?_ | refine fHV_ld1 ?_ | refine NilW_some ?_ | refine iCW_1 ?_ | refine iCW_N ?_ | refine Pk_b ?_))
      refine back (k + 1) _ _ ⟨rfl, by omega, _, _, l1 ++ [r], ?_, by simpa using hck6, ?_, ?_, ‹_›⟩ (by omega)
      · intro x hx
        rcases List.mem_append.1 hx with hx | hx
        · exact hoff1 x hx
        · simp only [List.mem_singleton] at hx; subst hx; exact hof
      · simpa using hu6.mono (by (repeat (first | assumption | exact Le.refl _ | refine Le.trans ?_ (by assumption : Le _ _))))
      · (repeat (first | assumption | exact Le.refl _ | refine Le.trans ?_ (by assumption : Le _ _)))
    have hno : ¬ offT f r := by
      simp only [cond_eq_ite] at hq2
      rintro (h | h)
      · simp [h] at hq2
      · simp [h] at hq2
    (repeat (first | (refine iDr ?_; intro _ _) | refine V_run ?_ | refine PV_run ?_ | refine HV_run ?_ | refine iV_ld1 ?_ | refine iV_ldN ?_ | (refine iV_bx ?_; intro _ _ _ _) | (refine iV_al ?_; intro _ _ _ _) | (refine iV_mm ?_; intro _ _ _ _) | (refine iU_st ?_; intro _ _) | refine iHV_1 ?_ | refine iHV_N ?_ | refine iRI_1 ?_ | refine iRI_N ?_ | refine Cond_t ?_ | refine Cond_f ?_ | refine JB ?_ | (refine JC ?_; intro _ _ _ _) | (refine J1 ?_; intro _ _) | (refine J0 ?_; intro _ _) | (refine J2 ?_; intro _ _) | (refine J3 ?_; intro _ _) | (refine J4 ?_; intro _ _) | refine K1 ?_ | refine K0 ?_ | refine K2 ?_ | refine K3 ?_ | refine K4 ?_ | (refine CV_pu ?_; intro _ _ _ _) | refine fV_ldN ?_ | refine fV_ld1 ?_ | refine fHV_ldN ?_ | refine fHV_ld1 ?_ | refine NilW_some ?_ | refine iCW_1 ?_ | refine iCW_N ?_ | refine Pk_b ?_))
    refine CV_1 (EndClauseP ⟨_, rfl, hu6.mono (by (repeat (first | assumption | exact Le.refl _ | refine Le.trans ?_ (by assumption : Le _ _))))⟩) ?_
    rintro z7 w7 _ hle7 hS7 ⟨_, rfl, u7, rfl, hu7⟩
    have hok7 := end_ok hck6
    by_cases h1 : (f.tr r.cond).mode = 1
    · have hes := end_sig hck6 rfl hoff1 hno h1
      rw [hes] at hu7 hok7 ⊢
      obtain ⟨_, a7, cap7, rfl, _, hel7⟩ := hu7.form
      dsimp only [AcM.v, sigA] at *
      (repeat (first | (refine iDr ?_; intro _ _) | refine V_run ?_ | refine PV_run ?_ | refine HV_run ?_ | refine iV_ld1 ?_ | refine iV_ldN ?_ | (refine iV_bx ?_; intro _ _ _ _) | (refine iV_al ?_; intro _ _ _ _) | (refine iV_mm ?_; intro _ _ _ _) | (refine iU_st ?_; intro _ _) | refine iHV_1 ?_ | refine iHV_N ?_ | refine iRI_1 ?_ | refine iRI_N ?_ | refine Cond_t ?_ | refine Cond_f ?_ | refine JB ?_ | (refine JC ?_; intro _ _ _ _) | (refine J1 ?_; intro _ _) | (refine J0 ?_; intro _ _) | (refine J2 ?_; intro _ _) | (refine J3 ?_; intro _ _) | (refine J4 ?_; intro _ _) | refine K1 ?_ | refine K0 ?_ | refine K2 ?_ | refine K3 ?_ | refine K4 ?_ | (refine CV_pu ?_; intro _ _ _ _) | refine fV_ldN ?_ | refine fV_ld1 ?_ | refine fHV_ldN ?_ | refine fHV_ld1 ?_ | refine NilW_some ?_ | refine iCW_1 ?_ | refine iCW_N ?_ | refine Pk_b ?_))
      refine Cond_not (by simp) ?_
      (repeat (first | (refine iDr ?_; intro _ _) | refine V_run ?_ | refine PV_run ?_ | refine HV_run ?_ | refine iV_ld1 ?_ | refine iV_ldN ?_ | (refine iV_bx ?_; intro _ _ _ _) | (refine iV_al ?_; intro _ _ _ _) | (refine iV_mm ?_; intro _ _ _ _) | (refine iU_st ?_; intro _ _) | refine iHV_1 ?_ | refine iHV_N ?_ | refine iRI_1 ?_ | refine iRI_N ?_ | refine Cond_t ?_ | refine Cond_f ?_ | refine JB ?_ | (refine JC ?_; intro _ _ _ _) | (refine J1 ?_; intro _ _) | (refine J0 ?_; intro _ _) | (refine J2 ?_; intro _ _) | (refine J3 ?_; intro _ _) | (refine J4 ?_; intro _ _) | refine K1 ?_ | refine K0 ?_ | refine K2 ?_ | refine K3 ?_ | refine K4 ?_ | (refine CV_pu ?_; intro _ _ _ _) | refine fV_ldN ?_ | refine fV_ld1 ?_ | refine fHV_ldN ?_ | refine fHV_ld1 ?_ | refine NilW_some ?_ | refine iCW_1 ?_ | refine iCW_N ?_ | refine Pk_b ?_))
      refine Cond_not (by simp) ?_
      (repeat (first | (refine iDr ?_; intro _ _) | refine V_run ?_ | refine PV_run ?_ | refine HV_run ?_ | refine iV_ld1 ?_ | refine iV_ldN ?_ | (refine iV_bx ?_; intro _ _ _ _) | (refine iV_al ?_; intro _ _ _ _) | (refine iV_mm ?_; intro _ _ _ _) | (refine iU_st ?_; intro _ _) | refine iHV_1 ?_ | refine iHV_N ?_ | refine iRI_1 ?_ | refine iRI_N ?_ | refine Cond_t ?_ | refine Cond_f ?_ | refine JB ?_ | (refine JC ?_; intro _ _ _ _) | (refine J1 ?_; intro _ _) | (refine J0 ?_; intro _ _) | (refine J2 ?_; intro _ _) | (refine J3 ?_; intro _ _) | (refine J4 ?_; intro _ _) | refine K1 ?_ | refine K0 ?_ | refine K2 ?_ | refine K3 ?_ | refine K4 ?_ | (refine CV_pu ?_; intro _ _ _ _) | refine fV_ldN ?_ | refine fV_ld1 ?_ | refine fHV_ldN ?_ | refine fHV_ld1 ?_ | refine NilW_some ?_ | refine iCW_1 ?_ | refine iCW_N ?_ | refine Pk_b ?_))
      haveI := setN_flat h6 c0 c1 ts
      (repeat (first | (refine iDr ?_; intro _ _) | refine V_run ?_ | refine PV_run ?_ | refine HV_run ?_ | refine iV_ld1 ?_ | refine iV_ldN ?_ | (refine iV_bx ?_; intro _ _ _ _) | (refine iV_al ?_; intro _ _ _ _) | (refine iV_mm ?_; intro _ _ _ _) | (refine iU_st ?_; intro _ _) | refine iHV_1 ?_ | refine iHV_N ?_ | refine iRI_1 ?_ | refine iRI_N ?_ | refine Cond_t ?_ | refine Cond_f ?_ | refine JB ?_ | (refine JC ?_; intro _ _ _ _) | (refine J1 ?_; intro _ _) | (refine J0 ?_; intro _ _) | (refine J2 ?_; intro _ _) | (refine J3 ?_; intro _ _) | (refine J4 ?_; intro _ _) | refine K1 ?_ | refine K0 ?_ | refine K2 ?_ | refine K3 ?_ | refine K4 ?_ | (refine CV_pu ?_; intro _ _ _ _) | refine fV_ldN ?_ | refine fV_ld1 ?_ | refine fHV_ldN ?_ | refine fHV_ld1 ?_ | refine NilW_some ?_ | refine iCW_1 ?_ | refine iCW_N ?_ | refine Pk_b ?_))
      haveI : InR (((pre ++ [f]).length : Int) - 1) (pre ++ [sigF (callA f (l1 ++ r :: p.drop (k + 1))) r.cond r.desc]).length := ⟨by omega, by simp only [List.length_append, List.length_singleton] at hidx ⊢; omega⟩
      obtain ⟨b7, o7, _, rfl, ⟨v71, v72, rfl, h71, h72, _⟩, hat7⟩ := hel7 pre.length (sigF (callA f (l1 ++ r :: p.drop (k + 1))) r.cond r.desc) (by simp)
      obtain ⟨_, a71, cap71, rfl, _, _⟩ := id h71.form
      (repeat (first | (refine iDr ?_; intro _ _) | refine V_run ?_ | refine PV_run ?_ | refine HV_run ?_ | refine iV_ld1 ?_ | refine iV_ldN ?_ | (refine iV_bx ?_; intro _ _ _ _) | (refine iV_al ?_; intro _ _ _ _) | (refine iV_mm ?_; intro _ _ _ _) | (refine iU_st ?_; intro _ _) | refine iHV_1 ?_ | refine iHV_N ?_ | refine iRI_1 ?_ | refine iRI_N ?_ | refine Cond_t ?_ | refine Cond_f ?_ | refine JB ?_ | (refine JC ?_; intro _ _ _ _) | (refine J1 ?_; intro _ _) | (refine J0 ?_; intro _ _) | (refine J2 ?_; intro _ _) | (refine J3 ?_; intro _ _) | (refine J4 ?_; intro _ _) | refine K1 ?_ | refine K0 ?_ | refine K2 ?_ | refine K3 ?_ | refine K4 ?_ | (refine CV_pu ?_; intro _ _ _ _) | refine fV_ldN ?_ | refine fV_ld1 ?_ | refine fHV_ldN ?_ | refine fHV_ld1 ?_ | refine NilW_some ?_ | refine iCW_1 ?_ | refine iCW_N ?_ | refine Pk_b ?_))
      refine zV_fld (i := 0) hat7 (by (repeat (first | assumption | exact Le.refl _ | refine Le.trans ?_ (by assumption : Le _ _)))) rfl (by rw [hidx]; rfl) ?_
      have hsl : (f.traps.set r.cond.toNat noTrap).length = f.traps.length := List.length_set
      rw [← hsl]
      refine CV_lendB (b := tb) (cap := tcap) (E := El.trap) (f := TrM.cells) (e := 73) (sp := ts) (xs := f.traps.set r.cond.toNat noTrap) (P := fun r => r = .bool true) (by rw [hsl]; exact htc) htm ?_ (by simp only [big]; omega) (fun _ => rfl) ?_ (fun z1 hle hsl => ?_) ?_
      · show _ = tcap * 3
        rw [List.length_append, flat_len (f := TrM.cells) (n := 3) (fun _ => rfl), hsl, ← hts, List.length_append, flat_len (f := TrM.cells) (n := 3) (fun _ => rfl)]
      · intro z x hx
        rcases List.mem_or_eq_of_mem_set hx with hx | rfl
        · exact ⟨rfl, (hF1.mem hx).choose_spec.2⟩
        · exact ⟨rfl, by simp [noTrap, ByteArray.size]⟩
      · have := fun w => equalTraps (w := w) (h71.mono (z' := z1) (Le.trans (by (repeat (first | assumption | exact Le.refl _ | refine Le.trans ?_ (by assumption : Le _ _)))) hle)) hsl
        have he : listEq TrM.eqb (sigF (callA f (l1 ++ r :: p.drop (k + 1))) r.cond r.desc).traps (f.traps.set r.cond.toNat noTrap) = true := (listEq_iff fun x y => TrM.eqb_iff).2 rfl
        rw [he] at this
        exact this _
      rintro z8 w8 _ hle8 hS8 rfl
      (repeat (first | (refine iDr ?_; intro _ _) | refine V_run ?_ | refine PV_run ?_ | refine HV_run ?_ | refine iV_ld1 ?_ | refine iV_ldN ?_ | (refine iV_bx ?_; intro _ _ _ _) | (refine iV_al ?_; intro _ _ _ _) | (refine iV_mm ?_; intro _ _ _ _) | (refine iU_st ?_; intro _ _) | refine iHV_1 ?_ | refine iHV_N ?_ | refine iRI_1 ?_ | refine iRI_N ?_ | refine Cond_t ?_ | refine Cond_f ?_ | refine JB ?_ | (refine JC ?_; intro _ _ _ _) | (refine J1 ?_; intro _ _) | (refine J0 ?_; intro _ _) | (refine J2 ?_; intro _ _) | (refine J3 ?_; intro _ _) | (refine J4 ?_; intro _ _) | refine K1 ?_ | refine K0 ?_ | refine K2 ?_ | refine K3 ?_ | refine K4 ?_ | (refine CV_pu ?_; intro _ _ _ _) | refine fV_ldN ?_ | refine fV_ld1 ?_ | refine fHV_ldN ?_ | refine fHV_ld1 ?_ | refine NilW_some ?_ | refine iCW_1 ?_ | refine iCW_N ?_ | refine Pk_b ?_))
      exact ⟨_, _, ‹_›, rfl⟩
    · have hec := end_call hck6 hp29 rfl hoff1 hno h1
      rw [hec] at hu7 hok7 ⊢
      obtain ⟨_, a7, cap7, rfl, _, hel7⟩ := hu7.form
      dsimp only [AcM.v] at *
      (repeat (first | (refine iDr ?_; intro _ _) | refine V_run ?_ | refine PV_run ?_ | refine HV_run ?_ | refine iV_ld1 ?_ | refine iV_ldN ?_ | (refine iV_bx ?_; intro _ _ _ _) | (refine iV_al ?_; intro _ _ _ _) | (refine iV_mm ?_; intro _ _ _ _) | (refine iU_st ?_; intro _ _) | refine iHV_1 ?_ | refine iHV_N ?_ | refine iRI_1 ?_ | refine iRI_N ?_ | refine Cond_t ?_ | refine Cond_f ?_ | refine JB ?_ | (refine JC ?_; intro _ _ _ _) | (refine J1 ?_; intro _ _) | (refine J0 ?_; intro _ _) | (refine J2 ?_; intro _ _) | (refine J3 ?_; intro _ _) | (refine J4 ?_; intro _ _) | refine K1 ?_ | refine K0 ?_ | refine K2 ?_ | refine K3 ?_ | refine K4 ?_ | (refine CV_pu ?_; intro _ _ _ _) | refine fV_ldN ?_ | refine fV_ld1 ?_ | refine fHV_ldN ?_ | refine fHV_ld1 ?_ | refine NilW_some ?_ | refine iCW_1 ?_ | refine iCW_N ?_ | refine Pk_b ?_))
      refine Cond_not (by simp) ?_
      (repeat (first | (refine iDr ?_; intro _ _) | refine V_run ?_ | refine PV_run ?_ | refine HV_run ?_ | refine iV_ld1 ?_ | refine iV_ldN ?_ | (refine iV_bx ?_; intro _ _ _ _) | (refine iV_al ?_; intro _ _ _ _) | (refine iV_mm ?_; intro _ _ _ _) | (refine iU_st ?_; intro _ _) | refine iHV_1 ?_ | refine iHV_N ?_ | refine iRI_1 ?_ | refine iRI_N ?_ | refine Cond_t ?_ | refine Cond_f ?_ | refine JB ?_ | (refine JC ?_; intro _ _ _ _) | (refine J1 ?_; intro _ _) | (refine J0 ?_; intro _ _) | (refine J2 ?_; intro _ _) | (refine J3 ?_; intro _ _) | (refine J4 ?_; intro _ _) | refine K1 ?_ | refine K0 ?_ | refine K2 ?_ | refine K3 ?_ | refine K4 ?_ | (refine CV_pu ?_; intro _ _ _ _) | refine fV_ldN ?_ | refine fV_ld1 ?_ | refine fHV_ldN ?_ | refine fHV_ld1 ?_ | refine NilW_some ?_ | refine iCW_1 ?_ | refine iCW_N ?_ | refine Pk_b ?_))
      refine Cond_not (by simp) ?_
      (repeat (first | (refine iDr ?_; intro _ _) | refine V_run ?_ | refine PV_run ?_ | refine HV_run ?_ | refine iV_ld1 ?_ | refine iV_ldN ?_ | (refine iV_bx ?_; intro _ _ _ _) | (refine iV_al ?_; intro _ _ _ _) | (refine iV_mm ?_; intro _ _ _ _) | (refine iU_st ?_; intro _ _) | refine iHV_1 ?_ | refine iHV_N ?_ | refine iRI_1 ?_ | refine iRI_N ?_ | refine Cond_t ?_ | refine Cond_f ?_ | refine JB ?_ | (refine JC ?_; intro _ _ _ _) | (refine J1 ?_; intro _ _) | (refine J0 ?_; intro _ _) | (refine J2 ?_; intro _ _) | (refine J3 ?_; intro _ _) | (refine J4 ?_; intro _ _) | refine K1 ?_ | refine K0 ?_ | refine K2 ?_ | refine K3 ?_ | refine K4 ?_ | (refine CV_pu ?_; intro _ _ _ _) | refine fV_ldN ?_ | refine fV_ld1 ?_ | refine fHV_ldN ?_ | refine fHV_ld1 ?_ | refine NilW_some ?_ | refine iCW_1 ?_ | refine iCW_N ?_ | refine Pk_b ?_))
      obtain ⟨hbk, hck8⟩ := back_ok (hok7 rfl)
      refine CV_1 (ReturnP ⟨_, rfl, hu7.mono (by (repeat (first | assumption | exact Le.refl _ | refine Le.trans ?_ (by assumption : Le _ _))))⟩) ?_
      rintro z8 w8 _ hle8 hS8 ⟨_, rfl, u8, rfl, hu8⟩
      rw [hbk] at hu8 ⊢
      obtain ⟨_, a8, cap8, rfl, _, _⟩ := hu8.form
      (repeat (first | (refine iDr ?_; intro _ _) | refine V_run ?_ | refine PV_run ?_ | refine HV_run ?_ | refine iV_ld1 ?_ | refine iV_ldN ?_ | (refine iV_bx ?_; intro _ _ _ _) | (refine iV_al ?_; intro _ _ _ _) | (refine iV_mm ?_; intro _ _ _ _) | (refine iU_st ?_; intro _ _) | refine iHV_1 ?_ | refine iHV_N ?_ | refine iRI_1 ?_ | refine iRI_N ?_ | refine Cond_t ?_ | refine Cond_f ?_ | refine JB ?_ | (refine JC ?_; intro _ _ _ _) | (refine J1 ?_; intro _ _) | (refine J0 ?_; intro _ _) | (refine J2 ?_; intro _ _) | (refine J3 ?_; intro _ _) | (refine J4 ?_; intro _ _) | refine K1 ?_ | refine K0 ?_ | refine K2 ?_ | refine K3 ?_ | refine K4 ?_ | (refine CV_pu ?_; intro _ _ _ _) | refine fV_ldN ?_ | refine fV_ld1 ?_ | refine fHV_ldN ?_ | refine fHV_ld1 ?_ | refine NilW_some ?_ | refine iCW_1 ?_ | refine iCW_N ?_ | refine Pk_b ?_))
      refine back (k + 1) _ _ ⟨rfl, by omega, _, _, [], fun _ h => (by cases h), hck8, ?_, ?_, Res.tl (Res.tl (by assumption))⟩ (by omega)
      · exact hu8.mono (by (repeat (first | assumption | exact Le.refl _ | refine Le.trans ?_ (by assumption : Le _ _))))
      · (repeat (first | assumption | exact Le.refl _ | refine Le.trans ?_ (by assumption : Le _ _)))
  have hkp : p.drop k = [] := List.drop_of_length_le (by omega)
  rw [hkp, List.append_nil] at hck6 hu6
  have hen := end_none hck6 hoff1
  (repeat (first | (refine iDr ?_; intro _ _) | refine V_run ?_ | refine PV_run ?_ | refine HV_run ?_ | refine iV_ld1 ?_ | refine iV_ldN ?_ | (refine iV_bx ?_; intro _ _ _ _) | (refine iV_al ?_; intro _ _ _ _) | (refine iV_mm ?_; intro _ _ _ _) | (refine iU_st ?_; intro _ _) | refine iHV_1 ?_ | refine iHV_N ?_ | refine iRI_1 ?_ | refine iRI_N ?_ | refine Cond_t ?_ | refine Cond_f ?_ | refine JB ?_ | (refine JC ?_; intro _ _ _ _) | (refine J1 ?_; intro _ _) | (refine J0 ?_; intro _ _) | (refine J2 ?_; intro _ _) | (refine J3 ?_; intro _ _) | (refine J4 ?_; intro _ _) | refine K1 ?_ | refine K0 ?_ | refine K2 ?_ | refine K3 ?_ | refine K4 ?_ | (refine CV_pu ?_; intro _ _ _ _) | refine fV_ldN ?_ | refine fV_ld1 ?_ | refine fHV_ldN ?_ | refine fHV_ld1 ?_ | refine NilW_some ?_ | refine iCW_1 ?_ | refine iCW_N ?_ | refine Pk_b ?_))
  refine CV_1 (EndClauseP ⟨_, rfl, hu6.mono (by (repeat (first | assumption | exact Le.refl _ | refine Le.trans ?_ (by assumption : Le _ _))))⟩) ?_
  rintro z7 w7 _ hle7 hS7 ⟨_, rfl, u7, rfl, hu7⟩
  rw [hen] at hu7 ⊢
  obtain ⟨_, a7, cap7, rfl, _, hel7⟩ := hu7.form
  dsimp only [AcM.v, noAct] at *
  (repeat (first | (refine iDr ?_; intro _ _) | refine V_run ?_ | refine PV_run ?_ | refine HV_run ?_ | refine iV_ld1 ?_ | refine iV_ldN ?_ | (refine iV_bx ?_; intro _ _ _ _) | (refine iV_al ?_; intro _ _ _ _) | (refine iV_mm ?_; intro _ _ _ _) | (refine iU_st ?_; intro _ _) | refine iHV_1 ?_ | refine iHV_N ?_ | refine iRI_1 ?_ | refine iRI_N ?_ | refine Cond_t ?_ | refine Cond_f ?_ | refine JB ?_ | (refine JC ?_; intro _ _ _ _) | (refine J1 ?_; intro _ _) | (refine J0 ?_; intro _ _) | (refine J2 ?_; intro _ _) | (refine J3 ?_; intro _ _) | (refine J4 ?_; intro _ _) | refine K1 ?_ | refine K0 ?_ | refine K2 ?_ | refine K3 ?_ | refine K4 ?_ | (refine CV_pu ?_; intro _ _ _ _) | refine fV_ldN ?_ | refine fV_ld1 ?_ | refine fHV_ldN ?_ | refine fHV_ld1 ?_ | refine NilW_some ?_ | refine iCW_1 ?_ | refine iCW_N ?_ | refine Pk_b ?_))
  exact ⟨_, _, ‹_›, rfl⟩)
end Go.Proofs.Ytjnckainogpenaa
end

section
/- Readings: slices of bytes. -/
set_option linter.unusedVariables false
set_option maxRecDepth 20000
namespace Go.Proofs.Ytjnckainogpenaa
open Go Q Go.RowKit Go.ChangeShapes Go.WideShapes
theorem stays67 : Stays Try.prog 67 := ⟨by kernel_rfl, of_decide_eq_true (by kernel_rfl)⟩
theorem u67 : Try.prog.underlying 67 = some (.slice 5) := by kernel_rfl
section
variable {H : Type} {enc : TypeId × Value → H} {w : World} {base : Nat} {spare : Nat → Bool} {held : Bool}
theorem u8s_read {n : Nat} {v : Value} {x : DataW H × List MemPlace} (h : DataW.trod enc Try.prog w base spare held n 67 [v] = some x) : ∃ l : List Int, SlR El.u8c (hp w) v l := by
  have hc1 : Try.prog.cellsOf 5 = 1 := by kernel_rfl
  rcases Go.Deep.open_slice u67 h with ⟨h0, _⟩ | ⟨a, len, cap, m, n', D, Pl, h0, hb, hlc, hcm, hm, _, hel⟩
  · simp at h0; subst h0; exact ⟨[], SlR.nil⟩
  · simp at h0; subst h0
    rw [hc1] at hel
    have hlm : len ≤ m := by rw [hm]; split <;> omega
    have key : ∀ i, i < len → ∃ o : Int, (0 ≤ o ∧ o ≤ 255) ∧ (i = 0 → a.spot = none) ∧ At (hp w) a.block (a.off + i * 1) [.int .u8 o] := fun i hi => by
      obtain ⟨cs, h1, h2⟩ := hel i (by omega)
      obtain ⟨o, rfl, _, ho⟩ := DataW.trod_int u5 h2
      have ho' : 0 ≤ o ∧ o ≤ 255 := by simpa [Lit.wf, IntKind.min, IntKind.max, IntKind.signed, IntKind.bits] using ho
      obtain ⟨g1, g2, g3⟩ := at_of_cells h1 (by decide)
      obtain ⟨ab, ao, asp⟩ := a
      unfold Addr.add at g1 g3
      by_cases hz : i * 1 = 0
      · simp only [hz, if_true] at g1 g3
        exact ⟨o, ho', fun _ => g1, by rw [hz]; exact g3⟩
      · simp only [hz, if_false] at g1 g3
        exact ⟨o, ho', fun h0 => absurd (by rw [h0]) hz, g3⟩
    classical
    let f : Nat → Int := fun i => if hi : i < len then Classical.choose (key i hi) else 0
    have hf : ∀ i, i < len → (0 ≤ f i ∧ f i ≤ 255) ∧ (i = 0 → a.spot = none) ∧ At (hp w) a.block (a.off + i * 1) [.int .u8 (f i)] := fun i hi => by
      simp only [f, dif_pos hi]; exact Classical.choose_spec (key i hi)
    refine ⟨(List.range len).map f, some a, cap, by simp, by simpa using hlc, by simp only [List.length_map, List.length_range, big]; simp only [maxLen] at hcm; omega, fun hn => ?_⟩
    have hpos : 0 < len := by
      rcases Nat.eq_zero_or_pos len with h0 | h0
      · subst h0; simp at hn
      · exact h0
    obtain ⟨ab, ao, asp⟩ := a
    have hsp := (hf 0 hpos).2.1 rfl
    simp only at hsp
    subst hsp
    refine ⟨ab, ao, rfl, fun i x hx => ?_⟩
    rw [List.getElem?_map] at hx
    obtain ⟨k, h1, rfl⟩ := Option.map_eq_some_iff.1 hx
    have hk := List.getElem?_eq_some_iff.1 h1
    obtain ⟨hlt, rfl⟩ := hk
    simp only [List.getElem_range, List.length_range] at hlt ⊢
    exact ⟨_, ⟨rfl, (hf i hlt).1⟩, (hf i hlt).2.2⟩
end
end Go.Proofs.Ytjnckainogpenaa
end
